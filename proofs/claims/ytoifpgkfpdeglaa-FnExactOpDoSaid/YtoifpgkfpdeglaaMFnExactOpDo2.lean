/- Lemmas and contracts for the law FnExactOpDo, part 2: of the program's functions, and over data alone. No condition. -/
import Derived.Test.YtoifpgkfpdeglaaMFnExactOpDo1
import Derived.Test.YtoifpgkfpdeglaaProg
import Derived.Below
import Derived.Deep.Draws
import Derived.Deep.AppendLies
import Derived.Maps.AppendAt
import Derived.OwnWalk
import Derived.Laws.BytesArg
import Derived.Laws.MakeOwn
import Derived.Laws.OwnMore
import Derived.Deep.OwnRows
import Derived.Tactics
import Derived.Lib.ConvBytes
import Derived.Laws.Slices
import Derived.WalkKit
import Derived.KernelRfl
import Derived.RowKit3
import Derived.Deep.LoopGhost
import Derived.Deep.QuietTactic
import Derived.BigQuiet
import Derived.WideLaws
import Derived.Deep.DeepCutAuto
import Derived.Deep.CutBlock
import Derived.Deep.RegionHeld3
import Derived.Laws.Rows
import Derived.Lib.AppendStr
import Derived.ArgAppend
import Derived.Laws.IdiomCopy
import Derived.OrdersHeld
import Derived.Laws.BitsLemmas
import Derived.RowKit
namespace Go.Proofs.YtoifpgkfpdeglaaW.PrintLast
open Go.RowKit Go.Proofs.YtoifpgkfpdeglaaW.PrintWords
variable {P : Program} {ops : Array Oper} {Q : Exit → Act → World → Prop} {S : World → Prop} {ds : List Nat}
/-- An operation that yields in every world. -/
theorem pz_ {T : Bool × List (List Nat × List Nat)} {oi : Oper} {v : Value} {fuel : Nat} {l : Array Bool} {a : Act} {w : World} (i d : Nat) (l' : Array Bool) (hT : Aside0 (rtab .any ops = T)) (hc : anyT T l.toList l'.toList i = true) {a' : Act}
    (h : wpAnyLast P .any ops Q S ds fuel l' a' w)
    (hi : ops[i]? = some oi := by rfl) (hN : oi.dst = some d := by rfl) (hw : Region.wanted oi (yielded ops a.tmps) = true := by rfl)
    (hy : ∀ w', (execOp a.eval oi).run P w' = .ok (.value v) w' := by (intro w'; go_simp; with_reducible rfl))
    (ha : a.put (some d) v = a' := by (simp only [Act.put, List.setIfInBounds_toArray, List.set_cons_zero, List.set_cons_succ, i64_w, i32_w]; rfl))
    (hQ : ∀ c a w, Q (.panic c) (a.put oi.dst v) w → Q (.panic c) a w := by exact fun _ _ _ h => h) :
    wpAnyLast P .any ops Q S ds (fuel + 1) l a w :=
  pure_ l' hi hN (any_of hT.out hc) hQ (Or.inl ⟨hw, hy⟩) ha h
/-- An operation that reads what S says. -/
theorem tz_ {T : Bool × List (List Nat × List Nat)} {B : List Nat} {oi : Oper} {v : Value} {fuel : Nat} {l : Array Bool} {a : Act} {w : World} (i d : Nat) (l' : Array Bool) (hT : Aside0 (rtab .any ops = T)) (hB : Aside0 (waitsOk T.2 B = true)) (hc : takeW T B ds l.toList l'.toList i = true) (hS : S w) {a' : Act}
    (h : wpAnyLast P .any ops Q S ds fuel l' a' w)
    (hi : ops[i]? = some oi := by rfl) (hN : oi.dst = some d := by rfl) (hw : Region.wanted oi (yielded ops a.tmps) = true := by rfl)
    (hy : ∀ w', S w' → (execOp a.eval oi).run P w' = .ok (.value v) w' := by (intro w' hs; go_simp; with_reducible rfl))
    (ha : a.put (some d) v = a' := by (simp only [Act.put, List.setIfInBounds_toArray, List.set_cons_zero, List.set_cons_succ, i64_w, i32_w]; rfl))
    (hQ : ∀ c a w, Q (.panic c) (a.put oi.dst v) w → Q (.panic c) a w := by exact fun _ _ _ h => h) :
    wpAnyLast P .any ops Q S ds (fuel + 1) l a w :=
  take_ l' hi hN (take_ofW hT.out hB.out hc) hQ (Or.inl ⟨hw, hy⟩) hS ha h
/-! ### What is kept in a world that was made of another one by making blocks and by drawing -/
class UpW (w w' : World) : Prop where
  step : ∀ K : World → Prop, (∀ v O, K v → K (v.alloc O)) → (∀ v, K v → K v.drew) → (∀ v n, K v → K (v.drewN n)) → K w → K w'
instance upw_refl (w : World) : UpW w w := ⟨fun _ _ _ _ h => h⟩
instance upw_alloc (w w' : World) (O : Obj) [h : UpW w w'] : UpW w (w'.alloc O) := ⟨fun K a b c k => a _ _ (h.step K a b c k)⟩
instance upw_drew (w w' : World) [h : UpW w w'] : UpW w w'.drew := ⟨fun K a b c k => b _ (h.step K a b c k)⟩
instance upw_drewN (w w' : World) (n : Nat) [h : UpW w w'] : UpW w (w'.drewN n) := ⟨fun K a b c k => c _ _ (h.step K a b c k)⟩
theorem upB {w w' : World} {g : Nat} {o : Obj} (h : w.heap[g]? = some o) [u : UpW w w'] : w'.heap[g]? = some o := u.step (fun v => v.heap[g]? = some o) (fun _ O k => blk_alloc k O) (fun _ k => blk_drew k) (fun _ n k => blk_drewN k n) h
theorem upR {α : Type} {d : Kd α} {e base : Nat} {ok : Nat → Prop} {w w' : World} {v : Value} {xs : List α} (h : d.R e w base ok v xs) [u : UpW w w'] : d.R e w' base ok v xs := u.step (fun x => d.R e x base ok v xs) (fun _ O k => Kd.R_alloc k O) (fun _ k => Kd.R_drew k) (fun _ n k => Kd.R_drewN k n) h
end Go.Proofs.YtoifpgkfpdeglaaW.PrintLast

namespace Go.Proofs.Ytoifpgkfpdeglaa.X
open Go.RowKit Go.Proofs.YtoifpgkfpdeglaaW.PrintWords Go.Proofs.YtoifpgkfpdeglaaW.PrintLast Go.Proofs.YtoifpgkfpdeglaaW.PrintMore
attribute [local go_sem] max2_int min2_int max_two min_two max_three min_three max_four min_four
set_option linter.unusedVariables false
set_option linter.unusedSimpArgs false

def errW : Option Int → Value
  | none => .nilIface
  | some c => .iface 0 (.int .i64 c)
theorem errW_none : errW none = .nilIface := rfl
theorem errW_some (c : Int) : errW (some c) = .iface 0 (.int .i64 c) := rfl

theorem info36 : (Try.prog.info? 36).map (fun i => (i.zero, i.size, i.bytes)) = some (some (.agg #[(.int .i64 0), (.int .i64 0), (.int .i64 0), (.int .i64 0)]), 4, 32) := by kernel_rfl
-- the values' own types
/-! #### struct type 36 -/
structure S36 where
  f0 : Int
  f1 : Int
  f2 : Int
  f3 : Int
def z36 : S36 := ⟨(0 : Int), (0 : Int), (0 : Int), (0 : Int)⟩
def k36 : Kd S36 := Kd.iso (Kd.pair (Kd.int .i64) (Kd.pair (Kd.int .i64) (Kd.pair (Kd.int .i64) (Kd.int .i64)))) (fun x : S36 => (x.f0, x.f1, x.f2, x.f3))
theorem k36_open {w : World} {x : S36} {cs : List Value} (h : k36.K w x cs) : cs = [.int .i64 x.f0, .int .i64 x.f1, .int .i64 x.f2, .int .i64 x.f3] := by
  obtain ⟨_, _, rfl, rfl, ⟨_, _, rfl, rfl, ⟨_, _, rfl, rfl, rfl⟩⟩⟩ := h
  exact rfl
theorem k36_openM {w : World} {base : Nat} {ok : Nat → Prop} {x : S36} {cs : List Value} (h : k36.M w base ok x cs) : cs = [.int .i64 x.f0, .int .i64 x.f1, .int .i64 x.f2, .int .i64 x.f3] := by
  obtain ⟨_, _, rfl, rfl, ⟨_, _, rfl, rfl, ⟨_, _, rfl, rfl, rfl⟩⟩⟩ := h
  exact rfl
theorem k36_mkM (w : World) (base : Nat) (ok : Nat → Prop) (x : S36)  : k36.M w base ok x [.int .i64 x.f0, .int .i64 x.f1, .int .i64 x.f2, .int .i64 x.f3] := ⟨[.int .i64 x.f0], [.int .i64 x.f1, .int .i64 x.f2, .int .i64 x.f3], rfl, rfl, ⟨[.int .i64 x.f1], [.int .i64 x.f2, .int .i64 x.f3], rfl, rfl, ⟨[.int .i64 x.f2], [.int .i64 x.f3], rfl, rfl, rfl⟩⟩⟩
def rd_T36 (xs : List S36) (i : Int) : S36 := xs.getD i.toNat z36
theorem at_T36 {w : World} {A : Option Addr} {n : Nat} {xs : List S36} (h : Kd.C k36 w A n xs) (i : Int) (h0 : 0 ≤ i) (h1 : i < n) : ∃ ad , A = some ad ∧ w.cell? (ad.add (i.toNat * 4)) = some (.int .i64 (rd_T36 xs i).f0) ∧ w.cell? ⟨(ad.add (i.toNat * 4)).block, (ad.add (i.toNat * 4)).off + 1, none⟩ = some (.int .i64 (rd_T36 xs i).f1) ∧ w.cell? ⟨(ad.add (i.toNat * 4)).block, (ad.add (i.toNat * 4)).off + 2, none⟩ = some (.int .i64 (rd_T36 xs i).f2) ∧ w.cell? ⟨(ad.add (i.toNat * 4)).block, (ad.add (i.toNat * 4)).off + 3, none⟩ = some (.int .i64 (rd_T36 xs i).f3) := by
  obtain ⟨ad, c, e, _, hK, hc0⟩ := Kd.C_get h z36 i h0 h1
  have hc : ∀ j u, c[j]? = some u → w.cell? (ad.add (i.toNat * 4 + j)) = some u := hc0
  obtain rfl := k36_open hK
  exact ⟨ad, e, hc 0 _ rfl, by rw [← add_field _ _ 1 (by omega)]; exact hc 1 _ rfl, by rw [← add_field _ _ 2 (by omega)]; exact hc 2 _ rfl, by rw [← add_field _ _ 3 (by omega)]; exact hc 3 _ rfl⟩

/-! #### struct type 27 -/
structure S27 where
  f0 : Int
  f1 : Int
  f2 : Int
  f3 : Int
  f4 : Int
def z27 : S27 := ⟨(0 : Int), (0 : Int), (0 : Int), (0 : Int), (0 : Int)⟩
def rd_T27 (xs : List S27) (i : Int) : S27 := xs.getD i.toNat z27

/-! #### struct type 94 -/
structure S94 where
  f0 : Int
  f1 : Int
  f2 : Int
  f3 : Int
def z94 : S94 := ⟨(0 : Int), (0 : Int), (0 : Int), (0 : Int)⟩
def k94 : Kd S94 := Kd.iso (Kd.pair (Kd.int .i64) (Kd.pair (Kd.int .i64) (Kd.pair (Kd.int .i64) (Kd.int .i64)))) (fun x : S94 => (x.f0, x.f1, x.f2, x.f3))
theorem k94_open {w : World} {x : S94} {cs : List Value} (h : k94.K w x cs) : cs = [.int .i64 x.f0, .int .i64 x.f1, .int .i64 x.f2, .int .i64 x.f3] := by
  obtain ⟨_, _, rfl, rfl, ⟨_, _, rfl, rfl, ⟨_, _, rfl, rfl, rfl⟩⟩⟩ := h
  exact rfl
def rd_T94 (xs : List S94) (i : Int) : S94 := xs.getD i.toNat z94
theorem at_T94 {w : World} {A : Option Addr} {n : Nat} {xs : List S94} (h : Kd.C k94 w A n xs) (i : Int) (h0 : 0 ≤ i) (h1 : i < n) : ∃ ad , A = some ad ∧ w.cell? (ad.add (i.toNat * 4)) = some (.int .i64 (rd_T94 xs i).f0) ∧ w.cell? ⟨(ad.add (i.toNat * 4)).block, (ad.add (i.toNat * 4)).off + 1, none⟩ = some (.int .i64 (rd_T94 xs i).f1) ∧ w.cell? ⟨(ad.add (i.toNat * 4)).block, (ad.add (i.toNat * 4)).off + 2, none⟩ = some (.int .i64 (rd_T94 xs i).f2) ∧ w.cell? ⟨(ad.add (i.toNat * 4)).block, (ad.add (i.toNat * 4)).off + 3, none⟩ = some (.int .i64 (rd_T94 xs i).f3) := by
  obtain ⟨ad, c, e, _, hK, hc0⟩ := Kd.C_get h z94 i h0 h1
  have hc : ∀ j u, c[j]? = some u → w.cell? (ad.add (i.toNat * 4 + j)) = some u := hc0
  obtain rfl := k94_open hK
  exact ⟨ad, e, hc 0 _ rfl, by rw [← add_field _ _ 1 (by omega)]; exact hc 1 _ rfl, by rw [← add_field _ _ 2 (by omega)]; exact hc 2 _ rfl, by rw [← add_field _ _ 3 (by omega)]; exact hc 3 _ rfl⟩

/-! #### struct type 45 -/
structure S45 where
  f0 : Int
  f1 : Int
  f2 : Int
  f3 : Int
  f4 : Int

end Go.Proofs.Ytoifpgkfpdeglaa.X

namespace Go.Proofs.Ytoifpgkfpdeglaa.X
open Go.RowKit Go.Proofs.YtoifpgkfpdeglaaW.PrintWords Go.Proofs.YtoifpgkfpdeglaaW.PrintLast Go.Proofs.YtoifpgkfpdeglaaW.PrintMore
attribute [local go_sem] max2_int min2_int max_two min_two max_three min_three max_four min_four
set_option linter.unusedVariables false
set_option linter.unusedSimpArgs false

theorem eqA27 (d : Nat) (w : World) (x0 y0 : Int) (x1 y1 : Int) (x2 y2 : Int) (x3 y3 : Int) (x4 y4 : Int) :
    (Op.equalIn (d + 2) 27 (.agg #[.int .i64 x0, .int .i64 x1, .int .i64 x2, .int .i64 x3, .int .i64 x4]) (.agg #[.int .i64 y0, .int .i64 y1, .int .i64 y2, .int .i64 y3, .int .i64 y4])).run Try.prog w = .ok (x0 == y0 && (x1 == y1 && (x2 == y2 && (x3 == y3 && (x4 == y4))))) w := by
  refine eqA_of Try.underlying27 (by kernel_rfl) ?_
  refine eqf_cons (by rfl) (by go_simp; rfl) (by go_simp; rfl) (by go_simp) ?_
  refine eqf_cons (by rfl) (by go_simp; rfl) (by go_simp; rfl) (by go_simp) ?_
  refine eqf_cons (by rfl) (by go_simp; rfl) (by go_simp; rfl) (by go_simp) ?_
  refine eqf_cons (by rfl) (by go_simp; rfl) (by go_simp; rfl) (by go_simp) ?_
  exact eqf_last (by rfl) (by go_simp; rfl) (by go_simp; rfl) (by go_simp)
end Go.Proofs.Ytoifpgkfpdeglaa.X

namespace Go.Proofs.Ytoifpgkfpdeglaa.X
open Go.RowKit Go.Proofs.YtoifpgkfpdeglaaW.PrintWords Go.Proofs.YtoifpgkfpdeglaaW.PrintLast Go.Proofs.YtoifpgkfpdeglaaW.PrintMore
attribute [local go_sem] max2_int min2_int max_two min_two max_three min_three max_four min_four
set_option linter.unusedVariables false
set_option linter.unusedSimpArgs false

/-! ### impl_partOk: function 60 -/
def impl_partOk.f (a0 : Int) : Option (Bool) := if a0 ≥ 0 then (some (decide (a0 ≤ 255))) else (some false)
set_option maxHeartbeats 8000000 in
set_option maxRecDepth 100000 in
theorem impl_partOk.calls (a0 : Int) (r : Bool) (w : World) (h : impl_partOk.f a0 = some r) :
    Calls Try.prog 60 #[.int .i64 a0] w fun e w' => e = .returned (.bool r) ∧ Drawn0 w w' := by
  have H : (if a0 ≥ 0 then (some (decide (a0 ≤ 255))) else (some false)) = some r := h
  clear h
  by_cases c2 : a0 ≥ 0
  · rw [if_pos c2] at H
    have c2b0 : decide (0 ≤ a0) = true := decide_eq_true c2
    clear c2
    obtain rfl := Option.some.inj H
    go_enter Try.func60, Try.ntmps60
    go_wp2
    go_ret
    exact ⟨by first | rfl | (simp; done) | (simp [*]; done), by repeat (first | exact Drawn0.refl _ | apply Drawn0.step)⟩
  · rw [if_neg c2] at H
    have c2b0 : decide (0 ≤ a0) = false := decide_eq_false c2
    clear c2
    obtain rfl := Option.some.inj H
    go_enter Try.func60, Try.ntmps60
    go_wp2
    go_ret
    exact ⟨by first | rfl | (simp; done) | (simp [*]; done), by repeat (first | exact Drawn0.refl _ | apply Drawn0.step)⟩

end Go.Proofs.Ytoifpgkfpdeglaa.X

namespace Go.Proofs.Ytoifpgkfpdeglaa.X
open Go.RowKit Go.Proofs.YtoifpgkfpdeglaaW.PrintWords Go.Proofs.YtoifpgkfpdeglaaW.PrintLast Go.Proofs.YtoifpgkfpdeglaaW.PrintMore
attribute [local go_sem] max2_int min2_int max_two min_two max_three min_three max_four min_four
set_option linter.unusedVariables false
set_option linter.unusedSimpArgs false

/-! ### impl_sizeOk: function 42 -/
def impl_sizeOk.f (a0 : Int) : Option (Bool) := if a0 ≥ 1 then (some (decide (a0 ≤ 6))) else (some false)
set_option maxHeartbeats 8000000 in
set_option maxRecDepth 100000 in
theorem impl_sizeOk.calls (a0 : Int) (r : Bool) (w : World) (h : impl_sizeOk.f a0 = some r) :
    Calls Try.prog 42 #[.int .i64 a0] w fun e w' => e = .returned (.bool r) ∧ Drawn0 w w' := by
  have H : (if a0 ≥ 1 then (some (decide (a0 ≤ 6))) else (some false)) = some r := h
  clear h
  by_cases c2 : a0 ≥ 1
  · rw [if_pos c2] at H
    have c2b0 : decide (1 ≤ a0) = true := decide_eq_true c2
    clear c2
    obtain rfl := Option.some.inj H
    go_enter Try.func42, Try.ntmps42
    go_wp2
    go_ret
    exact ⟨by first | rfl | (simp; done) | (simp [*]; done), by repeat (first | exact Drawn0.refl _ | apply Drawn0.step)⟩
  · rw [if_neg c2] at H
    have c2b0 : decide (1 ≤ a0) = false := decide_eq_false c2
    clear c2
    obtain rfl := Option.some.inj H
    go_enter Try.func42, Try.ntmps42
    go_wp2
    go_ret
    exact ⟨by first | rfl | (simp; done) | (simp [*]; done), by repeat (first | exact Drawn0.refl _ | apply Drawn0.step)⟩

end Go.Proofs.Ytoifpgkfpdeglaa.X

namespace Go.Proofs.Ytoifpgkfpdeglaa.X
open Go.RowKit Go.Proofs.YtoifpgkfpdeglaaW.PrintWords Go.Proofs.YtoifpgkfpdeglaaW.PrintLast Go.Proofs.YtoifpgkfpdeglaaW.PrintMore
attribute [local go_sem] max2_int min2_int max_two min_two max_three min_three max_four min_four
set_option linter.unusedVariables false
set_option linter.unusedSimpArgs false

/-! ### impl_within: function 59 -/
def impl_within.f (a0 : Int) (a1 : Int) (a2 : Int) : Option (Bool) := if a0 ≥ a1 then (some (decide (a0 ≤ a2))) else (some false)
set_option maxHeartbeats 8000000 in
set_option maxRecDepth 100000 in
theorem impl_within.calls (a0 : Int) (a1 : Int) (a2 : Int) (r : Bool) (w : World) (h : impl_within.f a0 a1 a2 = some r) :
    Calls Try.prog 59 #[.int .i64 a0, .int .i64 a1, .int .i64 a2] w fun e w' => e = .returned (.bool r) ∧ Drawn0 w w' := by
  have H : (if a0 ≥ a1 then (some (decide (a0 ≤ a2))) else (some false)) = some r := h
  clear h
  by_cases c4 : a0 ≥ a1
  · rw [if_pos c4] at H
    have c4b0 : decide (a1 ≤ a0) = true := decide_eq_true c4
    clear c4
    obtain rfl := Option.some.inj H
    go_enter Try.func59, Try.ntmps59
    go_wp2
    go_ret
    exact ⟨by first | rfl | (simp; done) | (simp [*]; done), by repeat (first | exact Drawn0.refl _ | apply Drawn0.step)⟩
  · rw [if_neg c4] at H
    have c4b0 : decide (a1 ≤ a0) = false := decide_eq_false c4
    clear c4
    obtain rfl := Option.some.inj H
    go_enter Try.func59, Try.ntmps59
    go_wp2
    go_ret
    exact ⟨by first | rfl | (simp; done) | (simp [*]; done), by repeat (first | exact Drawn0.refl _ | apply Drawn0.step)⟩

end Go.Proofs.Ytoifpgkfpdeglaa.X

namespace Go.Proofs.Ytoifpgkfpdeglaa.X
open Go.RowKit Go.Proofs.YtoifpgkfpdeglaaW.PrintWords Go.Proofs.YtoifpgkfpdeglaaW.PrintLast Go.Proofs.YtoifpgkfpdeglaaW.PrintMore
attribute [local go_sem] max2_int min2_int max_two min_two max_three min_three max_four min_four
set_option linter.unusedVariables false
set_option linter.unusedSimpArgs false

attribute [local go_sem high] eqA27
open Go.Proofs.YtoifpgkfpdeglaaW.PrintWords renaming blk_frozen → yaa, pw_below_drewN → yab, blk_cell → yac, below_alloc → yad, below_drew1 → yae, below_set → yag
open Go.Proofs.YtoifpgkfpdeglaaW.PrintWords.Aside0 renaming mk → yaf

/-! ### impl_OpOk: function 36 -/
def impl_OpOk.j0 : Nat → Int → Bool → Int → Int → Int → Int → Int → Option (Bool)
 | 0, _, _, _, _, _, _, _ => none
 | k + 1, x4, x25, x102000, x102001, x102002, x102003, x102004 => if x25 = true then (some (x102001 == 0 && (x102002 == 0 && (x102003 == 0 && (x102004 == 0))))) else (if x4 = 7 then ((impl_sizeOk.f x102001).bind fun t106 => (if t106 = true then ((impl_sizeOk.f x102002).bind fun t107 => (if t107 = true then (if x102003 = 0 then (some (x102004 == 0)) else (some false)) else (some false))) else (some false))) else (if x4 = 8 then ((impl_partOk.f x102001).bind fun t108 => (if t108 = true then ((impl_partOk.f x102002).bind fun t109 => (if t109 = true then ((impl_partOk.f x102003).bind fun t110 => (if t110 = true then (some (x102004 == 0)) else (some false))) else (some false))) else (some false))) else (some false)))
def impl_OpOk.f (k : Nat) (a0_0 : Int) (a0_1 : Int) (a0_2 : Int) (a0_3 : Int) (a0_4 : Int) : Option (Bool) := if a0_0 = 1 then ((impl_within.f a0_1 0 5).bind fun t102 => (if t102 = true then ((impl_within.f a0_2 0 5).bind fun t103 => (if t103 = true then ((impl_sizeOk.f a0_3).bind fun t104 => (if t104 = true then ((impl_sizeOk.f a0_4).bind fun t105 => (some t105)) else (some false))) else (some false))) else (some false))) else (if a0_0 = 2 then (impl_OpOk.j0 k a0_0 (a0_0 == 2) a0_0 a0_1 a0_2 a0_3 a0_4) else (if a0_0 = 3 then (impl_OpOk.j0 k a0_0 (a0_0 == 3) a0_0 a0_1 a0_2 a0_3 a0_4) else (if a0_0 = 4 then (impl_OpOk.j0 k a0_0 (a0_0 == 4) a0_0 a0_1 a0_2 a0_3 a0_4) else (if a0_0 = 5 then (impl_OpOk.j0 k a0_0 (a0_0 == 5) a0_0 a0_1 a0_2 a0_3 a0_4) else (impl_OpOk.j0 k a0_0 (a0_0 == 6) a0_0 a0_1 a0_2 a0_3 a0_4)))))
set_option maxHeartbeats 8000000 in
set_option maxRecDepth 100000 in
theorem impl_OpOk.calls (k : Nat) (a0_0 : Int) (a0_1 : Int) (a0_2 : Int) (a0_3 : Int) (a0_4 : Int) (r : Bool) (w : World) (h : impl_OpOk.f k a0_0 a0_1 a0_2 a0_3 a0_4 = some r) :
  Calls Try.prog 36 #[.agg #[.int .i64 a0_0, .int .i64 a0_1, .int .i64 a0_2, .int .i64 a0_3, .int .i64 a0_4]] w fun e w' => e = .returned (.bool r) ∧ Below w.heap.size w w' := by
 have hu27 := Try.underlying27
 have HB := yaf (Below.refl w.heap.size w)
 have H : (if a0_0 = 1 then ((impl_within.f a0_1 0 5).bind fun b7 => (if b7 = true then ((impl_within.f a0_2 0 5).bind fun b2 => (if b2 = true then ((impl_sizeOk.f a0_3).bind fun a8 => (if a8 = true then ((impl_sizeOk.f a0_4).bind fun a7 => (some a7)) else (some false))) else (some false))) else (some false))) else (if a0_0 = 2 then (impl_OpOk.j0 k a0_0 (a0_0 == 2) a0_0 a0_1 a0_2 a0_3 a0_4) else (if a0_0 = 3 then (impl_OpOk.j0 k a0_0 (a0_0 == 3) a0_0 a0_1 a0_2 a0_3 a0_4) else (if a0_0 = 4 then (impl_OpOk.j0 k a0_0 (a0_0 == 4) a0_0 a0_1 a0_2 a0_3 a0_4) else (if a0_0 = 5 then (impl_OpOk.j0 k a0_0 (a0_0 == 5) a0_0 a0_1 a0_2 a0_3 a0_4) else (impl_OpOk.j0 k a0_0 (a0_0 == 6) a0_0 a0_1 a0_2 a0_3 a0_4)))))) = some r := h
 clear h
 by_cases c2 : a0_0 = 1
 ·
  rw [if_pos c2] at H
  have i3 : (a0_0 == 1) = true := beq_iff_eq.mpr c2
  have i4 : (a0_0 != 1) = false := bne_eq_false_iff_eq.mpr c2
  clear c2
  replace H := Option.bind_eq_some_iff.mp H
  obtain ⟨b7, A30, H⟩ := H
  replace H : (if b7 = true then ((impl_within.f a0_2 0 5).bind fun b2 => (if b2 = true then ((impl_sizeOk.f a0_3).bind fun a8 => (if a8 = true then ((impl_sizeOk.f a0_4).bind fun a7 => (some a7)) else (some false))) else (some false))) else (some false)) = some r := H
  have A3 := yaf A30
  clear A30
  by_cases c4 : b7 = true
  ·
   subst c4
   have H1 : ((impl_within.f a0_2 0 5).bind fun b2 => (if b2 = true then ((impl_sizeOk.f a0_3).bind fun a8 => (if a8 = true then ((impl_sizeOk.f a0_4).bind fun a7 => (some a7)) else (some false))) else (some false))) = some r := by rw [if_pos rfl] at H; exact H
   clear H
   have H := H1
   clear H1
   replace H := Option.bind_eq_some_iff.mp H
   obtain ⟨b2, A50, H⟩ := H
   replace H : (if b2 = true then ((impl_sizeOk.f a0_3).bind fun a8 => (if a8 = true then ((impl_sizeOk.f a0_4).bind fun a7 => (some a7)) else (some false))) else (some false)) = some r := H
   have A5 := yaf A50
   clear A50
   by_cases c6 : b2 = true
   ·
    subst c6
    have H1 : ((impl_sizeOk.f a0_3).bind fun a8 => (if a8 = true then ((impl_sizeOk.f a0_4).bind fun a7 => (some a7)) else (some false))) = some r := by rw [if_pos rfl] at H; exact H
    clear H
    have H := H1
    clear H1
    replace H := Option.bind_eq_some_iff.mp H
    obtain ⟨a8, A70, H⟩ := H
    replace H : (if a8 = true then ((impl_sizeOk.f a0_4).bind fun a7 => (some a7)) else (some false)) = some r := H
    have A7 := yaf A70
    clear A70
    by_cases c8 : a8 = true
    ·
     subst c8
     have H1 : ((impl_sizeOk.f a0_4).bind fun a7 => (some a7)) = some r := by rw [if_pos rfl] at H; exact H
     clear H
     have H := H1
     clear H1
     replace H := Option.bind_eq_some_iff.mp H
     obtain ⟨a7, A90, H⟩ := H
     replace H : (some a7) = some r := H
     have A9 := yaf A90
     clear A90
     obtain rfl := Option.some.inj H
     go_enter Try.func36, Try.ntmps36
     go_wp2_with (first | ((with_reducible refine gate_dst (N := 1) rfl ?_); refine box_event ?hg (N := 1) ?hd (cs := #[.int .i64 a0_0, .int .i64 a0_1, .int .i64 a0_2, .int .i64 a0_3, .int .i64 a0_4]) (t := 27) ?hr ?_; (case hd => rfl); (case hg => rfl); (case hr => first | (go_simp; done) | (go_simp; rfl)); intro a6 hg w10 hbox hb; have n0_ := yaf (below_step (by repeat (first | (with_reducible first | exact HB.out | apply yad | apply yab | apply yae) | exact HB.out)) hb); have n1_ := yaf (hbox); have n2_ := yaf ((by rw [hg]; exact (below_size (by repeat (first | (with_reducible first | exact HB.out | apply yad | apply yab | apply yae) | exact HB.out))) : w.heap.size ≤ a6)); have n3_ := yaf ((by rw [hg]; exact (below_size (by repeat (first | (with_reducible first | exact HB.out | apply yad | apply yab | apply yae) | exact HB.out))) : w.heap.size ≤ a6)); clear HB; have HB := n0_; have a5 := n1_; have b5 := n2_; have b6 := n3_; clear n0_ n1_ n2_ n3_; clear hb hbox hg; have b8 : w10.cell? ⟨a6, 0, none⟩ = some (.int .i64 a0_0) := (yac a5.out 0).trans rfl; have b9 : w10.cell? ⟨a6, 1, none⟩ = some (.int .i64 a0_1) := (yac a5.out 1).trans rfl; have c0 : w10.cell? ⟨a6, 2, none⟩ = some (.int .i64 a0_2) := (yac a5.out 2).trans rfl; have c1 : w10.cell? ⟨a6, 3, none⟩ = some (.int .i64 a0_3) := (yac a5.out 3).trans rfl; have c7 : w10.cell? ⟨a6, 4, none⟩ = some (.int .i64 a0_4) := (yac a5.out 4).trans rfl; have c9 := yaa a5.out 0; have d0 := yaa a5.out 1; have d1 := yaa a5.out 2; have d2 := yaa a5.out 3; have d3 := yaa a5.out 4) | ((with_reducible refine gate_callee (f := 59) rfl ?_); refine goesL_ (some 9) rfl rfl Try.func59 (by kernel_rfl) rfl #[.int .i64 a0_1, .int .i64 0, .int .i64 5] rfl (by (try simp only [List.map_toArray, List.map_cons, List.map_nil]); first | done | rfl | (simp only [List.length_drop, List.length_take]; rfl)) ?_; (with_reducible refine (impl_within.calls a0_1 0 5 true _ A3.out).mono ?_); rintro e w' ⟨rfl, ⟨nd, rfl⟩⟩; refine ⟨_, rfl, ?_⟩) | (go_at_call 59; (with_reducible refine (impl_within.calls a0_2 0 5 true _ A5.out).mono ?_); rintro e w' ⟨rfl, ⟨nd, rfl⟩⟩) | (go_at_call 42; (with_reducible refine (impl_sizeOk.calls a0_3 true _ A7.out).mono ?_); rintro e w' ⟨rfl, ⟨nd, rfl⟩⟩) | (go_at_call 42; (with_reducible refine (impl_sizeOk.calls a0_4 a7 _ A9.out).mono ?_); rintro e w' ⟨rfl, ⟨nd, rfl⟩⟩))
     go_ret
     exact ⟨by first | rfl | (simp [errW_none, errW_some] <;> rfl) | (simp [*, errW_none, errW_some] <;> rfl), by repeat (first | (with_reducible first | exact HB.out | apply yad | apply yab | apply yae | refine yag ?_ (Aside0.out ‹_›)) | exact HB.out)⟩
    ·
     replace c8 := Bool.eq_false_iff.mpr c8
     subst c8
     have H1 : (some false) = some r := by rw [if_neg (show ¬ (false = true) by decide)] at H; exact H
     clear H
     have H := H1
     clear H1
     obtain rfl := Option.some.inj H
     go_enter Try.func36, Try.ntmps36
     go_wp2_with (first | ((with_reducible refine gate_dst (N := 1) rfl ?_); refine box_event ?hg (N := 1) ?hd (cs := #[.int .i64 a0_0, .int .i64 a0_1, .int .i64 a0_2, .int .i64 a0_3, .int .i64 a0_4]) (t := 27) ?hr ?_; (case hd => rfl); (case hg => rfl); (case hr => first | (go_simp; done) | (go_simp; rfl)); intro a6 hg w12 hbox hb; have n0_ := yaf (below_step (by repeat (first | (with_reducible first | exact HB.out | apply yad | apply yab | apply yae) | exact HB.out)) hb); have n1_ := yaf (hbox); have n2_ := yaf ((by rw [hg]; exact (below_size (by repeat (first | (with_reducible first | exact HB.out | apply yad | apply yab | apply yae) | exact HB.out))) : w.heap.size ≤ a6)); have n3_ := yaf ((by rw [hg]; exact (below_size (by repeat (first | (with_reducible first | exact HB.out | apply yad | apply yab | apply yae) | exact HB.out))) : w.heap.size ≤ a6)); clear HB; have HB := n0_; have a5 := n1_; have b5 := n2_; have b6 := n3_; clear n0_ n1_ n2_ n3_; clear hb hbox hg; have d4 : w12.cell? ⟨a6, 0, none⟩ = some (.int .i64 a0_0) := (yac a5.out 0).trans rfl; have d5 : w12.cell? ⟨a6, 1, none⟩ = some (.int .i64 a0_1) := (yac a5.out 1).trans rfl; have d6 : w12.cell? ⟨a6, 2, none⟩ = some (.int .i64 a0_2) := (yac a5.out 2).trans rfl; have d7 : w12.cell? ⟨a6, 3, none⟩ = some (.int .i64 a0_3) := (yac a5.out 3).trans rfl; have d8 : w12.cell? ⟨a6, 4, none⟩ = some (.int .i64 a0_4) := (yac a5.out 4).trans rfl; have d9 := yaa a5.out 0; have e0 := yaa a5.out 1; have e1 := yaa a5.out 2; have e2 := yaa a5.out 3; have e3 := yaa a5.out 4) | ((with_reducible refine gate_callee (f := 59) rfl ?_); refine goesL_ (some 9) rfl rfl Try.func59 (by kernel_rfl) rfl #[.int .i64 a0_1, .int .i64 0, .int .i64 5] rfl (by (try simp only [List.map_toArray, List.map_cons, List.map_nil]); first | done | rfl | (simp only [List.length_drop, List.length_take]; rfl)) ?_; (with_reducible refine (impl_within.calls a0_1 0 5 true _ A3.out).mono ?_); rintro e w' ⟨rfl, ⟨nd, rfl⟩⟩; refine ⟨_, rfl, ?_⟩) | (go_at_call 59; (with_reducible refine (impl_within.calls a0_2 0 5 true _ A5.out).mono ?_); rintro e w' ⟨rfl, ⟨nd, rfl⟩⟩) | (go_at_call 42; (with_reducible refine (impl_sizeOk.calls a0_3 false _ A7.out).mono ?_); rintro e w' ⟨rfl, ⟨nd, rfl⟩⟩))
     go_ret
     exact ⟨by first | rfl | (simp [errW_none, errW_some] <;> rfl) | (simp [*, errW_none, errW_some] <;> rfl), by repeat (first | (with_reducible first | exact HB.out | apply yad | apply yab | apply yae | refine yag ?_ (Aside0.out ‹_›)) | exact HB.out)⟩
   ·
    replace c6 := Bool.eq_false_iff.mpr c6
    subst c6
    have H1 : (some false) = some r := by rw [if_neg (show ¬ (false = true) by decide)] at H; exact H
    clear H
    have H := H1
    clear H1
    obtain rfl := Option.some.inj H
    go_enter Try.func36, Try.ntmps36
    go_wp2_with (first | ((with_reducible refine gate_dst (N := 1) rfl ?_); refine box_event ?hg (N := 1) ?hd (cs := #[.int .i64 a0_0, .int .i64 a0_1, .int .i64 a0_2, .int .i64 a0_3, .int .i64 a0_4]) (t := 27) ?hr ?_; (case hd => rfl); (case hg => rfl); (case hr => first | (go_simp; done) | (go_simp; rfl)); intro a6 hg w14 hbox hb; have n0_ := yaf (below_step (by repeat (first | (with_reducible first | exact HB.out | apply yad | apply yab | apply yae) | exact HB.out)) hb); have n1_ := yaf (hbox); have n2_ := yaf ((by rw [hg]; exact (below_size (by repeat (first | (with_reducible first | exact HB.out | apply yad | apply yab | apply yae) | exact HB.out))) : w.heap.size ≤ a6)); have n3_ := yaf ((by rw [hg]; exact (below_size (by repeat (first | (with_reducible first | exact HB.out | apply yad | apply yab | apply yae) | exact HB.out))) : w.heap.size ≤ a6)); clear HB; have HB := n0_; have a5 := n1_; have b5 := n2_; have b6 := n3_; clear n0_ n1_ n2_ n3_; clear hb hbox hg; have e4 : w14.cell? ⟨a6, 0, none⟩ = some (.int .i64 a0_0) := (yac a5.out 0).trans rfl; have e5 : w14.cell? ⟨a6, 1, none⟩ = some (.int .i64 a0_1) := (yac a5.out 1).trans rfl; have e6 : w14.cell? ⟨a6, 2, none⟩ = some (.int .i64 a0_2) := (yac a5.out 2).trans rfl; have e7 : w14.cell? ⟨a6, 3, none⟩ = some (.int .i64 a0_3) := (yac a5.out 3).trans rfl; have e8 : w14.cell? ⟨a6, 4, none⟩ = some (.int .i64 a0_4) := (yac a5.out 4).trans rfl; have e9 := yaa a5.out 0; have f0 := yaa a5.out 1; have f1 := yaa a5.out 2; have f2 := yaa a5.out 3; have f3 := yaa a5.out 4) | ((with_reducible refine gate_callee (f := 59) rfl ?_); refine goesL_ (some 9) rfl rfl Try.func59 (by kernel_rfl) rfl #[.int .i64 a0_1, .int .i64 0, .int .i64 5] rfl (by (try simp only [List.map_toArray, List.map_cons, List.map_nil]); first | done | rfl | (simp only [List.length_drop, List.length_take]; rfl)) ?_; (with_reducible refine (impl_within.calls a0_1 0 5 true _ A3.out).mono ?_); rintro e w' ⟨rfl, ⟨nd, rfl⟩⟩; refine ⟨_, rfl, ?_⟩) | (go_at_call 59; (with_reducible refine (impl_within.calls a0_2 0 5 false _ A5.out).mono ?_); rintro e w' ⟨rfl, ⟨nd, rfl⟩⟩))
    go_ret
    exact ⟨by first | rfl | (simp [errW_none, errW_some] <;> rfl) | (simp [*, errW_none, errW_some] <;> rfl), by repeat (first | (with_reducible first | exact HB.out | apply yad | apply yab | apply yae | refine yag ?_ (Aside0.out ‹_›)) | exact HB.out)⟩
  ·
   replace c4 := Bool.eq_false_iff.mpr c4
   subst c4
   have H1 : (some false) = some r := by rw [if_neg (show ¬ (false = true) by decide)] at H; exact H
   clear H
   have H := H1
   clear H1
   obtain rfl := Option.some.inj H
   go_enter Try.func36, Try.ntmps36
   go_wp2_with (first | ((with_reducible refine gate_dst (N := 1) rfl ?_); refine box_event ?hg (N := 1) ?hd (cs := #[.int .i64 a0_0, .int .i64 a0_1, .int .i64 a0_2, .int .i64 a0_3, .int .i64 a0_4]) (t := 27) ?hr ?_; (case hd => rfl); (case hg => rfl); (case hr => first | (go_simp; done) | (go_simp; rfl)); intro a6 hg w16 hbox hb; have n0_ := yaf (below_step (by repeat (first | (with_reducible first | exact HB.out | apply yad | apply yab | apply yae) | exact HB.out)) hb); have n1_ := yaf (hbox); have n2_ := yaf ((by rw [hg]; exact (below_size (by repeat (first | (with_reducible first | exact HB.out | apply yad | apply yab | apply yae) | exact HB.out))) : w.heap.size ≤ a6)); have n3_ := yaf ((by rw [hg]; exact (below_size (by repeat (first | (with_reducible first | exact HB.out | apply yad | apply yab | apply yae) | exact HB.out))) : w.heap.size ≤ a6)); clear HB; have HB := n0_; have a5 := n1_; have b5 := n2_; have b6 := n3_; clear n0_ n1_ n2_ n3_; clear hb hbox hg; have f4 : w16.cell? ⟨a6, 0, none⟩ = some (.int .i64 a0_0) := (yac a5.out 0).trans rfl; have f5 : w16.cell? ⟨a6, 1, none⟩ = some (.int .i64 a0_1) := (yac a5.out 1).trans rfl; have f6 : w16.cell? ⟨a6, 2, none⟩ = some (.int .i64 a0_2) := (yac a5.out 2).trans rfl; have f7 : w16.cell? ⟨a6, 3, none⟩ = some (.int .i64 a0_3) := (yac a5.out 3).trans rfl; have f8 : w16.cell? ⟨a6, 4, none⟩ = some (.int .i64 a0_4) := (yac a5.out 4).trans rfl; have f9 := yaa a5.out 0; have g0 := yaa a5.out 1; have g1 := yaa a5.out 2; have g2 := yaa a5.out 3; have g3 := yaa a5.out 4) | ((with_reducible refine gate_callee (f := 59) rfl ?_); refine goesL_ (some 9) rfl rfl Try.func59 (by kernel_rfl) rfl #[.int .i64 a0_1, .int .i64 0, .int .i64 5] rfl (by (try simp only [List.map_toArray, List.map_cons, List.map_nil]); first | done | rfl | (simp only [List.length_drop, List.length_take]; rfl)) ?_; (with_reducible refine (impl_within.calls a0_1 0 5 false _ A3.out).mono ?_); rintro e w' ⟨rfl, ⟨nd, rfl⟩⟩; refine ⟨_, rfl, ?_⟩))
   go_ret
   exact ⟨by first | rfl | (simp [errW_none, errW_some] <;> rfl) | (simp [*, errW_none, errW_some] <;> rfl), by repeat (first | (with_reducible first | exact HB.out | apply yad | apply yab | apply yae | refine yag ?_ (Aside0.out ‹_›)) | exact HB.out)⟩
 ·
  rw [if_neg c2] at H
  have i3 : (a0_0 == 1) = false := beq_eq_false_iff_ne.mpr c2
  have i4 : (a0_0 != 1) = true := bne_iff_ne.mpr c2
  have HC18 := yaf H
  clear H
  go_enter Try.func36, Try.ntmps36
  go_upto_if 25 with (first | ((with_reducible refine gate_dst (N := 1) rfl ?_); refine box_event ?hg (N := 1) ?hd (cs := #[.int .i64 a0_0, .int .i64 a0_1, .int .i64 a0_2, .int .i64 a0_3, .int .i64 a0_4]) (t := 27) ?hr ?_; (case hd => rfl); (case hg => rfl); (case hr => first | (go_simp; done) | (go_simp; rfl)); intro a6 hg w19 hbox hb; have n0_ := yaf (below_step (by repeat (first | (with_reducible first | exact HB.out | apply yad | apply yab | apply yae) | exact HB.out)) hb); have n1_ := yaf (hbox); have n2_ := yaf ((by rw [hg]; exact (below_size (by repeat (first | (with_reducible first | exact HB.out | apply yad | apply yab | apply yae) | exact HB.out))) : w.heap.size ≤ a6)); have n3_ := yaf ((by rw [hg]; exact (below_size (by repeat (first | (with_reducible first | exact HB.out | apply yad | apply yab | apply yae) | exact HB.out))) : w.heap.size ≤ a6)); clear HB; have HB := n0_; have a5 := n1_; have b5 := n2_; have b6 := n3_; clear n0_ n1_ n2_ n3_; clear hb hbox hg; have g4 : w19.cell? ⟨a6, 0, none⟩ = some (.int .i64 a0_0) := (yac a5.out 0).trans rfl; have g5 : w19.cell? ⟨a6, 1, none⟩ = some (.int .i64 a0_1) := (yac a5.out 1).trans rfl; have g6 : w19.cell? ⟨a6, 2, none⟩ = some (.int .i64 a0_2) := (yac a5.out 2).trans rfl; have g7 : w19.cell? ⟨a6, 3, none⟩ = some (.int .i64 a0_3) := (yac a5.out 3).trans rfl; have g8 : w19.cell? ⟨a6, 4, none⟩ = some (.int .i64 a0_4) := (yac a5.out 4).trans rfl; have g9 := yaa a5.out 0; have h0 := yaa a5.out 1; have h1 := yaa a5.out 2; have h2 := yaa a5.out 3; have h3 := yaa a5.out 4))
  (try simp only [Act.put, List.setIfInBounds_toArray, List.set_cons_zero, List.set_cons_succ])
  go_cut [25] (fun v25 wc => ∃ (kq : Nat) (b1 : Bool), v25 = .bool b1 ∧ Aside0 (impl_OpOk.j0 kq a0_0 b1 a0_0 a0_1 a0_2 a0_3 a0_4 = some r) ∧ Aside0 (kq ≤ k) ∧ Aside0 (wc.heap[a6]? = some (.cells #[.int .i64 a0_0, .int .i64 a0_1, .int .i64 a0_2, .int .i64 a0_3, .int .i64 a0_4] 27 (0, 0))) ∧ Aside0 (Below w.heap.size w wc))
  case first =>
   have H := HC18.out
   clear HC18
   by_cases c21 : a0_0 = 2
   ·
    rw [if_pos c21] at H
    have b0 : (a0_0 == 2) = true := beq_iff_eq.mpr c21
    have h6 : (a0_0 != 2) = false := bne_eq_false_iff_eq.mpr c21
    clear c21
    (first | rw [b0] | (simp only [i64_w, i32_w]; rw [b0]) | skip)
    have H' := yaf H
    clear H
    go_wp2
    go_meet
    case rel => exact ⟨_, ((a0_0 == 2)), (by first | rfl | (simp; done) | (simp [*]; done)), H', ⟨by first | omega | exact Nat.le_refl _⟩, ⟨by exact upB a5.out⟩, ⟨by repeat (first | (with_reducible first | exact HB.out | apply yad | apply yab | apply yae | refine yag ?_ (Aside0.out ‹_›)) | exact HB.out)⟩⟩
   ·
    rw [if_neg c21] at H
    have b0 : (a0_0 == 2) = false := beq_eq_false_iff_ne.mpr c21
    have h6 : (a0_0 != 2) = true := bne_iff_ne.mpr c21
    (first | rw [b0] | (simp only [i64_w, i32_w]; rw [b0]) | skip)
    by_cases c22 : a0_0 = 3
    ·
     rw [if_pos c22] at H
     have h7 : (a0_0 == 3) = true := beq_iff_eq.mpr c22
     have h8 : (a0_0 != 3) = false := bne_eq_false_iff_eq.mpr c22
     clear c22
     have H' := yaf H
     clear H
     go_wp2
     go_meet
     case rel => exact ⟨_, ((a0_0 == 3)), (by first | rfl | (simp; done) | (simp [*]; done)), H', ⟨by first | omega | exact Nat.le_refl _⟩, ⟨by exact upB a5.out⟩, ⟨by repeat (first | (with_reducible first | exact HB.out | apply yad | apply yab | apply yae | refine yag ?_ (Aside0.out ‹_›)) | exact HB.out)⟩⟩
    ·
     rw [if_neg c22] at H
     have h7 : (a0_0 == 3) = false := beq_eq_false_iff_ne.mpr c22
     have h8 : (a0_0 != 3) = true := bne_iff_ne.mpr c22
     by_cases c23 : a0_0 = 4
     ·
      rw [if_pos c23] at H
      have h9 : (a0_0 == 4) = true := beq_iff_eq.mpr c23
      have i0 : (a0_0 != 4) = false := bne_eq_false_iff_eq.mpr c23
      clear c23
      have H' := yaf H
      clear H
      go_wp2
      go_meet
      case rel => exact ⟨_, ((a0_0 == 4)), (by first | rfl | (simp; done) | (simp [*]; done)), H', ⟨by first | omega | exact Nat.le_refl _⟩, ⟨by exact upB a5.out⟩, ⟨by repeat (first | (with_reducible first | exact HB.out | apply yad | apply yab | apply yae | refine yag ?_ (Aside0.out ‹_›)) | exact HB.out)⟩⟩
     ·
      rw [if_neg c23] at H
      have h9 : (a0_0 == 4) = false := beq_eq_false_iff_ne.mpr c23
      have i0 : (a0_0 != 4) = true := bne_iff_ne.mpr c23
      by_cases c24 : a0_0 = 5
      ·
       rw [if_pos c24] at H
       have i1 : (a0_0 == 5) = true := beq_iff_eq.mpr c24
       have i2 : (a0_0 != 5) = false := bne_eq_false_iff_eq.mpr c24
       clear c24
       have H' := yaf H
       clear H
       go_wp2
       go_meet
       case rel => exact ⟨_, ((a0_0 == 5)), (by first | rfl | (simp; done) | (simp [*]; done)), H', ⟨by first | omega | exact Nat.le_refl _⟩, ⟨by exact upB a5.out⟩, ⟨by repeat (first | (with_reducible first | exact HB.out | apply yad | apply yab | apply yae | refine yag ?_ (Aside0.out ‹_›)) | exact HB.out)⟩⟩
      ·
       rw [if_neg c24] at H
       have i1 : (a0_0 == 5) = false := beq_eq_false_iff_ne.mpr c24
       have i2 : (a0_0 != 5) = true := bne_iff_ne.mpr c24
       have H' := yaf H
       clear H
       go_wp2
       go_meet
       case rel => exact ⟨_, ((a0_0 == 6)), (by first | rfl | (simp; done) | (simp [*]; done)), H', ⟨by first | omega | exact Nat.le_refl _⟩, ⟨by exact upB a5.out⟩, ⟨by repeat (first | (with_reducible first | exact HB.out | apply yad | apply yab | apply yae | refine yag ?_ (Aside0.out ‹_›)) | exact HB.out)⟩⟩
  case rest =>
   clear HC18
   try clear c2
   try clear i3
   try clear i4
   try clear p2
   try clear c3
   try clear c4
   try clear c5
   try clear c6
   try clear c8
   try clear c21
   try clear b0
   try clear h6
   try clear c22
   try clear h7
   try clear h8
   try clear c23
   try clear h9
   try clear i0
   try clear c24
   try clear i1
   try clear i2
   try clear b8
   try clear b9
   try clear c0
   try clear c1
   try clear c7
   try clear d4
   try clear d5
   try clear d6
   try clear d7
   try clear d8
   try clear e4
   try clear e5
   try clear e6
   try clear e7
   try clear e8
   try clear f4
   try clear f5
   try clear f6
   try clear f7
   try clear f8
   try clear g4
   try clear g5
   try clear g6
   try clear g7
   try clear g8
   try clear c9
   try clear d0
   try clear d1
   try clear d2
   try clear d3
   try clear d9
   try clear e0
   try clear e1
   try clear e2
   try clear e3
   try clear e9
   try clear f0
   try clear f1
   try clear f2
   try clear f3
   try clear f9
   try clear g0
   try clear g1
   try clear g2
   try clear g3
   try clear g9
   try clear h0
   try clear h1
   try clear h2
   try clear h3
   obtain ⟨kq, b1, rfl, HA, HJ17, a5, HB⟩ := hcut
   cases kq with
   | zero => exact absurd HA.out (by simp [impl_OpOk.j0])
   | succ kj17 =>
    have H := HA.out
    clear HA
    simp only [impl_OpOk.j0] at H
    by_cases c25 : b1 = true
    ·
     subst c25
     have H1 : (some (a0_1 == 0 && (a0_2 == 0 && (a0_3 == 0 && (a0_4 == 0))))) = some r := by rw [if_pos rfl] at H; exact H
     clear H
     have H := H1
     clear H1
     obtain rfl := Option.some.inj H
     have j7 : wc.cell? ⟨a6, 0, none⟩ = some (.int .i64 a0_0) := (yac a5.out 0).trans rfl
     have j8 : wc.cell? ⟨a6, 1, none⟩ = some (.int .i64 a0_1) := (yac a5.out 1).trans rfl
     have j9 : wc.cell? ⟨a6, 2, none⟩ = some (.int .i64 a0_2) := (yac a5.out 2).trans rfl
     have k0 : wc.cell? ⟨a6, 3, none⟩ = some (.int .i64 a0_3) := (yac a5.out 3).trans rfl
     have k1 : wc.cell? ⟨a6, 4, none⟩ = some (.int .i64 a0_4) := (yac a5.out 4).trans rfl
     have k2 := yaa a5.out 0
     have k3 := yaa a5.out 1
     have k4 := yaa a5.out 2
     have k5 := yaa a5.out 3
     have k6 := yaa a5.out 4
     go_wp2
     go_ret
     exact ⟨by first | rfl | (simp [errW_none, errW_some] <;> rfl) | (simp [*, errW_none, errW_some] <;> rfl), by repeat (first | (with_reducible first | exact HB.out | apply yad | apply yab | apply yae | refine yag ?_ (Aside0.out ‹_›)) | exact HB.out)⟩
    ·
     replace c25 := Bool.eq_false_iff.mpr c25
     subst c25
     have H1 : (if a0_0 = 7 then ((impl_sizeOk.f a0_1).bind fun h4 => (if h4 = true then ((impl_sizeOk.f a0_2).bind fun b3 => (if b3 = true then (if a0_3 = 0 then (some (a0_4 == 0)) else (some false)) else (some false))) else (some false))) else (if a0_0 = 8 then ((impl_partOk.f a0_1).bind fun h5 => (if h5 = true then ((impl_partOk.f a0_2).bind fun b4 => (if b4 = true then ((impl_partOk.f a0_3).bind fun a9 => (if a9 = true then (some (a0_4 == 0)) else (some false))) else (some false))) else (some false))) else (some false))) = some r := by rw [if_neg (show ¬ (false = true) by decide)] at H; exact H
     clear H
     have H := H1
     clear H1
     by_cases c27 : a0_0 = 7
     ·
      rw [if_pos c27] at H
      have i5 : (a0_0 == 7) = true := beq_iff_eq.mpr c27
      have i6 : (a0_0 != 7) = false := bne_eq_false_iff_eq.mpr c27
      clear c27
      replace H := Option.bind_eq_some_iff.mp H
      obtain ⟨h4, i7, H⟩ := H
      replace H : (if h4 = true then ((impl_sizeOk.f a0_2).bind fun b3 => (if b3 = true then (if a0_3 = 0 then (some (a0_4 == 0)) else (some false)) else (some false))) else (some false)) = some r := H
      have A28 := yaf i7
      clear i7
      by_cases c29 : h4 = true
      ·
       subst c29
       have H1 : ((impl_sizeOk.f a0_2).bind fun b3 => (if b3 = true then (if a0_3 = 0 then (some (a0_4 == 0)) else (some false)) else (some false))) = some r := by rw [if_pos rfl] at H; exact H
       clear H
       have H := H1
       clear H1
       replace H := Option.bind_eq_some_iff.mp H
       obtain ⟨b3, i8, H⟩ := H
       replace H : (if b3 = true then (if a0_3 = 0 then (some (a0_4 == 0)) else (some false)) else (some false)) = some r := H
       have A30 := yaf i8
       clear i8
       by_cases c31 : b3 = true
       ·
        subst c31
        have H1 : (if a0_3 = 0 then (some (a0_4 == 0)) else (some false)) = some r := by rw [if_pos rfl] at H; exact H
        clear H
        have H := H1
        clear H1
        by_cases c32 : a0_3 = 0
        ·
         rw [if_pos c32] at H
         have i9 : (a0_3 == 0) = true := beq_iff_eq.mpr c32
         have j1 : (a0_3 != 0) = false := bne_eq_false_iff_eq.mpr c32
         clear c32
         obtain rfl := Option.some.inj H
         have k7 : wc.cell? ⟨a6, 0, none⟩ = some (.int .i64 a0_0) := (yac a5.out 0).trans rfl
         have k8 : wc.cell? ⟨a6, 1, none⟩ = some (.int .i64 a0_1) := (yac a5.out 1).trans rfl
         have k9 : wc.cell? ⟨a6, 2, none⟩ = some (.int .i64 a0_2) := (yac a5.out 2).trans rfl
         have l0 : wc.cell? ⟨a6, 3, none⟩ = some (.int .i64 a0_3) := (yac a5.out 3).trans rfl
         have l1 : wc.cell? ⟨a6, 4, none⟩ = some (.int .i64 a0_4) := (yac a5.out 4).trans rfl
         have l2 := yaa a5.out 0
         have l3 := yaa a5.out 1
         have l4 := yaa a5.out 2
         have l5 := yaa a5.out 3
         have l6 := yaa a5.out 4
         go_wp2_with (first | ((with_reducible refine gate_callee (f := 42) rfl ?_); refine goesL_ (some 40) rfl rfl Try.func42 (by kernel_rfl) rfl #[.int .i64 a0_1] rfl (by (try simp only [List.map_toArray, List.map_cons, List.map_nil]); first | done | rfl | (simp only [List.length_drop, List.length_take]; rfl)) ?_; (with_reducible refine (impl_sizeOk.calls a0_1 true _ A28.out).mono ?_); rintro e w' ⟨rfl, ⟨nd, rfl⟩⟩; refine ⟨_, rfl, ?_⟩) | (go_at_call 42; (with_reducible refine (impl_sizeOk.calls a0_2 true _ A30.out).mono ?_); rintro e w' ⟨rfl, ⟨nd, rfl⟩⟩))
         go_ret
         exact ⟨by first | rfl | (simp [errW_none, errW_some] <;> rfl) | (simp [*, errW_none, errW_some] <;> rfl), by repeat (first | (with_reducible first | exact HB.out | apply yad | apply yab | apply yae | refine yag ?_ (Aside0.out ‹_›)) | exact HB.out)⟩
        ·
         rw [if_neg c32] at H
         have i9 : (a0_3 == 0) = false := beq_eq_false_iff_ne.mpr c32
         have j1 : (a0_3 != 0) = true := bne_iff_ne.mpr c32
         obtain rfl := Option.some.inj H
         have l7 : wc.cell? ⟨a6, 0, none⟩ = some (.int .i64 a0_0) := (yac a5.out 0).trans rfl
         have l8 : wc.cell? ⟨a6, 1, none⟩ = some (.int .i64 a0_1) := (yac a5.out 1).trans rfl
         have l9 : wc.cell? ⟨a6, 2, none⟩ = some (.int .i64 a0_2) := (yac a5.out 2).trans rfl
         have m0 : wc.cell? ⟨a6, 3, none⟩ = some (.int .i64 a0_3) := (yac a5.out 3).trans rfl
         have m1 : wc.cell? ⟨a6, 4, none⟩ = some (.int .i64 a0_4) := (yac a5.out 4).trans rfl
         have m2 := yaa a5.out 0
         have m3 := yaa a5.out 1
         have m4 := yaa a5.out 2
         have m5 := yaa a5.out 3
         have m6 := yaa a5.out 4
         go_wp2_with (first | ((with_reducible refine gate_callee (f := 42) rfl ?_); refine goesL_ (some 40) rfl rfl Try.func42 (by kernel_rfl) rfl #[.int .i64 a0_1] rfl (by (try simp only [List.map_toArray, List.map_cons, List.map_nil]); first | done | rfl | (simp only [List.length_drop, List.length_take]; rfl)) ?_; (with_reducible refine (impl_sizeOk.calls a0_1 true _ A28.out).mono ?_); rintro e w' ⟨rfl, ⟨nd, rfl⟩⟩; refine ⟨_, rfl, ?_⟩) | (go_at_call 42; (with_reducible refine (impl_sizeOk.calls a0_2 true _ A30.out).mono ?_); rintro e w' ⟨rfl, ⟨nd, rfl⟩⟩))
         go_ret
         exact ⟨by first | rfl | (simp [errW_none, errW_some] <;> rfl) | (simp [*, errW_none, errW_some] <;> rfl), by repeat (first | (with_reducible first | exact HB.out | apply yad | apply yab | apply yae | refine yag ?_ (Aside0.out ‹_›)) | exact HB.out)⟩
       ·
        replace c31 := Bool.eq_false_iff.mpr c31
        subst c31
        have H1 : (some false) = some r := by rw [if_neg (show ¬ (false = true) by decide)] at H; exact H
        clear H
        have H := H1
        clear H1
        obtain rfl := Option.some.inj H
        have m7 : wc.cell? ⟨a6, 0, none⟩ = some (.int .i64 a0_0) := (yac a5.out 0).trans rfl
        have m8 : wc.cell? ⟨a6, 1, none⟩ = some (.int .i64 a0_1) := (yac a5.out 1).trans rfl
        have m9 : wc.cell? ⟨a6, 2, none⟩ = some (.int .i64 a0_2) := (yac a5.out 2).trans rfl
        have n0 : wc.cell? ⟨a6, 3, none⟩ = some (.int .i64 a0_3) := (yac a5.out 3).trans rfl
        have n1 : wc.cell? ⟨a6, 4, none⟩ = some (.int .i64 a0_4) := (yac a5.out 4).trans rfl
        have n2 := yaa a5.out 0
        have n3 := yaa a5.out 1
        have n4 := yaa a5.out 2
        have n5 := yaa a5.out 3
        have n6 := yaa a5.out 4
        go_wp2_with (first | ((with_reducible refine gate_callee (f := 42) rfl ?_); refine goesL_ (some 40) rfl rfl Try.func42 (by kernel_rfl) rfl #[.int .i64 a0_1] rfl (by (try simp only [List.map_toArray, List.map_cons, List.map_nil]); first | done | rfl | (simp only [List.length_drop, List.length_take]; rfl)) ?_; (with_reducible refine (impl_sizeOk.calls a0_1 true _ A28.out).mono ?_); rintro e w' ⟨rfl, ⟨nd, rfl⟩⟩; refine ⟨_, rfl, ?_⟩) | (go_at_call 42; (with_reducible refine (impl_sizeOk.calls a0_2 false _ A30.out).mono ?_); rintro e w' ⟨rfl, ⟨nd, rfl⟩⟩))
        go_ret
        exact ⟨by first | rfl | (simp [errW_none, errW_some] <;> rfl) | (simp [*, errW_none, errW_some] <;> rfl), by repeat (first | (with_reducible first | exact HB.out | apply yad | apply yab | apply yae | refine yag ?_ (Aside0.out ‹_›)) | exact HB.out)⟩
      ·
       replace c29 := Bool.eq_false_iff.mpr c29
       subst c29
       have H1 : (some false) = some r := by rw [if_neg (show ¬ (false = true) by decide)] at H; exact H
       clear H
       have H := H1
       clear H1
       obtain rfl := Option.some.inj H
       have n7 : wc.cell? ⟨a6, 0, none⟩ = some (.int .i64 a0_0) := (yac a5.out 0).trans rfl
       have n8 : wc.cell? ⟨a6, 1, none⟩ = some (.int .i64 a0_1) := (yac a5.out 1).trans rfl
       have n9 : wc.cell? ⟨a6, 2, none⟩ = some (.int .i64 a0_2) := (yac a5.out 2).trans rfl
       have o0 : wc.cell? ⟨a6, 3, none⟩ = some (.int .i64 a0_3) := (yac a5.out 3).trans rfl
       have o1 : wc.cell? ⟨a6, 4, none⟩ = some (.int .i64 a0_4) := (yac a5.out 4).trans rfl
       have o2 := yaa a5.out 0
       have o3 := yaa a5.out 1
       have o4 := yaa a5.out 2
       have o5 := yaa a5.out 3
       have o6 := yaa a5.out 4
       go_wp2_with (first | ((with_reducible refine gate_callee (f := 42) rfl ?_); refine goesL_ (some 40) rfl rfl Try.func42 (by kernel_rfl) rfl #[.int .i64 a0_1] rfl (by (try simp only [List.map_toArray, List.map_cons, List.map_nil]); first | done | rfl | (simp only [List.length_drop, List.length_take]; rfl)) ?_; (with_reducible refine (impl_sizeOk.calls a0_1 false _ A28.out).mono ?_); rintro e w' ⟨rfl, ⟨nd, rfl⟩⟩; refine ⟨_, rfl, ?_⟩))
       go_ret
       exact ⟨by first | rfl | (simp [errW_none, errW_some] <;> rfl) | (simp [*, errW_none, errW_some] <;> rfl), by repeat (first | (with_reducible first | exact HB.out | apply yad | apply yab | apply yae | refine yag ?_ (Aside0.out ‹_›)) | exact HB.out)⟩
     ·
      rw [if_neg c27] at H
      have i5 : (a0_0 == 7) = false := beq_eq_false_iff_ne.mpr c27
      have i6 : (a0_0 != 7) = true := bne_iff_ne.mpr c27
      by_cases c37 : a0_0 = 8
      ·
       rw [if_pos c37] at H
       have j2 : (a0_0 == 8) = true := beq_iff_eq.mpr c37
       have j3 : (a0_0 != 8) = false := bne_eq_false_iff_eq.mpr c37
       clear c37
       replace H := Option.bind_eq_some_iff.mp H
       obtain ⟨h5, j4, H⟩ := H
       replace H : (if h5 = true then ((impl_partOk.f a0_2).bind fun b4 => (if b4 = true then ((impl_partOk.f a0_3).bind fun a9 => (if a9 = true then (some (a0_4 == 0)) else (some false))) else (some false))) else (some false)) = some r := H
       have A38 := yaf j4
       clear j4
       by_cases c39 : h5 = true
       ·
        subst c39
        have H1 : ((impl_partOk.f a0_2).bind fun b4 => (if b4 = true then ((impl_partOk.f a0_3).bind fun a9 => (if a9 = true then (some (a0_4 == 0)) else (some false))) else (some false))) = some r := by rw [if_pos rfl] at H; exact H
        clear H
        have H := H1
        clear H1
        replace H := Option.bind_eq_some_iff.mp H
        obtain ⟨b4, j5, H⟩ := H
        replace H : (if b4 = true then ((impl_partOk.f a0_3).bind fun a9 => (if a9 = true then (some (a0_4 == 0)) else (some false))) else (some false)) = some r := H
        have A40 := yaf j5
        clear j5
        by_cases c41 : b4 = true
        ·
         subst c41
         have H1 : ((impl_partOk.f a0_3).bind fun a9 => (if a9 = true then (some (a0_4 == 0)) else (some false))) = some r := by rw [if_pos rfl] at H; exact H
         clear H
         have H := H1
         clear H1
         replace H := Option.bind_eq_some_iff.mp H
         obtain ⟨a9, j6, H⟩ := H
         replace H : (if a9 = true then (some (a0_4 == 0)) else (some false)) = some r := H
         have A42 := yaf j6
         clear j6
         by_cases c43 : a9 = true
         ·
          subst c43
          have H1 : (some (a0_4 == 0)) = some r := by rw [if_pos rfl] at H; exact H
          clear H
          have H := H1
          clear H1
          obtain rfl := Option.some.inj H
          have o7 : wc.cell? ⟨a6, 0, none⟩ = some (.int .i64 a0_0) := (yac a5.out 0).trans rfl
          have o8 : wc.cell? ⟨a6, 1, none⟩ = some (.int .i64 a0_1) := (yac a5.out 1).trans rfl
          have o9 : wc.cell? ⟨a6, 2, none⟩ = some (.int .i64 a0_2) := (yac a5.out 2).trans rfl
          have p0 : wc.cell? ⟨a6, 3, none⟩ = some (.int .i64 a0_3) := (yac a5.out 3).trans rfl
          have p1 : wc.cell? ⟨a6, 4, none⟩ = some (.int .i64 a0_4) := (yac a5.out 4).trans rfl
          have p3 := yaa a5.out 0
          have p4 := yaa a5.out 1
          have p5 := yaa a5.out 2
          have p6 := yaa a5.out 3
          have p7 := yaa a5.out 4
          go_wp2_with (first | ((with_reducible refine gate_callee (f := 60) rfl ?_); refine goesL_ (some 60) rfl rfl Try.func60 (by kernel_rfl) rfl #[.int .i64 a0_1] rfl (by (try simp only [List.map_toArray, List.map_cons, List.map_nil]); first | done | rfl | (simp only [List.length_drop, List.length_take]; rfl)) ?_; (with_reducible refine (impl_partOk.calls a0_1 true _ A38.out).mono ?_); rintro e w' ⟨rfl, ⟨nd, rfl⟩⟩; refine ⟨_, rfl, ?_⟩) | (go_at_call 60; (with_reducible refine (impl_partOk.calls a0_2 true _ A40.out).mono ?_); rintro e w' ⟨rfl, ⟨nd, rfl⟩⟩) | (go_at_call 60; (with_reducible refine (impl_partOk.calls a0_3 true _ A42.out).mono ?_); rintro e w' ⟨rfl, ⟨nd, rfl⟩⟩))
          go_ret
          exact ⟨by first | rfl | (simp [errW_none, errW_some] <;> rfl) | (simp [*, errW_none, errW_some] <;> rfl), by repeat (first | (with_reducible first | exact HB.out | apply yad | apply yab | apply yae | refine yag ?_ (Aside0.out ‹_›)) | exact HB.out)⟩
         ·
          replace c43 := Bool.eq_false_iff.mpr c43
          subst c43
          have H1 : (some false) = some r := by rw [if_neg (show ¬ (false = true) by decide)] at H; exact H
          clear H
          have H := H1
          clear H1
          obtain rfl := Option.some.inj H
          have p8 : wc.cell? ⟨a6, 0, none⟩ = some (.int .i64 a0_0) := (yac a5.out 0).trans rfl
          have p9 : wc.cell? ⟨a6, 1, none⟩ = some (.int .i64 a0_1) := (yac a5.out 1).trans rfl
          have q0 : wc.cell? ⟨a6, 2, none⟩ = some (.int .i64 a0_2) := (yac a5.out 2).trans rfl
          have q1 : wc.cell? ⟨a6, 3, none⟩ = some (.int .i64 a0_3) := (yac a5.out 3).trans rfl
          have q2 : wc.cell? ⟨a6, 4, none⟩ = some (.int .i64 a0_4) := (yac a5.out 4).trans rfl
          have q3 := yaa a5.out 0
          have q4 := yaa a5.out 1
          have q5 := yaa a5.out 2
          have q6 := yaa a5.out 3
          have q7 := yaa a5.out 4
          go_wp2_with (first | ((with_reducible refine gate_callee (f := 60) rfl ?_); refine goesL_ (some 60) rfl rfl Try.func60 (by kernel_rfl) rfl #[.int .i64 a0_1] rfl (by (try simp only [List.map_toArray, List.map_cons, List.map_nil]); first | done | rfl | (simp only [List.length_drop, List.length_take]; rfl)) ?_; (with_reducible refine (impl_partOk.calls a0_1 true _ A38.out).mono ?_); rintro e w' ⟨rfl, ⟨nd, rfl⟩⟩; refine ⟨_, rfl, ?_⟩) | (go_at_call 60; (with_reducible refine (impl_partOk.calls a0_2 true _ A40.out).mono ?_); rintro e w' ⟨rfl, ⟨nd, rfl⟩⟩) | (go_at_call 60; (with_reducible refine (impl_partOk.calls a0_3 false _ A42.out).mono ?_); rintro e w' ⟨rfl, ⟨nd, rfl⟩⟩))
          go_ret
          exact ⟨by first | rfl | (simp [errW_none, errW_some] <;> rfl) | (simp [*, errW_none, errW_some] <;> rfl), by repeat (first | (with_reducible first | exact HB.out | apply yad | apply yab | apply yae | refine yag ?_ (Aside0.out ‹_›)) | exact HB.out)⟩
        ·
         replace c41 := Bool.eq_false_iff.mpr c41
         subst c41
         have H1 : (some false) = some r := by rw [if_neg (show ¬ (false = true) by decide)] at H; exact H
         clear H
         have H := H1
         clear H1
         obtain rfl := Option.some.inj H
         have q8 : wc.cell? ⟨a6, 0, none⟩ = some (.int .i64 a0_0) := (yac a5.out 0).trans rfl
         have q9 : wc.cell? ⟨a6, 1, none⟩ = some (.int .i64 a0_1) := (yac a5.out 1).trans rfl
         have r0 : wc.cell? ⟨a6, 2, none⟩ = some (.int .i64 a0_2) := (yac a5.out 2).trans rfl
         have r1 : wc.cell? ⟨a6, 3, none⟩ = some (.int .i64 a0_3) := (yac a5.out 3).trans rfl
         have r2 : wc.cell? ⟨a6, 4, none⟩ = some (.int .i64 a0_4) := (yac a5.out 4).trans rfl
         have r3 := yaa a5.out 0
         have r4 := yaa a5.out 1
         have r5 := yaa a5.out 2
         have r6 := yaa a5.out 3
         have r7 := yaa a5.out 4
         go_wp2_with (first | ((with_reducible refine gate_callee (f := 60) rfl ?_); refine goesL_ (some 60) rfl rfl Try.func60 (by kernel_rfl) rfl #[.int .i64 a0_1] rfl (by (try simp only [List.map_toArray, List.map_cons, List.map_nil]); first | done | rfl | (simp only [List.length_drop, List.length_take]; rfl)) ?_; (with_reducible refine (impl_partOk.calls a0_1 true _ A38.out).mono ?_); rintro e w' ⟨rfl, ⟨nd, rfl⟩⟩; refine ⟨_, rfl, ?_⟩) | (go_at_call 60; (with_reducible refine (impl_partOk.calls a0_2 false _ A40.out).mono ?_); rintro e w' ⟨rfl, ⟨nd, rfl⟩⟩))
         go_ret
         exact ⟨by first | rfl | (simp [errW_none, errW_some] <;> rfl) | (simp [*, errW_none, errW_some] <;> rfl), by repeat (first | (with_reducible first | exact HB.out | apply yad | apply yab | apply yae | refine yag ?_ (Aside0.out ‹_›)) | exact HB.out)⟩
       ·
        replace c39 := Bool.eq_false_iff.mpr c39
        subst c39
        have H1 : (some false) = some r := by rw [if_neg (show ¬ (false = true) by decide)] at H; exact H
        clear H
        have H := H1
        clear H1
        obtain rfl := Option.some.inj H
        have r8 : wc.cell? ⟨a6, 0, none⟩ = some (.int .i64 a0_0) := (yac a5.out 0).trans rfl
        have r9 : wc.cell? ⟨a6, 1, none⟩ = some (.int .i64 a0_1) := (yac a5.out 1).trans rfl
        have s0 : wc.cell? ⟨a6, 2, none⟩ = some (.int .i64 a0_2) := (yac a5.out 2).trans rfl
        have s1 : wc.cell? ⟨a6, 3, none⟩ = some (.int .i64 a0_3) := (yac a5.out 3).trans rfl
        have s2 : wc.cell? ⟨a6, 4, none⟩ = some (.int .i64 a0_4) := (yac a5.out 4).trans rfl
        have s3 := yaa a5.out 0
        have s4 := yaa a5.out 1
        have s5 := yaa a5.out 2
        have s6 := yaa a5.out 3
        have s7 := yaa a5.out 4
        go_wp2_with (first | ((with_reducible refine gate_callee (f := 60) rfl ?_); refine goesL_ (some 60) rfl rfl Try.func60 (by kernel_rfl) rfl #[.int .i64 a0_1] rfl (by (try simp only [List.map_toArray, List.map_cons, List.map_nil]); first | done | rfl | (simp only [List.length_drop, List.length_take]; rfl)) ?_; (with_reducible refine (impl_partOk.calls a0_1 false _ A38.out).mono ?_); rintro e w' ⟨rfl, ⟨nd, rfl⟩⟩; refine ⟨_, rfl, ?_⟩))
        go_ret
        exact ⟨by first | rfl | (simp [errW_none, errW_some] <;> rfl) | (simp [*, errW_none, errW_some] <;> rfl), by repeat (first | (with_reducible first | exact HB.out | apply yad | apply yab | apply yae | refine yag ?_ (Aside0.out ‹_›)) | exact HB.out)⟩
      ·
       rw [if_neg c37] at H
       have j2 : (a0_0 == 8) = false := beq_eq_false_iff_ne.mpr c37
       have j3 : (a0_0 != 8) = true := bne_iff_ne.mpr c37
       obtain rfl := Option.some.inj H
       go_wp2
       go_ret
       exact ⟨by first | rfl | (simp [errW_none, errW_some] <;> rfl) | (simp [*, errW_none, errW_some] <;> rfl), by repeat (first | (with_reducible first | exact HB.out | apply yad | apply yab | apply yae | refine yag ?_ (Aside0.out ‹_›)) | exact HB.out)⟩

end Go.Proofs.Ytoifpgkfpdeglaa.X

namespace Go.Proofs.Ytoifpgkfpdeglaa.X
open Go.RowKit Go.Proofs.YtoifpgkfpdeglaaW.PrintWords Go.Proofs.YtoifpgkfpdeglaaW.PrintLast Go.Proofs.YtoifpgkfpdeglaaW.PrintMore
attribute [local go_sem] max2_int min2_int max_two min_two max_three min_three max_four min_four
set_option linter.unusedVariables false
set_option linter.unusedSimpArgs false

open Go.Proofs.Ytoifpgkfpdeglaa.X renaming rd_T27 → yaa
open Go.Proofs.YtoifpgkfpdeglaaW.PrintWords renaming pw_below_drewN → yab, below_alloc → yad, below_drew1 → yae
open Go.Proofs.YtoifpgkfpdeglaaW.PrintWords.Aside0 renaming mk → yac

/-! ### impl_opsOk: function 51 -/

end Go.Proofs.Ytoifpgkfpdeglaa.X

namespace Go.Proofs.Ytoifpgkfpdeglaa.X
open Go.RowKit Go.Proofs.YtoifpgkfpdeglaaW.PrintWords Go.Proofs.YtoifpgkfpdeglaaW.PrintLast Go.Proofs.YtoifpgkfpdeglaaW.PrintMore
attribute [local go_sem] max2_int min2_int max_two min_two max_three min_three max_four min_four
set_option linter.unusedVariables false
set_option linter.unusedSimpArgs false

/-! ### spec_l1In: function 41 -/
def spec_l1In.f (a0 : Int) (a1 : Int) (a2 : Int) : Option (Bool) := if a0 ≥ a1 then (some (decide (a0 ≤ a2))) else (some false)
set_option maxHeartbeats 8000000 in
set_option maxRecDepth 100000 in
theorem spec_l1In.calls (a0 : Int) (a1 : Int) (a2 : Int) (r : Bool) (w : World) (h : spec_l1In.f a0 a1 a2 = some r) :
    Calls Try.prog 41 #[.int .i64 a0, .int .i64 a1, .int .i64 a2] w fun e w' => e = .returned (.bool r) ∧ Drawn0 w w' := by
  have H : (if a0 ≥ a1 then (some (decide (a0 ≤ a2))) else (some false)) = some r := h
  clear h
  by_cases c4 : a0 ≥ a1
  · rw [if_pos c4] at H
    have c4b0 : decide (a1 ≤ a0) = true := decide_eq_true c4
    clear c4
    obtain rfl := Option.some.inj H
    go_enter Try.func41, Try.ntmps41
    go_wp2
    go_ret
    exact ⟨by first | rfl | (simp; done) | (simp [*]; done), by repeat (first | exact Drawn0.refl _ | apply Drawn0.step)⟩
  · rw [if_neg c4] at H
    have c4b0 : decide (a1 ≤ a0) = false := decide_eq_false c4
    clear c4
    obtain rfl := Option.some.inj H
    go_enter Try.func41, Try.ntmps41
    go_wp2
    go_ret
    exact ⟨by first | rfl | (simp; done) | (simp [*]; done), by repeat (first | exact Drawn0.refl _ | apply Drawn0.step)⟩

end Go.Proofs.Ytoifpgkfpdeglaa.X

namespace Go.Proofs.Ytoifpgkfpdeglaa.X
open Go.RowKit Go.Proofs.YtoifpgkfpdeglaaW.PrintWords Go.Proofs.YtoifpgkfpdeglaaW.PrintLast Go.Proofs.YtoifpgkfpdeglaaW.PrintMore
attribute [local go_sem] max2_int min2_int max_two min_two max_three min_three max_four min_four
set_option linter.unusedVariables false
set_option linter.unusedSimpArgs false

open Go.Proofs.YtoifpgkfpdeglaaW.PrintWords renaming pw_below_drewN → yaa, blk_frozen → yab, below_alloc → yac, below_drew1 → yad, blk_cell → yaf, below_size → yag, gate_callee → yah, below_step → yai, box_event → yaj, below_set → yak
open Go.Proofs.YtoifpgkfpdeglaaW.PrintWords.Aside0 renaming mk → yae

/-! ### spec_OpOk: function 38 -/
def spec_OpOk.f (a0_0 : Int) (a0_1 : Int) (a0_2 : Int) (a0_3 : Int) (a0_4 : Int) : Option (Bool) := if a0_0 = 1 then ((spec_l1In.f a0_1 0 5).bind fun t102 => (if t102 = true then ((spec_l1In.f a0_2 0 5).bind fun t103 => (if t103 = true then ((spec_l1In.f a0_3 1 6).bind fun t104 => (if t104 = true then ((spec_l1In.f a0_4 1 6).bind fun t105 => (some t105)) else (some false))) else (some false))) else (some false))) else (if a0_0 = 7 then ((spec_l1In.f a0_1 1 6).bind fun t106 => (if t106 = true then ((spec_l1In.f a0_2 1 6).bind fun t107 => (if t107 = true then (if a0_3 = 0 then (some (a0_4 == 0)) else (some false)) else (some false))) else (some false))) else (if a0_0 = 8 then ((spec_l1In.f a0_1 0 255).bind fun t108 => (if t108 = true then ((spec_l1In.f a0_2 0 255).bind fun t109 => (if t109 = true then ((spec_l1In.f a0_3 0 255).bind fun t110 => (if t110 = true then (some (a0_4 == 0)) else (some false))) else (some false))) else (some false))) else ((spec_l1In.f a0_0 2 6).bind fun t111 => (if t111 = true then (if a0_1 = 0 then (if a0_2 = 0 then (if a0_3 = 0 then (some (a0_4 == 0)) else (some false)) else (some false)) else (some false)) else (some false)))))
set_option maxHeartbeats 8000000 in
set_option maxRecDepth 100000 in
theorem spec_OpOk.calls (a0_0 : Int) (a0_1 : Int) (a0_2 : Int) (a0_3 : Int) (a0_4 : Int) (r : Bool) (w : World) (h : spec_OpOk.f a0_0 a0_1 a0_2 a0_3 a0_4 = some r) :
  Calls Try.prog 38 #[.agg #[.int .i64 a0_0, .int .i64 a0_1, .int .i64 a0_2, .int .i64 a0_3, .int .i64 a0_4]] w fun e w' => e = .returned (.bool r) ∧ Below w.heap.size w w' := by
 have hu27 := Try.underlying27
 have HB := yae (Below.refl w.heap.size w)
 have H : (if a0_0 = 1 then ((spec_l1In.f a0_1 0 5).bind fun b0 => (if b0 = true then ((spec_l1In.f a0_2 0 5).bind fun a7 => (if a7 = true then ((spec_l1In.f a0_3 1 6).bind fun a5 => (if a5 = true then ((spec_l1In.f a0_4 1 6).bind fun a4 => (some a4)) else (some false))) else (some false))) else (some false))) else (if a0_0 = 7 then ((spec_l1In.f a0_1 1 6).bind fun b1 => (if b1 = true then ((spec_l1In.f a0_2 1 6).bind fun a8 => (if a8 = true then (if a0_3 = 0 then (some (a0_4 == 0)) else (some false)) else (some false))) else (some false))) else (if a0_0 = 8 then ((spec_l1In.f a0_1 0 255).bind fun b2 => (if b2 = true then ((spec_l1In.f a0_2 0 255).bind fun a9 => (if a9 = true then ((spec_l1In.f a0_3 0 255).bind fun a6 => (if a6 = true then (some (a0_4 == 0)) else (some false))) else (some false))) else (some false))) else ((spec_l1In.f a0_0 2 6).bind fun b3 => (if b3 = true then (if a0_1 = 0 then (if a0_2 = 0 then (if a0_3 = 0 then (some (a0_4 == 0)) else (some false)) else (some false)) else (some false)) else (some false)))))) = some r := h
 clear h
 by_cases c2 : a0_0 = 1
 ·
  rw [if_pos c2] at H
  have u6 : (a0_0 == 1) = true := beq_iff_eq.mpr c2
  have u7 : (a0_0 != 1) = false := bne_eq_false_iff_eq.mpr c2
  clear c2
  replace H := Option.bind_eq_some_iff.mp H
  obtain ⟨b0, A30, H⟩ := H
  replace H : (if b0 = true then ((spec_l1In.f a0_2 0 5).bind fun a7 => (if a7 = true then ((spec_l1In.f a0_3 1 6).bind fun a5 => (if a5 = true then ((spec_l1In.f a0_4 1 6).bind fun a4 => (some a4)) else (some false))) else (some false))) else (some false)) = some r := H
  have A3 := yae A30
  clear A30
  by_cases c4 : b0 = true
  ·
   subst c4
   have H1 : ((spec_l1In.f a0_2 0 5).bind fun a7 => (if a7 = true then ((spec_l1In.f a0_3 1 6).bind fun a5 => (if a5 = true then ((spec_l1In.f a0_4 1 6).bind fun a4 => (some a4)) else (some false))) else (some false))) = some r := by rw [if_pos rfl] at H; exact H
   clear H
   have H := H1
   clear H1
   replace H := Option.bind_eq_some_iff.mp H
   obtain ⟨a7, A50, H⟩ := H
   replace H : (if a7 = true then ((spec_l1In.f a0_3 1 6).bind fun a5 => (if a5 = true then ((spec_l1In.f a0_4 1 6).bind fun a4 => (some a4)) else (some false))) else (some false)) = some r := H
   have A5 := yae A50
   clear A50
   by_cases c6 : a7 = true
   ·
    subst c6
    have H1 : ((spec_l1In.f a0_3 1 6).bind fun a5 => (if a5 = true then ((spec_l1In.f a0_4 1 6).bind fun a4 => (some a4)) else (some false))) = some r := by rw [if_pos rfl] at H; exact H
    clear H
    have H := H1
    clear H1
    replace H := Option.bind_eq_some_iff.mp H
    obtain ⟨a5, A70, H⟩ := H
    replace H : (if a5 = true then ((spec_l1In.f a0_4 1 6).bind fun a4 => (some a4)) else (some false)) = some r := H
    have A7 := yae A70
    clear A70
    by_cases c8 : a5 = true
    ·
     subst c8
     have H1 : ((spec_l1In.f a0_4 1 6).bind fun a4 => (some a4)) = some r := by rw [if_pos rfl] at H; exact H
     clear H
     have H := H1
     clear H1
     replace H := Option.bind_eq_some_iff.mp H
     obtain ⟨a4, A90, H⟩ := H
     replace H : (some a4) = some r := H
     have A9 := yae A90
     clear A90
     obtain rfl := Option.some.inj H
     go_enter Try.func38, Try.ntmps38
     go_wp2_with (first | ((with_reducible refine gate_dst (N := 1) rfl ?_); refine yaj ?hg (N := 1) ?hd (cs := #[.int .i64 a0_0, .int .i64 a0_1, .int .i64 a0_2, .int .i64 a0_3, .int .i64 a0_4]) (t := 27) ?hr ?_; (case hd => rfl); (case hg => rfl); (case hr => first | (go_simp; done) | (go_simp; rfl)); intro a1 hg w10 hbox hb; have n0_ := yae (yai (by repeat (first | (with_reducible first | exact HB.out | apply yac | apply yaa | apply yad) | exact HB.out)) hb); have n1_ := yae (hbox); have n2_ := yae ((by rw [hg]; exact (yag (by repeat (first | (with_reducible first | exact HB.out | apply yac | apply yaa | apply yad) | exact HB.out))) : w.heap.size ≤ a1)); have n3_ := yae ((by rw [hg]; exact (yag (by repeat (first | (with_reducible first | exact HB.out | apply yac | apply yaa | apply yad) | exact HB.out))) : w.heap.size ≤ a1)); clear HB; have HB := n0_; have a0 := n1_; have a2 := n2_; have a3 := n3_; clear n0_ n1_ n2_ n3_; clear hb hbox hg; have d6 : w10.cell? ⟨a1, 0, none⟩ = some (.int .i64 a0_0) := (yaf a0.out 0).trans rfl; have d7 : w10.cell? ⟨a1, 1, none⟩ = some (.int .i64 a0_1) := (yaf a0.out 1).trans rfl; have d8 : w10.cell? ⟨a1, 2, none⟩ = some (.int .i64 a0_2) := (yaf a0.out 2).trans rfl; have d9 : w10.cell? ⟨a1, 3, none⟩ = some (.int .i64 a0_3) := (yaf a0.out 3).trans rfl; have e0 : w10.cell? ⟨a1, 4, none⟩ = some (.int .i64 a0_4) := (yaf a0.out 4).trans rfl; have e1 := yab a0.out 0; have e2 := yab a0.out 1; have e3 := yab a0.out 2; have e4 := yab a0.out 3; have e5 := yab a0.out 4) | ((with_reducible refine yah (f := 41) rfl ?_); refine goesL_ (some 9) rfl rfl Try.func41 (by kernel_rfl) rfl #[.int .i64 a0_1, .int .i64 0, .int .i64 5] rfl (by (try simp only [List.map_toArray, List.map_cons, List.map_nil]); first | done | rfl | (simp only [List.length_drop, List.length_take]; rfl)) ?_; (with_reducible refine (spec_l1In.calls a0_1 0 5 true _ A3.out).mono ?_); rintro e w' ⟨rfl, ⟨nd, rfl⟩⟩; refine ⟨_, rfl, ?_⟩) | (go_at_call 41; (with_reducible refine (spec_l1In.calls a0_2 0 5 true _ A5.out).mono ?_); rintro e w' ⟨rfl, ⟨nd, rfl⟩⟩) | (go_at_call 41; (with_reducible refine (spec_l1In.calls a0_3 1 6 true _ A7.out).mono ?_); rintro e w' ⟨rfl, ⟨nd, rfl⟩⟩) | (go_at_call 41; (with_reducible refine (spec_l1In.calls a0_4 1 6 a4 _ A9.out).mono ?_); rintro e w' ⟨rfl, ⟨nd, rfl⟩⟩))
     go_ret
     exact ⟨by first | rfl | (simp [errW_none, errW_some] <;> rfl) | (simp [*, errW_none, errW_some] <;> rfl), by repeat (first | (with_reducible first | exact HB.out | apply yac | apply yaa | apply yad | refine yak ?_ (Aside0.out ‹_›)) | exact HB.out)⟩
    ·
     replace c8 := Bool.eq_false_iff.mpr c8
     subst c8
     have H1 : (some false) = some r := by rw [if_neg (show ¬ (false = true) by decide)] at H; exact H
     clear H
     have H := H1
     clear H1
     obtain rfl := Option.some.inj H
     go_enter Try.func38, Try.ntmps38
     go_wp2_with (first | ((with_reducible refine gate_dst (N := 1) rfl ?_); refine yaj ?hg (N := 1) ?hd (cs := #[.int .i64 a0_0, .int .i64 a0_1, .int .i64 a0_2, .int .i64 a0_3, .int .i64 a0_4]) (t := 27) ?hr ?_; (case hd => rfl); (case hg => rfl); (case hr => first | (go_simp; done) | (go_simp; rfl)); intro a1 hg w12 hbox hb; have n0_ := yae (yai (by repeat (first | (with_reducible first | exact HB.out | apply yac | apply yaa | apply yad) | exact HB.out)) hb); have n1_ := yae (hbox); have n2_ := yae ((by rw [hg]; exact (yag (by repeat (first | (with_reducible first | exact HB.out | apply yac | apply yaa | apply yad) | exact HB.out))) : w.heap.size ≤ a1)); have n3_ := yae ((by rw [hg]; exact (yag (by repeat (first | (with_reducible first | exact HB.out | apply yac | apply yaa | apply yad) | exact HB.out))) : w.heap.size ≤ a1)); clear HB; have HB := n0_; have a0 := n1_; have a2 := n2_; have a3 := n3_; clear n0_ n1_ n2_ n3_; clear hb hbox hg; have e6 : w12.cell? ⟨a1, 0, none⟩ = some (.int .i64 a0_0) := (yaf a0.out 0).trans rfl; have e7 : w12.cell? ⟨a1, 1, none⟩ = some (.int .i64 a0_1) := (yaf a0.out 1).trans rfl; have e8 : w12.cell? ⟨a1, 2, none⟩ = some (.int .i64 a0_2) := (yaf a0.out 2).trans rfl; have e9 : w12.cell? ⟨a1, 3, none⟩ = some (.int .i64 a0_3) := (yaf a0.out 3).trans rfl; have f0 : w12.cell? ⟨a1, 4, none⟩ = some (.int .i64 a0_4) := (yaf a0.out 4).trans rfl; have f1 := yab a0.out 0; have f2 := yab a0.out 1; have f3 := yab a0.out 2; have f4 := yab a0.out 3; have f5 := yab a0.out 4) | ((with_reducible refine yah (f := 41) rfl ?_); refine goesL_ (some 9) rfl rfl Try.func41 (by kernel_rfl) rfl #[.int .i64 a0_1, .int .i64 0, .int .i64 5] rfl (by (try simp only [List.map_toArray, List.map_cons, List.map_nil]); first | done | rfl | (simp only [List.length_drop, List.length_take]; rfl)) ?_; (with_reducible refine (spec_l1In.calls a0_1 0 5 true _ A3.out).mono ?_); rintro e w' ⟨rfl, ⟨nd, rfl⟩⟩; refine ⟨_, rfl, ?_⟩) | (go_at_call 41; (with_reducible refine (spec_l1In.calls a0_2 0 5 true _ A5.out).mono ?_); rintro e w' ⟨rfl, ⟨nd, rfl⟩⟩) | (go_at_call 41; (with_reducible refine (spec_l1In.calls a0_3 1 6 false _ A7.out).mono ?_); rintro e w' ⟨rfl, ⟨nd, rfl⟩⟩))
     go_ret
     exact ⟨by first | rfl | (simp [errW_none, errW_some] <;> rfl) | (simp [*, errW_none, errW_some] <;> rfl), by repeat (first | (with_reducible first | exact HB.out | apply yac | apply yaa | apply yad | refine yak ?_ (Aside0.out ‹_›)) | exact HB.out)⟩
   ·
    replace c6 := Bool.eq_false_iff.mpr c6
    subst c6
    have H1 : (some false) = some r := by rw [if_neg (show ¬ (false = true) by decide)] at H; exact H
    clear H
    have H := H1
    clear H1
    obtain rfl := Option.some.inj H
    go_enter Try.func38, Try.ntmps38
    go_wp2_with (first | ((with_reducible refine gate_dst (N := 1) rfl ?_); refine yaj ?hg (N := 1) ?hd (cs := #[.int .i64 a0_0, .int .i64 a0_1, .int .i64 a0_2, .int .i64 a0_3, .int .i64 a0_4]) (t := 27) ?hr ?_; (case hd => rfl); (case hg => rfl); (case hr => first | (go_simp; done) | (go_simp; rfl)); intro a1 hg w14 hbox hb; have n0_ := yae (yai (by repeat (first | (with_reducible first | exact HB.out | apply yac | apply yaa | apply yad) | exact HB.out)) hb); have n1_ := yae (hbox); have n2_ := yae ((by rw [hg]; exact (yag (by repeat (first | (with_reducible first | exact HB.out | apply yac | apply yaa | apply yad) | exact HB.out))) : w.heap.size ≤ a1)); have n3_ := yae ((by rw [hg]; exact (yag (by repeat (first | (with_reducible first | exact HB.out | apply yac | apply yaa | apply yad) | exact HB.out))) : w.heap.size ≤ a1)); clear HB; have HB := n0_; have a0 := n1_; have a2 := n2_; have a3 := n3_; clear n0_ n1_ n2_ n3_; clear hb hbox hg; have f6 : w14.cell? ⟨a1, 0, none⟩ = some (.int .i64 a0_0) := (yaf a0.out 0).trans rfl; have f7 : w14.cell? ⟨a1, 1, none⟩ = some (.int .i64 a0_1) := (yaf a0.out 1).trans rfl; have f8 : w14.cell? ⟨a1, 2, none⟩ = some (.int .i64 a0_2) := (yaf a0.out 2).trans rfl; have f9 : w14.cell? ⟨a1, 3, none⟩ = some (.int .i64 a0_3) := (yaf a0.out 3).trans rfl; have g0 : w14.cell? ⟨a1, 4, none⟩ = some (.int .i64 a0_4) := (yaf a0.out 4).trans rfl; have g1 := yab a0.out 0; have g2 := yab a0.out 1; have g3 := yab a0.out 2; have g4 := yab a0.out 3; have g5 := yab a0.out 4) | ((with_reducible refine yah (f := 41) rfl ?_); refine goesL_ (some 9) rfl rfl Try.func41 (by kernel_rfl) rfl #[.int .i64 a0_1, .int .i64 0, .int .i64 5] rfl (by (try simp only [List.map_toArray, List.map_cons, List.map_nil]); first | done | rfl | (simp only [List.length_drop, List.length_take]; rfl)) ?_; (with_reducible refine (spec_l1In.calls a0_1 0 5 true _ A3.out).mono ?_); rintro e w' ⟨rfl, ⟨nd, rfl⟩⟩; refine ⟨_, rfl, ?_⟩) | (go_at_call 41; (with_reducible refine (spec_l1In.calls a0_2 0 5 false _ A5.out).mono ?_); rintro e w' ⟨rfl, ⟨nd, rfl⟩⟩))
    go_ret
    exact ⟨by first | rfl | (simp [errW_none, errW_some] <;> rfl) | (simp [*, errW_none, errW_some] <;> rfl), by repeat (first | (with_reducible first | exact HB.out | apply yac | apply yaa | apply yad | refine yak ?_ (Aside0.out ‹_›)) | exact HB.out)⟩
  ·
   replace c4 := Bool.eq_false_iff.mpr c4
   subst c4
   have H1 : (some false) = some r := by rw [if_neg (show ¬ (false = true) by decide)] at H; exact H
   clear H
   have H := H1
   clear H1
   obtain rfl := Option.some.inj H
   go_enter Try.func38, Try.ntmps38
   go_wp2_with (first | ((with_reducible refine gate_dst (N := 1) rfl ?_); refine yaj ?hg (N := 1) ?hd (cs := #[.int .i64 a0_0, .int .i64 a0_1, .int .i64 a0_2, .int .i64 a0_3, .int .i64 a0_4]) (t := 27) ?hr ?_; (case hd => rfl); (case hg => rfl); (case hr => first | (go_simp; done) | (go_simp; rfl)); intro a1 hg w16 hbox hb; have n0_ := yae (yai (by repeat (first | (with_reducible first | exact HB.out | apply yac | apply yaa | apply yad) | exact HB.out)) hb); have n1_ := yae (hbox); have n2_ := yae ((by rw [hg]; exact (yag (by repeat (first | (with_reducible first | exact HB.out | apply yac | apply yaa | apply yad) | exact HB.out))) : w.heap.size ≤ a1)); have n3_ := yae ((by rw [hg]; exact (yag (by repeat (first | (with_reducible first | exact HB.out | apply yac | apply yaa | apply yad) | exact HB.out))) : w.heap.size ≤ a1)); clear HB; have HB := n0_; have a0 := n1_; have a2 := n2_; have a3 := n3_; clear n0_ n1_ n2_ n3_; clear hb hbox hg; have g6 : w16.cell? ⟨a1, 0, none⟩ = some (.int .i64 a0_0) := (yaf a0.out 0).trans rfl; have g7 : w16.cell? ⟨a1, 1, none⟩ = some (.int .i64 a0_1) := (yaf a0.out 1).trans rfl; have g8 : w16.cell? ⟨a1, 2, none⟩ = some (.int .i64 a0_2) := (yaf a0.out 2).trans rfl; have g9 : w16.cell? ⟨a1, 3, none⟩ = some (.int .i64 a0_3) := (yaf a0.out 3).trans rfl; have h0 : w16.cell? ⟨a1, 4, none⟩ = some (.int .i64 a0_4) := (yaf a0.out 4).trans rfl; have h1 := yab a0.out 0; have h2 := yab a0.out 1; have h3 := yab a0.out 2; have h4 := yab a0.out 3; have h5 := yab a0.out 4) | ((with_reducible refine yah (f := 41) rfl ?_); refine goesL_ (some 9) rfl rfl Try.func41 (by kernel_rfl) rfl #[.int .i64 a0_1, .int .i64 0, .int .i64 5] rfl (by (try simp only [List.map_toArray, List.map_cons, List.map_nil]); first | done | rfl | (simp only [List.length_drop, List.length_take]; rfl)) ?_; (with_reducible refine (spec_l1In.calls a0_1 0 5 false _ A3.out).mono ?_); rintro e w' ⟨rfl, ⟨nd, rfl⟩⟩; refine ⟨_, rfl, ?_⟩))
   go_ret
   exact ⟨by first | rfl | (simp [errW_none, errW_some] <;> rfl) | (simp [*, errW_none, errW_some] <;> rfl), by repeat (first | (with_reducible first | exact HB.out | apply yac | apply yaa | apply yad | refine yak ?_ (Aside0.out ‹_›)) | exact HB.out)⟩
 ·
  rw [if_neg c2] at H
  have u6 : (a0_0 == 1) = false := beq_eq_false_iff_ne.mpr c2
  have u7 : (a0_0 != 1) = true := bne_iff_ne.mpr c2
  by_cases c18 : a0_0 = 7
  ·
   rw [if_pos c18] at H
   have b4 : (a0_0 == 7) = true := beq_iff_eq.mpr c18
   have b5 : (a0_0 != 7) = false := bne_eq_false_iff_eq.mpr c18
   clear c18
   replace H := Option.bind_eq_some_iff.mp H
   obtain ⟨b1, b6, H⟩ := H
   replace H : (if b1 = true then ((spec_l1In.f a0_2 1 6).bind fun a8 => (if a8 = true then (if a0_3 = 0 then (some (a0_4 == 0)) else (some false)) else (some false))) else (some false)) = some r := H
   have A19 := yae b6
   clear b6
   by_cases c20 : b1 = true
   ·
    subst c20
    have H1 : ((spec_l1In.f a0_2 1 6).bind fun a8 => (if a8 = true then (if a0_3 = 0 then (some (a0_4 == 0)) else (some false)) else (some false))) = some r := by rw [if_pos rfl] at H; exact H
    clear H
    have H := H1
    clear H1
    replace H := Option.bind_eq_some_iff.mp H
    obtain ⟨a8, b7, H⟩ := H
    replace H : (if a8 = true then (if a0_3 = 0 then (some (a0_4 == 0)) else (some false)) else (some false)) = some r := H
    have A21 := yae b7
    clear b7
    by_cases c22 : a8 = true
    ·
     subst c22
     have H1 : (if a0_3 = 0 then (some (a0_4 == 0)) else (some false)) = some r := by rw [if_pos rfl] at H; exact H
     clear H
     have H := H1
     clear H1
     by_cases c23 : a0_3 = 0
     ·
      rw [if_pos c23] at H
      have b8 : (a0_3 == 0) = true := beq_iff_eq.mpr c23
      have b9 : (a0_3 != 0) = false := bne_eq_false_iff_eq.mpr c23
      clear c23
      obtain rfl := Option.some.inj H
      go_enter Try.func38, Try.ntmps38
      go_wp2_with (first | ((with_reducible refine gate_dst (N := 1) rfl ?_); refine yaj ?hg (N := 1) ?hd (cs := #[.int .i64 a0_0, .int .i64 a0_1, .int .i64 a0_2, .int .i64 a0_3, .int .i64 a0_4]) (t := 27) ?hr ?_; (case hd => rfl); (case hg => rfl); (case hr => first | (go_simp; done) | (go_simp; rfl)); intro a1 hg w24 hbox hb; have n0_ := yae (yai (by repeat (first | (with_reducible first | exact HB.out | apply yac | apply yaa | apply yad) | exact HB.out)) hb); have n1_ := yae (hbox); have n2_ := yae ((by rw [hg]; exact (yag (by repeat (first | (with_reducible first | exact HB.out | apply yac | apply yaa | apply yad) | exact HB.out))) : w.heap.size ≤ a1)); have n3_ := yae ((by rw [hg]; exact (yag (by repeat (first | (with_reducible first | exact HB.out | apply yac | apply yaa | apply yad) | exact HB.out))) : w.heap.size ≤ a1)); clear HB; have HB := n0_; have a0 := n1_; have a2 := n2_; have a3 := n3_; clear n0_ n1_ n2_ n3_; clear hb hbox hg; have h6 : w24.cell? ⟨a1, 0, none⟩ = some (.int .i64 a0_0) := (yaf a0.out 0).trans rfl; have h7 : w24.cell? ⟨a1, 1, none⟩ = some (.int .i64 a0_1) := (yaf a0.out 1).trans rfl; have h8 : w24.cell? ⟨a1, 2, none⟩ = some (.int .i64 a0_2) := (yaf a0.out 2).trans rfl; have h9 : w24.cell? ⟨a1, 3, none⟩ = some (.int .i64 a0_3) := (yaf a0.out 3).trans rfl; have i0 : w24.cell? ⟨a1, 4, none⟩ = some (.int .i64 a0_4) := (yaf a0.out 4).trans rfl; have i1 := yab a0.out 0; have i2 := yab a0.out 1; have i3 := yab a0.out 2; have i4 := yab a0.out 3; have i5 := yab a0.out 4) | ((with_reducible refine yah (f := 41) rfl ?_); refine goesL_ (some 29) rfl rfl Try.func41 (by kernel_rfl) rfl #[.int .i64 a0_1, .int .i64 1, .int .i64 6] rfl (by (try simp only [List.map_toArray, List.map_cons, List.map_nil]); first | done | rfl | (simp only [List.length_drop, List.length_take]; rfl)) ?_; (with_reducible refine (spec_l1In.calls a0_1 1 6 true _ A19.out).mono ?_); rintro e w' ⟨rfl, ⟨nd, rfl⟩⟩; refine ⟨_, rfl, ?_⟩) | (go_at_call 41; (with_reducible refine (spec_l1In.calls a0_2 1 6 true _ A21.out).mono ?_); rintro e w' ⟨rfl, ⟨nd, rfl⟩⟩))
      go_ret
      exact ⟨by first | rfl | (simp [errW_none, errW_some] <;> rfl) | (simp [*, errW_none, errW_some] <;> rfl), by repeat (first | (with_reducible first | exact HB.out | apply yac | apply yaa | apply yad | refine yak ?_ (Aside0.out ‹_›)) | exact HB.out)⟩
     ·
      rw [if_neg c23] at H
      have b8 : (a0_3 == 0) = false := beq_eq_false_iff_ne.mpr c23
      have b9 : (a0_3 != 0) = true := bne_iff_ne.mpr c23
      obtain rfl := Option.some.inj H
      go_enter Try.func38, Try.ntmps38
      go_wp2_with (first | ((with_reducible refine gate_dst (N := 1) rfl ?_); refine yaj ?hg (N := 1) ?hd (cs := #[.int .i64 a0_0, .int .i64 a0_1, .int .i64 a0_2, .int .i64 a0_3, .int .i64 a0_4]) (t := 27) ?hr ?_; (case hd => rfl); (case hg => rfl); (case hr => first | (go_simp; done) | (go_simp; rfl)); intro a1 hg w26 hbox hb; have n0_ := yae (yai (by repeat (first | (with_reducible first | exact HB.out | apply yac | apply yaa | apply yad) | exact HB.out)) hb); have n1_ := yae (hbox); have n2_ := yae ((by rw [hg]; exact (yag (by repeat (first | (with_reducible first | exact HB.out | apply yac | apply yaa | apply yad) | exact HB.out))) : w.heap.size ≤ a1)); have n3_ := yae ((by rw [hg]; exact (yag (by repeat (first | (with_reducible first | exact HB.out | apply yac | apply yaa | apply yad) | exact HB.out))) : w.heap.size ≤ a1)); clear HB; have HB := n0_; have a0 := n1_; have a2 := n2_; have a3 := n3_; clear n0_ n1_ n2_ n3_; clear hb hbox hg; have i6 : w26.cell? ⟨a1, 0, none⟩ = some (.int .i64 a0_0) := (yaf a0.out 0).trans rfl; have i7 : w26.cell? ⟨a1, 1, none⟩ = some (.int .i64 a0_1) := (yaf a0.out 1).trans rfl; have i8 : w26.cell? ⟨a1, 2, none⟩ = some (.int .i64 a0_2) := (yaf a0.out 2).trans rfl; have i9 : w26.cell? ⟨a1, 3, none⟩ = some (.int .i64 a0_3) := (yaf a0.out 3).trans rfl; have j0 : w26.cell? ⟨a1, 4, none⟩ = some (.int .i64 a0_4) := (yaf a0.out 4).trans rfl; have j1 := yab a0.out 0; have j2 := yab a0.out 1; have j3 := yab a0.out 2; have j4 := yab a0.out 3; have j5 := yab a0.out 4) | ((with_reducible refine yah (f := 41) rfl ?_); refine goesL_ (some 29) rfl rfl Try.func41 (by kernel_rfl) rfl #[.int .i64 a0_1, .int .i64 1, .int .i64 6] rfl (by (try simp only [List.map_toArray, List.map_cons, List.map_nil]); first | done | rfl | (simp only [List.length_drop, List.length_take]; rfl)) ?_; (with_reducible refine (spec_l1In.calls a0_1 1 6 true _ A19.out).mono ?_); rintro e w' ⟨rfl, ⟨nd, rfl⟩⟩; refine ⟨_, rfl, ?_⟩) | (go_at_call 41; (with_reducible refine (spec_l1In.calls a0_2 1 6 true _ A21.out).mono ?_); rintro e w' ⟨rfl, ⟨nd, rfl⟩⟩))
      go_ret
      exact ⟨by first | rfl | (simp [errW_none, errW_some] <;> rfl) | (simp [*, errW_none, errW_some] <;> rfl), by repeat (first | (with_reducible first | exact HB.out | apply yac | apply yaa | apply yad | refine yak ?_ (Aside0.out ‹_›)) | exact HB.out)⟩
    ·
     replace c22 := Bool.eq_false_iff.mpr c22
     subst c22
     have H1 : (some false) = some r := by rw [if_neg (show ¬ (false = true) by decide)] at H; exact H
     clear H
     have H := H1
     clear H1
     obtain rfl := Option.some.inj H
     go_enter Try.func38, Try.ntmps38
     go_wp2_with (first | ((with_reducible refine gate_dst (N := 1) rfl ?_); refine yaj ?hg (N := 1) ?hd (cs := #[.int .i64 a0_0, .int .i64 a0_1, .int .i64 a0_2, .int .i64 a0_3, .int .i64 a0_4]) (t := 27) ?hr ?_; (case hd => rfl); (case hg => rfl); (case hr => first | (go_simp; done) | (go_simp; rfl)); intro a1 hg w28 hbox hb; have n0_ := yae (yai (by repeat (first | (with_reducible first | exact HB.out | apply yac | apply yaa | apply yad) | exact HB.out)) hb); have n1_ := yae (hbox); have n2_ := yae ((by rw [hg]; exact (yag (by repeat (first | (with_reducible first | exact HB.out | apply yac | apply yaa | apply yad) | exact HB.out))) : w.heap.size ≤ a1)); have n3_ := yae ((by rw [hg]; exact (yag (by repeat (first | (with_reducible first | exact HB.out | apply yac | apply yaa | apply yad) | exact HB.out))) : w.heap.size ≤ a1)); clear HB; have HB := n0_; have a0 := n1_; have a2 := n2_; have a3 := n3_; clear n0_ n1_ n2_ n3_; clear hb hbox hg; have j6 : w28.cell? ⟨a1, 0, none⟩ = some (.int .i64 a0_0) := (yaf a0.out 0).trans rfl; have j7 : w28.cell? ⟨a1, 1, none⟩ = some (.int .i64 a0_1) := (yaf a0.out 1).trans rfl; have j8 : w28.cell? ⟨a1, 2, none⟩ = some (.int .i64 a0_2) := (yaf a0.out 2).trans rfl; have j9 : w28.cell? ⟨a1, 3, none⟩ = some (.int .i64 a0_3) := (yaf a0.out 3).trans rfl; have k0 : w28.cell? ⟨a1, 4, none⟩ = some (.int .i64 a0_4) := (yaf a0.out 4).trans rfl; have k1 := yab a0.out 0; have k2 := yab a0.out 1; have k3 := yab a0.out 2; have k4 := yab a0.out 3; have k5 := yab a0.out 4) | ((with_reducible refine yah (f := 41) rfl ?_); refine goesL_ (some 29) rfl rfl Try.func41 (by kernel_rfl) rfl #[.int .i64 a0_1, .int .i64 1, .int .i64 6] rfl (by (try simp only [List.map_toArray, List.map_cons, List.map_nil]); first | done | rfl | (simp only [List.length_drop, List.length_take]; rfl)) ?_; (with_reducible refine (spec_l1In.calls a0_1 1 6 true _ A19.out).mono ?_); rintro e w' ⟨rfl, ⟨nd, rfl⟩⟩; refine ⟨_, rfl, ?_⟩) | (go_at_call 41; (with_reducible refine (spec_l1In.calls a0_2 1 6 false _ A21.out).mono ?_); rintro e w' ⟨rfl, ⟨nd, rfl⟩⟩))
     go_ret
     exact ⟨by first | rfl | (simp [errW_none, errW_some] <;> rfl) | (simp [*, errW_none, errW_some] <;> rfl), by repeat (first | (with_reducible first | exact HB.out | apply yac | apply yaa | apply yad | refine yak ?_ (Aside0.out ‹_›)) | exact HB.out)⟩
   ·
    replace c20 := Bool.eq_false_iff.mpr c20
    subst c20
    have H1 : (some false) = some r := by rw [if_neg (show ¬ (false = true) by decide)] at H; exact H
    clear H
    have H := H1
    clear H1
    obtain rfl := Option.some.inj H
    go_enter Try.func38, Try.ntmps38
    go_wp2_with (first | ((with_reducible refine gate_dst (N := 1) rfl ?_); refine yaj ?hg (N := 1) ?hd (cs := #[.int .i64 a0_0, .int .i64 a0_1, .int .i64 a0_2, .int .i64 a0_3, .int .i64 a0_4]) (t := 27) ?hr ?_; (case hd => rfl); (case hg => rfl); (case hr => first | (go_simp; done) | (go_simp; rfl)); intro a1 hg w30 hbox hb; have n0_ := yae (yai (by repeat (first | (with_reducible first | exact HB.out | apply yac | apply yaa | apply yad) | exact HB.out)) hb); have n1_ := yae (hbox); have n2_ := yae ((by rw [hg]; exact (yag (by repeat (first | (with_reducible first | exact HB.out | apply yac | apply yaa | apply yad) | exact HB.out))) : w.heap.size ≤ a1)); have n3_ := yae ((by rw [hg]; exact (yag (by repeat (first | (with_reducible first | exact HB.out | apply yac | apply yaa | apply yad) | exact HB.out))) : w.heap.size ≤ a1)); clear HB; have HB := n0_; have a0 := n1_; have a2 := n2_; have a3 := n3_; clear n0_ n1_ n2_ n3_; clear hb hbox hg; have k6 : w30.cell? ⟨a1, 0, none⟩ = some (.int .i64 a0_0) := (yaf a0.out 0).trans rfl; have k7 : w30.cell? ⟨a1, 1, none⟩ = some (.int .i64 a0_1) := (yaf a0.out 1).trans rfl; have k8 : w30.cell? ⟨a1, 2, none⟩ = some (.int .i64 a0_2) := (yaf a0.out 2).trans rfl; have k9 : w30.cell? ⟨a1, 3, none⟩ = some (.int .i64 a0_3) := (yaf a0.out 3).trans rfl; have l0 : w30.cell? ⟨a1, 4, none⟩ = some (.int .i64 a0_4) := (yaf a0.out 4).trans rfl; have l1 := yab a0.out 0; have l2 := yab a0.out 1; have l3 := yab a0.out 2; have l4 := yab a0.out 3; have l5 := yab a0.out 4) | ((with_reducible refine yah (f := 41) rfl ?_); refine goesL_ (some 29) rfl rfl Try.func41 (by kernel_rfl) rfl #[.int .i64 a0_1, .int .i64 1, .int .i64 6] rfl (by (try simp only [List.map_toArray, List.map_cons, List.map_nil]); first | done | rfl | (simp only [List.length_drop, List.length_take]; rfl)) ?_; (with_reducible refine (spec_l1In.calls a0_1 1 6 false _ A19.out).mono ?_); rintro e w' ⟨rfl, ⟨nd, rfl⟩⟩; refine ⟨_, rfl, ?_⟩))
    go_ret
    exact ⟨by first | rfl | (simp [errW_none, errW_some] <;> rfl) | (simp [*, errW_none, errW_some] <;> rfl), by repeat (first | (with_reducible first | exact HB.out | apply yac | apply yaa | apply yad | refine yak ?_ (Aside0.out ‹_›)) | exact HB.out)⟩
  ·
   rw [if_neg c18] at H
   have b4 : (a0_0 == 7) = false := beq_eq_false_iff_ne.mpr c18
   have b5 : (a0_0 != 7) = true := bne_iff_ne.mpr c18
   by_cases c32 : a0_0 = 8
   ·
    rw [if_pos c32] at H
    have c0 : (a0_0 == 8) = true := beq_iff_eq.mpr c32
    have c1 : (a0_0 != 8) = false := bne_eq_false_iff_eq.mpr c32
    clear c32
    replace H := Option.bind_eq_some_iff.mp H
    obtain ⟨b2, c3, H⟩ := H
    replace H : (if b2 = true then ((spec_l1In.f a0_2 0 255).bind fun a9 => (if a9 = true then ((spec_l1In.f a0_3 0 255).bind fun a6 => (if a6 = true then (some (a0_4 == 0)) else (some false))) else (some false))) else (some false)) = some r := H
    have A33 := yae c3
    clear c3
    by_cases c34 : b2 = true
    ·
     subst c34
     have H1 : ((spec_l1In.f a0_2 0 255).bind fun a9 => (if a9 = true then ((spec_l1In.f a0_3 0 255).bind fun a6 => (if a6 = true then (some (a0_4 == 0)) else (some false))) else (some false))) = some r := by rw [if_pos rfl] at H; exact H
     clear H
     have H := H1
     clear H1
     replace H := Option.bind_eq_some_iff.mp H
     obtain ⟨a9, c5, H⟩ := H
     replace H : (if a9 = true then ((spec_l1In.f a0_3 0 255).bind fun a6 => (if a6 = true then (some (a0_4 == 0)) else (some false))) else (some false)) = some r := H
     have A35 := yae c5
     clear c5
     by_cases c36 : a9 = true
     ·
      subst c36
      have H1 : ((spec_l1In.f a0_3 0 255).bind fun a6 => (if a6 = true then (some (a0_4 == 0)) else (some false))) = some r := by rw [if_pos rfl] at H; exact H
      clear H
      have H := H1
      clear H1
      replace H := Option.bind_eq_some_iff.mp H
      obtain ⟨a6, c7, H⟩ := H
      replace H : (if a6 = true then (some (a0_4 == 0)) else (some false)) = some r := H
      have A37 := yae c7
      clear c7
      by_cases c38 : a6 = true
      ·
       subst c38
       have H1 : (some (a0_4 == 0)) = some r := by rw [if_pos rfl] at H; exact H
       clear H
       have H := H1
       clear H1
       obtain rfl := Option.some.inj H
       go_enter Try.func38, Try.ntmps38
       go_wp2_with (first | ((with_reducible refine gate_dst (N := 1) rfl ?_); refine yaj ?hg (N := 1) ?hd (cs := #[.int .i64 a0_0, .int .i64 a0_1, .int .i64 a0_2, .int .i64 a0_3, .int .i64 a0_4]) (t := 27) ?hr ?_; (case hd => rfl); (case hg => rfl); (case hr => first | (go_simp; done) | (go_simp; rfl)); intro a1 hg w39 hbox hb; have n0_ := yae (yai (by repeat (first | (with_reducible first | exact HB.out | apply yac | apply yaa | apply yad) | exact HB.out)) hb); have n1_ := yae (hbox); have n2_ := yae ((by rw [hg]; exact (yag (by repeat (first | (with_reducible first | exact HB.out | apply yac | apply yaa | apply yad) | exact HB.out))) : w.heap.size ≤ a1)); have n3_ := yae ((by rw [hg]; exact (yag (by repeat (first | (with_reducible first | exact HB.out | apply yac | apply yaa | apply yad) | exact HB.out))) : w.heap.size ≤ a1)); clear HB; have HB := n0_; have a0 := n1_; have a2 := n2_; have a3 := n3_; clear n0_ n1_ n2_ n3_; clear hb hbox hg; have l6 : w39.cell? ⟨a1, 0, none⟩ = some (.int .i64 a0_0) := (yaf a0.out 0).trans rfl; have l7 : w39.cell? ⟨a1, 1, none⟩ = some (.int .i64 a0_1) := (yaf a0.out 1).trans rfl; have l8 : w39.cell? ⟨a1, 2, none⟩ = some (.int .i64 a0_2) := (yaf a0.out 2).trans rfl; have l9 : w39.cell? ⟨a1, 3, none⟩ = some (.int .i64 a0_3) := (yaf a0.out 3).trans rfl; have m0 : w39.cell? ⟨a1, 4, none⟩ = some (.int .i64 a0_4) := (yaf a0.out 4).trans rfl; have m1 := yab a0.out 0; have m2 := yab a0.out 1; have m3 := yab a0.out 2; have m4 := yab a0.out 3; have m5 := yab a0.out 4) | ((with_reducible refine yah (f := 41) rfl ?_); refine goesL_ (some 49) rfl rfl Try.func41 (by kernel_rfl) rfl #[.int .i64 a0_1, .int .i64 0, .int .i64 255] rfl (by (try simp only [List.map_toArray, List.map_cons, List.map_nil]); first | done | rfl | (simp only [List.length_drop, List.length_take]; rfl)) ?_; (with_reducible refine (spec_l1In.calls a0_1 0 255 true _ A33.out).mono ?_); rintro e w' ⟨rfl, ⟨nd, rfl⟩⟩; refine ⟨_, rfl, ?_⟩) | (go_at_call 41; (with_reducible refine (spec_l1In.calls a0_2 0 255 true _ A35.out).mono ?_); rintro e w' ⟨rfl, ⟨nd, rfl⟩⟩) | (go_at_call 41; (with_reducible refine (spec_l1In.calls a0_3 0 255 true _ A37.out).mono ?_); rintro e w' ⟨rfl, ⟨nd, rfl⟩⟩))
       go_ret
       exact ⟨by first | rfl | (simp [errW_none, errW_some] <;> rfl) | (simp [*, errW_none, errW_some] <;> rfl), by repeat (first | (with_reducible first | exact HB.out | apply yac | apply yaa | apply yad | refine yak ?_ (Aside0.out ‹_›)) | exact HB.out)⟩
      ·
       replace c38 := Bool.eq_false_iff.mpr c38
       subst c38
       have H1 : (some false) = some r := by rw [if_neg (show ¬ (false = true) by decide)] at H; exact H
       clear H
       have H := H1
       clear H1
       obtain rfl := Option.some.inj H
       go_enter Try.func38, Try.ntmps38
       go_wp2_with (first | ((with_reducible refine gate_dst (N := 1) rfl ?_); refine yaj ?hg (N := 1) ?hd (cs := #[.int .i64 a0_0, .int .i64 a0_1, .int .i64 a0_2, .int .i64 a0_3, .int .i64 a0_4]) (t := 27) ?hr ?_; (case hd => rfl); (case hg => rfl); (case hr => first | (go_simp; done) | (go_simp; rfl)); intro a1 hg w41 hbox hb; have n0_ := yae (yai (by repeat (first | (with_reducible first | exact HB.out | apply yac | apply yaa | apply yad) | exact HB.out)) hb); have n1_ := yae (hbox); have n2_ := yae ((by rw [hg]; exact (yag (by repeat (first | (with_reducible first | exact HB.out | apply yac | apply yaa | apply yad) | exact HB.out))) : w.heap.size ≤ a1)); have n3_ := yae ((by rw [hg]; exact (yag (by repeat (first | (with_reducible first | exact HB.out | apply yac | apply yaa | apply yad) | exact HB.out))) : w.heap.size ≤ a1)); clear HB; have HB := n0_; have a0 := n1_; have a2 := n2_; have a3 := n3_; clear n0_ n1_ n2_ n3_; clear hb hbox hg; have m6 : w41.cell? ⟨a1, 0, none⟩ = some (.int .i64 a0_0) := (yaf a0.out 0).trans rfl; have m7 : w41.cell? ⟨a1, 1, none⟩ = some (.int .i64 a0_1) := (yaf a0.out 1).trans rfl; have m8 : w41.cell? ⟨a1, 2, none⟩ = some (.int .i64 a0_2) := (yaf a0.out 2).trans rfl; have m9 : w41.cell? ⟨a1, 3, none⟩ = some (.int .i64 a0_3) := (yaf a0.out 3).trans rfl; have n0 : w41.cell? ⟨a1, 4, none⟩ = some (.int .i64 a0_4) := (yaf a0.out 4).trans rfl; have n1 := yab a0.out 0; have n2 := yab a0.out 1; have n3 := yab a0.out 2; have n4 := yab a0.out 3; have n5 := yab a0.out 4) | ((with_reducible refine yah (f := 41) rfl ?_); refine goesL_ (some 49) rfl rfl Try.func41 (by kernel_rfl) rfl #[.int .i64 a0_1, .int .i64 0, .int .i64 255] rfl (by (try simp only [List.map_toArray, List.map_cons, List.map_nil]); first | done | rfl | (simp only [List.length_drop, List.length_take]; rfl)) ?_; (with_reducible refine (spec_l1In.calls a0_1 0 255 true _ A33.out).mono ?_); rintro e w' ⟨rfl, ⟨nd, rfl⟩⟩; refine ⟨_, rfl, ?_⟩) | (go_at_call 41; (with_reducible refine (spec_l1In.calls a0_2 0 255 true _ A35.out).mono ?_); rintro e w' ⟨rfl, ⟨nd, rfl⟩⟩) | (go_at_call 41; (with_reducible refine (spec_l1In.calls a0_3 0 255 false _ A37.out).mono ?_); rintro e w' ⟨rfl, ⟨nd, rfl⟩⟩))
       go_ret
       exact ⟨by first | rfl | (simp [errW_none, errW_some] <;> rfl) | (simp [*, errW_none, errW_some] <;> rfl), by repeat (first | (with_reducible first | exact HB.out | apply yac | apply yaa | apply yad | refine yak ?_ (Aside0.out ‹_›)) | exact HB.out)⟩
     ·
      replace c36 := Bool.eq_false_iff.mpr c36
      subst c36
      have H1 : (some false) = some r := by rw [if_neg (show ¬ (false = true) by decide)] at H; exact H
      clear H
      have H := H1
      clear H1
      obtain rfl := Option.some.inj H
      go_enter Try.func38, Try.ntmps38
      go_wp2_with (first | ((with_reducible refine gate_dst (N := 1) rfl ?_); refine yaj ?hg (N := 1) ?hd (cs := #[.int .i64 a0_0, .int .i64 a0_1, .int .i64 a0_2, .int .i64 a0_3, .int .i64 a0_4]) (t := 27) ?hr ?_; (case hd => rfl); (case hg => rfl); (case hr => first | (go_simp; done) | (go_simp; rfl)); intro a1 hg w43 hbox hb; have n0_ := yae (yai (by repeat (first | (with_reducible first | exact HB.out | apply yac | apply yaa | apply yad) | exact HB.out)) hb); have n1_ := yae (hbox); have n2_ := yae ((by rw [hg]; exact (yag (by repeat (first | (with_reducible first | exact HB.out | apply yac | apply yaa | apply yad) | exact HB.out))) : w.heap.size ≤ a1)); have n3_ := yae ((by rw [hg]; exact (yag (by repeat (first | (with_reducible first | exact HB.out | apply yac | apply yaa | apply yad) | exact HB.out))) : w.heap.size ≤ a1)); clear HB; have HB := n0_; have a0 := n1_; have a2 := n2_; have a3 := n3_; clear n0_ n1_ n2_ n3_; clear hb hbox hg; have n6 : w43.cell? ⟨a1, 0, none⟩ = some (.int .i64 a0_0) := (yaf a0.out 0).trans rfl; have n7 : w43.cell? ⟨a1, 1, none⟩ = some (.int .i64 a0_1) := (yaf a0.out 1).trans rfl; have n8 : w43.cell? ⟨a1, 2, none⟩ = some (.int .i64 a0_2) := (yaf a0.out 2).trans rfl; have n9 : w43.cell? ⟨a1, 3, none⟩ = some (.int .i64 a0_3) := (yaf a0.out 3).trans rfl; have o0 : w43.cell? ⟨a1, 4, none⟩ = some (.int .i64 a0_4) := (yaf a0.out 4).trans rfl; have o1 := yab a0.out 0; have o2 := yab a0.out 1; have o3 := yab a0.out 2; have o4 := yab a0.out 3; have o5 := yab a0.out 4) | ((with_reducible refine yah (f := 41) rfl ?_); refine goesL_ (some 49) rfl rfl Try.func41 (by kernel_rfl) rfl #[.int .i64 a0_1, .int .i64 0, .int .i64 255] rfl (by (try simp only [List.map_toArray, List.map_cons, List.map_nil]); first | done | rfl | (simp only [List.length_drop, List.length_take]; rfl)) ?_; (with_reducible refine (spec_l1In.calls a0_1 0 255 true _ A33.out).mono ?_); rintro e w' ⟨rfl, ⟨nd, rfl⟩⟩; refine ⟨_, rfl, ?_⟩) | (go_at_call 41; (with_reducible refine (spec_l1In.calls a0_2 0 255 false _ A35.out).mono ?_); rintro e w' ⟨rfl, ⟨nd, rfl⟩⟩))
      go_ret
      exact ⟨by first | rfl | (simp [errW_none, errW_some] <;> rfl) | (simp [*, errW_none, errW_some] <;> rfl), by repeat (first | (with_reducible first | exact HB.out | apply yac | apply yaa | apply yad | refine yak ?_ (Aside0.out ‹_›)) | exact HB.out)⟩
    ·
     replace c34 := Bool.eq_false_iff.mpr c34
     subst c34
     have H1 : (some false) = some r := by rw [if_neg (show ¬ (false = true) by decide)] at H; exact H
     clear H
     have H := H1
     clear H1
     obtain rfl := Option.some.inj H
     go_enter Try.func38, Try.ntmps38
     go_wp2_with (first | ((with_reducible refine gate_dst (N := 1) rfl ?_); refine yaj ?hg (N := 1) ?hd (cs := #[.int .i64 a0_0, .int .i64 a0_1, .int .i64 a0_2, .int .i64 a0_3, .int .i64 a0_4]) (t := 27) ?hr ?_; (case hd => rfl); (case hg => rfl); (case hr => first | (go_simp; done) | (go_simp; rfl)); intro a1 hg w45 hbox hb; have n0_ := yae (yai (by repeat (first | (with_reducible first | exact HB.out | apply yac | apply yaa | apply yad) | exact HB.out)) hb); have n1_ := yae (hbox); have n2_ := yae ((by rw [hg]; exact (yag (by repeat (first | (with_reducible first | exact HB.out | apply yac | apply yaa | apply yad) | exact HB.out))) : w.heap.size ≤ a1)); have n3_ := yae ((by rw [hg]; exact (yag (by repeat (first | (with_reducible first | exact HB.out | apply yac | apply yaa | apply yad) | exact HB.out))) : w.heap.size ≤ a1)); clear HB; have HB := n0_; have a0 := n1_; have a2 := n2_; have a3 := n3_; clear n0_ n1_ n2_ n3_; clear hb hbox hg; have o6 : w45.cell? ⟨a1, 0, none⟩ = some (.int .i64 a0_0) := (yaf a0.out 0).trans rfl; have o7 : w45.cell? ⟨a1, 1, none⟩ = some (.int .i64 a0_1) := (yaf a0.out 1).trans rfl; have o8 : w45.cell? ⟨a1, 2, none⟩ = some (.int .i64 a0_2) := (yaf a0.out 2).trans rfl; have o9 : w45.cell? ⟨a1, 3, none⟩ = some (.int .i64 a0_3) := (yaf a0.out 3).trans rfl; have p0 : w45.cell? ⟨a1, 4, none⟩ = some (.int .i64 a0_4) := (yaf a0.out 4).trans rfl; have p1 := yab a0.out 0; have p2 := yab a0.out 1; have p3 := yab a0.out 2; have p4 := yab a0.out 3; have p5 := yab a0.out 4) | ((with_reducible refine yah (f := 41) rfl ?_); refine goesL_ (some 49) rfl rfl Try.func41 (by kernel_rfl) rfl #[.int .i64 a0_1, .int .i64 0, .int .i64 255] rfl (by (try simp only [List.map_toArray, List.map_cons, List.map_nil]); first | done | rfl | (simp only [List.length_drop, List.length_take]; rfl)) ?_; (with_reducible refine (spec_l1In.calls a0_1 0 255 false _ A33.out).mono ?_); rintro e w' ⟨rfl, ⟨nd, rfl⟩⟩; refine ⟨_, rfl, ?_⟩))
     go_ret
     exact ⟨by first | rfl | (simp [errW_none, errW_some] <;> rfl) | (simp [*, errW_none, errW_some] <;> rfl), by repeat (first | (with_reducible first | exact HB.out | apply yac | apply yaa | apply yad | refine yak ?_ (Aside0.out ‹_›)) | exact HB.out)⟩
   ·
    rw [if_neg c32] at H
    have c0 : (a0_0 == 8) = false := beq_eq_false_iff_ne.mpr c32
    have c1 : (a0_0 != 8) = true := bne_iff_ne.mpr c32
    replace H := Option.bind_eq_some_iff.mp H
    obtain ⟨b3, c9, H⟩ := H
    replace H : (if b3 = true then (if a0_1 = 0 then (if a0_2 = 0 then (if a0_3 = 0 then (some (a0_4 == 0)) else (some false)) else (some false)) else (some false)) else (some false)) = some r := H
    have A47 := yae c9
    clear c9
    by_cases c48 : b3 = true
    ·
     subst c48
     have H1 : (if a0_1 = 0 then (if a0_2 = 0 then (if a0_3 = 0 then (some (a0_4 == 0)) else (some false)) else (some false)) else (some false)) = some r := by rw [if_pos rfl] at H; exact H
     clear H
     have H := H1
     clear H1
     by_cases c49 : a0_1 = 0
     ·
      rw [if_pos c49] at H
      have d0 : (a0_1 == 0) = true := beq_iff_eq.mpr c49
      have d1 : (a0_1 != 0) = false := bne_eq_false_iff_eq.mpr c49
      clear c49
      by_cases c50 : a0_2 = 0
      ·
       rw [if_pos c50] at H
       have d2 : (a0_2 == 0) = true := beq_iff_eq.mpr c50
       have d3 : (a0_2 != 0) = false := bne_eq_false_iff_eq.mpr c50
       clear c50
       by_cases c51 : a0_3 = 0
       ·
        rw [if_pos c51] at H
        have d4 : (a0_3 == 0) = true := beq_iff_eq.mpr c51
        have d5 : (a0_3 != 0) = false := bne_eq_false_iff_eq.mpr c51
        clear c51
        obtain rfl := Option.some.inj H
        go_enter Try.func38, Try.ntmps38
        go_wp2_with (first | ((with_reducible refine gate_dst (N := 1) rfl ?_); refine yaj ?hg (N := 1) ?hd (cs := #[.int .i64 a0_0, .int .i64 a0_1, .int .i64 a0_2, .int .i64 a0_3, .int .i64 a0_4]) (t := 27) ?hr ?_; (case hd => rfl); (case hg => rfl); (case hr => first | (go_simp; done) | (go_simp; rfl)); intro a1 hg w52 hbox hb; have n0_ := yae (yai (by repeat (first | (with_reducible first | exact HB.out | apply yac | apply yaa | apply yad) | exact HB.out)) hb); have n1_ := yae (hbox); have n2_ := yae ((by rw [hg]; exact (yag (by repeat (first | (with_reducible first | exact HB.out | apply yac | apply yaa | apply yad) | exact HB.out))) : w.heap.size ≤ a1)); have n3_ := yae ((by rw [hg]; exact (yag (by repeat (first | (with_reducible first | exact HB.out | apply yac | apply yaa | apply yad) | exact HB.out))) : w.heap.size ≤ a1)); clear HB; have HB := n0_; have a0 := n1_; have a2 := n2_; have a3 := n3_; clear n0_ n1_ n2_ n3_; clear hb hbox hg; have p6 : w52.cell? ⟨a1, 0, none⟩ = some (.int .i64 a0_0) := (yaf a0.out 0).trans rfl; have p7 : w52.cell? ⟨a1, 1, none⟩ = some (.int .i64 a0_1) := (yaf a0.out 1).trans rfl; have p8 : w52.cell? ⟨a1, 2, none⟩ = some (.int .i64 a0_2) := (yaf a0.out 2).trans rfl; have p9 : w52.cell? ⟨a1, 3, none⟩ = some (.int .i64 a0_3) := (yaf a0.out 3).trans rfl; have q0 : w52.cell? ⟨a1, 4, none⟩ = some (.int .i64 a0_4) := (yaf a0.out 4).trans rfl; have q1 := yab a0.out 0; have q2 := yab a0.out 1; have q3 := yab a0.out 2; have q4 := yab a0.out 3; have q5 := yab a0.out 4) | ((with_reducible refine yah (f := 41) rfl ?_); refine goesL_ (some 67) rfl rfl Try.func41 (by kernel_rfl) rfl #[.int .i64 a0_0, .int .i64 2, .int .i64 6] rfl (by (try simp only [List.map_toArray, List.map_cons, List.map_nil]); first | done | rfl | (simp only [List.length_drop, List.length_take]; rfl)) ?_; (with_reducible refine (spec_l1In.calls a0_0 2 6 true _ A47.out).mono ?_); rintro e w' ⟨rfl, ⟨nd, rfl⟩⟩; refine ⟨_, rfl, ?_⟩))
        go_ret
        exact ⟨by first | rfl | (simp [errW_none, errW_some] <;> rfl) | (simp [*, errW_none, errW_some] <;> rfl), by repeat (first | (with_reducible first | exact HB.out | apply yac | apply yaa | apply yad | refine yak ?_ (Aside0.out ‹_›)) | exact HB.out)⟩
       ·
        rw [if_neg c51] at H
        have d4 : (a0_3 == 0) = false := beq_eq_false_iff_ne.mpr c51
        have d5 : (a0_3 != 0) = true := bne_iff_ne.mpr c51
        obtain rfl := Option.some.inj H
        go_enter Try.func38, Try.ntmps38
        go_wp2_with (first | ((with_reducible refine gate_dst (N := 1) rfl ?_); refine yaj ?hg (N := 1) ?hd (cs := #[.int .i64 a0_0, .int .i64 a0_1, .int .i64 a0_2, .int .i64 a0_3, .int .i64 a0_4]) (t := 27) ?hr ?_; (case hd => rfl); (case hg => rfl); (case hr => first | (go_simp; done) | (go_simp; rfl)); intro a1 hg w54 hbox hb; have n0_ := yae (yai (by repeat (first | (with_reducible first | exact HB.out | apply yac | apply yaa | apply yad) | exact HB.out)) hb); have n1_ := yae (hbox); have n2_ := yae ((by rw [hg]; exact (yag (by repeat (first | (with_reducible first | exact HB.out | apply yac | apply yaa | apply yad) | exact HB.out))) : w.heap.size ≤ a1)); have n3_ := yae ((by rw [hg]; exact (yag (by repeat (first | (with_reducible first | exact HB.out | apply yac | apply yaa | apply yad) | exact HB.out))) : w.heap.size ≤ a1)); clear HB; have HB := n0_; have a0 := n1_; have a2 := n2_; have a3 := n3_; clear n0_ n1_ n2_ n3_; clear hb hbox hg; have q6 : w54.cell? ⟨a1, 0, none⟩ = some (.int .i64 a0_0) := (yaf a0.out 0).trans rfl; have q7 : w54.cell? ⟨a1, 1, none⟩ = some (.int .i64 a0_1) := (yaf a0.out 1).trans rfl; have q8 : w54.cell? ⟨a1, 2, none⟩ = some (.int .i64 a0_2) := (yaf a0.out 2).trans rfl; have q9 : w54.cell? ⟨a1, 3, none⟩ = some (.int .i64 a0_3) := (yaf a0.out 3).trans rfl; have r0 : w54.cell? ⟨a1, 4, none⟩ = some (.int .i64 a0_4) := (yaf a0.out 4).trans rfl; have r1 := yab a0.out 0; have r2 := yab a0.out 1; have r3 := yab a0.out 2; have r4 := yab a0.out 3; have r5 := yab a0.out 4) | ((with_reducible refine yah (f := 41) rfl ?_); refine goesL_ (some 67) rfl rfl Try.func41 (by kernel_rfl) rfl #[.int .i64 a0_0, .int .i64 2, .int .i64 6] rfl (by (try simp only [List.map_toArray, List.map_cons, List.map_nil]); first | done | rfl | (simp only [List.length_drop, List.length_take]; rfl)) ?_; (with_reducible refine (spec_l1In.calls a0_0 2 6 true _ A47.out).mono ?_); rintro e w' ⟨rfl, ⟨nd, rfl⟩⟩; refine ⟨_, rfl, ?_⟩))
        go_ret
        exact ⟨by first | rfl | (simp [errW_none, errW_some] <;> rfl) | (simp [*, errW_none, errW_some] <;> rfl), by repeat (first | (with_reducible first | exact HB.out | apply yac | apply yaa | apply yad | refine yak ?_ (Aside0.out ‹_›)) | exact HB.out)⟩
      ·
       rw [if_neg c50] at H
       have d2 : (a0_2 == 0) = false := beq_eq_false_iff_ne.mpr c50
       have d3 : (a0_2 != 0) = true := bne_iff_ne.mpr c50
       obtain rfl := Option.some.inj H
       go_enter Try.func38, Try.ntmps38
       go_wp2_with (first | ((with_reducible refine gate_dst (N := 1) rfl ?_); refine yaj ?hg (N := 1) ?hd (cs := #[.int .i64 a0_0, .int .i64 a0_1, .int .i64 a0_2, .int .i64 a0_3, .int .i64 a0_4]) (t := 27) ?hr ?_; (case hd => rfl); (case hg => rfl); (case hr => first | (go_simp; done) | (go_simp; rfl)); intro a1 hg w56 hbox hb; have n0_ := yae (yai (by repeat (first | (with_reducible first | exact HB.out | apply yac | apply yaa | apply yad) | exact HB.out)) hb); have n1_ := yae (hbox); have n2_ := yae ((by rw [hg]; exact (yag (by repeat (first | (with_reducible first | exact HB.out | apply yac | apply yaa | apply yad) | exact HB.out))) : w.heap.size ≤ a1)); have n3_ := yae ((by rw [hg]; exact (yag (by repeat (first | (with_reducible first | exact HB.out | apply yac | apply yaa | apply yad) | exact HB.out))) : w.heap.size ≤ a1)); clear HB; have HB := n0_; have a0 := n1_; have a2 := n2_; have a3 := n3_; clear n0_ n1_ n2_ n3_; clear hb hbox hg; have r6 : w56.cell? ⟨a1, 0, none⟩ = some (.int .i64 a0_0) := (yaf a0.out 0).trans rfl; have r7 : w56.cell? ⟨a1, 1, none⟩ = some (.int .i64 a0_1) := (yaf a0.out 1).trans rfl; have r8 : w56.cell? ⟨a1, 2, none⟩ = some (.int .i64 a0_2) := (yaf a0.out 2).trans rfl; have r9 : w56.cell? ⟨a1, 3, none⟩ = some (.int .i64 a0_3) := (yaf a0.out 3).trans rfl; have s0 : w56.cell? ⟨a1, 4, none⟩ = some (.int .i64 a0_4) := (yaf a0.out 4).trans rfl; have s1 := yab a0.out 0; have s2 := yab a0.out 1; have s3 := yab a0.out 2; have s4 := yab a0.out 3; have s5 := yab a0.out 4) | ((with_reducible refine yah (f := 41) rfl ?_); refine goesL_ (some 67) rfl rfl Try.func41 (by kernel_rfl) rfl #[.int .i64 a0_0, .int .i64 2, .int .i64 6] rfl (by (try simp only [List.map_toArray, List.map_cons, List.map_nil]); first | done | rfl | (simp only [List.length_drop, List.length_take]; rfl)) ?_; (with_reducible refine (spec_l1In.calls a0_0 2 6 true _ A47.out).mono ?_); rintro e w' ⟨rfl, ⟨nd, rfl⟩⟩; refine ⟨_, rfl, ?_⟩))
       go_ret
       exact ⟨by first | rfl | (simp [errW_none, errW_some] <;> rfl) | (simp [*, errW_none, errW_some] <;> rfl), by repeat (first | (with_reducible first | exact HB.out | apply yac | apply yaa | apply yad | refine yak ?_ (Aside0.out ‹_›)) | exact HB.out)⟩
     ·
      rw [if_neg c49] at H
      have d0 : (a0_1 == 0) = false := beq_eq_false_iff_ne.mpr c49
      have d1 : (a0_1 != 0) = true := bne_iff_ne.mpr c49
      obtain rfl := Option.some.inj H
      go_enter Try.func38, Try.ntmps38
      go_wp2_with (first | ((with_reducible refine gate_dst (N := 1) rfl ?_); refine yaj ?hg (N := 1) ?hd (cs := #[.int .i64 a0_0, .int .i64 a0_1, .int .i64 a0_2, .int .i64 a0_3, .int .i64 a0_4]) (t := 27) ?hr ?_; (case hd => rfl); (case hg => rfl); (case hr => first | (go_simp; done) | (go_simp; rfl)); intro a1 hg w58 hbox hb; have n0_ := yae (yai (by repeat (first | (with_reducible first | exact HB.out | apply yac | apply yaa | apply yad) | exact HB.out)) hb); have n1_ := yae (hbox); have n2_ := yae ((by rw [hg]; exact (yag (by repeat (first | (with_reducible first | exact HB.out | apply yac | apply yaa | apply yad) | exact HB.out))) : w.heap.size ≤ a1)); have n3_ := yae ((by rw [hg]; exact (yag (by repeat (first | (with_reducible first | exact HB.out | apply yac | apply yaa | apply yad) | exact HB.out))) : w.heap.size ≤ a1)); clear HB; have HB := n0_; have a0 := n1_; have a2 := n2_; have a3 := n3_; clear n0_ n1_ n2_ n3_; clear hb hbox hg; have s6 : w58.cell? ⟨a1, 0, none⟩ = some (.int .i64 a0_0) := (yaf a0.out 0).trans rfl; have s7 : w58.cell? ⟨a1, 1, none⟩ = some (.int .i64 a0_1) := (yaf a0.out 1).trans rfl; have s8 : w58.cell? ⟨a1, 2, none⟩ = some (.int .i64 a0_2) := (yaf a0.out 2).trans rfl; have s9 : w58.cell? ⟨a1, 3, none⟩ = some (.int .i64 a0_3) := (yaf a0.out 3).trans rfl; have t0 : w58.cell? ⟨a1, 4, none⟩ = some (.int .i64 a0_4) := (yaf a0.out 4).trans rfl; have t1 := yab a0.out 0; have t2 := yab a0.out 1; have t3 := yab a0.out 2; have t4 := yab a0.out 3; have t5 := yab a0.out 4) | ((with_reducible refine yah (f := 41) rfl ?_); refine goesL_ (some 67) rfl rfl Try.func41 (by kernel_rfl) rfl #[.int .i64 a0_0, .int .i64 2, .int .i64 6] rfl (by (try simp only [List.map_toArray, List.map_cons, List.map_nil]); first | done | rfl | (simp only [List.length_drop, List.length_take]; rfl)) ?_; (with_reducible refine (spec_l1In.calls a0_0 2 6 true _ A47.out).mono ?_); rintro e w' ⟨rfl, ⟨nd, rfl⟩⟩; refine ⟨_, rfl, ?_⟩))
      go_ret
      exact ⟨by first | rfl | (simp [errW_none, errW_some] <;> rfl) | (simp [*, errW_none, errW_some] <;> rfl), by repeat (first | (with_reducible first | exact HB.out | apply yac | apply yaa | apply yad | refine yak ?_ (Aside0.out ‹_›)) | exact HB.out)⟩
    ·
     replace c48 := Bool.eq_false_iff.mpr c48
     subst c48
     have H1 : (some false) = some r := by rw [if_neg (show ¬ (false = true) by decide)] at H; exact H
     clear H
     have H := H1
     clear H1
     obtain rfl := Option.some.inj H
     go_enter Try.func38, Try.ntmps38
     go_wp2_with (first | ((with_reducible refine gate_dst (N := 1) rfl ?_); refine yaj ?hg (N := 1) ?hd (cs := #[.int .i64 a0_0, .int .i64 a0_1, .int .i64 a0_2, .int .i64 a0_3, .int .i64 a0_4]) (t := 27) ?hr ?_; (case hd => rfl); (case hg => rfl); (case hr => first | (go_simp; done) | (go_simp; rfl)); intro a1 hg w60 hbox hb; have n0_ := yae (yai (by repeat (first | (with_reducible first | exact HB.out | apply yac | apply yaa | apply yad) | exact HB.out)) hb); have n1_ := yae (hbox); have n2_ := yae ((by rw [hg]; exact (yag (by repeat (first | (with_reducible first | exact HB.out | apply yac | apply yaa | apply yad) | exact HB.out))) : w.heap.size ≤ a1)); have n3_ := yae ((by rw [hg]; exact (yag (by repeat (first | (with_reducible first | exact HB.out | apply yac | apply yaa | apply yad) | exact HB.out))) : w.heap.size ≤ a1)); clear HB; have HB := n0_; have a0 := n1_; have a2 := n2_; have a3 := n3_; clear n0_ n1_ n2_ n3_; clear hb hbox hg; have t6 : w60.cell? ⟨a1, 0, none⟩ = some (.int .i64 a0_0) := (yaf a0.out 0).trans rfl; have t7 : w60.cell? ⟨a1, 1, none⟩ = some (.int .i64 a0_1) := (yaf a0.out 1).trans rfl; have t8 : w60.cell? ⟨a1, 2, none⟩ = some (.int .i64 a0_2) := (yaf a0.out 2).trans rfl; have t9 : w60.cell? ⟨a1, 3, none⟩ = some (.int .i64 a0_3) := (yaf a0.out 3).trans rfl; have u0 : w60.cell? ⟨a1, 4, none⟩ = some (.int .i64 a0_4) := (yaf a0.out 4).trans rfl; have u1 := yab a0.out 0; have u2 := yab a0.out 1; have u3 := yab a0.out 2; have u4 := yab a0.out 3; have u5 := yab a0.out 4) | ((with_reducible refine yah (f := 41) rfl ?_); refine goesL_ (some 67) rfl rfl Try.func41 (by kernel_rfl) rfl #[.int .i64 a0_0, .int .i64 2, .int .i64 6] rfl (by (try simp only [List.map_toArray, List.map_cons, List.map_nil]); first | done | rfl | (simp only [List.length_drop, List.length_take]; rfl)) ?_; (with_reducible refine (spec_l1In.calls a0_0 2 6 false _ A47.out).mono ?_); rintro e w' ⟨rfl, ⟨nd, rfl⟩⟩; refine ⟨_, rfl, ?_⟩))
     go_ret
     exact ⟨by first | rfl | (simp [errW_none, errW_some] <;> rfl) | (simp [*, errW_none, errW_some] <;> rfl), by repeat (first | (with_reducible first | exact HB.out | apply yac | apply yaa | apply yad | refine yak ?_ (Aside0.out ‹_›)) | exact HB.out)⟩

end Go.Proofs.Ytoifpgkfpdeglaa.X

namespace Go.Proofs.Ytoifpgkfpdeglaa.X
open Go.RowKit Go.Proofs.YtoifpgkfpdeglaaW.PrintWords Go.Proofs.YtoifpgkfpdeglaaW.PrintLast Go.Proofs.YtoifpgkfpdeglaaW.PrintMore
attribute [local go_sem] max2_int min2_int max_two min_two max_three min_three max_four min_four
set_option linter.unusedVariables false
set_option linter.unusedSimpArgs false

/-! ### spec_l6All: function 55 -/

end Go.Proofs.Ytoifpgkfpdeglaa.X

namespace Go.Proofs.Ytoifpgkfpdeglaa.X
open Go.RowKit Go.Proofs.YtoifpgkfpdeglaaW.PrintWords Go.Proofs.YtoifpgkfpdeglaaW.PrintLast Go.Proofs.YtoifpgkfpdeglaaW.PrintMore
attribute [local go_sem] max2_int min2_int max_two min_two max_three min_three max_four min_four
set_option linter.unusedVariables false
set_option linter.unusedSimpArgs false

open Go.Proofs.YtoifpgkfpdeglaaW.PrintWords renaming pw_below_drewN → yaa, below_alloc → yab, below_drew1 → yac, blk_frozen → yae
open Go.Proofs.YtoifpgkfpdeglaaW.PrintWords.Aside0 renaming mk → yad

/-! ### impl_PixOk: function 40 -/
def impl_PixOk.f (a0_0 : Int) (a0_1 : Int) (a0_2 : Int) (a0_3 : Int) : Option (Bool) := (impl_partOk.f a0_0).bind fun t102 => (if t102 = true then ((impl_partOk.f a0_1).bind fun t103 => (if t103 = true then ((impl_partOk.f a0_2).bind fun t104 => (if t104 = true then ((impl_partOk.f a0_3).bind fun t105 => (some t105)) else (some false))) else (some false))) else (some false))
set_option maxHeartbeats 8000000 in
set_option maxRecDepth 100000 in
theorem impl_PixOk.calls (a0_0 : Int) (a0_1 : Int) (a0_2 : Int) (a0_3 : Int) (r : Bool) (w : World) (h : impl_PixOk.f a0_0 a0_1 a0_2 a0_3 = some r) :
  Calls Try.prog 40 #[.agg #[.int .i64 a0_0, .int .i64 a0_1, .int .i64 a0_2, .int .i64 a0_3]] w fun e w' => e = .returned (.bool r) ∧ Below w.heap.size w w' := by
 have hu36 := Try.underlying36
 have HB := yad (Below.refl w.heap.size w)
 have H : ((impl_partOk.f a0_0).bind fun a7 => (if a7 = true then ((impl_partOk.f a0_1).bind fun a4 => (if a4 = true then ((impl_partOk.f a0_2).bind fun a3 => (if a3 = true then ((impl_partOk.f a0_3).bind fun a2 => (some a2)) else (some false))) else (some false))) else (some false))) = some r := h
 clear h
 replace H := Option.bind_eq_some_iff.mp H
 obtain ⟨a7, A20, H⟩ := H
 replace H : (if a7 = true then ((impl_partOk.f a0_1).bind fun a4 => (if a4 = true then ((impl_partOk.f a0_2).bind fun a3 => (if a3 = true then ((impl_partOk.f a0_3).bind fun a2 => (some a2)) else (some false))) else (some false))) else (some false)) = some r := H
 have A2 := yad A20
 clear A20
 by_cases c3 : a7 = true
 ·
  subst c3
  have H1 : ((impl_partOk.f a0_1).bind fun a4 => (if a4 = true then ((impl_partOk.f a0_2).bind fun a3 => (if a3 = true then ((impl_partOk.f a0_3).bind fun a2 => (some a2)) else (some false))) else (some false))) = some r := by rw [if_pos rfl] at H; exact H
  clear H
  have H := H1
  clear H1
  replace H := Option.bind_eq_some_iff.mp H
  obtain ⟨a4, A40, H⟩ := H
  replace H : (if a4 = true then ((impl_partOk.f a0_2).bind fun a3 => (if a3 = true then ((impl_partOk.f a0_3).bind fun a2 => (some a2)) else (some false))) else (some false)) = some r := H
  have A4 := yad A40
  clear A40
  by_cases c5 : a4 = true
  ·
   subst c5
   have H1 : ((impl_partOk.f a0_2).bind fun a3 => (if a3 = true then ((impl_partOk.f a0_3).bind fun a2 => (some a2)) else (some false))) = some r := by rw [if_pos rfl] at H; exact H
   clear H
   have H := H1
   clear H1
   replace H := Option.bind_eq_some_iff.mp H
   obtain ⟨a3, A60, H⟩ := H
   replace H : (if a3 = true then ((impl_partOk.f a0_3).bind fun a2 => (some a2)) else (some false)) = some r := H
   have A6 := yad A60
   clear A60
   by_cases c7 : a3 = true
   ·
    subst c7
    have H1 : ((impl_partOk.f a0_3).bind fun a2 => (some a2)) = some r := by rw [if_pos rfl] at H; exact H
    clear H
    have H := H1
    clear H1
    replace H := Option.bind_eq_some_iff.mp H
    obtain ⟨a2, A80, H⟩ := H
    replace H : (some a2) = some r := H
    have A8 := yad A80
    clear A80
    obtain rfl := Option.some.inj H
    go_enter Try.func40, Try.ntmps40
    go_wp2_with (first | ((with_reducible refine gate_dst (N := 1) rfl ?_); refine box_event ?hg (N := 1) ?hd (cs := #[.int .i64 a0_0, .int .i64 a0_1, .int .i64 a0_2, .int .i64 a0_3]) (t := 36) ?hr ?_; (case hd => rfl); (case hg => rfl); (case hr => first | (go_simp; done) | (go_simp; rfl)); intro a1 hg w9 hbox hb; have n0_ := yad (below_step (by repeat (first | (with_reducible first | exact HB.out | apply yab | apply yaa | apply yac) | exact HB.out)) hb); have n1_ := yad (hbox); have n2_ := yad ((by rw [hg]; exact (below_size (by repeat (first | (with_reducible first | exact HB.out | apply yab | apply yaa | apply yac) | exact HB.out))) : w.heap.size ≤ a1)); have n3_ := yad ((by rw [hg]; exact (below_size (by repeat (first | (with_reducible first | exact HB.out | apply yab | apply yaa | apply yac) | exact HB.out))) : w.heap.size ≤ a1)); clear HB; have HB := n0_; have a0 := n1_; have a5 := n2_; have a6 := n3_; clear n0_ n1_ n2_ n3_; clear hb hbox hg; have a8 : w9.cell? ⟨a1, 0, none⟩ = some (.int .i64 a0_0) := (blk_cell a0.out 0).trans rfl; have a9 : w9.cell? ⟨a1, 1, none⟩ = some (.int .i64 a0_1) := (blk_cell a0.out 1).trans rfl; have b0 : w9.cell? ⟨a1, 2, none⟩ = some (.int .i64 a0_2) := (blk_cell a0.out 2).trans rfl; have b1 : w9.cell? ⟨a1, 3, none⟩ = some (.int .i64 a0_3) := (blk_cell a0.out 3).trans rfl; have b2 := yae a0.out 0; have b3 := yae a0.out 1; have b4 := yae a0.out 2; have b5 := yae a0.out 3) | ((with_reducible refine gate_callee (f := 60) rfl ?_); refine goesL_ (some 5) rfl rfl Try.func60 (by kernel_rfl) rfl #[.int .i64 a0_0] rfl (by (try simp only [List.map_toArray, List.map_cons, List.map_nil]); first | done | rfl | (simp only [List.length_drop, List.length_take]; rfl)) ?_; (with_reducible refine (impl_partOk.calls a0_0 true _ A2.out).mono ?_); rintro e w' ⟨rfl, ⟨nd, rfl⟩⟩; refine ⟨_, rfl, ?_⟩) | (go_at_call 60; (with_reducible refine (impl_partOk.calls a0_1 true _ A4.out).mono ?_); rintro e w' ⟨rfl, ⟨nd, rfl⟩⟩) | (go_at_call 60; (with_reducible refine (impl_partOk.calls a0_2 true _ A6.out).mono ?_); rintro e w' ⟨rfl, ⟨nd, rfl⟩⟩) | (go_at_call 60; (with_reducible refine (impl_partOk.calls a0_3 a2 _ A8.out).mono ?_); rintro e w' ⟨rfl, ⟨nd, rfl⟩⟩))
    go_ret
    exact ⟨by first | rfl | (simp [errW_none, errW_some] <;> rfl) | (simp [*, errW_none, errW_some] <;> rfl), by repeat (first | (with_reducible first | exact HB.out | apply yab | apply yaa | apply yac | refine below_set ?_ (Aside0.out ‹_›)) | exact HB.out)⟩
   ·
    replace c7 := Bool.eq_false_iff.mpr c7
    subst c7
    have H1 : (some false) = some r := by rw [if_neg (show ¬ (false = true) by decide)] at H; exact H
    clear H
    have H := H1
    clear H1
    obtain rfl := Option.some.inj H
    go_enter Try.func40, Try.ntmps40
    go_wp2_with (first | ((with_reducible refine gate_dst (N := 1) rfl ?_); refine box_event ?hg (N := 1) ?hd (cs := #[.int .i64 a0_0, .int .i64 a0_1, .int .i64 a0_2, .int .i64 a0_3]) (t := 36) ?hr ?_; (case hd => rfl); (case hg => rfl); (case hr => first | (go_simp; done) | (go_simp; rfl)); intro a1 hg w11 hbox hb; have n0_ := yad (below_step (by repeat (first | (with_reducible first | exact HB.out | apply yab | apply yaa | apply yac) | exact HB.out)) hb); have n1_ := yad (hbox); have n2_ := yad ((by rw [hg]; exact (below_size (by repeat (first | (with_reducible first | exact HB.out | apply yab | apply yaa | apply yac) | exact HB.out))) : w.heap.size ≤ a1)); have n3_ := yad ((by rw [hg]; exact (below_size (by repeat (first | (with_reducible first | exact HB.out | apply yab | apply yaa | apply yac) | exact HB.out))) : w.heap.size ≤ a1)); clear HB; have HB := n0_; have a0 := n1_; have a5 := n2_; have a6 := n3_; clear n0_ n1_ n2_ n3_; clear hb hbox hg; have b6 : w11.cell? ⟨a1, 0, none⟩ = some (.int .i64 a0_0) := (blk_cell a0.out 0).trans rfl; have b7 : w11.cell? ⟨a1, 1, none⟩ = some (.int .i64 a0_1) := (blk_cell a0.out 1).trans rfl; have b8 : w11.cell? ⟨a1, 2, none⟩ = some (.int .i64 a0_2) := (blk_cell a0.out 2).trans rfl; have b9 : w11.cell? ⟨a1, 3, none⟩ = some (.int .i64 a0_3) := (blk_cell a0.out 3).trans rfl; have c0 := yae a0.out 0; have c1 := yae a0.out 1; have c2 := yae a0.out 2; have c4 := yae a0.out 3) | ((with_reducible refine gate_callee (f := 60) rfl ?_); refine goesL_ (some 5) rfl rfl Try.func60 (by kernel_rfl) rfl #[.int .i64 a0_0] rfl (by (try simp only [List.map_toArray, List.map_cons, List.map_nil]); first | done | rfl | (simp only [List.length_drop, List.length_take]; rfl)) ?_; (with_reducible refine (impl_partOk.calls a0_0 true _ A2.out).mono ?_); rintro e w' ⟨rfl, ⟨nd, rfl⟩⟩; refine ⟨_, rfl, ?_⟩) | (go_at_call 60; (with_reducible refine (impl_partOk.calls a0_1 true _ A4.out).mono ?_); rintro e w' ⟨rfl, ⟨nd, rfl⟩⟩) | (go_at_call 60; (with_reducible refine (impl_partOk.calls a0_2 false _ A6.out).mono ?_); rintro e w' ⟨rfl, ⟨nd, rfl⟩⟩))
    go_ret
    exact ⟨by first | rfl | (simp [errW_none, errW_some] <;> rfl) | (simp [*, errW_none, errW_some] <;> rfl), by repeat (first | (with_reducible first | exact HB.out | apply yab | apply yaa | apply yac | refine below_set ?_ (Aside0.out ‹_›)) | exact HB.out)⟩
  ·
   replace c5 := Bool.eq_false_iff.mpr c5
   subst c5
   have H1 : (some false) = some r := by rw [if_neg (show ¬ (false = true) by decide)] at H; exact H
   clear H
   have H := H1
   clear H1
   obtain rfl := Option.some.inj H
   go_enter Try.func40, Try.ntmps40
   go_wp2_with (first | ((with_reducible refine gate_dst (N := 1) rfl ?_); refine box_event ?hg (N := 1) ?hd (cs := #[.int .i64 a0_0, .int .i64 a0_1, .int .i64 a0_2, .int .i64 a0_3]) (t := 36) ?hr ?_; (case hd => rfl); (case hg => rfl); (case hr => first | (go_simp; done) | (go_simp; rfl)); intro a1 hg w13 hbox hb; have n0_ := yad (below_step (by repeat (first | (with_reducible first | exact HB.out | apply yab | apply yaa | apply yac) | exact HB.out)) hb); have n1_ := yad (hbox); have n2_ := yad ((by rw [hg]; exact (below_size (by repeat (first | (with_reducible first | exact HB.out | apply yab | apply yaa | apply yac) | exact HB.out))) : w.heap.size ≤ a1)); have n3_ := yad ((by rw [hg]; exact (below_size (by repeat (first | (with_reducible first | exact HB.out | apply yab | apply yaa | apply yac) | exact HB.out))) : w.heap.size ≤ a1)); clear HB; have HB := n0_; have a0 := n1_; have a5 := n2_; have a6 := n3_; clear n0_ n1_ n2_ n3_; clear hb hbox hg; have c6 : w13.cell? ⟨a1, 0, none⟩ = some (.int .i64 a0_0) := (blk_cell a0.out 0).trans rfl; have c8 : w13.cell? ⟨a1, 1, none⟩ = some (.int .i64 a0_1) := (blk_cell a0.out 1).trans rfl; have c9 : w13.cell? ⟨a1, 2, none⟩ = some (.int .i64 a0_2) := (blk_cell a0.out 2).trans rfl; have d0 : w13.cell? ⟨a1, 3, none⟩ = some (.int .i64 a0_3) := (blk_cell a0.out 3).trans rfl; have d1 := yae a0.out 0; have d2 := yae a0.out 1; have d3 := yae a0.out 2; have d4 := yae a0.out 3) | ((with_reducible refine gate_callee (f := 60) rfl ?_); refine goesL_ (some 5) rfl rfl Try.func60 (by kernel_rfl) rfl #[.int .i64 a0_0] rfl (by (try simp only [List.map_toArray, List.map_cons, List.map_nil]); first | done | rfl | (simp only [List.length_drop, List.length_take]; rfl)) ?_; (with_reducible refine (impl_partOk.calls a0_0 true _ A2.out).mono ?_); rintro e w' ⟨rfl, ⟨nd, rfl⟩⟩; refine ⟨_, rfl, ?_⟩) | (go_at_call 60; (with_reducible refine (impl_partOk.calls a0_1 false _ A4.out).mono ?_); rintro e w' ⟨rfl, ⟨nd, rfl⟩⟩))
   go_ret
   exact ⟨by first | rfl | (simp [errW_none, errW_some] <;> rfl) | (simp [*, errW_none, errW_some] <;> rfl), by repeat (first | (with_reducible first | exact HB.out | apply yab | apply yaa | apply yac | refine below_set ?_ (Aside0.out ‹_›)) | exact HB.out)⟩
 ·
  replace c3 := Bool.eq_false_iff.mpr c3
  subst c3
  have H1 : (some false) = some r := by rw [if_neg (show ¬ (false = true) by decide)] at H; exact H
  clear H
  have H := H1
  clear H1
  obtain rfl := Option.some.inj H
  go_enter Try.func40, Try.ntmps40
  go_wp2_with (first | ((with_reducible refine gate_dst (N := 1) rfl ?_); refine box_event ?hg (N := 1) ?hd (cs := #[.int .i64 a0_0, .int .i64 a0_1, .int .i64 a0_2, .int .i64 a0_3]) (t := 36) ?hr ?_; (case hd => rfl); (case hg => rfl); (case hr => first | (go_simp; done) | (go_simp; rfl)); intro a1 hg w15 hbox hb; have n0_ := yad (below_step (by repeat (first | (with_reducible first | exact HB.out | apply yab | apply yaa | apply yac) | exact HB.out)) hb); have n1_ := yad (hbox); have n2_ := yad ((by rw [hg]; exact (below_size (by repeat (first | (with_reducible first | exact HB.out | apply yab | apply yaa | apply yac) | exact HB.out))) : w.heap.size ≤ a1)); have n3_ := yad ((by rw [hg]; exact (below_size (by repeat (first | (with_reducible first | exact HB.out | apply yab | apply yaa | apply yac) | exact HB.out))) : w.heap.size ≤ a1)); clear HB; have HB := n0_; have a0 := n1_; have a5 := n2_; have a6 := n3_; clear n0_ n1_ n2_ n3_; clear hb hbox hg; have d5 : w15.cell? ⟨a1, 0, none⟩ = some (.int .i64 a0_0) := (blk_cell a0.out 0).trans rfl; have d6 : w15.cell? ⟨a1, 1, none⟩ = some (.int .i64 a0_1) := (blk_cell a0.out 1).trans rfl; have d7 : w15.cell? ⟨a1, 2, none⟩ = some (.int .i64 a0_2) := (blk_cell a0.out 2).trans rfl; have d8 : w15.cell? ⟨a1, 3, none⟩ = some (.int .i64 a0_3) := (blk_cell a0.out 3).trans rfl; have d9 := yae a0.out 0; have e0 := yae a0.out 1; have e1 := yae a0.out 2; have e2 := yae a0.out 3) | ((with_reducible refine gate_callee (f := 60) rfl ?_); refine goesL_ (some 5) rfl rfl Try.func60 (by kernel_rfl) rfl #[.int .i64 a0_0] rfl (by (try simp only [List.map_toArray, List.map_cons, List.map_nil]); first | done | rfl | (simp only [List.length_drop, List.length_take]; rfl)) ?_; (with_reducible refine (impl_partOk.calls a0_0 false _ A2.out).mono ?_); rintro e w' ⟨rfl, ⟨nd, rfl⟩⟩; refine ⟨_, rfl, ?_⟩))
  go_ret
  exact ⟨by first | rfl | (simp [errW_none, errW_some] <;> rfl) | (simp [*, errW_none, errW_some] <;> rfl), by repeat (first | (with_reducible first | exact HB.out | apply yab | apply yaa | apply yac | refine below_set ?_ (Aside0.out ‹_›)) | exact HB.out)⟩

end Go.Proofs.Ytoifpgkfpdeglaa.X

namespace Go.Proofs.Ytoifpgkfpdeglaa.X
open Go.RowKit Go.Proofs.YtoifpgkfpdeglaaW.PrintWords Go.Proofs.YtoifpgkfpdeglaaW.PrintLast Go.Proofs.YtoifpgkfpdeglaaW.PrintMore
attribute [local go_sem] max2_int min2_int max_two min_two max_three min_three max_four min_four
set_option linter.unusedVariables false
set_option linter.unusedSimpArgs false

open Go.Proofs.YtoifpgkfpdeglaaW.PrintWords.Aside0 renaming mk → yaa
open Go.Proofs.YtoifpgkfpdeglaaW.PrintWords renaming pw_below_drewN → yab, below_alloc → yac, below_drew1 → yad, blk_frozen → yae, blk_cell → yag
open Go.Proofs.Ytoifpgkfpdeglaa.X renaming rd_T36 → yaf

/-! ### impl_RasOk: function 17 -/
mutual
def impl_RasOk.j0 : Nat → Bool → Int → Int → List (S36) → Option (Bool)
 | 0, _, _, _, _ => none
 | k + 1, x25, x102000, x102001, x102002 => if x25 = true then (some false) else (impl_RasOk.l0 k x102002 (x102002.length : Int) 0)
def impl_RasOk.l0 : Nat → List (S36) → Int → Int → Option (Bool)
 | 0, _, _, _ => none
 | k + 1, x27, x28, x29 => if x29 < x28 then (if 0 ≤ x29 then (if x29 < (x27.length : Int) then ((impl_PixOk.f ((rd_T36 x27 x29).f0) ((rd_T36 x27 x29).f1) ((rd_T36 x27 x29).f2) ((rd_T36 x27 x29).f3)).bind fun t106 => (if t106 = true then (impl_RasOk.l0 k x27 x28 (wrap64 (x29 + 1))) else (some false))) else (none)) else (none)) else (some true)
end
def impl_RasOk.f (k : Nat) (a0_0 : Int) (a0_1 : Int) (l0_2 : List (S36)) : Option (Bool) := (impl_sizeOk.f a0_0).bind fun t102 => (if t102 = true then ((impl_sizeOk.f a0_1).bind fun t103 => (if t103 = true then (impl_RasOk.j0 k ((l0_2.length : Int) != (wrap64 (a0_0 * a0_1))) a0_0 a0_1 l0_2) else (impl_RasOk.j0 k true a0_0 a0_1 l0_2))) else (impl_RasOk.j0 k true a0_0 a0_1 l0_2))
set_option maxHeartbeats 8000000 in
set_option maxRecDepth 100000 in
theorem impl_RasOk.calls (k : Nat) (a0_0 : Int) (a0_1 : Int) (A0_2 : Option Addr) (c0_2 : Nat) (l0_2 : List (S36)) (r : Bool) (w : World) (hr0_2 : Kd.C k36 w A0_2 l0_2.length l0_2) (hc0_2 : l0_2.length ≤ c0_2) (h : impl_RasOk.f k a0_0 a0_1 l0_2 = some r) :
  Calls Try.prog 17 #[.agg #[.int .i64 a0_0, .int .i64 a0_1, .slice A0_2 l0_2.length c0_2]] w fun e w' => e = .returned (.bool r) ∧ Below w.heap.size w w' := by
 have hu25 := Try.underlying25
 have hu36 := Try.underlying36
 have HR0_2 := yaa hr0_2
 have HC0_2 := yaa hc0_2
 clear hr0_2 hc0_2
 have HB := yaa (Below.refl w.heap.size w)
 have H : ((impl_sizeOk.f a0_0).bind fun d8 => (if d8 = true then ((impl_sizeOk.f a0_1).bind fun b4 => (if b4 = true then (impl_RasOk.j0 k ((l0_2.length : Int) != (wrap64 (a0_0 * a0_1))) a0_0 a0_1 l0_2) else (impl_RasOk.j0 k true a0_0 a0_1 l0_2))) else (impl_RasOk.j0 k true a0_0 a0_1 l0_2))) = some r := h
 clear h
 have HC2 := yaa H
 clear H
 go_enter Try.func17, Try.ntmps17
 go_upto_region 1 with (first | ((with_reducible refine gate_dst (N := 1) rfl ?_); (try (refine gate_guard (by rfl) ?_; dsimp only)); refine box_event ?hg (N := 1) ?hd (cs := #[.int .i64 a0_0, .int .i64 a0_1, .slice A0_2 l0_2.length c0_2]) (t := 25) ?hr ?_; (case hd => rfl); (case hg => rfl); (case hr => first | (go_simp; done) | (go_simp; rfl)); intro a5 hg w3 hbox hb; have n0_ := yaa (below_step (by repeat (first | (with_reducible first | exact HB.out | apply yac | apply yab | apply yad) | exact HB.out)) hb); have n1_ := yaa (hbox); have n2_ := yaa ((by rw [hg]; exact (below_size (by repeat (first | (with_reducible first | exact HB.out | apply yac | apply yab | apply yad) | exact HB.out))) : w.heap.size ≤ a5)); have n3_ := yaa ((by rw [hg]; exact (below_size (by repeat (first | (with_reducible first | exact HB.out | apply yac | apply yab | apply yad) | exact HB.out))) : w.heap.size ≤ a5)); clear HB; have HB := n0_; have a4 := n1_; have h1 := n2_; have h2 := n3_; clear n0_ n1_ n2_ n3_; clear hb hbox hg))
 (try simp only [Act.put, List.setIfInBounds_toArray, List.set_cons_zero, List.set_cons_succ])
 go_cut [25] (fun v25 wc => ∃ (kq : Nat) (b5 : Bool), v25 = .bool b5 ∧ Aside0 (impl_RasOk.j0 kq b5 a0_0 a0_1 l0_2 = some r) ∧ Aside0 (kq ≤ k) ∧ Aside0 (wc.heap[a5]? = some (.cells #[.int .i64 a0_0, .int .i64 a0_1, (.slice A0_2 l0_2.length c0_2)] 25 (0, 0))) ∧ Aside0 (Below w.heap.size w wc))
 case first =>
  have H := HC2.out
  clear HC2
  replace H := Option.bind_eq_some_iff.mp H
  obtain ⟨d8, A40, H⟩ := H
  replace H : (if d8 = true then ((impl_sizeOk.f a0_1).bind fun b4 => (if b4 = true then (impl_RasOk.j0 k ((l0_2.length : Int) != (wrap64 (a0_0 * a0_1))) a0_0 a0_1 l0_2) else (impl_RasOk.j0 k true a0_0 a0_1 l0_2))) else (impl_RasOk.j0 k true a0_0 a0_1 l0_2)) = some r := H
  have A4 := yaa A40
  clear A40
  by_cases c5 : d8 = true
  ·
   subst c5
   have H1 : ((impl_sizeOk.f a0_1).bind fun b4 => (if b4 = true then (impl_RasOk.j0 k ((l0_2.length : Int) != (wrap64 (a0_0 * a0_1))) a0_0 a0_1 l0_2) else (impl_RasOk.j0 k true a0_0 a0_1 l0_2))) = some r := by rw [if_pos rfl] at H; exact H
   clear H
   have H := H1
   clear H1
   replace H := Option.bind_eq_some_iff.mp H
   obtain ⟨b4, A60, H⟩ := H
   replace H : (if b4 = true then (impl_RasOk.j0 k ((l0_2.length : Int) != (wrap64 (a0_0 * a0_1))) a0_0 a0_1 l0_2) else (impl_RasOk.j0 k true a0_0 a0_1 l0_2)) = some r := H
   have A6 := yaa A60
   clear A60
   by_cases c7 : b4 = true
   ·
    subst c7
    have H1 : (impl_RasOk.j0 k ((l0_2.length : Int) != (wrap64 (a0_0 * a0_1))) a0_0 a0_1 l0_2) = some r := by rw [if_pos rfl] at H; exact H
    clear H
    have H := H1
    clear H1
    have H' := yaa H
    clear H
    have c3 : w3.cell? ⟨a5, 0, none⟩ = some (.int .i64 a0_0) := (yag a4.out 0).trans rfl
    have c6 : w3.cell? ⟨a5, 1, none⟩ = some (.int .i64 a0_1) := (yag a4.out 1).trans rfl
    have c8 : w3.cell? ⟨a5, 2, none⟩ = some (.slice A0_2 l0_2.length c0_2) := (yag a4.out 2).trans rfl
    have c9 := yae a4.out 0
    have d0 := yae a4.out 1
    have d1 := yae a4.out 2
    go_wp2_with (first | ((with_reducible refine gate_callee (f := 42) rfl ?_); refine goesL_ (some 7) rfl rfl Try.func42 (by kernel_rfl) rfl #[.int .i64 a0_0] rfl (by (try simp only [List.map_toArray, List.map_cons, List.map_nil]); first | done | rfl | (simp only [List.length_drop, List.length_take]; rfl)) ?_; (with_reducible refine (impl_sizeOk.calls a0_0 true _ A4.out).mono ?_); rintro e w' ⟨rfl, ⟨nd, rfl⟩⟩; refine ⟨_, rfl, ?_⟩) | (go_at_call 42; (with_reducible refine (impl_sizeOk.calls a0_1 true _ A6.out).mono ?_); rintro e w' ⟨rfl, ⟨nd, rfl⟩⟩))
    go_meet
    case rel => exact ⟨_, (((l0_2.length : Int) != (wrap64 (a0_0 * a0_1)))), (by first | rfl | (simp; done) | (simp [*]; done)), H', ⟨by first | omega | exact Nat.le_refl _⟩, ⟨by exact upB a4.out⟩, ⟨by repeat (first | (with_reducible first | exact HB.out | apply yac | apply yab | apply yad | refine below_set ?_ (Aside0.out ‹_›)) | exact HB.out)⟩⟩
   ·
    replace c7 := Bool.eq_false_iff.mpr c7
    subst c7
    have H1 : (impl_RasOk.j0 k true a0_0 a0_1 l0_2) = some r := by rw [if_neg (show ¬ (false = true) by decide)] at H; exact H
    clear H
    have H := H1
    clear H1
    have H' := yaa H
    clear H
    have d2 : w3.cell? ⟨a5, 0, none⟩ = some (.int .i64 a0_0) := (yag a4.out 0).trans rfl
    have d3 : w3.cell? ⟨a5, 1, none⟩ = some (.int .i64 a0_1) := (yag a4.out 1).trans rfl
    have d4 : w3.cell? ⟨a5, 2, none⟩ = some (.slice A0_2 l0_2.length c0_2) := (yag a4.out 2).trans rfl
    have d5 := yae a4.out 0
    have d6 := yae a4.out 1
    have d7 := yae a4.out 2
    go_wp2_with (first | ((with_reducible refine gate_callee (f := 42) rfl ?_); refine goesL_ (some 7) rfl rfl Try.func42 (by kernel_rfl) rfl #[.int .i64 a0_0] rfl (by (try simp only [List.map_toArray, List.map_cons, List.map_nil]); first | done | rfl | (simp only [List.length_drop, List.length_take]; rfl)) ?_; (with_reducible refine (impl_sizeOk.calls a0_0 true _ A4.out).mono ?_); rintro e w' ⟨rfl, ⟨nd, rfl⟩⟩; refine ⟨_, rfl, ?_⟩) | (go_at_call 42; (with_reducible refine (impl_sizeOk.calls a0_1 false _ A6.out).mono ?_); rintro e w' ⟨rfl, ⟨nd, rfl⟩⟩))
    go_meet
    case rel => exact ⟨_, (true), (by first | rfl | (simp; done) | (simp [*]; done)), H', ⟨by first | omega | exact Nat.le_refl _⟩, ⟨by exact upB a4.out⟩, ⟨by repeat (first | (with_reducible first | exact HB.out | apply yac | apply yab | apply yad | refine below_set ?_ (Aside0.out ‹_›)) | exact HB.out)⟩⟩
  ·
   replace c5 := Bool.eq_false_iff.mpr c5
   subst c5
   have H1 : (impl_RasOk.j0 k true a0_0 a0_1 l0_2) = some r := by rw [if_neg (show ¬ (false = true) by decide)] at H; exact H
   clear H
   have H := H1
   clear H1
   have H' := yaa H
   clear H
   have b6 : w3.cell? ⟨a5, 0, none⟩ = some (.int .i64 a0_0) := (yag a4.out 0).trans rfl
   have b7 : w3.cell? ⟨a5, 1, none⟩ = some (.int .i64 a0_1) := (yag a4.out 1).trans rfl
   have b8 : w3.cell? ⟨a5, 2, none⟩ = some (.slice A0_2 l0_2.length c0_2) := (yag a4.out 2).trans rfl
   have b9 := yae a4.out 0
   have c0 := yae a4.out 1
   have c2 := yae a4.out 2
   go_wp2_with (first | ((with_reducible refine gate_callee (f := 42) rfl ?_); refine goesL_ (some 7) rfl rfl Try.func42 (by kernel_rfl) rfl #[.int .i64 a0_0] rfl (by (try simp only [List.map_toArray, List.map_cons, List.map_nil]); first | done | rfl | (simp only [List.length_drop, List.length_take]; rfl)) ?_; (with_reducible refine (impl_sizeOk.calls a0_0 false _ A4.out).mono ?_); rintro e w' ⟨rfl, ⟨nd, rfl⟩⟩; refine ⟨_, rfl, ?_⟩))
   go_meet
   case rel => exact ⟨_, (true), (by first | rfl | (simp; done) | (simp [*]; done)), H', ⟨by first | omega | exact Nat.le_refl _⟩, ⟨by exact upB a4.out⟩, ⟨by repeat (first | (with_reducible first | exact HB.out | apply yac | apply yab | apply yad | refine below_set ?_ (Aside0.out ‹_›)) | exact HB.out)⟩⟩
 case rest =>
  clear HC2
  try clear c1
  try clear p2
  try clear c4
  try clear c5
  try clear p6
  try clear c7
  try clear b6
  try clear b7
  try clear b8
  try clear c3
  try clear c6
  try clear c8
  try clear d2
  try clear d3
  try clear d4
  try clear b9
  try clear c0
  try clear c2
  try clear c9
  try clear d0
  try clear d1
  try clear d5
  try clear d6
  try clear d7
  obtain ⟨kq, b5, rfl, HA, HJ1, a4, HB⟩ := hcut
  cases kq with
  | zero => exact absurd HA.out (by simp [impl_RasOk.j0])
  | succ kj1 =>
   have H := HA.out
   clear HA
   simp only [impl_RasOk.j0] at H
   by_cases c11 : b5 = true
   ·
    subst c11
    have H1 : (some false) = some r := by rw [if_pos rfl] at H; exact H
    clear H
    have H := H1
    clear H1
    obtain rfl := Option.some.inj H
    go_wp2
    go_ret
    exact ⟨by first | rfl | (simp [errW_none, errW_some] <;> rfl) | (simp [*, errW_none, errW_some] <;> rfl), by repeat (first | (with_reducible first | exact HB.out | apply yac | apply yab | apply yad | refine below_set ?_ (Aside0.out ‹_›)) | exact HB.out)⟩
   ·
    replace c11 := Bool.eq_false_iff.mpr c11
    subst c11
    have H1 : (impl_RasOk.l0 kj1 l0_2 (l0_2.length : Int) 0) = some r := by rw [if_neg (show ¬ (false = true) by decide)] at H; exact H
    clear H
    have H := H1
    clear H1
    have H' := yaa H
    clear H
    have d9 : wc.cell? ⟨a5, 0, none⟩ = some (.int .i64 a0_0) := (yag a4.out 0).trans rfl
    have e0 : wc.cell? ⟨a5, 1, none⟩ = some (.int .i64 a0_1) := (yag a4.out 1).trans rfl
    have e1 : wc.cell? ⟨a5, 2, none⟩ = some (.slice A0_2 l0_2.length c0_2) := (yag a4.out 2).trans rfl
    have e2 := yae a4.out 0
    have e3 := yae a4.out 1
    have e4 := yae a4.out 2
    go_wp2
    (try simp only [Act.put, List.setIfInBounds_toArray, List.set_cons_zero, List.set_cons_succ])
    go_loopg [29] kj1 (fun kq v29 w' => ∃ (a3 : Int), v29 = .int .i64 a3 ∧ Aside0 (impl_RasOk.l0 kq l0_2 (l0_2.length : Int) a3 = some r) ∧ Aside0 (kq ≤ kj1) ∧ Aside0 (w'.heap[a5]? = some (.cells #[.int .i64 a0_0, .int .i64 a0_1, (.slice A0_2 l0_2.length c0_2)] 25 (0, 0))) ∧ Aside0 (Below w.heap.size w w'))
    case atStart => exact ⟨(0), (by first | rfl | (simp; done) | (simp [*]; done)), H', ⟨Nat.le_refl _⟩, ⟨by exact upB a4.out⟩, ⟨by repeat (first | (with_reducible first | exact HB.out | apply yac | apply yab | apply yad | refine below_set ?_ (Aside0.out ‹_›)) | exact HB.out)⟩⟩
    case round =>
     clear H'
     try clear c1
     try clear p2
     try clear c4
     try clear c5
     try clear p6
     try clear c7
     try clear c11
     try clear b6
     try clear b7
     try clear b8
     try clear d9
     try clear e0
     try clear e1
     try clear c3
     try clear c6
     try clear c8
     try clear d2
     try clear d3
     try clear d4
     try clear b9
     try clear c0
     try clear c2
     try clear e2
     try clear e3
     try clear e4
     try clear c9
     try clear d0
     try clear d1
     try clear d5
     try clear d6
     try clear d7
     try clear p2
     try clear p6
     obtain ⟨a3, rfl, HA, HK2, a4, HB⟩ := hrel
     cases gk with
     | zero => exact absurd HA.out (by simp [impl_RasOk.l0])
     | succ k2 =>
      have H := HA.out
      clear HA
      simp only [impl_RasOk.l0] at H
      by_cases c13 : a3 < (l0_2.length : Int)
      ·
       rw [if_pos c13] at H
       have e6 : decide (a3 < (l0_2.length : Int)) = true := decide_eq_true c13
       clear c13
       by_cases c14 : 0 ≤ a3
       ·
        rw [if_pos c14] at H
        have h3 : decide (0 ≤ a3) = true := decide_eq_true c14
        clear c14
        by_cases c15 : a3 < (l0_2.length : Int)
        ·
         rw [if_pos c15] at H
         have h4 : decide (a3 < (l0_2.length : Int)) = true := decide_eq_true c15
         clear c15
         replace H := Option.bind_eq_some_iff.mp H
         obtain ⟨e7, e8, H⟩ := H
         replace H : (if e7 = true then (impl_RasOk.l0 k2 l0_2 (l0_2.length : Int) (wrap64 (a3 + 1))) else (some false)) = some r := H
         have A16 := yaa e8
         clear e8
         by_cases c17 : e7 = true
         ·
          subst c17
          have H1 : (impl_RasOk.l0 k2 l0_2 (l0_2.length : Int) (wrap64 (a3 + 1))) = some r := by rw [if_pos rfl] at H; exact H
          clear H
          have H := H1
          clear H1
          have H' := yaa H
          clear H
          have p104 : 0 ≤ (a3 : Int) := of_decide_eq_true (by first | (with_reducible assumption) | assumption)
          have q104 : a3 < (l0_2.length : Int) := of_decide_eq_true (by first | (with_reducible assumption) | assumption)
          obtain ⟨ad104, e5, a9, b0, b1, b2⟩ := at_T36 HR0_2.out a3 p104 q104
          cases e5
          replace a9 := (HB.out.cell (World.block_lt_of_cell? w _ a9)).trans a9
          replace b0 := (HB.out.cell (World.block_lt_of_cell? w _ b0)).trans b0
          replace b1 := (HB.out.cell (World.block_lt_of_cell? w _ b1)).trans b1
          replace b2 := (HB.out.cell (World.block_lt_of_cell? w _ b2)).trans b2
          replace p104 := eq_true p104
          replace q104 := eq_true q104
          go_wp2_with (first | ((with_reducible refine gate_dst (N := 4) rfl ?_); (try (refine gate_guard (by rfl) ?_; dsimp only)); refine box_event ?hg (N := 4) ?hd (cs := #[.int .i64 0, .int .i64 0, .int .i64 0, .int .i64 0]) (t := 36) ?hr ?_; (case hd => rfl); (case hg => rfl); (case hr => first | (go_simp; done) | (go_simp; rfl)); intro a8 hg w18 hbox hb; have n0_ := yaa (blk_below (g := a5) (o := .cells #[.int .i64 a0_0, .int .i64 a0_1, .slice (some ad104) l0_2.length c0_2] 25 (0, 0)) (upB a4.out) hb); have n1_ := yaa (below_step (by repeat (first | (with_reducible first | exact HB.out | apply yac | apply yab | apply yad | refine below_set ?_ (Aside0.out ‹_›)) | exact HB.out)) hb); have n2_ := yaa (hbox); have n3_ := yaa ((by rw [hg]; exact (below_size (by repeat (first | (with_reducible first | exact HB.out | apply yac | apply yab | apply yad | refine below_set ?_ (Aside0.out ‹_›)) | exact HB.out))) : w.heap.size ≤ a8)); have n4_ := yaa ((by rw [hg]; exact (below_size (by repeat (first | (with_reducible first | exact HB.out | apply yac | apply yab | apply yad | refine below_set ?_ (Aside0.out ‹_›)) | exact HB.out))) : w.heap.size ≤ a8)); have n5_ := yaa ((by rw [hg]; exact Nat.ne_of_lt (blk_lt (g := a5) (o := .cells #[.int .i64 a0_0, .int .i64 a0_1, .slice (some ad104) l0_2.length c0_2] 25 (0, 0)) (upB a4.out)) : a5 ≠ a8)); have n6_ := yaa ((by rw [hg]; exact Nat.ne_of_gt (blk_lt (g := a5) (o := .cells #[.int .i64 a0_0, .int .i64 a0_1, .slice (some ad104) l0_2.length c0_2] 25 (0, 0)) (upB a4.out)) : a8 ≠ a5)); clear a4; clear HB; have a4 := n0_; have HB := n1_; have a7 := n2_; have e9 := n3_; have f4 := n4_; have a6 := n5_; have b3 := n6_; clear n0_ n1_ n2_ n3_ n4_ n5_ n6_; clear hb hbox hg; have h5 := b3.out; have h6 := a6.out; have f5 : w18.cell? ⟨a8, 0, none⟩ = some (.int .i64 0) := (yag a7.out 0).trans rfl; have f6 : w18.cell? ⟨a8, 1, none⟩ = some (.int .i64 0) := (yag a7.out 1).trans rfl; have f7 : w18.cell? ⟨a8, 2, none⟩ = some (.int .i64 0) := (yag a7.out 2).trans rfl; have f8 : w18.cell? ⟨a8, 3, none⟩ = some (.int .i64 0) := (yag a7.out 3).trans rfl; have f9 := yae a7.out 0; have g0 := yae a7.out 1; have g1 := yae a7.out 2; have g2 := yae a7.out 3) | ((with_reducible refine gate_callee (f := 40) rfl ?_); refine goesL_ (some 34) rfl rfl Try.func40 (by kernel_rfl) rfl #[.agg #[.int .i64 ((yaf l0_2 a3).f0), .int .i64 ((yaf l0_2 a3).f1), .int .i64 ((yaf l0_2 a3).f2), .int .i64 ((yaf l0_2 a3).f3)]] rfl (by (try simp only [List.map_toArray, List.map_cons, List.map_nil]); first | done | rfl | (simp only [List.length_drop, List.length_take]; rfl)) ?_; (with_reducible refine (impl_PixOk.calls ((yaf l0_2 a3).f0) ((yaf l0_2 a3).f1) ((yaf l0_2 a3).f2) ((yaf l0_2 a3).f3) true _ A16.out).mono ?_); rintro e w21 ⟨rfl, hb⟩; refine ⟨_, rfl, ?_⟩; have n0_ := yaa (blk_below (g := a5) (o := .cells #[.int .i64 a0_0, .int .i64 a0_1, .slice (some ad104) l0_2.length c0_2] 25 (0, 0)) (by (with_reducible repeat (first | refine blk_drewN ?_ _ | refine blk_drew ?_ | refine blk_alloc ?_ _)); refine blk_far ?_ a6.out _; (with_reducible repeat (first | refine blk_drewN ?_ _ | refine blk_drew ?_ | refine blk_alloc ?_ _)); refine blk_far ?_ a6.out _; (with_reducible repeat (first | refine blk_drewN ?_ _ | refine blk_drew ?_ | refine blk_alloc ?_ _)); refine blk_far ?_ a6.out _; (with_reducible repeat (first | refine blk_drewN ?_ _ | refine blk_drew ?_ | refine blk_alloc ?_ _)); refine blk_far ?_ a6.out _; exact upB a4.out) hb); have n1_ := yaa (blk_below (g := a8) (o := .cells #[.int .i64 ((yaf l0_2 a3).f0), .int .i64 ((yaf l0_2 a3).f1), .int .i64 ((yaf l0_2 a3).f2), .int .i64 ((yaf l0_2 a3).f3)] 36 (0, 0)) (by (with_reducible repeat (first | refine blk_drewN ?_ _ | refine blk_drew ?_ | refine blk_alloc ?_ _)); refine blk_put (cs := #[.int .i64 ((yaf l0_2 a3).f0), .int .i64 ((yaf l0_2 a3).f1), .int .i64 ((yaf l0_2 a3).f2), .int .i64 0]) ?_ 3 _ rfl; (with_reducible repeat (first | refine blk_drewN ?_ _ | refine blk_drew ?_ | refine blk_alloc ?_ _)); refine blk_put (cs := #[.int .i64 ((yaf l0_2 a3).f0), .int .i64 ((yaf l0_2 a3).f1), .int .i64 0, .int .i64 0]) ?_ 2 _ rfl; (with_reducible repeat (first | refine blk_drewN ?_ _ | refine blk_drew ?_ | refine blk_alloc ?_ _)); refine blk_put (cs := #[.int .i64 ((yaf l0_2 a3).f0), .int .i64 0, .int .i64 0, .int .i64 0]) ?_ 1 _ rfl; (with_reducible repeat (first | refine blk_drewN ?_ _ | refine blk_drew ?_ | refine blk_alloc ?_ _)); refine blk_put (cs := #[.int .i64 0, .int .i64 0, .int .i64 0, .int .i64 0]) ?_ 0 _ rfl; exact upB a7.out) hb); have n2_ := yaa (below_step (by repeat (first | (with_reducible first | exact HB.out | apply yac | apply yab | apply yad | refine below_set ?_ (Aside0.out ‹_›)) | exact HB.out)) hb); clear a4; clear a7; clear HB; have a4 := n0_; have a7 := n1_; have HB := n2_; clear n0_ n1_ n2_; (try clear hb); (try clear hb2); (try clear hk); (try clear hi)))
          go_roundg k2
          case measure => have := HJ1.out; have := HK2.out; omega
          case rel => exact ⟨(wrap64 (a3 + 1)), (by first | rfl | (simp; done) | (simp [*]; done)), H', ⟨by have := HJ1.out; have := HK2.out; omega⟩, ⟨by exact upB a4.out⟩, ⟨by repeat (first | (with_reducible first | exact HB.out | apply yac | apply yab | apply yad | refine below_set ?_ (Aside0.out ‹_›)) | exact HB.out)⟩⟩
         ·
          replace c17 := Bool.eq_false_iff.mpr c17
          subst c17
          have H1 : (some false) = some r := by rw [if_neg (show ¬ (false = true) by decide)] at H; exact H
          clear H
          have H := H1
          clear H1
          obtain rfl := Option.some.inj H
          have p104 : 0 ≤ (a3 : Int) := of_decide_eq_true (by first | (with_reducible assumption) | assumption)
          have q104 : a3 < (l0_2.length : Int) := of_decide_eq_true (by first | (with_reducible assumption) | assumption)
          obtain ⟨ad104, e5, a9, b0, b1, b2⟩ := at_T36 HR0_2.out a3 p104 q104
          cases e5
          replace a9 := (HB.out.cell (World.block_lt_of_cell? w _ a9)).trans a9
          replace b0 := (HB.out.cell (World.block_lt_of_cell? w _ b0)).trans b0
          replace b1 := (HB.out.cell (World.block_lt_of_cell? w _ b1)).trans b1
          replace b2 := (HB.out.cell (World.block_lt_of_cell? w _ b2)).trans b2
          replace p104 := eq_true p104
          replace q104 := eq_true q104
          go_wp2_with (first | ((with_reducible refine gate_dst (N := 4) rfl ?_); (try (refine gate_guard (by rfl) ?_; dsimp only)); refine box_event ?hg (N := 4) ?hd (cs := #[.int .i64 0, .int .i64 0, .int .i64 0, .int .i64 0]) (t := 36) ?hr ?_; (case hd => rfl); (case hg => rfl); (case hr => first | (go_simp; done) | (go_simp; rfl)); intro a8 hg w22 hbox hb; have n0_ := yaa (blk_below (g := a5) (o := .cells #[.int .i64 a0_0, .int .i64 a0_1, .slice (some ad104) l0_2.length c0_2] 25 (0, 0)) (upB a4.out) hb); have n1_ := yaa (below_step (by repeat (first | (with_reducible first | exact HB.out | apply yac | apply yab | apply yad | refine below_set ?_ (Aside0.out ‹_›)) | exact HB.out)) hb); have n2_ := yaa (hbox); have n3_ := yaa ((by rw [hg]; exact (below_size (by repeat (first | (with_reducible first | exact HB.out | apply yac | apply yab | apply yad | refine below_set ?_ (Aside0.out ‹_›)) | exact HB.out))) : w.heap.size ≤ a8)); have n4_ := yaa ((by rw [hg]; exact (below_size (by repeat (first | (with_reducible first | exact HB.out | apply yac | apply yab | apply yad | refine below_set ?_ (Aside0.out ‹_›)) | exact HB.out))) : w.heap.size ≤ a8)); have n5_ := yaa ((by rw [hg]; exact Nat.ne_of_lt (blk_lt (g := a5) (o := .cells #[.int .i64 a0_0, .int .i64 a0_1, .slice (some ad104) l0_2.length c0_2] 25 (0, 0)) (upB a4.out)) : a5 ≠ a8)); have n6_ := yaa ((by rw [hg]; exact Nat.ne_of_gt (blk_lt (g := a5) (o := .cells #[.int .i64 a0_0, .int .i64 a0_1, .slice (some ad104) l0_2.length c0_2] 25 (0, 0)) (upB a4.out)) : a8 ≠ a5)); clear a4; clear HB; have a4 := n0_; have HB := n1_; have a7 := n2_; have e9 := n3_; have f4 := n4_; have a6 := n5_; have b3 := n6_; clear n0_ n1_ n2_ n3_ n4_ n5_ n6_; clear hb hbox hg; have h7 := b3.out; have h8 := a6.out; have g3 : w22.cell? ⟨a8, 0, none⟩ = some (.int .i64 0) := (yag a7.out 0).trans rfl; have g4 : w22.cell? ⟨a8, 1, none⟩ = some (.int .i64 0) := (yag a7.out 1).trans rfl; have g5 : w22.cell? ⟨a8, 2, none⟩ = some (.int .i64 0) := (yag a7.out 2).trans rfl; have g6 : w22.cell? ⟨a8, 3, none⟩ = some (.int .i64 0) := (yag a7.out 3).trans rfl; have g7 := yae a7.out 0; have g8 := yae a7.out 1; have g9 := yae a7.out 2; have h0 := yae a7.out 3) | ((with_reducible refine gate_callee (f := 40) rfl ?_); refine goesL_ (some 34) rfl rfl Try.func40 (by kernel_rfl) rfl #[.agg #[.int .i64 ((yaf l0_2 a3).f0), .int .i64 ((yaf l0_2 a3).f1), .int .i64 ((yaf l0_2 a3).f2), .int .i64 ((yaf l0_2 a3).f3)]] rfl (by (try simp only [List.map_toArray, List.map_cons, List.map_nil]); first | done | rfl | (simp only [List.length_drop, List.length_take]; rfl)) ?_; (with_reducible refine (impl_PixOk.calls ((yaf l0_2 a3).f0) ((yaf l0_2 a3).f1) ((yaf l0_2 a3).f2) ((yaf l0_2 a3).f3) false _ A16.out).mono ?_); rintro e w25 ⟨rfl, hb⟩; refine ⟨_, rfl, ?_⟩; have n0_ := yaa (blk_below (g := a5) (o := .cells #[.int .i64 a0_0, .int .i64 a0_1, .slice (some ad104) l0_2.length c0_2] 25 (0, 0)) (by (with_reducible repeat (first | refine blk_drewN ?_ _ | refine blk_drew ?_ | refine blk_alloc ?_ _)); refine blk_far ?_ a6.out _; (with_reducible repeat (first | refine blk_drewN ?_ _ | refine blk_drew ?_ | refine blk_alloc ?_ _)); refine blk_far ?_ a6.out _; (with_reducible repeat (first | refine blk_drewN ?_ _ | refine blk_drew ?_ | refine blk_alloc ?_ _)); refine blk_far ?_ a6.out _; (with_reducible repeat (first | refine blk_drewN ?_ _ | refine blk_drew ?_ | refine blk_alloc ?_ _)); refine blk_far ?_ a6.out _; exact upB a4.out) hb); have n1_ := yaa (blk_below (g := a8) (o := .cells #[.int .i64 ((yaf l0_2 a3).f0), .int .i64 ((yaf l0_2 a3).f1), .int .i64 ((yaf l0_2 a3).f2), .int .i64 ((yaf l0_2 a3).f3)] 36 (0, 0)) (by (with_reducible repeat (first | refine blk_drewN ?_ _ | refine blk_drew ?_ | refine blk_alloc ?_ _)); refine blk_put (cs := #[.int .i64 ((yaf l0_2 a3).f0), .int .i64 ((yaf l0_2 a3).f1), .int .i64 ((yaf l0_2 a3).f2), .int .i64 0]) ?_ 3 _ rfl; (with_reducible repeat (first | refine blk_drewN ?_ _ | refine blk_drew ?_ | refine blk_alloc ?_ _)); refine blk_put (cs := #[.int .i64 ((yaf l0_2 a3).f0), .int .i64 ((yaf l0_2 a3).f1), .int .i64 0, .int .i64 0]) ?_ 2 _ rfl; (with_reducible repeat (first | refine blk_drewN ?_ _ | refine blk_drew ?_ | refine blk_alloc ?_ _)); refine blk_put (cs := #[.int .i64 ((yaf l0_2 a3).f0), .int .i64 0, .int .i64 0, .int .i64 0]) ?_ 1 _ rfl; (with_reducible repeat (first | refine blk_drewN ?_ _ | refine blk_drew ?_ | refine blk_alloc ?_ _)); refine blk_put (cs := #[.int .i64 0, .int .i64 0, .int .i64 0, .int .i64 0]) ?_ 0 _ rfl; exact upB a7.out) hb); have n2_ := yaa (below_step (by repeat (first | (with_reducible first | exact HB.out | apply yac | apply yab | apply yad | refine below_set ?_ (Aside0.out ‹_›)) | exact HB.out)) hb); clear a4; clear a7; clear HB; have a4 := n0_; have a7 := n1_; have HB := n2_; clear n0_ n1_ n2_; (try clear hb); (try clear hb2); (try clear hk); (try clear hi)))
          go_ret
          exact ⟨by first | rfl | (simp [errW_none, errW_some] <;> rfl) | (simp [*, errW_none, errW_some] <;> rfl), by repeat (first | (with_reducible first | exact HB.out | apply yac | apply yab | apply yad | refine below_set ?_ (Aside0.out ‹_›)) | exact HB.out)⟩
        ·
         rw [if_neg c15] at H
         exact absurd H (by simp)
       ·
        rw [if_neg c14] at H
        exact absurd H (by simp)
      ·
       rw [if_neg c13] at H
       have e6 : decide (a3 < (l0_2.length : Int)) = false := decide_eq_false c13
       clear c13
       obtain rfl := Option.some.inj H
       go_wp2
       go_ret
       exact ⟨by first | rfl | (simp [errW_none, errW_some] <;> rfl) | (simp [*, errW_none, errW_some] <;> rfl), by repeat (first | (with_reducible first | exact HB.out | apply yac | apply yab | apply yad | refine below_set ?_ (Aside0.out ‹_›)) | exact HB.out)⟩

end Go.Proofs.Ytoifpgkfpdeglaa.X

namespace Go.Proofs.Ytoifpgkfpdeglaa.X
open Go.RowKit Go.Proofs.YtoifpgkfpdeglaaW.PrintWords Go.Proofs.YtoifpgkfpdeglaaW.PrintLast Go.Proofs.YtoifpgkfpdeglaaW.PrintMore
attribute [local go_sem] max2_int min2_int max_two min_two max_three min_three max_four min_four
set_option linter.unusedVariables false
set_option linter.unusedSimpArgs false

open Go.Proofs.YtoifpgkfpdeglaaW.PrintWords renaming pw_below_drewN → yaa, below_alloc → yab, below_drew1 → yac, blk_frozen → yae
open Go.Proofs.YtoifpgkfpdeglaaW.PrintWords.Aside0 renaming mk → yad

/-! ### spec_PixOk: function 19 -/
def spec_PixOk.f (a0_0 : Int) (a0_1 : Int) (a0_2 : Int) (a0_3 : Int) : Option (Bool) := (spec_l1In.f a0_0 0 255).bind fun t102 => (if t102 = true then ((spec_l1In.f a0_1 0 255).bind fun t103 => (if t103 = true then ((spec_l1In.f a0_2 0 255).bind fun t104 => (if t104 = true then ((spec_l1In.f a0_3 0 255).bind fun t105 => (some t105)) else (some false))) else (some false))) else (some false))
set_option maxHeartbeats 8000000 in
set_option maxRecDepth 100000 in
theorem spec_PixOk.calls (a0_0 : Int) (a0_1 : Int) (a0_2 : Int) (a0_3 : Int) (r : Bool) (w : World) (h : spec_PixOk.f a0_0 a0_1 a0_2 a0_3 = some r) :
  Calls Try.prog 19 #[.agg #[.int .i64 a0_0, .int .i64 a0_1, .int .i64 a0_2, .int .i64 a0_3]] w fun e w' => e = .returned (.bool r) ∧ Below w.heap.size w w' := by
 have hu36 := Try.underlying36
 have HB := yad (Below.refl w.heap.size w)
 have H : ((spec_l1In.f a0_0 0 255).bind fun a7 => (if a7 = true then ((spec_l1In.f a0_1 0 255).bind fun a4 => (if a4 = true then ((spec_l1In.f a0_2 0 255).bind fun a3 => (if a3 = true then ((spec_l1In.f a0_3 0 255).bind fun a2 => (some a2)) else (some false))) else (some false))) else (some false))) = some r := h
 clear h
 replace H := Option.bind_eq_some_iff.mp H
 obtain ⟨a7, A20, H⟩ := H
 replace H : (if a7 = true then ((spec_l1In.f a0_1 0 255).bind fun a4 => (if a4 = true then ((spec_l1In.f a0_2 0 255).bind fun a3 => (if a3 = true then ((spec_l1In.f a0_3 0 255).bind fun a2 => (some a2)) else (some false))) else (some false))) else (some false)) = some r := H
 have A2 := yad A20
 clear A20
 by_cases c3 : a7 = true
 ·
  subst c3
  have H1 : ((spec_l1In.f a0_1 0 255).bind fun a4 => (if a4 = true then ((spec_l1In.f a0_2 0 255).bind fun a3 => (if a3 = true then ((spec_l1In.f a0_3 0 255).bind fun a2 => (some a2)) else (some false))) else (some false))) = some r := by rw [if_pos rfl] at H; exact H
  clear H
  have H := H1
  clear H1
  replace H := Option.bind_eq_some_iff.mp H
  obtain ⟨a4, A40, H⟩ := H
  replace H : (if a4 = true then ((spec_l1In.f a0_2 0 255).bind fun a3 => (if a3 = true then ((spec_l1In.f a0_3 0 255).bind fun a2 => (some a2)) else (some false))) else (some false)) = some r := H
  have A4 := yad A40
  clear A40
  by_cases c5 : a4 = true
  ·
   subst c5
   have H1 : ((spec_l1In.f a0_2 0 255).bind fun a3 => (if a3 = true then ((spec_l1In.f a0_3 0 255).bind fun a2 => (some a2)) else (some false))) = some r := by rw [if_pos rfl] at H; exact H
   clear H
   have H := H1
   clear H1
   replace H := Option.bind_eq_some_iff.mp H
   obtain ⟨a3, A60, H⟩ := H
   replace H : (if a3 = true then ((spec_l1In.f a0_3 0 255).bind fun a2 => (some a2)) else (some false)) = some r := H
   have A6 := yad A60
   clear A60
   by_cases c7 : a3 = true
   ·
    subst c7
    have H1 : ((spec_l1In.f a0_3 0 255).bind fun a2 => (some a2)) = some r := by rw [if_pos rfl] at H; exact H
    clear H
    have H := H1
    clear H1
    replace H := Option.bind_eq_some_iff.mp H
    obtain ⟨a2, A80, H⟩ := H
    replace H : (some a2) = some r := H
    have A8 := yad A80
    clear A80
    obtain rfl := Option.some.inj H
    go_enter Try.func19, Try.ntmps19
    go_wp2_with (first | ((with_reducible refine gate_dst (N := 1) rfl ?_); refine box_event ?hg (N := 1) ?hd (cs := #[.int .i64 a0_0, .int .i64 a0_1, .int .i64 a0_2, .int .i64 a0_3]) (t := 36) ?hr ?_; (case hd => rfl); (case hg => rfl); (case hr => first | (go_simp; done) | (go_simp; rfl)); intro a1 hg w9 hbox hb; have n0_ := yad (below_step (by repeat (first | (with_reducible first | exact HB.out | apply yab | apply yaa | apply yac) | exact HB.out)) hb); have n1_ := yad (hbox); have n2_ := yad ((by rw [hg]; exact (below_size (by repeat (first | (with_reducible first | exact HB.out | apply yab | apply yaa | apply yac) | exact HB.out))) : w.heap.size ≤ a1)); have n3_ := yad ((by rw [hg]; exact (below_size (by repeat (first | (with_reducible first | exact HB.out | apply yab | apply yaa | apply yac) | exact HB.out))) : w.heap.size ≤ a1)); clear HB; have HB := n0_; have a0 := n1_; have a5 := n2_; have a6 := n3_; clear n0_ n1_ n2_ n3_; clear hb hbox hg; have a8 : w9.cell? ⟨a1, 0, none⟩ = some (.int .i64 a0_0) := (blk_cell a0.out 0).trans rfl; have a9 : w9.cell? ⟨a1, 1, none⟩ = some (.int .i64 a0_1) := (blk_cell a0.out 1).trans rfl; have b0 : w9.cell? ⟨a1, 2, none⟩ = some (.int .i64 a0_2) := (blk_cell a0.out 2).trans rfl; have b1 : w9.cell? ⟨a1, 3, none⟩ = some (.int .i64 a0_3) := (blk_cell a0.out 3).trans rfl; have b2 := yae a0.out 0; have b3 := yae a0.out 1; have b4 := yae a0.out 2; have b5 := yae a0.out 3) | ((with_reducible refine gate_callee (f := 41) rfl ?_); refine goesL_ (some 5) rfl rfl Try.func41 (by kernel_rfl) rfl #[.int .i64 a0_0, .int .i64 0, .int .i64 255] rfl (by (try simp only [List.map_toArray, List.map_cons, List.map_nil]); first | done | rfl | (simp only [List.length_drop, List.length_take]; rfl)) ?_; (with_reducible refine (spec_l1In.calls a0_0 0 255 true _ A2.out).mono ?_); rintro e w' ⟨rfl, ⟨nd, rfl⟩⟩; refine ⟨_, rfl, ?_⟩) | (go_at_call 41; (with_reducible refine (spec_l1In.calls a0_1 0 255 true _ A4.out).mono ?_); rintro e w' ⟨rfl, ⟨nd, rfl⟩⟩) | (go_at_call 41; (with_reducible refine (spec_l1In.calls a0_2 0 255 true _ A6.out).mono ?_); rintro e w' ⟨rfl, ⟨nd, rfl⟩⟩) | (go_at_call 41; (with_reducible refine (spec_l1In.calls a0_3 0 255 a2 _ A8.out).mono ?_); rintro e w' ⟨rfl, ⟨nd, rfl⟩⟩))
    go_ret
    exact ⟨by first | rfl | (simp [errW_none, errW_some] <;> rfl) | (simp [*, errW_none, errW_some] <;> rfl), by repeat (first | (with_reducible first | exact HB.out | apply yab | apply yaa | apply yac | refine below_set ?_ (Aside0.out ‹_›)) | exact HB.out)⟩
   ·
    replace c7 := Bool.eq_false_iff.mpr c7
    subst c7
    have H1 : (some false) = some r := by rw [if_neg (show ¬ (false = true) by decide)] at H; exact H
    clear H
    have H := H1
    clear H1
    obtain rfl := Option.some.inj H
    go_enter Try.func19, Try.ntmps19
    go_wp2_with (first | ((with_reducible refine gate_dst (N := 1) rfl ?_); refine box_event ?hg (N := 1) ?hd (cs := #[.int .i64 a0_0, .int .i64 a0_1, .int .i64 a0_2, .int .i64 a0_3]) (t := 36) ?hr ?_; (case hd => rfl); (case hg => rfl); (case hr => first | (go_simp; done) | (go_simp; rfl)); intro a1 hg w11 hbox hb; have n0_ := yad (below_step (by repeat (first | (with_reducible first | exact HB.out | apply yab | apply yaa | apply yac) | exact HB.out)) hb); have n1_ := yad (hbox); have n2_ := yad ((by rw [hg]; exact (below_size (by repeat (first | (with_reducible first | exact HB.out | apply yab | apply yaa | apply yac) | exact HB.out))) : w.heap.size ≤ a1)); have n3_ := yad ((by rw [hg]; exact (below_size (by repeat (first | (with_reducible first | exact HB.out | apply yab | apply yaa | apply yac) | exact HB.out))) : w.heap.size ≤ a1)); clear HB; have HB := n0_; have a0 := n1_; have a5 := n2_; have a6 := n3_; clear n0_ n1_ n2_ n3_; clear hb hbox hg; have b6 : w11.cell? ⟨a1, 0, none⟩ = some (.int .i64 a0_0) := (blk_cell a0.out 0).trans rfl; have b7 : w11.cell? ⟨a1, 1, none⟩ = some (.int .i64 a0_1) := (blk_cell a0.out 1).trans rfl; have b8 : w11.cell? ⟨a1, 2, none⟩ = some (.int .i64 a0_2) := (blk_cell a0.out 2).trans rfl; have b9 : w11.cell? ⟨a1, 3, none⟩ = some (.int .i64 a0_3) := (blk_cell a0.out 3).trans rfl; have c0 := yae a0.out 0; have c1 := yae a0.out 1; have c2 := yae a0.out 2; have c4 := yae a0.out 3) | ((with_reducible refine gate_callee (f := 41) rfl ?_); refine goesL_ (some 5) rfl rfl Try.func41 (by kernel_rfl) rfl #[.int .i64 a0_0, .int .i64 0, .int .i64 255] rfl (by (try simp only [List.map_toArray, List.map_cons, List.map_nil]); first | done | rfl | (simp only [List.length_drop, List.length_take]; rfl)) ?_; (with_reducible refine (spec_l1In.calls a0_0 0 255 true _ A2.out).mono ?_); rintro e w' ⟨rfl, ⟨nd, rfl⟩⟩; refine ⟨_, rfl, ?_⟩) | (go_at_call 41; (with_reducible refine (spec_l1In.calls a0_1 0 255 true _ A4.out).mono ?_); rintro e w' ⟨rfl, ⟨nd, rfl⟩⟩) | (go_at_call 41; (with_reducible refine (spec_l1In.calls a0_2 0 255 false _ A6.out).mono ?_); rintro e w' ⟨rfl, ⟨nd, rfl⟩⟩))
    go_ret
    exact ⟨by first | rfl | (simp [errW_none, errW_some] <;> rfl) | (simp [*, errW_none, errW_some] <;> rfl), by repeat (first | (with_reducible first | exact HB.out | apply yab | apply yaa | apply yac | refine below_set ?_ (Aside0.out ‹_›)) | exact HB.out)⟩
  ·
   replace c5 := Bool.eq_false_iff.mpr c5
   subst c5
   have H1 : (some false) = some r := by rw [if_neg (show ¬ (false = true) by decide)] at H; exact H
   clear H
   have H := H1
   clear H1
   obtain rfl := Option.some.inj H
   go_enter Try.func19, Try.ntmps19
   go_wp2_with (first | ((with_reducible refine gate_dst (N := 1) rfl ?_); refine box_event ?hg (N := 1) ?hd (cs := #[.int .i64 a0_0, .int .i64 a0_1, .int .i64 a0_2, .int .i64 a0_3]) (t := 36) ?hr ?_; (case hd => rfl); (case hg => rfl); (case hr => first | (go_simp; done) | (go_simp; rfl)); intro a1 hg w13 hbox hb; have n0_ := yad (below_step (by repeat (first | (with_reducible first | exact HB.out | apply yab | apply yaa | apply yac) | exact HB.out)) hb); have n1_ := yad (hbox); have n2_ := yad ((by rw [hg]; exact (below_size (by repeat (first | (with_reducible first | exact HB.out | apply yab | apply yaa | apply yac) | exact HB.out))) : w.heap.size ≤ a1)); have n3_ := yad ((by rw [hg]; exact (below_size (by repeat (first | (with_reducible first | exact HB.out | apply yab | apply yaa | apply yac) | exact HB.out))) : w.heap.size ≤ a1)); clear HB; have HB := n0_; have a0 := n1_; have a5 := n2_; have a6 := n3_; clear n0_ n1_ n2_ n3_; clear hb hbox hg; have c6 : w13.cell? ⟨a1, 0, none⟩ = some (.int .i64 a0_0) := (blk_cell a0.out 0).trans rfl; have c8 : w13.cell? ⟨a1, 1, none⟩ = some (.int .i64 a0_1) := (blk_cell a0.out 1).trans rfl; have c9 : w13.cell? ⟨a1, 2, none⟩ = some (.int .i64 a0_2) := (blk_cell a0.out 2).trans rfl; have d0 : w13.cell? ⟨a1, 3, none⟩ = some (.int .i64 a0_3) := (blk_cell a0.out 3).trans rfl; have d1 := yae a0.out 0; have d2 := yae a0.out 1; have d3 := yae a0.out 2; have d4 := yae a0.out 3) | ((with_reducible refine gate_callee (f := 41) rfl ?_); refine goesL_ (some 5) rfl rfl Try.func41 (by kernel_rfl) rfl #[.int .i64 a0_0, .int .i64 0, .int .i64 255] rfl (by (try simp only [List.map_toArray, List.map_cons, List.map_nil]); first | done | rfl | (simp only [List.length_drop, List.length_take]; rfl)) ?_; (with_reducible refine (spec_l1In.calls a0_0 0 255 true _ A2.out).mono ?_); rintro e w' ⟨rfl, ⟨nd, rfl⟩⟩; refine ⟨_, rfl, ?_⟩) | (go_at_call 41; (with_reducible refine (spec_l1In.calls a0_1 0 255 false _ A4.out).mono ?_); rintro e w' ⟨rfl, ⟨nd, rfl⟩⟩))
   go_ret
   exact ⟨by first | rfl | (simp [errW_none, errW_some] <;> rfl) | (simp [*, errW_none, errW_some] <;> rfl), by repeat (first | (with_reducible first | exact HB.out | apply yab | apply yaa | apply yac | refine below_set ?_ (Aside0.out ‹_›)) | exact HB.out)⟩
 ·
  replace c3 := Bool.eq_false_iff.mpr c3
  subst c3
  have H1 : (some false) = some r := by rw [if_neg (show ¬ (false = true) by decide)] at H; exact H
  clear H
  have H := H1
  clear H1
  obtain rfl := Option.some.inj H
  go_enter Try.func19, Try.ntmps19
  go_wp2_with (first | ((with_reducible refine gate_dst (N := 1) rfl ?_); refine box_event ?hg (N := 1) ?hd (cs := #[.int .i64 a0_0, .int .i64 a0_1, .int .i64 a0_2, .int .i64 a0_3]) (t := 36) ?hr ?_; (case hd => rfl); (case hg => rfl); (case hr => first | (go_simp; done) | (go_simp; rfl)); intro a1 hg w15 hbox hb; have n0_ := yad (below_step (by repeat (first | (with_reducible first | exact HB.out | apply yab | apply yaa | apply yac) | exact HB.out)) hb); have n1_ := yad (hbox); have n2_ := yad ((by rw [hg]; exact (below_size (by repeat (first | (with_reducible first | exact HB.out | apply yab | apply yaa | apply yac) | exact HB.out))) : w.heap.size ≤ a1)); have n3_ := yad ((by rw [hg]; exact (below_size (by repeat (first | (with_reducible first | exact HB.out | apply yab | apply yaa | apply yac) | exact HB.out))) : w.heap.size ≤ a1)); clear HB; have HB := n0_; have a0 := n1_; have a5 := n2_; have a6 := n3_; clear n0_ n1_ n2_ n3_; clear hb hbox hg; have d5 : w15.cell? ⟨a1, 0, none⟩ = some (.int .i64 a0_0) := (blk_cell a0.out 0).trans rfl; have d6 : w15.cell? ⟨a1, 1, none⟩ = some (.int .i64 a0_1) := (blk_cell a0.out 1).trans rfl; have d7 : w15.cell? ⟨a1, 2, none⟩ = some (.int .i64 a0_2) := (blk_cell a0.out 2).trans rfl; have d8 : w15.cell? ⟨a1, 3, none⟩ = some (.int .i64 a0_3) := (blk_cell a0.out 3).trans rfl; have d9 := yae a0.out 0; have e0 := yae a0.out 1; have e1 := yae a0.out 2; have e2 := yae a0.out 3) | ((with_reducible refine gate_callee (f := 41) rfl ?_); refine goesL_ (some 5) rfl rfl Try.func41 (by kernel_rfl) rfl #[.int .i64 a0_0, .int .i64 0, .int .i64 255] rfl (by (try simp only [List.map_toArray, List.map_cons, List.map_nil]); first | done | rfl | (simp only [List.length_drop, List.length_take]; rfl)) ?_; (with_reducible refine (spec_l1In.calls a0_0 0 255 false _ A2.out).mono ?_); rintro e w' ⟨rfl, ⟨nd, rfl⟩⟩; refine ⟨_, rfl, ?_⟩))
  go_ret
  exact ⟨by first | rfl | (simp [errW_none, errW_some] <;> rfl) | (simp [*, errW_none, errW_some] <;> rfl), by repeat (first | (with_reducible first | exact HB.out | apply yab | apply yaa | apply yac | refine below_set ?_ (Aside0.out ‹_›)) | exact HB.out)⟩

end Go.Proofs.Ytoifpgkfpdeglaa.X

namespace Go.Proofs.Ytoifpgkfpdeglaa.X
open Go.RowKit Go.Proofs.YtoifpgkfpdeglaaW.PrintWords Go.Proofs.YtoifpgkfpdeglaaW.PrintLast Go.Proofs.YtoifpgkfpdeglaaW.PrintMore
attribute [local go_sem] max2_int min2_int max_two min_two max_three min_three max_four min_four
set_option linter.unusedVariables false
set_option linter.unusedSimpArgs false

open Go.Proofs.YtoifpgkfpdeglaaW.PrintWords renaming pw_below_drewN → yaa, blk_frozen → yab, below_alloc → yad, below_drew1 → yae
open Go.Proofs.YtoifpgkfpdeglaaW.PrintWords.Aside0 renaming mk → yac

/-! ### spec_RasOk: function 16 -/
mutual
def spec_RasOk.j0 : Nat → Bool → Int → Int → List (S36) → Option (Bool)
 | 0, _, _, _, _ => none
 | k + 1, x24, x102000, x102001, x102002 => if x24 = true then (some false) else (spec_RasOk.l0 k 0 x102000 x102001 x102002)
def spec_RasOk.l0 : Nat → Int → Int → Int → List (S36) → Option (Bool)
 | 0, _, _, _, _ => none
 | k + 1, x3, x102000, x102001, x102002 => if x3 < (x102002.length : Int) then (if 0 ≤ x3 then ((spec_PixOk.f ((rd_T36 x102002 x3).f0) ((rd_T36 x102002 x3).f1) ((rd_T36 x102002 x3).f2) ((rd_T36 x102002 x3).f3)).bind fun t105 => (if t105 = true then (spec_RasOk.l0 k (wrap64 (x3 + 1)) x102000 x102001 x102002) else (some false))) else (none)) else (some true)
end
def spec_RasOk.f (k : Nat) (a0_0 : Int) (a0_1 : Int) (l0_2 : List (S36)) : Option (Bool) := (spec_l1In.f a0_0 1 6).bind fun t102 => (if t102 = true then ((spec_l1In.f a0_1 1 6).bind fun t103 => (if t103 = true then (spec_RasOk.j0 k ((l0_2.length : Int) != (wrap64 (a0_0 * a0_1))) a0_0 a0_1 l0_2) else (spec_RasOk.j0 k true a0_0 a0_1 l0_2))) else (spec_RasOk.j0 k true a0_0 a0_1 l0_2))
set_option maxHeartbeats 8000000 in
set_option maxRecDepth 100000 in
theorem spec_RasOk.calls (k : Nat) (a0_0 : Int) (a0_1 : Int) (A0_2 : Option Addr) (c0_2 : Nat) (l0_2 : List (S36)) (r : Bool) (w : World) (hr0_2 : Kd.C k36 w A0_2 l0_2.length l0_2) (hc0_2 : l0_2.length ≤ c0_2) (h : spec_RasOk.f k a0_0 a0_1 l0_2 = some r) :
  Calls Try.prog 16 #[.agg #[.int .i64 a0_0, .int .i64 a0_1, .slice A0_2 l0_2.length c0_2]] w fun e w' => e = .returned (.bool r) ∧ Below w.heap.size w w' := by
 have hu25 := Try.underlying25
 have hu36 := Try.underlying36
 have HR0_2 := yac hr0_2
 have HC0_2 := yac hc0_2
 clear hr0_2 hc0_2
 have HB := yac (Below.refl w.heap.size w)
 have H : ((spec_l1In.f a0_0 1 6).bind fun d4 => (if d4 = true then ((spec_l1In.f a0_1 1 6).bind fun b0 => (if b0 = true then (spec_RasOk.j0 k ((l0_2.length : Int) != (wrap64 (a0_0 * a0_1))) a0_0 a0_1 l0_2) else (spec_RasOk.j0 k true a0_0 a0_1 l0_2))) else (spec_RasOk.j0 k true a0_0 a0_1 l0_2))) = some r := h
 clear h
 have HC2 := yac H
 clear H
 go_enter Try.func16, Try.ntmps16
 go_upto_region 1 with (first | ((with_reducible refine gate_dst (N := 1) rfl ?_); (try (refine gate_guard (by rfl) ?_; dsimp only)); refine box_event ?hg (N := 1) ?hd (cs := #[.int .i64 a0_0, .int .i64 a0_1, .slice A0_2 l0_2.length c0_2]) (t := 25) ?hr ?_; (case hd => rfl); (case hg => rfl); (case hr => first | (go_simp; done) | (go_simp; rfl)); intro a4 hg w3 hbox hb; have n0_ := yac (below_step (by repeat (first | (with_reducible first | exact HB.out | apply yad | apply yaa | apply yae) | exact HB.out)) hb); have n1_ := yac (hbox); have n2_ := yac ((by rw [hg]; exact (below_size (by repeat (first | (with_reducible first | exact HB.out | apply yad | apply yaa | apply yae) | exact HB.out))) : w.heap.size ≤ a4)); have n3_ := yac ((by rw [hg]; exact (below_size (by repeat (first | (with_reducible first | exact HB.out | apply yad | apply yaa | apply yae) | exact HB.out))) : w.heap.size ≤ a4)); clear HB; have HB := n0_; have a3 := n1_; have g1 := n2_; have g2 := n3_; clear n0_ n1_ n2_ n3_; clear hb hbox hg))
 (try simp only [Act.put, List.setIfInBounds_toArray, List.set_cons_zero, List.set_cons_succ])
 go_cut [24] (fun v24 wc => ∃ (kq : Nat) (b1 : Bool), v24 = .bool b1 ∧ Aside0 (spec_RasOk.j0 kq b1 a0_0 a0_1 l0_2 = some r) ∧ Aside0 (kq ≤ k) ∧ Aside0 (wc.heap[a4]? = some (.cells #[.int .i64 a0_0, .int .i64 a0_1, (.slice A0_2 l0_2.length c0_2)] 25 (0, 0))) ∧ Aside0 (Below w.heap.size w wc))
 case first =>
  have H := HC2.out
  clear HC2
  replace H := Option.bind_eq_some_iff.mp H
  obtain ⟨d4, A40, H⟩ := H
  replace H : (if d4 = true then ((spec_l1In.f a0_1 1 6).bind fun b0 => (if b0 = true then (spec_RasOk.j0 k ((l0_2.length : Int) != (wrap64 (a0_0 * a0_1))) a0_0 a0_1 l0_2) else (spec_RasOk.j0 k true a0_0 a0_1 l0_2))) else (spec_RasOk.j0 k true a0_0 a0_1 l0_2)) = some r := H
  have A4 := yac A40
  clear A40
  by_cases c5 : d4 = true
  ·
   subst c5
   have H1 : ((spec_l1In.f a0_1 1 6).bind fun b0 => (if b0 = true then (spec_RasOk.j0 k ((l0_2.length : Int) != (wrap64 (a0_0 * a0_1))) a0_0 a0_1 l0_2) else (spec_RasOk.j0 k true a0_0 a0_1 l0_2))) = some r := by rw [if_pos rfl] at H; exact H
   clear H
   have H := H1
   clear H1
   replace H := Option.bind_eq_some_iff.mp H
   obtain ⟨b0, A60, H⟩ := H
   replace H : (if b0 = true then (spec_RasOk.j0 k ((l0_2.length : Int) != (wrap64 (a0_0 * a0_1))) a0_0 a0_1 l0_2) else (spec_RasOk.j0 k true a0_0 a0_1 l0_2)) = some r := H
   have A6 := yac A60
   clear A60
   by_cases c7 : b0 = true
   ·
    subst c7
    have H1 : (spec_RasOk.j0 k ((l0_2.length : Int) != (wrap64 (a0_0 * a0_1))) a0_0 a0_1 l0_2) = some r := by rw [if_pos rfl] at H; exact H
    clear H
    have H := H1
    clear H1
    have H' := yac H
    clear H
    have b8 : w3.cell? ⟨a4, 0, none⟩ = some (.int .i64 a0_0) := (blk_cell a3.out 0).trans rfl
    have b9 : w3.cell? ⟨a4, 1, none⟩ = some (.int .i64 a0_1) := (blk_cell a3.out 1).trans rfl
    have c0 : w3.cell? ⟨a4, 2, none⟩ = some (.slice A0_2 l0_2.length c0_2) := (blk_cell a3.out 2).trans rfl
    have c2 := yab a3.out 0
    have c3 := yab a3.out 1
    have c6 := yab a3.out 2
    go_wp2_with (first | ((with_reducible refine gate_callee (f := 41) rfl ?_); refine goesL_ (some 6) rfl rfl Try.func41 (by kernel_rfl) rfl #[.int .i64 a0_0, .int .i64 1, .int .i64 6] rfl (by (try simp only [List.map_toArray, List.map_cons, List.map_nil]); first | done | rfl | (simp only [List.length_drop, List.length_take]; rfl)) ?_; (with_reducible refine (spec_l1In.calls a0_0 1 6 true _ A4.out).mono ?_); rintro e w' ⟨rfl, ⟨nd, rfl⟩⟩; refine ⟨_, rfl, ?_⟩) | (go_at_call 41; (with_reducible refine (spec_l1In.calls a0_1 1 6 true _ A6.out).mono ?_); rintro e w' ⟨rfl, ⟨nd, rfl⟩⟩))
    go_meet
    case rel => exact ⟨_, (((l0_2.length : Int) != (wrap64 (a0_0 * a0_1)))), (by first | rfl | (simp; done) | (simp [*]; done)), H', ⟨by first | omega | exact Nat.le_refl _⟩, ⟨by exact upB a3.out⟩, ⟨by repeat (first | (with_reducible first | exact HB.out | apply yad | apply yaa | apply yae | refine below_set ?_ (Aside0.out ‹_›)) | exact HB.out)⟩⟩
   ·
    replace c7 := Bool.eq_false_iff.mpr c7
    subst c7
    have H1 : (spec_RasOk.j0 k true a0_0 a0_1 l0_2) = some r := by rw [if_neg (show ¬ (false = true) by decide)] at H; exact H
    clear H
    have H := H1
    clear H1
    have H' := yac H
    clear H
    have c8 : w3.cell? ⟨a4, 0, none⟩ = some (.int .i64 a0_0) := (blk_cell a3.out 0).trans rfl
    have c9 : w3.cell? ⟨a4, 1, none⟩ = some (.int .i64 a0_1) := (blk_cell a3.out 1).trans rfl
    have d0 : w3.cell? ⟨a4, 2, none⟩ = some (.slice A0_2 l0_2.length c0_2) := (blk_cell a3.out 2).trans rfl
    have d1 := yab a3.out 0
    have d2 := yab a3.out 1
    have d3 := yab a3.out 2
    go_wp2_with (first | ((with_reducible refine gate_callee (f := 41) rfl ?_); refine goesL_ (some 6) rfl rfl Try.func41 (by kernel_rfl) rfl #[.int .i64 a0_0, .int .i64 1, .int .i64 6] rfl (by (try simp only [List.map_toArray, List.map_cons, List.map_nil]); first | done | rfl | (simp only [List.length_drop, List.length_take]; rfl)) ?_; (with_reducible refine (spec_l1In.calls a0_0 1 6 true _ A4.out).mono ?_); rintro e w' ⟨rfl, ⟨nd, rfl⟩⟩; refine ⟨_, rfl, ?_⟩) | (go_at_call 41; (with_reducible refine (spec_l1In.calls a0_1 1 6 false _ A6.out).mono ?_); rintro e w' ⟨rfl, ⟨nd, rfl⟩⟩))
    go_meet
    case rel => exact ⟨_, (true), (by first | rfl | (simp; done) | (simp [*]; done)), H', ⟨by first | omega | exact Nat.le_refl _⟩, ⟨by exact upB a3.out⟩, ⟨by repeat (first | (with_reducible first | exact HB.out | apply yad | apply yaa | apply yae | refine below_set ?_ (Aside0.out ‹_›)) | exact HB.out)⟩⟩
  ·
   replace c5 := Bool.eq_false_iff.mpr c5
   subst c5
   have H1 : (spec_RasOk.j0 k true a0_0 a0_1 l0_2) = some r := by rw [if_neg (show ¬ (false = true) by decide)] at H; exact H
   clear H
   have H := H1
   clear H1
   have H' := yac H
   clear H
   have b2 : w3.cell? ⟨a4, 0, none⟩ = some (.int .i64 a0_0) := (blk_cell a3.out 0).trans rfl
   have b3 : w3.cell? ⟨a4, 1, none⟩ = some (.int .i64 a0_1) := (blk_cell a3.out 1).trans rfl
   have b4 : w3.cell? ⟨a4, 2, none⟩ = some (.slice A0_2 l0_2.length c0_2) := (blk_cell a3.out 2).trans rfl
   have b5 := yab a3.out 0
   have b6 := yab a3.out 1
   have b7 := yab a3.out 2
   go_wp2_with (first | ((with_reducible refine gate_callee (f := 41) rfl ?_); refine goesL_ (some 6) rfl rfl Try.func41 (by kernel_rfl) rfl #[.int .i64 a0_0, .int .i64 1, .int .i64 6] rfl (by (try simp only [List.map_toArray, List.map_cons, List.map_nil]); first | done | rfl | (simp only [List.length_drop, List.length_take]; rfl)) ?_; (with_reducible refine (spec_l1In.calls a0_0 1 6 false _ A4.out).mono ?_); rintro e w' ⟨rfl, ⟨nd, rfl⟩⟩; refine ⟨_, rfl, ?_⟩))
   go_meet
   case rel => exact ⟨_, (true), (by first | rfl | (simp; done) | (simp [*]; done)), H', ⟨by first | omega | exact Nat.le_refl _⟩, ⟨by exact upB a3.out⟩, ⟨by repeat (first | (with_reducible first | exact HB.out | apply yad | apply yaa | apply yae | refine below_set ?_ (Aside0.out ‹_›)) | exact HB.out)⟩⟩
 case rest =>
  clear HC2
  try clear c1
  try clear p2
  try clear c4
  try clear c5
  try clear p6
  try clear c7
  try clear b2
  try clear b3
  try clear b4
  try clear b8
  try clear b9
  try clear c0
  try clear c8
  try clear c9
  try clear d0
  try clear b5
  try clear b6
  try clear b7
  try clear c2
  try clear c3
  try clear c6
  try clear d1
  try clear d2
  try clear d3
  obtain ⟨kq, b1, rfl, HA, HJ1, a3, HB⟩ := hcut
  cases kq with
  | zero => exact absurd HA.out (by simp [spec_RasOk.j0])
  | succ kj1 =>
   have H := HA.out
   clear HA
   simp only [spec_RasOk.j0] at H
   by_cases c11 : b1 = true
   ·
    subst c11
    have H1 : (some false) = some r := by rw [if_pos rfl] at H; exact H
    clear H
    have H := H1
    clear H1
    obtain rfl := Option.some.inj H
    go_wp2
    go_ret
    exact ⟨by first | rfl | (simp [errW_none, errW_some] <;> rfl) | (simp [*, errW_none, errW_some] <;> rfl), by repeat (first | (with_reducible first | exact HB.out | apply yad | apply yaa | apply yae | refine below_set ?_ (Aside0.out ‹_›)) | exact HB.out)⟩
   ·
    replace c11 := Bool.eq_false_iff.mpr c11
    subst c11
    have H1 : (spec_RasOk.l0 kj1 0 a0_0 a0_1 l0_2) = some r := by rw [if_neg (show ¬ (false = true) by decide)] at H; exact H
    clear H
    have H := H1
    clear H1
    have H' := yac H
    clear H
    go_wp2
    (try simp only [Act.put, List.setIfInBounds_toArray, List.set_cons_zero, List.set_cons_succ])
    go_loopg [3] kj1 (fun kq v3 w' => ∃ (a5 : Int), v3 = .int .i64 a5 ∧ Aside0 (spec_RasOk.l0 kq a5 a0_0 a0_1 l0_2 = some r) ∧ Aside0 (kq ≤ kj1) ∧ Aside0 (w'.heap[a4]? = some (.cells #[.int .i64 a0_0, .int .i64 a0_1, (.slice A0_2 l0_2.length c0_2)] 25 (0, 0))) ∧ Aside0 (Below w.heap.size w w'))
    case atStart => exact ⟨(0), (by first | rfl | (simp; done) | (simp [*]; done)), H', ⟨Nat.le_refl _⟩, ⟨by exact upB a3.out⟩, ⟨by repeat (first | (with_reducible first | exact HB.out | apply yad | apply yaa | apply yae | refine below_set ?_ (Aside0.out ‹_›)) | exact HB.out)⟩⟩
    case round =>
     clear H'
     try clear c1
     try clear p2
     try clear c4
     try clear c5
     try clear p6
     try clear c7
     try clear c11
     try clear b2
     try clear b3
     try clear b4
     try clear b8
     try clear b9
     try clear c0
     try clear c8
     try clear c9
     try clear d0
     try clear b5
     try clear b6
     try clear b7
     try clear c2
     try clear c3
     try clear c6
     try clear d1
     try clear d2
     try clear d3
     try clear p2
     try clear p6
     obtain ⟨a5, rfl, HA, HK2, a3, HB⟩ := hrel
     cases gk with
     | zero => exact absurd HA.out (by simp [spec_RasOk.l0])
     | succ k2 =>
      have H := HA.out
      clear HA
      simp only [spec_RasOk.l0] at H
      by_cases c12 : a5 < (l0_2.length : Int)
      ·
       rw [if_pos c12] at H
       have d6 : decide (a5 < (l0_2.length : Int)) = true := decide_eq_true c12
       clear c12
       by_cases c13 : 0 ≤ a5
       ·
        rw [if_pos c13] at H
        have g3 : decide (0 ≤ a5) = true := decide_eq_true c13
        clear c13
        replace H := Option.bind_eq_some_iff.mp H
        obtain ⟨d7, d8, H⟩ := H
        replace H : (if d7 = true then (spec_RasOk.l0 k2 (wrap64 (a5 + 1)) a0_0 a0_1 l0_2) else (some false)) = some r := H
        have A14 := yac d8
        clear d8
        by_cases c15 : d7 = true
        ·
         subst c15
         have H1 : (spec_RasOk.l0 k2 (wrap64 (a5 + 1)) a0_0 a0_1 l0_2) = some r := by rw [if_pos rfl] at H; exact H
         clear H
         have H := H1
         clear H1
         have H' := yac H
         clear H
         have d9 : wr.cell? ⟨a4, 0, none⟩ = some (.int .i64 a0_0) := (blk_cell a3.out 0).trans rfl
         have e0 : wr.cell? ⟨a4, 1, none⟩ = some (.int .i64 a0_1) := (blk_cell a3.out 1).trans rfl
         have e1 : wr.cell? ⟨a4, 2, none⟩ = some (.slice A0_2 l0_2.length c0_2) := (blk_cell a3.out 2).trans rfl
         have e2 := yab a3.out 0
         have e3 := yab a3.out 1
         have e4 := yab a3.out 2
         have p104 : 0 ≤ (a5 : Int) := of_decide_eq_true (by first | (with_reducible assumption) | assumption)
         have q104 : a5 < (l0_2.length : Int) := of_decide_eq_true (by first | (with_reducible assumption) | assumption)
         obtain ⟨ad104, d5, a6, a7, a8, a9⟩ := at_T36 HR0_2.out a5 p104 q104
         cases d5
         replace a6 := (HB.out.cell (World.block_lt_of_cell? w _ a6)).trans a6
         replace a7 := (HB.out.cell (World.block_lt_of_cell? w _ a7)).trans a7
         replace a8 := (HB.out.cell (World.block_lt_of_cell? w _ a8)).trans a8
         replace a9 := (HB.out.cell (World.block_lt_of_cell? w _ a9)).trans a9
         replace p104 := eq_true p104
         replace q104 := eq_true q104
         go_wp2_with (first | ((with_reducible refine gate_callee (f := 19) rfl ?_); refine goesL_ (some 37) rfl rfl Try.func19 (by kernel_rfl) rfl #[.agg #[.int .i64 ((rd_T36 l0_2 a5).f0), .int .i64 ((rd_T36 l0_2 a5).f1), .int .i64 ((rd_T36 l0_2 a5).f2), .int .i64 ((rd_T36 l0_2 a5).f3)]] rfl (by (try simp only [List.map_toArray, List.map_cons, List.map_nil]); first | done | rfl | (simp only [List.length_drop, List.length_take]; rfl)) ?_; (with_reducible refine (spec_PixOk.calls ((rd_T36 l0_2 a5).f0) ((rd_T36 l0_2 a5).f1) ((rd_T36 l0_2 a5).f2) ((rd_T36 l0_2 a5).f3) true _ A14.out).mono ?_); rintro e w17 ⟨rfl, hb⟩; refine ⟨_, rfl, ?_⟩; have n0_ := yac (blk_below (g := a4) (o := .cells #[.int .i64 a0_0, .int .i64 a0_1, .slice (some ad104) l0_2.length c0_2] 25 (0, 0)) (upB a3.out) hb); have n1_ := yac (below_step (by repeat (first | (with_reducible first | exact HB.out | apply yad | apply yaa | apply yae | refine below_set ?_ (Aside0.out ‹_›)) | exact HB.out)) hb); clear a3; clear HB; have a3 := n0_; have HB := n1_; clear n0_ n1_; (try clear hb); (try clear hb2); (try clear hk); (try clear hi)))
         go_roundg k2
         case measure => have := HJ1.out; have := HK2.out; omega
         case rel => exact ⟨(wrap64 (a5 + 1)), (by first | rfl | (simp; done) | (simp [*]; done)), H', ⟨by have := HJ1.out; have := HK2.out; omega⟩, ⟨by exact upB a3.out⟩, ⟨by repeat (first | (with_reducible first | exact HB.out | apply yad | apply yaa | apply yae | refine below_set ?_ (Aside0.out ‹_›)) | exact HB.out)⟩⟩
        ·
         replace c15 := Bool.eq_false_iff.mpr c15
         subst c15
         have H1 : (some false) = some r := by rw [if_neg (show ¬ (false = true) by decide)] at H; exact H
         clear H
         have H := H1
         clear H1
         obtain rfl := Option.some.inj H
         have e5 : wr.cell? ⟨a4, 0, none⟩ = some (.int .i64 a0_0) := (blk_cell a3.out 0).trans rfl
         have e6 : wr.cell? ⟨a4, 1, none⟩ = some (.int .i64 a0_1) := (blk_cell a3.out 1).trans rfl
         have e7 : wr.cell? ⟨a4, 2, none⟩ = some (.slice A0_2 l0_2.length c0_2) := (blk_cell a3.out 2).trans rfl
         have e8 := yab a3.out 0
         have e9 := yab a3.out 1
         have f4 := yab a3.out 2
         have p104 : 0 ≤ (a5 : Int) := of_decide_eq_true (by first | (with_reducible assumption) | assumption)
         have q104 : a5 < (l0_2.length : Int) := of_decide_eq_true (by first | (with_reducible assumption) | assumption)
         obtain ⟨ad104, d5, a6, a7, a8, a9⟩ := at_T36 HR0_2.out a5 p104 q104
         cases d5
         replace a6 := (HB.out.cell (World.block_lt_of_cell? w _ a6)).trans a6
         replace a7 := (HB.out.cell (World.block_lt_of_cell? w _ a7)).trans a7
         replace a8 := (HB.out.cell (World.block_lt_of_cell? w _ a8)).trans a8
         replace a9 := (HB.out.cell (World.block_lt_of_cell? w _ a9)).trans a9
         replace p104 := eq_true p104
         replace q104 := eq_true q104
         go_wp2_with (first | ((with_reducible refine gate_callee (f := 19) rfl ?_); refine goesL_ (some 37) rfl rfl Try.func19 (by kernel_rfl) rfl #[.agg #[.int .i64 ((rd_T36 l0_2 a5).f0), .int .i64 ((rd_T36 l0_2 a5).f1), .int .i64 ((rd_T36 l0_2 a5).f2), .int .i64 ((rd_T36 l0_2 a5).f3)]] rfl (by (try simp only [List.map_toArray, List.map_cons, List.map_nil]); first | done | rfl | (simp only [List.length_drop, List.length_take]; rfl)) ?_; (with_reducible refine (spec_PixOk.calls ((rd_T36 l0_2 a5).f0) ((rd_T36 l0_2 a5).f1) ((rd_T36 l0_2 a5).f2) ((rd_T36 l0_2 a5).f3) false _ A14.out).mono ?_); rintro e w19 ⟨rfl, hb⟩; refine ⟨_, rfl, ?_⟩; have n0_ := yac (blk_below (g := a4) (o := .cells #[.int .i64 a0_0, .int .i64 a0_1, .slice (some ad104) l0_2.length c0_2] 25 (0, 0)) (upB a3.out) hb); have n1_ := yac (below_step (by repeat (first | (with_reducible first | exact HB.out | apply yad | apply yaa | apply yae | refine below_set ?_ (Aside0.out ‹_›)) | exact HB.out)) hb); clear a3; clear HB; have a3 := n0_; have HB := n1_; clear n0_ n1_; (try clear hb); (try clear hb2); (try clear hk); (try clear hi)))
         go_ret
         exact ⟨by first | rfl | (simp [errW_none, errW_some] <;> rfl) | (simp [*, errW_none, errW_some] <;> rfl), by repeat (first | (with_reducible first | exact HB.out | apply yad | apply yaa | apply yae | refine below_set ?_ (Aside0.out ‹_›)) | exact HB.out)⟩
       ·
        rw [if_neg c13] at H
        exact absurd H (by simp)
      ·
       rw [if_neg c12] at H
       have d6 : decide (a5 < (l0_2.length : Int)) = false := decide_eq_false c12
       clear c12
       obtain rfl := Option.some.inj H
       have f5 : wr.cell? ⟨a4, 0, none⟩ = some (.int .i64 a0_0) := (blk_cell a3.out 0).trans rfl
       have f6 : wr.cell? ⟨a4, 1, none⟩ = some (.int .i64 a0_1) := (blk_cell a3.out 1).trans rfl
       have f7 : wr.cell? ⟨a4, 2, none⟩ = some (.slice A0_2 l0_2.length c0_2) := (blk_cell a3.out 2).trans rfl
       have f8 := yab a3.out 0
       have f9 := yab a3.out 1
       have g0 := yab a3.out 2
       go_wp2
       go_ret
       exact ⟨by first | rfl | (simp [errW_none, errW_some] <;> rfl) | (simp [*, errW_none, errW_some] <;> rfl), by repeat (first | (with_reducible first | exact HB.out | apply yad | apply yaa | apply yae | refine below_set ?_ (Aside0.out ‹_›)) | exact HB.out)⟩

end Go.Proofs.Ytoifpgkfpdeglaa.X

namespace Go.Proofs.Ytoifpgkfpdeglaa.X
open Go.RowKit Go.Proofs.YtoifpgkfpdeglaaW.PrintWords Go.Proofs.YtoifpgkfpdeglaaW.PrintLast Go.Proofs.YtoifpgkfpdeglaaW.PrintMore
attribute [local go_sem] max2_int min2_int max_two min_two max_three min_three max_four min_four
set_option linter.unusedVariables false
set_option linter.unusedSimpArgs false

open Go.Proofs.YtoifpgkfpdeglaaW.PrintWords renaming blk_cell → yaa, blk_frozen → yac, pw_below_drewN → yad, blk_alloc → yae, below_drew1 → yaf, below_alloc → yag, blk_drew → yah, blk_drewN → yai
open Go.Proofs.YtoifpgkfpdeglaaW.PrintWords.Aside0 renaming mk → yab

/-! ### spec_l6Crop: function 73 -/
abbrev q73_0 : Array Bool := #[false, false, false, false, false, false, false, false, false, false, false, false, false, false, false, false, false, false, false, false, false, false]
abbrev q73_1 : Array Bool := #[true, false, false, false, false, false, false, false, false, false, false, false, false, false, false, false, false, false, false, false, false, false]
abbrev q73_2 : Array Bool := #[true, false, true, false, false, false, false, false, false, false, false, false, false, false, false, false, false, false, false, false, false, false]
abbrev q73_3 : Array Bool := #[true, false, true, false, true, false, false, false, false, false, false, false, false, false, false, false, false, false, false, false, false, false]
abbrev q73_4 : Array Bool := #[true, false, true, false, true, false, true, false, false, false, false, false, false, false, false, false, false, false, false, false, false, false]
abbrev q73_5 : Array Bool := #[true, false, true, false, true, false, true, false, true, false, false, false, false, false, false, false, false, false, false, false, false, false]
abbrev q73_6 : Array Bool := #[true, false, true, false, true, false, true, false, true, false, false, true, false, false, false, false, false, false, false, false, false, false]
abbrev q73_7 : Array Bool := #[true, false, true, false, true, false, true, false, true, false, false, true, false, false, true, false, false, false, false, false, false, false]
abbrev q73_8 : Array Bool := #[true, true, true, false, true, false, true, false, true, false, false, true, false, false, true, false, false, false, false, false, false, false]
abbrev q73_9 : Array Bool := #[true, true, true, true, true, false, true, false, true, false, false, true, false, false, true, false, false, false, false, false, false, false]
abbrev q73_10 : Array Bool := #[true, true, true, true, true, true, true, false, true, false, false, true, false, false, true, false, false, false, false, false, false, false]
abbrev q73_11 : Array Bool := #[true, true, true, true, true, true, true, true, true, false, false, true, false, false, true, false, false, false, false, false, false, false]
abbrev q73_12 : Array Bool := #[true, true, true, true, true, true, true, true, true, true, false, true, false, false, true, false, false, false, false, false, false, false]
abbrev q73_13 : Array Bool := #[true, true, true, true, true, true, true, true, true, true, true, true, false, false, true, false, false, false, false, false, false, false]
abbrev q73_14 : Array Bool := #[true, true, true, true, true, true, true, true, true, true, true, true, true, false, true, false, false, false, false, false, false, false]
abbrev q73_15 : Array Bool := #[true, true, true, true, true, true, true, true, true, true, true, true, true, true, true, false, false, false, false, false, false, false]
abbrev q73_16 : Array Bool := #[true, true, true, true, true, true, true, true, true, true, true, true, true, true, true, true, false, false, false, false, false, false]
abbrev q73_17 : Array Bool := #[true, true, true, true, true, true, true, true, true, true, true, true, true, true, true, true, true, false, false, false, false, false]
abbrev q73_18 : Array Bool := #[true, true, true, true, true, true, true, true, true, true, true, true, true, true, true, true, true, true, false, false, false, false]
abbrev q73_19 : Array Bool := #[true, true, true, true, true, true, true, true, true, true, true, true, true, true, true, true, true, true, true, false, false, false]
abbrev q73_20 : Array Bool := #[true, true, true, true, true, true, true, true, true, true, true, true, true, true, true, true, true, true, true, true, false, false]
abbrev q73_21 : Array Bool := #[true, true, true, true, true, true, true, true, true, true, true, true, true, true, true, true, true, true, true, true, true, false]
abbrev q73_22 : Array Bool := #[true, true, true, true, true, true, true, true, true, true, true, true, true, true, true, true, true, true, true, true, true, true]
mutual
def spec_l6Crop.l0 : Nat → Int → Int → Int → List (S36) → Int → Int → Int → Int → Int → Int → Int → List (S36) → Option (Int × Int × (List (S36)))
 | 0, _, _, _, _, _, _, _, _, _, _, _, _ => none
 | k + 1, x6, x102000, x102001, x102002, x103000, x103001, x103002, x103003, x103004, x105000, x105001, x105002 => if x6 < x103004 then (spec_l6Crop.l1 k x6 0 x102000 x102001 x102002 x103000 x103001 x103002 x103003 x103004 x105000 x105001 x105002) else (some (x105000, x105001, x105002))
def spec_l6Crop.l1 : Nat → Int → Int → Int → Int → List (S36) → Int → Int → Int → Int → Int → Int → Int → List (S36) → Option (Int × Int × (List (S36)))
 | 0, _, _, _, _, _, _, _, _, _, _, _, _, _ => none
 | k + 1, x6, x7, x102000, x102001, x102002, x103000, x103001, x103002, x103003, x103004, x105000, x105001, x105002 => if x7 < x103003 then (if 0 ≤ (wrap64 ((wrap64 ((wrap64 ((wrap64 (x103002 + x6)) * x102000)) + x103001)) + x7)) then (if (wrap64 ((wrap64 ((wrap64 ((wrap64 (x103002 + x6)) * x102000)) + x103001)) + x7)) < (x102002.length : Int) then (if x105002.length < 4398046511104 then (spec_l6Crop.l1 k x6 (wrap64 (x7 + 1)) x102000 x102001 x102002 x103000 x103001 x103002 x103003 x103004 x105000 x105001 (x105002 ++ [(⟨(rd_T36 x102002 (wrap64 ((wrap64 ((wrap64 ((wrap64 (x103002 + x6)) * x102000)) + x103001)) + x7))).f0, (rd_T36 x102002 (wrap64 ((wrap64 ((wrap64 ((wrap64 (x103002 + x6)) * x102000)) + x103001)) + x7))).f1, (rd_T36 x102002 (wrap64 ((wrap64 ((wrap64 ((wrap64 (x103002 + x6)) * x102000)) + x103001)) + x7))).f2, (rd_T36 x102002 (wrap64 ((wrap64 ((wrap64 ((wrap64 (x103002 + x6)) * x102000)) + x103001)) + x7))).f3⟩ : S36)])) else (none)) else (none)) else (none)) else (spec_l6Crop.l0 k (wrap64 (x6 + 1)) x102000 x102001 x102002 x103000 x103001 x103002 x103003 x103004 x105000 x105001 x105002)
end
def spec_l6Crop.f (k : Nat) (a0_0 : Int) (a0_1 : Int) (l0_2 : List (S36)) (a1_0 : Int) (a1_1 : Int) (a1_2 : Int) (a1_3 : Int) (a1_4 : Int) : Option (Int × Int × (List (S36))) := spec_l6Crop.l0 k 0 a0_0 a0_1 l0_2 a1_0 a1_1 a1_2 a1_3 a1_4 a1_3 a1_4 ([] : List (S36))
def spec_l6Crop.T8 : Bool × List (List Nat × List Nat) := (true, [([], []), ([0], [0]), ([], []), ([2], [2]), ([], []), ([4], [4]), ([], []), ([5, 6], [5, 6]), ([], []), ([8], [8]), ([7, 9], [7, 9]), ([], []), ([11], [11]), ([10, 12], [10, 12]), ([], []), ([13, 14], [13, 14]), ([3, 15], [3, 15]), ([16], [16]), ([17], [17]), ([1, 18], [1, 18]), ([0, 1, 2, 3, 4, 5, 6, 7, 8, 9, 10, 11, 12, 13, 14, 15, 16, 17, 18, 19], []), ([20, 19, 19, 0, 1, 2, 3, 4, 5, 6, 7, 8, 9, 10, 11, 12, 13, 14, 15, 16, 17, 18, 19], [19, 20])])
def spec_l6Crop.B8 : List Nat := [0, 1, 0, 4, 0, 16, 0, 112, 0, 256, 1008, 0, 2048, 8176, 0, 32752, 65532, 131068, 262140, 524287, 1048575, 2097151]
theorem spec_l6Crop.tab8 : rtab .any (opsOf Try.f73 8) = spec_l6Crop.T8 := by kernel_rfl
theorem spec_l6Crop.bits8 : waitsOk spec_l6Crop.T8.2 spec_l6Crop.B8 = true := by kernel_rfl
set_option maxHeartbeats 8000000 in
set_option maxRecDepth 100000 in
theorem spec_l6Crop.calls (k : Nat) (a0_0 : Int) (a0_1 : Int) (A0_2 : Option Addr) (c0_2 : Nat) (l0_2 : List (S36)) (a1_0 : Int) (a1_1 : Int) (a1_2 : Int) (a1_3 : Int) (a1_4 : Int) (r1 : Int) (r2 : Int) (r3 : List (S36)) (w : World) (hr0_2 : Kd.C k36 w A0_2 l0_2.length l0_2) (hc0_2 : l0_2.length ≤ c0_2) (h : spec_l6Crop.f k a0_0 a0_1 l0_2 a1_0 a1_1 a1_2 a1_3 a1_4 = some (r1, r2, r3)) :
  Calls Try.prog 73 #[.agg #[.int .i64 a0_0, .int .i64 a0_1, .slice A0_2 l0_2.length c0_2], .agg #[.int .i64 a1_0, .int .i64 a1_1, .int .i64 a1_2, .int .i64 a1_3, .int .i64 a1_4]] w fun e w' => ∃ v2_ : Value, e = .returned (.agg #[.int .i64 r1, .int .i64 r2, v2_]) ∧ Kd.R k36 36 w' w.heap.size (fun _ => True) v2_ r3 ∧ Below w.heap.size w w' := by
 have hu25 := Try.underlying25
 have hu27 := Try.underlying27
 have hu36 := Try.underlying36
 have HR0_2 := yab hr0_2
 have HC0_2 := yab hc0_2
 clear hr0_2 hc0_2
 have HB := yab (Below.refl w.heap.size w)
 have H : (spec_l6Crop.l0 k 0 a0_0 a0_1 l0_2 a1_0 a1_1 a1_2 a1_3 a1_4 a1_3 a1_4 ([] : List (S36))) = some (r1, r2, r3) := h
 clear h
 have H' := yab H
 clear H
 go_enter Try.func73, Try.ntmps73
 go_wp2_with (first | ((with_reducible refine gate_dst (N := 2) rfl ?_); refine box_event ?hg (N := 2) ?hd (cs := #[.int .i64 a0_0, .int .i64 a0_1, .slice A0_2 l0_2.length c0_2]) (t := 25) ?hr ?_; (case hd => rfl); (case hg => rfl); (case hr => first | (go_simp; done) | (go_simp; rfl)); intro b5 hg w3 hbox hb; have n0_ := yab (below_step (by repeat (first | (with_reducible first | exact HB.out | apply yag | apply yad | apply yaf) | exact HB.out)) hb); have n1_ := yab (hbox); have n2_ := yab ((by rw [hg]; exact (below_size (by repeat (first | (with_reducible first | exact HB.out | apply yag | apply yad | apply yaf) | exact HB.out))) : w.heap.size ≤ b5)); have n3_ := yab ((by rw [hg]; exact (below_size (by repeat (first | (with_reducible first | exact HB.out | apply yag | apply yad | apply yaf) | exact HB.out))) : w.heap.size ≤ b5)); clear HB; have HB := n0_; have b0 := n1_; have n9 := n2_; have o0 := n3_; clear n0_ n1_ n2_ n3_; clear hb hbox hg) | ((with_reducible refine gate_dst (N := 3) rfl ?_); refine box_event ?hg (N := 3) ?hd (cs := #[.int .i64 a1_0, .int .i64 a1_1, .int .i64 a1_2, .int .i64 a1_3, .int .i64 a1_4]) (t := 27) ?hr ?_; (case hd => rfl); (case hg => rfl); (case hr => first | (go_simp; done) | (go_simp; rfl)); intro a9 hg w4 hbox hb; have n0_ := yab (blk_below (g := b5) (o := .cells #[.int .i64 a0_0, .int .i64 a0_1, .slice A0_2 l0_2.length c0_2] 25 (0, 0)) (upB b0.out) hb); have n1_ := yab (below_step (by repeat (first | (with_reducible first | exact HB.out | apply yag | apply yad | apply yaf | refine below_set ?_ (Aside0.out ‹_›)) | exact HB.out)) hb); have n2_ := yab (hbox); have n3_ := yab ((by rw [hg]; exact (below_size (by repeat (first | (with_reducible first | exact HB.out | apply yag | apply yad | apply yaf | refine below_set ?_ (Aside0.out ‹_›)) | exact HB.out))) : w.heap.size ≤ a9)); have n4_ := yab ((by rw [hg]; exact (below_size (by repeat (first | (with_reducible first | exact HB.out | apply yag | apply yad | apply yaf | refine below_set ?_ (Aside0.out ‹_›)) | exact HB.out))) : w.heap.size ≤ a9)); have n5_ := yab ((by rw [hg]; exact Nat.ne_of_lt (blk_lt (g := b5) (o := .cells #[.int .i64 a0_0, .int .i64 a0_1, .slice A0_2 l0_2.length c0_2] 25 (0, 0)) (upB b0.out)) : b5 ≠ a9)); have n6_ := yab ((by rw [hg]; exact Nat.ne_of_gt (blk_lt (g := b5) (o := .cells #[.int .i64 a0_0, .int .i64 a0_1, .slice A0_2 l0_2.length c0_2] 25 (0, 0)) (upB b0.out)) : a9 ≠ b5)); clear b0; clear HB; have b0 := n0_; have HB := n1_; have a8 := n2_; have o1 := n3_; have o2 := n4_; have d0 := n5_; have d1 := n6_; clear n0_ n1_ n2_ n3_ n4_ n5_ n6_; clear hb hbox hg) | ((with_reducible refine gate_dst (N := 4) rfl ?_); refine box_event ?hg (N := 4) ?hd (cs := #[.int .i64 0, .int .i64 0, .slice none 0 0]) (t := 25) ?hr ?_; (case hd => rfl); (case hg => rfl); (case hr => first | (go_simp; done) | (go_simp; rfl)); intro b8 hg w5 hbox hb; have n0_ := yab (blk_below (g := b5) (o := .cells #[.int .i64 a0_0, .int .i64 a0_1, .slice A0_2 l0_2.length c0_2] 25 (0, 0)) (upB b0.out) hb); have n1_ := yab (blk_below (g := a9) (o := .cells #[.int .i64 a1_0, .int .i64 a1_1, .int .i64 a1_2, .int .i64 a1_3, .int .i64 a1_4] 27 (0, 0)) (upB a8.out) hb); have n2_ := yab (below_step (by repeat (first | (with_reducible first | exact HB.out | apply yag | apply yad | apply yaf | refine below_set ?_ (Aside0.out ‹_›)) | exact HB.out)) hb); have n3_ := yab (hbox); have n4_ := yab ((by rw [hg]; exact (below_size (by repeat (first | (with_reducible first | exact HB.out | apply yag | apply yad | apply yaf | refine below_set ?_ (Aside0.out ‹_›)) | exact HB.out))) : w.heap.size ≤ b8)); have n5_ := yab ((by rw [hg]; exact (below_size (by repeat (first | (with_reducible first | exact HB.out | apply yag | apply yad | apply yaf | refine below_set ?_ (Aside0.out ‹_›)) | exact HB.out))) : w.heap.size ≤ b8)); have n6_ := yab ((by rw [hg]; exact Nat.ne_of_lt (blk_lt (g := b5) (o := .cells #[.int .i64 a0_0, .int .i64 a0_1, .slice A0_2 l0_2.length c0_2] 25 (0, 0)) (upB b0.out)) : b5 ≠ b8)); have n7_ := yab ((by rw [hg]; exact Nat.ne_of_gt (blk_lt (g := b5) (o := .cells #[.int .i64 a0_0, .int .i64 a0_1, .slice A0_2 l0_2.length c0_2] 25 (0, 0)) (upB b0.out)) : b8 ≠ b5)); have n8_ := yab ((by rw [hg]; exact Nat.ne_of_lt (blk_lt (g := a9) (o := .cells #[.int .i64 a1_0, .int .i64 a1_1, .int .i64 a1_2, .int .i64 a1_3, .int .i64 a1_4] 27 (0, 0)) (upB a8.out)) : a9 ≠ b8)); have n9_ := yab ((by rw [hg]; exact Nat.ne_of_gt (blk_lt (g := a9) (o := .cells #[.int .i64 a1_0, .int .i64 a1_1, .int .i64 a1_2, .int .i64 a1_3, .int .i64 a1_4] 27 (0, 0)) (upB a8.out)) : b8 ≠ a9)); clear b0; clear a8; clear HB; have b0 := n0_; have a8 := n1_; have HB := n2_; have b3 := n3_; have o3 := n4_; have o4 := n5_; have e8 := n6_; have e9 := n7_; have d2 := n8_; have d3 := n9_; clear n0_ n1_ n2_ n3_ n4_ n5_ n6_ n7_ n8_ n9_; clear hb hbox hg; have t0 := d1.out; have t1 := d0.out; have t2 := d2.out; have t3 := d3.out; have f4 : w5.cell? ⟨a9, 0, none⟩ = some (.int .i64 a1_0) := (yaa a8.out 0).trans rfl; have f5 : w5.cell? ⟨a9, 1, none⟩ = some (.int .i64 a1_1) := (yaa a8.out 1).trans rfl; have f6 : w5.cell? ⟨a9, 2, none⟩ = some (.int .i64 a1_2) := (yaa a8.out 2).trans rfl; have f7 : w5.cell? ⟨a9, 3, none⟩ = some (.int .i64 a1_3) := (yaa a8.out 3).trans rfl; have f8 : w5.cell? ⟨a9, 4, none⟩ = some (.int .i64 a1_4) := (yaa a8.out 4).trans rfl; have f9 := yac a8.out 0; have g0 := yac a8.out 1; have g1 := yac a8.out 2; have g2 := yac a8.out 3; have g3 := yac a8.out 4) | ((with_reducible refine gate_dst (N := 5) rfl ?_); refine box_event ?hg (N := 5) ?hd (cs := #[.int .i64 0, .int .i64 0, .slice none 0 0]) (t := 25) ?hr ?_; (case hd => rfl); (case hg => rfl); (case hr => first | (go_simp; done) | (go_simp; rfl)); intro b7 hg w9 hbox hb; have n0_ := yab (blk_below (g := b5) (o := .cells #[.int .i64 a0_0, .int .i64 a0_1, .slice A0_2 l0_2.length c0_2] 25 (0, 0)) (upB b0.out) hb); have n1_ := yab (blk_below (g := a9) (o := .cells #[.int .i64 a1_0, .int .i64 a1_1, .int .i64 a1_2, .int .i64 a1_3, .int .i64 a1_4] 27 (0, 0)) (upB a8.out) hb); have n2_ := yab (blk_below (g := b8) (o := .cells #[.int .i64 0, .int .i64 0, .slice none 0 0] 25 (0, 0)) (upB b3.out) hb); have n3_ := yab (below_step (by repeat (first | (with_reducible first | exact HB.out | apply yag | apply yad | apply yaf | refine below_set ?_ (Aside0.out ‹_›)) | exact HB.out)) hb); have n4_ := yab (hbox); have n5_ := yab ((by rw [hg]; exact (below_size (by repeat (first | (with_reducible first | exact HB.out | apply yag | apply yad | apply yaf | refine below_set ?_ (Aside0.out ‹_›)) | exact HB.out))) : w.heap.size ≤ b7)); have n6_ := yab ((by rw [hg]; exact (below_size (by repeat (first | (with_reducible first | exact HB.out | apply yag | apply yad | apply yaf | refine below_set ?_ (Aside0.out ‹_›)) | exact HB.out))) : w.heap.size ≤ b7)); have n7_ := yab ((by rw [hg]; exact Nat.ne_of_lt (blk_lt (g := b5) (o := .cells #[.int .i64 a0_0, .int .i64 a0_1, .slice A0_2 l0_2.length c0_2] 25 (0, 0)) (upB b0.out)) : b5 ≠ b7)); have n8_ := yab ((by rw [hg]; exact Nat.ne_of_gt (blk_lt (g := b5) (o := .cells #[.int .i64 a0_0, .int .i64 a0_1, .slice A0_2 l0_2.length c0_2] 25 (0, 0)) (upB b0.out)) : b7 ≠ b5)); have n9_ := yab ((by rw [hg]; exact Nat.ne_of_lt (blk_lt (g := a9) (o := .cells #[.int .i64 a1_0, .int .i64 a1_1, .int .i64 a1_2, .int .i64 a1_3, .int .i64 a1_4] 27 (0, 0)) (upB a8.out)) : a9 ≠ b7)); have h6 := yab ((by rw [hg]; exact Nat.ne_of_gt (blk_lt (g := a9) (o := .cells #[.int .i64 a1_0, .int .i64 a1_1, .int .i64 a1_2, .int .i64 a1_3, .int .i64 a1_4] 27 (0, 0)) (upB a8.out)) : b7 ≠ a9)); have h7 := yab ((by rw [hg]; exact Nat.ne_of_lt (blk_lt (g := b8) (o := .cells #[.int .i64 0, .int .i64 0, .slice none 0 0] 25 (0, 0)) (upB b3.out)) : b8 ≠ b7)); have h8 := yab ((by rw [hg]; exact Nat.ne_of_gt (blk_lt (g := b8) (o := .cells #[.int .i64 0, .int .i64 0, .slice none 0 0] 25 (0, 0)) (upB b3.out)) : b7 ≠ b8)); clear b0; clear a8; clear b3; clear HB; have b0 := n0_; have a8 := n1_; have b3 := n2_; have HB := n3_; have b1 := n4_; have o5 := n5_; have o6 := n6_; have b9 := n7_; have d8 := n8_; have b4 := n9_; have c2 := h6; have c0 := h7; have d9 := h8; clear n0_ n1_ n2_ n3_ n4_ n5_ n6_ n7_ n8_ n9_ h6 h7 h8; clear hb hbox hg; have o7 := d8.out; have o8 := b9.out; have o9 := c2.out; have p0 := b4.out; have p1 := d9.out; have p3 := c0.out; have e2 : w9.cell? ⟨b7, 0, none⟩ = some (.int .i64 0) := (yaa b1.out 0).trans rfl; have e3 : w9.cell? ⟨b7, 1, none⟩ = some (.int .i64 0) := (yaa b1.out 1).trans rfl; have e4 : w9.cell? ⟨b7, 2, none⟩ = some (.slice none 0 0) := (yaa b1.out 2).trans rfl; have e5 := yac b1.out 0; have e6 := yac b1.out 1; have e7 := yac b1.out 2))
 (try simp only [Act.put, List.setIfInBounds_toArray, List.set_cons_zero, List.set_cons_succ])
 go_loopg [6] k (fun kq v6 w' => ∃ (e0 : Int) (c3 : List (S36)) (u105002 : Value), v6 = .int .i64 e0 ∧ Aside0 (spec_l6Crop.l0 kq e0 a0_0 a0_1 l0_2 a1_0 a1_1 a1_2 a1_3 a1_4 a1_3 a1_4 c3 = some (r1, r2, r3)) ∧ Aside0 (kq ≤ k) ∧ Aside0 (Kd.R k36 36 w' w.heap.size (fun _ => True) u105002 c3) ∧ Aside0 (w'.heap[b5]? = some (.cells #[.int .i64 a0_0, .int .i64 a0_1, (.slice A0_2 l0_2.length c0_2)] 25 (0, 0))) ∧ Aside0 (w'.heap[a9]? = some (.cells #[.int .i64 a1_0, .int .i64 a1_1, .int .i64 a1_2, .int .i64 a1_3, .int .i64 a1_4] 27 (0, 0))) ∧ Aside0 (w'.heap[b8]? = some (.cells #[.int .i64 0, .int .i64 0, (.slice none 0 0)] 25 (0, 0))) ∧ Aside0 (w'.heap[b7]? = some (.cells #[.int .i64 a1_3, .int .i64 a1_4, u105002] 25 (0, 0))) ∧ Aside0 (Below w.heap.size w w'))
 case atStart => exact ⟨(0), (([] : List (S36))), (.slice none 0 0), (by first | rfl | (simp; done) | (simp [*]; done)), H', ⟨Nat.le_refl _⟩, ⟨by first | exact Kd.R_nil _ _ _ _ _ | exact Kd.N_nil _ _ _ _ _ | exact Kd.V_nil _ _ _ _ _ | exact Kd.Q_nil _ _ _ _ _ | exact Kd.S_nil _ _ _ _ _⟩, ⟨by (with_reducible repeat (first | refine yai ?_ _ | refine yah ?_ | refine yae ?_ _)); refine blk_far ?_ b9.out _; (with_reducible repeat (first | refine yai ?_ _ | refine yah ?_ | refine yae ?_ _)); refine blk_far ?_ b9.out _; (with_reducible repeat (first | refine yai ?_ _ | refine yah ?_ | refine yae ?_ _)); refine blk_far ?_ b9.out _; exact upB b0.out⟩, ⟨by (with_reducible repeat (first | refine yai ?_ _ | refine yah ?_ | refine yae ?_ _)); refine blk_far ?_ b4.out _; (with_reducible repeat (first | refine yai ?_ _ | refine yah ?_ | refine yae ?_ _)); refine blk_far ?_ b4.out _; (with_reducible repeat (first | refine yai ?_ _ | refine yah ?_ | refine yae ?_ _)); refine blk_far ?_ b4.out _; exact upB a8.out⟩, ⟨by (with_reducible repeat (first | refine yai ?_ _ | refine yah ?_ | refine yae ?_ _)); refine blk_far ?_ c0.out _; (with_reducible repeat (first | refine yai ?_ _ | refine yah ?_ | refine yae ?_ _)); refine blk_far ?_ c0.out _; (with_reducible repeat (first | refine yai ?_ _ | refine yah ?_ | refine yae ?_ _)); refine blk_far ?_ c0.out _; exact upB b3.out⟩, ⟨by (with_reducible repeat (first | refine yai ?_ _ | refine yah ?_ | refine yae ?_ _)); refine blk_put (cs := #[.int .i64 a1_3, .int .i64 a1_4, .slice none 0 0]) ?_ 2 _ rfl; (with_reducible repeat (first | refine yai ?_ _ | refine yah ?_ | refine yae ?_ _)); refine blk_put (cs := #[.int .i64 a1_3, .int .i64 0, .slice none 0 0]) ?_ 1 _ rfl; (with_reducible repeat (first | refine yai ?_ _ | refine yah ?_ | refine yae ?_ _)); refine blk_put (cs := #[.int .i64 0, .int .i64 0, .slice none 0 0]) ?_ 0 _ rfl; exact upB b1.out⟩, ⟨by repeat (first | (with_reducible first | exact HB.out | apply yag | apply yad | apply yaf | refine below_set ?_ (Aside0.out ‹_›)) | exact HB.out)⟩⟩
 case round =>
  clear H'
  try clear c1
  try clear p2
  try clear c6
  try clear c7
  try clear c10
  try clear c11
  try clear c12
  try clear e2
  try clear e3
  try clear e4
  try clear f4
  try clear f5
  try clear f6
  try clear f7
  try clear f8
  try clear e5
  try clear e6
  try clear e7
  try clear f9
  try clear g0
  try clear g1
  try clear g2
  try clear g3
  obtain ⟨e0, c3, u105002, rfl, HA, HK1, b2, b0, a8, b3, b1, HB⟩ := hrel
  cases gk with
  | zero => exact absurd HA.out (by simp [spec_l6Crop.l0])
  | succ k1 =>
   have H := HA.out
   clear HA
   simp only [spec_l6Crop.l0] at H
   by_cases c14 : e0 < a1_4
   ·
    rw [if_pos c14] at H
    have h4 : decide (e0 < a1_4) = true := decide_eq_true c14
    clear c14
    have H' := yab H
    clear H
    have p4 := d1.out
    have p5 := d0.out
    have p6 := d2.out
    have p7 := d3.out
    have p8 := b4.out
    have p9 := c2.out
    have g4 : wr.cell? ⟨a9, 0, none⟩ = some (.int .i64 a1_0) := (yaa a8.out 0).trans rfl
    have g5 : wr.cell? ⟨a9, 1, none⟩ = some (.int .i64 a1_1) := (yaa a8.out 1).trans rfl
    have g6 : wr.cell? ⟨a9, 2, none⟩ = some (.int .i64 a1_2) := (yaa a8.out 2).trans rfl
    have g7 : wr.cell? ⟨a9, 3, none⟩ = some (.int .i64 a1_3) := (yaa a8.out 3).trans rfl
    have g8 : wr.cell? ⟨a9, 4, none⟩ = some (.int .i64 a1_4) := (yaa a8.out 4).trans rfl
    have g9 := yac a8.out 0
    have h0 := yac a8.out 1
    have h1 := yac a8.out 2
    have h2 := yac a8.out 3
    have h3 := yac a8.out 4
    go_wp2
    (try simp only [Act.put, List.setIfInBounds_toArray, List.set_cons_zero, List.set_cons_succ])
    go_loopg [7] k1 (fun kq v7 w' => ∃ (e1 : Int) (b6 : List (S36)) (u105002 : Value), v7 = .int .i64 e1 ∧ Aside0 (spec_l6Crop.l1 kq e0 e1 a0_0 a0_1 l0_2 a1_0 a1_1 a1_2 a1_3 a1_4 a1_3 a1_4 b6 = some (r1, r2, r3)) ∧ Aside0 (kq ≤ k1) ∧ Aside0 (Kd.R k36 36 w' w.heap.size (fun _ => True) u105002 b6) ∧ Aside0 (w'.heap[b5]? = some (.cells #[.int .i64 a0_0, .int .i64 a0_1, (.slice A0_2 l0_2.length c0_2)] 25 (0, 0))) ∧ Aside0 (w'.heap[a9]? = some (.cells #[.int .i64 a1_0, .int .i64 a1_1, .int .i64 a1_2, .int .i64 a1_3, .int .i64 a1_4] 27 (0, 0))) ∧ Aside0 (w'.heap[b8]? = some (.cells #[.int .i64 0, .int .i64 0, (.slice none 0 0)] 25 (0, 0))) ∧ Aside0 (w'.heap[b7]? = some (.cells #[.int .i64 a1_3, .int .i64 a1_4, u105002] 25 (0, 0))) ∧ Aside0 (Below w.heap.size w w'))
    case atStart => exact ⟨(0), (c3), (u105002), (by first | rfl | (simp; done) | (simp [*]; done)), H', ⟨Nat.le_refl _⟩, ⟨by exact upR b2.out⟩, ⟨by exact upB b0.out⟩, ⟨by exact upB a8.out⟩, ⟨by exact upB b3.out⟩, ⟨by exact upB b1.out⟩, ⟨by repeat (first | (with_reducible first | exact HB.out | apply yag | apply yad | apply yaf | refine below_set ?_ (Aside0.out ‹_›)) | exact HB.out)⟩⟩
    case round =>
     clear H'
     try clear c1
     try clear p2
     try clear c6
     try clear c7
     try clear c10
     try clear c11
     try clear c12
     try clear c14
     try clear h4
     try clear c15
     try clear c16
     try clear c17
     try clear e2
     try clear e3
     try clear e4
     try clear g4
     try clear g5
     try clear g6
     try clear g7
     try clear g8
     try clear f4
     try clear f5
     try clear f6
     try clear f7
     try clear f8
     try clear e5
     try clear e6
     try clear e7
     try clear g9
     try clear h0
     try clear h1
     try clear h2
     try clear h3
     try clear f9
     try clear g0
     try clear g1
     try clear g2
     try clear g3
     try clear p2
     obtain ⟨e1, b6, u105002, rfl, HA, HK2, b2, b0, a8, b3, b1, HB⟩ := hrel
     cases gk with
     | zero => exact absurd HA.out (by simp [spec_l6Crop.l1])
     | succ k2 =>
      have H := HA.out
      clear HA
      simp only [spec_l6Crop.l1] at H
      by_cases c19 : e1 < a1_3
      ·
       rw [if_pos c19] at H
       have h9 : decide (e1 < a1_3) = true := decide_eq_true c19
       clear c19
       obtain ⟨ji20, hji20⟩ : ∃ j_ : Int, (wrap64 ((wrap64 ((wrap64 ((wrap64 (a1_2 + e0)) * a0_0)) + a1_1)) + e1)) = j_ := ⟨_, rfl⟩
       replace H : (if 0 ≤ (ji20) then (if (ji20) < (l0_2.length : Int) then (if b6.length < 4398046511104 then (spec_l6Crop.l1 k2 e0 (wrap64 (e1 + 1)) a0_0 a0_1 l0_2 a1_0 a1_1 a1_2 a1_3 a1_4 a1_3 a1_4 (b6 ++ [(⟨(rd_T36 l0_2 (ji20)).f0, (rd_T36 l0_2 (ji20)).f1, (rd_T36 l0_2 (ji20)).f2, (rd_T36 l0_2 (ji20)).f3⟩ : S36)])) else (none)) else (none)) else (none)) = some (r1, r2, r3) := by first | (rw [hji20] at H; exact H) | (simp only [hji20] at H ⊢; exact H)
       have hji20w : (IntKind.i64.wrap ((wrap64 ((wrap64 ((wrap64 (a1_2 + e0)) * a0_0)) + a1_1)) + e1)) = ji20 := (i64_w _).trans hji20
       by_cases c21 : 0 ≤ (ji20)
       ·
        rw [if_pos c21] at H
        have q0 : decide (0 ≤ (ji20)) = true := decide_eq_true c21
        clear c21
        by_cases c22 : (ji20) < (l0_2.length : Int)
        ·
         rw [if_pos c22] at H
         have q1 : decide ((ji20) < (l0_2.length : Int)) = true := decide_eq_true c22
         clear c22
         by_cases c23 : b6.length < 4398046511104
         ·
          rw [if_pos c23] at H
          have LMc23 := yab c23
          clear c23
          obtain ⟨y106, hy106⟩ : ∃ y_ : List (S36), y_ = (b6 ++ [(⟨(rd_T36 l0_2 (ji20)).f0, (rd_T36 l0_2 (ji20)).f1, (rd_T36 l0_2 (ji20)).f2, (rd_T36 l0_2 (ji20)).f3⟩ : S36)]) := ⟨_, rfl⟩
          replace H : (spec_l6Crop.l1 k2 e0 (wrap64 (e1 + 1)) a0_0 a0_1 l0_2 a1_0 a1_1 a1_2 a1_3 a1_4 a1_3 a1_4 y106) = some (r1, r2, r3) := by first | (rw [hy106]; with_reducible exact H) | (have H2_ := (Option.bind_some _ _).symm.trans H; rw [hy106]; with_reducible exact H2_) | (have H2_ := (Option.bind_some _ _).symm.trans H; with_reducible exact H2_) | with_reducible exact H | (rw [hy106]; exact H) | exact H
          have Ny106 := yab hy106
          clear hy106
          have H' := yab H
          clear H
          have q2 := d1.out
          have q3 := d0.out
          have q4 := d2.out
          have q5 := d3.out
          have q6 := b4.out
          have q7 := c2.out
          have i5 : wr.cell? ⟨a9, 0, none⟩ = some (.int .i64 a1_0) := (yaa a8.out 0).trans rfl
          have i6 : wr.cell? ⟨a9, 1, none⟩ = some (.int .i64 a1_1) := (yaa a8.out 1).trans rfl
          have i7 : wr.cell? ⟨a9, 2, none⟩ = some (.int .i64 a1_2) := (yaa a8.out 2).trans rfl
          have i8 : wr.cell? ⟨a9, 3, none⟩ = some (.int .i64 a1_3) := (yaa a8.out 3).trans rfl
          have i9 : wr.cell? ⟨a9, 4, none⟩ = some (.int .i64 a1_4) := (yaa a8.out 4).trans rfl
          have j0 := yac a8.out 0
          have j1 := yac a8.out 1
          have j2 := yac a8.out 2
          have j3 := yac a8.out 3
          have j4 := yac a8.out 4
          try go_wp2
          have n0_ := yab (Kd.R_drew b2.out)
          have n1_ := yab (yah b0.out)
          have n2_ := yab (yah a8.out)
          have n3_ := yab (yah b3.out)
          have n4_ := yab (yah b1.out)
          have n5_ := yab (yaf HB.out)
          clear b2 b0 a8 b3 b1 HB
          have b2 := n0_
          have b0 := n1_
          have a8 := n2_
          have b3 := n3_
          have b1 := n4_
          have HB := n5_
          clear n0_ n1_ n2_ n3_ n4_ n5_
          have p105 : 0 ≤ ((ji20) : Int) := of_decide_eq_true (by first | (with_reducible assumption) | assumption)
          have q105 : (ji20) < (l0_2.length : Int) := of_decide_eq_true (by first | (with_reducible assumption) | assumption)
          obtain ⟨ad105, n7, d4, d5, d6, d7⟩ := at_T36 HR0_2.out (ji20) p105 q105
          have c4 := d7
          have c5 := d6
          have c8 := d5
          have c9 := d4
          cases n7
          replace d4 := (HB.out.cell (World.block_lt_of_cell? w _ d4)).trans d4
          replace d5 := (HB.out.cell (World.block_lt_of_cell? w _ d5)).trans d5
          replace d6 := (HB.out.cell (World.block_lt_of_cell? w _ d6)).trans d6
          replace d7 := (HB.out.cell (World.block_lt_of_cell? w _ d7)).trans d7
          replace p105 := eq_true p105
          replace q105 := eq_true q105
          refine start_ (n := 22) (S := fun w' => w'.cell? ⟨b7, 0, none⟩ = some (.int .i64 a1_3) ∧ w'.cell? ⟨b7, 1, none⟩ = some (.int .i64 a1_4) ∧ w'.cell? ⟨b7, 2, none⟩ = some (u105002) ∧ w'.cell? ⟨b5, 0, none⟩ = some (.int .i64 a0_0) ∧ w'.cell? ⟨b5, 1, none⟩ = some (.int .i64 a0_1) ∧ w'.cell? ⟨b5, 2, none⟩ = some (.slice (some ad105) l0_2.length c0_2) ∧ w'.cell? ⟨a9, 0, none⟩ = some (.int .i64 a1_0) ∧ w'.cell? ⟨a9, 1, none⟩ = some (.int .i64 a1_1) ∧ w'.cell? ⟨a9, 2, none⟩ = some (.int .i64 a1_2) ∧ w'.cell? ⟨a9, 3, none⟩ = some (.int .i64 a1_3) ∧ w'.cell? ⟨a9, 4, none⟩ = some (.int .i64 a1_4) ∧ w'.cell? (ad105.add (((ji20)).toNat * 4)) = some (.int .i64 ((rd_T36 l0_2 (ji20)).f0)) ∧ w'.cell? ⟨(ad105.add (((ji20)).toNat * 4)).block, (ad105.add (((ji20)).toNat * 4)).off + 1, none⟩ = some (.int .i64 ((rd_T36 l0_2 (ji20)).f1)) ∧ w'.cell? ⟨(ad105.add (((ji20)).toNat * 4)).block, (ad105.add (((ji20)).toNat * 4)).off + 2, none⟩ = some (.int .i64 ((rd_T36 l0_2 (ji20)).f2)) ∧ w'.cell? ⟨(ad105.add (((ji20)).toNat * 4)).block, (ad105.add (((ji20)).toNat * 4)).off + 3, none⟩ = some (.int .i64 ((rd_T36 l0_2 (ji20)).f3))) (ds := [21]) q73_0 (by kernel_rfl) rfl rfl ⟨(yaa b1.out 0).trans rfl, (yaa b1.out 1).trans rfl, (yaa b1.out 2).trans rfl, (yaa b0.out 0).trans rfl, (yaa b0.out 1).trans rfl, (yaa b0.out 2).trans rfl, (yaa a8.out 0).trans rfl, (yaa a8.out 1).trans rfl, (yaa a8.out 2).trans rfl, (yaa a8.out 3).trans rfl, (yaa a8.out 4).trans rfl, ((HB.out.cell (World.block_lt_of_cell? w _ c9)).trans c9), ((HB.out.cell (World.block_lt_of_cell? w _ c8)).trans c8), ((HB.out.cell (World.block_lt_of_cell? w _ c5)).trans c5), ((HB.out.cell (World.block_lt_of_cell? w _ c4)).trans c4)⟩ (fun hHeld => ?_); refine with_tabW spec_l6Crop.tab8 spec_l6Crop.bits8 (fun HT_ HW_ => ?_)
          generalize wr.drew = w28 at b2 b0 a8 b3 b1 HB d4 d5 d6 d7 hHeld ⊢
          refine pz_ 0 25 q73_1 HT_ (by kernel_rfl) ?_
          refine pz_ 2 27 q73_2 HT_ (by kernel_rfl) ?_
          refine pz_ 4 29 q73_3 HT_ (by kernel_rfl) ?_
          refine pz_ 6 31 q73_4 HT_ (by kernel_rfl) ?_
          refine pz_ 8 33 q73_5 HT_ (by kernel_rfl) ?_
          refine pz_ 11 36 q73_6 HT_ (by kernel_rfl) ?_
          refine pz_ 14 39 q73_7 HT_ (by kernel_rfl) ?_
          refine tz_ 1 26 q73_8 HT_ HW_ (by kernel_rfl) hHeld ?_
          refine tz_ 3 28 q73_9 HT_ HW_ (by kernel_rfl) hHeld ?_
          refine tz_ 5 30 q73_10 HT_ HW_ (by kernel_rfl) hHeld ?_
          refine pz_ 7 32 q73_11 HT_ (by kernel_rfl) ?_
          refine tz_ 9 34 q73_12 HT_ HW_ (by kernel_rfl) hHeld ?_
          refine pz_ 10 35 q73_13 HT_ (by kernel_rfl) ?_
          refine tz_ 12 37 q73_14 HT_ HW_ (by kernel_rfl) hHeld ?_
          refine pz_ 13 38 q73_15 HT_ (by kernel_rfl) ?_
          refine pz_ 15 40 q73_16 HT_ (by kernel_rfl) ?_
          refine pz_ 16 41 q73_17 HT_ (by kernel_rfl) ?_
          refine tz_ 17 42 q73_18 HT_ HW_ (by kernel_rfl) hHeld ?_
          refine one_ (i := 18) (N := some 43) q73_19 rfl rfl (one_of HT_.out (by kernel_rfl)) (by decide) (fun K hK => ?_)
          refine value_ (w1 := ?_) (v := ?_) (by rfl) rfl ?_ ?_
          rotate_left 2
          ·
           go_simp
           constructor
           ·
            rfl
           ·
            rfl
          refine hK.out _ _ ⟨(yaa (yae b1.out _) 0).trans rfl, (yaa (yae b1.out _) 1).trans rfl, (yaa (yae b1.out _) 2).trans rfl, (yaa (yae b0.out _) 0).trans rfl, (yaa (yae b0.out _) 1).trans rfl, (yaa (yae b0.out _) 2).trans rfl, (yaa (yae a8.out _) 0).trans rfl, (yaa (yae a8.out _) 1).trans rfl, (yaa (yae a8.out _) 2).trans rfl, (yaa (yae a8.out _) 3).trans rfl, (yaa (yae a8.out _) 4).trans rfl, (World.cell?_alloc_lt _ _ _ (World.block_lt_of_cell? _ _ (((HB.out.cell (World.block_lt_of_cell? w _ c9)).trans c9)))).trans (((HB.out.cell (World.block_lt_of_cell? w _ c9)).trans c9)), (World.cell?_alloc_lt _ _ _ (World.block_lt_of_cell? _ _ (((HB.out.cell (World.block_lt_of_cell? w _ c8)).trans c8)))).trans (((HB.out.cell (World.block_lt_of_cell? w _ c8)).trans c8)), (World.cell?_alloc_lt _ _ _ (World.block_lt_of_cell? _ _ (((HB.out.cell (World.block_lt_of_cell? w _ c5)).trans c5)))).trans (((HB.out.cell (World.block_lt_of_cell? w _ c5)).trans c5)), (World.cell?_alloc_lt _ _ _ (World.block_lt_of_cell? _ _ (((HB.out.cell (World.block_lt_of_cell? w _ c4)).trans c4)))).trans (((HB.out.cell (World.block_lt_of_cell? w _ c4)).trans c4))⟩ (fun hHeld => ?_)
          clear hK K
          refine norm_ (a' := ?_) ?_ ?_
          rotate_left
          ·
           show Act.put _ (some 43) _ = _
           simp only [Act.put, List.setIfInBounds_toArray, List.set_cons_zero, List.set_cons_succ, i64_w, i32_w]
           rfl
          refine one_ (i := 19) (N := some 44) q73_20 rfl rfl (one_of HT_.out (by kernel_rfl)) (by decide) (fun K hK => ?_)
          refine Kd.R_append_step k36 (w0 := w) w.heap.size (by rfl) (.tmp 26) (.tmp 43) 23 36 (.agg #[(.int .i64 0), (.int .i64 0), (.int .i64 0), (.int .i64 0)]) 32 rfl Try.underlying23 info36 rfl (by decide) (by omega) u105002 b6 (⟨(rd_T36 l0_2 (ji20)).f0, (rd_T36 l0_2 (ji20)).f1, (rd_T36 l0_2 (ji20)).f2, (rd_T36 l0_2 (ji20)).f3⟩ : S36) [.int .i64 ((rd_T36 l0_2 (ji20)).f0), .int .i64 ((rd_T36 l0_2 (ji20)).f1), .int .i64 ((rd_T36 l0_2 (ji20)).f2), .int .i64 ((rd_T36 l0_2 (ji20)).f3)] (fun _ => True) (fun _ => False) rfl rfl ?aP (fun _ hk => hk.elim) ?aF ?aO ?aB ?aS ?aL ?_
          (case aP => exact k36_mkM _ _ _ (⟨(rd_T36 l0_2 (ji20)).f0, (rd_T36 l0_2 (ji20)).f1, (rd_T36 l0_2 (ji20)).f2, (rd_T36 l0_2 (ji20)).f3⟩ : S36))
          (case aB => exact (by repeat (first | (with_reducible first | exact HB.out | apply yag | apply yad | apply yaf | refine below_set ?_ (Aside0.out ‹_›)) | exact HB.out)))
          (case aF => exact (fun _ _ => trivial))
          (case aO => exact (upR b2.out))
          (case aS => exact (below_size (by repeat (first | (with_reducible first | exact HB.out | apply yag | apply yad | apply yaf | refine below_set ?_ (Aside0.out ‹_›)) | exact HB.out))))
          (case aL => have := LMc23.out; omega)
          intro t4 w29 ho hb hg hat
          rw [← Ny106.out] at ho
          have n0_ := yab (blk_grown (g := b5) (o := .cells #[.int .i64 a0_0, .int .i64 a0_1, .slice (some ad105) l0_2.length c0_2] 25 (0, 0)) (upB b0.out) hg (Kd.R_ne b2.out b0.out (by decide)))
          have n1_ := yab (blk_grown (g := a9) (o := .cells #[.int .i64 a1_0, .int .i64 a1_1, .int .i64 a1_2, .int .i64 a1_3, .int .i64 a1_4] 27 (0, 0)) (upB a8.out) hg (Kd.R_ne b2.out a8.out (by decide)))
          have n2_ := yab (blk_grown (g := b8) (o := .cells #[.int .i64 0, .int .i64 0, .slice none 0 0] 25 (0, 0)) (upB b3.out) hg (Kd.R_ne b2.out b3.out (by decide)))
          have n3_ := yab (blk_grown (g := b7) (o := .cells #[.int .i64 a1_3, .int .i64 a1_4, u105002] 25 (0, 0)) (upB b1.out) hg (Kd.R_ne b2.out b1.out (by decide)))
          have n4_ := yab (hb)
          have n5_ := yab (ho)
          clear b0 a8 b3 b1 HB b2
          have b0 := n0_
          have a8 := n1_
          have b3 := n2_
          have b1 := n3_
          have HB := n4_
          have h5 := n5_
          clear n0_ n1_ n2_ n3_ n4_ n5_ ho hb hg hat
          obtain ⟨i0, i1, i2⟩ := Kd.R_slice h5.out
          (first | subst i2 | (injection i2 with f1_ f2_ f3_; have f4_ := f1_.symm; have f5_ := f3_.symm; clear f1_ f2_ f3_; subst f4_; subst f5_))
          refine hK.out _ _ ⟨(yaa b1.out 0).trans rfl, (yaa b1.out 1).trans rfl, (yaa b1.out 2).trans rfl, (yaa b0.out 0).trans rfl, (yaa b0.out 1).trans rfl, (yaa b0.out 2).trans rfl, (yaa a8.out 0).trans rfl, (yaa a8.out 1).trans rfl, (yaa a8.out 2).trans rfl, (yaa a8.out 3).trans rfl, (yaa a8.out 4).trans rfl, ((HB.out.cell (World.block_lt_of_cell? w _ c9)).trans c9), ((HB.out.cell (World.block_lt_of_cell? w _ c8)).trans c8), ((HB.out.cell (World.block_lt_of_cell? w _ c5)).trans c5), ((HB.out.cell (World.block_lt_of_cell? w _ c4)).trans c4)⟩ (fun hHeld => ?_)
          clear hK K
          refine norm_ (a' := ?_) ?_ ?_
          rotate_left
          ·
           show Act.put _ (some 44) _ = _
           simp only [Act.put, List.setIfInBounds_toArray, List.set_cons_zero, List.set_cons_succ, i64_w, i32_w]
           rfl
          refine pz_ 20 45 q73_21 HT_ (by kernel_rfl) ?_
          refine last_ (i := 21) (N := none) q73_22 rfl rfl (one_of HT_.out (by kernel_rfl)) (by decide) (fun K hK => ?_)
          have t5 : w29.cell? ⟨b7, 2, none⟩ = some (u105002) := (yaa b1.out 2).trans rfl
          have q8 := yac b1.out 2
          have j5 := b9.out
          have j6 := b4.out
          have j7 := c0.out
          have j8 := d8.out
          have j9 := c2.out
          have k0 := d9.out
          refine skip_ (w1 := ?_) (by rfl) rfl ?_ ?_
          rotate_left
          ·
           go_simp
           rfl
          refine hK.out _ _ ?_
          clear hK K
          refine done_ (done_of HT_.out (by kernel_rfl)) ?_
          try go_wp2
          go_roundg k2
          case measure => have := HK1.out; have := HK2.out; omega
          case rel => exact ⟨(wrap64 (e1 + 1)), (y106), (.slice i0 y106.length i1), (by first | rfl | (simp; done) | (simp [*]; done)), H', ⟨by have := HK1.out; have := HK2.out; omega⟩, ⟨by (with_reducible repeat (first | apply Kd.R_alloc | apply Kd.R_drewN | apply Kd.R_drew)); exact Kd.R_mono (Kd.R_far (p := ⟨b7, 2, none⟩) (Kd.R_types h5.out b1.out (by decide)) (fun _ hk => hk.2) (.slice i0 y106.length i1)) (fun _ hk => trivial)⟩, ⟨by (with_reducible repeat (first | refine yai ?_ _ | refine yah ?_ | refine yae ?_ _)); refine blk_far ?_ b9.out _; exact upB b0.out⟩, ⟨by (with_reducible repeat (first | refine yai ?_ _ | refine yah ?_ | refine yae ?_ _)); refine blk_far ?_ b4.out _; exact upB a8.out⟩, ⟨by (with_reducible repeat (first | refine yai ?_ _ | refine yah ?_ | refine yae ?_ _)); refine blk_far ?_ c0.out _; exact upB b3.out⟩, ⟨by (with_reducible repeat (first | refine yai ?_ _ | refine yah ?_ | refine yae ?_ _)); refine blk_put (cs := #[.int .i64 a1_3, .int .i64 a1_4, u105002]) ?_ 2 _ rfl; exact upB b1.out⟩, ⟨by repeat (first | (with_reducible first | exact HB.out | apply yag | apply yad | apply yaf | refine below_set ?_ (Aside0.out ‹_›)) | exact HB.out)⟩⟩
         ·
          rw [if_neg c23] at H
          exact absurd H (by simp)
        ·
         rw [if_neg c22] at H
         exact absurd H (by simp)
       ·
        rw [if_neg c21] at H
        exact absurd H (by simp)
      ·
       rw [if_neg c19] at H
       have h9 : decide (e1 < a1_3) = false := decide_eq_false c19
       clear c19
       have H' := yab H
       clear H
       have q9 := d1.out
       have r0 := d0.out
       have r4 := d2.out
       have r5 := d3.out
       have r6 := b4.out
       have r7 := c2.out
       have k3 : wr.cell? ⟨a9, 0, none⟩ = some (.int .i64 a1_0) := (yaa a8.out 0).trans rfl
       have k4 : wr.cell? ⟨a9, 1, none⟩ = some (.int .i64 a1_1) := (yaa a8.out 1).trans rfl
       have k5 : wr.cell? ⟨a9, 2, none⟩ = some (.int .i64 a1_2) := (yaa a8.out 2).trans rfl
       have k6 : wr.cell? ⟨a9, 3, none⟩ = some (.int .i64 a1_3) := (yaa a8.out 3).trans rfl
       have k7 : wr.cell? ⟨a9, 4, none⟩ = some (.int .i64 a1_4) := (yaa a8.out 4).trans rfl
       have k8 := yac a8.out 0
       have k9 := yac a8.out 1
       have l2 := yac a8.out 2
       have l3 := yac a8.out 3
       have l4 := yac a8.out 4
       go_wp2
       go_roundg k2
       case measure => have := HK1.out; have := HK2.out; omega
       case rel => exact ⟨(wrap64 (e0 + 1)), (b6), (u105002), (by first | rfl | (simp; done) | (simp [*]; done)), H', ⟨by have := HK1.out; have := HK2.out; omega⟩, ⟨by exact upR b2.out⟩, ⟨by exact upB b0.out⟩, ⟨by exact upB a8.out⟩, ⟨by exact upB b3.out⟩, ⟨by exact upB b1.out⟩, ⟨by repeat (first | (with_reducible first | exact HB.out | apply yag | apply yad | apply yaf | refine below_set ?_ (Aside0.out ‹_›)) | exact HB.out)⟩⟩
   ·
    rw [if_neg c14] at H
    have h4 : decide (e0 < a1_4) = false := decide_eq_false c14
    clear c14
    simp only [Option.some.injEq, Prod.mk.injEq] at H
    obtain ⟨rfl, rfl, rfl⟩ := H
    have r8 := d1.out
    have r9 := d0.out
    have s0 := d2.out
    have s1 := d3.out
    have s2 := b4.out
    have s3 := c2.out
    have l5 : wr.cell? ⟨a9, 0, none⟩ = some (.int .i64 a1_0) := (yaa a8.out 0).trans rfl
    have l6 : wr.cell? ⟨a9, 1, none⟩ = some (.int .i64 a1_1) := (yaa a8.out 1).trans rfl
    have l7 : wr.cell? ⟨a9, 2, none⟩ = some (.int .i64 a1_2) := (yaa a8.out 2).trans rfl
    have l8 : wr.cell? ⟨a9, 3, none⟩ = some (.int .i64 a1_3) := (yaa a8.out 3).trans rfl
    have l9 : wr.cell? ⟨a9, 4, none⟩ = some (.int .i64 a1_4) := (yaa a8.out 4).trans rfl
    have m0 := yac a8.out 0
    have m1 := yac a8.out 1
    have m2 := yac a8.out 2
    have m3 := yac a8.out 3
    have m4 := yac a8.out 4
    have s4 := d8.out
    have s5 := b9.out
    have s6 := d9.out
    have s7 := c0.out
    have m5 : wr.cell? ⟨b7, 0, none⟩ = some (.int .i64 a1_3) := (yaa b1.out 0).trans rfl
    have m6 : wr.cell? ⟨b7, 1, none⟩ = some (.int .i64 a1_4) := (yaa b1.out 1).trans rfl
    have m7 : wr.cell? ⟨b7, 2, none⟩ = some (u105002) := (yaa b1.out 2).trans rfl
    have m8 := yac b1.out 0
    have m9 := yac b1.out 1
    have n0 := yac b1.out 2
    have s8 := e9.out
    have s9 := e8.out
    have n1 : wr.cell? ⟨b8, 0, none⟩ = some (.int .i64 0) := (yaa b3.out 0).trans rfl
    have n2 : wr.cell? ⟨b8, 1, none⟩ = some (.int .i64 0) := (yaa b3.out 1).trans rfl
    have n3 : wr.cell? ⟨b8, 2, none⟩ = some (.slice none 0 0) := (yaa b3.out 2).trans rfl
    have n4 := yac b3.out 0
    have n5 := yac b3.out 1
    have n6 := yac b3.out 2
    obtain ⟨i3, i4, n8⟩ := Kd.R_slice b2.out
    subst n8
    go_wp2
    refine bodyPost_ret (results_cell_row rfl _ _ b8 25 #[.int .i64 a1_3, .int .i64 a1_4, .slice i3 c3.length i4] (0, 0) _ rfl (by (with_reducible repeat (first | refine yai ?_ _ | refine yah ?_ | refine yae ?_ _)); refine blk_put (cs := #[.int .i64 a1_3, .int .i64 a1_4, .slice none 0 0]) ?_ 2 _ rfl; (with_reducible repeat (first | refine yai ?_ _ | refine yah ?_ | refine yae ?_ _)); refine blk_put (cs := #[.int .i64 a1_3, .int .i64 0, .slice none 0 0]) ?_ 1 _ rfl; (with_reducible repeat (first | refine yai ?_ _ | refine yah ?_ | refine yae ?_ _)); refine blk_put (cs := #[.int .i64 0, .int .i64 0, .slice none 0 0]) ?_ 0 _ rfl; exact upB b3.out) Try.underlying25 rfl (by kernel_rfl)) rfl ?_
    exact ⟨_, by first | rfl | (simp [errW_none, errW_some] <;> rfl) | (simp [*, errW_none, errW_some] <;> rfl), by (with_reducible repeat (first | apply Kd.R_alloc | apply Kd.R_drewN | apply Kd.R_drew)); exact Kd.R_mono (Kd.R_far (p := ⟨b8, 2, none⟩) (Kd.R_far (p := ⟨b8, 1, none⟩) (Kd.R_far (p := ⟨b8, 0, none⟩) (Kd.R_types b2.out b3.out (by decide)) (fun _ hk => hk.2) (.int .i64 a1_3)) (fun _ hk => hk.2) (.int .i64 a1_4)) (fun _ hk => hk.2) (.slice i3 c3.length i4)) (fun _ hk => trivial), by repeat (first | (with_reducible first | exact HB.out | apply yag | apply yad | apply yaf | refine below_set ?_ (Aside0.out ‹_›)) | exact HB.out)⟩

end Go.Proofs.Ytoifpgkfpdeglaa.X

namespace Go.Proofs.Ytoifpgkfpdeglaa.X
open Go.RowKit Go.Proofs.YtoifpgkfpdeglaaW.PrintWords Go.Proofs.YtoifpgkfpdeglaaW.PrintLast Go.Proofs.YtoifpgkfpdeglaaW.PrintMore
attribute [local go_sem] max2_int min2_int max_two min_two max_three min_three max_four min_four
set_option linter.unusedVariables false
set_option linter.unusedSimpArgs false

open Go.Proofs.YtoifpgkfpdeglaaW.PrintWords.Aside0 renaming mk → yaa
open Go.Proofs.YtoifpgkfpdeglaaW.PrintWords renaming blk_cell → yab, pw_below_drewN → yac, below_drew1 → yad, blk_frozen → yae, below_alloc → yaf, blk_alloc → yag

/-! ### spec_l6FlipX: function 74 -/
abbrev q74_0 : Array Bool := #[false, false, false, false, false, false, false, false, false, false, false, false, false, false, false, false]
abbrev q74_1 : Array Bool := #[true, false, false, false, false, false, false, false, false, false, false, false, false, false, false, false]
abbrev q74_2 : Array Bool := #[true, false, true, false, false, false, false, false, false, false, false, false, false, false, false, false]
abbrev q74_3 : Array Bool := #[true, false, true, false, true, false, false, false, false, false, false, false, false, false, false, false]
abbrev q74_4 : Array Bool := #[true, false, true, false, true, true, false, false, false, false, false, false, false, false, false, false]
abbrev q74_5 : Array Bool := #[true, false, true, false, true, true, false, false, true, false, false, false, false, false, false, false]
abbrev q74_6 : Array Bool := #[true, true, true, false, true, true, false, false, true, false, false, false, false, false, false, false]
abbrev q74_7 : Array Bool := #[true, true, true, true, true, true, false, false, true, false, false, false, false, false, false, false]
abbrev q74_8 : Array Bool := #[true, true, true, true, true, true, true, false, true, false, false, false, false, false, false, false]
abbrev q74_9 : Array Bool := #[true, true, true, true, true, true, true, true, true, false, false, false, false, false, false, false]
abbrev q74_10 : Array Bool := #[true, true, true, true, true, true, true, true, true, true, false, false, false, false, false, false]
abbrev q74_11 : Array Bool := #[true, true, true, true, true, true, true, true, true, true, true, false, false, false, false, false]
abbrev q74_12 : Array Bool := #[true, true, true, true, true, true, true, true, true, true, true, true, false, false, false, false]
abbrev q74_13 : Array Bool := #[true, true, true, true, true, true, true, true, true, true, true, true, true, false, false, false]
abbrev q74_14 : Array Bool := #[true, true, true, true, true, true, true, true, true, true, true, true, true, true, false, false]
abbrev q74_15 : Array Bool := #[true, true, true, true, true, true, true, true, true, true, true, true, true, true, true, false]
abbrev q74_16 : Array Bool := #[true, true, true, true, true, true, true, true, true, true, true, true, true, true, true, true]
mutual
def spec_l6FlipX.l0 : Nat → Int → Int → Int → List (S36) → Int → Int → List (S36) → Option (Int × Int × (List (S36)))
 | 0, _, _, _, _, _, _, _ => none
 | k + 1, x4, x102000, x102001, x102002, x104000, x104001, x104002 => if x4 < x102001 then (spec_l6FlipX.l1 k x4 (wrap64 (x102000 - 1)) x102000 x102001 x102002 x104000 x104001 x104002) else (some (x104000, x104001, x104002))
def spec_l6FlipX.l1 : Nat → Int → Int → Int → Int → List (S36) → Int → Int → List (S36) → Option (Int × Int × (List (S36)))
 | 0, _, _, _, _, _, _, _, _ => none
 | k + 1, x4, x5, x102000, x102001, x102002, x104000, x104001, x104002 => if x5 ≥ 0 then (if 0 ≤ (wrap64 ((wrap64 (x4 * x102000)) + x5)) then (if (wrap64 ((wrap64 (x4 * x102000)) + x5)) < (x102002.length : Int) then (if x104002.length < 4398046511104 then (spec_l6FlipX.l1 k x4 (wrap64 (x5 - 1)) x102000 x102001 x102002 x104000 x104001 (x104002 ++ [(⟨(rd_T36 x102002 (wrap64 ((wrap64 (x4 * x102000)) + x5))).f0, (rd_T36 x102002 (wrap64 ((wrap64 (x4 * x102000)) + x5))).f1, (rd_T36 x102002 (wrap64 ((wrap64 (x4 * x102000)) + x5))).f2, (rd_T36 x102002 (wrap64 ((wrap64 (x4 * x102000)) + x5))).f3⟩ : S36)])) else (none)) else (none)) else (none)) else (spec_l6FlipX.l0 k (wrap64 (x4 + 1)) x102000 x102001 x102002 x104000 x104001 x104002)
end
def spec_l6FlipX.f (k : Nat) (a0_0 : Int) (a0_1 : Int) (l0_2 : List (S36)) : Option (Int × Int × (List (S36))) := spec_l6FlipX.l0 k 0 a0_0 a0_1 l0_2 a0_0 a0_1 ([] : List (S36))
def spec_l6FlipX.T8 : Bool × List (List Nat × List Nat) := (true, [([], []), ([0], [0]), ([], []), ([2], [2]), ([], []), ([], []), ([5], [5]), ([4, 6], [4, 6]), ([], []), ([7, 8], [7, 8]), ([3, 9], [3, 9]), ([10], [10]), ([11], [11]), ([1, 12], [1, 12]), ([0, 1, 2, 3, 4, 5, 6, 7, 8, 9, 10, 11, 12, 13], []), ([14, 13, 13, 0, 1, 2, 3, 4, 5, 6, 7, 8, 9, 10, 11, 12, 13], [13, 14])])
def spec_l6FlipX.B8 : List Nat := [0, 1, 0, 4, 0, 0, 32, 112, 0, 496, 1020, 2044, 4092, 8191, 16383, 32767]
theorem spec_l6FlipX.tab8 : rtab .any (opsOf Try.f74 8) = spec_l6FlipX.T8 := by kernel_rfl
theorem spec_l6FlipX.bits8 : waitsOk spec_l6FlipX.T8.2 spec_l6FlipX.B8 = true := by kernel_rfl
set_option maxHeartbeats 8000000 in
set_option maxRecDepth 100000 in
theorem spec_l6FlipX.calls (k : Nat) (a0_0 : Int) (a0_1 : Int) (A0_2 : Option Addr) (c0_2 : Nat) (l0_2 : List (S36)) (r1 : Int) (r2 : Int) (r3 : List (S36)) (w : World) (hr0_2 : Kd.C k36 w A0_2 l0_2.length l0_2) (hc0_2 : l0_2.length ≤ c0_2) (h : spec_l6FlipX.f k a0_0 a0_1 l0_2 = some (r1, r2, r3)) :
  Calls Try.prog 74 #[.agg #[.int .i64 a0_0, .int .i64 a0_1, .slice A0_2 l0_2.length c0_2]] w fun e w' => ∃ v2_ : Value, e = .returned (.agg #[.int .i64 r1, .int .i64 r2, v2_]) ∧ Kd.R k36 36 w' w.heap.size (fun _ => True) v2_ r3 ∧ Below w.heap.size w w' := by
 have hu25 := Try.underlying25
 have hu36 := Try.underlying36
 have HR0_2 := yaa hr0_2
 have HC0_2 := yaa hc0_2
 clear hr0_2 hc0_2
 have HB := yaa (Below.refl w.heap.size w)
 have H : (spec_l6FlipX.l0 k 0 a0_0 a0_1 l0_2 a0_0 a0_1 ([] : List (S36))) = some (r1, r2, r3) := h
 clear h
 have H' := yaa H
 clear H
 go_enter Try.func74, Try.ntmps74
 go_wp2_with (first | ((with_reducible refine gate_dst (N := 1) rfl ?_); refine box_event ?hg (N := 1) ?hd (cs := #[.int .i64 a0_0, .int .i64 a0_1, .slice A0_2 l0_2.length c0_2]) (t := 25) ?hr ?_; (case hd => rfl); (case hg => rfl); (case hr => first | (go_simp; done) | (go_simp; rfl)); intro a6 hg w2 hbox hb; have n0_ := yaa (below_step (by repeat (first | (with_reducible first | exact HB.out | apply yaf | apply yac | apply yad) | exact HB.out)) hb); have n1_ := yaa (hbox); have n2_ := yaa ((by rw [hg]; exact (below_size (by repeat (first | (with_reducible first | exact HB.out | apply yaf | apply yac | apply yad) | exact HB.out))) : w.heap.size ≤ a6)); have n3_ := yaa ((by rw [hg]; exact (below_size (by repeat (first | (with_reducible first | exact HB.out | apply yaf | apply yac | apply yad) | exact HB.out))) : w.heap.size ≤ a6)); clear HB; have HB := n0_; have a3 := n1_; have i6 := n2_; have i7 := n3_; clear n0_ n1_ n2_ n3_; clear hb hbox hg) | ((with_reducible refine gate_dst (N := 2) rfl ?_); refine box_event ?hg (N := 2) ?hd (cs := #[.int .i64 0, .int .i64 0, .slice none 0 0]) (t := 25) ?hr ?_; (case hd => rfl); (case hg => rfl); (case hr => first | (go_simp; done) | (go_simp; rfl)); intro b1 hg w3 hbox hb; have n0_ := yaa (blk_below (g := a6) (o := .cells #[.int .i64 a0_0, .int .i64 a0_1, .slice A0_2 l0_2.length c0_2] 25 (0, 0)) (upB a3.out) hb); have n1_ := yaa (below_step (by repeat (first | (with_reducible first | exact HB.out | apply yaf | apply yac | apply yad | refine below_set ?_ (Aside0.out ‹_›)) | exact HB.out)) hb); have n2_ := yaa (hbox); have n3_ := yaa ((by rw [hg]; exact (below_size (by repeat (first | (with_reducible first | exact HB.out | apply yaf | apply yac | apply yad | refine below_set ?_ (Aside0.out ‹_›)) | exact HB.out))) : w.heap.size ≤ b1)); have n4_ := yaa ((by rw [hg]; exact (below_size (by repeat (first | (with_reducible first | exact HB.out | apply yaf | apply yac | apply yad | refine below_set ?_ (Aside0.out ‹_›)) | exact HB.out))) : w.heap.size ≤ b1)); have n5_ := yaa ((by rw [hg]; exact Nat.ne_of_lt (blk_lt (g := a6) (o := .cells #[.int .i64 a0_0, .int .i64 a0_1, .slice A0_2 l0_2.length c0_2] 25 (0, 0)) (upB a3.out)) : a6 ≠ b1)); have n6_ := yaa ((by rw [hg]; exact Nat.ne_of_gt (blk_lt (g := a6) (o := .cells #[.int .i64 a0_0, .int .i64 a0_1, .slice A0_2 l0_2.length c0_2] 25 (0, 0)) (upB a3.out)) : b1 ≠ a6)); clear a3; clear HB; have a3 := n0_; have HB := n1_; have a7 := n2_; have i8 := n3_; have i9 := n4_; have c5 := n5_; have c6 := n6_; clear n0_ n1_ n2_ n3_ n4_ n5_ n6_; clear hb hbox hg; have k7 := c5.out; have k8 := c6.out; have d2 : w3.cell? ⟨a6, 0, none⟩ = some (.int .i64 a0_0) := (yab a3.out 0).trans rfl; have d3 : w3.cell? ⟨a6, 1, none⟩ = some (.int .i64 a0_1) := (yab a3.out 1).trans rfl; have d4 : w3.cell? ⟨a6, 2, none⟩ = some (.slice A0_2 l0_2.length c0_2) := (yab a3.out 2).trans rfl; have d5 := yae a3.out 0; have d6 := yae a3.out 1; have d7 := yae a3.out 2) | ((with_reducible refine gate_dst (N := 3) rfl ?_); refine box_event ?hg (N := 3) ?hd (cs := #[.int .i64 0, .int .i64 0, .slice none 0 0]) (t := 25) ?hr ?_; (case hd => rfl); (case hg => rfl); (case hr => first | (go_simp; done) | (go_simp; rfl)); intro a9 hg w6 hbox hb; have n0_ := yaa (blk_below (g := a6) (o := .cells #[.int .i64 a0_0, .int .i64 a0_1, .slice A0_2 l0_2.length c0_2] 25 (0, 0)) (upB a3.out) hb); have n1_ := yaa (blk_below (g := b1) (o := .cells #[.int .i64 0, .int .i64 0, .slice none 0 0] 25 (0, 0)) (upB a7.out) hb); have n2_ := yaa (below_step (by repeat (first | (with_reducible first | exact HB.out | apply yaf | apply yac | apply yad | refine below_set ?_ (Aside0.out ‹_›)) | exact HB.out)) hb); have n3_ := yaa (hbox); have n4_ := yaa ((by rw [hg]; exact (below_size (by repeat (first | (with_reducible first | exact HB.out | apply yaf | apply yac | apply yad | refine below_set ?_ (Aside0.out ‹_›)) | exact HB.out))) : w.heap.size ≤ a9)); have n5_ := yaa ((by rw [hg]; exact (below_size (by repeat (first | (with_reducible first | exact HB.out | apply yaf | apply yac | apply yad | refine below_set ?_ (Aside0.out ‹_›)) | exact HB.out))) : w.heap.size ≤ a9)); have n6_ := yaa ((by rw [hg]; exact Nat.ne_of_lt (blk_lt (g := a6) (o := .cells #[.int .i64 a0_0, .int .i64 a0_1, .slice A0_2 l0_2.length c0_2] 25 (0, 0)) (upB a3.out)) : a6 ≠ a9)); have n7_ := yaa ((by rw [hg]; exact Nat.ne_of_gt (blk_lt (g := a6) (o := .cells #[.int .i64 a0_0, .int .i64 a0_1, .slice A0_2 l0_2.length c0_2] 25 (0, 0)) (upB a3.out)) : a9 ≠ a6)); have n8_ := yaa ((by rw [hg]; exact Nat.ne_of_lt (blk_lt (g := b1) (o := .cells #[.int .i64 0, .int .i64 0, .slice none 0 0] 25 (0, 0)) (upB a7.out)) : b1 ≠ a9)); have n9_ := yaa ((by rw [hg]; exact Nat.ne_of_gt (blk_lt (g := b1) (o := .cells #[.int .i64 0, .int .i64 0, .slice none 0 0] 25 (0, 0)) (upB a7.out)) : a9 ≠ b1)); clear a3; clear a7; clear HB; have a3 := n0_; have a7 := n1_; have HB := n2_; have a4 := n3_; have j0 := n4_; have j1 := n5_; have b0 := n6_; have b8 := n7_; have b2 := n8_; have c9 := n9_; clear n0_ n1_ n2_ n3_ n4_ n5_ n6_ n7_ n8_ n9_; clear hb hbox hg; have k9 := b8.out; have l2 := b0.out; have l3 := c9.out; have l4 := b2.out; have d8 : w6.cell? ⟨a9, 0, none⟩ = some (.int .i64 0) := (yab a4.out 0).trans rfl; have d9 : w6.cell? ⟨a9, 1, none⟩ = some (.int .i64 0) := (yab a4.out 1).trans rfl; have e0 : w6.cell? ⟨a9, 2, none⟩ = some (.slice none 0 0) := (yab a4.out 2).trans rfl; have e1 := yae a4.out 0; have e2 := yae a4.out 1; have e3 := yae a4.out 2))
 (try simp only [Act.put, List.setIfInBounds_toArray, List.set_cons_zero, List.set_cons_succ])
 go_loopg [4] k (fun kq v4 w' => ∃ (d0 : Int) (b3 : List (S36)) (u104002 : Value), v4 = .int .i64 d0 ∧ Aside0 (spec_l6FlipX.l0 kq d0 a0_0 a0_1 l0_2 a0_0 a0_1 b3 = some (r1, r2, r3)) ∧ Aside0 (kq ≤ k) ∧ Aside0 (Kd.R k36 36 w' w.heap.size (fun _ => True) u104002 b3) ∧ Aside0 (w'.heap[a6]? = some (.cells #[.int .i64 a0_0, .int .i64 a0_1, (.slice A0_2 l0_2.length c0_2)] 25 (0, 0))) ∧ Aside0 (w'.heap[b1]? = some (.cells #[.int .i64 0, .int .i64 0, (.slice none 0 0)] 25 (0, 0))) ∧ Aside0 (w'.heap[a9]? = some (.cells #[.int .i64 a0_0, .int .i64 a0_1, u104002] 25 (0, 0))) ∧ Aside0 (Below w.heap.size w w'))
 case atStart => exact ⟨(0), (([] : List (S36))), (.slice none 0 0), (by first | rfl | (simp; done) | (simp [*]; done)), H', ⟨Nat.le_refl _⟩, ⟨by first | exact Kd.R_nil _ _ _ _ _ | exact Kd.N_nil _ _ _ _ _ | exact Kd.V_nil _ _ _ _ _ | exact Kd.Q_nil _ _ _ _ _ | exact Kd.S_nil _ _ _ _ _⟩, ⟨by (with_reducible repeat (first | refine blk_drewN ?_ _ | refine blk_drew ?_ | refine yag ?_ _)); refine blk_far ?_ b0.out _; (with_reducible repeat (first | refine blk_drewN ?_ _ | refine blk_drew ?_ | refine yag ?_ _)); refine blk_far ?_ b0.out _; (with_reducible repeat (first | refine blk_drewN ?_ _ | refine blk_drew ?_ | refine yag ?_ _)); refine blk_far ?_ b0.out _; exact upB a3.out⟩, ⟨by (with_reducible repeat (first | refine blk_drewN ?_ _ | refine blk_drew ?_ | refine yag ?_ _)); refine blk_far ?_ b2.out _; (with_reducible repeat (first | refine blk_drewN ?_ _ | refine blk_drew ?_ | refine yag ?_ _)); refine blk_far ?_ b2.out _; (with_reducible repeat (first | refine blk_drewN ?_ _ | refine blk_drew ?_ | refine yag ?_ _)); refine blk_far ?_ b2.out _; exact upB a7.out⟩, ⟨by (with_reducible repeat (first | refine blk_drewN ?_ _ | refine blk_drew ?_ | refine yag ?_ _)); refine blk_put (cs := #[.int .i64 a0_0, .int .i64 a0_1, .slice none 0 0]) ?_ 2 _ rfl; (with_reducible repeat (first | refine blk_drewN ?_ _ | refine blk_drew ?_ | refine yag ?_ _)); refine blk_put (cs := #[.int .i64 a0_0, .int .i64 0, .slice none 0 0]) ?_ 1 _ rfl; (with_reducible repeat (first | refine blk_drewN ?_ _ | refine blk_drew ?_ | refine yag ?_ _)); refine blk_put (cs := #[.int .i64 0, .int .i64 0, .slice none 0 0]) ?_ 0 _ rfl; exact upB a4.out⟩, ⟨by repeat (first | (with_reducible first | exact HB.out | apply yaf | apply yac | apply yad | refine below_set ?_ (Aside0.out ‹_›)) | exact HB.out)⟩⟩
 case round =>
  clear H'
  try clear p2
  try clear c4
  try clear c7
  try clear c8
  try clear d2
  try clear d3
  try clear d4
  try clear d8
  try clear d9
  try clear e0
  try clear d5
  try clear d6
  try clear d7
  try clear e1
  try clear e2
  try clear e3
  obtain ⟨d0, b3, u104002, rfl, HA, HK1, a5, a3, a7, a4, HB⟩ := hrel
  cases gk with
  | zero => exact absurd HA.out (by simp [spec_l6FlipX.l0])
  | succ k1 =>
   have H := HA.out
   clear HA
   simp only [spec_l6FlipX.l0] at H
   by_cases c10 : d0 < a0_1
   ·
    rw [if_pos c10] at H
    have f4 : decide (d0 < a0_1) = true := decide_eq_true c10
    clear c10
    have H' := yaa H
    clear H
    have j2 := c5.out
    have j3 := c6.out
    have j4 := b0.out
    have j5 := b8.out
    have e4 : wr.cell? ⟨a6, 0, none⟩ = some (.int .i64 a0_0) := (yab a3.out 0).trans rfl
    have e5 : wr.cell? ⟨a6, 1, none⟩ = some (.int .i64 a0_1) := (yab a3.out 1).trans rfl
    have e6 : wr.cell? ⟨a6, 2, none⟩ = some (.slice A0_2 l0_2.length c0_2) := (yab a3.out 2).trans rfl
    have e7 := yae a3.out 0
    have e8 := yae a3.out 1
    have e9 := yae a3.out 2
    go_wp2
    (try simp only [Act.put, List.setIfInBounds_toArray, List.set_cons_zero, List.set_cons_succ])
    go_loopg [5] k1 (fun kq v5 w' => ∃ (d1 : Int) (a8 : List (S36)) (u104002 : Value), v5 = .int .i64 d1 ∧ Aside0 (spec_l6FlipX.l1 kq d0 d1 a0_0 a0_1 l0_2 a0_0 a0_1 a8 = some (r1, r2, r3)) ∧ Aside0 (kq ≤ k1) ∧ Aside0 (Kd.R k36 36 w' w.heap.size (fun _ => True) u104002 a8) ∧ Aside0 (w'.heap[a6]? = some (.cells #[.int .i64 a0_0, .int .i64 a0_1, (.slice A0_2 l0_2.length c0_2)] 25 (0, 0))) ∧ Aside0 (w'.heap[b1]? = some (.cells #[.int .i64 0, .int .i64 0, (.slice none 0 0)] 25 (0, 0))) ∧ Aside0 (w'.heap[a9]? = some (.cells #[.int .i64 a0_0, .int .i64 a0_1, u104002] 25 (0, 0))) ∧ Aside0 (Below w.heap.size w w'))
    case atStart => exact ⟨(wrap64 (a0_0 - 1)), (b3), (u104002), (by first | rfl | (simp; done) | (simp [*]; done)), H', ⟨Nat.le_refl _⟩, ⟨by exact upR a5.out⟩, ⟨by exact upB a3.out⟩, ⟨by exact upB a7.out⟩, ⟨by exact upB a4.out⟩, ⟨by repeat (first | (with_reducible first | exact HB.out | apply yaf | apply yac | apply yad | refine below_set ?_ (Aside0.out ‹_›)) | exact HB.out)⟩⟩
    case round =>
     clear H'
     try clear c1
     try clear p2
     try clear c4
     try clear p6
     try clear c7
     try clear c8
     try clear c10
     try clear f4
     try clear c11
     try clear c12
     try clear e4
     try clear e5
     try clear e6
     try clear d2
     try clear d3
     try clear d4
     try clear d8
     try clear d9
     try clear e0
     try clear e7
     try clear e8
     try clear e9
     try clear d5
     try clear d6
     try clear d7
     try clear e1
     try clear e2
     try clear e3
     try clear p2
     obtain ⟨d1, a8, u104002, rfl, HA, HK2, a5, a3, a7, a4, HB⟩ := hrel
     cases gk with
     | zero => exact absurd HA.out (by simp [spec_l6FlipX.l1])
     | succ k2 =>
      have H := HA.out
      clear HA
      simp only [spec_l6FlipX.l1] at H
      by_cases c14 : d1 ≥ 0
      ·
       rw [if_pos c14] at H
       have f6 : decide (0 ≤ d1) = true := decide_eq_true c14
       clear c14
       obtain ⟨ji15, hji15⟩ : ∃ j_ : Int, (wrap64 ((wrap64 (d0 * a0_0)) + d1)) = j_ := ⟨_, rfl⟩
       replace H : (if 0 ≤ (ji15) then (if (ji15) < (l0_2.length : Int) then (if a8.length < 4398046511104 then (spec_l6FlipX.l1 k2 d0 (wrap64 (d1 - 1)) a0_0 a0_1 l0_2 a0_0 a0_1 (a8 ++ [(⟨(rd_T36 l0_2 (ji15)).f0, (rd_T36 l0_2 (ji15)).f1, (rd_T36 l0_2 (ji15)).f2, (rd_T36 l0_2 (ji15)).f3⟩ : S36)])) else (none)) else (none)) else (none)) = some (r1, r2, r3) := by first | (rw [hji15] at H; exact H) | (simp only [hji15] at H ⊢; exact H)
       have hji15w : (IntKind.i64.wrap ((wrap64 (d0 * a0_0)) + d1)) = ji15 := (i64_w _).trans hji15
       by_cases c16 : 0 ≤ (ji15)
       ·
        rw [if_pos c16] at H
        have j6 : decide (0 ≤ (ji15)) = true := decide_eq_true c16
        clear c16
        by_cases c17 : (ji15) < (l0_2.length : Int)
        ·
         rw [if_pos c17] at H
         have j7 : decide ((ji15) < (l0_2.length : Int)) = true := decide_eq_true c17
         clear c17
         by_cases c18 : a8.length < 4398046511104
         ·
          rw [if_pos c18] at H
          have LMc18 := yaa c18
          clear c18
          obtain ⟨y105, hy105⟩ : ∃ y_ : List (S36), y_ = (a8 ++ [(⟨(rd_T36 l0_2 (ji15)).f0, (rd_T36 l0_2 (ji15)).f1, (rd_T36 l0_2 (ji15)).f2, (rd_T36 l0_2 (ji15)).f3⟩ : S36)]) := ⟨_, rfl⟩
          replace H : (spec_l6FlipX.l1 k2 d0 (wrap64 (d1 - 1)) a0_0 a0_1 l0_2 a0_0 a0_1 y105) = some (r1, r2, r3) := by first | (rw [hy105]; with_reducible exact H) | (have H2_ := (Option.bind_some _ _).symm.trans H; rw [hy105]; with_reducible exact H2_) | (have H2_ := (Option.bind_some _ _).symm.trans H; with_reducible exact H2_) | with_reducible exact H | (rw [hy105]; exact H) | exact H
          have Ny105 := yaa hy105
          clear hy105
          have H' := yaa H
          clear H
          try go_wp2
          have n0_ := yaa (Kd.R_drew a5.out)
          have n1_ := yaa (blk_drew a3.out)
          have n2_ := yaa (blk_drew a7.out)
          have n3_ := yaa (blk_drew a4.out)
          have n4_ := yaa (yad HB.out)
          clear a5 a3 a7 a4 HB
          have a5 := n0_
          have a3 := n1_
          have a7 := n2_
          have a4 := n3_
          have HB := n4_
          clear n0_ n1_ n2_ n3_ n4_
          have p104 : 0 ≤ ((ji15) : Int) := of_decide_eq_true (by first | (with_reducible assumption) | assumption)
          have q104 : (ji15) < (l0_2.length : Int) := of_decide_eq_true (by first | (with_reducible assumption) | assumption)
          obtain ⟨ad104, i4, b9, c0, c2, c3⟩ := at_T36 HR0_2.out (ji15) p104 q104
          have b4 := c3
          have b5 := c2
          have b6 := c0
          have b7 := b9
          cases i4
          replace b9 := (HB.out.cell (World.block_lt_of_cell? w _ b9)).trans b9
          replace c0 := (HB.out.cell (World.block_lt_of_cell? w _ c0)).trans c0
          replace c2 := (HB.out.cell (World.block_lt_of_cell? w _ c2)).trans c2
          replace c3 := (HB.out.cell (World.block_lt_of_cell? w _ c3)).trans c3
          replace p104 := eq_true p104
          replace q104 := eq_true q104
          refine start_ (n := 16) (S := fun w' => w'.cell? ⟨a9, 0, none⟩ = some (.int .i64 a0_0) ∧ w'.cell? ⟨a9, 1, none⟩ = some (.int .i64 a0_1) ∧ w'.cell? ⟨a9, 2, none⟩ = some (u104002) ∧ w'.cell? ⟨a6, 0, none⟩ = some (.int .i64 a0_0) ∧ w'.cell? ⟨a6, 1, none⟩ = some (.int .i64 a0_1) ∧ w'.cell? ⟨a6, 2, none⟩ = some (.slice (some ad104) l0_2.length c0_2) ∧ w'.cell? (ad104.add (((ji15)).toNat * 4)) = some (.int .i64 ((rd_T36 l0_2 (ji15)).f0)) ∧ w'.cell? ⟨(ad104.add (((ji15)).toNat * 4)).block, (ad104.add (((ji15)).toNat * 4)).off + 1, none⟩ = some (.int .i64 ((rd_T36 l0_2 (ji15)).f1)) ∧ w'.cell? ⟨(ad104.add (((ji15)).toNat * 4)).block, (ad104.add (((ji15)).toNat * 4)).off + 2, none⟩ = some (.int .i64 ((rd_T36 l0_2 (ji15)).f2)) ∧ w'.cell? ⟨(ad104.add (((ji15)).toNat * 4)).block, (ad104.add (((ji15)).toNat * 4)).off + 3, none⟩ = some (.int .i64 ((rd_T36 l0_2 (ji15)).f3))) (ds := [15]) q74_0 (by kernel_rfl) rfl rfl ⟨(yab a4.out 0).trans rfl, (yab a4.out 1).trans rfl, (yab a4.out 2).trans rfl, (yab a3.out 0).trans rfl, (yab a3.out 1).trans rfl, (yab a3.out 2).trans rfl, ((HB.out.cell (World.block_lt_of_cell? w _ b7)).trans b7), ((HB.out.cell (World.block_lt_of_cell? w _ b6)).trans b6), ((HB.out.cell (World.block_lt_of_cell? w _ b5)).trans b5), ((HB.out.cell (World.block_lt_of_cell? w _ b4)).trans b4)⟩ (fun hHeld => ?_); refine with_tabW spec_l6FlipX.tab8 spec_l6FlipX.bits8 (fun HT_ HW_ => ?_)
          generalize wr.drew = w19 at a5 a3 a7 a4 HB b9 c0 c2 c3 hHeld ⊢
          refine pz_ 0 24 q74_1 HT_ (by kernel_rfl) ?_
          refine pz_ 2 26 q74_2 HT_ (by kernel_rfl) ?_
          refine pz_ 4 28 q74_3 HT_ (by kernel_rfl) ?_
          refine pz_ 5 29 q74_4 HT_ (by kernel_rfl) ?_
          refine pz_ 8 32 q74_5 HT_ (by kernel_rfl) ?_
          refine tz_ 1 25 q74_6 HT_ HW_ (by kernel_rfl) hHeld ?_
          refine tz_ 3 27 q74_7 HT_ HW_ (by kernel_rfl) hHeld ?_
          refine tz_ 6 30 q74_8 HT_ HW_ (by kernel_rfl) hHeld ?_
          refine pz_ 7 31 q74_9 HT_ (by kernel_rfl) ?_
          refine pz_ 9 33 q74_10 HT_ (by kernel_rfl) ?_
          refine pz_ 10 34 q74_11 HT_ (by kernel_rfl) ?_
          refine tz_ 11 35 q74_12 HT_ HW_ (by kernel_rfl) hHeld ?_
          refine one_ (i := 12) (N := some 36) q74_13 rfl rfl (one_of HT_.out (by kernel_rfl)) (by decide) (fun K hK => ?_)
          refine value_ (w1 := ?_) (v := ?_) (by rfl) rfl ?_ ?_
          rotate_left 2
          ·
           go_simp
           constructor
           ·
            rfl
           ·
            rfl
          refine hK.out _ _ ⟨(yab (yag a4.out _) 0).trans rfl, (yab (yag a4.out _) 1).trans rfl, (yab (yag a4.out _) 2).trans rfl, (yab (yag a3.out _) 0).trans rfl, (yab (yag a3.out _) 1).trans rfl, (yab (yag a3.out _) 2).trans rfl, (World.cell?_alloc_lt _ _ _ (World.block_lt_of_cell? _ _ (((HB.out.cell (World.block_lt_of_cell? w _ b7)).trans b7)))).trans (((HB.out.cell (World.block_lt_of_cell? w _ b7)).trans b7)), (World.cell?_alloc_lt _ _ _ (World.block_lt_of_cell? _ _ (((HB.out.cell (World.block_lt_of_cell? w _ b6)).trans b6)))).trans (((HB.out.cell (World.block_lt_of_cell? w _ b6)).trans b6)), (World.cell?_alloc_lt _ _ _ (World.block_lt_of_cell? _ _ (((HB.out.cell (World.block_lt_of_cell? w _ b5)).trans b5)))).trans (((HB.out.cell (World.block_lt_of_cell? w _ b5)).trans b5)), (World.cell?_alloc_lt _ _ _ (World.block_lt_of_cell? _ _ (((HB.out.cell (World.block_lt_of_cell? w _ b4)).trans b4)))).trans (((HB.out.cell (World.block_lt_of_cell? w _ b4)).trans b4))⟩ (fun hHeld => ?_)
          clear hK K
          refine norm_ (a' := ?_) ?_ ?_
          rotate_left
          ·
           show Act.put _ (some 36) _ = _
           simp only [Act.put, List.setIfInBounds_toArray, List.set_cons_zero, List.set_cons_succ, i64_w, i32_w]
           rfl
          refine one_ (i := 13) (N := some 37) q74_14 rfl rfl (one_of HT_.out (by kernel_rfl)) (by decide) (fun K hK => ?_)
          refine Kd.R_append_step k36 (w0 := w) w.heap.size (by rfl) (.tmp 25) (.tmp 36) 23 36 (.agg #[(.int .i64 0), (.int .i64 0), (.int .i64 0), (.int .i64 0)]) 32 rfl Try.underlying23 info36 rfl (by decide) (by omega) u104002 a8 (⟨(rd_T36 l0_2 (ji15)).f0, (rd_T36 l0_2 (ji15)).f1, (rd_T36 l0_2 (ji15)).f2, (rd_T36 l0_2 (ji15)).f3⟩ : S36) [.int .i64 ((rd_T36 l0_2 (ji15)).f0), .int .i64 ((rd_T36 l0_2 (ji15)).f1), .int .i64 ((rd_T36 l0_2 (ji15)).f2), .int .i64 ((rd_T36 l0_2 (ji15)).f3)] (fun _ => True) (fun _ => False) rfl rfl ?aP (fun _ hk => hk.elim) ?aF ?aO ?aB ?aS ?aL ?_
          (case aP => exact k36_mkM _ _ _ (⟨(rd_T36 l0_2 (ji15)).f0, (rd_T36 l0_2 (ji15)).f1, (rd_T36 l0_2 (ji15)).f2, (rd_T36 l0_2 (ji15)).f3⟩ : S36))
          (case aB => exact (by repeat (first | (with_reducible first | exact HB.out | apply yaf | apply yac | apply yad | refine below_set ?_ (Aside0.out ‹_›)) | exact HB.out)))
          (case aF => exact (fun _ _ => trivial))
          (case aO => exact (upR a5.out))
          (case aS => exact (below_size (by repeat (first | (with_reducible first | exact HB.out | apply yaf | apply yac | apply yad | refine below_set ?_ (Aside0.out ‹_›)) | exact HB.out))))
          (case aL => have := LMc18.out; omega)
          intro l5 w20 ho hb hg hat
          rw [← Ny105.out] at ho
          have n0_ := yaa (blk_grown (g := a6) (o := .cells #[.int .i64 a0_0, .int .i64 a0_1, .slice (some ad104) l0_2.length c0_2] 25 (0, 0)) (upB a3.out) hg (Kd.R_ne a5.out a3.out (by decide)))
          have n1_ := yaa (blk_grown (g := b1) (o := .cells #[.int .i64 0, .int .i64 0, .slice none 0 0] 25 (0, 0)) (upB a7.out) hg (Kd.R_ne a5.out a7.out (by decide)))
          have n2_ := yaa (blk_grown (g := a9) (o := .cells #[.int .i64 a0_0, .int .i64 a0_1, u104002] 25 (0, 0)) (upB a4.out) hg (Kd.R_ne a5.out a4.out (by decide)))
          have n3_ := yaa (hb)
          have n4_ := yaa (ho)
          clear a3 a7 a4 HB a5
          have a3 := n0_
          have a7 := n1_
          have a4 := n2_
          have HB := n3_
          have f5 := n4_
          clear n0_ n1_ n2_ n3_ n4_ ho hb hg hat
          obtain ⟨f7, f8, f9⟩ := Kd.R_slice f5.out
          (first | subst f9 | (injection f9 with f1_ f2_ f3_; have f4_ := f1_.symm; have f5_ := f3_.symm; clear f1_ f2_ f3_; subst f4_; subst f5_))
          refine hK.out _ _ ⟨(yab a4.out 0).trans rfl, (yab a4.out 1).trans rfl, (yab a4.out 2).trans rfl, (yab a3.out 0).trans rfl, (yab a3.out 1).trans rfl, (yab a3.out 2).trans rfl, ((HB.out.cell (World.block_lt_of_cell? w _ b7)).trans b7), ((HB.out.cell (World.block_lt_of_cell? w _ b6)).trans b6), ((HB.out.cell (World.block_lt_of_cell? w _ b5)).trans b5), ((HB.out.cell (World.block_lt_of_cell? w _ b4)).trans b4)⟩ (fun hHeld => ?_)
          clear hK K
          refine norm_ (a' := ?_) ?_ ?_
          rotate_left
          ·
           show Act.put _ (some 37) _ = _
           simp only [Act.put, List.setIfInBounds_toArray, List.set_cons_zero, List.set_cons_succ, i64_w, i32_w]
           rfl
          refine pz_ 14 38 q74_15 HT_ (by kernel_rfl) ?_
          refine last_ (i := 15) (N := none) q74_16 rfl rfl (one_of HT_.out (by kernel_rfl)) (by decide) (fun K hK => ?_)
          have l6 : w20.cell? ⟨a9, 2, none⟩ = some (u104002) := (yab a4.out 2).trans rfl
          have j8 := yae a4.out 2
          have g2 := b0.out
          have g3 := b2.out
          have g4 := b8.out
          have g5 := c9.out
          refine skip_ (w1 := ?_) (by rfl) rfl ?_ ?_
          rotate_left
          ·
           go_simp
           rfl
          refine hK.out _ _ ?_
          clear hK K
          refine done_ (done_of HT_.out (by kernel_rfl)) ?_
          try go_wp2
          go_roundg k2
          case measure => have := HK1.out; have := HK2.out; omega
          case rel => exact ⟨(wrap64 (d1 - 1)), (y105), (.slice f7 y105.length f8), (by first | rfl | (simp; done) | (simp [*]; done)), H', ⟨by have := HK1.out; have := HK2.out; omega⟩, ⟨by (with_reducible repeat (first | apply Kd.R_alloc | apply Kd.R_drewN | apply Kd.R_drew)); exact Kd.R_mono (Kd.R_far (p := ⟨a9, 2, none⟩) (Kd.R_types f5.out a4.out (by decide)) (fun _ hk => hk.2) (.slice f7 y105.length f8)) (fun _ hk => trivial)⟩, ⟨by (with_reducible repeat (first | refine blk_drewN ?_ _ | refine blk_drew ?_ | refine yag ?_ _)); refine blk_far ?_ b0.out _; exact upB a3.out⟩, ⟨by (with_reducible repeat (first | refine blk_drewN ?_ _ | refine blk_drew ?_ | refine yag ?_ _)); refine blk_far ?_ b2.out _; exact upB a7.out⟩, ⟨by (with_reducible repeat (first | refine blk_drewN ?_ _ | refine blk_drew ?_ | refine yag ?_ _)); refine blk_put (cs := #[.int .i64 a0_0, .int .i64 a0_1, u104002]) ?_ 2 _ rfl; exact upB a4.out⟩, ⟨by repeat (first | (with_reducible first | exact HB.out | apply yaf | apply yac | apply yad | refine below_set ?_ (Aside0.out ‹_›)) | exact HB.out)⟩⟩
         ·
          rw [if_neg c18] at H
          exact absurd H (by simp)
        ·
         rw [if_neg c17] at H
         exact absurd H (by simp)
       ·
        rw [if_neg c16] at H
        exact absurd H (by simp)
      ·
       rw [if_neg c14] at H
       have f6 : decide (0 ≤ d1) = false := decide_eq_false c14
       clear c14
       have H' := yaa H
       clear H
       go_wp2
       go_roundg k2
       case measure => have := HK1.out; have := HK2.out; omega
       case rel => exact ⟨(wrap64 (d0 + 1)), (a8), (u104002), (by first | rfl | (simp; done) | (simp [*]; done)), H', ⟨by have := HK1.out; have := HK2.out; omega⟩, ⟨by exact upR a5.out⟩, ⟨by exact upB a3.out⟩, ⟨by exact upB a7.out⟩, ⟨by exact upB a4.out⟩, ⟨by repeat (first | (with_reducible first | exact HB.out | apply yaf | apply yac | apply yad | refine below_set ?_ (Aside0.out ‹_›)) | exact HB.out)⟩⟩
   ·
    rw [if_neg c10] at H
    have f4 : decide (d0 < a0_1) = false := decide_eq_false c10
    clear c10
    simp only [Option.some.injEq, Prod.mk.injEq] at H
    obtain ⟨rfl, rfl, rfl⟩ := H
    have j9 := c5.out
    have k0 := c6.out
    have k3 := b0.out
    have k4 := b8.out
    have g6 : wr.cell? ⟨a6, 0, none⟩ = some (.int .i64 a0_0) := (yab a3.out 0).trans rfl
    have g7 : wr.cell? ⟨a6, 1, none⟩ = some (.int .i64 a0_1) := (yab a3.out 1).trans rfl
    have g8 : wr.cell? ⟨a6, 2, none⟩ = some (.slice A0_2 l0_2.length c0_2) := (yab a3.out 2).trans rfl
    have g9 := yae a3.out 0
    have h0 := yae a3.out 1
    have h1 := yae a3.out 2
    have k5 := c9.out
    have k6 := b2.out
    have h2 : wr.cell? ⟨a9, 0, none⟩ = some (.int .i64 a0_0) := (yab a4.out 0).trans rfl
    have h3 : wr.cell? ⟨a9, 1, none⟩ = some (.int .i64 a0_1) := (yab a4.out 1).trans rfl
    have h4 : wr.cell? ⟨a9, 2, none⟩ = some (u104002) := (yab a4.out 2).trans rfl
    have h5 := yae a4.out 0
    have h6 := yae a4.out 1
    have h7 := yae a4.out 2
    have h8 : wr.cell? ⟨b1, 0, none⟩ = some (.int .i64 0) := (yab a7.out 0).trans rfl
    have h9 : wr.cell? ⟨b1, 1, none⟩ = some (.int .i64 0) := (yab a7.out 1).trans rfl
    have i0 : wr.cell? ⟨b1, 2, none⟩ = some (.slice none 0 0) := (yab a7.out 2).trans rfl
    have i1 := yae a7.out 0
    have i2 := yae a7.out 1
    have i3 := yae a7.out 2
    obtain ⟨g0, g1, i5⟩ := Kd.R_slice a5.out
    subst i5
    go_wp2
    refine bodyPost_ret (results_cell_row rfl _ _ b1 25 #[.int .i64 a0_0, .int .i64 a0_1, .slice g0 b3.length g1] (0, 0) _ rfl (by (with_reducible repeat (first | refine blk_drewN ?_ _ | refine blk_drew ?_ | refine yag ?_ _)); refine blk_put (cs := #[.int .i64 a0_0, .int .i64 a0_1, .slice none 0 0]) ?_ 2 _ rfl; (with_reducible repeat (first | refine blk_drewN ?_ _ | refine blk_drew ?_ | refine yag ?_ _)); refine blk_put (cs := #[.int .i64 a0_0, .int .i64 0, .slice none 0 0]) ?_ 1 _ rfl; (with_reducible repeat (first | refine blk_drewN ?_ _ | refine blk_drew ?_ | refine yag ?_ _)); refine blk_put (cs := #[.int .i64 0, .int .i64 0, .slice none 0 0]) ?_ 0 _ rfl; exact upB a7.out) Try.underlying25 rfl (by kernel_rfl)) rfl ?_
    exact ⟨_, by first | rfl | (simp [errW_none, errW_some] <;> rfl) | (simp [*, errW_none, errW_some] <;> rfl), by (with_reducible repeat (first | apply Kd.R_alloc | apply Kd.R_drewN | apply Kd.R_drew)); exact Kd.R_mono (Kd.R_far (p := ⟨b1, 2, none⟩) (Kd.R_far (p := ⟨b1, 1, none⟩) (Kd.R_far (p := ⟨b1, 0, none⟩) (Kd.R_types a5.out a7.out (by decide)) (fun _ hk => hk.2) (.int .i64 a0_0)) (fun _ hk => hk.2) (.int .i64 a0_1)) (fun _ hk => hk.2) (.slice g0 b3.length g1)) (fun _ hk => trivial), by repeat (first | (with_reducible first | exact HB.out | apply yaf | apply yac | apply yad | refine below_set ?_ (Aside0.out ‹_›)) | exact HB.out)⟩

end Go.Proofs.Ytoifpgkfpdeglaa.X
