/- Lemmas and contracts for the law FnUrlWords, part 6: of the program's functions, and over data alone. Conditions: the listed package-level variables begin as the program's text lays them (tied by the card). -/
import Derived.Test.YtmplnpjdbfedbaaGreatDoorMFnUrlWords2
import Derived.Test.YtmplnpjdbfedbaaGreatDoorMFnUrlWords5
import Derived.WalkKit
import Derived.LaidEql
import Derived.Stop.Asserts
import Derived.RowKitTokens
import Derived.Laws.Externs
import Derived.Test.YtmplnpjdbfedbaaGreatDoorMFnUrlWords4
import Derived.Test.YtmplnpjdbfedbaaGreatDoorMFnUrlWords1
import Derived.Test.YtmplnpjdbfedbaaGreatDoorMFnUrlWords3
import Derived.Lib.Bytes
import Derived.Laws.BitsAllLaws
import Derived.Lib.IndexBytes
namespace Go.Proofs.YtmplnpjdbfedbaaGreatDoor.X
open Go.RowKit Go.Proofs.YtmplnpjdbfedbaaGreatDoorW.PrintWords Go.Proofs.YtmplnpjdbfedbaaGreatDoorW.PrintLast Go.Proofs.YtmplnpjdbfedbaaGreatDoorW.PrintMore
attribute [local go_sem] max2_int min2_int max_two min_two max_three min_three max_four min_four
set_option linter.unusedVariables false
set_option linter.unusedSimpArgs false
abbrev AskR := List (S65) × ByteArray × Int × Bool
def zA : AskR := ([], ⟨#[]⟩, 0, false)
def askEnd (k : Nat) (s : ByteArray) (l : List (S65)) (path : ByteArray) (n : Int) : Option AskR := (impl_AskOk.f k l path n).bind fun t => if t = true then (impl_AskText.f k l path n).bind fun x => if x.toList = s.toList then some (l, path, n, true) else some zA else some zA
def askMid (k : Nat) (s ops r1 : ByteArray) (f1 : Bool) : Option AskR := (if ops.toList = [45] then some ([], f1) else scanG k (partsB ops ⟨#[44]⟩) f1).bind fun x => (impl_numberRead.f k (cutF r1 ⟨#[63, 101, 61]⟩).2.1).bind fun y => if ((x.2 || !(cutF r1 ⟨#[63, 101, 61]⟩).2.2) || !y.2) = true then some zA else askEnd k s x.1 (cutF r1 ⟨#[63, 101, 61]⟩).1 y.1
def impl_AskRead.f (k : Nat) (a0 : ByteArray) : Option (List (S65) × ByteArray × Int × Bool) := if 200 < a0.size then some zA else
 if (wordF a0 ⟨#[47]⟩).1.size ≤ 1048576 ∧ (cutF (wordF a0 ⟨#[47]⟩).1 ⟨#[47]⟩).1.size ≤ 1048576 ∧ (cutF (wordF a0 ⟨#[47]⟩).1 ⟨#[47]⟩).2.1.size ≤ 1048576 ∧ (cutF (cutF (wordF a0 ⟨#[47]⟩).1 ⟨#[47]⟩).2.1 ⟨#[63, 101, 61]⟩).1.size ≤ 1048576 then askMid k a0 (cutF (wordF a0 ⟨#[47]⟩).1 ⟨#[47]⟩).1 (cutF (wordF a0 ⟨#[47]⟩).1 ⟨#[47]⟩).2.1 ((false || !(wordF a0 ⟨#[47]⟩).2) || !(cutF (wordF a0 ⟨#[47]⟩).1 ⟨#[47]⟩).2.2) else none
section
variable {w w0 : World} {g b B : Nat} {t : TypeId} {a0 a1 a2 c0 c1 c2 : Value} {cs : Array Value}
theorem blk3 (h : w.heap[g]? = some (.cells #[a0, a1, a2] t (0, 0))) : (((w.setCell ⟨g, 0, none⟩ c0).setCell ⟨g, 1, none⟩ c1).setCell ⟨g, 2, none⟩ c2).heap[g]? = some (.cells #[c0, c1, c2] t (0, 0)) :=
 blk_set (blk_set (blk_set h 0 _) 1 _) 2 _
theorem below3 (h : Below B w0 w) (hb : B ≤ b) : Below B w0 (((w.setCell ⟨b, 0, none⟩ c0).setCell ⟨b, 1, none⟩ c1).setCell ⟨b, 2, none⟩ c2) :=
 ((h.setCell (p := ⟨b, 0, none⟩) hb _).setCell (p := ⟨b, 1, none⟩) hb _).setCell (p := ⟨b, 2, none⟩) hb _
end
theorem tup4 {a a' : List (S65)} {b b' : ByteArray} {c c' : Int} {d d' : Bool} (h : some (a, b, c, d) = some (a', b', c', d')) : a = a' ∧ b = b' ∧ c = c' ∧ d = d' := by
 have := Option.some.inj h
 simp only [Prod.mk.injEq] at this
 exact this
structure AskW (w W : World) (b2 b4 b6 : Nat) (rest : ByteArray) (fl : Bool) (v : Value) (path : ByteArray) (n : Int) : Prop where
 h2 : W.heap[b2]? = some (.cells #[.slice none 0 0, .string ⟨#[]⟩, .int .i64 0] 25 (0, 0))
 h4 : W.heap[b4]? = some (.cells #[.string rest, .bool fl] 60 (0, 0))
 h6 : W.heap[b6]? = some (.cells #[v, .string path, .int .i64 n] 25 (0, 0))
 l2 : w.heap.size ≤ b2
 l4 : b2 < b4
 l6 : b4 < b6
 bel : Below w.heap.size w W
section
variable {w W W' : World} {b2 b4 b6 : Nat} {rest : ByteArray} {fl : Bool} {v : Value} {path : ByteArray} {n : Int}
theorem AskW.below (h : AskW w W b2 b4 b6 rest fl v path n) (hb : Below W.heap.size W W') : AskW w W' b2 b4 b6 rest fl v path n := ⟨blk_below h.h2 hb, blk_below h.h4 hb, blk_below h.h6 hb, h.l2, h.l4, h.l6, below_step h.bel hb⟩
theorem AskW.set4 (h : AskW w W b2 b4 b6 rest fl v path n) (r' : ByteArray) (f' : Bool) : AskW w ((W.setCell ⟨b4, 0, none⟩ (.string r')).setCell ⟨b4, 1, none⟩ (.bool f')) b2 b4 b6 r' f' v path n := by
 have h1 := h.l2; have h3 := h.l4; have h5 := h.l6
 exact ⟨blk_far (p := ⟨b4, 1, none⟩) (blk_far (p := ⟨b4, 0, none⟩) h.h2 (by show b2 ≠ b4; omega) _) (by show b2 ≠ b4; omega) _, blk_set (blk_set h.h4 0 _) 1 _, blk_far (p := ⟨b4, 1, none⟩) (blk_far (p := ⟨b4, 0, none⟩) h.h6 (by show b6 ≠ b4; omega) _) (by show b6 ≠ b4; omega) _, h.l2, h.l4, h.l6, (h.bel.setCell (p := ⟨b4, 0, none⟩) (by show w.heap.size ≤ b4; omega) _).setCell (p := ⟨b4, 1, none⟩) (by show w.heap.size ≤ b4; omega) _⟩
theorem AskW.flag (h : AskW w W b2 b4 b6 rest fl v path n) (f' : Bool) : AskW w (W.setCell ⟨b4, 1, none⟩ (.bool f')) b2 b4 b6 rest f' v path n := by
 have h1 := h.l2; have h3 := h.l4; have h5 := h.l6
 exact ⟨blk_far (p := ⟨b4, 1, none⟩) h.h2 (by show b2 ≠ b4; omega) _, blk_set h.h4 1 _, blk_far (p := ⟨b4, 1, none⟩) h.h6 (by show b6 ≠ b4; omega) _, h.l2, h.l4, h.l6, h.bel.setCell (p := ⟨b4, 1, none⟩) (by show w.heap.size ≤ b4; omega) _⟩
theorem AskW.set6 (h : AskW w W b2 b4 b6 rest fl v path n) (v' : Value) : AskW w (W.setCell ⟨b6, 0, none⟩ v') b2 b4 b6 rest fl v' path n := by
 have h1 := h.l2; have h3 := h.l4; have h5 := h.l6
 exact ⟨blk_far (p := ⟨b6, 0, none⟩) h.h2 (by show b2 ≠ b6; omega) _, blk_far (p := ⟨b6, 0, none⟩) h.h4 (by show b4 ≠ b6; omega) _, blk_set h.h6 0 _, h.l2, h.l4, h.l6, h.bel.setCell (p := ⟨b6, 0, none⟩) (by show w.heap.size ≤ b6; omega) _⟩
theorem AskW.setP (h : AskW w W b2 b4 b6 rest fl v path n) (p' : ByteArray) : AskW w (W.setCell ⟨b6, 1, none⟩ (.string p')) b2 b4 b6 rest fl v p' n := by
 have h1 := h.l2; have h3 := h.l4; have h5 := h.l6
 exact ⟨blk_far (p := ⟨b6, 1, none⟩) h.h2 (by show b2 ≠ b6; omega) _, blk_far (p := ⟨b6, 1, none⟩) h.h4 (by show b4 ≠ b6; omega) _, blk_set h.h6 1 _, h.l2, h.l4, h.l6, h.bel.setCell (p := ⟨b6, 1, none⟩) (by show w.heap.size ≤ b6; omega) _⟩
theorem AskW.setN (h : AskW w W b2 b4 b6 rest fl v path n) (n' : Int) : AskW w (W.setCell ⟨b6, 2, none⟩ (.int .i64 n')) b2 b4 b6 rest fl v path n' := by
 have h1 := h.l2; have h3 := h.l4; have h5 := h.l6
 exact ⟨blk_far (p := ⟨b6, 2, none⟩) h.h2 (by show b2 ≠ b6; omega) _, blk_far (p := ⟨b6, 2, none⟩) h.h4 (by show b4 ≠ b6; omega) _, blk_set h.h6 2 _, h.l2, h.l4, h.l6, h.bel.setCell (p := ⟨b6, 2, none⟩) (by show w.heap.size ≤ b6; omega) _⟩
end
set_option maxHeartbeats 8000000 in
set_option maxRecDepth 100000 in
theorem impl_AskRead.calls (k : Nat) (a0 : ByteArray) (r1 : List (S65)) (r2 : ByteArray) (r3 : Int) (r4 : Bool) (w : World) (h : impl_AskRead.f k a0 = some (r1, r2, r3, r4)) (hG : Glob w) :
  Calls Tryz.prog 13 #[.string a0] w fun e w' => ∃ v0_ : Value, e = .returned (.tuple #[.agg #[v0_, .string r2, .int .i64 r3], .bool r4]) ∧ Kd.R k65 65 w' w.heap.size (fun _ => True) v0_ r1 ∧ Below w.heap.size w w' := by
 have HG := Aside0.mk hG; clear hG; have hu := Tryz.underlying25; have hz : ∀ w : World, (zeroValue 25).run Tryz.prog w = .ok (.agg #[.slice none 0 0, .string ⟨#[]⟩, .int .i64 0]) w := fun w => (by kernel_rfl); have hzt : ∀ w : World, (zeroValue 60).run Tryz.prog w = .ok (.agg #[.string ⟨#[]⟩, .bool false]) w := fun w => (by kernel_rfl)
 unfold impl_AskRead.f at h
 by_cases h200 : 200 < a0.size
 · rw [if_pos h200] at h
   obtain ⟨rfl, rfl, rfl, rfl⟩ := tup4 h; have g2 : (200 : Int) < (a0.size : Int) := (by omega); clear h h200
   go_enter Tryz.func13, Tryz.ntmps13
   go_wp2_with ((with_reducible refine gd_ 2 rfl ?_); refine bx_ 2 rfl #[.slice none 0 0, .string ⟨#[]⟩, .int .i64 0] 25 ?_; intro b2 hg w1 hbox hb; have HX2 := Aside0.mk hbox; have HB2 := Aside0.mk hb; have HG2 := Aside0.mk (show w.heap.size ≤ b2 by rw [hg]; exact Nat.le_refl _); obtain ⟨x0, x1, x2⟩ := cc3_ hbox; obtain ⟨f0, f1_, f2_⟩ := cf3_ hbox; clear hb hbox hg)
   refine bodyPost_ret (results_ct rfl _ _ b2 25 #[.slice none 0 0, .string ⟨#[]⟩, .int .i64 0] (0, 0) _ rfl (blk3 HX2.out) Tryz.underlying25 rfl (by kernel_rfl)) rfl ⟨_, rfl, Kd.R_nil _ _ _ _ _, below3 HB2.out HG2.out⟩
 · rw [if_neg h200] at h
   have g2 : ¬ ((200 : Int) < (a0.size : Int)) := (by omega)
   split at h
   case isFalse => cases h
   rename_i hs
   obtain ⟨⟨r0, ok0⟩, hw0⟩ : ∃ x, wordF a0 ⟨#[47]⟩ = x := ⟨_, rfl⟩
   rw [hw0] at h hs
   dsimp only at h hs
   obtain ⟨⟨ops, q1, ok1⟩, hc1⟩ : ∃ x, cutF r0 ⟨#[47]⟩ = x := ⟨_, rfl⟩
   rw [hc1] at h hs
   dsimp only at h hs
   obtain ⟨⟨path, q2, ok2⟩, hc2⟩ : ∃ x, cutF q1 ⟨#[63, 101, 61]⟩ = x := ⟨_, rfl⟩
   unfold askMid at h
   rw [hc2] at h hs
   dsimp only at h hs
   obtain ⟨f1, hf1⟩ : ∃ f, ((false || !ok0) || !ok1) = f := ⟨_, rfl⟩
   rw [hf1] at h
   obtain ⟨⟨l, f2⟩, hl, hB⟩ := Option.bind_eq_some_iff.1 h; clear h
   dsimp only at hB
   obtain ⟨⟨n, okn⟩, hn, h⟩ := Option.bind_eq_some_iff.1 hB; clear hB
   dsimp only at h
   have HW0 := Aside0.mk hw0; have HC1 := Aside0.mk hc1; have HC2 := Aside0.mk hc2; have HF1 := Aside0.mk hf1; have HL_ := Aside0.mk hl; have HN := Aside0.mk hn; have S0 := Aside0.mk hs.1; have S1 := Aside0.mk hs.2.1; have S2 := Aside0.mk hs.2.2.1; have S3 := Aside0.mk hs.2.2.2; clear hw0 hc1 hc2 hf1 hl hn hs h200
   go_enter Tryz.func13, Tryz.ntmps13
   go_upto_region 4 with (first | ((with_reducible refine gd_ 2 rfl ?_); refine bx_ 2 rfl #[.slice none 0 0, .string ⟨#[]⟩, .int .i64 0] 25 ?_; intro b2 hg w1 hbox hb; have HX2 := Aside0.mk hbox; have HB2 := Aside0.mk hb; have HG2 := Aside0.mk (show w.heap.size ≤ b2 by rw [hg]; exact Nat.le_refl _); obtain ⟨x0, x1, x2⟩ := cc3_ hbox; obtain ⟨f0, f1_, f2_⟩ := cf3_ hbox; clear hb hbox hg) | ((with_reducible refine gd_ 4 rfl ?_); refine bx_ 4 rfl #[.string ⟨#[]⟩, .bool false] 60 ?_; intro b4 hg w3 hbox hb; have HX3 := Aside0.mk (blk_below HX2.out hb); have HT3 := Aside0.mk hbox; have HB3 := Aside0.mk (below_step HB2.out hb); have H24 := Aside0.mk (show b2 < b4 by rw [hg]; exact blk_lt HX2.out); obtain ⟨y0, y1⟩ := cells2_at hbox; have z0 := blk_frozen hbox 0; have z1 := blk_frozen hbox 1; clear hb hbox hg))
   generalize hw4 : (w3.setCell ⟨b4, 0, none⟩ (.string a0)).setCell ⟨b4, 1, none⟩ (.bool false) = w4
   have A4 : Aside0 (w4.heap[b2]? = some (.cells #[.slice none 0 0, .string ⟨#[]⟩, .int .i64 0] 25 (0, 0)) ∧ w4.heap[b4]? = some (.cells #[.string a0, .bool false] 60 (0, 0)) ∧ Below w.heap.size w w4) := ⟨by rw [← hw4]; exact ⟨blk_far (p := ⟨b4, 1, none⟩) (blk_far (p := ⟨b4, 0, none⟩) HX3.out (show b2 ≠ b4 from Nat.ne_of_lt H24.out) _) (show b2 ≠ b4 from Nat.ne_of_lt H24.out) _, blk_set (blk_set HT3.out 0 _) 1 _, (HB3.out.setCell (p := ⟨b4, 0, none⟩) (Nat.le_trans HG2.out (Nat.le_of_lt H24.out)) _).setCell (p := ⟨b4, 1, none⟩) (Nat.le_trans HG2.out (Nat.le_of_lt H24.out)) _⟩⟩; clear hw4 y0 y1 z0 z1 x0 x1 x2 f0 f1_ f2_
   go_upto_region 5 with (go_at_call 29; refine (word_calls b4 a0 ⟨#[47]⟩ r0 ok0 false _ A4.out.2.1 HW0.out).mono ?_; rintro e w5 ⟨rfl, hw5⟩; have A5 : Aside0 (w5.heap[b2]? = some (.cells #[.slice none 0 0, .string ⟨#[]⟩, .int .i64 0] 25 (0, 0)) ∧ w5.heap[b4]? = some (.cells #[.string r0, .bool (false || !ok0)] 60 (0, 0)) ∧ Below w.heap.size w w5) := ⟨by rw [hw5]; exact ⟨blk_far (p := ⟨b4, 1, none⟩) (blk_far (p := ⟨b4, 0, none⟩) A4.out.1 (show b2 ≠ b4 from Nat.ne_of_lt H24.out) _) (show b2 ≠ b4 from Nat.ne_of_lt H24.out) _, blk_set (blk_set A4.out.2.1 0 _) 1 _, (A4.out.2.2.setCell (p := ⟨b4, 0, none⟩) (Nat.le_trans HG2.out (Nat.le_of_lt H24.out)) _).setCell (p := ⟨b4, 1, none⟩) (Nat.le_trans HG2.out (Nat.le_of_lt H24.out)) _⟩⟩; clear hw5)
   go_upto_region 6 with (go_at_call 30; refine (until_calls b4 r0 ⟨#[47]⟩ ops q1 ok1 (false || !ok0) _ (HG.out.belowW A5.out.2.2) S0.out A5.out.2.1 HC1.out).mono ?_; rintro e w6 ⟨rfl, m, hw6⟩; have A6 : Aside0 (w6.heap[b2]? = some (.cells #[.slice none 0 0, .string ⟨#[]⟩, .int .i64 0] 25 (0, 0)) ∧ w6.heap[b4]? = some (.cells #[.string q1, .bool f1] 60 (0, 0)) ∧ Below w.heap.size w w6) := ⟨by rw [hw6, HF1.out]; exact ⟨blk_far (w := (w5.drewN m).setCell ⟨b4, 0, none⟩ _) (p := ⟨b4, 1, none⟩) (blk_far (w := w5.drewN m) (p := ⟨b4, 0, none⟩) A5.out.1 (show b2 ≠ b4 from Nat.ne_of_lt H24.out) _) (show b2 ≠ b4 from Nat.ne_of_lt H24.out) _, blk_set (blk_set (w := w5.drewN m) A5.out.2.1 0 _) 1 _, ((pw_below_drewN A5.out.2.2 m).setCell (p := ⟨b4, 0, none⟩) (Nat.le_trans HG2.out (Nat.le_of_lt H24.out)) _).setCell (p := ⟨b4, 1, none⟩) (Nat.le_trans HG2.out (Nat.le_of_lt H24.out)) _⟩⟩; clear hw6)
   go_upto_region 7 with ((with_reducible refine gd_ 6 rfl ?_); refine bx_ 6 rfl #[.slice none 0 0, .string ⟨#[]⟩, .int .i64 0] 25 ?_; intro b6 hg w7 hbox hb; have HA7 : Aside0 (AskW w w7 b2 b4 b6 q1 f1 (.slice none 0 0) ⟨#[]⟩ 0) := ⟨⟨blk_below A6.out.1 hb, blk_below A6.out.2.1 hb, hbox, HG2.out, H24.out, (by rw [hg]; exact blk_lt A6.out.2.1), below_step A6.out.2.2 hb⟩⟩; clear hb hbox hg)
   by_cases hops : ops.toList = [45]
   · have hl := HL_.out
     rw [if_pos hops] at hl
     simp only [Option.some.injEq, Prod.mk.injEq] at hl
     obtain ⟨rfl, rfl⟩ := hl; have k5 := beq_iff_eq.mpr hops; have k6 := bne_eq_false_iff_eq.mpr hops; clear hops HL_
     go_upto_region 9 with (fail)
     have HA9 := HA7; have HR9 : Aside0 (Kd.R k65 65 w7 b4 (fun j => b6 < j) (.slice none 0 0) []) := ⟨Kd.R_nil _ _ _ _ _⟩; clear k5 k6
     go_upto_region 10 with (first | (go_at_call 30; refine (until_calls b4 q1 ⟨#[63, 101, 61]⟩ path q2 ok2 f1 _ (HG.out.belowW HA9.out.bel) S2.out HA9.out.h4 HC2.out).mono ?_; rintro e wa ⟨rfl, m, hwa⟩; have HAa : Aside0 (AskW w wa b2 b4 b6 q2 (f1 || !ok2) (.slice none 0 0) ⟨#[]⟩ 0) := ⟨by rw [hwa]; exact (HA9.out.below (pw_below_drewN (Below.refl _ _) m)).set4 _ _⟩; have HRa : Aside0 (Kd.R k65 65 wa b4 (fun j => b6 < j) (.slice none 0 0) []) := ⟨by rw [hwa]; exact Kd.R_far (p := ⟨b4, 1, none⟩) (Kd.R_far (p := ⟨b4, 0, none⟩) (Kd.R_drewN HR9.out m) (fun j hj => by have := HA7.out.l6; show j ≠ b4; omega) _) (fun j hj => by have := HA7.out.l6; show j ≠ b4; omega) _⟩; clear hwa) | (go_at_call 33; refine (clone_calls path _ S3.out).mono ?_; rintro e wb ⟨rfl, hb⟩; have HAb := Aside0.mk (HAa.out.below hb); have HRb := Aside0.mk (Kd.R_below HRa.out hb); obtain ⟨y0, y1, y2⟩ := cc3_ HAb.out.h6; obtain ⟨z0, z1, z2⟩ := cf3_ HAb.out.h6; clear hb))
     generalize hwc : wb.setCell ⟨b6, 1, none⟩ (.string path) = wc
     have HAc : Aside0 (AskW w wc b2 b4 b6 q2 (f1 || !ok2) (.slice none 0 0) path 0) := ⟨by rw [← hwc]; exact HAb.out.setP path⟩; have HRc : Aside0 (Kd.R k65 65 wc b4 (fun j => b6 < j) (.slice none 0 0) []) := ⟨by rw [← hwc]; exact Kd.R_far (p := ⟨b6, 1, none⟩) HRb.out (fun j hj => by show j ≠ b6; omega) _⟩; clear hwc y0 y1 y2 z0 z1 z2; obtain ⟨t0, t1⟩ := cells2_at HAc.out.h4
     go_upto_region 11 with (go_at_call 34; refine (scanPart_calls k b4 q2 (f1 || !ok2) q2 n okn _ HAc.out.h4 HN.out).mono ?_; rintro e wd ⟨rfl, m, hwd⟩; have HAd : Aside0 (AskW w wd b2 b4 b6 q2 ((f1 || !ok2) || !okn) (.slice none 0 0) path 0) := ⟨by rw [hwd]; exact (HAc.out.below (pw_below_drewN (Below.refl _ _) m)).flag _⟩; have HRd : Aside0 (Kd.R k65 65 wd b4 (fun j => b6 < j) (.slice none 0 0) []) := ⟨by rw [hwd]; exact Kd.R_far (p := ⟨b4, 1, none⟩) (Kd.R_drewN HRc.out m) (fun j hj => by have := HA7.out.l6; show j ≠ b4; omega) _⟩; obtain ⟨y0, y1, y2⟩ := cc3_ HAd.out.h6; obtain ⟨z0, z1, z2⟩ := cf3_ HAd.out.h6; clear hwd)
     generalize hwe : wd.setCell ⟨b6, 2, none⟩ (.int .i64 n) = we
     have HAe : Aside0 (AskW w we b2 b4 b6 q2 ((f1 || !ok2) || !okn) (.slice none 0 0) path n) := ⟨by rw [← hwe]; exact HAd.out.setN n⟩; have HRe : Aside0 (Kd.R k65 65 we b4 (fun j => b6 < j) (.slice none 0 0) []) := ⟨by rw [← hwe]; exact Kd.R_far (p := ⟨b6, 2, none⟩) HRd.out (fun j hj => by show j ≠ b6; omega) _⟩; clear hwe y0 y1 y2 z0 z1 z2 t0 t1; obtain ⟨f4, hf4⟩ : ∃ f, ((f1 || !ok2) || !okn) = f := ⟨_, rfl⟩
     rw [hf4] at HAe h
     clear hf4; obtain ⟨t0, t1⟩ := cells2_at HAe.out.h4; obtain ⟨x0, x1, x2⟩ := cc3_ HAe.out.h2; obtain ⟨p0, p1, p2⟩ := cf3_ HAe.out.h2
     cases f4 with
     | true =>
      rw [if_pos rfl] at h
      obtain ⟨rfl, rfl, rfl, rfl⟩ := tup4 h
      go_wp2
      refine bodyPost_ret (results_ct rfl _ _ b2 25 #[.slice none 0 0, .string ⟨#[]⟩, .int .i64 0] (0, 0) _ rfl (blk3 HAe.out.h2) Tryz.underlying25 rfl (by kernel_rfl)) rfl ⟨_, rfl, Kd.R_nil _ _ _ _ _, below3 HAe.out.bel HG2.out⟩
     | false =>
      rw [if_neg (by decide)] at h
      unfold askEnd at h
      obtain ⟨t, ht, h⟩ := Option.bind_eq_some_iff.1 h; have HOK := Aside0.mk ht; clear ht; obtain ⟨y0, y1, y2⟩ := cc3_ HAe.out.h6
      cases t with
      | false =>
       rw [if_neg (by decide)] at h
       obtain ⟨rfl, rfl, rfl, rfl⟩ := tup4 h
       go_wp2_with (go_at_call 36; refine (impl_AskOk.calls k none 0 [] path n false _ (Kd.R_reads' HRe.out).2.2 (Kd.R_reads' HRe.out).2.1 HOK.out).mono ?_; rintro e wf ⟨rfl, hb⟩; have HAf := Aside0.mk (HAe.out.below hb); have HRf := Aside0.mk (Kd.R_below HRe.out hb); clear x0 x1 x2 p0 p1 p2 y0 y1 y2; obtain ⟨y0, y1, y2⟩ := cc3_ HAf.out.h6; obtain ⟨x0, x1, x2⟩ := cc3_ HAf.out.h2; obtain ⟨p0, p1, p2⟩ := cf3_ HAf.out.h2; clear hb)
       refine bodyPost_ret (results_ct rfl _ _ b2 25 #[.slice none 0 0, .string ⟨#[]⟩, .int .i64 0] (0, 0) _ rfl (blk3 HAf.out.h2) Tryz.underlying25 rfl (by kernel_rfl)) rfl ⟨_, rfl, Kd.R_nil _ _ _ _ _, below3 HAf.out.bel HG2.out⟩
      | true =>
       rw [if_pos rfl] at h
       obtain ⟨tx, htx, h⟩ := Option.bind_eq_some_iff.1 h; have HTX := Aside0.mk htx; clear htx
       by_cases hc : tx.toList = a0.toList
       · rw [if_pos hc] at h
         obtain ⟨rfl, rfl, rfl, rfl⟩ := tup4 h; have k0 := beq_iff_eq.mpr hc; have k1 := bne_eq_false_iff_eq.mpr hc; clear hc
         go_wp2_with (first | (go_at_call 36; refine (impl_AskOk.calls k none 0 [] path n true _ (Kd.R_reads' HRe.out).2.2 (Kd.R_reads' HRe.out).2.1 HOK.out).mono ?_; rintro e wf ⟨rfl, hb⟩; have HAf := Aside0.mk (HAe.out.below hb); have HRf := Aside0.mk (Kd.R_below HRe.out hb); clear x0 x1 x2 p0 p1 p2 y0 y1 y2; obtain ⟨y0, y1, y2⟩ := cc3_ HAf.out.h6; obtain ⟨x0, x1, x2⟩ := cc3_ HAf.out.h2; obtain ⟨p0, p1, p2⟩ := cf3_ HAf.out.h2; clear hb) | (go_at_call 20; refine (impl_AskText.calls k none 0 [] path n tx _ (Kd.R_reads' HRf.out).2.2 (Kd.R_reads' HRf.out).2.1 HTX.out (HG.out.belowW HAf.out.bel)).mono ?_; rintro e wg ⟨rfl, hb⟩; have HAg := Aside0.mk (HAf.out.below hb); have HRg := Aside0.mk (Kd.R_below HRf.out hb); clear x0 x1 x2 p0 p1 p2 y0 y1 y2; obtain ⟨y0, y1, y2⟩ := cc3_ HAg.out.h6; obtain ⟨x0, x1, x2⟩ := cc3_ HAg.out.h2; obtain ⟨p0, p1, p2⟩ := cf3_ HAg.out.h2; clear hb))
         refine bodyPost_ret (results_ct rfl _ _ b2 25 #[.slice none 0 0, .string path, .int .i64 n] (0, 0) _ rfl (blk3 HAg.out.h2) Tryz.underlying25 rfl (by kernel_rfl)) rfl ⟨_, rfl, ?_, below3 HAg.out.bel HG2.out⟩
         have far2 : ∀ j, b6 < j → j ≠ b2 := fun j hj => by have := HA7.out.l6; have := H24.out; omega
         exact Kd.R_mono (Kd.R_lower (Kd.R_far (p := ⟨b2, 2, none⟩) (Kd.R_far (p := ⟨b2, 1, none⟩) (Kd.R_far (p := ⟨b2, 0, none⟩) HRg.out far2 _) far2 _) far2 _) (Nat.le_trans HG2.out (Nat.le_of_lt H24.out))) (fun _ _ => trivial)
       · rw [if_neg hc] at h
         obtain ⟨rfl, rfl, rfl, rfl⟩ := tup4 h; have k0 := beq_eq_false_iff_ne.mpr hc; have k1 := bne_iff_ne.mpr hc; clear hc
         go_wp2_with (first | (go_at_call 36; refine (impl_AskOk.calls k none 0 [] path n true _ (Kd.R_reads' HRe.out).2.2 (Kd.R_reads' HRe.out).2.1 HOK.out).mono ?_; rintro e wf ⟨rfl, hb⟩; have HAf := Aside0.mk (HAe.out.below hb); have HRf := Aside0.mk (Kd.R_below HRe.out hb); clear x0 x1 x2 p0 p1 p2 y0 y1 y2; obtain ⟨y0, y1, y2⟩ := cc3_ HAf.out.h6; obtain ⟨x0, x1, x2⟩ := cc3_ HAf.out.h2; obtain ⟨p0, p1, p2⟩ := cf3_ HAf.out.h2; clear hb) | (go_at_call 20; refine (impl_AskText.calls k none 0 [] path n tx _ (Kd.R_reads' HRf.out).2.2 (Kd.R_reads' HRf.out).2.1 HTX.out (HG.out.belowW HAf.out.bel)).mono ?_; rintro e wg ⟨rfl, hb⟩; have HAg := Aside0.mk (HAf.out.below hb); have HRg := Aside0.mk (Kd.R_below HRf.out hb); clear x0 x1 x2 p0 p1 p2 y0 y1 y2; obtain ⟨y0, y1, y2⟩ := cc3_ HAg.out.h6; obtain ⟨x0, x1, x2⟩ := cc3_ HAg.out.h2; obtain ⟨p0, p1, p2⟩ := cf3_ HAg.out.h2; clear hb))
         refine bodyPost_ret (results_ct rfl _ _ b2 25 #[.slice none 0 0, .string ⟨#[]⟩, .int .i64 0] (0, 0) _ rfl (blk3 HAg.out.h2) Tryz.underlying25 rfl (by kernel_rfl)) rfl ⟨_, rfl, Kd.R_nil _ _ _ _ _, below3 HAg.out.bel HG2.out⟩
   · have HL := Aside0.mk ((if_neg hops).symm.trans HL_.out)
     have k5 := beq_eq_false_iff_ne.mpr hops; have k6 := bne_iff_ne.mpr hops; clear hops HL_
     go_upto_region 9 with (go_at_call 31; refine (scanOps_calls k b4 q1 ops ⟨#[44]⟩ f1 l f2 _ (HG.out.belowW HA7.out.bel) (HG.out.lt.mono (Nat.le_trans HG2.out (Nat.le_of_lt H24.out))) S1.out (by decide) HA7.out.h4 HL.out).mono ?_; rintro e w8 ⟨v, rfl, hR, hT, hK, hBe⟩; obtain ⟨A8, c8, rfl, hc8, hr8⟩ := Kd.R_reads hR; have HA8 : Aside0 (AskW w w8 b2 b4 b6 q1 f2 (.slice none 0 0) ⟨#[]⟩ 0) := ⟨⟨(hK.2 b2 (blk_lt HA7.out.h2) (show b2 ≠ b4 from Nat.ne_of_lt H24.out) (by simp)).trans HA7.out.h2, hT, (hK.2 b6 (blk_lt HA7.out.h6) (Nat.ne_of_gt HA7.out.l6) (by simp)).trans HA7.out.h6, HG2.out, H24.out, HA7.out.l6, HA7.out.bel.trans (hBe.mono (Nat.le_trans HG2.out (Nat.le_of_lt H24.out)))⟩⟩; have HR8 : Aside0 (Kd.R k65 65 w8 b4 (fun j => b6 < j) (.slice A8 l.length c8) l) := ⟨Kd.R_mono hR (fun j hj => Nat.lt_of_lt_of_le (blk_lt HA7.out.h6) hj)⟩; obtain ⟨y0, y1, y2⟩ := cc3_ HA8.out.h6; obtain ⟨z0, z1, z2⟩ := cf3_ HA8.out.h6; clear hR hT hK hBe hc8 hr8)
     generalize hw9 : w8.setCell ⟨b6, 0, none⟩ (.slice A8 l.length c8) = w9
     have HA9 : Aside0 (AskW w w9 b2 b4 b6 q1 f2 (.slice A8 l.length c8) ⟨#[]⟩ 0) := ⟨by rw [← hw9]; exact HA8.out.set6 _⟩; have HR9 : Aside0 (Kd.R k65 65 w9 b4 (fun j => b6 < j) (.slice A8 l.length c8) l) := ⟨by rw [← hw9]; exact Kd.R_far (p := ⟨b6, 0, none⟩) HR8.out (fun j hj => by show j ≠ b6; omega) _⟩; clear hw9 y0 y1 y2 z0 z1 z2 k5 k6
     go_upto_region 10 with (first | (go_at_call 30; refine (until_calls b4 q1 ⟨#[63, 101, 61]⟩ path q2 ok2 f2 _ (HG.out.belowW HA9.out.bel) S2.out HA9.out.h4 HC2.out).mono ?_; rintro e wa ⟨rfl, m, hwa⟩; have HAa : Aside0 (AskW w wa b2 b4 b6 q2 (f2 || !ok2) (.slice A8 l.length c8) ⟨#[]⟩ 0) := ⟨by rw [hwa]; exact (HA9.out.below (pw_below_drewN (Below.refl _ _) m)).set4 _ _⟩; have HRa : Aside0 (Kd.R k65 65 wa b4 (fun j => b6 < j) (.slice A8 l.length c8) l) := ⟨by rw [hwa]; exact Kd.R_far (p := ⟨b4, 1, none⟩) (Kd.R_far (p := ⟨b4, 0, none⟩) (Kd.R_drewN HR9.out m) (fun j hj => by have := HA7.out.l6; show j ≠ b4; omega) _) (fun j hj => by have := HA7.out.l6; show j ≠ b4; omega) _⟩; clear hwa) | (go_at_call 33; refine (clone_calls path _ S3.out).mono ?_; rintro e wb ⟨rfl, hb⟩; have HAb := Aside0.mk (HAa.out.below hb); have HRb := Aside0.mk (Kd.R_below HRa.out hb); obtain ⟨y0, y1, y2⟩ := cc3_ HAb.out.h6; obtain ⟨z0, z1, z2⟩ := cf3_ HAb.out.h6; clear hb))
     generalize hwc : wb.setCell ⟨b6, 1, none⟩ (.string path) = wc
     have HAc : Aside0 (AskW w wc b2 b4 b6 q2 (f2 || !ok2) (.slice A8 l.length c8) path 0) := ⟨by rw [← hwc]; exact HAb.out.setP path⟩; have HRc : Aside0 (Kd.R k65 65 wc b4 (fun j => b6 < j) (.slice A8 l.length c8) l) := ⟨by rw [← hwc]; exact Kd.R_far (p := ⟨b6, 1, none⟩) HRb.out (fun j hj => by show j ≠ b6; omega) _⟩; clear hwc y0 y1 y2 z0 z1 z2; obtain ⟨t0, t1⟩ := cells2_at HAc.out.h4
     go_upto_region 11 with (go_at_call 34; refine (scanPart_calls k b4 q2 (f2 || !ok2) q2 n okn _ HAc.out.h4 HN.out).mono ?_; rintro e wd ⟨rfl, m, hwd⟩; have HAd : Aside0 (AskW w wd b2 b4 b6 q2 ((f2 || !ok2) || !okn) (.slice A8 l.length c8) path 0) := ⟨by rw [hwd]; exact (HAc.out.below (pw_below_drewN (Below.refl _ _) m)).flag _⟩; have HRd : Aside0 (Kd.R k65 65 wd b4 (fun j => b6 < j) (.slice A8 l.length c8) l) := ⟨by rw [hwd]; exact Kd.R_far (p := ⟨b4, 1, none⟩) (Kd.R_drewN HRc.out m) (fun j hj => by have := HA7.out.l6; show j ≠ b4; omega) _⟩; obtain ⟨y0, y1, y2⟩ := cc3_ HAd.out.h6; obtain ⟨z0, z1, z2⟩ := cf3_ HAd.out.h6; clear hwd)
     generalize hwe : wd.setCell ⟨b6, 2, none⟩ (.int .i64 n) = we
     have HAe : Aside0 (AskW w we b2 b4 b6 q2 ((f2 || !ok2) || !okn) (.slice A8 l.length c8) path n) := ⟨by rw [← hwe]; exact HAd.out.setN n⟩; have HRe : Aside0 (Kd.R k65 65 we b4 (fun j => b6 < j) (.slice A8 l.length c8) l) := ⟨by rw [← hwe]; exact Kd.R_far (p := ⟨b6, 2, none⟩) HRd.out (fun j hj => by show j ≠ b6; omega) _⟩; clear hwe y0 y1 y2 z0 z1 z2 t0 t1; obtain ⟨f4, hf4⟩ : ∃ f, ((f2 || !ok2) || !okn) = f := ⟨_, rfl⟩
     rw [hf4] at HAe h
     clear hf4; obtain ⟨t0, t1⟩ := cells2_at HAe.out.h4; obtain ⟨x0, x1, x2⟩ := cc3_ HAe.out.h2; obtain ⟨p0, p1, p2⟩ := cf3_ HAe.out.h2
     cases f4 with
     | true =>
      rw [if_pos rfl] at h
      obtain ⟨rfl, rfl, rfl, rfl⟩ := tup4 h
      go_wp2
      refine bodyPost_ret (results_ct rfl _ _ b2 25 #[.slice none 0 0, .string ⟨#[]⟩, .int .i64 0] (0, 0) _ rfl (blk3 HAe.out.h2) Tryz.underlying25 rfl (by kernel_rfl)) rfl ⟨_, rfl, Kd.R_nil _ _ _ _ _, below3 HAe.out.bel HG2.out⟩
     | false =>
      rw [if_neg (by decide)] at h
      unfold askEnd at h
      obtain ⟨t, ht, h⟩ := Option.bind_eq_some_iff.1 h; have HOK := Aside0.mk ht; clear ht; obtain ⟨y0, y1, y2⟩ := cc3_ HAe.out.h6
      cases t with
      | false =>
       rw [if_neg (by decide)] at h
       obtain ⟨rfl, rfl, rfl, rfl⟩ := tup4 h
       go_wp2_with (go_at_call 36; refine (impl_AskOk.calls k A8 c8 l path n false _ (Kd.R_reads' HRe.out).2.2 (Kd.R_reads' HRe.out).2.1 HOK.out).mono ?_; rintro e wf ⟨rfl, hb⟩; have HAf := Aside0.mk (HAe.out.below hb); have HRf := Aside0.mk (Kd.R_below HRe.out hb); clear x0 x1 x2 p0 p1 p2 y0 y1 y2; obtain ⟨y0, y1, y2⟩ := cc3_ HAf.out.h6; obtain ⟨x0, x1, x2⟩ := cc3_ HAf.out.h2; obtain ⟨p0, p1, p2⟩ := cf3_ HAf.out.h2; clear hb)
       refine bodyPost_ret (results_ct rfl _ _ b2 25 #[.slice none 0 0, .string ⟨#[]⟩, .int .i64 0] (0, 0) _ rfl (blk3 HAf.out.h2) Tryz.underlying25 rfl (by kernel_rfl)) rfl ⟨_, rfl, Kd.R_nil _ _ _ _ _, below3 HAf.out.bel HG2.out⟩
      | true =>
       rw [if_pos rfl] at h
       obtain ⟨tx, htx, h⟩ := Option.bind_eq_some_iff.1 h; have HTX := Aside0.mk htx; clear htx
       by_cases hc : tx.toList = a0.toList
       · rw [if_pos hc] at h
         obtain ⟨rfl, rfl, rfl, rfl⟩ := tup4 h; have k0 := beq_iff_eq.mpr hc; have k1 := bne_eq_false_iff_eq.mpr hc; clear hc
         go_wp2_with (first | (go_at_call 36; refine (impl_AskOk.calls k A8 c8 l path n true _ (Kd.R_reads' HRe.out).2.2 (Kd.R_reads' HRe.out).2.1 HOK.out).mono ?_; rintro e wf ⟨rfl, hb⟩; have HAf := Aside0.mk (HAe.out.below hb); have HRf := Aside0.mk (Kd.R_below HRe.out hb); clear x0 x1 x2 p0 p1 p2 y0 y1 y2; obtain ⟨y0, y1, y2⟩ := cc3_ HAf.out.h6; obtain ⟨x0, x1, x2⟩ := cc3_ HAf.out.h2; obtain ⟨p0, p1, p2⟩ := cf3_ HAf.out.h2; clear hb) | (go_at_call 20; refine (impl_AskText.calls k A8 c8 l path n tx _ (Kd.R_reads' HRf.out).2.2 (Kd.R_reads' HRf.out).2.1 HTX.out (HG.out.belowW HAf.out.bel)).mono ?_; rintro e wg ⟨rfl, hb⟩; have HAg := Aside0.mk (HAf.out.below hb); have HRg := Aside0.mk (Kd.R_below HRf.out hb); clear x0 x1 x2 p0 p1 p2 y0 y1 y2; obtain ⟨y0, y1, y2⟩ := cc3_ HAg.out.h6; obtain ⟨x0, x1, x2⟩ := cc3_ HAg.out.h2; obtain ⟨p0, p1, p2⟩ := cf3_ HAg.out.h2; clear hb))
         refine bodyPost_ret (results_ct rfl _ _ b2 25 #[.slice A8 l.length c8, .string path, .int .i64 n] (0, 0) _ rfl (blk3 HAg.out.h2) Tryz.underlying25 rfl (by kernel_rfl)) rfl ⟨_, rfl, ?_, below3 HAg.out.bel HG2.out⟩
         have far2 : ∀ j, b6 < j → j ≠ b2 := fun j hj => by have := HA7.out.l6; have := H24.out; omega
         exact Kd.R_mono (Kd.R_lower (Kd.R_far (p := ⟨b2, 2, none⟩) (Kd.R_far (p := ⟨b2, 1, none⟩) (Kd.R_far (p := ⟨b2, 0, none⟩) HRg.out far2 _) far2 _) far2 _) (Nat.le_trans HG2.out (Nat.le_of_lt H24.out))) (fun _ _ => trivial)
       · rw [if_neg hc] at h
         obtain ⟨rfl, rfl, rfl, rfl⟩ := tup4 h; have k0 := beq_eq_false_iff_ne.mpr hc; have k1 := bne_iff_ne.mpr hc; clear hc
         go_wp2_with (first | (go_at_call 36; refine (impl_AskOk.calls k A8 c8 l path n true _ (Kd.R_reads' HRe.out).2.2 (Kd.R_reads' HRe.out).2.1 HOK.out).mono ?_; rintro e wf ⟨rfl, hb⟩; have HAf := Aside0.mk (HAe.out.below hb); have HRf := Aside0.mk (Kd.R_below HRe.out hb); clear x0 x1 x2 p0 p1 p2 y0 y1 y2; obtain ⟨y0, y1, y2⟩ := cc3_ HAf.out.h6; obtain ⟨x0, x1, x2⟩ := cc3_ HAf.out.h2; obtain ⟨p0, p1, p2⟩ := cf3_ HAf.out.h2; clear hb) | (go_at_call 20; refine (impl_AskText.calls k A8 c8 l path n tx _ (Kd.R_reads' HRf.out).2.2 (Kd.R_reads' HRf.out).2.1 HTX.out (HG.out.belowW HAf.out.bel)).mono ?_; rintro e wg ⟨rfl, hb⟩; have HAg := Aside0.mk (HAf.out.below hb); have HRg := Aside0.mk (Kd.R_below HRf.out hb); clear x0 x1 x2 p0 p1 p2 y0 y1 y2; obtain ⟨y0, y1, y2⟩ := cc3_ HAg.out.h6; obtain ⟨x0, x1, x2⟩ := cc3_ HAg.out.h2; obtain ⟨p0, p1, p2⟩ := cf3_ HAg.out.h2; clear hb))
         refine bodyPost_ret (results_ct rfl _ _ b2 25 #[.slice none 0 0, .string ⟨#[]⟩, .int .i64 0] (0, 0) _ rfl (blk3 HAg.out.h2) Tryz.underlying25 rfl (by kernel_rfl)) rfl ⟨_, rfl, Kd.R_nil _ _ _ _ _, below3 HAg.out.bel HG2.out⟩
end Go.Proofs.YtmplnpjdbfedbaaGreatDoor.X
namespace Go.Proofs.YtmplnpjdbfedbaaGreatDoor.X
open Go.RowKit Go.Proofs.YtmplnpjdbfedbaaGreatDoorW.PrintWords Go.Proofs.YtmplnpjdbfedbaaGreatDoorW.PrintLast Go.Proofs.YtmplnpjdbfedbaaGreatDoorW.PrintMore
attribute [local go_sem] max2_int min2_int max_two min_two max_three min_three max_four min_four
set_option linter.unusedVariables false
set_option linter.unusedSimpArgs false
section
def impl_UrlText.f (k : Nat) (l0 : List Int) (l1_0 : List (S65)) (a1_1 : ByteArray) (a1_2 : Int) : Option ByteArray := (impl_AskText.f k l1_0 a1_1 a1_2).bind fun text => if text.toList = [] then some ⟨#[]⟩ else if 500 < l0.length then some ⟨#[]⟩ else if text.size ≤ 1000000 then (impl_ShaMac.f l0 (bytesN text)).bind fun t => (impl_HexText.f k t).bind fun x => if 16 ≤ x.size then some ((text ++ ⟨#[38, 115, 61]⟩) ++ x.extract 0 16) else none else none
set_option maxHeartbeats 4000000 in
set_option maxRecDepth 100000 in
theorem impl_UrlText.calls (k : Nat) (A0 : Option Addr) (c0 : Nat) (l0 : List Int) (A1_0 : Option Addr) (c1_0 : Nat) (l1_0 : List (S65)) (a1_1 : ByteArray) (a1_2 : Int) (r : ByteArray) (w : World) (hr0 : Kd.C (Kd.int .u8) w A0 l0.length l0) (hc0 : l0.length ≤ c0) (hr1_0 : Kd.C k65 w A1_0 l1_0.length l1_0) (hc1_0 : l1_0.length ≤ c1_0) (h : impl_UrlText.f k l0 l1_0 a1_1 a1_2 = some r) (hG : Glob w) :
  Calls Tryz.prog 7 #[.slice A0 l0.length c0, .agg #[.slice A1_0 l1_0.length c1_0, .string a1_1, .int .i64 a1_2]] w fun e w' => e = .returned (.string r) ∧ Below w.heap.size w w' := by
 unfold impl_UrlText.f at h
 obtain ⟨text, ht, h⟩ := Option.bind_eq_some_iff.1 h; have HR0 := Aside0.mk hr0; have HC0 := Aside0.mk hc0; have HR1 := Aside0.mk hr1_0; have HC1 := Aside0.mk hc1_0; have HG := Aside0.mk hG; have HA := Aside0.mk ht; clear hr0 hc0 hr1_0 hc1_0 hG ht; have hu := Tryz.underlying25; obtain ⟨n0, hn0⟩ : ∃ n, l0.length = n := ⟨_, rfl⟩; have HN0 := Aside0.mk hn0
 rw [hn0] at h ⊢; clear hn0
 by_cases hk : text.toList = []
 · rw [if_pos hk] at h
   obtain rfl := Option.some.inj h; clear h; have k0 : (text.toList == ([] : List UInt8)) = true := (by rw [hk]; rfl); have k1 : decide (text.toList = ([] : List UInt8)) = true := decide_eq_true hk
   go_enter Tryz.func7, Tryz.ntmps7
   go_wp2_with (first | ((with_reducible refine gd_ 3 rfl ?_); refine bx_ 3 rfl #[.slice A1_0 l1_0.length c1_0, .string a1_1, .int .i64 a1_2] 25 ?_; intro b2 hg w5 hbox hb; have HB := Aside0.mk hb; obtain ⟨x0, x1, x2⟩ := cc3_ hbox; clear hb hbox hg) | (go_at_call 20; refine (impl_AskText.calls k A1_0 c1_0 l1_0 a1_1 a1_2 text _ (Kd.C_below HR1.out HB.out) HC1.out HA.out (HG.out.belowW HB.out)).mono ?_; rintro e w7 ⟨rfl, hb⟩; have HB7 := Aside0.mk (below_step HB.out hb); clear hb))
   go_ret
   exact ⟨rfl, HB7.out⟩
 · rw [if_neg hk] at h
   have k0 : (text.toList == ([] : List UInt8)) = false := (by cases hh : text.toList with | nil => exact absurd hh hk | cons a l => rfl); have k1 : decide (text.toList = ([] : List UInt8)) = false := decide_eq_false hk
   by_cases h5 : 500 < n0
   · rw [if_pos h5] at h
     obtain rfl := Option.some.inj h; clear h; have g5 : (500 : Int) < (n0 : Int) := (by omega)
     go_enter Tryz.func7, Tryz.ntmps7
     go_wp2_with (first | ((with_reducible refine gd_ 3 rfl ?_); refine bx_ 3 rfl #[.slice A1_0 l1_0.length c1_0, .string a1_1, .int .i64 a1_2] 25 ?_; intro b2 hg w5 hbox hb; have HB := Aside0.mk hb; obtain ⟨x0, x1, x2⟩ := cc3_ hbox; clear hb hbox hg) | (go_at_call 20; refine (impl_AskText.calls k A1_0 c1_0 l1_0 a1_1 a1_2 text _ (Kd.C_below HR1.out HB.out) HC1.out HA.out (HG.out.belowW HB.out)).mono ?_; rintro e w7 ⟨rfl, hb⟩; have HB7 := Aside0.mk (below_step HB.out hb); clear hb))
     go_ret
     exact ⟨rfl, HB7.out⟩
   · rw [if_neg h5] at h
     have g5 : ¬ ((500 : Int) < (n0 : Int)) := (by omega)
     split at h
     case isFalse => cases h
     rename_i hs
     obtain ⟨t, ht, h⟩ := Option.bind_eq_some_iff.1 h; obtain ⟨x, hx, h⟩ := Option.bind_eq_some_iff.1 h
     split at h
     case isFalse => cases h
     rename_i h16
     obtain rfl := Option.some.inj h; have HS := Aside0.mk (show text.size ≤ 9223372036854775807 by omega); have HT := Aside0.mk ht; have HX16 := Aside0.mk hx; clear ht hx h; have q16 : (16 : Int) ≤ (x.size : Int) := (by omega); have z1 : text.size + 3 ≤ 9223372036854775807 := (by omega); have z2 : (text ++ (⟨#[38, 115, 61]⟩ : ByteArray)).size + (x.extract 0 16).size ≤ 9223372036854775807 := (by rw [ByteArray.size_append, ByteArray.size_extract]; show text.size + 3 + _ ≤ _; omega)
     go_enter Tryz.func7, Tryz.ntmps7
     go_wp2_with (first | ((with_reducible refine gd_ 3 rfl ?_); refine bx_ 3 rfl #[.slice A1_0 l1_0.length c1_0, .string a1_1, .int .i64 a1_2] 25 ?_; intro b2 hg w5 hbox hb; have HB := Aside0.mk hb; obtain ⟨x0, x1, x2⟩ := cc3_ hbox; clear hb hbox hg) | (go_at_call 20; refine (impl_AskText.calls k A1_0 c1_0 l1_0 a1_1 a1_2 text _ (Kd.C_below HR1.out HB.out) HC1.out HA.out (HG.out.belowW HB.out)).mono ?_; rintro e w7 ⟨rfl, hb⟩; have HB7 := Aside0.mk (below_step HB.out hb); clear hb) | ((with_reducible refine gd_ 19 rfl ?_); refine conv_str_ 19 (.tmp 18) text rfl rfl rfl rfl HS.out ?_; intro b c w2 hb hc hC; have HBc := Aside0.mk (below_step HB7.out hb); have HCc := Aside0.mk hc; have HCC := Aside0.mk hC; clear hb hc hC; obtain ⟨n1, hn1⟩ : ∃ n, (bytesN text).length = n := ⟨_, rfl⟩; have HN1 := Aside0.mk hn1; rw [hn1]; clear hn1) | ((with_reducible refine gc_ 16 rfl ?_); refine gl_ (some 20) rfl Tryz.func16 #[.slice A0 n0 c0, .slice (some ⟨b, 0, none⟩) n1 c] ?_; rw [← HN0.out, ← HN1.out]; refine (impl_ShaMac.calls A0 c0 l0 (some ⟨b, 0, none⟩) c (bytesN text) t _ (Kd.C_below HR0.out HBc.out) HC0.out HCC.out HCc.out HT.out (HG.out.belowW HBc.out)).mono ?_; rintro e w8 ⟨v, rfl, hR, hb8⟩; refine ⟨_, rfl, ?_⟩; obtain ⟨A8, c8, rfl, hc8, hr8⟩ := Kd.R_reads hR; have HR8 := Aside0.mk hr8; have HC8 := Aside0.mk hc8; have HB8 := Aside0.mk (below_step HBc.out hb8); obtain ⟨n8, hn8⟩ : ∃ n, t.length = n := ⟨_, rfl⟩; have HN8 := Aside0.mk hn8; rw [hn8]; rw [HN0.out]; clear hR hc8 hr8 hb8 hn8) | ((with_reducible refine gc_ 15 rfl ?_); refine gl_ (some 21) rfl Tryz.func15 #[.slice A8 n8 c8] ?_; rw [← HN8.out]; refine (impl_HexText.calls k A8 c8 t x _ HR8.out HC8.out HX16.out).mono ?_; rintro e w9 ⟨rfl, hd⟩; refine ⟨_, rfl, ?_⟩; have HB9 := Aside0.mk (below_step HB8.out hd); clear hd))
     go_ret
     exact ⟨rfl, HB9.out⟩
end
end Go.Proofs.YtmplnpjdbfedbaaGreatDoor.X
namespace Go.Proofs.YtmplnpjdbfedbaaGreatDoor.X
open Go.RowKit Go.Extern.Stop Go.Stop Go.Extern
set_option linter.unusedVariables false
set_option linter.unusedSimpArgs false
theorem as_nil (t : Value) (w : World) : Calls Tryz.prog 26 #[.nilIface, t] w fun e w' => e = .returned (.bool false) ∧ w' = w := by
  go_enter Tryz.func26, Tryz.ntmps26
  go_wp2
  go_ret
  exact ⟨rfl, rfl⟩
theorem eValueOfP (t : Addr) (w : World) : (ReflectliteValue.unpack (.iface 55 (.pointer (some t)))).run Tryz.prog w
    = .ok (.agg #[.pointer (some ⟨10, 55, none⟩), .pointer (some ⟨w.heap.size, 0, none⟩), .int .u64 150]) (w.alloc (.cells #[.pointer (some t)] 55)) := by kernel_rfl
theorem eTypeP (a : Addr) (w : World) : (ReflectliteValue.methodAny (ReflectliteValue.valueError "reflectlite.Value.Type" 0) (fun t _ _ _ => ReflectliteType.toType t) #[.agg #[.pointer (some ⟨10, 55, none⟩), .pointer (some a), .int .u64 150]]).run Tryz.prog w
    = .ok (.iface 131 (.agg #[.pointer (some ⟨10, 55, none⟩)])) w := by kernel_rfl
theorem eMethodKind (h : Value) (w : World) : (Go.method 320 131 (.agg #[h]) "Kind").run Tryz.prog w = .ok (151, h) w := by kernel_rfl
theorem eKindP (w : World) : ((ReflectliteType.abiMethod fun t => (fun a : Nat => Value.int IntKind.u8 (a : Int)) <$> Rtype.kind t) #[.pointer (some ⟨10, 55, none⟩)]).run Tryz.prog w = .ok (.int .u8 22) w := by kernel_rfl
theorem eKindU (w : World) : ((ReflectliteType.abiMethod fun t => (fun a : Nat => Value.int IntKind.u8 (a : Int)) <$> Rtype.kind t) #[.pointer (some ⟨10, 53, none⟩)]).run Tryz.prog w = .ok (.int .u8 25) w := by kernel_rfl
theorem erlm (z : Sem Value) (f : TypeId → Addr → Nat → Nat → Sem Value) (v : Value) :
    ReflectliteValue.method z f #[v] = (do match ← ReflectliteValue.parts v with | none => z | some (t, a, fl) => f t a fl (fl % 32)) := rfl
theorem ePartsP (a : Addr) (w : World) : (ReflectliteValue.parts (.agg #[.pointer (some ⟨10, 55, none⟩), .pointer (some a), .int .u64 150])).run Tryz.prog w = .ok (some (55, a, 150)) w := by kernel_rfl
theorem eIsNilP (a p : Addr) (W : World) (ha : W.cell? a = some (.pointer (some p))) :
    (ReflectliteValue.method (ReflectliteValue.valueError "reflectlite.Value.IsNil" 0) ReflectliteValue.isNil #[.agg #[.pointer (some ⟨10, 55, none⟩), .pointer (some a), .int .u64 150]]).run Tryz.prog W = .ok (.bool false) W := by
  rw [erlm]
  simp only [Sem.run_bind, ePartsP, Result.andThen]
  simp [ReflectliteValue.isNil, loadVar, isAgg, underlying, Tryz.underlying55, ha, Result.andThen]
theorem eMethodElem (h : Value) (w : World) : (Go.method 320 131 (.agg #[h]) "Elem").run Tryz.prog w = .ok (162, .agg #[h]) w := by kernel_rfl
theorem eMethodImplements (h : Value) (w : World) : (Go.method 320 131 (.agg #[h]) "Implements").run Tryz.prog w = .ok (163, .agg #[h]) w := by kernel_rfl
theorem eMethodAssignableTo (h : Value) (w : World) : (Go.method 320 131 (.agg #[h]) "AssignableTo").run Tryz.prog w = .ok (160, .agg #[h]) w := by kernel_rfl
theorem eElemP (w : World) : (ReflectliteType.method ReflectliteType.elem #[.agg #[.pointer (some ⟨10, 55, none⟩)]]).run Tryz.prog w = .ok (.iface 131 (.agg #[.pointer (some ⟨10, 53, none⟩)])) w := by kernel_rfl
theorem eImplU (w : World) : (ReflectliteType.relation "Implements" ReflectliteType.implements_ #[.agg #[.pointer (some ⟨10, 53, none⟩)], .iface 131 (.agg #[.pointer (some ⟨10, 49, none⟩)])]).run Tryz.prog w = .ok (.bool true) w := by kernel_rfl
theorem eTypeOfU (v : Value) (w : World) : (ReflectliteType.typeOf #[.iface 53 v]).run Tryz.prog w = .ok (.iface 131 (.agg #[.pointer (some ⟨10, 53, none⟩)])) w := by kernel_rfl
theorem eAsgU (w : World) : (ReflectliteType.relation "AssignableTo" ReflectliteType.assignableTo #[.agg #[.pointer (some ⟨10, 53, none⟩)], .iface 131 (.agg #[.pointer (some ⟨10, 53, none⟩)])]).run Tryz.prog w = .ok (.bool true) w := by kernel_rfl
theorem eValueOfU (c : Int) (w : World) : (ReflectliteValue.unpack (.iface 53 (.agg #[.int .i64 c]))).run Tryz.prog w
    = .ok (.agg #[.pointer (some ⟨10, 53, none⟩), .pointer (some ⟨w.heap.size, 0, none⟩), .int .u64 153]) (w.alloc (.cells #[.int .i64 c] 53)) := by kernel_rfl
theorem eElemOfP (w : World) : (Rtype.elem? 55).run Tryz.prog w = .ok (some 53) w := by kernel_rfl
theorem eMkU (p : Addr) (w : World) : (ReflectliteValue.mk 53 p ReflectliteValue.flagAddr).run Tryz.prog w = .ok (.agg #[.pointer (some ⟨10, 53, none⟩), .pointer (some p), .int .u64 409]) w := by kernel_rfl
theorem eElemVP (a p : Addr) (W : World) (ha : W.cell? a = some (.pointer (some p))) :
    (ReflectliteValue.method (ReflectliteValue.valueError "reflectlite.Value.Elem" 0) ReflectliteValue.elem #[.agg #[.pointer (some ⟨10, 55, none⟩), .pointer (some a), .int .u64 150]]).run Tryz.prog W
      = .ok (.agg #[.pointer (some ⟨10, 53, none⟩), .pointer (some p), .int .u64 409]) W := by
  rw [erlm]
  simp only [Sem.run_bind, ePartsP, Result.andThen]
  simp [ReflectliteValue.elem, loadVar, isAgg, underlying, Tryz.underlying55, ha, Result.andThen, eElemOfP, eMkU]
theorem ePartsUa (a : Addr) (w : World) : (ReflectliteValue.parts (.agg #[.pointer (some ⟨10, 53, none⟩), .pointer (some a), .int .u64 409])).run Tryz.prog w = .ok (some (53, a, 409)) w := by kernel_rfl
theorem ePartsU (a : Addr) (w : World) : (ReflectliteValue.parts (.agg #[.pointer (some ⟨10, 53, none⟩), .pointer (some a), .int .u64 153])).run Tryz.prog w = .ok (some (53, a, 153)) w := by kernel_rfl
theorem eDirectU (w : World) : (Rtype.directlyAssignable 53 53).run Tryz.prog w = .ok true w := by kernel_rfl
end Go.Proofs.YtmplnpjdbfedbaaGreatDoor.X
namespace Go.Proofs.YtmplnpjdbfedbaaGreatDoor.X
open Go.RowKit Go.Extern.Stop Go.Stop Go.Extern Go.Proofs.YtmplnpjdbfedbaaGreatDoorW.PrintWords
set_option linter.unusedVariables false
set_option linter.unusedSimpArgs false
theorem erls (v x : Value) : ReflectliteValue.set #[v, x] = (do
    let (some (dst, a, fl), some (src, b, _)) := (← ReflectliteValue.parts v, ← ReflectliteValue.parts x)
      | unsupported (.noEntry "extern/(internal/reflectlite.Value).Set.zeroValue")
    if fl / ReflectliteValue.flagAddr % 2 == 0 then unsupported (.noEntry "extern/(internal/reflectlite.Value).Set.unaddressable")
    let val ← loadVar src b
    if ← Rtype.directlyAssignable dst src then storeVar dst a val
    else if ← Rtype.implements dst src then
      if (← Rtype.kind src) == 20 then
        match val with
        | .nilIface => unsupported (.noEntry "extern/reflectlite: a nil value of one interface type handed on as a value of another")
        | _ => storeVar dst a val
      else storeVar dst a (.iface src val)
    else panicString ("reflectlite.Set: value of type " ++ (← Rtype.spelt src) ++ " is not assignable to type " ++ (← Rtype.spelt dst))
    pure (.tuple #[])) := rfl
theorem eSetU (ta : Addr) (g : Nat) (c : Int) (old : Value) (W : World) (hb : W.heap[g]? = some (.cells #[.int .i64 c] 53 (0, 0))) (ht : W.cell? ta = some old) (hf : W.frozen? ta = false) :
    (ReflectliteValue.set #[.agg #[.pointer (some ⟨10, 53, none⟩), .pointer (some ta), .int .u64 409], .agg #[.pointer (some ⟨10, 53, none⟩), .pointer (some ⟨g, 0, none⟩), .int .u64 153]]).run Tryz.prog W
      = .ok (.tuple #[]) (W.setCell ta (.int .i64 c)) := by
  have hl := run_loadVar_row (P := Tryz.prog) W g 53 53 #[.int .i64 c] (0, 0) _ hb Tryz.underlying53 rfl (by kernel_rfl)
  rw [erls]
  simp only [Sem.run_bind, ePartsUa, ePartsU, Result.andThen]
  simp [ReflectliteValue.flagAddr, hl, Result.andThen, eDirectU, storeVar, Value.cells, storeCells, Addr.add]
  rw [run_store Tryz.prog W ta _ _ (by rfl)]
  simp [ht, hf]
set_option maxHeartbeats 4000000 in
set_option maxRecDepth 100000 in
theorem as_hit (c : Int) (t : Addr) (old : Value) (w : World) (hg : w.cell? ⟨0, 0, none⟩ = some (.iface 131 (.agg #[.pointer (some ⟨10, 49, none⟩)]))) (ht0 : w.cell? t = some old) (hf0 : w.frozen? t = false) :
    Calls Tryz.prog 26 #[.iface 53 (.agg #[.int .i64 c]), .iface 55 (.pointer (some t))] w fun ev w' => ev = .returned (.bool true) ∧ w' = ((((w.alloc (.cells #[.pointer (some t)] 55)).alloc (.cells #[.pointer (some ⟨10, 55, none⟩), .pointer (some ⟨w.heap.size, 0, none⟩), .int .u64 150] 94)).alloc (.cells #[.pointer (some ⟨10, 55, none⟩), .pointer (some ⟨w.heap.size, 0, none⟩), .int .u64 150] 94)).alloc (.cells #[.int .i64 c] 53)).setCell t (.int .i64 c) := by
  have h6 := @run_callFunc_extern Tryz.prog 57 _ (fun args => ReflectliteValue.unpack (args.getD 0 (.tuple #[]))) Tryz.func57 (by kernel_rfl) (by kernel_rfl) (by kernel_rfl) (by kernel_rfl)
  have h7 := @run_callFunc_extern Tryz.prog 58 _ (ReflectliteValue.methodAny (ReflectliteValue.valueError "reflectlite.Value.Type" 0) (fun t _ _ _ => ReflectliteType.toType t)) Tryz.func58 (by kernel_rfl) (by kernel_rfl) (by kernel_rfl) (by kernel_rfl)
  have h8 := @run_callFunc_extern Tryz.prog 59 _ (ReflectliteValue.method (ReflectliteValue.valueError "reflectlite.Value.IsNil" 0) ReflectliteValue.isNil) Tryz.func59 (by kernel_rfl) (by kernel_rfl) (by kernel_rfl) (by kernel_rfl)
  have h27 := @run_callFunc_extern Tryz.prog 151 _ (ReflectliteType.abiMethod fun t => do pure (.int .u8 (← Rtype.kind t))) Tryz.func151 (by kernel_rfl) (by kernel_rfl) (by kernel_rfl) (by kernel_rfl)
  have h37 := @run_callFunc_extern Tryz.prog 162 _ (ReflectliteType.method ReflectliteType.elem) Tryz.func162 (by kernel_rfl) (by kernel_rfl) (by kernel_rfl) (by kernel_rfl)
  have h38 := @run_callFunc_extern Tryz.prog 163 _ (ReflectliteType.relation "Implements" ReflectliteType.implements_) Tryz.func163 (by kernel_rfl) (by kernel_rfl) (by kernel_rfl) (by kernel_rfl)
  have h10 := @run_callFunc_extern Tryz.prog 85 _ ReflectliteType.typeOf Tryz.func85 (by kernel_rfl) (by kernel_rfl) (by kernel_rfl) (by kernel_rfl)
  have h35 := @run_callFunc_extern Tryz.prog 160 _ (ReflectliteType.relation "AssignableTo" ReflectliteType.assignableTo) Tryz.func160 (by kernel_rfl) (by kernel_rfl) (by kernel_rfl) (by kernel_rfl)
  have h11 := @run_callFunc_extern Tryz.prog 86 _ (ReflectliteValue.method (ReflectliteValue.valueError "reflectlite.Value.Elem" 0) ReflectliteValue.elem) Tryz.func86 (by kernel_rfl) (by kernel_rfl) (by kernel_rfl) (by kernel_rfl)
  have h12 := @run_callFunc_extern Tryz.prog 87 _ ReflectliteValue.set Tryz.func87 (by kernel_rfl) (by kernel_rfl) (by kernel_rfl) (by kernel_rfl)
  have tO := eTypeOfU
  have mA := eMethodAssignableTo
  have a25 := eAsgU
  have v25 := eValueOfU
  have f6 := eValueOfP
  have f7 := eTypeP
  have mK := eMethodKind
  have mE := eMethodElem
  have mI := eMethodImplements
  have k27 := eKindP
  have k25 := eKindU
  have e27 := eElemP
  have i25 := eImplU
  have n8 := eIsNilP ⟨w.heap.size, 0, none⟩ t ((w.alloc (.cells #[.pointer (some t)] 55)).alloc (.cells #[.pointer (some ⟨10, 55, none⟩), .pointer (some ⟨w.heap.size, 0, none⟩), .int .u64 150] 94)) (by simp)
  have hlt : 0 < w.heap.size := World.block_lt_of_cell? _ _ hg
  have hg2 : ((w.alloc (.cells #[.pointer (some t)] 55)).alloc (.cells #[.pointer (some ⟨10, 55, none⟩), .pointer (some ⟨w.heap.size, 0, none⟩), .int .u64 150] 94)).cell? ⟨0, 0, none⟩ = some (.iface 131 (.agg #[.pointer (some ⟨10, 49, none⟩)])) := by
    rw [World.cell?_alloc_lt _ _ ⟨0, 0, none⟩ (by first | (simp; done) | (simp; omega)), World.cell?_alloc_lt _ _ ⟨0, 0, none⟩ hlt]; exact hg
  have htl : t.block < w.heap.size := World.block_lt_of_cell? _ _ ht0
  have el := eElemVP ⟨w.heap.size, 0, none⟩ t (((w.alloc (.cells #[.pointer (some t)] 55)).alloc (.cells #[.pointer (some ⟨10, 55, none⟩), .pointer (some ⟨w.heap.size, 0, none⟩), .int .u64 150] 94)).alloc (.cells #[.pointer (some ⟨10, 55, none⟩), .pointer (some ⟨w.heap.size, 0, none⟩), .int .u64 150] 94)) (by rw [World.cell?_alloc_lt _ _ ⟨w.heap.size, 0, none⟩ (by simp; omega)]; simp)
  have st := eSetU t (w.heap.size + 1 + 1 + 1) c old ((((w.alloc (.cells #[.pointer (some t)] 55)).alloc (.cells #[.pointer (some ⟨10, 55, none⟩), .pointer (some ⟨w.heap.size, 0, none⟩), .int .u64 150] 94)).alloc (.cells #[.pointer (some ⟨10, 55, none⟩), .pointer (some ⟨w.heap.size, 0, none⟩), .int .u64 150] 94)).alloc (.cells #[.int .i64 c] 53))
    (by have := heap_alloc_new (((w.alloc (.cells #[.pointer (some t)] 55)).alloc (.cells #[.pointer (some ⟨10, 55, none⟩), .pointer (some ⟨w.heap.size, 0, none⟩), .int .u64 150] 94)).alloc (.cells #[.pointer (some ⟨10, 55, none⟩), .pointer (some ⟨w.heap.size, 0, none⟩), .int .u64 150] 94)) (.cells #[.int .i64 c] 53); simpa using this)
    (by rw [World.cell?_alloc_lt _ _ t (by simp; omega), World.cell?_alloc_lt _ _ t (by simp; omega), World.cell?_alloc_lt _ _ t (by simp; omega), World.cell?_alloc_lt _ _ t htl]; exact ht0)
    (by rw [World.frozen?_alloc_old _ _ t (by simp; omega), World.frozen?_alloc_old _ _ t (by simp; omega), World.frozen?_alloc_old _ _ t (by simp; omega), World.frozen?_alloc_old _ _ t (Nat.ne_of_lt htl)]; exact hf0)
  go_enter Tryz.func26, Tryz.ntmps26
  go_wp2
  refine wp_loop_rounds 1 ?_
  rw [rounds_succ]
  go_wp2
  go_ret
  exact ⟨rfl, rfl⟩
theorem as_hit_below (c : Int) (t : Nat) (c0 : Int) (w : World) (hg : w.cell? ⟨0, 0, none⟩ = some (.iface 131 (.agg #[.pointer (some ⟨10, 49, none⟩)]))) (ht : w.heap[t]? = some (.cells #[.int .i64 c0] 53 (0, 0))) :
    Calls Tryz.prog 26 #[.iface 53 (.agg #[.int .i64 c]), .iface 55 (.pointer (some ⟨t, 0, none⟩))] w fun ev w' => ev = .returned (.bool true) ∧ ∃ W, Below w.heap.size w W ∧ w' = W.setCell ⟨t, 0, none⟩ (.int .i64 c) := by
  refine (as_hit c ⟨t, 0, none⟩ (.int .i64 c0) w hg ((cell_of_row _ _ _ _ _ _ ht).trans rfl) (blk_frozen ht 0)).mono ?_
  rintro e w' ⟨rfl, rfl⟩
  have b0 : Below w.heap.size w w := Below.refl _ _
  have b1 := b0.alloc b0.size (.cells #[.pointer (some ⟨t, 0, none⟩)] 55)
  have b2 := b1.alloc b1.size (.cells #[.pointer (some ⟨10, 55, none⟩), .pointer (some ⟨w.heap.size, 0, none⟩), .int .u64 150] 94)
  have b3 := b2.alloc b2.size (.cells #[.pointer (some ⟨10, 55, none⟩), .pointer (some ⟨w.heap.size, 0, none⟩), .int .u64 150] 94)
  have b4 := b3.alloc b3.size (.cells #[.int .i64 c] 53)
  exact ⟨rfl, _, b4, rfl⟩
end Go.Proofs.YtmplnpjdbfedbaaGreatDoor.X
namespace Go.Proofs.YtmplnpjdbfedbaaGreatDoor.X
open Go.RowKit Go.Proofs.YtmplnpjdbfedbaaGreatDoorW.PrintWords Go.Proofs.YtmplnpjdbfedbaaGreatDoorW.PrintLast Go.Proofs.YtmplnpjdbfedbaaGreatDoorW.PrintMore
attribute [local go_sem] max2_int min2_int max_two min_two max_three min_three max_four min_four
set_option linter.unusedVariables false
set_option linter.unusedSimpArgs false
section
abbrev UrlR := List (S65) × ByteArray × Int × Int
def zU (c : Int) : UrlR := ([], ⟨#[]⟩, 0, c)
def urlG (k : Nat) (l0 : List Int) (a1 : ByteArray) (a2 : Int) : Option (List (S65) × ByteArray × Int × Int) := if 500 < l0.length then some (zU 400) else if a1.size < 19 then some (zU 400) else if Lib.hasPrefix (a1.extract (a1.size - 3 - 16) a1.size).data.toList [38, 115, 61] = true then (impl_AskRead.f k (a1.extract 0 (a1.size - 3 - 16))).bind fun a => if a.2.2.2 = true then (impl_UrlText.f k l0 a.1 a.2.1 a.2.2.1).bind fun t => if t.toList = a1.toList then (if a.2.2.1 ≤ a2 then some (zU 403) else some (a.1, a.2.1, a.2.2.1, 200)) else some (zU 403) else some (zU 400) else some (zU 400)
def impl_UrlRead.f (k : Nat) (l0 : List Int) (a1 : ByteArray) (a2 : Int) : Option (List (S65) × ByteArray × Int × Int) := if a1.size ≤ 9223372036854775807 then urlG k l0 a1 a2 else none
def errOf (c : Int) : Value := if c = 200 then .nilIface else .iface 53 (.agg #[.int .i64 c])
theorem prefix_calls (s p : ByteArray) (b : Bool) (w : World) (h : Lib.hasPrefix s.data.toList p.data.toList = b) : Calls Tryz.prog 56 #[.string s, .string p] w fun e w' => e = .returned (.bool b) ∧ w' = w := by
 refine (Tryz.strings_HasPrefix s p w).mono ?_
 rintro e w' ⟨rfl, rfl⟩
 rw [h]
 exact ⟨rfl, rfl⟩
theorem tup4u {a a' : List (S65)} {b b' : ByteArray} {c c' d d' : Int} (h : some (a, b, c, d) = some (a', b', c', d')) : a = a' ∧ b = b' ∧ c = c' ∧ d = d' := by
 have := Option.some.inj h
 simp only [Prod.mk.injEq] at this
 exact this
structure UrlW (k : Nat) (w W : World) (b6 b9 : Nat) (v : Value) (l : List (S65)) (p : ByteArray) (n : Int) : Prop where
 h6 : W.heap[b6]? = some (.cells #[.slice none 0 0, .string ⟨#[]⟩, .int .i64 0] 25 (0, 0))
 h9 : W.heap[b9]? = some (.cells #[v, .string p, .int .i64 n] 25 (0, 0))
 g6 : w.heap.size ≤ b6
 l9 : b6 < b9
 bel : Below w.heap.size w W
 row : Kd.R k65 65 W w.heap.size (fun j => b6 < j ∧ j ≠ b9) v l
theorem UrlW.below {k : Nat} {w W W' : World} {b6 b9 : Nat} {v : Value} {l : List (S65)} {p : ByteArray} {n : Int} (h : UrlW k w W b6 b9 v l p n) (hb : Below W.heap.size W W') : UrlW k w W' b6 b9 v l p n := ⟨blk_below h.h6 hb, blk_below h.h9 hb, h.g6, h.l9, below_step h.bel hb, Kd.R_below h.row hb⟩
set_option maxHeartbeats 8000000 in
set_option maxRecDepth 100000 in
theorem urlCheck_calls (k : Nat) (A0 : Option Addr) (c0 : Nat) (l0 : List Int) (a1 : ByteArray) (a2 : Int) (r1 : List (S65)) (r2 : ByteArray) (r3 r4 : Int) (w : World) (hr0 : Kd.C (Kd.int .u8) w A0 l0.length l0) (hc0 : l0.length ≤ c0) (hsz : a1.size ≤ 9223372036854775807) (h : urlG k l0 a1 a2 = some (r1, r2, r3, r4)) (hG : Glob w) :
  Calls Tryz.prog 25 #[.slice A0 l0.length c0, .string a1, .int .i64 a2] w fun e w' => ∃ v0_ : Value, e = .returned (.tuple #[.agg #[v0_, .string r2, .int .i64 r3], errOf r4]) ∧ Kd.R k65 65 w' w.heap.size (fun _ => True) v0_ r1 ∧ Below w.heap.size w w' := by
 have HG := Aside0.mk hG; have HC0 := Aside0.mk hr0; have HCc := Aside0.mk hc0; clear hG hr0 hc0; have hu := Tryz.underlying25; have huf := Tryz.underlying53; have hz : ∀ w : World, (zeroValue 25).run Tryz.prog w = .ok (.agg #[.slice none 0 0, .string ⟨#[]⟩, .int .i64 0]) w := fun w => (by kernel_rfl); obtain ⟨n0, hn0⟩ : ∃ n, l0.length = n := ⟨_, rfl⟩; have HN0 := Aside0.mk hn0; have e3 : wrap64 ((a1.size : Int) - 3) = (a1.size : Int) - 3 := (by unfold wrap64; omega)
 unfold urlG at h
 rw [hn0] at h ⊢
 clear hn0
 by_cases h5 : 500 < n0
 · rw [if_pos h5] at h
   obtain ⟨rfl, rfl, rfl, rfl⟩ := tup4u h; have g5 : (500 : Int) < (n0 : Int) := (by omega); clear h
   go_enter Tryz.func25, Tryz.ntmps25
   go_wp2_with ((with_reducible refine gd_ 6 rfl ?_); refine bx_ 6 rfl #[.slice none 0 0, .string ⟨#[]⟩, .int .i64 0] 25 ?_; intro b6 hg w2 hbox hb; have HX2 := Aside0.mk hbox; have HB2 := Aside0.mk hb; have HG6 := Aside0.mk (show w.heap.size ≤ b6 by rw [hg]; exact Nat.le_refl _); obtain ⟨x0, x1, x2⟩ := cc3_ hbox; obtain ⟨f0, f1, f2⟩ := cf3_ hbox; clear hb hbox hg)
   refine bodyPost_ret (results_ct rfl _ _ b6 25 #[.slice none 0 0, .string ⟨#[]⟩, .int .i64 0] (0, 0) _ rfl (blk3 HX2.out) Tryz.underlying25 rfl (by kernel_rfl)) rfl ⟨_, rfl, Kd.R_nil _ _ _ _ _, below3 HB2.out HG6.out⟩
 · rw [if_neg h5] at h
   have g5 : ¬ ((500 : Int) < (n0 : Int)) := (by omega)
   by_cases h19 : a1.size < 19
   · rw [if_pos h19] at h
     obtain ⟨rfl, rfl, rfl, rfl⟩ := tup4u h; have e4 : wrap64 ((a1.size : Int) - 3 - 16) = (a1.size : Int) - 3 - 16 := (by unfold wrap64; omega); have g19 : (a1.size : Int) - 3 - 16 < 0 := (by omega); clear h
     go_enter Tryz.func25, Tryz.ntmps25
     go_wp2_with ((with_reducible refine gd_ 6 rfl ?_); refine bx_ 6 rfl #[.slice none 0 0, .string ⟨#[]⟩, .int .i64 0] 25 ?_; intro b6 hg w2 hbox hb; have HX2 := Aside0.mk hbox; have HB2 := Aside0.mk hb; have HG6 := Aside0.mk (show w.heap.size ≤ b6 by rw [hg]; exact Nat.le_refl _); obtain ⟨x0, x1, x2⟩ := cc3_ hbox; obtain ⟨f0, f1, f2⟩ := cf3_ hbox; clear hb hbox hg)
     refine bodyPost_ret (results_ct rfl _ _ b6 25 #[.slice none 0 0, .string ⟨#[]⟩, .int .i64 0] (0, 0) _ rfl (blk3 HX2.out) Tryz.underlying25 rfl (by kernel_rfl)) rfl ⟨_, rfl, Kd.R_nil _ _ _ _ _, below3 HB2.out HG6.out⟩
   · rw [if_neg h19] at h
     have e4 : wrap64 ((a1.size : Int) - 3 - 16) = (a1.size : Int) - 3 - 16 := (by unfold wrap64; omega); have g19 : ¬ ((a1.size : Int) - 3 - 16 < 0) := (by omega); have g20 : (a1.size : Int) - 3 - 16 ≤ (a1.size : Int) := (by omega); have g21 : (0 : Int) ≤ (a1.size : Int) - 3 - 16 := (by omega); clear h19
     by_cases hp : Lib.hasPrefix (a1.extract (a1.size - 3 - 16) a1.size).data.toList [38, 115, 61] = true
     · rw [if_pos hp] at h
       have HP : Aside0 (Lib.hasPrefix (a1.extract (a1.size - 3 - 16) a1.size).data.toList (⟨#[38, 115, 61]⟩ : ByteArray).data.toList = true) := ⟨hp⟩; clear hp; obtain ⟨⟨l, p, n, okv⟩, ha, h⟩ := Option.bind_eq_some_iff.1 h
       dsimp only at h
       have HA := Aside0.mk ha; clear ha
       go_enter Tryz.func25, Tryz.ntmps25
       go_upto_region 5 with (first | ((with_reducible refine gd_ 6 rfl ?_); refine bx_ 6 rfl #[.slice none 0 0, .string ⟨#[]⟩, .int .i64 0] 25 ?_; intro b6 hg w2 hbox hb; have HX2 := Aside0.mk hbox; have HB2 := Aside0.mk hb; have HG6 := Aside0.mk (show w.heap.size ≤ b6 by rw [hg]; exact Nat.le_refl _); obtain ⟨x0, x1, x2⟩ := cc3_ hbox; obtain ⟨f0, f1, f2⟩ := cf3_ hbox; clear hb hbox hg) | (go_at_call 56; refine (prefix_calls (a1.extract (a1.size - 3 - 16) a1.size) ⟨#[38, 115, 61]⟩ true _ HP.out).mono ?_; rintro e w3 ⟨rfl, rfl⟩) | (go_at_call 13; refine (impl_AskRead.calls k (a1.extract 0 (a1.size - 3 - 16)) l p n okv _ HA.out (HG.out.belowW HB2.out)).mono ?_; rintro e w4 ⟨v, rfl, hR, hb⟩; have HX4 := Aside0.mk (blk_below HX2.out hb); have HB4 := Aside0.mk (below_step HB2.out hb); have HR4 : Aside0 (Kd.R k65 65 w4 w.heap.size (fun j => b6 < j) v l) := ⟨Kd.R_lower (Kd.R_mono (Kd.R_bound hR) (fun j hj => Nat.lt_of_lt_of_le (blk_lt HX2.out) hj.2.1)) HB2.out.size⟩; obtain ⟨A4, c4, rfl, hc4, hr4⟩ := Kd.R_reads hR; clear hb hR hc4 hr4) | ((with_reducible refine gd_ 9 rfl ?_); refine bx_ 9 rfl #[.slice none 0 0, .string ⟨#[]⟩, .int .i64 0] 25 ?_; intro b9 hg w5 hbox hb; have HX5 := Aside0.mk (blk_below HX4.out hb); have HN5 := Aside0.mk hbox; have H69 := Aside0.mk (show b6 < b9 by rw [hg]; exact blk_lt HX4.out); have HR5 := Aside0.mk (Kd.R_below (Kd.R_elderB HR4.out b9 (Nat.le_of_eq hg.symm)) hb); have HB5 := Aside0.mk (below_step HB4.out hb); clear x0 x1 x2 f0 f1 f2; obtain ⟨x0, x1, x2⟩ := cc3_ hbox; obtain ⟨f0, f1, f2⟩ := cf3_ hbox; clear hb hbox hg))
       generalize hw6 : ((w5.setCell ⟨b9, 0, none⟩ (.slice A4 l.length c4)).setCell ⟨b9, 1, none⟩ (.string p)).setCell ⟨b9, 2, none⟩ (.int .i64 n) = w6
       have H6 : Aside0 (UrlW k w w6 b6 b9 (.slice A4 l.length c4) l p n) := ⟨by
        rw [← hw6]
        have n9 : b6 ≠ b9 := Nat.ne_of_lt H69.out; have g9 : w.heap.size ≤ b9 := Nat.le_trans HG6.out (Nat.le_of_lt H69.out)
        exact ⟨blk_far (p := ⟨b9, 2, none⟩) (blk_far (p := ⟨b9, 1, none⟩) (blk_far (p := ⟨b9, 0, none⟩) HX5.out n9 _) n9 _) n9 _, blk3 HN5.out, HG6.out, H69.out, below3 HB5.out g9, Kd.R_far (p := ⟨b9, 2, none⟩) (Kd.R_far (p := ⟨b9, 1, none⟩) (Kd.R_far (p := ⟨b9, 0, none⟩) HR5.out (fun j hj => by show j ≠ b9; exact hj.2) _) (fun j hj => by show j ≠ b9; exact hj.2) _) (fun j hj => by show j ≠ b9; exact hj.2) _⟩⟩
       clear hw6 x0 x1 x2 f0 f1 f2; obtain ⟨x0, x1, x2⟩ := cc3_ H6.out.h6; obtain ⟨f0, f1, f2⟩ := cf3_ H6.out.h6; obtain ⟨y0, y1, y2⟩ := cc3_ H6.out.h9
       cases okv with
       | false =>
        rw [if_neg (by decide)] at h
        obtain ⟨rfl, rfl, rfl, rfl⟩ := tup4u h; clear h
        go_wp2
        refine bodyPost_ret (results_ct rfl _ _ b6 25 #[.slice none 0 0, .string ⟨#[]⟩, .int .i64 0] (0, 0) _ rfl (blk3 H6.out.h6) Tryz.underlying25 rfl (by kernel_rfl)) rfl ⟨_, rfl, Kd.R_nil _ _ _ _ _, below3 H6.out.bel H6.out.g6⟩
       | true =>
        rw [if_pos rfl] at h
        obtain ⟨tx, htx, h⟩ := Option.bind_eq_some_iff.1 h; have HTX := Aside0.mk htx; clear htx
        by_cases hc : tx.toList = a1.toList
        · rw [if_pos hc] at h
          have k0 := beq_iff_eq.mpr hc; have k1 := bne_eq_false_iff_eq.mpr hc; clear hc
          by_cases hn : n ≤ a2
          · rw [if_pos hn] at h
            obtain ⟨rfl, rfl, rfl, rfl⟩ := tup4u h; clear h
            go_wp2_with (go_at_call 7; rw [← HN0.out]; refine (impl_UrlText.calls k A0 c0 l0 A4 c4 l p n tx _ (Kd.C_below HC0.out H6.out.bel) HCc.out (Kd.R_reads' H6.out.row).2.2 (Kd.R_reads' H6.out.row).2.1 HTX.out (HG.out.belowW H6.out.bel)).mono ?_; rw [HN0.out]; rintro e w7 ⟨rfl, hb⟩; have H7 := Aside0.mk (H6.out.below hb); clear x0 x1 x2 f0 f1 f2 y0 y1 y2; obtain ⟨x0, x1, x2⟩ := cc3_ H7.out.h6; obtain ⟨f0, f1, f2⟩ := cf3_ H7.out.h6; obtain ⟨y0, y1, y2⟩ := cc3_ H7.out.h9; clear hb)
            refine bodyPost_ret (results_ct rfl _ _ b6 25 #[.slice none 0 0, .string ⟨#[]⟩, .int .i64 0] (0, 0) _ rfl (blk3 H7.out.h6) Tryz.underlying25 rfl (by kernel_rfl)) rfl ⟨_, rfl, Kd.R_nil _ _ _ _ _, below3 H7.out.bel H7.out.g6⟩
          · rw [if_neg hn] at h
            obtain ⟨rfl, rfl, rfl, rfl⟩ := tup4u h; clear h
            go_wp2_with (go_at_call 7; rw [← HN0.out]; refine (impl_UrlText.calls k A0 c0 l0 A4 c4 l p n tx _ (Kd.C_below HC0.out H6.out.bel) HCc.out (Kd.R_reads' H6.out.row).2.2 (Kd.R_reads' H6.out.row).2.1 HTX.out (HG.out.belowW H6.out.bel)).mono ?_; rw [HN0.out]; rintro e w7 ⟨rfl, hb⟩; have H7 := Aside0.mk (H6.out.below hb); clear x0 x1 x2 f0 f1 f2 y0 y1 y2; obtain ⟨x0, x1, x2⟩ := cc3_ H7.out.h6; obtain ⟨f0, f1, f2⟩ := cf3_ H7.out.h6; obtain ⟨y0, y1, y2⟩ := cc3_ H7.out.h9; clear hb)
            refine bodyPost_ret (results_ct rfl _ _ b6 25 #[.slice A4 l.length c4, .string p, .int .i64 n] (0, 0) _ rfl (blk3 H7.out.h6) Tryz.underlying25 rfl (by kernel_rfl)) rfl ⟨_, rfl, ?_, below3 H7.out.bel H7.out.g6⟩
            exact Kd.R_mono (Kd.R_far (p := ⟨b6, 2, none⟩) (Kd.R_far (p := ⟨b6, 1, none⟩) (Kd.R_far (p := ⟨b6, 0, none⟩) H7.out.row (fun j hj => by show j ≠ b6; exact Nat.ne_of_gt hj.1) _) (fun j hj => by show j ≠ b6; exact Nat.ne_of_gt hj.1) _) (fun j hj => by show j ≠ b6; exact Nat.ne_of_gt hj.1) _) (fun _ _ => trivial)
        · rw [if_neg hc] at h
          obtain ⟨rfl, rfl, rfl, rfl⟩ := tup4u h; have k0 := beq_eq_false_iff_ne.mpr hc; have k1 := bne_iff_ne.mpr hc; clear hc h
          go_wp2_with (go_at_call 7; rw [← HN0.out]; refine (impl_UrlText.calls k A0 c0 l0 A4 c4 l p n tx _ (Kd.C_below HC0.out H6.out.bel) HCc.out (Kd.R_reads' H6.out.row).2.2 (Kd.R_reads' H6.out.row).2.1 HTX.out (HG.out.belowW H6.out.bel)).mono ?_; rw [HN0.out]; rintro e w7 ⟨rfl, hb⟩; have H7 := Aside0.mk (H6.out.below hb); clear x0 x1 x2 f0 f1 f2 y0 y1 y2; obtain ⟨x0, x1, x2⟩ := cc3_ H7.out.h6; obtain ⟨f0, f1, f2⟩ := cf3_ H7.out.h6; obtain ⟨y0, y1, y2⟩ := cc3_ H7.out.h9; clear hb)
          refine bodyPost_ret (results_ct rfl _ _ b6 25 #[.slice none 0 0, .string ⟨#[]⟩, .int .i64 0] (0, 0) _ rfl (blk3 H7.out.h6) Tryz.underlying25 rfl (by kernel_rfl)) rfl ⟨_, rfl, Kd.R_nil _ _ _ _ _, below3 H7.out.bel H7.out.g6⟩
     · rw [if_neg hp] at h
       obtain ⟨rfl, rfl, rfl, rfl⟩ := tup4u h; have HP : Aside0 (Lib.hasPrefix (a1.extract (a1.size - 3 - 16) a1.size).data.toList (⟨#[38, 115, 61]⟩ : ByteArray).data.toList = false) := ⟨by simpa using hp⟩; clear hp h
       go_enter Tryz.func25, Tryz.ntmps25
       go_wp2_with (first | ((with_reducible refine gd_ 6 rfl ?_); refine bx_ 6 rfl #[.slice none 0 0, .string ⟨#[]⟩, .int .i64 0] 25 ?_; intro b6 hg w2 hbox hb; have HX2 := Aside0.mk hbox; have HB2 := Aside0.mk hb; have HG6 := Aside0.mk (show w.heap.size ≤ b6 by rw [hg]; exact Nat.le_refl _); obtain ⟨x0, x1, x2⟩ := cc3_ hbox; obtain ⟨f0, f1, f2⟩ := cf3_ hbox; clear hb hbox hg) | (go_at_call 56; refine (prefix_calls (a1.extract (a1.size - 3 - 16) a1.size) ⟨#[38, 115, 61]⟩ false _ HP.out).mono ?_; rintro e w3 ⟨rfl, rfl⟩))
       refine bodyPost_ret (results_ct rfl _ _ b6 25 #[.slice none 0 0, .string ⟨#[]⟩, .int .i64 0] (0, 0) _ rfl (blk3 HX2.out) Tryz.underlying25 rfl (by kernel_rfl)) rfl ⟨_, rfl, Kd.R_nil _ _ _ _ _, below3 HB2.out HG6.out⟩
theorem urlG_zero (k : Nat) (l0 : List Int) (a1 : ByteArray) (a2 : Int) (r1 : List (S65)) (r2 : ByteArray) (r3 r4 : Int) (h : urlG k l0 a1 a2 = some (r1, r2, r3, r4)) (hr : r4 ≠ 200) : r1 = [] ∧ r2 = ⟨#[]⟩ ∧ r3 = 0 := by
 unfold urlG at h
 split at h
 · obtain ⟨rfl, rfl, rfl, rfl⟩ := tup4u h; exact ⟨rfl, rfl, rfl⟩
 split at h
 · obtain ⟨rfl, rfl, rfl, rfl⟩ := tup4u h; exact ⟨rfl, rfl, rfl⟩
 split at h
 · obtain ⟨a, ha, h⟩ := Option.bind_eq_some_iff.1 h
   split at h
   · obtain ⟨t, ht, h⟩ := Option.bind_eq_some_iff.1 h
     split at h
     · split at h
       · obtain ⟨rfl, rfl, rfl, rfl⟩ := tup4u h; exact ⟨rfl, rfl, rfl⟩
       · obtain ⟨rfl, rfl, rfl, rfl⟩ := tup4u h; exact absurd rfl hr
     · obtain ⟨rfl, rfl, rfl, rfl⟩ := tup4u h; exact ⟨rfl, rfl, rfl⟩
   · obtain ⟨rfl, rfl, rfl, rfl⟩ := tup4u h; exact ⟨rfl, rfl, rfl⟩
 · obtain ⟨rfl, rfl, rfl, rfl⟩ := tup4u h; exact ⟨rfl, rfl, rfl⟩
set_option maxHeartbeats 8000000 in
set_option maxRecDepth 100000 in
theorem impl_UrlRead.calls (k : Nat) (A0 : Option Addr) (c0 : Nat) (l0 : List Int) (a1 : ByteArray) (a2 : Int) (r1 : List (S65)) (r2 : ByteArray) (r3 r4 : Int) (w : World) (hr0 : Kd.C (Kd.int .u8) w A0 l0.length l0) (hc0 : l0.length ≤ c0) (h : impl_UrlRead.f k l0 a1 a2 = some (r1, r2, r3, r4)) (hG : Glob w) :
  Calls Tryz.prog 10 #[.slice A0 l0.length c0, .string a1, .int .i64 a2] w fun e w' => ∃ v0_ : Value, e = .returned (.tuple #[.agg #[v0_, .string r2, .int .i64 r3], .int .i64 r4]) ∧ Kd.R k65 65 w' w.heap.size (fun _ => True) v0_ r1 ∧ Below w.heap.size w w' := by
 unfold impl_UrlRead.f at h
 by_cases hsz : a1.size ≤ 9223372036854775807
 case neg => rw [if_neg hsz] at h; cases h
 rw [if_pos hsz] at h
 have HG := Aside0.mk hG; have HC0 := Aside0.mk hr0; have HCc := Aside0.mk hc0; have H := Aside0.mk h; have HSZ := Aside0.mk hsz; have hzero := urlG_zero _ _ _ _ _ _ _ _ h; clear hG hr0 hc0 h hsz; have hu := Tryz.underlying25; have huf := Tryz.underlying53; have hz : ∀ w : World, (zeroValue 25).run Tryz.prog w = .ok (.agg #[.slice none 0 0, .string ⟨#[]⟩, .int .i64 0]) w := fun w => (by kernel_rfl); have hzf : ∀ w : World, (zeroValue 53).run Tryz.prog w = .ok (.agg #[.int .i64 0]) w := fun w => (by kernel_rfl); obtain ⟨n0, hn0⟩ : ∃ n, l0.length = n := ⟨_, rfl⟩; have HN0 := Aside0.mk hn0
 rw [hn0]
 clear hn0
 by_cases hr : r4 = 200
 · clear hzero
   have HE : Aside0 (errOf r4 = .nilIface) := ⟨by unfold errOf; rw [if_pos hr]⟩
   go_enter Tryz.func10, Tryz.ntmps10
   go_upto_region 2 with (first | ((with_reducible refine gd_ 6 rfl ?_); refine bx_ 6 rfl #[.slice none 0 0, .string ⟨#[]⟩, .int .i64 0] 25 ?_; intro b6 hg w2 hbox hb; have HX2 := Aside0.mk hbox; have HB2 := Aside0.mk hb; have HG6 := Aside0.mk (show w.heap.size ≤ b6 by rw [hg]; exact Nat.le_refl _); obtain ⟨x0, x1, x2⟩ := cc3_ hbox; obtain ⟨f0, f1, f2⟩ := cf3_ hbox; clear hb hbox hg) | (go_at_call 25; rw [← HN0.out]; refine (urlCheck_calls k A0 c0 l0 a1 a2 r1 r2 r3 r4 _ (Kd.C_below HC0.out HB2.out) HCc.out HSZ.out H.out (HG.out.belowW HB2.out)).mono ?_; rw [HN0.out]; rintro e w4 ⟨v, rfl, hR, hb⟩; rw [HE.out]; have HX4 := Aside0.mk (blk_below HX2.out hb); have HB4 := Aside0.mk (below_step HB2.out hb); have HR4 : Aside0 (Kd.R k65 65 w4 w.heap.size (fun j => b6 < j) v r1) := ⟨Kd.R_lower (Kd.R_mono (Kd.R_bound hR) (fun j hj => Nat.lt_of_lt_of_le (blk_lt HX2.out) hj.2.1)) HB2.out.size⟩; obtain ⟨A4, c4, rfl, hc4, hr4⟩ := Kd.R_reads hR; clear hb hR hc4 hr4) | ((with_reducible refine gd_ 8 rfl ?_); refine bx_ 8 rfl #[.slice none 0 0, .string ⟨#[]⟩, .int .i64 0] 25 ?_; intro b8 hg w5 hbox hb; have HX5 := Aside0.mk (blk_below HX4.out hb); have HN5 := Aside0.mk hbox; have H68 := Aside0.mk (show b6 < b8 by rw [hg]; exact blk_lt HX4.out); have HR5 := Aside0.mk (Kd.R_below (Kd.R_elderB HR4.out b8 (Nat.le_of_eq hg.symm)) hb); have HB5 := Aside0.mk (below_step HB4.out hb); clear x0 x1 x2 f0 f1 f2; obtain ⟨x0, x1, x2⟩ := cc3_ hbox; obtain ⟨f0, f1, f2⟩ := cf3_ hbox; clear hb hbox hg))
   generalize hw6 : ((w5.setCell ⟨b8, 0, none⟩ (.slice A4 r1.length c4)).setCell ⟨b8, 1, none⟩ (.string r2)).setCell ⟨b8, 2, none⟩ (.int .i64 r3) = w6
   have H6 : Aside0 (UrlW k w w6 b6 b8 (.slice A4 r1.length c4) r1 r2 r3) := ⟨by
    rw [← hw6]
    have n9 : b6 ≠ b8 := Nat.ne_of_lt H68.out; have g9 : w.heap.size ≤ b8 := Nat.le_trans HG6.out (Nat.le_of_lt H68.out)
    exact ⟨blk_far (p := ⟨b8, 2, none⟩) (blk_far (p := ⟨b8, 1, none⟩) (blk_far (p := ⟨b8, 0, none⟩) HX5.out n9 _) n9 _) n9 _, blk3 HN5.out, HG6.out, H68.out, below3 HB5.out g9, Kd.R_far (p := ⟨b8, 2, none⟩) (Kd.R_far (p := ⟨b8, 1, none⟩) (Kd.R_far (p := ⟨b8, 0, none⟩) HR5.out (fun j hj => by show j ≠ b8; exact hj.2) _) (fun j hj => by show j ≠ b8; exact hj.2) _) (fun j hj => by show j ≠ b8; exact hj.2) _⟩⟩
   clear hw6 x0 x1 x2 f0 f1 f2; obtain ⟨x0, x1, x2⟩ := cc3_ H6.out.h6; obtain ⟨f0, f1, f2⟩ := cf3_ H6.out.h6; obtain ⟨y0, y1, y2⟩ := cc3_ H6.out.h9
   go_wp2_with (first | ((with_reducible refine gd_ 10 rfl ?_); refine bx_ 10 rfl #[.int .i64 0] 53 ?_; intro b10 hg w7 hbox hb; have H7 := Aside0.mk (H6.out.below hb); have HF7 := Aside0.mk hbox; have H10 := Aside0.mk (show w.heap.size ≤ b10 by rw [hg]; exact H6.out.bel.size); have H10a := Aside0.mk (show b6 < b10 by rw [hg]; exact blk_lt H6.out.h6); have H10b := Aside0.mk (show b8 < b10 by rw [hg]; exact blk_lt H6.out.h9); have HR7 := Aside0.mk (Kd.R_below (Kd.R_elderB H6.out.row b10 (Nat.le_of_eq hg.symm)) hb); clear x0 x1 x2 f0 f1 f2 y0 y1 y2; obtain ⟨x0, x1, x2⟩ := cc3_ H7.out.h6; obtain ⟨f0, f1, f2⟩ := cf3_ H7.out.h6; obtain ⟨y0, y1, y2⟩ := cc3_ H7.out.h9; clear hb hbox hg) | (go_at_call 26; refine (as_nil _ _).mono ?_; rintro e w8 ⟨rfl, rfl⟩))
   rw [hr]
   refine bodyPost_ret (results_ct rfl _ _ b6 25 #[.slice A4 r1.length c4, .string r2, .int .i64 r3] (0, 0) _ rfl (blk3 H7.out.h6) Tryz.underlying25 rfl (by kernel_rfl)) rfl ⟨_, rfl, ?_, below3 H7.out.bel H7.out.g6⟩
   exact Kd.R_mono (Kd.R_far (p := ⟨b6, 2, none⟩) (Kd.R_far (p := ⟨b6, 1, none⟩) (Kd.R_far (p := ⟨b6, 0, none⟩) H7.out.row (fun j hj => by show j ≠ b6; exact Nat.ne_of_gt hj.1) _) (fun j hj => by show j ≠ b6; exact Nat.ne_of_gt hj.1) _) (fun j hj => by show j ≠ b6; exact Nat.ne_of_gt hj.1) _) (fun _ _ => trivial)
 · obtain ⟨q1, q2, q3⟩ := hzero hr
   have Q1 := Aside0.mk q1; have Q2 := Aside0.mk q2; have Q3 := Aside0.mk q3; clear hzero q1 q2 q3; have HE : Aside0 (errOf r4 = .iface 53 (.agg #[.int .i64 r4])) := ⟨by unfold errOf; rw [if_neg hr]⟩
   go_enter Tryz.func10, Tryz.ntmps10
   go_upto_region 2 with (first | ((with_reducible refine gd_ 6 rfl ?_); refine bx_ 6 rfl #[.slice none 0 0, .string ⟨#[]⟩, .int .i64 0] 25 ?_; intro b6 hg w2 hbox hb; have HX2 := Aside0.mk hbox; have HB2 := Aside0.mk hb; have HG6 := Aside0.mk (show w.heap.size ≤ b6 by rw [hg]; exact Nat.le_refl _); obtain ⟨x0, x1, x2⟩ := cc3_ hbox; obtain ⟨f0, f1, f2⟩ := cf3_ hbox; clear hb hbox hg) | (go_at_call 25; rw [← HN0.out]; refine (urlCheck_calls k A0 c0 l0 a1 a2 r1 r2 r3 r4 _ (Kd.C_below HC0.out HB2.out) HCc.out HSZ.out H.out (HG.out.belowW HB2.out)).mono ?_; rw [HN0.out]; rintro e w4 ⟨v, rfl, hR, hb⟩; rw [HE.out]; have HX4 := Aside0.mk (blk_below HX2.out hb); have HB4 := Aside0.mk (below_step HB2.out hb); have HR4 : Aside0 (Kd.R k65 65 w4 w.heap.size (fun j => b6 < j) v r1) := ⟨Kd.R_lower (Kd.R_mono (Kd.R_bound hR) (fun j hj => Nat.lt_of_lt_of_le (blk_lt HX2.out) hj.2.1)) HB2.out.size⟩; obtain ⟨A4, c4, rfl, hc4, hr4⟩ := Kd.R_reads hR; clear hb hR hc4 hr4) | ((with_reducible refine gd_ 8 rfl ?_); refine bx_ 8 rfl #[.slice none 0 0, .string ⟨#[]⟩, .int .i64 0] 25 ?_; intro b8 hg w5 hbox hb; have HX5 := Aside0.mk (blk_below HX4.out hb); have HN5 := Aside0.mk hbox; have H68 := Aside0.mk (show b6 < b8 by rw [hg]; exact blk_lt HX4.out); have HR5 := Aside0.mk (Kd.R_below (Kd.R_elderB HR4.out b8 (Nat.le_of_eq hg.symm)) hb); have HB5 := Aside0.mk (below_step HB4.out hb); clear x0 x1 x2 f0 f1 f2; obtain ⟨x0, x1, x2⟩ := cc3_ hbox; obtain ⟨f0, f1, f2⟩ := cf3_ hbox; clear hb hbox hg))
   generalize hw6 : ((w5.setCell ⟨b8, 0, none⟩ (.slice A4 r1.length c4)).setCell ⟨b8, 1, none⟩ (.string r2)).setCell ⟨b8, 2, none⟩ (.int .i64 r3) = w6
   have H6 : Aside0 (UrlW k w w6 b6 b8 (.slice A4 r1.length c4) r1 r2 r3) := ⟨by
    rw [← hw6]
    have n9 : b6 ≠ b8 := Nat.ne_of_lt H68.out; have g9 : w.heap.size ≤ b8 := Nat.le_trans HG6.out (Nat.le_of_lt H68.out)
    exact ⟨blk_far (p := ⟨b8, 2, none⟩) (blk_far (p := ⟨b8, 1, none⟩) (blk_far (p := ⟨b8, 0, none⟩) HX5.out n9 _) n9 _) n9 _, blk3 HN5.out, HG6.out, H68.out, below3 HB5.out g9, Kd.R_far (p := ⟨b8, 2, none⟩) (Kd.R_far (p := ⟨b8, 1, none⟩) (Kd.R_far (p := ⟨b8, 0, none⟩) HR5.out (fun j hj => by show j ≠ b8; exact hj.2) _) (fun j hj => by show j ≠ b8; exact hj.2) _) (fun j hj => by show j ≠ b8; exact hj.2) _⟩⟩
   clear hw6 x0 x1 x2 f0 f1 f2; obtain ⟨x0, x1, x2⟩ := cc3_ H6.out.h6; obtain ⟨f0, f1, f2⟩ := cf3_ H6.out.h6; obtain ⟨y0, y1, y2⟩ := cc3_ H6.out.h9
   go_wp2_with (first | ((with_reducible refine gd_ 10 rfl ?_); refine bx_ 10 rfl #[.int .i64 0] 53 ?_; intro b10 hg w7 hbox hb; have H7 := Aside0.mk (H6.out.below hb); have HF7 := Aside0.mk hbox; have H10 := Aside0.mk (show w.heap.size ≤ b10 by rw [hg]; exact H6.out.bel.size); have H10a := Aside0.mk (show b6 < b10 by rw [hg]; exact blk_lt H6.out.h6); have H10b := Aside0.mk (show b8 < b10 by rw [hg]; exact blk_lt H6.out.h9); have HR7 := Aside0.mk (Kd.R_below (Kd.R_elderB H6.out.row b10 (Nat.le_of_eq hg.symm)) hb); clear x0 x1 x2 f0 f1 f2 y0 y1 y2; obtain ⟨x0, x1, x2⟩ := cc3_ H7.out.h6; obtain ⟨f0, f1, f2⟩ := cf3_ H7.out.h6; obtain ⟨y0, y1, y2⟩ := cc3_ H7.out.h9; clear hb hbox hg) | (go_at_call 26; refine (as_hit_below r4 b10 0 _ (HG.out.belowW H7.out.bel).err HF7.out).mono ?_; rintro e w8 ⟨rfl, W, hb, hw8⟩; have H8 : Aside0 (w8.heap[b6]? = some (.cells #[.slice none 0 0, .string ⟨#[]⟩, .int .i64 0] 25 (0, 0)) ∧ w8.heap[b10]? = some (.cells #[.int .i64 r4] 53 (0, 0)) ∧ Below w.heap.size w w8) := ⟨by rw [hw8]; exact ⟨blk_far (p := ⟨b10, 0, none⟩) (blk_below H7.out.h6 hb) (Nat.ne_of_lt H10a.out) _, blk_set (blk_below HF7.out hb) 0 _, (below_step H7.out.bel hb).setCell (p := ⟨b10, 0, none⟩) H10.out _⟩⟩; clear hw8 hb x0 x1 x2 f0 f1 f2 y0 y1 y2; obtain ⟨x0, x1, x2⟩ := cc3_ H8.out.1; obtain ⟨f0, f1, f2⟩ := cf3_ H8.out.1; have z0 : w8.cell? ⟨b10, 0, none⟩ = some (.int .i64 r4) := (blk_cell H8.out.2.1 0).trans rfl))
   have z1 : (w8.setCell ⟨b6, 0, none⟩ (.slice none 0 0)).cell? ⟨b10, 0, none⟩ = some (.int .i64 r4) := (blk_cell (blk_far (p := ⟨b6, 0, none⟩) H8.out.2.1 (Nat.ne_of_gt H10a.out) _) 0).trans rfl
   go_region
   go_wp2
   obtain ⟨q1⟩ := Q1; obtain ⟨q2⟩ := Q2; obtain ⟨q3⟩ := Q3
   rw [q1, q2, q3]
   refine bodyPost_ret (results_ct rfl _ _ b6 25 #[.slice none 0 0, .string ⟨#[]⟩, .int .i64 0] (0, 0) _ rfl (blk3 H8.out.1) Tryz.underlying25 rfl (by kernel_rfl)) rfl ⟨_, rfl, Kd.R_nil _ _ _ _ _, below_drew (below3 H8.out.2.2 H6.out.g6)⟩
end
section
open Go.Proofs.YtmplnpjdbfedbaaGreatDoorW.PrintWords.Aside0 renaming mk → yaa
open Go.Proofs.YtmplnpjdbfedbaaGreatDoorW.PrintWords.Kd renaming R_far → yab, R_below → yad, R_alloc → yag, R_drewN → yah, R_types → yai, R_drew → yaj, R_mono → yak, R_elder' → yan, R_new' → yap
open Go.Proofs.YtmplnpjdbfedbaaGreatDoorW.PrintWords renaming pw_below_drewN → yac, below_alloc → yae, below_drew1 → yaf, blk_below → yal, below_set → yam, below_step → yao
def laws_FnUrlWords.j0 : Nat → ByteArray → Bool → Int → Bool → Option (Bool)
 | 0, _, _, _, _ => none
 | k + 1, x3, x6, x11, x72 => if x72 = true then (some false) else (if x6 = true then ((impl_AskRead.f k x3).bind fun bt147 => (if ((x11 == 200) == (decide (bt147.2.2.1 > 0))) = true then (some (x11 != 400)) else (some false))) else (some (x11 == 400)))
def laws_FnUrlWords.f (k : Nat) (l0 : List Int) : Option (Bool) := if (l0.length : Int) > 1048576 then (some true) else ((spec_DrawAskRead.f k l0).bind fun t101 => ((spec_DrawHexText.f k l0).bind fun t102 => ((impl_AskRead.f k t101).bind fun bt105 => ((spec_AskRead.f k t101).bind fun bt112 => (if (bt105.2.2.2 != bt112.2.2.2) = true then (some false) else (if t101.size ≤ 9223372036854775807 then ((impl_ShaMac.f t102 (bytesN t101)).bind fun t122 => ((impl_HexText.f k t122).bind fun t125 => (if t101.size + 3 ≤ 9223372036854775807 then (if 0 ≤ (mn (t125.size : Int) 16) then (if (mn (t125.size : Int) 16) ≤ (t125.size : Int) then (if (t101 ++ (⟨#[38, 115, 61]⟩ : ByteArray)).size + (t125.extract 0 ((mn (t125.size : Int) 16) : Int).toNat).size ≤ 9223372036854775807 then ((impl_UrlRead.f k t102 ((t101 ++ (⟨#[38, 115, 61]⟩ : ByteArray)) ++ (t125.extract 0 ((mn (t125.size : Int) 16) : Int).toNat)) 0).bind fun bt126 => ((impl_UrlRead.f k t102 (⟨#[]⟩ : ByteArray) 0).bind fun bt133 => ((impl_UrlRead.f k t102 t101 0).bind fun bt140 => (if bt133.2.2.2 = 400 then (laws_FnUrlWords.j0 k t101 bt105.2.2.2 bt126.2.2.2 (bt140.2.2.2 != 400)) else (laws_FnUrlWords.j0 k t101 bt105.2.2.2 bt126.2.2.2 true))))) else (none)) else (none)) else (none)) else (none)))) else (none)))))))
set_option maxHeartbeats 8000000 in
set_option maxRecDepth 100000 in
theorem laws_FnUrlWords.calls (k : Nat) (A0 : Option Addr) (c0 : Nat) (l0 : List Int) (r : Bool) (w : World) (hr0 : Kd.C (Kd.int .u8) w A0 l0.length l0) (hc0 : l0.length ≤ c0) (h : laws_FnUrlWords.f k l0 = some r) (hrt : r = true) (hG : Glob w) :
  Calls Tryz.prog 5 #[.slice A0 l0.length c0] w fun e w' => e = .returned (.bool r) ∧ Below w.heap.size w w' := by
 have HG := yaa hG; clear hG; have hu25 := Tryz.underlying25; have HR0 := yaa hr0; have HC0 := yaa hc0; clear hr0 hc0; have HB := yaa (Below.refl w.heap.size w); have H : (if (l0.length : Int) > 1048576 then (some true) else ((spec_DrawAskRead.f k l0).bind fun b1 => ((spec_DrawHexText.f k l0).bind fun d7 => ((impl_AskRead.f k b1).bind fun k2 => ((spec_AskRead.f k b1).bind fun o6 => (if (k2.2.2.2 != o6.2.2.2) = true then (some false) else (if b1.size ≤ 9223372036854775807 then ((impl_ShaMac.f d7 (bytesN b1)).bind fun i3 => ((impl_HexText.f k i3).bind fun b9 => (if b1.size + 3 ≤ 9223372036854775807 then (if 0 ≤ (mn (b9.size : Int) 16) then (if (mn (b9.size : Int) 16) ≤ (b9.size : Int) then (if (b1 ++ (⟨#[38, 115, 61]⟩ : ByteArray)).size + (b9.extract 0 ((mn (b9.size : Int) 16) : Int).toNat).size ≤ 9223372036854775807 then ((impl_UrlRead.f k d7 ((b1 ++ (⟨#[38, 115, 61]⟩ : ByteArray)) ++ (b9.extract 0 ((mn (b9.size : Int) 16) : Int).toNat)) 0).bind fun i0 => ((impl_UrlRead.f k d7 (⟨#[]⟩ : ByteArray) 0).bind fun k3 => ((impl_UrlRead.f k d7 b1 0).bind fun k4 => (if k3.2.2.2 = 400 then (laws_FnUrlWords.j0 k b1 k2.2.2.2 i0.2.2.2 (k4.2.2.2 != 400)) else (laws_FnUrlWords.j0 k b1 k2.2.2.2 i0.2.2.2 true))))) else (none)) else (none)) else (none)) else (none)))) else (none)))))))) = some r := h; clear h
 by_cases c2 : (l0.length : Int) > 1048576
 ·
  rw [if_pos c2] at H
  have o7 : decide (1048576 < (l0.length : Int)) = true := decide_eq_true c2; have o8 : decide (1048576 < l0.length) = true := decide_eq_true (by omega); clear c2; obtain rfl := Option.some.inj H
  go_enter Tryz.func5, Tryz.ntmps5
  go_wp2
  go_ret
  exact ⟨by first | rfl | (simp [*, errW_none, errW_some] <;> rfl), upH HB.out⟩
 rw [if_neg c2] at H
 have o7 : decide (1048576 < (l0.length : Int)) = false := decide_eq_false c2; have o8 : decide (1048576 < l0.length) = false := decide_eq_false (by omega); clear c2; obtain ⟨b1, A3, H⟩ := bindA H; (try dsimp only at H); obtain ⟨d7, A4, H⟩ := bindA H; (try dsimp only at H); obtain ⟨⟨e0, g5, h5, f6⟩, A5, H⟩ := bindA H; (try dsimp only at H); obtain ⟨⟨e6, h6, i1, h7⟩, A6, H⟩ := bindA H; (try dsimp only at H)
 by_cases c7 : (f6 != h7) = true
 ·
  rw [if_pos c7] at H
  have o9 : (f6 != h7) = true := c7
  (try (have p0 : decide (f6 = h7) = false := by simpa using c7))
  (try (have p1 : (f6 == h7) = false := by simpa using c7))
  (try (have x5 : ¬ (f6 = h7) := by simpa using c7))
  clear c7
  rw [hrt] at H
  exact absurd H (by simp)
 rw [if_neg c7] at H
 have o9 : (f6 != h7) = false := (by simpa using c7)
 (try (have p0 : decide (f6 = h7) = true := by simpa using c7))
 (try (have p1 : (f6 == h7) = true := by simpa using c7))
 clear c7
 by_cases c8 : b1.size ≤ 9223372036854775807
 rotate_left
 ·
  rw [if_neg c8] at H
  exact absurd H (by simp)
 rw [if_pos c8] at H
 have r8 := eq_true c8; have r9 : decide (b1.size ≤ 9223372036854775807) = true := decide_eq_true c8
 try have s0 : (9223372036854775807 < b1.size) = False := eq_false (Nat.not_lt.2 c8)
 clear c8; obtain ⟨y119, hy119⟩ : ∃ y_ : List Int, y_ = (bytesN b1) := ⟨_, rfl⟩
 conv at H => enter [1, 1, 2]; rw [← hy119]
 have Ny119 := yaa hy119; clear hy119; obtain ⟨i3, A9, H⟩ := bindA H; (try dsimp only at H); obtain ⟨b9, A10, H⟩ := bindA H; (try dsimp only at H)
 by_cases c11 : b1.size + 3 ≤ 9223372036854775807
 rotate_left
 ·
  rw [if_neg c11] at H
  exact absurd H (by simp)
 rw [if_pos c11] at H
 have p3 := eq_true c11; have p4 : decide (b1.size + 3 ≤ 9223372036854775807) = true := decide_eq_true c11
 try have p5 : (9223372036854775807 < b1.size + 3) = False := eq_false (Nat.not_lt.2 c11)
 obtain ⟨ji12, hji12⟩ : ∃ j_ : Int, (mn (b9.size : Int) 16) = j_ := ⟨_, rfl⟩
 replace H : (if 0 ≤ (ji12) then (if (ji12) ≤ (b9.size : Int) then (if (b1 ++ (⟨#[38, 115, 61]⟩ : ByteArray)).size + (b9.extract 0 ((ji12) : Int).toNat).size ≤ 9223372036854775807 then ((impl_UrlRead.f k d7 ((b1 ++ (⟨#[38, 115, 61]⟩ : ByteArray)) ++ (b9.extract 0 ((ji12) : Int).toNat)) 0).bind fun i0 => ((impl_UrlRead.f k d7 (⟨#[]⟩ : ByteArray) 0).bind fun k3 => ((impl_UrlRead.f k d7 b1 0).bind fun k4 => (if k3.2.2.2 = 400 then (laws_FnUrlWords.j0 k b1 f6 i0.2.2.2 (k4.2.2.2 != 400)) else (laws_FnUrlWords.j0 k b1 f6 i0.2.2.2 true))))) else (none)) else (none)) else (none)) = some r := by first | (rw [hji12] at H; exact H) | (simp only [hji12] at H ⊢; exact H)
 (try rw [hji12] at A3)
 (try rw [hji12] at A4)
 (try rw [hji12] at A5)
 (try rw [hji12] at A6)
 (try rw [hji12] at A9)
 (try rw [hji12] at A10)
 (try (have hji12h : ji12 ≤ 16 := by (rw [← hji12]; unfold mn; (repeat' split) <;> omega)))
 (try (have hji12g : ji12 ≤ 64 := by omega))
 (try (have hji12l : 0 ≤ ji12 := by (rw [← hji12]; unfold mn; (repeat' split) <;> omega)))
 (try (have hji12m : 0 ≤ ji12 := by omega))
 have hji12_ : (if 16 < (b9.size : Int) then 16 else (b9.size : Int)) = ji12 := hji12
 by_cases c13 : 0 ≤ (ji12)
 rotate_left
 ·
  rw [if_neg c13] at H
  exact absurd H (by simp)
 rw [if_pos c13] at H
 have p6 := eq_true c13; replace c13 := decide_eq_true c13
 by_cases c14 : (ji12) ≤ (b9.size : Int)
 rotate_left
 ·
  rw [if_neg c14] at H
  exact absurd H (by simp)
 rw [if_pos c14] at H
 have p7 := eq_true c14; replace c14 := decide_eq_true c14
 by_cases c15 : (b1 ++ (⟨#[38, 115, 61]⟩ : ByteArray)).size + (b9.extract 0 ((ji12) : Int).toNat).size ≤ 9223372036854775807
 rotate_left
 ·
  rw [if_neg c15] at H
  exact absurd H (by simp)
 rw [if_pos c15] at H
 have p8 := eq_true c15; have p9 : decide ((b1 ++ (⟨#[38, 115, 61]⟩ : ByteArray)).size + (b9.extract 0 ((ji12) : Int).toNat).size ≤ 9223372036854775807) = true := decide_eq_true c15
 try have q0 : (9223372036854775807 < (b1 ++ (⟨#[38, 115, 61]⟩ : ByteArray)).size + (b9.extract 0 ((ji12) : Int).toNat).size) = False := eq_false (Nat.not_lt.2 c15)
 try (have k5 := c15; simp only [ByteArray.size_append', ByteArray.size_mk', List.size_toArray, List.length_cons, List.length_nil, Nat.zero_add, Nat.reduceAdd] at k5; replace k5 := eq_false (Nat.not_lt.2 k5))
 obtain ⟨⟨c3, f1, f7, g6⟩, A16, H⟩ := bindA H; (try dsimp only at H); obtain ⟨⟨b7, e8, f2, q1⟩, A17, H⟩ := bindA H; (try dsimp only at H); obtain ⟨⟨b8, f3, g4, q2⟩, A18, H⟩ := bindA H; (try dsimp only at H); have HC19 := yaa H; clear H
 go_enter Tryz.func5, Tryz.ntmps5
 go_upto_region 13 with (first | ((with_reducible refine gc_ 11 rfl ?_); refine gl_ (some 22) rfl Tryz.func11 #[.slice A0 l0.length c0] ?_; (with_reducible refine (spec_DrawAskRead.calls k _ _ l0 b1 _ ?side1 ?side2 A3.out).mono ?_); (case side1 => repeat (first | exact HR0.out | (with_reducible refine Kd.C_alloc ?_ _) | (with_reducible refine Kd.C_drewN ?_ _) | (with_reducible refine Kd.C_drew ?_))); (case side2 => exact HC0.out); rintro e w20 ⟨rfl, hb⟩; refine ⟨_, rfl, ?_⟩; replace HB := yaa (yao (upH HB.out) hb); (try clear hb)) | ((with_reducible refine gc_ 12 rfl ?_); refine gl_ (some 24) rfl Tryz.func12 #[.slice A0 l0.length c0] ?_; (with_reducible refine (spec_DrawHexText.calls k _ _ l0 d7 _ ?side1 ?side2 A4.out).mono ?_); (case side1 => repeat (first | exact (Kd.C_below HR0.out HB.out) | (with_reducible refine Kd.C_alloc ?_ _) | (with_reducible refine Kd.C_drewN ?_ _) | (with_reducible refine Kd.C_drew ?_))); (case side2 => exact HC0.out); rintro e w21 ⟨x7, rfl, ho0, hb⟩; refine ⟨_, rfl, ?_⟩; have a4 := yaa (Kd.R_lower ho0 (below_size (upH HB.out))); replace HB := yaa (yao (upH HB.out) hb); (try clear hb ho0)) | ((with_reducible refine gc_ 13 rfl ?_); refine gl_ (some 27) rfl Tryz.func13 #[.string b1] ?_; (with_reducible refine (impl_AskRead.calls k b1 e0 g5 h5 f6 _ A5.out ?sideG).mono ?_); (case sideG => exact Glob.belowW HG.out (by repeat (first | (with_reducible first | exact HB.out | apply yae | apply yac | apply yaf | refine yam ?_ (Aside0.out ‹_›)) | exact HB.out | exact Below.refl _ _))); rintro e w22 ⟨x8, rfl, ho0, hb⟩; refine ⟨_, rfl, ?_⟩; replace a4 := yaa (yad (upR a4.out) hb); have a7 := yaa (Kd.R_lower ho0 (below_size (upH HB.out))); replace HB := yaa (yao (upH HB.out) hb); (try clear hb ho0)) | ((with_reducible refine gd_ 5 rfl ?_); refine bx_ 5 rfl #[.slice none 0 0, .string (⟨#[]⟩ : ByteArray), .int .i64 0] 25 ?_; intro b3 hg w23 hbox hb; replace a4 := yaa (yad (upR a4.out) hb); replace a7 := yaa (yad (upR a7.out) hb); have a2 := yaa (hbox); have q3 := yaa ((by rw [hg]; exact (below_size (upH HB.out)) : w.heap.size ≤ b3)); replace HB := yaa (yao (upH HB.out) hb); have t3 := q3; clear hb hbox hg; obtain ⟨e9, f0, s1⟩ := Kd.R_slice a7.out; subst s1; obtain ⟨l1, l2, l3⟩ := cc3_ a2.out; obtain ⟨l4, l5⟩ := cf2_ a2.out; have l6 := blk_frozen a2.out 2) | ((with_reducible refine gc_ 14 rfl ?_); refine gl_ (some 32) rfl Tryz.func14 #[.string b1] ?_; (with_reducible refine (spec_AskRead.calls k b1 e6 h6 i1 h7 _ A6.out).mono ?_); rintro e w26 ⟨x9, rfl, ho0, hb⟩; refine ⟨_, rfl, ?_⟩; replace a4 := yaa (yad (by (with_reducible repeat (first | apply yag | apply yah | apply yaj)); exact (yak (yab (p := ⟨b3, 2, none⟩) (yab (p := ⟨b3, 1, none⟩) (yab (p := ⟨b3, 0, none⟩) (yai a4.out a2.out (by decide)) (fun _ hk => hk.2) (.slice e9 e0.length f0)) (fun _ hk => hk.2) (.string g5)) (fun _ hk => hk.2) (.int .i64 h5)) (fun _ h_ => h_.1))) hb); have b0 := yaa (Kd.R_lower (yap ho0 (Kd.R_lt (by (with_reducible repeat (first | apply yag | apply yah | apply yaj)); exact (yak (yab (p := ⟨b3, 2, none⟩) (yab (p := ⟨b3, 1, none⟩) (yab (p := ⟨b3, 0, none⟩) (yai a7.out a2.out (by decide)) (fun _ hk => hk.2) (.slice e9 e0.length f0)) (fun _ hk => hk.2) (.string g5)) (fun _ hk => hk.2) (.int .i64 h5)) (fun _ h_ => h_.1))))) (below_size (by repeat (with_reducible first | exact HB.out | apply yae | apply yac | apply yaf | refine yam ?_ (Aside0.out ‹_›))))); replace a7 := yaa (yan (by (with_reducible repeat (first | apply yag | apply yah | apply yaj)); exact (yak (yab (p := ⟨b3, 2, none⟩) (yab (p := ⟨b3, 1, none⟩) (yab (p := ⟨b3, 0, none⟩) (yai a7.out a2.out (by decide)) (fun _ hk => hk.2) (.slice e9 e0.length f0)) (fun _ hk => hk.2) (.string g5)) (fun _ hk => hk.2) (.int .i64 h5)) (fun _ h_ => h_.1))) (Kd.R_base ho0) hb); replace a2 := yaa (yal (g := b3) (o := .cells #[.slice e9 e0.length f0, .string g5, .int .i64 h5] 25 (0, 0)) (by (repeat refine oneB ?_); refine blk_put (cs := #[.slice e9 e0.length f0, .string g5, .int .i64 0]) ?_ 2 _ rfl; refine blk_put (cs := #[.slice e9 e0.length f0, .string (⟨#[]⟩ : ByteArray), .int .i64 0]) ?_ 1 _ rfl; refine blk_put (cs := #[.slice none 0 0, .string (⟨#[]⟩ : ByteArray), .int .i64 0]) ?_ 0 _ rfl; exact upB a2.out) hb); replace HB := yaa (yao (by repeat (with_reducible first | exact HB.out | apply yae | apply yac | apply yaf | refine yam ?_ (Aside0.out ‹_›))) hb); (try clear hb ho0)) | ((with_reducible refine gd_ 7 rfl ?_); refine bx_ 7 rfl #[.slice none 0 0, .string (⟨#[]⟩ : ByteArray), .int .i64 0] 25 ?_; intro b4 hg w27 hbox hb; replace a4 := yaa (yad (upR a4.out) hb); replace a7 := yaa (yad (upR a7.out) hb); replace b0 := yaa (yad (upR b0.out) hb); have a6 := yaa (hbox); have q4 := yaa ((by rw [hg]; exact (below_size (by repeat (with_reducible first | exact HB.out | apply yae | apply yac | apply yaf | refine yam ?_ (Aside0.out ‹_›)))) : w.heap.size ≤ b4)); replace HB := yaa (yao (by repeat (with_reducible first | exact HB.out | apply yae | apply yac | apply yaf | refine yam ?_ (Aside0.out ‹_›))) hb); have t4 := q4; have f8 := yaa ((by rw [hg]; exact Nat.ne_of_lt (blk_lt (upB a2.out)) : b3 ≠ b4)); replace a2 := yaa (yal (upB a2.out) hb); have i4 := yaa f8.out.symm; clear hb hbox hg; obtain ⟨f4, f5, s2⟩ := Kd.R_slice b0.out; subst s2; have t5 := i4.out; have t6 := f8.out; obtain ⟨l7, l8, l9⟩ := cc3_ a6.out; obtain ⟨m0, m1⟩ := cf2_ a6.out; have m2 := blk_frozen a6.out 2) | ((with_reducible refine gd_ 40 rfl ?_); refine Kd.R_strB _ 5 rfl (N := 40) rfl 9 22 _ rfl b1 rfl Tryz.underlying9 Tryz.underlying22 Tryz.underlying5 (of_decide_eq_true (by assumption)) (Below.refl _ _) (Nat.le_refl _) ?_; intro y4 w31 i5 hb hg_ hnew_; clear hg_ hnew_; (first | rw [← Ny119.out] at i5 | (simp only [Int.reduceToNat] at i5; rw [← Ny119.out] at i5)); replace a4 := yaa (yan (by (with_reducible repeat (first | apply yag | apply yah | apply yaj)); exact (yak (yab (p := ⟨b4, 2, none⟩) (yab (p := ⟨b4, 1, none⟩) (yab (p := ⟨b4, 0, none⟩) (yai a4.out a6.out (by decide)) (fun _ hk => hk.2) (.slice f4 e6.length f5)) (fun _ hk => hk.2) (.string h6)) (fun _ hk => hk.2) (.int .i64 i1)) (fun _ h_ => h_.1))) (RB.base i5) hb); replace a7 := yaa (yad (by (with_reducible repeat (first | apply yag | apply yah | apply yaj)); exact (yak (yab (p := ⟨b4, 2, none⟩) (yab (p := ⟨b4, 1, none⟩) (yab (p := ⟨b4, 0, none⟩) (yai a7.out a6.out (by decide)) (fun _ hk => hk.2) (.slice f4 e6.length f5)) (fun _ hk => hk.2) (.string h6)) (fun _ hk => hk.2) (.int .i64 i1)) (fun _ h_ => h_.1))) hb); replace b0 := yaa (yad (by (with_reducible repeat (first | apply yag | apply yah | apply yaj)); exact (yak (yab (p := ⟨b4, 2, none⟩) (yab (p := ⟨b4, 1, none⟩) (yab (p := ⟨b4, 0, none⟩) (yai b0.out a6.out (by decide)) (fun _ hk => hk.2) (.slice f4 e6.length f5)) (fun _ hk => hk.2) (.string h6)) (fun _ hk => hk.2) (.int .i64 i1)) (fun _ h_ => h_.1))) hb); have e1 := yaa i5; replace a2 := yaa (yal (g := b3) (o := .cells #[.slice e9 e0.length f0, .string g5, .int .i64 h5] 25 (0, 0)) (by repeat (with_reducible first | exact a2.out | refine oneB ?_ | refine blk_far ?_ f8.out _)) hb); replace a6 := yaa (yal (g := b4) (o := .cells #[.slice f4 e6.length f5, .string h6, .int .i64 i1] 25 (0, 0)) (by (repeat refine oneB ?_); refine blk_put (cs := #[.slice f4 e6.length f5, .string h6, .int .i64 0]) ?_ 2 _ rfl; refine blk_put (cs := #[.slice f4 e6.length f5, .string (⟨#[]⟩ : ByteArray), .int .i64 0]) ?_ 1 _ rfl; refine blk_put (cs := #[.slice none 0 0, .string (⟨#[]⟩ : ByteArray), .int .i64 0]) ?_ 0 _ rfl; exact upB a6.out) hb); replace HB := yaa (yao (by repeat (with_reducible first | exact HB.out | apply yae | apply yac | apply yaf | refine yam ?_ (Aside0.out ‹_›))) hb); clear hb i5; obtain ⟨m3, i6, s3⟩ := Kd.R_slice a4.out; subst s3; obtain ⟨go34, o3, s4, gb_, gl_⟩ := RB.slice e1.out; subst s4; have GL_ := yaa gl_; clear gb_ gl_) | ((with_reducible refine gc_ 16 rfl ?_); refine gl_ (some 41) rfl Tryz.func16 #[.slice m3 d7.length i6, .slice (some ⟨go34, 0, none⟩) y119.length o3] ?_; (with_reducible refine (impl_ShaMac.calls _ _ d7 _ _ y119 i3 _ ?side1 ?side2 ?side3 ?side4 A9.out ?sideG).mono ?_); (case sideG => exact Glob.belowW HG.out (by repeat (first | (with_reducible first | exact HB.out | apply yae | apply yac | apply yaf | refine yam ?_ (Aside0.out ‹_›)) | exact HB.out | exact Below.refl _ _))); (case side1 => repeat (first | exact (Kd.R_reads' a4.out).2.2 | (with_reducible refine Kd.C_alloc ?_ _) | (with_reducible refine Kd.C_drewN ?_ _) | (with_reducible refine Kd.C_drew ?_))); (case side2 => exact (Kd.R_reads' a4.out).2.1); (case side3 => repeat (first | exact RB.C e1.out | (with_reducible refine Kd.C_alloc ?_ _) | (with_reducible refine Kd.C_drewN ?_ _) | (with_reducible refine Kd.C_drew ?_))); (case side4 => exact GL_.out); rintro e w35 ⟨y5, rfl, ho0, hb⟩; refine ⟨_, rfl, ?_⟩; replace a7 := yaa (yad (upR a7.out) hb); replace b0 := yaa (yad (upR b0.out) hb); have b5 := yaa (Kd.R_lower (yap (yap ho0 (Kd.R_lt (upR a4.out))) (RB.lt e1.out)) (below_size (by repeat (with_reducible first | exact HB.out | apply yae | apply yac | apply yaf | refine yam ?_ (Aside0.out ‹_›))))); replace a4 := yaa (yan (upR a4.out) (Kd.R_base ho0) hb); replace e1 := yaa trivial; replace a2 := yaa (yal (upB a2.out) hb); replace a6 := yaa (yal (upB a6.out) hb); replace HB := yaa (yao (by repeat (with_reducible first | exact HB.out | apply yae | apply yac | apply yaf | refine yam ?_ (Aside0.out ‹_›))) hb); (try clear hb ho0); obtain ⟨o4, o5, s5⟩ := Kd.R_slice b5.out; subst s5) | ((with_reducible refine gc_ 15 rfl ?_); refine gl_ (some 42) rfl Tryz.func15 #[.slice o4 i3.length o5] ?_; (with_reducible refine (impl_HexText.calls k _ _ i3 b9 _ ?side1 ?side2 A10.out).mono ?_); (case side1 => repeat (first | exact (Kd.R_reads' b5.out).2.2 | (with_reducible refine Kd.C_alloc ?_ _) | (with_reducible refine Kd.C_drewN ?_ _) | (with_reducible refine Kd.C_drew ?_))); (case side2 => exact (Kd.R_reads' b5.out).2.1); rintro e w37 ⟨rfl, hb⟩; refine ⟨_, rfl, ?_⟩; replace a4 := yaa (yad (upR a4.out) hb); replace a7 := yaa (yad (upR a7.out) hb); replace b0 := yaa (yad (upR b0.out) hb); replace e1 := yaa trivial; replace b5 := yaa (yad (upR b5.out) hb); replace a2 := yaa (yal (upB a2.out) hb); replace a6 := yaa (yal (upB a6.out) hb); replace HB := yaa (yao (by repeat (with_reducible first | exact HB.out | apply yae | apply yac | apply yaf | refine yam ?_ (Aside0.out ‹_›))) hb); (try clear hb)) | ((with_reducible refine gc_ 10 rfl ?_); refine goesL_ (some 53) rfl rfl Tryz.func10 (by kernel_rfl) rfl #[.slice m3 d7.length i6, .string ((b1 ++ (⟨#[38, 115, 61]⟩ : ByteArray)) ++ (b9.extract 0 ((ji12) : Int).toNat)), .int .i64 0] rfl (by (try simp only [List.map_toArray, List.map_cons, List.map_nil]); first | done | (simp only [hji12]; rfl) | rfl | (simp only [List.length_drop, List.length_take]; rfl)) ?_; (with_reducible refine (impl_UrlRead.calls k _ _ d7 ((b1 ++ (⟨#[38, 115, 61]⟩ : ByteArray)) ++ (b9.extract 0 ((ji12) : Int).toNat)) 0 c3 f1 f7 g6 _ ?side1 ?side2 A16.out ?sideG).mono ?_); (case sideG => exact Glob.belowW HG.out (by repeat (first | (with_reducible first | exact HB.out | apply yae | apply yac | apply yaf | refine yam ?_ (Aside0.out ‹_›)) | exact HB.out | exact Below.refl _ _))); (case side1 => repeat (first | exact (Kd.R_reads' a4.out).2.2 | (with_reducible refine Kd.C_alloc ?_ _) | (with_reducible refine Kd.C_drewN ?_ _) | (with_reducible refine Kd.C_drew ?_))); (case side2 => exact (Kd.R_reads' a4.out).2.1); rintro e w38 ⟨y6, rfl, ho0, hb⟩; refine ⟨_, rfl, ?_⟩; replace a4 := yaa (yad (upR a4.out) hb); replace e1 := yaa trivial; replace b5 := yaa (yad (upR b5.out) hb); have b6 := yaa (Kd.R_lower (yap (yap ho0 (Kd.R_lt (upR a7.out))) (Kd.R_lt (upR b0.out))) (below_size (by repeat (with_reducible first | exact HB.out | apply yae | apply yac | apply yaf | refine yam ?_ (Aside0.out ‹_›))))); replace a7 := yaa (yan (upR a7.out) (Kd.R_base ho0) hb); replace b0 := yaa (yan (upR b0.out) (Kd.R_base ho0) hb); replace a2 := yaa (yal (upB a2.out) hb); replace a6 := yaa (yal (upB a6.out) hb); replace HB := yaa (yao (by repeat (with_reducible first | exact HB.out | apply yae | apply yac | apply yaf | refine yam ?_ (Aside0.out ‹_›))) hb); (try clear hb ho0)) | ((with_reducible refine gd_ 10 rfl ?_); refine bx_ 10 rfl #[.slice none 0 0, .string (⟨#[]⟩ : ByteArray), .int .i64 0] 25 ?_; intro a5 hg w39 hbox hb; replace a4 := yaa (yad (upR a4.out) hb); replace a7 := yaa (yad (upR a7.out) hb); replace b0 := yaa (yad (upR b0.out) hb); replace e1 := yaa trivial; replace b5 := yaa (yad (upR b5.out) hb); replace b6 := yaa (yad (upR b6.out) hb); have a8 := yaa (hbox); have q5 := yaa ((by rw [hg]; exact (below_size (by repeat (with_reducible first | exact HB.out | apply yae | apply yac | apply yaf | refine yam ?_ (Aside0.out ‹_›)))) : w.heap.size ≤ a5)); replace HB := yaa (yao (by repeat (with_reducible first | exact HB.out | apply yae | apply yac | apply yaf | refine yam ?_ (Aside0.out ‹_›))) hb); have t7 := q5; have f9 := yaa ((by rw [hg]; exact Nat.ne_of_lt (blk_lt (upB a2.out)) : b3 ≠ a5)); replace a2 := yaa (yal (upB a2.out) hb); have i7 := yaa f9.out.symm; have g0 := yaa ((by rw [hg]; exact Nat.ne_of_lt (blk_lt (upB a6.out)) : b4 ≠ a5)); replace a6 := yaa (yal (upB a6.out) hb); have i8 := yaa g0.out.symm; clear hb hbox hg; obtain ⟨d8, d9, s6⟩ := Kd.R_slice b6.out; subst s6; have t8 := i7.out; have t9 := f9.out; have u0 := i8.out; have u1 := g0.out; obtain ⟨m4, m5, m6⟩ := cc3_ a8.out; obtain ⟨m7, m8⟩ := cf2_ a8.out; have m9 := blk_frozen a8.out 2) | ((with_reducible refine gc_ 10 rfl ?_); refine gl_ (some 58) rfl Tryz.func10 #[.slice m3 d7.length i6, .string (⟨#[]⟩ : ByteArray), .int .i64 0] ?_; (with_reducible refine (impl_UrlRead.calls k _ _ d7 (⟨#[]⟩ : ByteArray) 0 b7 e8 f2 q1 _ ?side1 ?side2 A17.out ?sideG).mono ?_); (case sideG => exact Glob.belowW HG.out (by repeat (first | (with_reducible first | exact HB.out | apply yae | apply yac | apply yaf | refine yam ?_ (Aside0.out ‹_›)) | exact HB.out | exact Below.refl _ _))); (case side1 => refine (Kd.R_reads' (e := 5) (base := w.heap.size) (ok := fun k_ => ((True ∧ some k_ ≠ (.slice (some ⟨go34, 0, none⟩) y119.length o3 : Value).ownBlock) ∧ some k_ ≠ (.slice o4 i3.length o5 : Value).ownBlock)) (n := d7.length) (c := i6) ?_).2.2; exact (by (with_reducible repeat (first | apply yag | apply yah | apply yaj)); exact (yak (yab (p := ⟨a5, 2, none⟩) (yab (p := ⟨a5, 1, none⟩) (yab (p := ⟨a5, 0, none⟩) (yai a4.out a8.out (by decide)) (fun _ hk => hk.2) (.slice d8 c3.length d9)) (fun _ hk => hk.2) (.string f1)) (fun _ hk => hk.2) (.int .i64 f7)) (fun _ h_ => h_.1)))); (case side2 => exact (Kd.R_reads' a4.out).2.1); rintro e w44 ⟨y7, rfl, ho0, hb⟩; refine ⟨_, rfl, ?_⟩; replace a4 := yaa (yad (by (with_reducible repeat (first | apply yag | apply yah | apply yaj)); exact (yak (yab (p := ⟨a5, 2, none⟩) (yab (p := ⟨a5, 1, none⟩) (yab (p := ⟨a5, 0, none⟩) (yai a4.out a8.out (by decide)) (fun _ hk => hk.2) (.slice d8 c3.length d9)) (fun _ hk => hk.2) (.string f1)) (fun _ hk => hk.2) (.int .i64 f7)) (fun _ h_ => h_.1))) hb); replace e1 := yaa trivial; replace b5 := yaa (yad (by (with_reducible repeat (first | apply yag | apply yah | apply yaj)); exact (yak (yab (p := ⟨a5, 2, none⟩) (yab (p := ⟨a5, 1, none⟩) (yab (p := ⟨a5, 0, none⟩) (yai b5.out a8.out (by decide)) (fun _ hk => hk.2) (.slice d8 c3.length d9)) (fun _ hk => hk.2) (.string f1)) (fun _ hk => hk.2) (.int .i64 f7)) (fun _ h_ => h_.1))) hb); have e7 := yaa (Kd.R_lower (yap (yap (yap ho0 (Kd.R_lt (by (with_reducible repeat (first | apply yag | apply yah | apply yaj)); exact (yak (yab (p := ⟨a5, 2, none⟩) (yab (p := ⟨a5, 1, none⟩) (yab (p := ⟨a5, 0, none⟩) (yai a7.out a8.out (by decide)) (fun _ hk => hk.2) (.slice d8 c3.length d9)) (fun _ hk => hk.2) (.string f1)) (fun _ hk => hk.2) (.int .i64 f7)) (fun _ h_ => h_.1))))) (Kd.R_lt (by (with_reducible repeat (first | apply yag | apply yah | apply yaj)); exact (yak (yab (p := ⟨a5, 2, none⟩) (yab (p := ⟨a5, 1, none⟩) (yab (p := ⟨a5, 0, none⟩) (yai b0.out a8.out (by decide)) (fun _ hk => hk.2) (.slice d8 c3.length d9)) (fun _ hk => hk.2) (.string f1)) (fun _ hk => hk.2) (.int .i64 f7)) (fun _ h_ => h_.1))))) (Kd.R_lt (by (with_reducible repeat (first | apply yag | apply yah | apply yaj)); exact (yak (yab (p := ⟨a5, 2, none⟩) (yab (p := ⟨a5, 1, none⟩) (yab (p := ⟨a5, 0, none⟩) (yai b6.out a8.out (by decide)) (fun _ hk => hk.2) (.slice d8 c3.length d9)) (fun _ hk => hk.2) (.string f1)) (fun _ hk => hk.2) (.int .i64 f7)) (fun _ h_ => h_.1))))) (below_size (by repeat (with_reducible first | exact HB.out | apply yae | apply yac | apply yaf | refine yam ?_ (Aside0.out ‹_›))))); replace a7 := yaa (yan (by (with_reducible repeat (first | apply yag | apply yah | apply yaj)); exact (yak (yab (p := ⟨a5, 2, none⟩) (yab (p := ⟨a5, 1, none⟩) (yab (p := ⟨a5, 0, none⟩) (yai a7.out a8.out (by decide)) (fun _ hk => hk.2) (.slice d8 c3.length d9)) (fun _ hk => hk.2) (.string f1)) (fun _ hk => hk.2) (.int .i64 f7)) (fun _ h_ => h_.1))) (Kd.R_base ho0) hb); replace b0 := yaa (yan (by (with_reducible repeat (first | apply yag | apply yah | apply yaj)); exact (yak (yab (p := ⟨a5, 2, none⟩) (yab (p := ⟨a5, 1, none⟩) (yab (p := ⟨a5, 0, none⟩) (yai b0.out a8.out (by decide)) (fun _ hk => hk.2) (.slice d8 c3.length d9)) (fun _ hk => hk.2) (.string f1)) (fun _ hk => hk.2) (.int .i64 f7)) (fun _ h_ => h_.1))) (Kd.R_base ho0) hb); replace b6 := yaa (yan (by (with_reducible repeat (first | apply yag | apply yah | apply yaj)); exact (yak (yab (p := ⟨a5, 2, none⟩) (yab (p := ⟨a5, 1, none⟩) (yab (p := ⟨a5, 0, none⟩) (yai b6.out a8.out (by decide)) (fun _ hk => hk.2) (.slice d8 c3.length d9)) (fun _ hk => hk.2) (.string f1)) (fun _ hk => hk.2) (.int .i64 f7)) (fun _ h_ => h_.1))) (Kd.R_base ho0) hb); replace a2 := yaa (yal (g := b3) (o := .cells #[.slice e9 e0.length f0, .string g5, .int .i64 h5] 25 (0, 0)) (by repeat (with_reducible first | exact a2.out | refine oneB ?_ | refine blk_far ?_ f9.out _)) hb); replace a6 := yaa (yal (g := b4) (o := .cells #[.slice f4 e6.length f5, .string h6, .int .i64 i1] 25 (0, 0)) (by repeat (with_reducible first | exact a6.out | refine oneB ?_ | refine blk_far ?_ g0.out _)) hb); replace a8 := yaa (yal (g := a5) (o := .cells #[.slice d8 c3.length d9, .string f1, .int .i64 f7] 25 (0, 0)) (by (repeat refine oneB ?_); refine blk_put (cs := #[.slice d8 c3.length d9, .string f1, .int .i64 0]) ?_ 2 _ rfl; refine blk_put (cs := #[.slice d8 c3.length d9, .string (⟨#[]⟩ : ByteArray), .int .i64 0]) ?_ 1 _ rfl; refine blk_put (cs := #[.slice none 0 0, .string (⟨#[]⟩ : ByteArray), .int .i64 0]) ?_ 0 _ rfl; exact upB a8.out) hb); replace HB := yaa (yao (by repeat (with_reducible first | exact HB.out | apply yae | apply yac | apply yaf | refine yam ?_ (Aside0.out ‹_›))) hb); (try clear hb ho0)) | ((with_reducible refine gd_ 12 rfl ?_); refine bx_ 12 rfl #[.slice none 0 0, .string (⟨#[]⟩ : ByteArray), .int .i64 0] 25 ?_; intro a1 hg w45 hbox hb; replace a4 := yaa (yad (upR a4.out) hb); replace a7 := yaa (yad (upR a7.out) hb); replace b0 := yaa (yad (upR b0.out) hb); replace e1 := yaa trivial; replace b5 := yaa (yad (upR b5.out) hb); replace b6 := yaa (yad (upR b6.out) hb); replace e7 := yaa (yad (upR e7.out) hb); have a9 := yaa (hbox); have q6 := yaa ((by rw [hg]; exact (below_size (by repeat (with_reducible first | exact HB.out | apply yae | apply yac | apply yaf | refine yam ?_ (Aside0.out ‹_›)))) : w.heap.size ≤ a1)); replace HB := yaa (yao (by repeat (with_reducible first | exact HB.out | apply yae | apply yac | apply yaf | refine yam ?_ (Aside0.out ‹_›))) hb); have u2 := q6; have g1 := yaa ((by rw [hg]; exact Nat.ne_of_lt (blk_lt (upB a2.out)) : b3 ≠ a1)); replace a2 := yaa (yal (upB a2.out) hb); have i9 := yaa g1.out.symm; have g2 := yaa ((by rw [hg]; exact Nat.ne_of_lt (blk_lt (upB a6.out)) : b4 ≠ a1)); replace a6 := yaa (yal (upB a6.out) hb); have j1 := yaa g2.out.symm; have g3 := yaa ((by rw [hg]; exact Nat.ne_of_lt (blk_lt (upB a8.out)) : a5 ≠ a1)); replace a8 := yaa (yal (upB a8.out) hb); have j2 := yaa g3.out.symm; clear hb hbox hg; obtain ⟨c6, c9, s7⟩ := Kd.R_slice e7.out; subst s7; have u3 := i9.out; have u4 := g1.out; have u5 := j1.out; have u6 := g2.out; have u7 := j2.out; have u9 := g3.out; obtain ⟨n0, n1, n2⟩ := cc3_ a9.out; obtain ⟨n3, n4⟩ := cf2_ a9.out; have n5 := blk_frozen a9.out 2) | ((with_reducible refine gc_ 10 rfl ?_); refine gl_ (some 64) rfl Tryz.func10 #[.slice m3 d7.length i6, .string b1, .int .i64 0] ?_; (with_reducible refine (impl_UrlRead.calls k _ _ d7 b1 0 b8 f3 g4 q2 _ ?side1 ?side2 A18.out ?sideG).mono ?_); (case sideG => exact Glob.belowW HG.out (by repeat (first | (with_reducible first | exact HB.out | apply yae | apply yac | apply yaf | refine yam ?_ (Aside0.out ‹_›)) | exact HB.out | exact Below.refl _ _))); (case side1 => refine (Kd.R_reads' (e := 5) (base := w.heap.size) (ok := fun k_ => ((True ∧ some k_ ≠ (.slice (some ⟨go34, 0, none⟩) y119.length o3 : Value).ownBlock) ∧ some k_ ≠ (.slice o4 i3.length o5 : Value).ownBlock)) (n := d7.length) (c := i6) ?_).2.2; exact (by (with_reducible repeat (first | apply yag | apply yah | apply yaj)); exact (yak (yab (p := ⟨a1, 2, none⟩) (yab (p := ⟨a1, 1, none⟩) (yab (p := ⟨a1, 0, none⟩) (yai a4.out a9.out (by decide)) (fun _ hk => hk.2) (.slice c6 b7.length c9)) (fun _ hk => hk.2) (.string e8)) (fun _ hk => hk.2) (.int .i64 f2)) (fun _ h_ => h_.1)))); (case side2 => exact (Kd.R_reads' a4.out).2.1); rintro e w51 ⟨y8, rfl, ho0, hb⟩; refine ⟨_, rfl, ?_⟩; replace a4 := yaa (yad (by (with_reducible repeat (first | apply yag | apply yah | apply yaj)); exact (yak (yab (p := ⟨a1, 2, none⟩) (yab (p := ⟨a1, 1, none⟩) (yab (p := ⟨a1, 0, none⟩) (yai a4.out a9.out (by decide)) (fun _ hk => hk.2) (.slice c6 b7.length c9)) (fun _ hk => hk.2) (.string e8)) (fun _ hk => hk.2) (.int .i64 f2)) (fun _ h_ => h_.1))) hb); replace e1 := yaa trivial; replace b5 := yaa (yad (by (with_reducible repeat (first | apply yag | apply yah | apply yaj)); exact (yak (yab (p := ⟨a1, 2, none⟩) (yab (p := ⟨a1, 1, none⟩) (yab (p := ⟨a1, 0, none⟩) (yai b5.out a9.out (by decide)) (fun _ hk => hk.2) (.slice c6 b7.length c9)) (fun _ hk => hk.2) (.string e8)) (fun _ hk => hk.2) (.int .i64 f2)) (fun _ h_ => h_.1))) hb); have i2 := yaa (Kd.R_lower (yap (yap (yap (yap ho0 (Kd.R_lt (by (with_reducible repeat (first | apply yag | apply yah | apply yaj)); exact (yak (yab (p := ⟨a1, 2, none⟩) (yab (p := ⟨a1, 1, none⟩) (yab (p := ⟨a1, 0, none⟩) (yai a7.out a9.out (by decide)) (fun _ hk => hk.2) (.slice c6 b7.length c9)) (fun _ hk => hk.2) (.string e8)) (fun _ hk => hk.2) (.int .i64 f2)) (fun _ h_ => h_.1))))) (Kd.R_lt (by (with_reducible repeat (first | apply yag | apply yah | apply yaj)); exact (yak (yab (p := ⟨a1, 2, none⟩) (yab (p := ⟨a1, 1, none⟩) (yab (p := ⟨a1, 0, none⟩) (yai b0.out a9.out (by decide)) (fun _ hk => hk.2) (.slice c6 b7.length c9)) (fun _ hk => hk.2) (.string e8)) (fun _ hk => hk.2) (.int .i64 f2)) (fun _ h_ => h_.1))))) (Kd.R_lt (by (with_reducible repeat (first | apply yag | apply yah | apply yaj)); exact (yak (yab (p := ⟨a1, 2, none⟩) (yab (p := ⟨a1, 1, none⟩) (yab (p := ⟨a1, 0, none⟩) (yai b6.out a9.out (by decide)) (fun _ hk => hk.2) (.slice c6 b7.length c9)) (fun _ hk => hk.2) (.string e8)) (fun _ hk => hk.2) (.int .i64 f2)) (fun _ h_ => h_.1))))) (Kd.R_lt (by (with_reducible repeat (first | apply yag | apply yah | apply yaj)); exact (yak (yab (p := ⟨a1, 2, none⟩) (yab (p := ⟨a1, 1, none⟩) (yab (p := ⟨a1, 0, none⟩) (yai e7.out a9.out (by decide)) (fun _ hk => hk.2) (.slice c6 b7.length c9)) (fun _ hk => hk.2) (.string e8)) (fun _ hk => hk.2) (.int .i64 f2)) (fun _ h_ => h_.1))))) (below_size (by repeat (with_reducible first | exact HB.out | apply yae | apply yac | apply yaf | refine yam ?_ (Aside0.out ‹_›))))); replace a7 := yaa (yan (by (with_reducible repeat (first | apply yag | apply yah | apply yaj)); exact (yak (yab (p := ⟨a1, 2, none⟩) (yab (p := ⟨a1, 1, none⟩) (yab (p := ⟨a1, 0, none⟩) (yai a7.out a9.out (by decide)) (fun _ hk => hk.2) (.slice c6 b7.length c9)) (fun _ hk => hk.2) (.string e8)) (fun _ hk => hk.2) (.int .i64 f2)) (fun _ h_ => h_.1))) (Kd.R_base ho0) hb); replace b0 := yaa (yan (by (with_reducible repeat (first | apply yag | apply yah | apply yaj)); exact (yak (yab (p := ⟨a1, 2, none⟩) (yab (p := ⟨a1, 1, none⟩) (yab (p := ⟨a1, 0, none⟩) (yai b0.out a9.out (by decide)) (fun _ hk => hk.2) (.slice c6 b7.length c9)) (fun _ hk => hk.2) (.string e8)) (fun _ hk => hk.2) (.int .i64 f2)) (fun _ h_ => h_.1))) (Kd.R_base ho0) hb); replace b6 := yaa (yan (by (with_reducible repeat (first | apply yag | apply yah | apply yaj)); exact (yak (yab (p := ⟨a1, 2, none⟩) (yab (p := ⟨a1, 1, none⟩) (yab (p := ⟨a1, 0, none⟩) (yai b6.out a9.out (by decide)) (fun _ hk => hk.2) (.slice c6 b7.length c9)) (fun _ hk => hk.2) (.string e8)) (fun _ hk => hk.2) (.int .i64 f2)) (fun _ h_ => h_.1))) (Kd.R_base ho0) hb); replace e7 := yaa (yan (by (with_reducible repeat (first | apply yag | apply yah | apply yaj)); exact (yak (yab (p := ⟨a1, 2, none⟩) (yab (p := ⟨a1, 1, none⟩) (yab (p := ⟨a1, 0, none⟩) (yai e7.out a9.out (by decide)) (fun _ hk => hk.2) (.slice c6 b7.length c9)) (fun _ hk => hk.2) (.string e8)) (fun _ hk => hk.2) (.int .i64 f2)) (fun _ h_ => h_.1))) (Kd.R_base ho0) hb); replace a2 := yaa (yal (g := b3) (o := .cells #[.slice e9 e0.length f0, .string g5, .int .i64 h5] 25 (0, 0)) (by repeat (with_reducible first | exact a2.out | refine oneB ?_ | refine blk_far ?_ g1.out _)) hb); replace a6 := yaa (yal (g := b4) (o := .cells #[.slice f4 e6.length f5, .string h6, .int .i64 i1] 25 (0, 0)) (by repeat (with_reducible first | exact a6.out | refine oneB ?_ | refine blk_far ?_ g2.out _)) hb); replace a8 := yaa (yal (g := a5) (o := .cells #[.slice d8 c3.length d9, .string f1, .int .i64 f7] 25 (0, 0)) (by repeat (with_reducible first | exact a8.out | refine oneB ?_ | refine blk_far ?_ g3.out _)) hb); replace a9 := yaa (yal (g := a1) (o := .cells #[.slice c6 b7.length c9, .string e8, .int .i64 f2] 25 (0, 0)) (by (repeat refine oneB ?_); refine blk_put (cs := #[.slice c6 b7.length c9, .string e8, .int .i64 0]) ?_ 2 _ rfl; refine blk_put (cs := #[.slice c6 b7.length c9, .string (⟨#[]⟩ : ByteArray), .int .i64 0]) ?_ 1 _ rfl; refine blk_put (cs := #[.slice none 0 0, .string (⟨#[]⟩ : ByteArray), .int .i64 0]) ?_ 0 _ rfl; exact upB a9.out) hb); replace HB := yaa (yao (by repeat (with_reducible first | exact HB.out | apply yae | apply yac | apply yaf | refine yam ?_ (Aside0.out ‹_›))) hb); (try clear hb ho0)) | ((with_reducible refine gd_ 14 rfl ?_); refine bx_ 14 rfl #[.slice none 0 0, .string (⟨#[]⟩ : ByteArray), .int .i64 0] 25 ?_; intro a3 hg w52 hbox hb; replace a4 := yaa (yad (upR a4.out) hb); replace a7 := yaa (yad (upR a7.out) hb); replace b0 := yaa (yad (upR b0.out) hb); replace e1 := yaa trivial; replace b5 := yaa (yad (upR b5.out) hb); replace b6 := yaa (yad (upR b6.out) hb); replace e7 := yaa (yad (upR e7.out) hb); replace i2 := yaa (yad (upR i2.out) hb); have b2 := yaa (hbox); have q7 := yaa ((by rw [hg]; exact (below_size (by repeat (with_reducible first | exact HB.out | apply yae | apply yac | apply yaf | refine yam ?_ (Aside0.out ‹_›)))) : w.heap.size ≤ a3)); replace HB := yaa (yao (by repeat (with_reducible first | exact HB.out | apply yae | apply yac | apply yaf | refine yam ?_ (Aside0.out ‹_›))) hb); have v0 := q7; have e2 := yaa ((by rw [hg]; exact Nat.ne_of_lt (blk_lt (upB a2.out)) : b3 ≠ a3)); replace a2 := yaa (yal (upB a2.out) hb); have j3 := yaa e2.out.symm; have e3 := yaa ((by rw [hg]; exact Nat.ne_of_lt (blk_lt (upB a6.out)) : b4 ≠ a3)); replace a6 := yaa (yal (upB a6.out) hb); have j4 := yaa e3.out.symm; have e4 := yaa ((by rw [hg]; exact Nat.ne_of_lt (blk_lt (upB a8.out)) : a5 ≠ a3)); replace a8 := yaa (yal (upB a8.out) hb); have j5 := yaa e4.out.symm; have e5 := yaa ((by rw [hg]; exact Nat.ne_of_lt (blk_lt (upB a9.out)) : a1 ≠ a3)); replace a9 := yaa (yal (upB a9.out) hb); have j6 := yaa e5.out.symm; clear hb hbox hg; obtain ⟨d0, d1, s8⟩ := Kd.R_slice i2.out; subst s8; have v1 := j3.out; have v2 := e2.out; have v3 := j4.out; have v4 := e3.out; have v5 := j5.out; have v6 := e4.out; have v7 := j6.out; have v8 := e5.out; obtain ⟨n6, n7, n8⟩ := cc3_ b2.out; obtain ⟨n9, o0⟩ := cf2_ b2.out; have o1 := blk_frozen b2.out 2))
 (try simp only [Act.put, List.setIfInBounds_toArray, List.set_cons_zero, List.set_cons_succ])
 go_cut [72] (fun v72 wc => ∃ (kq : Nat) (h8 : Bool), v72 = .bool h8 ∧ Aside0 (laws_FnUrlWords.j0 kq b1 f6 g6 h8 = some r) ∧ Aside0 (kq ≤ k) ∧ Aside0 (Kd.R k65 65 wc w.heap.size (fun k_ => some k_ ≠ ((.slice f4 e6.length f5) : Value).ownBlock ∧ some k_ ≠ ((.slice d8 c3.length d9) : Value).ownBlock ∧ some k_ ≠ ((.slice c6 b7.length c9) : Value).ownBlock ∧ some k_ ≠ ((.slice d0 b8.length d1) : Value).ownBlock) (.slice e9 e0.length f0) e0) ∧ Aside0 (Kd.R k65 65 wc w.heap.size (fun k_ => some k_ ≠ ((.slice e9 e0.length f0) : Value).ownBlock ∧ some k_ ≠ ((.slice d8 c3.length d9) : Value).ownBlock ∧ some k_ ≠ ((.slice c6 b7.length c9) : Value).ownBlock ∧ some k_ ≠ ((.slice d0 b8.length d1) : Value).ownBlock) (.slice f4 e6.length f5) e6) ∧ Aside0 (Kd.R k65 65 wc w.heap.size (fun k_ => some k_ ≠ ((.slice e9 e0.length f0) : Value).ownBlock ∧ some k_ ≠ ((.slice f4 e6.length f5) : Value).ownBlock ∧ some k_ ≠ ((.slice c6 b7.length c9) : Value).ownBlock ∧ some k_ ≠ ((.slice d0 b8.length d1) : Value).ownBlock) (.slice d8 c3.length d9) c3) ∧ Aside0 (Kd.R k65 65 wc w.heap.size (fun k_ => some k_ ≠ ((.slice e9 e0.length f0) : Value).ownBlock ∧ some k_ ≠ ((.slice f4 e6.length f5) : Value).ownBlock ∧ some k_ ≠ ((.slice d8 c3.length d9) : Value).ownBlock ∧ some k_ ≠ ((.slice d0 b8.length d1) : Value).ownBlock) (.slice c6 b7.length c9) b7) ∧ Aside0 (Kd.R k65 65 wc w.heap.size (fun k_ => some k_ ≠ ((.slice e9 e0.length f0) : Value).ownBlock ∧ some k_ ≠ ((.slice f4 e6.length f5) : Value).ownBlock ∧ some k_ ≠ ((.slice d8 c3.length d9) : Value).ownBlock ∧ some k_ ≠ ((.slice c6 b7.length c9) : Value).ownBlock) (.slice d0 b8.length d1) b8) ∧ Aside0 (wc.heap[b3]? = some (.cells #[(.slice e9 e0.length f0), .string g5, .int .i64 h5] 25 (0, 0))) ∧ Aside0 (wc.heap[b4]? = some (.cells #[(.slice f4 e6.length f5), .string h6, .int .i64 i1] 25 (0, 0))) ∧ Aside0 (wc.heap[a5]? = some (.cells #[(.slice d8 c3.length d9), .string f1, .int .i64 f7] 25 (0, 0))) ∧ Aside0 (wc.heap[a1]? = some (.cells #[(.slice c6 b7.length c9), .string e8, .int .i64 f2] 25 (0, 0))) ∧ Aside0 (wc.heap[a3]? = some (.cells #[(.slice d0 b8.length d1), .string f3, .int .i64 g4] 25 (0, 0))) ∧ Aside0 (Below w.heap.size w wc))
 case first =>
  have H := HC19.out; clear HC19
  by_cases c59 : q1 = 400
  ·
   rw [if_pos c59] at H
   have g7 := beq_iff_eq.mpr c59; have o2 := bne_eq_false_iff_eq.mpr c59; clear c59
   (first | rw [g7] | (simp only [i64_w, i32_w]; rw [g7]) | skip)
   have H' := yaa H; clear H
   go_wp2
   go_meet
   case rel => exact ⟨_, ((q2 != 400)), (by first | rfl | (simp; done) | (simp [*]; done)), H', ⟨by first | omega | exact Nat.le_refl _⟩, ⟨by (with_reducible repeat (first | apply yag | apply yah | apply yaj)); exact yak (yab (p := ⟨a3, 2, none⟩) (yab (p := ⟨a3, 1, none⟩) (yab (p := ⟨a3, 0, none⟩) (yai a7.out b2.out (by decide)) (fun _ hk => hk.2) (.slice d0 b8.length d1)) (fun _ hk => hk.2) (.string f3)) (fun _ hk => hk.2) (.int .i64 g4)) (fun _ hk => ⟨hk.1.1.1.1.2, ⟨hk.1.1.1.2, ⟨hk.1.1.2, hk.1.2⟩⟩⟩)⟩, ⟨by (with_reducible repeat (first | apply yag | apply yah | apply yaj)); exact yak (yab (p := ⟨a3, 2, none⟩) (yab (p := ⟨a3, 1, none⟩) (yab (p := ⟨a3, 0, none⟩) (yai b0.out b2.out (by decide)) (fun _ hk => hk.2) (.slice d0 b8.length d1)) (fun _ hk => hk.2) (.string f3)) (fun _ hk => hk.2) (.int .i64 g4)) (fun _ hk => ⟨hk.1.1.1.1.2, ⟨hk.1.1.1.2, ⟨hk.1.1.2, hk.1.2⟩⟩⟩)⟩, ⟨by (with_reducible repeat (first | apply yag | apply yah | apply yaj)); exact yak (yab (p := ⟨a3, 2, none⟩) (yab (p := ⟨a3, 1, none⟩) (yab (p := ⟨a3, 0, none⟩) (yai b6.out b2.out (by decide)) (fun _ hk => hk.2) (.slice d0 b8.length d1)) (fun _ hk => hk.2) (.string f3)) (fun _ hk => hk.2) (.int .i64 g4)) (fun _ hk => ⟨hk.1.1.1.1.2, ⟨hk.1.1.1.2, ⟨hk.1.1.2, hk.1.2⟩⟩⟩)⟩, ⟨by (with_reducible repeat (first | apply yag | apply yah | apply yaj)); exact yak (yab (p := ⟨a3, 2, none⟩) (yab (p := ⟨a3, 1, none⟩) (yab (p := ⟨a3, 0, none⟩) (yai e7.out b2.out (by decide)) (fun _ hk => hk.2) (.slice d0 b8.length d1)) (fun _ hk => hk.2) (.string f3)) (fun _ hk => hk.2) (.int .i64 g4)) (fun _ hk => ⟨hk.1.1.1.1.2, ⟨hk.1.1.1.2, ⟨hk.1.1.2, hk.1.2⟩⟩⟩)⟩, ⟨by (with_reducible repeat (first | apply yag | apply yah | apply yaj)); exact yak (yab (p := ⟨a3, 2, none⟩) (yab (p := ⟨a3, 1, none⟩) (yab (p := ⟨a3, 0, none⟩) (yai i2.out b2.out (by decide)) (fun _ hk => hk.2) (.slice d0 b8.length d1)) (fun _ hk => hk.2) (.string f3)) (fun _ hk => hk.2) (.int .i64 g4)) (fun _ hk => ⟨hk.1.1.1.1.2, ⟨hk.1.1.1.2, ⟨hk.1.1.2, hk.1.2⟩⟩⟩)⟩, ⟨by repeat (with_reducible first | exact a2.out | refine oneB ?_ | refine blk_far ?_ e2.out _)⟩, ⟨by repeat (with_reducible first | exact a6.out | refine oneB ?_ | refine blk_far ?_ e3.out _)⟩, ⟨by repeat (with_reducible first | exact a8.out | refine oneB ?_ | refine blk_far ?_ e4.out _)⟩, ⟨by repeat (with_reducible first | exact a9.out | refine oneB ?_ | refine blk_far ?_ e5.out _)⟩, ⟨by (repeat refine oneB ?_); refine blk_put (cs := #[.slice d0 b8.length d1, .string f3, .int .i64 0]) ?_ 2 _ rfl; refine blk_put (cs := #[.slice d0 b8.length d1, .string (⟨#[]⟩ : ByteArray), .int .i64 0]) ?_ 1 _ rfl; refine blk_put (cs := #[.slice none 0 0, .string (⟨#[]⟩ : ByteArray), .int .i64 0]) ?_ 0 _ rfl; exact upB b2.out⟩, ⟨by repeat (with_reducible first | exact HB.out | apply yae | apply yac | apply yaf | refine yam ?_ (Aside0.out ‹_›))⟩⟩
  rw [if_neg c59] at H
  have g7 := beq_eq_false_iff_ne.mpr c59; have o2 := bne_iff_ne.mpr c59
  (first | rw [g7] | (simp only [i64_w, i32_w]; rw [g7]) | skip)
  have H' := yaa H; clear H
  go_wp2
  go_meet
  case rel => exact ⟨_, (true), (by first | rfl | (simp; done) | (simp [*]; done)), H', ⟨by first | omega | exact Nat.le_refl _⟩, ⟨by (with_reducible repeat (first | apply yag | apply yah | apply yaj)); exact yak (yab (p := ⟨a3, 2, none⟩) (yab (p := ⟨a3, 1, none⟩) (yab (p := ⟨a3, 0, none⟩) (yai a7.out b2.out (by decide)) (fun _ hk => hk.2) (.slice d0 b8.length d1)) (fun _ hk => hk.2) (.string f3)) (fun _ hk => hk.2) (.int .i64 g4)) (fun _ hk => ⟨hk.1.1.1.1.2, ⟨hk.1.1.1.2, ⟨hk.1.1.2, hk.1.2⟩⟩⟩)⟩, ⟨by (with_reducible repeat (first | apply yag | apply yah | apply yaj)); exact yak (yab (p := ⟨a3, 2, none⟩) (yab (p := ⟨a3, 1, none⟩) (yab (p := ⟨a3, 0, none⟩) (yai b0.out b2.out (by decide)) (fun _ hk => hk.2) (.slice d0 b8.length d1)) (fun _ hk => hk.2) (.string f3)) (fun _ hk => hk.2) (.int .i64 g4)) (fun _ hk => ⟨hk.1.1.1.1.2, ⟨hk.1.1.1.2, ⟨hk.1.1.2, hk.1.2⟩⟩⟩)⟩, ⟨by (with_reducible repeat (first | apply yag | apply yah | apply yaj)); exact yak (yab (p := ⟨a3, 2, none⟩) (yab (p := ⟨a3, 1, none⟩) (yab (p := ⟨a3, 0, none⟩) (yai b6.out b2.out (by decide)) (fun _ hk => hk.2) (.slice d0 b8.length d1)) (fun _ hk => hk.2) (.string f3)) (fun _ hk => hk.2) (.int .i64 g4)) (fun _ hk => ⟨hk.1.1.1.1.2, ⟨hk.1.1.1.2, ⟨hk.1.1.2, hk.1.2⟩⟩⟩)⟩, ⟨by (with_reducible repeat (first | apply yag | apply yah | apply yaj)); exact yak (yab (p := ⟨a3, 2, none⟩) (yab (p := ⟨a3, 1, none⟩) (yab (p := ⟨a3, 0, none⟩) (yai e7.out b2.out (by decide)) (fun _ hk => hk.2) (.slice d0 b8.length d1)) (fun _ hk => hk.2) (.string f3)) (fun _ hk => hk.2) (.int .i64 g4)) (fun _ hk => ⟨hk.1.1.1.1.2, ⟨hk.1.1.1.2, ⟨hk.1.1.2, hk.1.2⟩⟩⟩)⟩, ⟨by (with_reducible repeat (first | apply yag | apply yah | apply yaj)); exact yak (yab (p := ⟨a3, 2, none⟩) (yab (p := ⟨a3, 1, none⟩) (yab (p := ⟨a3, 0, none⟩) (yai i2.out b2.out (by decide)) (fun _ hk => hk.2) (.slice d0 b8.length d1)) (fun _ hk => hk.2) (.string f3)) (fun _ hk => hk.2) (.int .i64 g4)) (fun _ hk => ⟨hk.1.1.1.1.2, ⟨hk.1.1.1.2, ⟨hk.1.1.2, hk.1.2⟩⟩⟩)⟩, ⟨by repeat (with_reducible first | exact a2.out | refine oneB ?_ | refine blk_far ?_ e2.out _)⟩, ⟨by repeat (with_reducible first | exact a6.out | refine oneB ?_ | refine blk_far ?_ e3.out _)⟩, ⟨by repeat (with_reducible first | exact a8.out | refine oneB ?_ | refine blk_far ?_ e4.out _)⟩, ⟨by repeat (with_reducible first | exact a9.out | refine oneB ?_ | refine blk_far ?_ e5.out _)⟩, ⟨by (repeat refine oneB ?_); refine blk_put (cs := #[.slice d0 b8.length d1, .string f3, .int .i64 0]) ?_ 2 _ rfl; refine blk_put (cs := #[.slice d0 b8.length d1, .string (⟨#[]⟩ : ByteArray), .int .i64 0]) ?_ 1 _ rfl; refine blk_put (cs := #[.slice none 0 0, .string (⟨#[]⟩ : ByteArray), .int .i64 0]) ?_ 0 _ rfl; exact upB b2.out⟩, ⟨by repeat (with_reducible first | exact HB.out | apply yae | apply yac | apply yaf | refine yam ?_ (Aside0.out ‹_›))⟩⟩
 case rest =>
  clear HC19; (try clear c1); (try clear c2); (try clear o7); (try clear o8); (try clear p2); (try clear c4); (try clear c5); (try clear c7); (try clear o9); (try clear p0); (try clear p1); (try clear c8); (try clear r8); (try clear r9); (try clear s0); (try clear c10); (try clear c11); (try clear p3); (try clear p4); (try clear p5); (try clear c12); (try clear c13); (try clear p6); (try clear c13b1); (try clear c14); (try clear p7); (try clear c14b1); (try clear c15); (try clear p8); (try clear p9); (try clear q0); (try clear c16); (try clear c29); (try clear c41); (try clear c42); (try clear c47); (try clear c48); (try clear c49); (try clear c54); (try clear c55); (try clear c56); (try clear c57); (try clear c59); (try clear g7); (try clear o2); (try clear l1); (try clear l2); (try clear l3); (try clear l7); (try clear l8); (try clear l9); (try clear m4); (try clear m5); (try clear m6); (try clear n0); (try clear n1); (try clear n2); (try clear n6); (try clear n7); (try clear n8); (try clear l4); (try clear l5); (try clear l6); (try clear m0); (try clear m1); (try clear m2); (try clear m7); (try clear m8); (try clear m9); (try clear n3); (try clear n4); (try clear n5); (try clear n9); (try clear o0); (try clear o1); obtain ⟨kq, h8, rfl, HA, HJ18, d2, d3, d4, d5, d6, a2, a6, a8, a9, b2, HB⟩ := hcut
  cases kq with
  | zero => exact absurd HA.out (by simp [laws_FnUrlWords.j0])
  | succ kj18 =>
   have H := HA.out; clear HA
   simp only [laws_FnUrlWords.j0] at H
   by_cases c60 : h8 = true
   ·
    subst c60
    rw [if_pos rfl] at H
    rw [hrt] at H
    exact absurd H (by simp)
   replace c60 := Bool.eq_false_iff.mpr c60
   subst c60
   rw [if_neg (show ¬ (false = true) by decide)] at H
   by_cases c61 : f6 = true
   ·
    subst c61
    rw [if_pos rfl] at H
    obtain ⟨⟨s9, t0, h9, t1⟩, A62, H⟩ := bindA H; (try dsimp only at H)
    by_cases c63 : ((g6 == 200) == (decide (h9 > 0))) = true
    ·
     rw [if_pos c63] at H
     have q8 : ((g6 == 200) == (decide (h9 > 0))) = true := c63
     (try (have q9 : decide ((g6 == 200) = (decide (h9 > 0))) = true := by simpa using c63))
     (try (have r0 : ((g6 == 200) == (decide (h9 > 0))) = true := by simpa using c63))
     clear c63; obtain rfl := Option.some.inj H
     go_wp2_with (first | ((with_reducible refine gc_ 13 rfl ?_); refine gl_ (some 79) rfl Tryz.func13 #[.string b1] ?_; (with_reducible refine (impl_AskRead.calls kj18 b1 s9 t0 h9 t1 _ A62.out ?sideG).mono ?_); (case sideG => exact Glob.belowW HG.out (by repeat (first | (with_reducible first | exact HB.out | apply yae | apply yac | apply yaf | refine yam ?_ (Aside0.out ‹_›)) | exact HB.out | exact Below.refl _ _))); rintro e w64 ⟨y9, rfl, ho0, hb⟩; refine ⟨_, rfl, ?_⟩; have k8 := yaa (Kd.R_lower (yap (yap (yap (yap (yap ho0 (Kd.R_lt (upR d2.out))) (Kd.R_lt (upR d3.out))) (Kd.R_lt (upR d4.out))) (Kd.R_lt (upR d5.out))) (Kd.R_lt (upR d6.out))) (below_size (by repeat (with_reducible first | exact HB.out | apply yae | apply yac | apply yaf | refine yam ?_ (Aside0.out ‹_›))))); replace d2 := yaa (yan (upR d2.out) (Kd.R_base ho0) hb); replace d3 := yaa (yan (upR d3.out) (Kd.R_base ho0) hb); replace d4 := yaa (yan (upR d4.out) (Kd.R_base ho0) hb); replace d5 := yaa (yan (upR d5.out) (Kd.R_base ho0) hb); replace d6 := yaa (yan (upR d6.out) (Kd.R_base ho0) hb); replace a2 := yaa (yal (upB a2.out) hb); replace a6 := yaa (yal (upB a6.out) hb); replace a8 := yaa (yal (upB a8.out) hb); replace a9 := yaa (yal (upB a9.out) hb); replace b2 := yaa (yal (upB b2.out) hb); replace HB := yaa (yao (by repeat (with_reducible first | exact HB.out | apply yae | apply yac | apply yaf | refine yam ?_ (Aside0.out ‹_›))) hb); (try clear hb ho0)) | ((with_reducible refine gd_ 16 rfl ?_); refine bx_ 16 rfl #[.slice none 0 0, .string (⟨#[]⟩ : ByteArray), .int .i64 0] 25 ?_; intro g8 hg w65 hbox hb; replace d2 := yaa (yad (upR d2.out) hb); replace d3 := yaa (yad (upR d3.out) hb); replace d4 := yaa (yad (upR d4.out) hb); replace d5 := yaa (yad (upR d5.out) hb); replace d6 := yaa (yad (upR d6.out) hb); replace k8 := yaa (yad (upR k8.out) hb); have k9 := yaa (hbox); have r1 := yaa ((by rw [hg]; exact (below_size (by repeat (with_reducible first | exact HB.out | apply yae | apply yac | apply yaf | refine yam ?_ (Aside0.out ‹_›)))) : w.heap.size ≤ g8)); replace HB := yaa (yao (by repeat (with_reducible first | exact HB.out | apply yae | apply yac | apply yaf | refine yam ?_ (Aside0.out ‹_›))) hb); have w2 := r1; have g9 := yaa ((by rw [hg]; exact Nat.ne_of_lt (blk_lt (upB a2.out)) : b3 ≠ g8)); replace a2 := yaa (yal (upB a2.out) hb); have j7 := yaa g9.out.symm; have h0 := yaa ((by rw [hg]; exact Nat.ne_of_lt (blk_lt (upB a6.out)) : b4 ≠ g8)); replace a6 := yaa (yal (upB a6.out) hb); have j8 := yaa h0.out.symm; have h2 := yaa ((by rw [hg]; exact Nat.ne_of_lt (blk_lt (upB a8.out)) : a5 ≠ g8)); replace a8 := yaa (yal (upB a8.out) hb); have j9 := yaa h2.out.symm; have h3 := yaa ((by rw [hg]; exact Nat.ne_of_lt (blk_lt (upB a9.out)) : a1 ≠ g8)); replace a9 := yaa (yal (upB a9.out) hb); have k0 := yaa h3.out.symm; have h4 := yaa ((by rw [hg]; exact Nat.ne_of_lt (blk_lt (upB b2.out)) : a3 ≠ g8)); replace b2 := yaa (yal (upB b2.out) hb); have k1 := yaa h4.out.symm; clear hb hbox hg; obtain ⟨z1, z2, t2⟩ := Kd.R_slice k8.out; subst t2; have w3 := j7.out; have w4 := g9.out; have w5 := j8.out; have w6 := h0.out; have w7 := j9.out; have w8 := h2.out; have w9 := k0.out; have x0 := h3.out; have x1 := k1.out; have x2 := h4.out; obtain ⟨r2, r3, r4⟩ := cc3_ k9.out; obtain ⟨r5, r6⟩ := cf2_ k9.out; have r7 := blk_frozen k9.out 2))
     go_ret
     exact ⟨by first | rfl | (simp [errW_none, errW_some] <;> rfl) | (simp only [← hji12]; first | rfl | (simp [errW_none, errW_some] <;> rfl)) | (simp [*, errW_none, errW_some] <;> rfl), by repeat (with_reducible first | exact HB.out | apply yae | apply yac | apply yaf | refine yam ?_ (Aside0.out ‹_›))⟩
    rw [if_neg c63] at H
    have q8 : ((g6 == 200) == (decide (h9 > 0))) = false := (by simpa using c63)
    (try (have q9 : decide ((g6 == 200) = (decide (h9 > 0))) = false := by simpa using c63))
    (try (have r0 : ((g6 == 200) == (decide (h9 > 0))) = false := by simpa using c63))
    (try (have x4 : ¬ ((g6 == 200) = (decide (h9 > 0))) := by simpa using c63))
    clear c63
    rw [hrt] at H
    exact absurd H (by simp)
   replace c61 := Bool.eq_false_iff.mpr c61
   subst c61
   rw [if_neg (show ¬ (false = true) by decide)] at H
   obtain rfl := Option.some.inj H
   go_wp2
   go_ret
   exact ⟨by first | rfl | (simp [errW_none, errW_some] <;> rfl) | (simp only [← hji12]; first | rfl | (simp [errW_none, errW_some] <;> rfl)) | (simp [*, errW_none, errW_some] <;> rfl), by repeat (with_reducible first | exact HB.out | apply yae | apply yac | apply yaf | refine yam ?_ (Aside0.out ‹_›))⟩
def laws_FnUrlWords.Pure : Prop := ∀ (l0 : List Int), l0.length ≤ maxLen → l0.length * 1 ≤ 140737488351232 → (∀ x ∈ l0, (Lit.int .u8 x).wf = true) → ∃ k, laws_FnUrlWords.f k l0 = some true
theorem laws_FnUrlWords.walk (P : laws_FnUrlWords.Pure) (a0 : Option Addr) (len0 cap0 : Nat) (z0 : List Int) (w : World) (w0 : (a0 = none ∧ len0 = 0 ∧ cap0 = 0 ∧ z0 = []) ∨ ∃ x, a0 = some x ∧ len0 ≤ cap0 ∧ cap0 ≤ maxLen ∧ z0.length = cap0 ∧ (∀ i, i < z0.length → w.cell? (x.add i) = some (.int .u8 (z0.getD i 0))) ∧ ∀ n ∈ z0, (Lit.int .u8 n).wf = true) (y0 : len0 * 1 ≤ 140737488351232) (hG : Glob w) :
  Calls Tryz.prog 5 #[.slice a0 len0 cap0] w fun e w' => e = .returned (.bool true) ∧ Below w.heap.size w w' := by
 obtain ⟨l0, rfl, hr0, hm0, hw0, hc0⟩ := ReadsInt.ofRowC w0; obtain ⟨k, h⟩ := P l0 hm0 y0 hw0
 refine (laws_FnUrlWords.calls k _ _ l0 true w (Kd.C_of_reads (d := (0 : Int)) (h1 := fun _ => rfl) hr0) hc0 h rfl hG).mono ?_
 rintro e w' ⟨rfl, hd⟩
 exact ⟨rfl, hd⟩
end
end Go.Proofs.YtmplnpjdbfedbaaGreatDoor.X
namespace Go.Proofs.YtmplnpjdbfedbaaGreatDoor.Pl
open Go.RowKit Go.Proofs.YtmplnpjdbfedbaaGreatDoorW.PrintWords
theorem wrap_id {x : Int} (h0 : -9223372036854775808 ≤ x) (h1 : x ≤ 9223372036854775807) : wrap64 x = x := by
  unfold wrap64; omega
theorem wrap_succ {i : Nat} (h : i < 9223372036854775807) : wrap64 ((i : Int) + 1) = ((i + 1 : Nat) : Int) := by
  unfold wrap64; omega
theorem ev_succ {α : Type} {g : Nat → Option α} {r : α} (h : Ev (fun k => g (k + 1)) r) : Ev g r := by
  obtain ⟨K, h⟩ := h
  refine ⟨K + 1, fun n hn => ?_⟩
  obtain ⟨m, rfl⟩ : ∃ m, n = m + 1 := ⟨n - 1, by omega⟩
  exact h m (by omega)
theorem rd_nat (l : List Int) (i : Nat) : rd l (i : Int) = l.getD i 0 := rfl
theorem getD_mem {α : Type} (l : List α) (z : α) (i : Nat) (h : i < l.length) : l.getD i z ∈ l := by
  rw [List.getD_eq_getElem?_getD, List.getElem?_eq_getElem h]; exact List.getElem_mem h
theorem ev_allR (n : Nat) (p : Nat → Bool) (b : Bool) (g : Nat → Int → Option Bool)
    (hyes : ∀ i, i < n → p i = true → ∀ r, Ev (fun k => g k ((i + 1 : Nat) : Int)) r → Ev (fun k => g k (i : Int)) r)
    (hno : ∀ i, i < n → p i = false → Ev (fun k => g k (i : Int)) false)
    (hend : Ev (fun k => g k (n : Int)) b) : Ev (fun k => g k 0) ((List.range n).all p && b) := by
  have key : ∀ d i, i + d = n → Ev (fun k => g k (i : Int)) (((List.range' i d).all p) && b) := by
    intro d
    induction d with
    | zero => intro i hi; have : i = n := by omega
              subst this; simpa using hend
    | succ d ih =>
      intro i hi
      have := ih (i + 1) (by omega)
      rw [List.range'_succ, List.all_cons]
      cases hp : p i with
      | true => simpa using hyes i (by omega) hp _ this
      | false => simpa using hno i (by omega) hp
  have := key n 0 (by omega)
  rwa [← List.range_eq_range'] at this
theorem Ev.at_ {α : Type} {g : Nat → Option α} {r : α} (h : Ev g r) : ∃ K, ∀ k, K ≤ k → g k = some r := h
theorem ev_const {α : Type} {x : Option α} {r : α} (h : x = some r) : Ev (fun _ => x) r := ⟨0, fun _ _ => h⟩
def Tot {α : Type} (g : Nat → Option α) (post : α → Prop) : Prop := ∃ r, Ev g r ∧ post r
theorem Tot.ret {α : Type} {post : α → Prop} {r : α} (h : post r) : Tot (fun _ => some r) post := ⟨r, Ev.now r, h⟩
theorem Tot.mono {α : Type} {g : Nat → Option α} {P Q : α → Prop} (h : Tot g P) (hi : ∀ r, P r → Q r) : Tot g Q := by
  obtain ⟨r, h, hp⟩ := h
  exact ⟨r, h, hi r hp⟩
theorem Tot.bind {α β : Type} {g : Nat → Option α} {f : Nat → α → Option β} {P : α → Prop} {Q : β → Prop} (h : Tot g P) (hf : ∀ a, P a → Tot (fun k => f k a) Q) : Tot (fun k => (g k).bind (f k)) Q := by
  obtain ⟨a, h, hp⟩ := h
  obtain ⟨r, h2, hq⟩ := hf a hp
  exact ⟨r, Ev.bind h h2, hq⟩
theorem Tot.some_bind {α β : Type} {f : Nat → α → Option β} {Q : β → Prop} {a : α} (hf : Tot (fun k => f k a) Q) : Tot (fun k => (some a).bind (f k)) Q := hf
theorem Tot.ite {α : Type} {c : Prop} [Decidable c] {f g : Nat → Option α} {Q : α → Prop} (h1 : c → Tot f Q) (h2 : ¬ c → Tot g Q) : Tot (fun k => if c then f k else g k) Q := by
  by_cases h : c
  · simpa [h] using h1 h
  · simpa [h] using h2 h
theorem Tot.pos {α : Type} {c : Prop} [Decidable c] {f g : Nat → Option α} {Q : α → Prop} (h : c) (h1 : Tot f Q) : Tot (fun k => if c then f k else g k) Q := by simpa [h] using h1
theorem Tot.neg {α : Type} {c : Prop} [Decidable c] {f g : Nat → Option α} {Q : α → Prop} (h : ¬ c) (h1 : Tot g Q) : Tot (fun k => if c then f k else g k) Q := by simpa [h] using h1
theorem Tot.succ {α : Type} {g : Nat → Option α} {Q : α → Prop} (h : Tot (fun k => g (k + 1)) Q) : Tot g Q := by
  obtain ⟨r, h, hp⟩ := h
  exact ⟨r, ev_succ h, hp⟩
theorem Tot.of_ev {α : Type} {g : Nat → Option α} {r : α} (h : Ev g r) : Tot g (fun x => x = r) := ⟨r, h, rfl⟩
theorem Tot.of_eq {α : Type} {x : Option α} {r : α} (h : x = some r) : Tot (fun _ => x) (fun y => y = r) := ⟨r, ev_const h, rfl⟩
theorem Tot.ev {α : Type} {g : Nat → Option α} {P : α → Prop} (h : Tot g P) : ∃ r, Ev g r ∧ P r := h
theorem tot_ind {α σ : Type} (g : Nat → σ → Option α) (Inv : σ → Prop) (m : σ → Nat) (post : α → Prop)
    (h : ∀ s, Inv s → (∀ s', Inv s' → m s' < m s → Tot (fun k => g k s') post) → Tot (fun k => g k s) post) : ∀ s, Inv s → Tot (fun k => g k s) post := by
  have key : ∀ d s, m s < d → Inv s → Tot (fun k => g k s) post := by
    intro d
    induction d with
    | zero => intro s h; omega
    | succ d ih => intro s hd hs; exact h s hs (fun s' hs' hm => ih s' (by omega) hs')
  intro s hs
  exact key (m s + 1) s (by omega) hs
theorem Tot.rounds {g : Nat → Option Bool} (h : Tot g (fun b => b = true)) : ∃ k, g k = some true := by
  obtain ⟨r, h, rfl⟩ := h
  exact h.rounds
end Go.Proofs.YtmplnpjdbfedbaaGreatDoor.Pl
namespace Go.Proofs.YtmplnpjdbfedbaaGreatDoor.X
open Go.RowKit Go.Proofs.YtmplnpjdbfedbaaGreatDoorW.PrintWords Go.Proofs.YtmplnpjdbfedbaaGreatDoor.Pl
set_option linter.unusedSimpArgs false
theorem l1In_some (a b c : Int) : spec_l1In.f a b c = some (decide (b ≤ a ∧ a ≤ c)) := by
  unfold spec_l1In.f
  by_cases h : b ≤ a <;> simp [h]
theorem within_some (a b c : Int) : impl_within.f a b c = some (decide (b ≤ a ∧ a ≤ c)) := by
  unfold impl_within.f
  by_cases h : b ≤ a <;> simp [h]
theorem sizeOk_some (a : Int) : impl_sizeOk.f a = some (decide (1 ≤ a ∧ a ≤ 6)) := by
  unfold impl_sizeOk.f
  by_cases h : 1 ≤ a <;> simp [h]
theorem partOk_some (a : Int) : impl_partOk.f a = some (decide (0 ≤ a ∧ a ≤ 255)) := by
  unfold impl_partOk.f
  by_cases h : 0 ≤ a <;> simp [h]
def opOkB (o a b c d : Int) : Bool :=
  if o = 1 then decide (0 ≤ a ∧ a ≤ 5) && (decide (0 ≤ b ∧ b ≤ 5) && (decide (1 ≤ c ∧ c ≤ 6) && decide (1 ≤ d ∧ d ≤ 6)))
  else if o = 7 then decide (1 ≤ a ∧ a ≤ 6) && (decide (1 ≤ b ∧ b ≤ 6) && (decide (c = 0) && decide (d = 0)))
  else if o = 8 then decide (0 ≤ a ∧ a ≤ 255) && (decide (0 ≤ b ∧ b ≤ 255) && (decide (0 ≤ c ∧ c ≤ 255) && decide (d = 0)))
  else decide (2 ≤ o ∧ o ≤ 6) && (decide (a = 0) && (decide (b = 0) && (decide (c = 0) && decide (d = 0))))
theorem spec_OpOk_some (o a b c d : Int) : spec_OpOk.f o a b c d = some (opOkB o a b c d) := by
  unfold spec_OpOk.f opOkB
  simp only [l1In_some, Option.bind_some]
  by_cases h1 : o = 1
  · simp only [h1, if_true]
    by_cases p : 0 ≤ a ∧ a ≤ 5 <;> by_cases q : 0 ≤ b ∧ b ≤ 5 <;> by_cases r : 1 ≤ c ∧ c ≤ 6 <;> simp [p, q, r]
  · simp only [h1, if_false]
    by_cases h7 : o = 7
    · simp only [h7, if_true]
      by_cases p : 1 ≤ a ∧ a ≤ 6 <;> by_cases q : 1 ≤ b ∧ b ≤ 6 <;> by_cases r : c = 0 <;> simp [p, q, r]; rfl
    · simp only [h7, if_false]
      by_cases h8 : o = 8
      · simp only [h8, if_true]
        by_cases p : 0 ≤ a ∧ a ≤ 255 <;> by_cases q : 0 ≤ b ∧ b ≤ 255 <;> by_cases r : 0 ≤ c ∧ c ≤ 255 <;> simp [p, q, r]; rfl
      · simp only [h8, if_false]
        by_cases p : 2 ≤ o ∧ o ≤ 6 <;> by_cases q : a = 0 <;> by_cases r : b = 0 <;> by_cases s : c = 0 <;> simp [p, q, r, s]; rfl
theorem impl_OpOk_some (k : Nat) (o a b c d : Int) : impl_OpOk.f (k + 1) o a b c d = some (opOkB o a b c d) := by
  unfold impl_OpOk.f opOkB
  simp only [impl_OpOk.j0, within_some, sizeOk_some, partOk_some, Option.bind_some]
  by_cases h1 : o = 1
  · simp only [h1, if_true]
    by_cases p : 0 ≤ a ∧ a ≤ 5 <;> by_cases q : 0 ≤ b ∧ b ≤ 5 <;> by_cases r : 1 ≤ c ∧ c ≤ 6 <;> simp [p, q, r]
  · simp only [h1, if_false]
    by_cases h2 : o = 2
    · subst h2; simp; rfl
    by_cases h3 : o = 3
    · subst h3; simp; rfl
    by_cases h4 : o = 4
    · subst h4; simp; rfl
    by_cases h5 : o = 5
    · subst h5; simp; rfl
    by_cases h6 : o = 6
    · subst h6; simp; rfl
    by_cases h7 : o = 7
    · subst h7
      simp only [show ¬ ((7 : Int) = 2) by decide, show ¬ ((7 : Int) = 3) by decide, show ¬ ((7 : Int) = 4) by decide, show ¬ ((7 : Int) = 5) by decide, if_false, if_true]
      by_cases p : 1 ≤ a ∧ a ≤ 6 <;> by_cases q : 1 ≤ b ∧ b ≤ 6 <;> by_cases r : c = 0 <;> simp [p, q, r]; rfl
    by_cases h8 : o = 8
    · subst h8
      simp only [show ¬ ((8 : Int) = 2) by decide, show ¬ ((8 : Int) = 3) by decide, show ¬ ((8 : Int) = 4) by decide, show ¬ ((8 : Int) = 5) by decide, show ¬ ((8 : Int) = 7) by decide, if_false, if_true]
      by_cases p : 0 ≤ a ∧ a ≤ 255 <;> by_cases q : 0 ≤ b ∧ b ≤ 255 <;> by_cases r : 0 ≤ c ∧ c ≤ 255 <;> simp [p, q, r]; rfl
    have h9 : ¬ (2 ≤ o ∧ o ≤ 6) := by omega
    have h6' : (o == 6) = false := by simpa using h6
    simp [h2, h3, h4, h5, h7, h8, h9, h6']
abbrev Op := S65
def okB (x : Op) : Bool := opOkB x.f0 x.f1 x.f2 x.f3 x.f4
def opAt (l : List Op) (i : Nat) : Op := rd_T65 l (i : Int)
def allOkB (l : List Op) : Bool := decide (l.length ≤ 5) && (List.range l.length).all fun i => okB (opAt l i)
theorem spec_l6All_ev (l : List Op) (hl : l.length ≤ 4611686018427387904) : Ev (fun k => spec_l6All.f k l) (allOkB l) := by
  have := ev_allR l.length (fun i => okB (opAt l i)) (decide ((l.length : Int) ≤ 5)) (fun k i => spec_l6All.l0 k l i) ?_ ?_ ?_
  · have e : allOkB l = ((List.range l.length).all (fun i => okB (opAt l i)) && decide ((l.length : Int) ≤ 5)) := by
      unfold allOkB
      rw [Bool.and_comm]
      congr 1
      simp only [decide_eq_decide]
      omega
    rw [e]
    exact this
  · intro i hi hp r h
    refine Ev.step (fun k => ?_) h
    have e := spec_OpOk_some (rd_T65 l (i : Int)).f0 (rd_T65 l (i : Int)).f1 (rd_T65 l (i : Int)).f2 (rd_T65 l (i : Int)).f3 (rd_T65 l (i : Int)).f4
    simp only [spec_l6All.l0]
    rw [if_pos (by omega), if_pos (by omega), e]
    simp only [Option.bind_some]
    rw [if_pos (show opOkB (rd_T65 l (i : Int)).f0 (rd_T65 l (i : Int)).f1 (rd_T65 l (i : Int)).f2 (rd_T65 l (i : Int)).f3 (rd_T65 l (i : Int)).f4 = true from hp), wrap_succ (by omega)]
  · intro i hi hp
    refine ev_succ ⟨0, fun k _ => ?_⟩
    have e := spec_OpOk_some (rd_T65 l (i : Int)).f0 (rd_T65 l (i : Int)).f1 (rd_T65 l (i : Int)).f2 (rd_T65 l (i : Int)).f3 (rd_T65 l (i : Int)).f4
    simp only [spec_l6All.l0]
    rw [if_pos (by omega), if_pos (by omega), e]
    simp only [Option.bind_some]
    rw [if_neg (show ¬ (opOkB (rd_T65 l (i : Int)).f0 (rd_T65 l (i : Int)).f1 (rd_T65 l (i : Int)).f2 (rd_T65 l (i : Int)).f3 (rd_T65 l (i : Int)).f4 = true) from by have hp2 : opOkB (rd_T65 l (i : Int)).f0 (rd_T65 l (i : Int)).f1 (rd_T65 l (i : Int)).f2 (rd_T65 l (i : Int)).f3 (rd_T65 l (i : Int)).f4 = false := hp; rw [hp2]; decide)]
  · refine ev_succ ⟨0, fun k _ => ?_⟩
    simp only [spec_l6All.l0]
    rw [if_neg (by omega)]
theorem impl_opsOk_ev (l : List Op) (hl : l.length ≤ 4611686018427387904) : Ev (fun k => impl_opsOk.f k l) (allOkB l) := by
  by_cases h5 : l.length ≤ 5
  · have := ev_allR l.length (fun i => okB (opAt l i)) true (fun k i => impl_opsOk.l0 k l (l.length : Int) i) ?_ ?_ ?_
    · have e : allOkB l = ((List.range l.length).all (fun i => okB (opAt l i)) && true) := by
        unfold allOkB
        simp [h5]
      rw [e]
      refine Ev.congr (fun k => ?_) this
      show impl_opsOk.f k l = _
      unfold impl_opsOk.f
      rw [if_neg (by omega)]
    · intro i hi hp r h
      obtain ⟨K, h⟩ := h
      refine ⟨K + 2, fun k hk => ?_⟩
      obtain ⟨k, rfl⟩ : ∃ m, k = m + 2 := ⟨k - 2, by omega⟩
      have e := impl_OpOk_some k (rd_T65 l (i : Int)).f0 (rd_T65 l (i : Int)).f1 (rd_T65 l (i : Int)).f2 (rd_T65 l (i : Int)).f3 (rd_T65 l (i : Int)).f4
      have e2 := h (k + 1) (by omega)
      dsimp only at e2 ⊢
      simp only [impl_opsOk.l0] at e2 ⊢
      rw [if_pos (by omega), if_pos (by omega), if_pos (by omega), e]
      simp only [Option.bind_some]
      rw [if_pos (show opOkB (rd_T65 l (i : Int)).f0 (rd_T65 l (i : Int)).f1 (rd_T65 l (i : Int)).f2 (rd_T65 l (i : Int)).f3 (rd_T65 l (i : Int)).f4 = true from hp), wrap_succ (by omega)]
      exact e2
    · intro i hi hp
      refine ev_succ (ev_succ ⟨0, fun k _ => ?_⟩)
      have e := impl_OpOk_some k (rd_T65 l (i : Int)).f0 (rd_T65 l (i : Int)).f1 (rd_T65 l (i : Int)).f2 (rd_T65 l (i : Int)).f3 (rd_T65 l (i : Int)).f4
      simp only [impl_opsOk.l0]
      rw [if_pos (by omega), if_pos (by omega), if_pos (by omega), e]
      simp only [Option.bind_some]
      rw [if_neg (show ¬ (opOkB (rd_T65 l (i : Int)).f0 (rd_T65 l (i : Int)).f1 (rd_T65 l (i : Int)).f2 (rd_T65 l (i : Int)).f3 (rd_T65 l (i : Int)).f4 = true) from by have hp2 : opOkB (rd_T65 l (i : Int)).f0 (rd_T65 l (i : Int)).f1 (rd_T65 l (i : Int)).f2 (rd_T65 l (i : Int)).f3 (rd_T65 l (i : Int)).f4 = false := hp; rw [hp2]; decide)]
    · refine ev_succ ⟨0, fun k _ => ?_⟩
      simp only [impl_opsOk.l0]
      rw [if_neg (by omega)]
  · have e : allOkB l = false := by
      unfold allOkB
      simp [h5]
    rw [e]
    refine ⟨0, fun k _ => ?_⟩
    show impl_opsOk.f k l = _
    unfold impl_opsOk.f
    rw [if_pos (by omega)]
def signB (c : Int) : Bool := decide (97 ≤ c ∧ c ≤ 122) || decide (48 ≤ c ∧ c ≤ 57)
def nameB (s : ByteArray) : Bool := decide (1 ≤ s.size ∧ s.size ≤ 6) && (List.range s.size).all fun i => signB (bt s (i : Int))
theorem impl_nameOk_ev (s : ByteArray) : Ev (fun k => impl_nameOk.f k s) (nameB s) := by
  by_cases hs : 1 ≤ s.size ∧ s.size ≤ 6
  · have := ev_allR s.size (fun i => signB (bt s (i : Int))) true (fun k i => impl_nameOk.l0 k s (s.size : Int) i) ?_ ?_ ?_
    · have e : nameB s = ((List.range s.size).all (fun i => signB (bt s (i : Int))) && true) := by
        unfold nameB
        simp [hs]
      rw [e]
      refine Ev.step (fun k => ?_) this
      unfold impl_nameOk.f
      rw [if_neg (by omega)]
      simp only [impl_nameOk.j0]
      rw [if_neg (by simp; omega)]
    · intro i hi hp r h
      refine Ev.step (fun k => ?_) h
      simp only [impl_nameOk.l0]
      rw [if_pos (by omega), if_pos (by omega), if_pos (by omega), wrap_succ (by omega)]
      simp only [signB, Bool.or_eq_true, decide_eq_true_eq] at hp
      repeat' split
      all_goals first | rfl | (exfalso; omega)
    · intro i hi hp
      refine ev_succ ⟨0, fun k _ => ?_⟩
      simp only [impl_nameOk.l0]
      rw [if_pos (by omega), if_pos (by omega), if_pos (by omega)]
      simp only [signB, Bool.or_eq_false_iff, decide_eq_false_iff_not] at hp
      repeat' split
      all_goals first | rfl | (exfalso; omega)
    · refine ev_succ ⟨0, fun k _ => ?_⟩
      simp only [impl_nameOk.l0]
      rw [if_neg (by omega)]
  · have e : nameB s = false := by
      unfold nameB
      simp only [hs, decide_false, Bool.false_and]
    rw [e]
    refine ev_succ ⟨0, fun k _ => ?_⟩
    unfold impl_nameOk.f
    simp only [impl_nameOk.j0]
    split
    · rfl
    · rw [if_pos (by simp; omega)]
theorem spec_l7Path_ev (s : ByteArray) : Ev (fun k => spec_l7Path.f k s) (nameB s) := by
  by_cases hs : 1 ≤ s.size ∧ s.size ≤ 6
  · have := ev_allR s.size (fun i => signB (bt s (i : Int))) true (fun k i => spec_l7Path.l0 k s i) ?_ ?_ ?_
    · have e : nameB s = ((List.range s.size).all (fun i => signB (bt s (i : Int))) && true) := by
        unfold nameB
        simp [hs]
      rw [e]
      refine Ev.step (fun k => ?_) this
      unfold spec_l7Path.f
      rw [if_neg (by omega)]
      simp only [spec_l7Path.j0]
      rw [if_neg (by simp; omega)]
    · intro i hi hp r h
      refine Ev.step (fun k => ?_) h
      simp only [spec_l7Path.l0]
      rw [if_pos (by omega), if_pos (by omega), wrap_succ (by omega)]
      simp only [signB, Bool.or_eq_true, decide_eq_true_eq] at hp
      repeat' split
      all_goals first | rfl | (exfalso; omega)
    · intro i hi hp
      refine ev_succ ⟨0, fun k _ => ?_⟩
      simp only [spec_l7Path.l0]
      rw [if_pos (by omega), if_pos (by omega)]
      simp only [signB, Bool.or_eq_false_iff, decide_eq_false_iff_not] at hp
      repeat' split
      all_goals first | rfl | (exfalso; omega)
    · refine ev_succ ⟨0, fun k _ => ?_⟩
      simp only [spec_l7Path.l0]
      rw [if_neg (by omega)]
  · have e : nameB s = false := by
      unfold nameB
      simp only [hs, decide_false, Bool.false_and]
    rw [e]
    refine ev_succ ⟨0, fun k _ => ?_⟩
    unfold spec_l7Path.f
    simp only [spec_l7Path.j0]
    split
    · rfl
    · rw [if_pos (by simp; omega)]
def askB (l : List Op) (s : ByteArray) (n : Int) : Bool := allOkB l && (nameB s && decide (0 ≤ n ∧ n ≤ 9999))
theorem impl_AskOk_ev (l : List Op) (hl : l.length ≤ 4611686018427387904) (s : ByteArray) (n : Int) : Ev (fun k => impl_AskOk.f k l s n) (askB l s n) := by
  obtain ⟨K, h⟩ := impl_opsOk_ev l hl
  obtain ⟨K', h'⟩ := impl_nameOk_ev s
  refine ⟨K + K', fun k hk => ?_⟩
  have e1 := h k (by omega)
  have e2 := h' k (by omega)
  dsimp only at e1 e2 ⊢
  unfold impl_AskOk.f askB
  rw [e1]
  cases allOkB l <;> simp [e2, within_some]
  cases nameB s <;> simp
theorem spec_AskOk_ev (l : List Op) (hl : l.length ≤ 4611686018427387904) (s : ByteArray) (n : Int) : Ev (fun k => spec_AskOk.f k l s n) (askB l s n) := by
  obtain ⟨K, h⟩ := spec_l6All_ev l hl
  obtain ⟨K', h'⟩ := spec_l7Path_ev s
  refine ⟨K + K', fun k hk => ?_⟩
  have e1 := h k (by omega)
  have e2 := h' k (by omega)
  dsimp only at e1 e2 ⊢
  unfold spec_AskOk.f askB
  rw [e1]
  cases allOkB l <;> simp [e2, l1In_some]
  cases nameB s <;> simp
end Go.Proofs.YtmplnpjdbfedbaaGreatDoor.X
namespace Go.Proofs.YtmplnpjdbfedbaaGreatDoor.X
open Go.RowKit Go.Proofs.YtmplnpjdbfedbaaGreatDoorW.PrintWords Go.Proofs.YtmplnpjdbfedbaaGreatDoor.Pl
set_option linter.unusedSimpArgs false
set_option linter.unusedVariables false
theorem wr_id {x : Int} (h0 : -9223372036854775808 ≤ x) (h1 : x ≤ 9223372036854775807) : wrap64 x = x := by unfold wrap64; omega
theorem digit_str (d : Nat) (h : d < 10) : strOfNums [(wrap64 (48 + (d : Int))) % 256] = ⟨#[UInt8.ofNat (48 + d)]⟩ := by
  rw [wr_id (by omega) (by omega), show (48 + (d : Int)) % 256 = ((48 + d : Nat) : Int) by omega]
  unfold strOfNums
  rfl
theorem plain_tot (n : Nat) : n ≤ 9223372036854775807 → ∀ x3 : ByteArray, x3.size + Lib.nDigits n ≤ 9223372036854775807 → Tot (fun k => spec_l7Plain.l0 k (n : Int) x3) (fun r => r = ⟨(Lib.decDigits n).toArray⟩ ++ x3) := by
  induction n using Nat.strongRecOn with
  | _ n ih =>
    intro hn x3 hx
    refine Tot.succ ?_
    simp only [spec_l7Plain.l0]
    by_cases h : n < 10
    · refine Tot.neg (by omega) (Tot.some_bind ?_)
      rw [digit_str n h]
      rw [Lib.nDigits_small h] at hx
      refine Tot.pos ?_ (Tot.ret ?_)
      · show 1 + x3.size ≤ _
        omega
      · rw [Lib.decDigits_one h]
    · refine Tot.pos (by omega) (Tot.some_bind ?_)
      rw [show Int.tmod (n : Int) 10 = ((n % 10 : Nat) : Int) from (Int.ofNat_tmod n 10).symm, digit_str _ (by omega), show Int.tdiv (n : Int) 10 = ((n / 10 : Nat) : Int) from (Int.ofNat_tdiv n 10).symm, wr_id (by omega) (by omega)]
      rw [Lib.nDigits_big h] at hx
      have hp := Lib.nDigits_pos (n / 10)
      refine Tot.pos ?_ ?_
      · show 1 + x3.size ≤ _
        omega
      · refine Tot.mono (ih (n / 10) (by omega) (by omega) _ ?_) ?_
        · rw [ByteArray.size_append]
          show 1 + x3.size + _ ≤ _
          omega
        · rintro r rfl
          rw [Lib.decDigits.eq_def n, dif_neg h, ← ByteArray.append_assoc]
          congr 1
theorem plainF_tot (n : Nat) (hn : n ≤ 9223372036854775807) : Tot (fun k => spec_l7Plain.f k (n : Int)) (fun r => r = ⟨(Lib.itoa (n : Int)).toArray⟩) := by
  have h := Lib.itoa_length_le (n : Int) (by omega) (by omega)
  rw [Lib.itoa_nonneg, Lib.decDigits_length] at h
  refine Tot.mono (plain_tot n hn ⟨#[]⟩ (by show 0 + _ ≤ _; omega)) ?_
  rintro r rfl
  rw [Lib.itoa_nonneg]
  exact ByteArray.append_empty
theorem rd4 (a b c d : Int) (i : Nat) (hi : i < 4) : rd [a, b, c, d] (i : Int) = [a, b, c, d].getD i 0 := by
  match i, hi with
  | 0, _ => rfl
  | 1, _ => rfl
  | 2, _ => rfl
  | 3, _ => rfl
theorem otext_tot (W : ByteArray) (hW : W.size ≤ 5) (a b c d : Int) (hns : ∀ n ∈ [a, b, c, d], 0 ≤ n ∧ n ≤ 9223372036854775807) (many : Nat) (hm : many ≤ 4) : ∀ e i, i + e = many → Tot (fun k => spec_OpText.l0 k (txtI W ([a, b, c, d].take i)) many [a, b, c, d] i) (fun r => r = txtI W ([a, b, c, d].take many))
  | 0, i, h => by
    obtain rfl : i = many := by omega
    refine Tot.succ ?_
    simp only [spec_OpText.l0]
    exact Tot.neg (by omega) (Tot.ret rfl)
  | e + 1, i, h => by
    have ih := otext_tot W hW a b c d hns many hm e (i + 1) (by omega)
    have hl := txtI_len W ([a, b, c, d].take i) (fun n hn => by have := hns n (List.mem_of_mem_take hn); exact ⟨by omega, this.2⟩) hW (by simp; omega)
    have hn := hns ([a, b, c, d].getD i 0) (num_mem (by omega))
    have e1 : txtI W ([a, b, c, d].take (i + 1)) = txtI W ([a, b, c, d].take i) ++ numT ([a, b, c, d].getD i 0) := by rw [take_getD _ _ (by simp; omega), txtI_snoc]
    rw [e1] at ih
    generalize txtI W ([a, b, c, d].take i) = T at *
    refine Tot.succ ?_
    simp only [spec_OpText.l0, rd4 a b c d i (by omega)]
    obtain ⟨m, hm'⟩ := Int.eq_ofNat_of_zero_le hn.1
    rw [hm'] at ih hn ⊢
    refine Tot.pos (by omega) (Tot.pos (by omega) (Tot.pos (by omega) (Tot.pos (by simp; omega) ?_)))
    refine Tot.bind (plainF_tot m (by omega)) ?_
    rintro _ rfl
    have h20 := Lib.itoa_length_le (m : Int) (by omega) (by omega)
    refine Tot.pos ?_ ?_
    · rw [ByteArray.size_append]
      show _ + 1 + (Lib.itoa (m : Int)).toArray.size ≤ _
      rw [List.size_toArray]
      omega
    · rw [wr_id (by omega) (by omega), ByteArray.append_assoc]
      exact ih
theorem opOk_kind {o a b c d : Int} (h : opOkB o a b c d = true) : 1 ≤ o ∧ o ≤ 8 ∧ ∀ n ∈ [a, b, c, d], 0 ≤ n ∧ n ≤ 255 := by
  unfold opOkB at h
  simp only [List.mem_cons, List.not_mem_nil, or_false, forall_eq_or_imp, forall_eq]
  split at h
  · simp at h; omega
  · split at h
    · simp at h; omega
    · split at h
      · simp at h; omega
      · simp at h; omega
theorem word_some (k : Nat) (h : k < 9) : spec_l7Word.f (k : Int) = some (formW k, (formN k : Int)) := by
  match k, h with
  | 0, _ => rfl
  | 1, _ => rfl
  | 2, _ => rfl
  | 3, _ => rfl
  | 4, _ => rfl
  | 5, _ => rfl
  | 6, _ => rfl
  | 7, _ => rfl
  | 8, _ => rfl
def opTextF (o a b c d : Int) : ByteArray := if opOkB o a b c d then txtI (formW o.toNat) ([a, b, c, d].take (formN o.toNat)) else ⟨#[]⟩
theorem spec_OpText_tot (o a b c d : Int) : Tot (fun k => spec_OpText.f k o a b c d) (fun r => r = opTextF o a b c d) := by
  unfold spec_OpText.f opTextF
  refine Tot.bind (Tot.of_eq (spec_OpOk_some o a b c d)) ?_
  rintro _ rfl
  cases h : opOkB o a b c d with
  | false => exact Tot.neg (by decide) (Tot.ret rfl)
  | true =>
    obtain ⟨h1, h8, hn⟩ := opOk_kind h
    obtain ⟨k, rfl⟩ := Int.eq_ofNat_of_zero_le (show 0 ≤ o by omega)
    refine Tot.pos rfl ?_
    refine Tot.bind (Tot.of_eq (word_some k (by omega))) ?_
    rintro _ rfl
    exact otext_tot (formW k) (formW_len k (by omega)) a b c d (fun n h => ⟨(hn n h).1, by have := (hn n h).2; omega⟩) (formN k) (formN_le k (by omega)) (formN k) 0 (by omega)
theorem impl_OpText_tot (o a b c d : Int) : Tot (fun k => impl_OpText.f k o a b c d) (fun r => r = opTextF o a b c d) := by
  refine Tot.succ ?_
  unfold impl_OpText.f opTextF
  refine Tot.bind (Tot.succ (Tot.succ (Tot.of_eq (impl_OpOk_some 0 o a b c d)))) ?_
  rintro _ rfl
  cases h : opOkB o a b c d with
  | false => exact Tot.neg (by decide) (Tot.ret rfl)
  | true =>
    obtain ⟨h1, h8, hn⟩ := opOk_kind h
    refine Tot.pos rfl ?_
    unfold opTextI
    rw [if_pos ⟨by omega, by omega, fun n h => ⟨by have := hn n h; omega, by have := hn n h; omega⟩⟩]
    exact Tot.ret rfl
end Go.Proofs.YtmplnpjdbfedbaaGreatDoor.X
namespace Go.Proofs.YtmplnpjdbfedbaaGreatDoor.X
open Go.RowKit Go.Proofs.YtmplnpjdbfedbaaGreatDoorW.PrintWords Go.Proofs.YtmplnpjdbfedbaaGreatDoor.Pl
set_option linter.unusedSimpArgs false
set_option linter.unusedVariables false
theorem ba_ext {a b : ByteArray} (h : a.data.toList = b.data.toList) : a = b := by
  obtain ⟨a⟩ := a; obtain ⟨b⟩ := b
  exact congrArg ByteArray.mk (Array.toList_inj.1 h)
theorem ba_app (a b : ByteArray) : (a ++ b).data.toList = a.data.toList ++ b.data.toList := by
  rw [ByteArray.data_append, Array.toList_append]
theorem ba_size (a : ByteArray) : a.size = a.data.toList.length := by
  show a.data.size = _
  rw [Array.length_toList]
theorem ba_mk (l : List UInt8) : (⟨l.toArray⟩ : ByteArray).data.toList = l := rfl
def opT (x : Op) : ByteArray := opTextF x.f0 x.f1 x.f2 x.f3 x.f4
def joinT (xs : List ByteArray) : ByteArray := ⟨(Lib.join (xs.map (·.data.toList)) [44]).toArray⟩
theorem joinT_one (x : ByteArray) : joinT [x] = x := ba_ext (by rw [joinT, ba_mk, List.map_cons, List.map_nil, Lib.join_one])
theorem joinT_snoc (xs : List ByteArray) (h : xs ≠ []) (y : ByteArray) : joinT (xs ++ [y]) = (joinT xs ++ ⟨#[44]⟩) ++ y := by
  obtain ⟨x, r, rfl⟩ := List.exists_cons_of_ne_nil h
  apply ba_ext
  rw [ba_app, ba_app, joinT, joinT, ba_mk, ba_mk, List.cons_append, List.map_cons, List.map_cons, Lib.join_cons, Lib.join_cons, List.map_append, List.map_cons, List.map_nil]
  simp [Lib.joinTail]
theorem opT_len (x : Op) : (opT x).size ≤ 1000 := by
  unfold opT opTextF
  split
  · rename_i h
    obtain ⟨h1, h8, hn⟩ := opOk_kind h
    refine txtI_len _ _ (fun n h => ?_) (formW_len _ (by omega)) (by simp; omega)
    have := hn n (List.mem_of_mem_take h)
    exact ⟨by omega, by omega⟩
  · show 0 ≤ _
    omega
theorem joinT_len (xs : List ByteArray) (h : ∀ x ∈ xs, x.size ≤ 1000) : (joinT xs).size ≤ 1001 * xs.length := by
  cases xs with
  | nil => exact Nat.le_refl _
  | cons x r =>
    rw [ba_size, joinT, ba_mk, List.map_cons, Lib.join_cons, List.length_append, Lib.joinTail_length]
    have h0 := h x (List.mem_cons_self ..)
    rw [ba_size] at h0
    have key : ∀ r : List ByteArray, (∀ x ∈ r, x.size ≤ 1000) → Lib.lens (r.map (·.data.toList)) ≤ 1000 * r.length := by
      intro r
      induction r with
      | nil => intro _; exact Nat.le_refl _
      | cons y r ih =>
        intro h
        have h1 := ih (fun z hz => h z (List.mem_cons_of_mem _ hz))
        have h2 := h y (List.mem_cons_self ..)
        rw [ba_size] at h2
        simp only [Lib.lens, List.map_cons, List.sum_cons, List.length_cons] at h1 ⊢
        omega
    have := key r (fun z hz => h z (List.mem_cons_of_mem _ hz))
    simp only [List.length_map, List.length_cons, List.length_nil]
    omega
def opsF (l : List Op) : ByteArray := if l.length = 0 then ⟨#[45]⟩ else joinT (l.map opT)
theorem opsF_len (l : List Op) (h : l.length ≤ 5) : (opsF l).size ≤ 5100 := by
  unfold opsF
  split
  · show 1 ≤ _
    omega
  · have := joinT_len (l.map opT) (fun x hx => by obtain ⟨y, _, rfl⟩ := List.mem_map.1 hx; exact opT_len y)
    rw [List.length_map] at this
    omega
theorem take_opT (l : List Op) (i : Nat) (h : i < l.length) : (l.map opT).take (i + 1) = (l.map opT).take i ++ [opT (opAt l i)] := by
  rw [List.take_add_one, List.getElem?_eq_getElem (by simpa using h)]
  simp [opAt, rd_T65, List.getD_eq_getElem?_getD, h]
theorem take_len (l : List Op) (i : Nat) (h : i ≤ l.length) : ((l.map opT).take i).length = i := by simp; omega
theorem take_small (l : List Op) (i : Nat) (h : l.length ≤ 5) : (joinT ((l.map opT).take i)).size ≤ 5005 := by
  have := joinT_len ((l.map opT).take i) (fun x hx => by obtain ⟨y, _, rfl⟩ := List.mem_map.1 (List.mem_of_mem_take hx); exact opT_len y)
  have h2 : ((l.map opT).take i).length ≤ 5 := by simp; omega
  omega
theorem l7Ops_tot (l : List Op) (hl : l.length ≤ 5) : ∀ e i, i + e = l.length → Tot (fun k => spec_l7Ops.l0 k l (joinT ((l.map opT).take i)) i) (fun r => r = joinT (l.map opT))
  | 0, i, h => by
    refine Tot.succ ?_
    simp only [spec_l7Ops.l0]
    refine Tot.neg (by omega) (Tot.ret ?_)
    rw [List.take_of_length_le (by simp; omega)]
  | e + 1, i, h => by
    have ih := l7Ops_tot l hl e (i + 1) (by omega)
    have hs := take_small l i hl
    have ht := opT_len (opAt l i)
    rw [take_opT l i (by omega)] at ih
    refine Tot.succ ?_
    simp only [spec_l7Ops.l0]
    refine Tot.pos (by omega) ?_
    by_cases h0 : i = 0
    · subst h0
      refine Tot.neg (by omega) (Tot.pos (by omega) ?_)
      refine Tot.bind (spec_OpText_tot _ _ _ _ _) ?_
      rintro _ rfl
      have e0 : (⟨#[]⟩ : ByteArray) ++ opT (opAt l 0) = opT (opAt l 0) := ba_ext (by rw [ba_app]; rfl)
      have e1 : joinT ((l.map opT).take 0) = ⟨#[]⟩ := rfl
      rw [List.take_zero, List.nil_append, joinT_one] at ih
      rw [e1]
      refine Tot.pos (by show 0 + (opT (opAt l 0)).size ≤ _; omega) ?_
      rw [wr_id (by omega) (by omega)]
      show Tot (fun k => spec_l7Ops.l0 k l ((⟨#[]⟩ : ByteArray) ++ opT (opAt l 0)) _) _
      rw [e0]
      exact ih
    · have hne : (l.map opT).take i ≠ [] := by
        intro hh
        have := congrArg List.length hh
        rw [take_len l i (by omega)] at this
        exact h0 (by simpa using this)
      rw [joinT_snoc _ hne] at ih
      refine Tot.pos (by omega) (Tot.pos (by omega) (Tot.pos (by omega) ?_))
      refine Tot.bind (spec_OpText_tot _ _ _ _ _) ?_
      rintro _ rfl
      refine Tot.pos ?_ ?_
      · rw [ByteArray.size_append]
        show _ + 1 + (opT (opAt l i)).size ≤ _
        omega
      · rw [wr_id (by omega) (by omega)]
        exact ih
theorem spec_l7Ops_tot (l : List Op) (hl : l.length ≤ 5) : Tot (fun k => spec_l7Ops.f k l) (fun r => r = opsF l) := by
  unfold spec_l7Ops.f opsF
  by_cases h : l.length = 0
  · rw [if_pos h]
    exact Tot.pos (by omega) (Tot.ret rfl)
  · rw [if_neg h]
    exact Tot.neg (by omega) (l7Ops_tot l hl l.length 0 (by omega))
def askI (ops path : ByteArray) (till : Int) : ByteArray := (((((⟨#[47]⟩ : ByteArray) ++ ops) ++ (⟨#[47]⟩ : ByteArray)) ++ path) ++ (⟨#[63, 101, 61]⟩ : ByteArray)) ++ ⟨(Lib.itoa till).toArray⟩
def askF (l : List Op) (path : ByteArray) (till : Int) : ByteArray := if askB l path till then askI (opsF l) path till else ⟨#[]⟩
theorem askB_parts {l : List Op} {path : ByteArray} {till : Int} (h : askB l path till = true) : l.length ≤ 5 ∧ (1 ≤ path.size ∧ path.size ≤ 6) ∧ 0 ≤ till ∧ till ≤ 9999 := by
  simp only [askB, allOkB, nameB, Bool.and_eq_true, decide_eq_true_eq] at h
  exact ⟨h.1.1, h.2.1.1, h.2.2.1, h.2.2.2⟩
theorem spec_AskText_tot (l : List Op) (hl : l.length ≤ 4611686018427387904) (path : ByteArray) (till : Int) : Tot (fun k => spec_AskText.f k l path till) (fun r => r = askF l path till) := by
  unfold spec_AskText.f askF
  refine Tot.bind (Tot.of_ev (spec_AskOk_ev l hl path till)) ?_
  rintro _ rfl
  cases h : askB l path till with
  | false => exact Tot.neg (by decide) (Tot.ret rfl)
  | true =>
    obtain ⟨h5, hp, ht0, ht1⟩ := askB_parts h
    obtain ⟨n, rfl⟩ := Int.eq_ofNat_of_zero_le ht0
    have ho := opsF_len l h5
    have hi := Lib.itoa_length_le (n : Int) (by omega) (by omega)
    refine Tot.pos rfl ?_
    refine Tot.bind (spec_l7Ops_tot l h5) ?_
    rintro _ rfl
    refine Tot.pos (by omega) (Tot.pos ?_ (Tot.pos ?_ (Tot.pos ?_ ?_)))
    · rw [ByteArray.size_append]; show 1 + _ + 1 ≤ _; omega
    · rw [ByteArray.size_append, ByteArray.size_append]; show 1 + _ + 1 + _ ≤ _; omega
    · rw [ByteArray.size_append, ByteArray.size_append, ByteArray.size_append]; show 1 + _ + 1 + _ + 3 ≤ _; omega
    · refine Tot.bind (plainF_tot n (by omega)) ?_
      rintro _ rfl
      refine Tot.pos ?_ (Tot.ret rfl)
      rw [ByteArray.size_append, ByteArray.size_append, ByteArray.size_append, ByteArray.size_append]
      show 1 + _ + 1 + _ + 3 + (Lib.itoa (n : Int)).toArray.size ≤ _
      rw [List.size_toArray]
      omega
theorem impl_askLoop_tot (l : List Op) (h5 : l.length ≤ 5) (path : ByteArray) (hp : path.size ≤ 6) (n : Nat) (hn : n ≤ 9999) : ∀ e i, i + e = l.length → Tot (fun k => impl_AskText.l0 k ((l.map opT).take i) l l.length i l path n) (fun r => r = askI (opsF l) path n)
  | 0, i, h => by
    have ho := opsF_len l h5
    have hi := Lib.itoa_length_le (n : Int) (by omega) (by omega)
    have hI : strconv_Itoa_47.f (n : Int) = some ⟨(Lib.itoa (n : Int)).toArray⟩ := by unfold strconv_Itoa_47.f; rw [if_pos ⟨by omega, by omega⟩]
    refine Tot.succ ?_
    simp only [impl_AskText.l0]
    refine Tot.neg (by omega) ?_
    rw [List.take_of_length_le (by simp; omega)]
    by_cases h0 : l.length = 0
    · refine Tot.neg (by rw [List.length_map]; omega) ?_
      have e : opsF l = ⟨#[45]⟩ := by unfold opsF; rw [if_pos h0]
      rw [e]
      refine Tot.pos (by omega) (Tot.pos ?_ (Tot.pos ?_ ?_))
      · rw [ByteArray.size_append]; show 1 + 1 + 1 + _ ≤ _; omega
      · rw [ByteArray.size_append, ByteArray.size_append]; show 1 + 1 + 1 + _ + 3 ≤ _; omega
      · refine Tot.bind (Tot.of_eq hI) ?_
        rintro _ rfl
        refine Tot.pos ?_ (Tot.ret rfl)
        rw [ByteArray.size_append, ByteArray.size_append]
        show 1 + 1 + 1 + _ + 3 + (Lib.itoa (n : Int)).toArray.size ≤ _
        rw [List.size_toArray]
        omega
    · refine Tot.pos (by rw [List.length_map]; omega) ?_
      have e : opsF l = joinT (l.map opT) := by unfold opsF; rw [if_neg h0]
      have hJ : strings_Join.f (l.map opT) ⟨#[44]⟩ = some (opsF l) := by
        have hh := opsF_len l h5
        rw [e, ba_size] at hh
        unfold strings_Join.f
        rw [if_pos ⟨by simp; omega, by have : (Lib.join ((l.map opT).map (·.data.toList)) [44]).length ≤ 5100 := hh; show (Lib.join _ [44]).length ≤ _; omega⟩, e]
        rfl
      refine Tot.bind (Tot.of_eq hJ) ?_
      rintro _ rfl
      refine Tot.pos (by omega) (Tot.pos ?_ (Tot.pos ?_ (Tot.pos ?_ ?_)))
      · rw [ByteArray.size_append]; show 1 + _ + 1 ≤ _; omega
      · rw [ByteArray.size_append, ByteArray.size_append]; show 1 + _ + 1 + _ ≤ _; omega
      · rw [ByteArray.size_append, ByteArray.size_append, ByteArray.size_append]; show 1 + _ + 1 + _ + 3 ≤ _; omega
      · refine Tot.bind (Tot.of_eq hI) ?_
        rintro _ rfl
        refine Tot.pos ?_ (Tot.ret rfl)
        rw [ByteArray.size_append, ByteArray.size_append, ByteArray.size_append, ByteArray.size_append]
        show 1 + _ + 1 + _ + 3 + (Lib.itoa (n : Int)).toArray.size ≤ _
        rw [List.size_toArray]
        omega
  | e + 1, i, h => by
    have ih := impl_askLoop_tot l h5 path hp n hn e (i + 1) (by omega)
    rw [take_opT l i (by omega)] at ih
    refine Tot.succ ?_
    simp only [impl_AskText.l0]
    refine Tot.pos (by omega) (Tot.pos (by omega) (Tot.pos (by omega) ?_))
    refine Tot.bind (impl_OpText_tot _ _ _ _ _) ?_
    rintro _ rfl
    refine Tot.pos (by rw [take_len l i (by omega)]; omega) ?_
    rw [wr_id (by omega) (by omega)]
    exact ih
theorem impl_AskText_tot (l : List Op) (hl : l.length ≤ 4611686018427387904) (path : ByteArray) (till : Int) : Tot (fun k => impl_AskText.f k l path till) (fun r => r = askF l path till) := by
  unfold impl_AskText.f askF
  refine Tot.bind (Tot.of_ev (impl_AskOk_ev l hl path till)) ?_
  rintro _ rfl
  cases h : askB l path till with
  | false => exact Tot.neg (by decide) (Tot.ret rfl)
  | true =>
    obtain ⟨h5, hp, ht0, ht1⟩ := askB_parts h
    obtain ⟨n, rfl⟩ := Int.eq_ofNat_of_zero_le ht0
    refine Tot.pos rfl (Tot.pos (by omega) (Tot.pos (by omega) ?_))
    exact impl_askLoop_tot l h5 path hp.2 n (by omega) l.length 0 (by omega)
end Go.Proofs.YtmplnpjdbfedbaaGreatDoor.X
namespace Go.Proofs.YtmplnpjdbfedbaaGreatDoor.X
open Go.RowKit Go.Proofs.YtmplnpjdbfedbaaGreatDoorW.PrintWords Go.Proofs.YtmplnpjdbfedbaaGreatDoor.Pl
set_option linter.unusedSimpArgs false
set_option linter.unusedVariables false
def hexD : ByteArray := ⟨#[48, 49, 50, 51, 52, 53, 54, 55, 56, 57, 97, 98, 99, 100, 101, 102]⟩
def hexd (n : Nat) : UInt8 := if n < 10 then UInt8.ofNat (48 + n) else UInt8.ofNat (87 + n)
def hexL (l : List Int) : List UInt8 := l.flatMap fun b => [hexd (b.toNat / 16), hexd (b.toNat % 16)]
def hexF (l : List Int) : ByteArray := ⟨(hexL l).toArray⟩
theorem hexL_len (l : List Int) : (hexL l).length = 2 * l.length := by
  induction l with
  | nil => rfl
  | cons b l ih =>
    have : hexL (b :: l) = hexd (b.toNat / 16) :: hexd (b.toNat % 16) :: hexL l := rfl
    rw [this, List.length_cons, List.length_cons, ih, List.length_cons]
    omega
theorem hexF_size (l : List Int) : (hexF l).size = 2 * l.length := by
  show (hexL l).toArray.size = _
  rw [List.size_toArray, hexL_len]
theorem hx_impl : ∀ b : Fin 256, bt hexD ((b.val : Int) / 16) = ((hexd (b.val / 16)).toNat : Int) ∧ bt hexD (Go.bits .and .u8 (b.val : Int) 15) = ((hexd (b.val % 16)).toNat : Int) ∧ 0 ≤ Go.bits .and .u8 (b.val : Int) 15 ∧ Go.bits .and .u8 (b.val : Int) 15 < 16 := by decide +kernel
theorem rd_in {l : List Int} (hb : ∀ y ∈ l, 0 ≤ y ∧ y ≤ 255) (i : Nat) (h : i < l.length) : ∃ b : Fin 256, rd l (i : Int) = (b.val : Int) ∧ l.drop i = (b.val : Int) :: l.drop (i + 1) := by
  have hm := hb l[i] (List.getElem_mem h)
  refine ⟨⟨l[i].toNat, by omega⟩, ?_, ?_⟩
  · rw [rd_nat, List.getD_eq_getElem?_getD, List.getElem?_eq_getElem h]
    show l[i] = _
    dsimp only
    omega
  · rw [List.drop_eq_getElem_cons h]
    congr 1
    dsimp only
    omega
def hexN (l : List Int) : List Int := (hexL l).map fun u => (u.toNat : Int)
theorem hexN_str (l : List Int) : strOfNums (hexN l) = hexF l := by
  have h : (strOfNums (hexN l)).data.toList = (hexF l).data.toList := by
    rw [← Lib.toList_data, Lib.strOfNums_toList]
    show ((hexL l).map _).map _ = hexL l
    rw [List.map_map]
    refine (List.map_congr_left (g := id) (fun u _ => ?_)).trans (List.map_id _)
    show UInt8.ofNat ((u.toNat : Int)).toNat = u
    rw [Int.toNat_natCast, UInt8.ofNat_toNat]
  cases hA : strOfNums (hexN l) with
  | mk A =>
    rw [hA] at h
    exact congrArg ByteArray.mk (Array.toList_inj.1 h)
theorem impl_hex_tot (l : List Int) (hb : ∀ y ∈ l, 0 ≤ y ∧ y ≤ 255) (hl : l.length ≤ 1000000000000) : ∀ e i, i + e = l.length → ∀ x3 : List Int, x3.length ≤ 2 * i → Tot (fun k => impl_HexText.l0 k x3 l l.length i) (fun r => r = strOfNums (x3 ++ hexN (l.drop i)))
  | 0, i, h, x3, hx => by
    refine Tot.succ ?_
    simp only [impl_HexText.l0]
    refine Tot.neg (by omega) (Tot.ret ?_)
    rw [List.drop_of_length_le (by omega)]
    show _ = strOfNums (x3 ++ [])
    rw [List.append_nil]
  | e + 1, i, h, x3, hx => by
    obtain ⟨b, h1, h2⟩ := rd_in hb i (by omega)
    obtain ⟨s1, s2, s3, s4⟩ := hx_impl b
    have hb2 := b.isLt
    refine Tot.succ ?_
    simp only [impl_HexText.l0, h1]
    rw [show (⟨#[48, 49, 50, 51, 52, 53, 54, 55, 56, 57, 97, 98, 99, 100, 101, 102]⟩ : ByteArray) = hexD from rfl, s1, s2]
    refine Tot.pos (by omega) (Tot.pos (by omega) (Tot.pos (by omega) (Tot.pos (by omega) (Tot.pos (by omega) (Tot.pos s3 (Tot.pos s4 (Tot.some_bind (Tot.pos ?_ ?_))))))))
    · simp; omega
    · rw [show wrap64 ((i : Int) + 1) = ((i + 1 : Nat) : Int) by rw [wrap_id (by omega) (by omega)]; rfl]
      refine Tot.mono (impl_hex_tot l hb hl e (i + 1) (by omega) _ ?_) ?_
      · simp; omega
      · rintro r rfl
        rw [h2, List.append_assoc]
        rfl
theorem impl_HexText_tot (l : List Int) (hb : ∀ y ∈ l, 0 ≤ y ∧ y ≤ 255) (hl : l.length ≤ 1000000000000) : Tot (fun k => impl_HexText.f k l) (fun r => r = hexF l) := by
  unfold impl_HexText.f
  rw [wrap_id (by omega) (by omega)]
  refine Tot.pos (by omega) (Tot.pos (by omega) ?_)
  refine Tot.mono (impl_hex_tot l hb hl l.length 0 (by omega) [] (by simp)) ?_
  rintro r rfl
  rw [List.drop_zero, List.nil_append, hexN_str]
end Go.Proofs.YtmplnpjdbfedbaaGreatDoor.X
namespace Go.Proofs.YtmplnpjdbfedbaaGreatDoor.Sha
set_option linter.unusedVariables false
open Go
def W (a : Int) : Prop := 0 ≤ a ∧ a < 4294967296
def X (a b : Int) : Int := ((a.toNat ^^^ b.toNat : Nat) : Int)
def A (a b : Int) : Int := ((a.toNat &&& b.toNat : Nat) : Int)
def R (n : Nat) (a : Int) : Int := (((a.toNat * 2 ^ (32 - n)) % 4294967296 ||| a.toNat / 2 ^ n : Nat) : Int)
theorem W_mod (a : Int) : W (a % 4294967296) := by unfold W; omega
end Go.Proofs.YtmplnpjdbfedbaaGreatDoor.Sha
namespace Go.Proofs.YtmplnpjdbfedbaaGreatDoor.X
open Go.RowKit Go.Proofs.YtmplnpjdbfedbaaGreatDoorW.PrintWords
set_option maxRecDepth 100000
end Go.Proofs.YtmplnpjdbfedbaaGreatDoor.X
namespace Go.Proofs.YtmplnpjdbfedbaaGreatDoor.X
open Go.RowKit Go.Proofs.YtmplnpjdbfedbaaGreatDoorW.PrintWords Go.Proofs.YtmplnpjdbfedbaaGreatDoorW.PrintLast Go.Proofs.YtmplnpjdbfedbaaGreatDoorW.PrintMore Go.Proofs.YtmplnpjdbfedbaaGreatDoor.Sha Go.Proofs.YtmplnpjdbfedbaaGreatDoor.Pl
set_option linter.unusedVariables false
set_option linter.unusedSimpArgs false
structure WQ (q : St8) : Prop where
  a : Sha.W q.a
  b : Sha.W q.b
  c : Sha.W q.c
  d : Sha.W q.d
  e : Sha.W q.e
  f : Sha.W q.f
  g : Sha.W q.g
  h : Sha.W q.h
def St8.l (q : St8) : List Int := [q.a, q.b, q.c, q.d, q.e, q.f, q.g, q.h]
theorem WQ.step {q : St8} (h : WQ q) (k w : Int) : WQ (stepI k w q) := ⟨Sha.W_mod _, h.a, h.b, h.c, Sha.W_mod _, h.e, h.f, h.g⟩
end Go.Proofs.YtmplnpjdbfedbaaGreatDoor.X
namespace Go.Proofs.YtmplnpjdbfedbaaGreatDoor.X
open Go.RowKit Go.Proofs.YtmplnpjdbfedbaaGreatDoorW.PrintWords Go.Proofs.YtmplnpjdbfedbaaGreatDoorW.PrintLast Go.Proofs.YtmplnpjdbfedbaaGreatDoorW.PrintMore Go.Proofs.YtmplnpjdbfedbaaGreatDoor.Sha Go.Proofs.YtmplnpjdbfedbaaGreatDoor.Pl
set_option linter.unusedVariables false
set_option linter.unusedSimpArgs false
def Byt (b : Int) : Prop := 0 ≤ b ∧ b < 256
end Go.Proofs.YtmplnpjdbfedbaaGreatDoor.X
namespace Go.Proofs.YtmplnpjdbfedbaaGreatDoor.X
open Go.RowKit Go.Proofs.YtmplnpjdbfedbaaGreatDoorW.PrintWords Go.Proofs.YtmplnpjdbfedbaaGreatDoorW.PrintLast Go.Proofs.YtmplnpjdbfedbaaGreatDoorW.PrintMore Go.Proofs.YtmplnpjdbfedbaaGreatDoor.Sha Go.Proofs.YtmplnpjdbfedbaaGreatDoor.Pl
set_option linter.unusedVariables false
set_option linter.unusedSimpArgs false
end Go.Proofs.YtmplnpjdbfedbaaGreatDoor.X
namespace Go.Proofs.YtmplnpjdbfedbaaGreatDoor.X
open Go.RowKit Go.Proofs.YtmplnpjdbfedbaaGreatDoorW.PrintWords Go.Proofs.YtmplnpjdbfedbaaGreatDoor.Pl Go.Proofs.YtmplnpjdbfedbaaGreatDoor.Sha
set_option linter.unusedSimpArgs false
set_option linter.unusedVariables false
theorem digI_byt (st : List Int) : ∀ x ∈ digI st, Byt x := by
  intro x hx
  obtain ⟨v, _, hv⟩ := List.mem_flatMap.1 hx
  simp only [digB, List.mem_cons, List.not_mem_nil, or_false] at hv
  unfold Byt
  rcases hv with rfl | rfl | rfl | rfl <;> omega
theorem shaF_byt (l : List Int) (T : Int) : ∀ x ∈ shaF mixI l T, Byt x := digI_byt _
def macR (key list : List Int) : List Int := if key.length ≤ 500 ∧ list.length ≤ 500 then macF key list else []
theorem implMac_ok (key list : List Int) : impl_ShaMac.f key list = some (macR key list) := by
  unfold impl_ShaMac.f macR; split <;> rfl
theorem macF_len (key list : List Int) : (macF key list).length = 32 := shaF_len32 _ _
theorem ByteOk {n : Int} (h : (Lit.int .u8 n).wf = true) : 0 ≤ n ∧ n ≤ 255 := by
  simp [Lit.wf, IntKind.min, IntKind.max, IntKind.signed, IntKind.bits] at h; omega
end Go.Proofs.YtmplnpjdbfedbaaGreatDoor.X
namespace Go.Proofs.YtmplnpjdbfedbaaGreatDoor.X
open Go.RowKit Go.Proofs.YtmplnpjdbfedbaaGreatDoorW.PrintWords Go.Proofs.YtmplnpjdbfedbaaGreatDoorW.PrintLast Go.Proofs.YtmplnpjdbfedbaaGreatDoorW.PrintMore
attribute [local go_sem] max2_int min2_int max_two min_two max_three min_three max_four min_four
set_option linter.unusedVariables false
set_option linter.unusedSimpArgs false
section
end
section
open Go.Proofs.YtmplnpjdbfedbaaGreatDoorW.PrintWords.Aside0 renaming mk → yaa
end
end Go.Proofs.YtmplnpjdbfedbaaGreatDoor.X
namespace Go.Proofs.YtmplnpjdbfedbaaGreatDoor.X
open Go.RowKit Go.Proofs.YtmplnpjdbfedbaaGreatDoorW.PrintWords Go.Proofs.YtmplnpjdbfedbaaGreatDoor.Pl
set_option linter.unusedSimpArgs false
set_option linter.unusedVariables false
theorem txtI_93 (W : ByteArray) (l : List Int) (h : ∀ n ∈ l, okI n) (hW : W.size ≤ 5) (hl : l.length ≤ 4) : (txtI W l).size ≤ 93 := by
  have : ∀ (l : List Int) (S : ByteArray), (∀ n ∈ l, okI n) → (l.foldl (fun s n => s ++ numT n) S).size ≤ S.size + 22 * l.length := by
    intro l
    induction l with
    | nil => intro S _; simp
    | cons a l ih =>
      intro S h
      have h1 := ih (S ++ numT a) (fun n hn => h n (List.mem_cons_of_mem _ hn))
      have h2 := h a (List.mem_cons_self ..)
      have h3 := Lib.itoa_length_le a h2.1 h2.2
      rw [ByteArray.size_append, numT_size] at h1
      simp only [List.foldl_cons, List.length_cons]
      omega
  have := this l W h
  unfold txtI
  omega
theorem opT_93 (x : Op) : (opT x).size ≤ 93 := by
  unfold opT opTextF
  split
  · rename_i h
    obtain ⟨h1, h8, hn⟩ := opOk_kind h
    refine txtI_93 _ _ (fun n h => ?_) (formW_len _ (by omega)) (by simp; omega)
    have := hn n (List.mem_of_mem_take h)
    exact ⟨by omega, by omega⟩
  · show 0 ≤ _
    omega
theorem joinT_94 (xs : List ByteArray) (h : ∀ x ∈ xs, x.size ≤ 93) : (joinT xs).size ≤ 94 * xs.length := by
  cases xs with
  | nil => exact Nat.le_refl _
  | cons x r =>
    rw [ba_size, joinT, ba_mk, List.map_cons, Lib.join_cons, List.length_append, Lib.joinTail_length]
    have h0 := h x (List.mem_cons_self ..)
    rw [ba_size] at h0
    have key : ∀ r : List ByteArray, (∀ x ∈ r, x.size ≤ 93) → Lib.lens (r.map (·.data.toList)) ≤ 93 * r.length := by
      intro r
      induction r with
      | nil => intro _; exact Nat.le_refl _
      | cons y r ih =>
        intro h
        have h1 := ih (fun z hz => h z (List.mem_cons_of_mem _ hz))
        have h2 := h y (List.mem_cons_self ..)
        rw [ba_size] at h2
        simp only [Lib.lens, List.map_cons, List.sum_cons, List.length_cons] at h1 ⊢
        omega
    have := key r (fun z hz => h z (List.mem_cons_of_mem _ hz))
    simp only [List.length_map, List.length_cons, List.length_nil]
    omega
theorem opsF_470 (l : List Op) (h : l.length ≤ 5) : (opsF l).size ≤ 470 := by
  unfold opsF
  split
  · show 1 ≤ _
    omega
  · have := joinT_94 (l.map opT) (fun x hx => by obtain ⟨y, _, rfl⟩ := List.mem_map.1 hx; exact opT_93 y)
    rw [List.length_map] at this
    omega
theorem itoa_4 (n : Nat) (h : n ≤ 9999) : (Lib.itoa (n : Int)).length ≤ 4 := by
  rw [Lib.itoa_nonneg, Lib.decDigits_length]
  by_cases h1 : n < 10
  · rw [Lib.nDigits_small h1]; omega
  rw [Lib.nDigits_big h1]
  by_cases h2 : n / 10 < 10
  · rw [Lib.nDigits_small h2]; omega
  rw [Lib.nDigits_big h2]
  by_cases h3 : n / 10 / 10 < 10
  · rw [Lib.nDigits_small h3]; omega
  rw [Lib.nDigits_big h3, Lib.nDigits_small (by omega)]
  omega
theorem askF_500 (l : List Op) (path : ByteArray) (till : Int) : (askF l path till).size ≤ 485 := by
  unfold askF
  split
  · rename_i h
    obtain ⟨h5, hp, ht0, ht1⟩ := askB_parts h
    obtain ⟨n, rfl⟩ := Int.eq_ofNat_of_zero_le ht0
    have ho := opsF_470 l h5
    have hi := itoa_4 n (by omega)
    unfold askI
    simp only [ByteArray.size_append]
    show 1 + _ + 1 + _ + 3 + (Lib.itoa (n : Int)).toArray.size ≤ _
    rw [List.size_toArray]
    omega
  · show 0 ≤ _
    omega
theorem askF_ne {l : List Op} {path : ByteArray} {till : Int} (h : askB l path till = true) : 0 < (askF l path till).size := by
  unfold askF
  rw [if_pos h]
  unfold askI
  simp only [ByteArray.size_append]
  show 0 < 1 + _ + 1 + _ + 3 + _
  omega
def signF (key : List Int) (s : ByteArray) : ByteArray := hexF ((macF key (bytesN s)).take 8)
theorem signF_size (key : List Int) (s : ByteArray) : (signF key s).size = 16 := by
  unfold signF
  rw [hexF_size, List.length_take, macF_len]
  omega
theorem macF_byt {key list : List Int} (h : True) : ∀ x ∈ macF key list, 0 ≤ x ∧ x ≤ 255 := by
  intro x hx
  have := shaF_byt _ _ x hx
  unfold Byt at this
  omega
def urlF (key : List Int) (l : List Op) (path : ByteArray) (till : Int) : ByteArray := if askB l path till = true ∧ key.length ≤ 500 then (askF l path till ++ ⟨#[38, 115, 61]⟩) ++ signF key (askF l path till) else ⟨#[]⟩
theorem hexL_take : ∀ (n : Nat) (l : List Int), (hexL l).take (2 * n) = hexL (l.take n)
  | 0, l => by simp [hexL]
  | n + 1, [] => by simp [hexL]
  | n + 1, b :: l => by
    have ih := hexL_take n l
    have e : hexL (b :: l) = hexd (b.toNat / 16) :: hexd (b.toNat % 16) :: hexL l := rfl
    have e2 : hexL ((b :: l).take (n + 1)) = hexd (b.toNat / 16) :: hexd (b.toNat % 16) :: hexL (l.take n) := rfl
    rw [e, e2, show 2 * (n + 1) = 2 * n + 1 + 1 by omega, List.take_succ_cons, List.take_succ_cons, ih]
theorem hexF_take (l : List Int) : (hexF l).extract 0 16 = hexF (l.take 8) := by
  apply ba_ext
  rw [ByteArray.data_extract, Array.toList_extract]
  have h : (hexF l).data.toList = hexL l := rfl
  have h2 : (hexF (l.take 8)).data.toList = hexL (l.take 8) := rfl
  rw [h, h2, ← hexL_take]
  simp
theorem implUrl_tot (key : List Int) (l : List Op) (hl : l.length ≤ 4611686018427387904) (path : ByteArray) (till : Int) : Tot (fun k => impl_UrlText.f k key l path till) (fun r => r = urlF key l path till) := by
  unfold impl_UrlText.f urlF
  refine Tot.bind (impl_AskText_tot l hl path till) ?_
  rintro _ rfl
  have hsz := askF_500 l path till
  cases h : askB l path till with
  | false =>
    have e : askF l path till = ⟨#[]⟩ := by unfold askF; rw [if_neg (by rw [h]; decide)]
    rw [e]
    refine Tot.pos (by first | exact Lib.toList_data _ | (unfold ByteArray.toList ByteArray.toList.loop; rfl)) (Tot.ret ?_)
    rw [if_neg (fun h => absurd h.1 (by decide))]
  | true =>
    have hne := askF_ne h
    refine Tot.neg (fun hh => ?_) ?_
    · rw [Lib.toList_data] at hh
      rw [ba_size, hh] at hne
      exact absurd hne (by decide)
    by_cases h5 : key.length ≤ 500
    · refine Tot.neg (by omega) (Tot.pos (by omega) ?_)
      have hm : macR key (bytesN (askF l path till)) = macF key (bytesN (askF l path till)) := by unfold macR; rw [if_pos ⟨h5, by rw [bytesN_len]; omega⟩]
      have e := implMac_ok key (bytesN (askF l path till))
      rw [hm] at e
      refine Tot.bind (Tot.of_eq e) ?_; rintro _ rfl
      refine Tot.bind (impl_HexText_tot _ (macF_byt trivial) (by rw [macF_len]; omega)) ?_; rintro _ rfl
      refine Tot.pos (by rw [hexF_size, macF_len]; omega) (Tot.ret ?_)
      rw [if_pos ⟨rfl, h5⟩, hexF_take]
      rfl
    · refine Tot.pos (by omega) (Tot.ret ?_)
      rw [if_neg (fun h => h5 h.2)]
end Go.Proofs.YtmplnpjdbfedbaaGreatDoor.X
namespace Go.Proofs.YtmplnpjdbfedbaaGreatDoor.X
open Go.RowKit Go.Proofs.YtmplnpjdbfedbaaGreatDoorW.PrintWords Go.Proofs.YtmplnpjdbfedbaaGreatDoor.Pl
set_option linter.unusedSimpArgs false
set_option linter.unusedVariables false
def parts (c : UInt8) : List UInt8 → List (List UInt8)
  | [] => [[]]
  | x :: xs => if x = c then [] :: parts c xs else (match parts c xs with | [] => [[x]] | h :: t => (x :: h) :: t)
theorem parts_none {c : UInt8} : ∀ {a : List UInt8}, c ∉ a → parts c a = [a]
  | [], _ => rfl
  | x :: a, h => by
    simp only [List.mem_cons, not_or] at h
    rw [parts, if_neg (fun e => h.1 e.symm), parts_none h.2]
theorem parts_app {c : UInt8} {b : List UInt8} : ∀ {a : List UInt8}, c ∉ a → parts c (a ++ c :: b) = a :: parts c b
  | [], _ => by rw [List.nil_append, parts, if_pos rfl]
  | x :: a, h => by
    simp only [List.mem_cons, not_or] at h
    rw [List.cons_append, parts, if_neg (fun e => h.1 e.symm), parts_app h.2]
def numOf (l : List UInt8) : Nat := l.foldl (fun a d => 10 * a + (d.toNat - 48)) 0
theorem numOf_snoc (l : List UInt8) (d : UInt8) : numOf (l ++ [d]) = 10 * numOf l + (d.toNat - 48) := by simp [numOf, List.foldl_append]
theorem dig_toNat (k : Nat) (h : k < 10) : (UInt8.ofNat (48 + k)).toNat = 48 + k := by
  rw [UInt8.toNat_ofNat']; omega
theorem dec_num (n : Nat) : numOf (Lib.decDigits n) = n := by
  induction n using Nat.strongRecOn with
  | _ n ih =>
    rw [Lib.decDigits.eq_def]
    split
    · rename_i h
      show 10 * 0 + ((UInt8.ofNat (48 + n)).toNat - 48) = n
      rw [dig_toNat n h]
      omega
    · rename_i h
      rw [numOf_snoc, ih (n / 10) (by omega), dig_toNat _ (by omega)]
      omega
theorem dec_dig (n : Nat) : ∀ d ∈ Lib.decDigits n, 48 ≤ d.toNat ∧ d.toNat ≤ 57 := by
  induction n using Nat.strongRecOn with
  | _ n ih =>
    intro d hd
    rw [Lib.decDigits.eq_def] at hd
    split at hd
    · rename_i h
      obtain rfl := List.mem_singleton.1 hd
      rw [dig_toNat n h]
      omega
    · rename_i h
      rcases List.mem_append.1 hd with h1 | h1
      · exact ih (n / 10) (by omega) d h1
      · obtain rfl := List.mem_singleton.1 h1
        rw [dig_toNat _ (by omega)]
        omega
theorem itoa_dig (n : Nat) : ∀ d ∈ Lib.itoa (n : Int), 48 ≤ d.toNat ∧ d.toNat ≤ 57 := by rw [Lib.itoa_nonneg]; exact dec_dig n
theorem itoa_no {c : UInt8} (hc : c.toNat < 48 ∨ 57 < c.toNat) (n : Nat) : c ∉ Lib.itoa (n : Int) := fun h => by
  have := itoa_dig n c h
  omega
theorem itoa_inj {m n : Nat} (h : Lib.itoa (m : Int) = Lib.itoa (n : Int)) : m = n := by
  rw [Lib.itoa_nonneg, Lib.itoa_nonneg] at h
  have := congrArg numOf h
  rwa [dec_num, dec_num] at this
def opL (W : List UInt8) (ns : List Int) : List UInt8 := W ++ ns.flatMap fun n => 46 :: Lib.itoa n
theorem txtI_list (W : ByteArray) (ns : List Int) : (txtI W ns).data.toList = opL W.data.toList ns := by
  induction ns generalizing W with
  | nil => simp [opL, txtI]
  | cons n ns ih =>
    show (txtI (W ++ numT n) ns).data.toList = _
    rw [ih, ba_app]
    have e : (numT n).data.toList = 46 :: Lib.itoa n := by
      unfold numT
      rw [ba_app]
      rfl
    rw [e]
    simp [opL]
theorem parts_opL (W : List UInt8) (hW : (46 : UInt8) ∉ W) : ∀ ns : List Int, (∀ n ∈ ns, 0 ≤ n) → parts 46 (opL W ns) = W :: ns.map Lib.itoa := by
  intro ns hns
  have key : ∀ ns : List Int, (∀ n ∈ ns, 0 ≤ n) → ∀ A : List UInt8, (46 : UInt8) ∉ A → parts 46 (A ++ ns.flatMap fun n => 46 :: Lib.itoa n) = A :: ns.map Lib.itoa := by
    intro ns
    induction ns with
    | nil => intro _ A hA; rw [List.flatMap_nil, List.append_nil, parts_none hA]; rfl
    | cons n ns ih =>
      intro h A hA
      obtain ⟨m, rfl⟩ := Int.eq_ofNat_of_zero_le (h n (List.mem_cons_self ..))
      rw [List.flatMap_cons, List.cons_append, parts_app hA, ih (fun x hx => h x (List.mem_cons_of_mem _ hx)) _ (itoa_no (by decide) m)]
      rfl
  exact key ns hns W hW
theorem formW_sign (k : Nat) (h : k < 9) : ∀ c ∈ (formW k).data.toList, 97 ≤ c.toNat ∧ c.toNat ≤ 122 := by
  match k, h with
  | 0, _ => decide
  | 1, _ => decide
  | 2, _ => decide
  | 3, _ => decide
  | 4, _ => decide
  | 5, _ => decide
  | 6, _ => decide
  | 7, _ => decide
  | 8, _ => decide
theorem formW_no {c : UInt8} (hc : c.toNat < 97) (k : Nat) (h : k < 9) : c ∉ (formW k).data.toList := fun hm => by
  have := formW_sign k h c hm
  omega
theorem formW_inj : ∀ a b : Fin 9, (formW a.val).data.toList = (formW b.val).data.toList → a = b := by decide
theorem map_itoa_inj : ∀ {a b : List Int}, (∀ n ∈ a, 0 ≤ n) → (∀ n ∈ b, 0 ≤ n) → a.map Lib.itoa = b.map Lib.itoa → a = b
  | [], [], _, _, _ => rfl
  | [], _ :: _, _, _, h => by cases h
  | _ :: _, [], _, _, h => by cases h
  | x :: a, y :: b, hx, hy, h => by
    simp only [List.map_cons, List.cons.injEq] at h
    obtain ⟨m, rfl⟩ := Int.eq_ofNat_of_zero_le (hx x (List.mem_cons_self ..))
    obtain ⟨n, rfl⟩ := Int.eq_ofNat_of_zero_le (hy y (List.mem_cons_self ..))
    rw [itoa_inj h.1, map_itoa_inj (fun z hz => hx z (List.mem_cons_of_mem _ hz)) (fun z hz => hy z (List.mem_cons_of_mem _ hz)) h.2]
theorem opOk_rest {o a b c d : Int} (h : opOkB o a b c d = true) : ∃ k : Nat, o = k ∧ 1 ≤ k ∧ k < 9 ∧ (∀ n ∈ [a, b, c, d], 0 ≤ n ∧ n ≤ 255) ∧ [a, b, c, d] = [a, b, c, d].take (formN k) ++ List.replicate (4 - formN k) 0 := by
  obtain ⟨h1, h8, hn⟩ := opOk_kind h
  obtain ⟨k, rfl⟩ := Int.eq_ofNat_of_zero_le (show 0 ≤ o by omega)
  refine ⟨k, rfl, by omega, by omega, hn, ?_⟩
  have hk : k = 1 ∨ k = 2 ∨ k = 3 ∨ k = 4 ∨ k = 5 ∨ k = 6 ∨ k = 7 ∨ k = 8 := by omega
  rcases hk with rfl | rfl | rfl | rfl | rfl | rfl | rfl | rfl
  · rfl
  all_goals
    simp [opOkB] at h
    simp [formN, formsL, List.replicate, h]
theorem opTextF_list {o a b c d : Int} (h : opOkB o a b c d = true) : (opTextF o a b c d).data.toList = opL (formW o.toNat).data.toList ([a, b, c, d].take (formN o.toNat)) := by
  unfold opTextF
  rw [if_pos h, txtI_list]
theorem opTextF_inj {o a b c d o' a' b' c' d' : Int} (h : opOkB o a b c d = true) (h' : opOkB o' a' b' c' d' = true) (e : opTextF o a b c d = opTextF o' a' b' c' d') : o = o' ∧ a = a' ∧ b = b' ∧ c = c' ∧ d = d' := by
  obtain ⟨k, rfl, k1, k9, hn, hr⟩ := opOk_rest h
  obtain ⟨k', rfl, k1', k9', hn', hr'⟩ := opOk_rest h'
  have e1 := congrArg (fun x : ByteArray => x.data.toList) e
  (try dsimp only at e1)
  rw [opTextF_list h, opTextF_list h'] at e1
  simp only [Int.toNat_natCast] at e1
  have p1 := parts_opL _ (formW_no (c := 46) (by decide) k k9) ([a, b, c, d].take (formN k)) (fun n h => (hn n (List.mem_of_mem_take h)).1)
  have p2 := parts_opL _ (formW_no (c := 46) (by decide) k' k9') ([a', b', c', d'].take (formN k')) (fun n h => (hn' n (List.mem_of_mem_take h)).1)
  rw [e1, p2] at p1
  simp only [List.cons.injEq] at p1
  have ek : k' = k := congrArg Fin.val (formW_inj ⟨k', k9'⟩ ⟨k, k9⟩ p1.1)
  subst ek
  have en := map_itoa_inj (fun n h => (hn' n (List.mem_of_mem_take h)).1) (fun n h => (hn n (List.mem_of_mem_take h)).1) p1.2
  rw [en, ← hr] at hr'
  simp only [List.cons.injEq, and_true] at hr'
  exact ⟨rfl, hr'.1.symm, hr'.2.1.symm, hr'.2.2.1.symm, hr'.2.2.2.symm⟩
end Go.Proofs.YtmplnpjdbfedbaaGreatDoor.X
namespace Go.Proofs.YtmplnpjdbfedbaaGreatDoor.X
open Go.RowKit Go.Proofs.YtmplnpjdbfedbaaGreatDoorW.PrintWords Go.Proofs.YtmplnpjdbfedbaaGreatDoor.Pl
set_option linter.unusedSimpArgs false
set_option linter.unusedVariables false
def baOf (l : List UInt8) : ByteArray := ⟨l.toArray⟩
theorem baOf_list (l : List UInt8) : (baOf l).data.toList = l := rfl
theorem baOf_self (s : ByteArray) : baOf s.data.toList = s := ba_ext rfl
theorem toList_ba {a b : ByteArray} : a.toList = b.toList ↔ a = b := by
  rw [Lib.toList_data, Lib.toList_data]
  exact ⟨fun h => ba_ext h, fun h => by rw [h]⟩
theorem bt_nat (s : ByteArray) (i : Nat) (h : i < s.data.toList.length) : bt s (i : Int) = ((s.data.toList[i]).toNat : Int) := by
  have hs : i < s.size := by rw [ba_size]; exact h
  unfold bt
  rw [Int.toNat_natCast, dif_pos hs]
  have e : s[i] = s.data.toList[i] := by
    rw [Array.getElem_toList]
    rfl
  rw [e]
theorem index_none_ {l : List UInt8} {c : UInt8} (h : c ∉ l) : Lib.index l [c] = -1 := by
  rw [Lib.index_one]
  have hge := Lib.indexByte_ge l c
  rcases Int.lt_or_le (Lib.indexByte l c) 0 with h0 | h0
  · omega
  · obtain ⟨o, ho⟩ := Int.eq_ofNat_of_zero_le h0
    exact absurd (List.mem_of_getElem? (Lib.indexByte_some ho).1) h
theorem index_app {a b : List UInt8} {c : UInt8} (h : c ∉ a) : Lib.index (a ++ c :: b) [c] = (a.length : Int) := by
  rw [Lib.index_one]
  induction a with
  | nil => simp [Lib.indexByte]
  | cons x a ih =>
    simp only [List.mem_cons, not_or] at h
    have ih := ih h.2
    rw [List.cons_append, Lib.indexByte, if_neg (fun e => h.1 (beq_iff_eq.1 e).symm), ih, if_neg (fun e => by have := beq_iff_eq.1 e; omega), List.length_cons]
    omega
theorem split_at {c : UInt8} : ∀ l : List UInt8, c ∉ l ∨ ∃ a b, l = a ++ c :: b ∧ c ∉ a
  | [] => .inl (by simp)
  | x :: l => by
    by_cases hx : x = c
    · exact .inr ⟨[], l, by rw [hx]; rfl, by simp⟩
    · rcases split_at (c := c) l with h | ⟨a, b, rfl, h⟩
      · exact .inl (by simp only [List.mem_cons, not_or]; exact ⟨fun e => hx e.symm, h⟩)
      · exact .inr ⟨x :: a, b, rfl, by simp only [List.mem_cons, not_or]; exact ⟨fun e => hx e.symm, h⟩⟩
theorem cut_none {l : List UInt8} {c : UInt8} (h : c ∉ l) : Lib.cut l [c] = (l, [], false) := by
  unfold Lib.cut
  rw [index_none_ h, if_neg (by omega)]
theorem cut_app {a b : List UInt8} {c : UInt8} (h : c ∉ a) : Lib.cut (a ++ c :: b) [c] = (a, b, true) := by
  unfold Lib.cut
  rw [index_app h, if_pos (by omega), Int.toNat_natCast]
  simp
theorem splitK_parts {c : UInt8} : ∀ (n : Nat) (l : List UInt8), l.length ≤ n → Lib.splitK [c] 0 (Lib.count l [c]) l = parts c l
  | 0, l, h => by
    obtain rfl := List.eq_nil_of_length_eq_zero (Nat.le_zero.1 h)
    rw [Lib.count_miss (index_none_ (by simp))]
    rfl
  | n + 1, l, h => by
    rcases split_at (c := c) l with hn | ⟨a, b, rfl, ha⟩
    · rw [Lib.count_miss (index_none_ hn), parts_none hn]
      rfl
    · rw [List.length_append, List.length_cons] at h
      have e1 : (a ++ c :: b).drop (a.length + [c].length) = b := by simp
      have e2 : (a ++ c :: b).take (a.length + 0) = a := by simp
      rw [Lib.count_hit (by simp) (index_app ha), e1, Nat.add_comm 1, Lib.splitK, index_app ha, if_neg (fun e => by have := beq_iff_eq.1 e; omega), Int.toNat_natCast, e1, e2, splitK_parts n b (by omega), parts_app ha]
theorem partsB_parts (s : ByteArray) (c : UInt8) : partsB s ⟨#[c]⟩ = (parts c s.data.toList).map baOf := by
  have h := Lib.splitB_data ⟨#[c]⟩ 0 (Lib.countB s ⟨#[c]⟩) s
  have h2 := splitK_parts (c := c) s.data.toList.length s.data.toList (Nat.le_refl _)
  have h3 : (partsB s ⟨#[c]⟩).map (·.data.toList) = parts c s.data.toList := h.trans h2
  rw [← h3, List.map_map]
  refine ((List.map_congr_left (g := id) (fun x _ => ?_)).trans (List.map_id _)).symm
  exact baOf_self x
def glue (w : List UInt8) : List (List UInt8) → List (List UInt8)
  | [] => [w]
  | h :: t => (w ++ h) :: t
theorem glue_nil {c : UInt8} (l : List UInt8) : glue [] (parts c l) = parts c l := by
  cases l with
  | nil => rfl
  | cons x l =>
    rw [parts]
    split
    · rfl
    · split <;> rfl
theorem parts_len {c : UInt8} : ∀ l : List UInt8, (parts c l).length ≤ l.length + 1 ∧ 1 ≤ (parts c l).length
  | [] => ⟨by simp [parts], by simp [parts]⟩
  | x :: l => by
    have ih := parts_len (c := c) l
    rw [parts]
    split
    · simp only [List.length_cons]; omega
    · split
      · simp
      · rename_i h t e
        rw [e] at ih
        simp only [List.length_cons] at ih ⊢
        omega
theorem l7Cut_loop (s : ByteArray) (c : UInt8) (hs : s.size ≤ 1048576) : ∀ e i, i + e = s.size → ∀ (acc : List ByteArray) (w : List UInt8), acc.length ≤ i → w.length ≤ i → Tot (fun k => spec_l7Cut.l0 k s (c.toNat : Int) acc (baOf w) i) (fun r => r = acc ++ (glue w (parts c (s.data.toList.drop i))).map baOf)
  | 0, i, h, acc, w, ha, hw => by
    refine Tot.succ ?_
    simp only [spec_l7Cut.l0]
    refine Tot.neg (by omega) (Tot.pos (by omega) (Tot.ret ?_))
    rw [List.drop_of_length_le (by rw [← ba_size]; omega)]
    simp [parts, glue]
  | e + 1, i, h, acc, w, ha, hw => by
    have hi : i < s.data.toList.length := by rw [← ba_size]; omega
    have hd := List.drop_eq_getElem_cons hi
    obtain ⟨x, hx⟩ : ∃ x, s.data.toList[i] = x := ⟨_, rfl⟩
    rw [hx] at hd
    have hb : bt s (i : Int) = (x.toNat : Int) := by rw [bt_nat s i hi, hx]
    refine Tot.succ ?_
    simp only [spec_l7Cut.l0]
    refine Tot.pos (by omega) (Tot.pos (by omega) ?_)
    rw [hb, hd, parts]
    by_cases hc : x = c
    · refine Tot.pos (by rw [hc]) (Tot.pos (by omega) ?_)
      rw [wr_id (by omega) (by omega), if_pos hc]
      refine Tot.mono (l7Cut_loop s c hs e (i + 1) (by omega) (acc ++ [baOf w]) [] (by simp; omega) (by simp)) ?_
      rintro r rfl
      rw [glue_nil]
      simp [glue]
    · have hcn : ¬ ((x.toNat : Int) = (c.toNat : Int)) := fun e => hc (UInt8.toNat_inj.1 (by omega))
      have he : s.extract ((i : Int)).toNat (((i + 1 : Nat) : Int)).toNat = baOf [x] := by
        apply ba_ext
        rw [ByteArray.data_extract, Array.toList_extract, Int.toNat_natCast, Int.toNat_natCast, baOf_list]
        have : s.data.toList.extract i (i + 1) = [x] := by
          rw [List.extract_eq_take_drop, hd]
          simp
        exact this
      refine Tot.neg hcn ?_
      rw [wr_id (by omega) (by omega), show ((i : Int) + 1) = ((i + 1 : Nat) : Int) by omega, he]
      refine Tot.pos (by omega) (Tot.pos (by omega) (Tot.pos ?_ ?_))
      · rw [ba_size, ba_size, baOf_list, baOf_list]; simp only [List.length_cons, List.length_nil]; omega
      rw [if_neg hc]
      have hw2 : baOf w ++ baOf [x] = baOf (w ++ [x]) := ba_ext (by rw [ba_app]; rfl)
      rw [hw2]
      refine Tot.mono (l7Cut_loop s c hs e (i + 1) (by omega) acc (w ++ [x]) (by omega) (by simp; omega)) ?_
      rintro r rfl
      cases hp : parts c (s.data.toList.drop (i + 1)) with
      | nil => simp [glue]
      | cons a t => simp [glue]
theorem l7Cut_tot (s : ByteArray) (c : UInt8) (hs : s.size ≤ 1048576) : Tot (fun k => spec_l7Cut.f k s (c.toNat : Int)) (fun r => r = (parts c s.data.toList).map baOf) := by
  unfold spec_l7Cut.f
  refine Tot.mono (l7Cut_loop s c hs s.size 0 (by omega) [] [] (by simp) (by simp)) ?_
  rintro r rfl
  rw [List.drop_zero, glue_nil, List.nil_append]
theorem numOf_le : ∀ l : List UInt8, numOf l ≤ 1000 ^ l.length := by
  have key : ∀ (l : List UInt8) (a n : Nat), a ≤ n → l.foldl (fun a d => 10 * a + (d.toNat - 48)) a ≤ n * 1000 ^ l.length + (1000 ^ l.length - 1) := by
    intro l
    induction l with
    | nil => intro a n h; simp; omega
    | cons d l ih =>
      intro a n h
      have hd := d.toNat_lt
      have := ih (10 * a + (d.toNat - 48)) (10 * n + 207) (by omega)
      rw [List.foldl_cons, List.length_cons, Nat.pow_succ]
      have hp : 1 ≤ 1000 ^ l.length := Nat.one_le_pow _ _ (by omega)
      have h2 : (10 * n + 207) * 1000 ^ l.length = 10 * (n * 1000 ^ l.length) + 207 * 1000 ^ l.length := by rw [Nat.add_mul, Nat.mul_assoc]
      have h3 : n * (1000 ^ l.length * 1000) = 1000 * (n * 1000 ^ l.length) := by rw [← Nat.mul_assoc, Nat.mul_comm]
      have h4 : 0 ≤ n * 1000 ^ l.length := Nat.zero_le _
      generalize n * 1000 ^ l.length = q at *
      generalize 1000 ^ l.length = p at *
      omega
  intro l
  have := key l 0 0 (Nat.le_refl _)
  have hp : 1 ≤ 1000 ^ l.length := Nat.one_le_pow _ _ (by omega)
  unfold numOf
  omega
theorem numOf_lt5 (l : List UInt8) (h : l.length ≤ 5) : numOf l ≤ 1000000000000000 := by
  have h1 := numOf_le l
  have h2 : 1000 ^ l.length ≤ 1000 ^ 5 := Nat.pow_le_pow_right (by omega) h
  have h3 : 1000 ^ 5 = 1000000000000000 := by decide
  omega
theorem take_num (l : List UInt8) (i : Nat) (h : i < l.length) : numOf (l.take (i + 1)) = 10 * numOf (l.take i) + ((l[i]).toNat - 48) := by
  rw [List.take_add_one, List.getElem?_eq_getElem h]
  exact numOf_snoc _ _
theorem numRead_loop (s : ByteArray) (h6 : s.data.toList.length ≤ 6) : ∀ e i, i + e = s.data.toList.length → Tot (fun k => impl_numberRead.l0 k s (numOf (s.data.toList.take i)) (s.data.toList.length : Int) i) (fun r => (∀ d ∈ s.data.toList, 48 ≤ d.toNat ∧ d.toNat ≤ 57) → r = ((numOf s.data.toList : Int), true))
  | 0, i, h => by
    refine Tot.succ ?_
    simp only [impl_numberRead.l0]
    refine Tot.neg (by omega) (Tot.ret (fun _ => ?_))
    rw [List.take_of_length_le (by omega)]
  | e + 1, i, h => by
    have hi : i < s.data.toList.length := by omega
    have hn := numOf_lt5 (s.data.toList.take i) (by rw [List.length_take]; omega)
    refine Tot.succ ?_
    simp only [impl_numberRead.l0]
    refine Tot.pos (by omega) (Tot.pos (by omega) (Tot.pos (by rw [ba_size]; omega) ?_))
    rw [bt_nat s i hi]
    have hm := List.getElem_mem hi
    refine Tot.ite (fun h48 => Tot.ret (fun hd => ?_)) (fun h48 => Tot.ite (fun h57 => Tot.ret (fun hd => ?_)) (fun h57 => ?_))
    · have := hd _ hm; omega
    · have := hd _ hm; omega
    have hd0 := (s.data.toList[i]).toNat_lt
    have ih := numRead_loop s h6 e (i + 1) (by omega)
    have he : wrap64 (wrap64 (10 * (numOf (s.data.toList.take i) : Int)) + ((((s.data.toList[i]).toNat : Int) - 48) % 256)) = (numOf (s.data.toList.take (i + 1)) : Int) := by
      rw [take_num _ _ hi, wr_id (x := 10 * (numOf (s.data.toList.take i) : Int)) (by omega) (by omega), wr_id (by omega) (by omega)]
      omega
    rw [he, wr_id (by omega) (by omega)]
    exact ih
theorem dec_head (n : Nat) (h0 : 0 < n) : (Lib.decDigits n).head? ≠ some 48 := by
  induction n using Nat.strongRecOn with
  | _ n ih =>
    rw [Lib.decDigits.eq_def]
    split
    · rename_i h
      intro e
      have := congrArg UInt8.toNat (Option.some.inj e)
      rw [dig_toNat n h] at this
      have h48 : (48 : UInt8).toNat = 48 := rfl
      omega
    · rename_i h
      have := ih (n / 10) (by omega) (by omega)
      cases hd : Lib.decDigits (n / 10) with
      | nil => have hp := Lib.nDigits_pos (n / 10); rw [← Lib.decDigits_length, hd] at hp; simp at hp
      | cons x l =>
        rw [hd] at this
        simpa using this
theorem itoa_le4 (n : Nat) (h : n ≤ 9999) : 1 ≤ (Lib.itoa (n : Int)).length ∧ (Lib.itoa (n : Int)).length ≤ 4 := by
  rw [Lib.itoa_nonneg, Lib.decDigits_length]
  refine ⟨Lib.nDigits_pos n, ?_⟩
  by_cases h1 : n < 10
  · rw [Lib.nDigits_small h1]; omega
  rw [Lib.nDigits_big h1]
  by_cases h2 : n / 10 < 10
  · rw [Lib.nDigits_small h2]; omega
  rw [Lib.nDigits_big h2]
  by_cases h3 : n / 10 / 10 < 10
  · rw [Lib.nDigits_small h3]; omega
  rw [Lib.nDigits_big h3, Lib.nDigits_small (by omega)]
  omega
theorem numRead_j0 (s : ByteArray) : Tot (fun k => impl_numberRead.j0 k s true) (fun r => r = (0, false)) := Tot.succ (by simp only [impl_numberRead.j0]; exact Tot.pos trivial (Tot.ret rfl))
theorem numRead_j1 (s : ByteArray) (h6 : s.data.toList.length ≤ 6) : Tot (fun k => impl_numberRead.j0 k s false) (fun r => ∀ n : Nat, s.data.toList = Lib.itoa (n : Int) → r = ((n : Int), true)) := by
  refine Tot.succ ?_
  simp only [impl_numberRead.j0]
  refine Tot.neg (by decide) ?_
  have := numRead_loop s h6 s.data.toList.length 0 (by omega)
  rw [ba_size]
  refine Tot.mono this ?_
  intro r hr n e
  have hd := hr (by rw [e]; exact itoa_dig n)
  rw [hd, e, Lib.itoa_nonneg, dec_num]
theorem numRead_tot (s : ByteArray) : Tot (fun k => impl_numberRead.f k s) (fun r => ∀ n : Nat, n ≤ 9999 → s.data.toList = Lib.itoa (n : Int) → r = ((n : Int), true)) := by
  unfold impl_numberRead.f
  have hsz := ba_size s
  refine Tot.ite (fun h0 => ?_) (fun h0 => Tot.ite (fun h6 => ?_) (fun h6 => ?_))
  · refine Tot.mono (numRead_j0 s) (fun r _ n hn e => ?_)
    rw [Lib.toList_data] at h0
    have := (itoa_le4 n hn).1
    rw [← e, h0] at this
    simp at this
  · refine Tot.mono (numRead_j0 s) (fun r _ n hn e => ?_)
    have := (itoa_le4 n hn).2
    rw [← e] at this
    omega
  · have hne : 0 < s.data.toList.length := by
      rw [Lib.toList_data] at h0
      exact List.length_pos_iff.2 h0
    refine Tot.pos (by omega) ?_
    have hj := numRead_j1 s (by omega)
    have hb := bt_nat s 0 hne
    refine Tot.ite (fun h48 => ?_) (fun h48 => Tot.mono hj (fun r hr n _ e => hr n e))
    by_cases h1 : (s.size : Int) > 1
    · rw [show decide ((s.size : Int) > 1) = true from decide_eq_true h1]
      refine Tot.mono (numRead_j0 s) (fun r _ n hn e => ?_)
      exfalso
      have hh : s.data.toList.head? = some 48 := by
        cases hl : s.data.toList with
        | nil => rw [hl] at hne; simp at hne
        | cons x l =>
          have hx : (bt s 0) = (x.toNat : Int) := by
            rw [show (0 : Int) = ((0 : Nat) : Int) from rfl, hb]
            simp [hl]
          rw [hx] at h48
          have : x = 48 := UInt8.toNat_inj.1 (by have h48' : (48 : UInt8).toNat = 48 := rfl; omega)
          rw [this]
          rfl
      rw [e, Lib.itoa_nonneg] at hh
      have hn0 : 0 < n := by
        rcases Nat.eq_zero_or_pos n with h | h
        · subst h
          have : s.data.toList.length = 1 := by rw [e, Lib.itoa_nonneg, Lib.decDigits_length, Lib.nDigits_small (by omega)]
          omega
        · exact h
      exact dec_head n hn0 hh
    · rw [show decide ((s.size : Int) > 1) = false from decide_eq_false h1]
      exact Tot.mono hj (fun r hr n _ e => hr n e)
theorem l7Num_loop (s : ByteArray) (h4 : s.data.toList.length ≤ 4) : ∀ e i, i + e = s.data.toList.length → Tot (fun k => spec_l7Num.l0 k s (numOf (s.data.toList.take i)) i) (fun r => ∀ n : Nat, s.data.toList = Lib.itoa (n : Int) → r = (n : Int))
  | 0, i, h => by
    have hn := numOf_lt5 s.data.toList (by omega)
    refine Tot.succ ?_
    simp only [spec_l7Num.l0]
    refine Tot.neg (by rw [ba_size]; omega) ?_
    rw [List.take_of_length_le (by omega)]
    refine Tot.bind (plainF_tot _ (by omega)) ?_
    rintro _ rfl
    refine Tot.ite (fun _ => Tot.ret (fun n e => ?_)) (fun hh => Tot.ret (fun n e => absurd ?_ hh))
    · rw [e, Lib.itoa_nonneg, dec_num]
    · rw [Lib.toList_data, Lib.toList_data, e]
      rw [show numOf (Lib.itoa (n : Int)) = n by rw [Lib.itoa_nonneg, dec_num]]
  | e + 1, i, h => by
    have hi : i < s.data.toList.length := by omega
    have hn := numOf_lt5 (s.data.toList.take i) (by rw [List.length_take]; omega)
    refine Tot.succ ?_
    simp only [spec_l7Num.l0]
    refine Tot.pos (by rw [ba_size]; omega) (Tot.pos (by omega) ?_)
    rw [bt_nat s i hi]
    have hm := List.getElem_mem hi
    refine Tot.ite (fun h48 => Tot.ret (fun n e => ?_)) (fun h48 => Tot.ite (fun h57 => Tot.ret (fun n e => ?_)) (fun h57 => ?_))
    · have := itoa_dig n _ (by rw [← e]; exact hm); omega
    · have := itoa_dig n _ (by rw [← e]; exact hm); omega
    have hd0 := (s.data.toList[i]).toNat_lt
    have ih := l7Num_loop s h4 e (i + 1) (by omega)
    have he : wrap64 (wrap64 ((numOf (s.data.toList.take i) : Int) * 10) + ((((s.data.toList[i]).toNat : Int) - 48) % 256)) = (numOf (s.data.toList.take (i + 1)) : Int) := by
      rw [take_num _ _ hi, wr_id (x := (numOf (s.data.toList.take i) : Int) * 10) (by omega) (by omega), wr_id (by omega) (by omega)]
      omega
    rw [he, wr_id (by omega) (by omega)]
    exact ih
theorem l7Num_tot (s : ByteArray) : Tot (fun k => spec_l7Num.f k s) (fun r => ∀ n : Nat, n ≤ 9999 → s.data.toList = Lib.itoa (n : Int) → r = (n : Int)) := by
  have hsz := ba_size s
  have t1 : Tot (fun k => spec_l7Num.j0 k s true) (fun r => True) := Tot.succ (by simp only [spec_l7Num.j0]; exact Tot.pos trivial (Tot.ret trivial))
  unfold spec_l7Num.f
  refine Tot.ite (fun h0 => Tot.mono t1 (fun r _ n hn e => ?_)) (fun h0 => ?_)
  · have := (itoa_le4 n hn).1
    rw [← e] at this
    omega
  · by_cases h4 : (s.size : Int) > 4
    · rw [show decide ((s.size : Int) > 4) = true from decide_eq_true h4]
      refine Tot.mono t1 (fun r _ n hn e => ?_)
      have := (itoa_le4 n hn).2
      rw [← e] at this
      omega
    · rw [show decide ((s.size : Int) > 4) = false from decide_eq_false h4]
      refine Tot.succ ?_
      simp only [spec_l7Num.j0]
      refine Tot.neg (by decide) ?_
      exact Tot.mono (l7Num_loop s (by omega) s.data.toList.length 0 (by omega)) (fun r hr n _ e => hr n e)
end Go.Proofs.YtmplnpjdbfedbaaGreatDoor.X
namespace Go.Proofs.YtmplnpjdbfedbaaGreatDoor.X
open Go.RowKit Go.Proofs.YtmplnpjdbfedbaaGreatDoorW.PrintWords Go.Proofs.YtmplnpjdbfedbaaGreatDoor.Pl
set_option linter.unusedSimpArgs false
set_option linter.unusedVariables false
abbrev OpR := Int × Int × Int × Int × Int × Bool
def Said (s : ByteArray) (r : OpR) : Prop := ∃ o a b c d : Int, opOkB o a b c d = true ∧ opTextF o a b c d = s ∧ r = (o, a, b, c, d, true)
theorem opTextF_no {o a b c d : Int} (h : opOkB o a b c d = false) : opTextF o a b c d = ⟨#[]⟩ := by
  unfold opTextF; rw [if_neg (by rw [h]; decide)]
theorem opTextF_ne {o a b c d : Int} (h : opOkB o a b c d = true) : (opTextF o a b c d).data.toList ≠ [] := by
  obtain ⟨k, rfl, k1, k9, hn, _⟩ := opOk_rest h
  rw [opTextF_list h, Int.toNat_natCast]
  have hkk : k = 1 ∨ k = 2 ∨ k = 3 ∨ k = 4 ∨ k = 5 ∨ k = 6 ∨ k = 7 ∨ k = 8 := by omega
  rcases hkk with rfl | rfl | rfl | rfl | rfl | rfl | rfl | rfl <;> simp [opL, formW, formsL]
theorem implOk_tot (kd a b c d : Int) : Tot (fun k => impl_OpOk.f k kd a b c d) (fun t => t = opOkB kd a b c d) :=
  ⟨_, ⟨1, fun k hk => by obtain ⟨j, rfl⟩ : ∃ j, k = j + 1 := ⟨k - 1, by omega⟩; exact impl_OpOk_some j kd a b c d⟩, rfl⟩
theorem opEnd_tot (s : ByteArray) (kd a b c d : Int) : Tot (fun k => opEnd k s kd a b c d) (fun r => (opOkB kd a b c d = true ∧ opTextF kd a b c d = s ∧ r = (kd, a, b, c, d, true)) ∨ (¬ (opOkB kd a b c d = true ∧ opTextF kd a b c d = s) ∧ r = zR)) := by
  unfold opEnd
  refine Tot.bind (implOk_tot kd a b c d) ?_
  rintro _ rfl
  cases h : opOkB kd a b c d with
  | false => exact Tot.neg (by decide) (Tot.ret (.inr ⟨fun hh => absurd hh.1 (by decide), rfl⟩))
  | true =>
    refine Tot.pos rfl ?_
    refine Tot.bind (impl_OpText_tot _ _ _ _ _) ?_
    rintro _ rfl
    refine Tot.ite (fun he => Tot.ret (.inl ⟨rfl, toList_ba.1 he, rfl⟩)) (fun he => Tot.ret (.inr ⟨fun hh => he (toList_ba.2 hh.2), rfl⟩))
theorem scan_tot : ∀ (ps : List ByteArray) (fl : Bool), Tot (fun k => scanF k ps fl) (fun r => r.1.length = ps.length)
  | [], fl => by simp only [scanF]; exact Tot.ret rfl
  | p :: ps, fl => by
    simp only [scanF]
    refine Tot.bind (numRead_tot p) ?_
    intro r _
    refine Tot.bind (scan_tot ps (fl || !r.2)) ?_
    intro x hx
    exact Tot.ret (by simp [hx])
theorem scan_nums : ∀ ns : List Int, (∀ n ∈ ns, 0 ≤ n ∧ n ≤ 9999) → Tot (fun k => scanF k ((ns.map Lib.itoa).map baOf) false) (fun r => r = (ns, false))
  | [], _ => by simp only [List.map_nil, scanF]; exact Tot.ret rfl
  | n :: ns, h => by
    obtain ⟨h0, h1⟩ := h n (List.mem_cons_self ..)
    obtain ⟨m, rfl⟩ := Int.eq_ofNat_of_zero_le h0
    simp only [List.map_cons, scanF]
    refine Tot.bind (numRead_tot _) ?_
    intro r hr
    obtain rfl := hr m (by omega) rfl
    refine Tot.bind (scan_nums ns (fun x hx => h x (List.mem_cons_of_mem _ hx))) ?_
    rintro _ rfl
    exact Tot.ret rfl
theorem kind_word : ∀ k : Fin 9, 1 ≤ k.val → kindGo (formW k.val) 8 1 = ((k.val : Int), true) := by decide +kernel
theorem cut_len (s : ByteArray) : (Lib.cut s.data.toList [46]).2.1.length ≤ s.size := by
  rw [ba_size]
  rcases split_at (c := (46 : UInt8)) s.data.toList with h | ⟨a, b, e, h⟩
  · rw [cut_none h]; simp
  · rw [e, cut_app h]
    simp only [List.length_append, List.length_cons]
    omega
theorem implRead_sound (s : ByteArray) (hs : s.size ≤ 1048576) : Tot (fun k => impl_OpRead.f k s) (fun r => Said s r ∨ r = zR) := by
  have fin : ∀ kd a b c d : Int, Tot (fun k => opEnd k s kd a b c d) (fun r => Said s r ∨ r = zR) := fun kd a b c d => Tot.mono (opEnd_tot s kd a b c d) (fun r h => h.elim (fun h => .inl ⟨kd, a, b, c, d, h⟩) (fun h => .inr h.2))
  unfold impl_OpRead.f
  refine Tot.pos hs (Tot.ite (fun _ => Tot.ite (fun _ => Tot.pos ?_ ?_) (fun _ => fin _ _ _ _ _)) (fun _ => Tot.ret (.inr rfl)))
  · rw [List.size_toArray]; have := cut_len s; omega
  · refine Tot.bind (scan_tot _ _) ?_
    intro x _
    exact Tot.ite (fun _ => Tot.ret (.inr rfl)) (fun _ => Tot.ite (fun _ => Tot.ret (.inr rfl)) (fun _ => fin _ _ _ _ _))
theorem op_form {o a b c d : Int} (h : opOkB o a b c d = true) : ∃ k : Nat, o = k ∧ 1 ≤ k ∧ k < 9 ∧ ∃ ns : List Int, (∀ n ∈ ns, 0 ≤ n ∧ n ≤ 255) ∧ ns.length ≤ 4 ∧ [a, b, c, d] = pad4 ns ∧ (opTextF o a b c d).data.toList = opL (formW k).data.toList ns := by
  obtain ⟨k, rfl, k1, k9, hn, hr⟩ := opOk_rest h
  refine ⟨k, rfl, k1, k9, [a, b, c, d].take (formN k), fun n hm => hn n (List.mem_of_mem_take hm), by simp; omega, ?_, opTextF_list h⟩
  have h4 := formN_le k k9
  have hl : ([a, b, c, d].take (formN k)).length = formN k := by rw [List.length_take]; simp; omega
  unfold pad4
  rw [hl]
  exact hr
theorem pad4_get {a b c d : Int} {ns : List Int} (h : [a, b, c, d] = pad4 ns) : (pad4 ns).getD 0 0 = a ∧ (pad4 ns).getD 1 0 = b ∧ (pad4 ns).getD 2 0 = c ∧ (pad4 ns).getD 3 0 = d := by
  rw [← h]
  exact ⟨rfl, rfl, rfl, rfl⟩
theorem end_ok {s : ByteArray} {o a b c d : Int} (h : opOkB o a b c d = true) (e : opTextF o a b c d = s) : Tot (fun k => opEnd k s o a b c d) (fun r => r = (o, a, b, c, d, true)) :=
  Tot.mono (opEnd_tot s o a b c d) (fun r h2 => h2.elim (fun x => x.2.2) (fun x => absurd ⟨h, e⟩ x.1))
theorem implRead_complete (s : ByteArray) (hs : s.size ≤ 1048576) {o a b c d : Int} (h : opOkB o a b c d = true) (e : opTextF o a b c d = s) : Tot (fun k => impl_OpRead.f k s) (fun r => r = (o, a, b, c, d, true)) := by
  obtain ⟨k, rfl, k1, k9, ns, hns, hl, hp, ht⟩ := op_form h
  rw [e] at ht
  have hw := formW_no (c := 46) (by decide) k k9
  have hkd := kind_word ⟨k, k9⟩ k1
  dsimp only at hkd
  have hrs := cut_len s
  unfold impl_OpRead.f
  refine Tot.pos hs ?_
  cases ns with
  | nil =>
    have hc : Lib.cut s.data.toList [46] = ((formW k).data.toList, [], false) := by
      rw [ht]
      have : opL (formW k).data.toList [] = (formW k).data.toList := by simp [opL]
      rw [this]
      exact cut_none hw
    rw [hc]
    dsimp only
    rw [show (⟨(formW k).data.toList.toArray⟩ : ByteArray) = formW k from baOf_self _, hkd]
    refine Tot.pos rfl (Tot.neg (by decide) ?_)
    have e4 := pad4_get hp
    obtain ⟨rfl, rfl, rfl, rfl⟩ : a = 0 ∧ b = 0 ∧ c = 0 ∧ d = 0 := ⟨e4.1.symm, e4.2.1.symm, e4.2.2.1.symm, e4.2.2.2.symm⟩
    exact end_ok h e
  | cons n ms =>
    have hc : Lib.cut s.data.toList [46] = ((formW k).data.toList, Lib.itoa n ++ ms.flatMap (fun n => 46 :: Lib.itoa n), true) := by
      rw [ht]
      have : opL (formW k).data.toList (n :: ms) = (formW k).data.toList ++ 46 :: (Lib.itoa n ++ ms.flatMap (fun n => 46 :: Lib.itoa n)) := by simp [opL]
      rw [this]
      exact cut_app hw
    have hpr : parts 46 (Lib.itoa n ++ ms.flatMap (fun n => 46 :: Lib.itoa n)) = (n :: ms).map Lib.itoa := by
      obtain ⟨m, rfl⟩ := Int.eq_ofNat_of_zero_le (hns n (List.mem_cons_self ..)).1
      exact parts_opL (Lib.itoa (m : Int)) (itoa_no (by decide) m) ms (fun x hx => (hns x (List.mem_cons_of_mem _ hx)).1)
    rw [hc] at hrs ⊢
    dsimp only at hrs ⊢
    rw [show (⟨(formW k).data.toList.toArray⟩ : ByteArray) = formW k from baOf_self _, hkd]
    refine Tot.pos rfl (Tot.pos rfl (Tot.pos (by rw [List.size_toArray]; omega) ?_))
    rw [partsB_parts]
    show Tot (fun k_1 => (scanF k_1 ((parts 46 (Lib.itoa n ++ ms.flatMap (fun n => 46 :: Lib.itoa n))).map baOf) false).bind _) _
    rw [hpr]
    refine Tot.bind (scan_nums (n :: ms) (fun x hx => by have := hns x hx; omega)) ?_
    rintro _ rfl
    refine Tot.neg (fun hh => Bool.false_ne_true hh) (Tot.neg (by dsimp only; omega) ?_)
    dsimp only
    obtain ⟨g0, g1, g2, g3⟩ := pad4_get hp
    rw [g0, g1, g2, g3]
    exact end_ok h e
theorem implRead_tot (s : ByteArray) (hs : s.size ≤ 1048576) : Tot (fun k => impl_OpRead.f k s) (fun r => Said s r ∨ ((∀ r, ¬ Said s r) ∧ r = zR)) := by
  by_cases hx : ∃ r, Said s r
  · obtain ⟨_, o, a, b, c, d, h, e, rfl⟩ := hx
    exact Tot.mono (implRead_complete s hs h e) (fun r hr => .inl ⟨o, a, b, c, d, h, e, hr⟩)
  · exact Tot.mono (implRead_sound s hs) (fun r hr => hr.elim .inl (fun hz => .inr ⟨fun r h => hx ⟨r, h⟩, hz⟩))
theorem specL1_tot (s : ByteArray) (a b c d : Int) : ∀ e i : Nat, i + e = 9 → 1 ≤ i → Tot (fun k => spec_OpRead.l1 k s [a, b, c, d] i) (fun r => (∃ o : Nat, i ≤ o ∧ opOkB o a b c d = true ∧ opTextF o a b c d = s ∧ r = ((o : Int), a, b, c, d, true)) ∨ ((∀ o : Nat, i ≤ o → o ≤ 8 → ¬ (opOkB o a b c d = true ∧ opTextF o a b c d = s)) ∧ r = zR))
  | 0, i, h, h1 => by
    refine Tot.succ ?_
    simp only [spec_OpRead.l1]
    exact Tot.neg (by omega) (Tot.ret (.inr ⟨fun o h1 h2 => absurd h1 (by omega), rfl⟩))
  | e + 1, i, h, h1 => by
    have ih := specL1_tot s a b c d e (i + 1) (by omega) (by omega)
    have next : ¬ (opOkB (i : Int) a b c d = true ∧ opTextF (i : Int) a b c d = s) → Tot (fun k => spec_OpRead.l1 k s [a, b, c, d] (wrap64 ((i : Int) + 1))) (fun r => (∃ o : Nat, i ≤ o ∧ opOkB o a b c d = true ∧ opTextF o a b c d = s ∧ r = ((o : Int), a, b, c, d, true)) ∨ ((∀ o : Nat, i ≤ o → o ≤ 8 → ¬ (opOkB o a b c d = true ∧ opTextF o a b c d = s)) ∧ r = zR)) := by
      intro hno
      rw [wr_id (by omega) (by omega)]
      refine Tot.mono ih (fun r hr => hr.elim (fun ⟨o, h1, h2⟩ => .inl ⟨o, by omega, h2⟩) (fun ⟨h1, h2⟩ => .inr ⟨fun o ho h8 => ?_, h2⟩))
      by_cases hoi : o = i
      · subst hoi; exact hno
      · exact h1 o (by omega) h8
    refine Tot.succ ?_
    simp only [spec_OpRead.l1]
    refine Tot.pos (by omega) (Tot.pos (by simp) (Tot.pos (by simp) (Tot.pos (by simp) (Tot.pos (by simp) ?_))))
    rw [show rd [a, b, c, d] 0 = a from rfl, show rd [a, b, c, d] 1 = b from rfl, show rd [a, b, c, d] 2 = c from rfl, show rd [a, b, c, d] 3 = d from rfl]
    refine Tot.bind (spec_OpText_tot _ _ _ _ _) ?_
    rintro _ rfl
    refine Tot.ite (fun he => ?_) (fun he => next (fun hh => he (toList_ba.2 hh.2)))
    have he2 := toList_ba.1 he
    refine Tot.ite (fun h0 => next (fun hh => ?_)) (fun h0 => Tot.ret (.inl ⟨i, Nat.le_refl _, ?_, he2, rfl⟩))
    · rw [Lib.toList_data] at h0
      exact opTextF_ne hh.1 (by rw [hh.2, h0])
    · cases hk : opOkB (i : Int) a b c d with
      | true => rfl
      | false =>
        rw [opTextF_no hk] at he2
        rw [← he2] at h0
        exact absurd (by rw [Lib.toList_data]) h0
theorem specJ1_tot (s : ByteArray) (a b c d : Int) : Tot (fun k => spec_OpRead.j1 k s [a, b, c, d]) (fun r => (∃ o : Nat, 1 ≤ o ∧ opOkB o a b c d = true ∧ opTextF o a b c d = s ∧ r = ((o : Int), a, b, c, d, true)) ∨ ((∀ o : Nat, 1 ≤ o → o ≤ 8 → ¬ (opOkB o a b c d = true ∧ opTextF o a b c d = s)) ∧ r = zR)) := by
  refine Tot.succ ?_
  simp only [spec_OpRead.j1]
  exact specL1_tot s a b c d 8 1 (by omega) (by omega)
theorem four {l : List Int} (h : l.length = 4) : ∃ a b c d, l = [a, b, c, d] := by
  match l, h with
  | [a, b, c, d], _ => exact ⟨a, b, c, d, rfl⟩
theorem specL0_sound (s : ByteArray) (ps : List ByteArray) (hps : ps.length ≤ 1048577) : ∀ e i : Nat, i + e = 5 → 1 ≤ i → ∀ all : List Int, all.length = 4 → Tot (fun k => spec_OpRead.l0 k s ps all i) (fun r => Said s r ∨ r = zR)
  | e, i, h, h1, all, h4 => by
    have fin : Tot (fun k => spec_OpRead.j1 k s all) (fun r => Said s r ∨ r = zR) := by
      obtain ⟨a, b, c, d, rfl⟩ := four h4
      exact Tot.mono (specJ1_tot s a b c d) (fun r hr => hr.elim (fun ⟨o, _, h2⟩ => .inl ⟨o, a, b, c, d, h2⟩) (fun hz => .inr hz.2))
    refine Tot.succ ?_
    simp only [spec_OpRead.l0]
    refine Tot.ite (fun hi => Tot.ite (fun h5 => ?_) (fun h5 => fin)) (fun hi => fin)
    obtain ⟨e, rfl⟩ : ∃ e', e = e' + 1 := ⟨e - 1, by omega⟩
    refine Tot.pos (by omega) ?_
    refine Tot.bind (l7Num_tot _) ?_
    intro v _
    rw [wr_id (x := (i : Int) - 1) (by omega) (by omega), wr_id (by omega) (by omega)]
    exact Tot.pos (by omega) (Tot.pos (by rw [h4]; omega) (specL0_sound s ps hps e (i + 1) (by omega) (by omega) _ (by rw [List.length_set]; exact h4)))
theorem pad_set (ns : List Int) (j : Nat) (h : j < ns.length) (h4 : ns.length ≤ 4) : ((ns.take j ++ List.replicate (4 - j) 0).set j (ns.getD j 0)) = ns.take (j + 1) ++ List.replicate (4 - (j + 1)) 0 := by
  have hl : (ns.take j).length = j := by rw [List.length_take]; omega
  rw [List.set_append_right _ _ (by omega), hl, Nat.sub_self, show 4 - j = (4 - (j + 1)) + 1 by omega, List.replicate_succ, List.set_cons_zero, List.take_add_one, List.getElem?_eq_getElem h, List.append_assoc]
  simp [List.getD_eq_getElem?_getD, h]
theorem specL0_nums (s W : ByteArray) (ns : List Int) (hns : ∀ n ∈ ns, 0 ≤ n ∧ n ≤ 255) (h4 : ns.length ≤ 4) {P : OpR → Prop} (fin : Tot (fun k => spec_OpRead.j1 k s (pad4 ns)) P) : ∀ e j : Nat, j + e = ns.length → Tot (fun k => spec_OpRead.l0 k s (W :: (ns.map Lib.itoa).map baOf) (ns.take j ++ List.replicate (4 - j) 0) ((j : Int) + 1)) P
  | 0, j, h => by
    refine Tot.succ ?_
    simp only [spec_OpRead.l0]
    refine Tot.neg (by simp; omega) ?_
    rw [List.take_of_length_le (by omega), show j = ns.length by omega]
    exact fin
  | e + 1, j, h => by
    have hj : j < ns.length := by omega
    obtain ⟨h0, h255⟩ := hns _ (List.getElem_mem hj)
    obtain ⟨m, hm⟩ := Int.eq_ofNat_of_zero_le h0
    have ih := specL0_nums s W ns hns h4 fin e (j + 1) (by omega)
    have hr : rdOf ByteArray.empty (W :: (ns.map Lib.itoa).map baOf) ((j : Int) + 1) = baOf (Lib.itoa (m : Int)) := by
      rw [← hm]
      have : ((j : Int) + 1).toNat = j + 1 := by omega
      unfold rdOf
      rw [this]
      simp [List.getD_eq_getElem?_getD, hj]
    refine Tot.succ ?_
    simp only [spec_OpRead.l0]
    refine Tot.pos (by simp; omega) (Tot.pos (by omega) (Tot.pos (by omega) ?_))
    rw [hr]
    refine Tot.bind (l7Num_tot _) ?_
    intro v hv
    obtain rfl := hv m (by omega) rfl
    rw [wr_id (x := (j : Int) + 1 - 1) (by omega) (by omega), wr_id (by omega) (by omega)]
    refine Tot.pos (by omega) (Tot.pos ?_ ?_)
    · rw [List.length_append, List.length_take, List.length_replicate]; omega
    · have hs := pad_set ns j hj h4
      have hg : ns.getD j 0 = (m : Int) := by rw [← hm]; simp [List.getD_eq_getElem?_getD, hj]
      rw [hg] at hs
      rw [show ((j : Int) + 1 - 1).toNat = j by omega, hs]
      exact ih
theorem specRead_sound (s : ByteArray) (hs : s.size ≤ 1048576) : Tot (fun k => spec_OpRead.f k s) (fun r => Said s r ∨ r = zR) := by
  unfold spec_OpRead.f
  refine Tot.bind (l7Cut_tot s 46 hs) ?_
  rintro _ rfl
  have hl := (parts_len (c := 46) s.data.toList).1
  rw [← ba_size] at hl
  exact specL0_sound s _ (by rw [List.length_map]; omega) 4 1 (by omega) (by omega) _ rfl
theorem specRead_complete (s : ByteArray) (hs : s.size ≤ 1048576) {o a b c d : Int} (h : opOkB o a b c d = true) (e : opTextF o a b c d = s) : Tot (fun k => spec_OpRead.f k s) (fun r => r = (o, a, b, c, d, true)) := by
  obtain ⟨k, rfl, k1, k9, ns, hns, hl, hp, ht⟩ := op_form h
  rw [e] at ht
  have hpr := parts_opL _ (formW_no (c := 46) (by decide) k k9) ns (fun x hx => (hns x hx).1)
  unfold spec_OpRead.f
  refine Tot.bind (l7Cut_tot s 46 hs) ?_
  rintro _ rfl
  rw [ht, hpr]
  refine specL0_nums s _ ns hns hl ?_ ns.length 0 (by omega)
  rw [← hp]
  refine Tot.mono (specJ1_tot s a b c d) (fun r hr => ?_)
  rcases hr with ⟨o', _, h2, h3, h4⟩ | ⟨h1, _⟩
  · obtain ⟨e0, _⟩ := opTextF_inj h h2 (e.trans h3.symm)
    rw [h4, e0]
  · exact absurd ⟨h, e⟩ (h1 k k1 (by omega))
theorem specRead_tot (s : ByteArray) (hs : s.size ≤ 1048576) : Tot (fun k => spec_OpRead.f k s) (fun r => Said s r ∨ ((∀ r, ¬ Said s r) ∧ r = zR)) := by
  by_cases hx : ∃ r, Said s r
  · obtain ⟨_, o, a, b, c, d, h, e, rfl⟩ := hx
    exact Tot.mono (specRead_complete s hs h e) (fun r hr => .inl ⟨o, a, b, c, d, h, e, hr⟩)
  · exact Tot.mono (specRead_sound s hs) (fun r hr => hr.elim .inl (fun hz => .inr ⟨fun r h => hx ⟨r, h⟩, hz⟩))
end Go.Proofs.YtmplnpjdbfedbaaGreatDoor.X
namespace Go.Proofs.YtmplnpjdbfedbaaGreatDoor.X
open Go.RowKit Go.Proofs.YtmplnpjdbfedbaaGreatDoorW.PrintWords Go.Proofs.YtmplnpjdbfedbaaGreatDoor.Pl
set_option linter.unusedSimpArgs false
set_option linter.unusedVariables false
def opSign (c : UInt8) : Prop := (97 ≤ c.toNat ∧ c.toNat ≤ 122) ∨ c.toNat = 46 ∨ (48 ≤ c.toNat ∧ c.toNat ≤ 57)
theorem opL_sign {W : List UInt8} {ns : List Int} (hW : ∀ c ∈ W, 97 ≤ c.toNat ∧ c.toNat ≤ 122) (hn : ∀ n ∈ ns, 0 ≤ n) : ∀ c ∈ opL W ns, opSign c := by
  intro c hc
  rcases List.mem_append.1 hc with h | h
  · exact .inl (hW c h)
  · obtain ⟨n, h1, h2⟩ := List.mem_flatMap.1 h
    obtain ⟨m, rfl⟩ := Int.eq_ofNat_of_zero_le (hn n h1)
    rcases List.mem_cons.1 h2 with rfl | h3
    · exact .inr (.inl rfl)
    · exact .inr (.inr (itoa_dig m c h3))
theorem opT_sign {x : Op} (h : okB x = true) : ∀ c ∈ (opT x).data.toList, opSign c := by
  obtain ⟨k, hk, k1, k9, hn, _⟩ := opOk_rest h
  unfold opT
  rw [opTextF_list h, hk]
  exact opL_sign (formW_sign k k9) (fun n h => (hn n (List.mem_of_mem_take h)).1)
theorem opT_no {x : Op} (h : okB x = true) {c : UInt8} (hc : ¬ opSign c) : c ∉ (opT x).data.toList := fun hm => hc (opT_sign h c hm)
theorem opT_inj {x y : Op} (h : okB x = true) (h' : okB y = true) (e : opT x = opT y) : x = y := by
  obtain ⟨a, b, c, d, f⟩ := x
  obtain ⟨a', b', c', d', f'⟩ := y
  obtain ⟨rfl, rfl, rfl, rfl, rfl⟩ := opTextF_inj h h' e
  rfl
theorem map_opT_inj : ∀ {a b : List Op}, (∀ x ∈ a, okB x = true) → (∀ x ∈ b, okB x = true) → a.map (fun x => (opT x).data.toList) = b.map (fun x => (opT x).data.toList) → a = b
  | [], [], _, _, _ => rfl
  | [], _ :: _, _, _, h => by cases h
  | _ :: _, [], _, _, h => by cases h
  | x :: a, y :: b, hx, hy, h => by
    simp only [List.map_cons, List.cons.injEq] at h
    rw [opT_inj (hx x (List.mem_cons_self ..)) (hy y (List.mem_cons_self ..)) (ba_ext h.1), map_opT_inj (fun z hz => hx z (List.mem_cons_of_mem _ hz)) (fun z hz => hy z (List.mem_cons_of_mem _ hz)) h.2]
theorem allOk_mem {l : List Op} (h : allOkB l = true) : ∀ x ∈ l, okB x = true := by
  intro x hx
  simp only [allOkB, Bool.and_eq_true, List.all_eq_true, List.mem_range] at h
  obtain ⟨i, hi, rfl⟩ := List.getElem_of_mem hx
  have := h.2 i hi
  unfold opAt rd_T65 at this
  rw [Int.toNat_natCast, List.getD_eq_getElem?_getD, List.getElem?_eq_getElem hi] at this
  exact this
theorem join_list (x : Op) (r : List Op) : (joinT ((x :: r).map opT)).data.toList = (opT x).data.toList ++ r.flatMap fun y => 44 :: (opT y).data.toList := by
  rw [joinT, ba_mk, List.map_cons, List.map_cons, Lib.join_cons]
  congr 1
  simp only [Lib.joinTail, List.map_map]
  rw [List.flatMap_def]
  rfl
theorem parts_join : ∀ (r : List Op) (A : List UInt8), (44 : UInt8) ∉ A → (∀ x ∈ r, okB x = true) → parts 44 (A ++ r.flatMap fun y => 44 :: (opT y).data.toList) = A :: r.map fun y => (opT y).data.toList
  | [], A, hA, _ => by rw [List.flatMap_nil, List.append_nil, parts_none hA]; rfl
  | x :: r, A, hA, h => by
    rw [List.flatMap_cons, List.cons_append, parts_app hA, parts_join r _ (opT_no (h x (List.mem_cons_self ..)) (by unfold opSign; decide)) (fun z hz => h z (List.mem_cons_of_mem _ hz))]
    rfl
def opsL (l : List Op) : List UInt8 := (opsF l).data.toList
theorem opsL_parts {l : List Op} (h : ∀ x ∈ l, okB x = true) : parts 44 (opsL l) = if l = [] then [[45]] else l.map fun y => (opT y).data.toList := by
  unfold opsL opsF
  cases l with
  | nil => rfl
  | cons x r =>
    rw [if_neg (by simp), if_neg (by simp), join_list, parts_join r _ (opT_no (h x (List.mem_cons_self ..)) (by unfold opSign; decide)) (fun z hz => h z (List.mem_cons_of_mem _ hz))]
    rfl
theorem opsL_sign {l : List Op} (h : ∀ x ∈ l, okB x = true) : ∀ c ∈ opsL l, opSign c ∨ c.toNat = 44 ∨ c.toNat = 45 := by
  unfold opsL opsF
  cases l with
  | nil =>
    intro c hc
    obtain rfl := List.mem_singleton.1 (show c ∈ [(45 : UInt8)] from hc)
    exact .inr (.inr rfl)
  | cons x r =>
    intro c hc
    rw [if_neg (by simp), join_list] at hc
    rcases List.mem_append.1 hc with h1 | h1
    · exact .inl (opT_sign (h x (List.mem_cons_self ..)) c h1)
    · obtain ⟨y, hy, h2⟩ := List.mem_flatMap.1 h1
      rcases List.mem_cons.1 h2 with rfl | h3
      · exact .inr (.inl rfl)
      · exact .inl (opT_sign (h y (List.mem_cons_of_mem _ hy)) c h3)
theorem opsL_inj {a b : List Op} (ha : ∀ x ∈ a, okB x = true) (hb : ∀ x ∈ b, okB x = true) (e : opsL a = opsL b) : a = b := by
  have p := congrArg (parts 44) e
  rw [opsL_parts ha, opsL_parts hb] at p
  have no : ∀ {x : Op}, okB x = true → ([45] : List UInt8) ≠ (opT x).data.toList := fun h e => opT_no h (c := 45) (by unfold opSign; decide) (by rw [← e]; exact List.mem_singleton.2 rfl)
  cases a with
  | nil =>
    cases b with
    | nil => rfl
    | cons y b =>
      rw [if_pos rfl, if_neg (by simp)] at p
      simp only [List.map_cons, List.cons.injEq] at p
      exact absurd p.1 (no (hb y (List.mem_cons_self ..)))
  | cons x a =>
    cases b with
    | nil =>
      rw [if_pos rfl, if_neg (by simp)] at p
      simp only [List.map_cons, List.cons.injEq] at p
      exact absurd p.1.symm (no (ha x (List.mem_cons_self ..)))
    | cons y b =>
      rw [if_neg (by simp), if_neg (by simp)] at p
      exact map_opT_inj ha hb p
theorem askI_list (ops path : ByteArray) (till : Int) : (askI ops path till).data.toList = 47 :: (ops.data.toList ++ 47 :: (path.data.toList ++ 63 :: (101 :: 61 :: Lib.itoa till))) := by
  unfold askI
  simp only [ba_app, List.append_assoc]
  rfl
theorem path_sign {s : ByteArray} (h : nameB s = true) : ∀ c ∈ s.data.toList, (97 ≤ c.toNat ∧ c.toNat ≤ 122) ∨ (48 ≤ c.toNat ∧ c.toNat ≤ 57) := by
  intro c hc
  simp only [nameB, Bool.and_eq_true, List.all_eq_true, List.mem_range] at h
  obtain ⟨i, hi, rfl⟩ := List.getElem_of_mem hc
  have hs : i < s.size := by rw [ba_size]; exact hi
  have := h.2 i hs
  unfold signB bt at this
  rw [Int.toNat_natCast, dif_pos hs] at this
  have e : s[i] = s.data.toList[i] := by
    rw [Array.getElem_toList]
    rfl
  rw [e] at this
  simp only [Bool.or_eq_true, decide_eq_true_eq] at this
  omega
theorem ask_parts {l : List Op} {p : ByteArray} {n : Nat} (hl : ∀ x ∈ l, okB x = true) (hp : nameB p = true) : parts 47 (askI (opsF l) p n).data.toList = [[], opsL l, p.data.toList ++ 63 :: (101 :: 61 :: Lib.itoa (n : Int))] ∧ parts 63 (p.data.toList ++ 63 :: (101 :: 61 :: Lib.itoa (n : Int))) = [p.data.toList, 101 :: 61 :: Lib.itoa (n : Int)] := by
  have h1 : (47 : UInt8) ∉ opsL l := fun h => by
    rcases opsL_sign hl _ h with h | h | h
    · revert h; unfold opSign; decide
    · revert h; decide
    · revert h; decide
  have h2 : ∀ c : UInt8, c = 47 ∨ c = 63 → c ∉ p.data.toList := fun c hc h => by
    have := path_sign hp c h
    rcases hc with rfl | rfl <;> revert this <;> decide
  have h3 : ∀ c : UInt8, c = 47 ∨ c = 63 → c ∉ Lib.itoa (n : Int) := fun c hc => itoa_no (by rcases hc with rfl | rfl <;> decide) n
  refine ⟨?_, ?_⟩
  · rw [askI_list, parts, if_pos rfl]
    show [] :: parts 47 (opsL l ++ 47 :: _) = _
    rw [parts_app h1, parts_none]
    intro h
    rcases List.mem_append.1 h with h | h
    · exact h2 47 (.inl rfl) h
    · simp only [List.mem_cons] at h
      rcases h with h | h | h | h
      · revert h; decide
      · revert h; decide
      · revert h; decide
      · exact h3 47 (.inl rfl) h
  · rw [parts_app (h2 63 (.inr rfl)), parts_none]
    intro h
    simp only [List.mem_cons] at h
    rcases h with h | h | h
    · revert h; decide
    · revert h; decide
    · exact h3 63 (.inr rfl) h
theorem askB_all {l : List Op} {p : ByteArray} {t : Int} (h : askB l p t = true) : (∀ x ∈ l, okB x = true) ∧ nameB p = true := by
  simp only [askB, Bool.and_eq_true] at h
  exact ⟨allOk_mem h.1, h.2.1⟩
theorem askF_inj {l l' : List Op} {p p' : ByteArray} {t t' : Int} (h : askB l p t = true) (h' : askB l' p' t' = true) (e : askF l p t = askF l' p' t') : l = l' ∧ p = p' ∧ t = t' := by
  obtain ⟨_, _, t0, t1⟩ := askB_parts h
  obtain ⟨_, _, t0', t1'⟩ := askB_parts h'
  obtain ⟨a, b⟩ := askB_all h
  obtain ⟨a', b'⟩ := askB_all h'
  obtain ⟨n, rfl⟩ := Int.eq_ofNat_of_zero_le t0
  obtain ⟨n', rfl⟩ := Int.eq_ofNat_of_zero_le t0'
  unfold askF at e
  rw [if_pos h, if_pos h'] at e
  obtain ⟨q1, q2⟩ := ask_parts (n := n) a b
  obtain ⟨q1', q2'⟩ := ask_parts (n := n') a' b'
  rw [e, q1'] at q1
  simp only [List.cons.injEq, and_true, true_and] at q1
  rw [← q1.2, q2'] at q2
  simp only [List.cons.injEq, and_true, true_and] at q2
  exact ⟨opsL_inj a a' q1.1.symm, ba_ext q2.1.symm, by rw [itoa_inj q2.2]⟩
end Go.Proofs.YtmplnpjdbfedbaaGreatDoor.X
namespace Go.Proofs.YtmplnpjdbfedbaaGreatDoor.X
open Go.RowKit Go.Proofs.YtmplnpjdbfedbaaGreatDoorW.PrintWords Go.Proofs.YtmplnpjdbfedbaaGreatDoor.Pl
set_option linter.unusedSimpArgs false
set_option linter.unusedVariables false
def SaidA (s : ByteArray) (r : AskR) : Prop := ∃ (l : List Op) (p : ByteArray) (n : Int), askB l p n = true ∧ askF l p n = s ∧ r = (l, p, n, true)
theorem itoa_le3 (n : Nat) (h : n ≤ 255) : (Lib.itoa (n : Int)).length ≤ 3 := by
  rw [Lib.itoa_nonneg, Lib.decDigits_length]
  by_cases h1 : n < 10
  · rw [Lib.nDigits_small h1]; omega
  rw [Lib.nDigits_big h1]
  by_cases h2 : n / 10 < 10
  · rw [Lib.nDigits_small h2]; omega
  rw [Lib.nDigits_big h2, Lib.nDigits_small (by omega)]
  omega
theorem flat_le (ns : List Int) (h : ∀ n ∈ ns, 0 ≤ n ∧ n ≤ 255) : (ns.flatMap fun n => (46 : UInt8) :: Lib.itoa n).length ≤ 4 * ns.length := by
  induction ns with
  | nil => simp
  | cons n ns ih =>
    obtain ⟨h0, h1⟩ := h n (List.mem_cons_self ..)
    obtain ⟨m, rfl⟩ := Int.eq_ofNat_of_zero_le h0
    have := ih (fun x hx => h x (List.mem_cons_of_mem _ hx))
    have h3 := itoa_le3 m (by omega)
    rw [List.flatMap_cons, List.length_append, List.length_cons, List.length_cons]
    omega
theorem opT_21 {x : Op} (h : okB x = true) : (opT x).data.toList.length ≤ 21 := by
  obtain ⟨k, hk, k1, k9, ns, hns, hl, hp, ht⟩ := op_form h
  have e : (opT x).data.toList = opL (formW k).data.toList ns := ht
  have hw := formW_len k k9
  rw [ba_size] at hw
  rw [e, opL, List.length_append]
  have := flat_le ns hns
  omega
theorem ops_flat (r : List Op) (h : ∀ x ∈ r, okB x = true) : (r.flatMap fun y => (44 : UInt8) :: (opT y).data.toList).length ≤ 22 * r.length := by
  induction r with
  | nil => simp
  | cons x r ih =>
    have := ih (fun z hz => h z (List.mem_cons_of_mem _ hz))
    have h1 := opT_21 (h x (List.mem_cons_self ..))
    rw [List.flatMap_cons, List.length_append, List.length_cons, List.length_cons]
    omega
theorem opsL_len {l : List Op} (h : ∀ x ∈ l, okB x = true) (h5 : l.length ≤ 5) : (opsL l).length ≤ 110 := by
  unfold opsL opsF
  cases l with
  | nil => show ([45] : List UInt8).length ≤ 110; decide
  | cons x r =>
    rw [if_neg (by simp), join_list, List.length_append]
    have h1 := opT_21 (h x (List.mem_cons_self ..))
    have h2 := ops_flat r (fun z hz => h z (List.mem_cons_of_mem _ hz))
    simp only [List.length_cons] at h5
    omega
theorem ask_form {l : List Op} {p : ByteArray} {n : Int} (h : askB l p n = true) : ∃ m : Nat, n = m ∧ m ≤ 9999 ∧ (∀ x ∈ l, okB x = true) ∧ nameB p = true ∧ l.length ≤ 5 ∧ (askF l p n).data.toList = 47 :: (opsL l ++ 47 :: (p.data.toList ++ 63 :: (101 :: 61 :: Lib.itoa (m : Int)))) ∧ (askF l p n).size ≤ 200 := by
  obtain ⟨h5, hp, t0, t1⟩ := askB_parts h
  obtain ⟨a, b⟩ := askB_all h
  obtain ⟨m, rfl⟩ := Int.eq_ofNat_of_zero_le t0
  have e : (askF l p (m : Int)).data.toList = 47 :: (opsL l ++ 47 :: (p.data.toList ++ 63 :: (101 :: 61 :: Lib.itoa (m : Int)))) := by
    unfold askF; rw [if_pos h, askI_list]; rfl
  refine ⟨m, rfl, by omega, a, b, h5, e, ?_⟩
  have h1 := opsL_len a h5
  have h2 := (itoa_le4 m (by omega)).2
  rw [ba_size] at hp
  rw [ba_size, e]
  simp only [List.length_cons, List.length_append]
  omega
theorem askF_no {l : List Op} {p : ByteArray} {n : Int} (h : askB l p n = false) : askF l p n = ⟨#[]⟩ := by
  unfold askF; rw [if_neg (by rw [h]; decide)]
theorem implAskOk_tot (l : List Op) (hl : l.length ≤ 4611686018427387904) (p : ByteArray) (n : Int) : Tot (fun k => impl_AskOk.f k l p n) (fun t => t = askB l p n) := Tot.of_ev (impl_AskOk_ev l hl p n)
theorem askEnd_tot (s : ByteArray) (l : List Op) (hl : l.length ≤ 4611686018427387904) (p : ByteArray) (n : Int) : Tot (fun k => askEnd k s l p n) (fun r => (askB l p n = true ∧ askF l p n = s ∧ r = (l, p, n, true)) ∨ (¬ (askB l p n = true ∧ askF l p n = s) ∧ r = zA)) := by
  unfold askEnd
  refine Tot.bind (implAskOk_tot l hl p n) ?_
  rintro _ rfl
  cases h : askB l p n with
  | false => exact Tot.neg (by decide) (Tot.ret (.inr ⟨fun hh => absurd hh.1 (by decide), rfl⟩))
  | true =>
    refine Tot.pos rfl ?_
    refine Tot.bind (impl_AskText_tot l hl p n) ?_
    rintro _ rfl
    exact Tot.ite (fun he => Tot.ret (.inl ⟨rfl, toList_ba.1 he, rfl⟩)) (fun he => Tot.ret (.inr ⟨fun hh => he (toList_ba.2 hh.2), rfl⟩))
theorem scanG_tot : ∀ (ps : List ByteArray) (fl : Bool), (∀ p ∈ ps, p.size ≤ 1048576) → Tot (fun k => scanG k ps fl) (fun r => r.1.length = ps.length)
  | [], fl, _ => by simp only [scanG]; exact Tot.ret rfl
  | p :: ps, fl, h => by
    simp only [scanG]
    refine Tot.bind (implRead_tot p (h p (List.mem_cons_self ..))) ?_
    intro r _
    refine Tot.bind (scanG_tot ps (fl || !r.2.2.2.2.2) (fun q hq => h q (List.mem_cons_of_mem _ hq))) ?_
    intro x hx
    exact Tot.ret (by simp [hx])
theorem scanG_ops : ∀ (l : List Op) (fl : Bool), (∀ x ∈ l, okB x = true) → Tot (fun k => scanG k ((l.map fun y => (opT y).data.toList).map baOf) fl) (fun r => r = (l, fl))
  | [], fl, _ => by simp only [List.map_nil, scanG]; exact Tot.ret rfl
  | x :: l, fl, h => by
    simp only [List.map_cons, scanG]
    have hx := h x (List.mem_cons_self ..)
    have hsz : (baOf (opT x).data.toList).size ≤ 1048576 := by rw [ba_size, baOf_list]; have := opT_21 hx; omega
    refine Tot.bind (implRead_complete (baOf (opT x).data.toList) hsz (o := x.f0) (a := x.f1) (b := x.f2) (c := x.f3) (d := x.f4) hx (baOf_self _).symm) ?_
    rintro _ rfl
    dsimp only
    rw [Bool.not_true, Bool.or_false]
    refine Tot.bind (scanG_ops l fl (fun z hz => h z (List.mem_cons_of_mem _ hz))) ?_
    rintro _ rfl
    exact Tot.ret rfl
theorem parts_mem {c : UInt8} : ∀ {l : List UInt8}, ∀ p ∈ parts c l, p.length ≤ l.length
  | [], p, h => by simp [parts] at h; simp [h]
  | x :: l, p, h => by
    rw [parts] at h
    split at h
    · rcases List.mem_cons.1 h with rfl | h
      · simp
      · have := parts_mem p h; simp only [List.length_cons]; omega
    · split at h
      · obtain rfl := List.mem_singleton.1 h; simp
      · rename_i hd tl e
        rcases List.mem_cons.1 h with rfl | h
        · have := parts_mem (c := c) (l := l) hd (by rw [e]; exact List.mem_cons_self ..)
          simp only [List.length_cons]; omega
        · have := parts_mem (c := c) (l := l) p (by rw [e]; exact List.mem_cons_of_mem _ h)
          simp only [List.length_cons]; omega
theorem cut_parts_len (l sep : List UInt8) : (Lib.cut l sep).1.length ≤ l.length ∧ (Lib.cut l sep).2.1.length ≤ l.length := by
  unfold Lib.cut
  split
  · simp only [List.length_take, List.length_drop]; omega
  · simp
theorem word_len (s p : ByteArray) : (wordF s p).1.size ≤ s.size := by
  rw [ba_size s]
  show (Lib.trimPrefix s.data.toList p.data.toList).toArray.size ≤ _
  rw [List.size_toArray]
  unfold Lib.trimPrefix
  split
  · rw [List.length_drop]; omega
  · exact Nat.le_refl _
theorem cutF_len (s p : ByteArray) : (cutF s p).1.size ≤ s.size ∧ (cutF s p).2.1.size ≤ s.size := by
  rw [ba_size s]
  have := cut_parts_len s.data.toList p.data.toList
  exact ⟨by show (Lib.cut s.data.toList p.data.toList).1.toArray.size ≤ _; rw [List.size_toArray]; exact this.1, by show (Lib.cut s.data.toList p.data.toList).2.1.toArray.size ≤ _; rw [List.size_toArray]; exact this.2⟩
theorem partsB_ok (s : ByteArray) (c : UInt8) (hs : s.size ≤ 1048576) : (∀ p ∈ partsB s ⟨#[c]⟩, p.size ≤ 1048576) ∧ (partsB s ⟨#[c]⟩).length ≤ 1048577 := by
  rw [partsB_parts]
  rw [ba_size] at hs
  refine ⟨fun p hp => ?_, ?_⟩
  · obtain ⟨q, hq, rfl⟩ := List.mem_map.1 hp
    have := parts_mem q hq
    rw [ba_size, baOf_list]
    omega
  · rw [List.length_map]
    have := (parts_len (c := c) s.data.toList).1
    omega
theorem askMid_sound (s ops r1 : ByteArray) (f1 : Bool) (ho : ops.size ≤ 1048576) : Tot (fun k => askMid k s ops r1 f1) (fun r => SaidA s r ∨ r = zA) := by
  have rest : ∀ (x : List Op × Bool), x.1.length ≤ 4611686018427387904 → Tot (fun k => (impl_numberRead.f k (cutF r1 ⟨#[63, 101, 61]⟩).2.1).bind fun y => if ((x.2 || !(cutF r1 ⟨#[63, 101, 61]⟩).2.2) || !y.2) = true then some zA else askEnd k s x.1 (cutF r1 ⟨#[63, 101, 61]⟩).1 y.1) (fun r => SaidA s r ∨ r = zA) := by
    intro x hx
    refine Tot.bind (numRead_tot _) ?_
    intro y _
    refine Tot.ite (fun _ => Tot.ret (.inr rfl)) (fun _ => ?_)
    exact Tot.mono (askEnd_tot s x.1 hx _ _) (fun r h => h.elim (fun h => .inl ⟨_, _, _, h⟩) (fun h => .inr h.2))
  unfold askMid
  refine Tot.bind (P := fun x => x.1.length ≤ 4611686018427387904) ?_ (fun x hx => rest x hx)
  refine Tot.ite (fun _ => Tot.ret (by simp)) (fun _ => ?_)
  have hp := partsB_ok ops 44 ho
  exact Tot.mono (scanG_tot _ f1 hp.1) (fun r hr => by rw [hr]; omega)
theorem implAsk_sound (s : ByteArray) : Tot (fun k => impl_AskRead.f k s) (fun r => SaidA s r ∨ r = zA) := by
  unfold impl_AskRead.f
  refine Tot.ite (fun _ => Tot.ret (.inr rfl)) (fun h2 => ?_)
  have w := word_len s ⟨#[47]⟩
  have c1 := cutF_len (wordF s ⟨#[47]⟩).1 ⟨#[47]⟩
  have c2 := cutF_len (cutF (wordF s ⟨#[47]⟩).1 ⟨#[47]⟩).2.1 ⟨#[63, 101, 61]⟩
  exact Tot.pos ⟨by omega, by omega, by omega, by omega⟩ (askMid_sound s _ _ _ (by omega))
theorem index_sep {a b t : List UInt8} {c : UInt8} (h : c ∉ a) : Lib.index (a ++ (c :: (t ++ b))) (c :: t) = (a.length : Int) := by
  induction a with
  | nil => simp [Lib.index]
  | cons x a ih =>
    simp only [List.mem_cons, not_or] at h
    have ih := ih h.2
    have hf : (c == x) = false := beq_eq_false_iff_ne.2 h.1
    rw [List.cons_append, Lib.index, if_neg (by simp [List.isPrefixOf, hf]), ih, if_neg (fun e => by have := beq_iff_eq.1 e; omega), List.length_cons]
    omega
theorem cut_sep {a b t : List UInt8} {c : UInt8} (h : c ∉ a) : Lib.cut (a ++ (c :: (t ++ b))) (c :: t) = (a, b, true) := by
  unfold Lib.cut
  rw [index_sep h, if_pos (by omega), Int.toNat_natCast]
  simp
theorem opsL_dash {l : List Op} (h : ∀ x ∈ l, okB x = true) : opsL l = [45] ↔ l = [] := by
  refine ⟨fun e => ?_, fun e => by subst e; rfl⟩
  cases l with
  | nil => rfl
  | cons x r =>
    have p := opsL_parts h
    rw [e, if_neg (by simp)] at p
    simp only [List.map_cons] at p
    have p2 : parts 44 [(45 : UInt8)] = [[45]] := by decide
    rw [p2] at p
    simp only [List.cons.injEq] at p
    exact absurd (by rw [← p.1]; exact List.mem_singleton.2 rfl) (opT_no (h x (List.mem_cons_self ..)) (c := 45) (by unfold opSign; decide))
theorem opsL_no47 {l : List Op} (h : ∀ x ∈ l, okB x = true) : (47 : UInt8) ∉ opsL l := fun hm => by
  rcases opsL_sign h _ hm with h | h | h
  · revert h; unfold opSign; decide
  · revert h; decide
  · revert h; decide
theorem path_no {p : ByteArray} (hp : nameB p = true) : (63 : UInt8) ∉ p.data.toList := fun h => by
  have := path_sign hp 63 h
  revert this; decide
theorem askEnd_ok {s : ByteArray} {l : List Op} {p : ByteArray} {n : Int} (hl : l.length ≤ 5) (h : askB l p n = true) (e : askF l p n = s) : Tot (fun k => askEnd k s l p n) (fun r => r = (l, p, n, true)) :=
  Tot.mono (askEnd_tot s l (by omega) p n) (fun r h2 => h2.elim (fun x => x.2.2) (fun x => absurd ⟨h, e⟩ x.1))
theorem implAsk_complete (s : ByteArray) {l : List Op} {p : ByteArray} {n : Int} (h : askB l p n = true) (e : askF l p n = s) : Tot (fun k => impl_AskRead.f k s) (fun r => r = (l, p, n, true)) := by
  obtain ⟨m, rfl, hm, hok, hnm, h5, ht, hsz⟩ := ask_form h
  rw [e] at ht hsz
  have hw : wordF s ⟨#[47]⟩ = (baOf (opsL l ++ 47 :: (p.data.toList ++ 63 :: (101 :: 61 :: Lib.itoa (m : Int)))), true) := by
    unfold wordF Lib.trimPrefix Lib.hasPrefix
    rw [ht]
    simp [List.isPrefixOf, baOf]
  have hc1 : cutF (baOf (opsL l ++ 47 :: (p.data.toList ++ 63 :: (101 :: 61 :: Lib.itoa (m : Int))))) ⟨#[47]⟩ = (baOf (opsL l), baOf (p.data.toList ++ 63 :: (101 :: 61 :: Lib.itoa (m : Int))), true) := by
    unfold cutF
    rw [baOf_list, show (⟨#[47]⟩ : ByteArray).data.toList = [47] from rfl, cut_app (opsL_no47 hok)]
    rfl
  have hc2 : cutF (baOf (p.data.toList ++ 63 :: (101 :: 61 :: Lib.itoa (m : Int)))) ⟨#[63, 101, 61]⟩ = (p, baOf (Lib.itoa (m : Int)), true) := by
    unfold cutF
    have hcs := cut_sep (t := [101, 61]) (b := Lib.itoa (m : Int)) (path_no hnm)
    rw [baOf_list, show (⟨#[63, 101, 61]⟩ : ByteArray).data.toList = [63, 101, 61] from rfl, show p.data.toList ++ 63 :: (101 :: 61 :: Lib.itoa (m : Int)) = p.data.toList ++ (63 :: ([101, 61] ++ Lib.itoa (m : Int))) from rfl, hcs]
    have : (⟨p.data.toList.toArray⟩ : ByteArray) = p := baOf_self p
    dsimp only
    rw [this]
    rfl
  have w := word_len s ⟨#[47]⟩
  have c1 := cutF_len (wordF s ⟨#[47]⟩).1 ⟨#[47]⟩
  have c2 := cutF_len (cutF (wordF s ⟨#[47]⟩).1 ⟨#[47]⟩).2.1 ⟨#[63, 101, 61]⟩
  unfold impl_AskRead.f
  refine Tot.neg (by omega) (Tot.pos ⟨by omega, by omega, by omega, by omega⟩ ?_)
  rw [hw]
  dsimp only
  rw [hc1]
  dsimp only
  unfold askMid
  rw [hc2]
  dsimp only
  have hl : Tot (fun k => if (baOf (opsL l)).toList = [45] then some (([] : List Op), ((false || !true) || !true)) else scanG k (partsB (baOf (opsL l)) ⟨#[44]⟩) ((false || !true) || !true)) (fun r => r = (l, false)) := by
    by_cases hd : opsL l = [45]
    · refine Tot.pos (by rw [Lib.toList_data, baOf_list, hd]) (Tot.ret ?_)
      rw [(opsL_dash hok).1 hd]
      rfl
    · refine Tot.neg (by rw [Lib.toList_data, baOf_list]; exact hd) ?_
      rw [partsB_parts, baOf_list, opsL_parts hok, if_neg (fun hh => hd ((opsL_dash hok).2 hh))]
      exact scanG_ops l _ hok
  refine Tot.bind hl ?_
  rintro _ rfl
  refine Tot.bind (numRead_tot _) ?_
  intro r hr
  obtain rfl := hr m hm rfl
  exact Tot.neg (fun hh => Bool.false_ne_true hh) (askEnd_ok h5 h e)
theorem implAsk_tot (s : ByteArray) : Tot (fun k => impl_AskRead.f k s) (fun r => SaidA s r ∨ ((∀ r, ¬ SaidA s r) ∧ r = zA)) := by
  by_cases hx : ∃ r, SaidA s r
  · obtain ⟨_, l, p, n, h, e, rfl⟩ := hx
    exact Tot.mono (implAsk_complete s h e) (fun r hr => .inl ⟨l, p, n, h, e, hr⟩)
  · exact Tot.mono (implAsk_sound s) (fun r hr => hr.elim .inl (fun hz => .inr ⟨fun r h => hx ⟨r, h⟩, hz⟩))
end Go.Proofs.YtmplnpjdbfedbaaGreatDoor.X
namespace Go.Proofs.YtmplnpjdbfedbaaGreatDoor.X
open Go.RowKit Go.Proofs.YtmplnpjdbfedbaaGreatDoorW.PrintWords Go.Proofs.YtmplnpjdbfedbaaGreatDoor.Pl
set_option linter.unusedSimpArgs false
theorem bits_xor_nonneg (a b : Int) (ha : 0 ≤ a) (ha' : a < 4611686018427387904) (hb : 0 ≤ b) (hb' : b < 4611686018427387904) : 0 ≤ Go.bits .xor .i64 a b ∧ Go.bits .xor .i64 a b < 4611686018427387904 := by
  obtain ⟨m, rfl⟩ := Int.eq_ofNat_of_zero_le ha
  obtain ⟨n, rfl⟩ := Int.eq_ofNat_of_zero_le hb
  have h1 : m < 2 ^ 62 := by omega
  have h2 : n < 2 ^ 62 := by omega
  have hx : m ^^^ n < 2 ^ 62 := Nat.xor_lt_two_pow h1 h2
  have hm : m % 2 ^ 64 = m := Nat.mod_eq_of_lt (by omega)
  have hn : n % 2 ^ 64 = n := Nat.mod_eq_of_lt (by omega)
  have e : Go.bits .xor .i64 (m : Int) (n : Int) = ((m ^^^ n : Nat) : Int) := by
    have hb : (BitVec.ofNat 64 m ^^^ BitVec.ofNat 64 n).toNat = m ^^^ n := by rw [BitVec.toNat_xor, BitVec.toNat_ofNat, BitVec.toNat_ofNat, hm, hn]
    simp only [Go.bits, IntKind.bits, BitVec.ofInt_natCast]
    rw [IntKind.wrap_i64]
    change (((BitVec.ofNat 64 m ^^^ BitVec.ofNat 64 n).toNat : Int) + 9223372036854775808) % 18446744073709551616 - 9223372036854775808 = _
    rw [hb]
    omega
  rw [e]
  omega
def Bytes (l : List Int) : Prop := l.length ≤ 2000 ∧ ∀ y ∈ l, 0 ≤ y ∧ y ≤ 255
theorem bytes_rd {l : List Int} (h : Bytes l) (i : Int) : 0 ≤ rd l i ∧ rd l i ≤ 255 := by
  unfold rd
  by_cases hi : i.toNat < l.length
  · exact h.2 _ (getD_mem l 0 i.toNat hi)
  · rw [List.getD_eq_getElem?_getD, List.getElem?_eq_none (by omega)]
    simp
theorem tmod_bd (a n : Int) (ha : 0 ≤ a) (hn : 0 < n) : 0 ≤ Int.tmod a n ∧ Int.tmod a n < n := by
  rw [Int.tmod_eq_emod_of_nonneg ha]
  exact ⟨Int.emod_nonneg _ (by omega), Int.emod_lt_of_pos _ hn⟩
theorem pick_ev (l : List Int) (hl : Bytes l) (p n : Int) (h0 : 0 ≤ p) (h1 : p ≤ 1000000000000) :
    ∃ r, Ev (fun k => spec_l20Rd_pick.f k l p n) (r, p + 1) ∧ 0 ≤ r ∧ (1 ≤ n → r < n) ∧ (n < 1 → r = 0) := by
  have w1 : wrap64 (p + 1) = p + 1 := wrap_id (by omega) (by omega)
  have w2 : wrap64 (p + 1 - 1) = p := by rw [show p + 1 - 1 = p by omega]; exact wrap_id (by omega) (by omega)
  by_cases hn : n < 1
  · refine ⟨0, ev_succ ⟨0, fun k _ => ?_⟩, by omega, fun h => absurd h (by omega), fun _ => rfl⟩
    simp [spec_l20Rd_pick.f, hn, spec_l20Rd_pick.j0, w1]
  have hne : ¬ (n = 0) := by omega
  by_cases hz : l.length = 0
  · refine ⟨0, ev_succ ⟨0, fun k _ => ?_⟩, by omega, fun h => by omega, fun h => absurd h hn⟩
    simp [spec_l20Rd_pick.f, hn, hz, spec_l20Rd_pick.j0, w1]
  have hz' : ¬ ((l.length : Int) = 0) := by omega
  have hzb : ((l.length : Int) == 0) = false := by simpa using hz
  by_cases hlt : p < (l.length : Int)
  · have hb := bytes_rd hl p
    have w3 : wrap64 (rd l p) = rd l p := wrap_id (by omega) (by omega)
    have ht := tmod_bd (rd l p) n hb.1 (by omega)
    refine ⟨Int.tmod (rd l p) n, ev_succ ⟨0, fun k _ => ?_⟩, ht.1, fun _ => ht.2, fun h => absurd h hn⟩
    simp only [spec_l20Rd_pick.f]
    rw [if_neg hn, hzb, w1]
    simp only [spec_l20Rd_pick.j0]
    rw [if_neg (by decide), w2, if_pos hlt, if_pos h0, if_neg hne, w3]
  · have L0 : (0 : Int) < (l.length : Int) := by omega
    have m1 := tmod_bd p (l.length : Int) h0 L0
    have w4 : wrap64 (p * 7) = p * 7 := wrap_id (by omega) (by omega)
    have w5 : wrap64 (p * 7 + 3) = p * 7 + 3 := wrap_id (by omega) (by omega)
    have m2 := tmod_bd (p * 7 + 3) (l.length : Int) (by omega) L0
    obtain ⟨i1, hi1⟩ : ∃ i, i = Int.tmod p (l.length : Int) := ⟨_, rfl⟩
    obtain ⟨i2, hi2⟩ : ∃ i, i = Int.tmod (p * 7 + 3) (l.length : Int) := ⟨_, rfl⟩
    have b1 := bytes_rd hl i1
    have b2 := bytes_rd hl i2
    obtain ⟨v1, hv1⟩ : ∃ v, v = rd l i1 := ⟨_, rfl⟩
    obtain ⟨v2, hv2⟩ : ∃ v, v = rd l i2 := ⟨_, rfl⟩
    have d1 : 0 ≤ Int.tdiv p (l.length : Int) ∧ Int.tdiv p (l.length : Int) ≤ p := by
      rw [Int.tdiv_eq_ediv_of_nonneg h0]
      exact ⟨Int.ediv_nonneg h0 (by omega), Int.ediv_le_self _ h0⟩
    obtain ⟨q, hq⟩ : ∃ q, q = Int.tdiv p (l.length : Int) := ⟨_, rfl⟩
    rw [← hi1] at m1
    rw [← hi2] at m2
    rw [← hv1] at b1
    rw [← hv2] at b2
    rw [← hq] at d1
    have x1 : wrap64 v1 = v1 := wrap_id (by omega) (by omega)
    have x2 : wrap64 v2 = v2 := wrap_id (by omega) (by omega)
    have x3 : wrap64 (v1 * 131) = v1 * 131 := wrap_id (by omega) (by omega)
    have x4 : wrap64 (v2 * 1117) = v2 * 1117 := wrap_id (by omega) (by omega)
    have x5 : wrap64 (v1 * 131 + v2 * 1117) = v1 * 131 + v2 * 1117 := wrap_id (by omega) (by omega)
    have x6 : wrap64 (p * 29) = p * 29 := wrap_id (by omega) (by omega)
    have x7 : wrap64 (v1 * 131 + v2 * 1117 + p * 29) = v1 * 131 + v2 * 1117 + p * 29 := wrap_id (by omega) (by omega)
    have x8 : wrap64 q = q := wrap_id (by omega) (by omega)
    have x9 : wrap64 (q * 53) = q * 53 := wrap_id (by omega) (by omega)
    have x10 : wrap64 (v1 * 131 + v2 * 1117 + p * 29 + q * 53) = v1 * 131 + v2 * 1117 + p * 29 + q * 53 := wrap_id (by omega) (by omega)
    obtain ⟨s, hs⟩ : ∃ s, s = v1 * 131 + v2 * 1117 + p * 29 + q * 53 := ⟨_, rfl⟩
    have hs0 : 0 ≤ s := by omega
    have hs1 : s ≤ 1000000000000000 := by omega
    have x11 : wrap64 (Int.tdiv s 64) = s / 64 := by
      rw [Int.tdiv_eq_ediv_of_nonneg hs0]
      exact wrap_id (by omega) (by omega)
    have hx := bits_xor_nonneg s (s / 64) hs0 (by omega) (by omega) (by omega)
    have ht := tmod_bd (Go.bits .xor .i64 s (s / 64)) n hx.1 (by omega)
    refine ⟨Int.tmod (Go.bits .xor .i64 s (s / 64)) n, ev_succ ⟨0, fun k _ => ?_⟩, ht.1, fun _ => ht.2, fun h => absurd h hn⟩
    simp only [spec_l20Rd_pick.f]
    rw [if_neg hn, hzb, w1]
    simp only [spec_l20Rd_pick.j0]
    rw [if_neg (by decide), w2, if_neg hlt, if_neg hz', w4, w5, ← hi1, ← hi2, if_pos m1.1, if_pos m1.2, if_pos m2.1, if_pos m2.2, if_neg hne, ← hv1, ← hv2, ← hq]
    simp only [x1, x2, x3, x4, x5, x6, x7, x8, x9, x10]
    rw [← hs, x11]
theorem odd_ev (l : List Int) (hl : Bytes l) (p n : Int) (h0 : 0 ≤ p) (h1 : p ≤ 1000000000000) (hn : n ≤ 1000000) :
    ∃ b q, Ev (fun k => spec_l20Rd_odd.f k l p n) (b, q) ∧ p ≤ q ∧ q ≤ p + 1 ∧ (n ≤ 0 → b = false) := by
  by_cases hn0 : n > 0
  · obtain ⟨r, ⟨K, hr⟩, _, _, _⟩ := pick_ev l hl p n h0 h1
    refine ⟨r == wrap64 (n - 1), p + 1, ⟨K, fun k hk => ?_⟩, by omega, by omega, fun h => absurd h (by omega)⟩
    have := hr k hk
    dsimp only at this
    simp [spec_l20Rd_odd.f, hn0, this]
  · refine ⟨false, p, ⟨0, fun k _ => ?_⟩, by omega, by omega, fun _ => rfl⟩
    simp [spec_l20Rd_odd.f, hn0]
theorem pick_tot {l : List Int} (hl : Bytes l) (p n : Int) (h0 : 0 ≤ p) (h1 : p ≤ 1000000000000) :
    Tot (fun k => spec_l20Rd_pick.f k l p n) (fun x => x.2 = p + 1 ∧ 0 ≤ x.1 ∧ (1 ≤ n → x.1 < n) ∧ (n < 1 → x.1 = 0)) := by
  obtain ⟨r, h, a, b, c⟩ := pick_ev l hl p n h0 h1
  exact ⟨_, h, rfl, a, b, c⟩
theorem odd_tot {l : List Int} (hl : Bytes l) (p n : Int) (h0 : 0 ≤ p) (h1 : p ≤ 1000000000000) (hn : n ≤ 1000000) :
    Tot (fun k => spec_l20Rd_odd.f k l p n) (fun x => p ≤ x.2 ∧ x.2 ≤ p + 1 ∧ (n ≤ 0 → x.1 = false)) := by
  obtain ⟨b, q, h, c⟩ := odd_ev l hl p n h0 h1 hn
  exact ⟨_, h, c⟩
theorem open_some (l : List Int) (hu : ∀ y ∈ l, 0 ≤ y ∧ y ≤ 255) : ∃ b, spec_l20Open.f l = some (b, 0) ∧ Bytes b := by
  unfold spec_l20Open.f
  by_cases h : (l.length : Int) > 2000
  · rw [if_pos h, if_pos (by omega)]
    refine ⟨l.take 2000, rfl, ?_, fun y hy => hu y (List.mem_of_mem_take hy)⟩
    rw [List.length_take]
    omega
  · rw [if_neg h]
    exact ⟨l, rfl, by omega, hu⟩
end Go.Proofs.YtmplnpjdbfedbaaGreatDoor.X
namespace Go.Proofs.YtmplnpjdbfedbaaGreatDoor.Pure
open Go.RowKit Go.Proofs.YtmplnpjdbfedbaaGreatDoorW.PrintWords Go.Proofs.YtmplnpjdbfedbaaGreatDoor.Pl Go.Proofs.YtmplnpjdbfedbaaGreatDoor.X
set_option linter.unusedSimpArgs false
set_option linter.unusedVariables false
theorem l20Bytes_l0_byt {l : List Int} (hl : Bytes l) (P : Int) (hP : P ≤ 700000000000) (M : Int) (hM : M ≤ 1000) : ∀ s : List Int × Int × Int, (0 ≤ s.2.2 ∧ s.2.1 ≤ 1000 ∧ (s.1.length : Int) + (max s.2.1 0) ≤ M ∧ s.2.2 + 3 * (max s.2.1 0) ≤ P ∧ ∀ x ∈ s.1, Byt x) →
    Tot (fun k => spec_l20Bytes.l0 k s.1 s.2.1 l s.2.2) (fun x => (0 ≤ x.2 ∧ x.2 ≤ P) ∧ (x.1.length : Int) ≤ M ∧ ∀ y ∈ x.1, Byt y) := by
  refine tot_ind (fun k (s : List Int × Int × Int) => spec_l20Bytes.l0 k s.1 s.2.1 l s.2.2) _ (fun s => s.2.1.toNat) _ ?_
  rintro ⟨s, c, p⟩ ⟨i1, i2, i3, i4, i5⟩ ih
  dsimp only at i1 i2 i3 i4 i5 ⊢
  refine Tot.succ ?_
  simp only [spec_l20Bytes.l0]
  refine Tot.ite ?_ ?_ <;> intro h
  · refine Tot.bind (pick_tot hl p 256 (by omega) (by omega)) ?_
    rintro ⟨r0, p0⟩ ⟨e0, -, -, -⟩
    dsimp only at e0 ⊢
    refine Tot.bind (pick_tot hl p0 4 (by omega) (by omega)) ?_
    rintro ⟨r1, p1⟩ ⟨e1, -, -, -⟩
    dsimp only at e1 ⊢
    refine Tot.some_bind ?_
    refine Tot.bind (pick_tot hl p1 3 (by omega) (by omega)) ?_
    rintro ⟨r2, p2⟩ ⟨e2, a2, b2, -⟩
    dsimp only at e2 a2 b2 ⊢
    refine Tot.pos a2 (Tot.pos (by simp only [List.length_cons, List.length_nil]; omega) (Tot.pos (by omega) ?_))
    have w : wrap64 (c - 1) = c - 1 := wrap_id (by omega) (by omega)
    rw [w]
    exact ih (_, c - 1, p2) (by
      dsimp only
      refine ⟨by omega, by omega, by rw [List.length_append]; simp only [List.length_cons, List.length_nil]; omega, by omega, fun x hx => ?_⟩
      rcases List.mem_append.1 hx with hx | hx
      · exact i5 x hx
      · obtain rfl := List.mem_singleton.1 hx
        unfold Byt; omega) (by dsimp only; omega)
  · exact Tot.ret ⟨by dsimp only; omega, by dsimp only; omega, i5⟩
theorem l20Bytes_byt {l : List Int} (hl : Bytes l) (p : Int) (h0 : 0 ≤ p) (h1 : p ≤ 600000000000) (n : Int) (hn : 0 ≤ n ∧ n ≤ 500) : Tot (fun k => spec_l20Bytes.f k l p n) (fun x => (0 ≤ x.2 ∧ x.2 ≤ p + 5000) ∧ (x.1.length : Int) ≤ n ∧ ∀ y ∈ x.1, Byt y) := by
  simp only [spec_l20Bytes.f]
  have w : wrap64 (n + 1) = n + 1 := wrap_id (by omega) (by omega)
  rw [w]
  refine Tot.bind (pick_tot hl p (n + 1) h0 (by omega)) ?_
  rintro ⟨r0, p0⟩ ⟨e0, a0, b0, -⟩
  dsimp only at e0 a0 b0 ⊢
  exact (l20Bytes_l0_byt hl (p0 + 3000) (by omega) n (by omega) ([], r0, p0) (by dsimp only [List.length_nil]; refine ⟨by omega, by omega, by simp; omega, by omega, fun x hx => by cases hx⟩)).mono (fun x hx => ⟨by omega, hx.2⟩)
end Go.Proofs.YtmplnpjdbfedbaaGreatDoor.Pure
namespace Go.Proofs.YtmplnpjdbfedbaaGreatDoor.X
open Go.RowKit Go.Proofs.YtmplnpjdbfedbaaGreatDoorW.PrintWords Go.Proofs.YtmplnpjdbfedbaaGreatDoor.Pl
set_option linter.unusedSimpArgs false
set_option linter.unusedVariables false
theorem l20Op_j0_tot {l : List Int} (hl : Bytes l) (n p o a b c d : Int) (h0 : 0 ≤ p) (h1 : p ≤ 900000000000) (hn : n ≤ 1000) :
    Tot (fun k => spec_l20Op.j0 k n l p o a b c d) (fun x => p ≤ x.2.2.2.2.2 ∧ x.2.2.2.2.2 ≤ p + 3) := by
  refine Tot.succ ?_
  simp only [spec_l20Op.j0]
  refine Tot.bind (odd_tot hl p n h0 (by omega) (by omega)) ?_
  rintro ⟨b1, p1⟩ ⟨e1, e2, -⟩
  dsimp only at e1 e2 ⊢
  refine Tot.ite ?_ ?_ <;> intro hb
  · refine Tot.bind (pick_tot hl p1 4 (by omega) (by omega)) ?_
    rintro ⟨r2, p2⟩ ⟨e3, e4, e5, -⟩
    dsimp only at e3 e4 e5 ⊢
    refine Tot.ite ?_ ?_ <;> intro h
    all_goals try (refine Tot.ite ?_ ?_ <;> intro h')
    all_goals try (refine Tot.ite ?_ ?_ <;> intro h'')
    all_goals
      refine Tot.some_bind ?_
      refine Tot.bind (pick_tot hl p2 2 (by omega) (by omega)) ?_
      rintro ⟨r3, p3⟩ ⟨e6, e7, e8, -⟩
      dsimp only at e6 e7 e8 ⊢
      refine Tot.pos e7 (Tot.pos ?_ (Tot.ret ?_))
      · simp only [List.length_cons, List.length_nil]; omega
      · dsimp only; omega
  · exact Tot.ret (by dsimp only; omega)
theorem l20Op_tot {l : List Int} (hl : Bytes l) (p n : Int) (h0 : 0 ≤ p) (h1 : p ≤ 800000000000) (hn : n ≤ 1000) :
    Tot (fun k => spec_l20Op.f k l p n) (fun x => p ≤ x.2.2.2.2.2 ∧ x.2.2.2.2.2 ≤ p + 8) := by
  simp only [spec_l20Op.f]
  refine Tot.bind (pick_tot hl p 8 h0 (by omega)) ?_
  rintro ⟨r0, p0⟩ ⟨e1, e2, e3, -⟩
  dsimp only at e1 e2 e3 ⊢
  refine Tot.ite ?_ ?_ <;> intro h
  · refine Tot.bind (pick_tot hl p0 3 (by omega) (by omega)) ?_
    rintro ⟨r4, p4⟩ ⟨e4, -, -, -⟩
    dsimp only at e4 ⊢
    refine Tot.bind (pick_tot hl p4 3 (by omega) (by omega)) ?_
    rintro ⟨r5, p5⟩ ⟨e5, -, -, -⟩
    dsimp only at e5 ⊢
    refine Tot.bind (pick_tot hl p5 4 (by omega) (by omega)) ?_
    rintro ⟨r6, p6⟩ ⟨e6, -, -, -⟩
    dsimp only at e6 ⊢
    refine Tot.bind (pick_tot hl p6 4 (by omega) (by omega)) ?_
    rintro ⟨r7, p7⟩ ⟨e7, -, -, -⟩
    dsimp only at e7 ⊢
    exact (l20Op_j0_tot hl n p7 _ _ _ _ _ (by omega) (by omega) hn).mono (fun x hx => by omega)
  refine Tot.ite ?_ ?_ <;> intro h
  · refine Tot.bind (pick_tot hl p0 6 (by omega) (by omega)) ?_
    rintro ⟨r4, p4⟩ ⟨e4, -, -, -⟩
    dsimp only at e4 ⊢
    refine Tot.bind (pick_tot hl p4 6 (by omega) (by omega)) ?_
    rintro ⟨r5, p5⟩ ⟨e5, -, -, -⟩
    dsimp only at e5 ⊢
    exact (l20Op_j0_tot hl n p5 _ _ _ _ _ (by omega) (by omega) hn).mono (fun x hx => by omega)
  refine Tot.ite ?_ ?_ <;> intro h
  · refine Tot.bind (pick_tot hl p0 256 (by omega) (by omega)) ?_
    rintro ⟨r4, p4⟩ ⟨e4, -, -, -⟩
    dsimp only at e4 ⊢
    refine Tot.bind (pick_tot hl p4 256 (by omega) (by omega)) ?_
    rintro ⟨r5, p5⟩ ⟨e5, -, -, -⟩
    dsimp only at e5 ⊢
    refine Tot.bind (pick_tot hl p5 256 (by omega) (by omega)) ?_
    rintro ⟨r6, p6⟩ ⟨e6, -, -, -⟩
    dsimp only at e6 ⊢
    exact (l20Op_j0_tot hl n p6 _ _ _ _ _ (by omega) (by omega) hn).mono (fun x hx => by omega)
  · exact (l20Op_j0_tot hl n p0 _ _ _ _ _ (by omega) (by omega) hn).mono (fun x hx => by omega)
abbrev DOp := S65
theorem l20Ops_l1_tot {l : List Int} (p : Int) : ∀ s : List DOp, s.length ≤ 100 → Tot (fun k => spec_l20Ops.l1 k s l p) (fun x => x.1.length ≤ 100 ∧ x.2 = p) := by
  refine tot_ind (fun k s => spec_l20Ops.l1 k s l p) (fun s => s.length ≤ 100) (fun s => 6 - s.length) _ ?_
  intro s hs ih
  refine Tot.succ ?_
  simp only [spec_l20Ops.l1]
  refine Tot.ite ?_ ?_ <;> intro h
  · refine Tot.pos (by omega) ?_
    exact ih (s ++ [⟨4, 0, 0, 0, 0⟩]) (by simp; omega) (by simp; omega)
  · exact Tot.ret ⟨hs, rfl⟩
theorem l20Ops_j1_tot {l : List Int} (hl : Bytes l) (n : Int) (s : List DOp) (p : Int) (hs : s.length ≤ 100) (h0 : 0 ≤ p) (h1 : p ≤ 750000000000) (hn : n ≤ 1000) :
    Tot (fun k => spec_l20Ops.j1 k n s l p) (fun x => x.1.length ≤ 100 ∧ p ≤ x.2 ∧ x.2 ≤ p + 1) := by
  refine Tot.succ ?_
  simp only [spec_l20Ops.j1]
  refine Tot.bind (odd_tot hl p n h0 (by omega) (by omega)) ?_
  rintro ⟨b1, p1⟩ ⟨e1, e2, -⟩
  dsimp only at e1 e2 ⊢
  refine Tot.ite ?_ ?_ <;> intro hb
  · exact (l20Ops_l1_tot p1 s hs).mono (fun x hx => ⟨hx.1, by omega, by omega⟩)
  · exact Tot.ret ⟨hs, e1, e2⟩
theorem l20Ops_l0_tot {l : List Int} (hl : Bytes l) (n P : Int) (hP : P ≤ 700000000000) (hn : n ≤ 1000) : ∀ s : List DOp × Int × Int, (0 ≤ s.2.2 ∧ s.2.1 ≤ 5 ∧ s.1.length ≤ 50 - s.2.1.toNat ∧ s.2.2 + 8 * (max s.2.1 0) ≤ P) →
    Tot (fun k => spec_l20Ops.l0 k n s.1 s.2.1 l s.2.2) (fun x => x.1.length ≤ 100 ∧ 0 ≤ x.2 ∧ x.2 ≤ P + 20) := by
  refine tot_ind (fun k (s : List DOp × Int × Int) => spec_l20Ops.l0 k n s.1 s.2.1 l s.2.2) _ (fun s => s.2.1.toNat) _ ?_
  rintro ⟨s, c, p⟩ ⟨i1, i2, i4, i5⟩ ih
  dsimp only at i1 i2 i4 i5 ⊢
  refine Tot.succ ?_
  simp only [spec_l20Ops.l0]
  refine Tot.ite ?_ ?_ <;> intro h
  · refine Tot.bind (l20Op_tot hl p 0 (by omega) (by omega) (by omega)) ?_
    rintro ⟨o, a, b, c', d, q⟩ ⟨e1, e2⟩
    dsimp only at e1 e2 ⊢
    refine Tot.pos (by omega) ?_
    have w : wrap64 (c - 1) = c - 1 := wrap_id (by omega) (by omega)
    rw [w]
    exact ih (s ++ [⟨o, a, b, c', d⟩], c - 1, q) (by dsimp only; rw [List.length_append]; simp only [List.length_cons, List.length_nil]; omega) (by dsimp only; omega)
  · refine Tot.bind (odd_tot hl p n (by omega) (by omega) (by omega)) ?_
    rintro ⟨b1, p1⟩ ⟨e1, e2, -⟩
    dsimp only at e1 e2 ⊢
    refine Tot.ite ?_ ?_ <;> intro hb
    · refine Tot.bind (l20Op_tot hl p1 1 (by omega) (by omega) (by omega)) ?_
      rintro ⟨o, a, b, c', d, q⟩ ⟨e3, e4⟩
      dsimp only at e3 e4 ⊢
      refine Tot.pos (by omega) ?_
      exact (l20Ops_j1_tot hl n _ q (by rw [List.length_append]; simp only [List.length_cons, List.length_nil]; omega) (by omega) (by omega) hn).mono (fun x hx => ⟨hx.1, by omega, by omega⟩)
    · exact (l20Ops_j1_tot hl n s p1 (by omega) (by omega) (by omega) hn).mono (fun x hx => ⟨hx.1, by omega, by omega⟩)
theorem l20Ops_tot {l : List Int} (hl : Bytes l) (p n : Int) (h0 : 0 ≤ p) (h1 : p ≤ 600000000000) (hn : n ≤ 1000) :
    Tot (fun k => spec_l20Ops.f k l p n) (fun x => x.1.length ≤ 100 ∧ 0 ≤ x.2 ∧ x.2 ≤ p + 100) := by
  simp only [spec_l20Ops.f]
  refine Tot.bind (pick_tot hl p 6 h0 (by omega)) ?_
  rintro ⟨r0, p0⟩ ⟨e1, e2, e3, -⟩
  dsimp only at e1 e2 e3 ⊢
  exact (l20Ops_l0_tot hl n (p0 + 50) (by omega) hn ([], r0, p0) (by dsimp only [List.length_nil]; omega)).mono (fun x hx => ⟨hx.1, by omega, by omega⟩)
end Go.Proofs.YtmplnpjdbfedbaaGreatDoor.X
namespace Go.Proofs.YtmplnpjdbfedbaaGreatDoor.X
open Go.RowKit Go.Proofs.YtmplnpjdbfedbaaGreatDoorW.PrintWords Go.Proofs.YtmplnpjdbfedbaaGreatDoor.Pl
set_option linter.unusedSimpArgs false
set_option linter.unusedVariables false
theorem l20Path_tot {l : List Int} (hl : Bytes l) (p : Int) (h0 : 0 ≤ p) (h1 : p ≤ 900000000000) : Tot (fun k => spec_l20Path.f k l p) (fun x => x.2 = p + 1) := by
  simp only [spec_l20Path.f]
  refine Tot.some_bind ?_
  refine Tot.bind (pick_tot hl p 5 h0 (by omega)) ?_
  rintro ⟨r0, p0⟩ ⟨e1, e2, e3, -⟩
  dsimp only at e1 e2 e3 ⊢
  refine Tot.pos e2 (Tot.pos ?_ (Tot.ret e1))
  simp only [List.length_cons, List.length_nil]; omega
theorem l20Ask_tot {l : List Int} (hl : Bytes l) (p n : Int) (h0 : 0 ≤ p) (h1 : p ≤ 500000000000) (hn : n ≤ 1000) :
    Tot (fun k => spec_l20Ask.f k l p n) (fun x => x.1.length ≤ 101 ∧ 0 ≤ x.2.2.2 ∧ x.2.2.2 ≤ p + 200) := by
  simp only [spec_l20Ask.f]
  refine Tot.bind (l20Ops_tot hl p 0 h0 (by omega) (by omega)) ?_
  rintro ⟨ops, p0⟩ ⟨f1, f2, f3⟩
  dsimp only at f1 f2 f3 ⊢
  refine Tot.bind (l20Path_tot hl p0 (by omega) (by omega)) ?_
  rintro ⟨s, p1⟩ f4
  dsimp only at f4 ⊢
  refine Tot.bind (pick_tot hl p1 80 (by omega) (by omega)) ?_
  rintro ⟨r2, p2⟩ ⟨e4, -, -, -⟩
  dsimp only at e4 ⊢
  refine Tot.some_bind ?_
  refine Tot.bind (pick_tot hl p2 2 (by omega) (by omega)) ?_
  rintro ⟨r3, p3⟩ ⟨e5, e6, e7, -⟩
  dsimp only at e5 e6 e7 ⊢
  refine Tot.pos e6 (Tot.pos (by simp only [List.length_cons, List.length_nil]; omega) ?_)
  refine Tot.bind (odd_tot hl p3 n (by omega) (by omega) (by omega)) ?_
  rintro ⟨b4, p4⟩ ⟨e8, e9, -⟩
  dsimp only at e8 e9 ⊢
  refine Tot.ite ?_ ?_ <;> intro hb
  · refine Tot.bind (pick_tot hl p4 3 (by omega) (by omega)) ?_
    rintro ⟨r5, p5⟩ ⟨e10, e11, e12, -⟩
    dsimp only at e10 e11 e12 ⊢
    refine Tot.ite ?_ ?_ <;> intro h
    · refine Tot.some_bind ?_
      refine Tot.bind (pick_tot hl p5 4 (by omega) (by omega)) ?_
      rintro ⟨r6, p6⟩ ⟨g1, g2, g3, -⟩
      dsimp only at g1 g2 g3 ⊢
      exact Tot.pos g2 (Tot.pos (by simp only [List.length_cons, List.length_nil]; omega) (Tot.ret ⟨by dsimp only; omega, by dsimp only; omega, by dsimp only; omega⟩))
    refine Tot.ite ?_ ?_ <;> intro h
    · refine Tot.some_bind ?_
      refine Tot.bind (pick_tot hl p5 2 (by omega) (by omega)) ?_
      rintro ⟨r6, p6⟩ ⟨g1, g2, g3, -⟩
      dsimp only at g1 g2 g3 ⊢
      exact Tot.pos g2 (Tot.pos (by simp only [List.length_cons, List.length_nil]; omega) (Tot.ret ⟨by dsimp only; omega, by dsimp only; omega, by dsimp only; omega⟩))
    · refine Tot.bind (l20Op_tot hl p5 1 (by omega) (by omega) (by omega)) ?_
      rintro ⟨o, a, b, c', d, q⟩ ⟨g1, g2⟩
      dsimp only at g1 g2 ⊢
      exact Tot.pos (by omega) (Tot.ret ⟨by dsimp only; rw [List.length_append]; simp only [List.length_cons, List.length_nil]; omega, by dsimp only; omega, by dsimp only; omega⟩)
  · exact Tot.ret ⟨by dsimp only; omega, by dsimp only; omega, by dsimp only; omega⟩
end Go.Proofs.YtmplnpjdbfedbaaGreatDoor.X
namespace Go.Proofs.YtmplnpjdbfedbaaGreatDoor.X
open Go.RowKit Go.Proofs.YtmplnpjdbfedbaaGreatDoorW.PrintWords Go.Proofs.YtmplnpjdbfedbaaGreatDoor.Pl Go.Proofs.YtmplnpjdbfedbaaGreatDoor.Pure
set_option linter.unusedSimpArgs false
set_option linter.unusedVariables false
theorem ext_mid (a b c : ByteArray) : (a ++ b ++ c).extract 0 a.size = a := by
  apply ba_ext
  rw [ba_size, ByteArray.data_extract, Array.toList_extract, ba_app, ba_app, List.append_assoc]
  simp
theorem ext_tail (a b c : ByteArray) : ((a ++ b ++ c).extract a.size (a ++ b ++ c).size).data.toList = b.data.toList ++ c.data.toList := by
  rw [ByteArray.data_extract, Array.toList_extract, ba_app, ba_app, List.append_assoc, List.extract_eq_take_drop, ba_size, ba_size, ba_app, ba_app, List.append_assoc]
  rw [List.drop_left]
  exact List.take_of_length_le (by simp)
theorem urlRead_ask {key : List Int} (hk : key.length ≤ 500) {l : List Op} {p : ByteArray} {n : Int} (h : askB l p n = true) (g : ByteArray) (hg : g.size = 16) (now : Int) :
    Tot (fun k => impl_UrlRead.f k key ((askF l p n ++ ⟨#[38, 115, 61]⟩) ++ g) now) (fun r => r.2.2.2 = if g = signF key (askF l p n) ∧ now < n then 200 else 403) := by
  have hsz := askF_500 l p n
  have h5 := (askB_parts h).1
  have hs : ((askF l p n ++ ⟨#[38, 115, 61]⟩) ++ g).size = (askF l p n).size + 19 := by
    rw [ByteArray.size_append, ByteArray.size_append, hg]; rfl
  have e1 : ((askF l p n ++ ⟨#[38, 115, 61]⟩) ++ g).extract 0 (((askF l p n ++ ⟨#[38, 115, 61]⟩) ++ g).size - 3 - 16) = askF l p n := by
    rw [show ((askF l p n ++ ⟨#[38, 115, 61]⟩) ++ g).size - 3 - 16 = (askF l p n).size by omega]; exact ext_mid _ _ _
  have e2 : (((askF l p n ++ ⟨#[38, 115, 61]⟩) ++ g).extract (((askF l p n ++ ⟨#[38, 115, 61]⟩) ++ g).size - 3 - 16) ((askF l p n ++ ⟨#[38, 115, 61]⟩) ++ g).size).data.toList = [38, 115, 61] ++ g.data.toList := by
    have := ext_tail (askF l p n) ⟨#[38, 115, 61]⟩ g
    rw [show ((askF l p n ++ ⟨#[38, 115, 61]⟩) ++ g).size - 3 - 16 = (askF l p n).size by omega]
    exact this
  unfold impl_UrlRead.f urlG
  refine Tot.pos (by omega) (Tot.neg (by omega) (Tot.neg (by omega) (Tot.pos ?_ ?_)))
  · unfold Lib.hasPrefix
    rw [e2]
    rfl
  rw [e1]
  refine Tot.bind (implAsk_complete _ h rfl) ?_
  rintro _ rfl
  refine Tot.pos rfl ?_
  refine Tot.bind (implUrl_tot key l (by omega) p n) ?_
  rintro _ rfl
  have hu : urlF key l p n = (askF l p n ++ ⟨#[38, 115, 61]⟩) ++ signF key (askF l p n) := by unfold urlF; rw [if_pos ⟨h, hk⟩]
  rw [hu]
  by_cases hgs : g = signF key (askF l p n)
  · refine Tot.pos (by rw [hgs]) ?_
    dsimp only
    by_cases hn : now < n
    · exact Tot.neg (by omega) (Tot.ret (by rw [if_pos ⟨hgs, hn⟩]))
    · exact Tot.pos (by omega) (Tot.ret (by rw [if_neg (fun hh => hn hh.2)]; rfl))
  · refine Tot.neg (fun hh => hgs ?_) (Tot.ret (by rw [if_neg (fun hh => hgs hh.1)]; rfl))
    rw [Lib.toList_data, Lib.toList_data] at hh
    simp only [ba_app] at hh
    have := (List.append_inj' hh (by rw [← ba_size, ← ba_size, signF_size, hg])).2
    exact (ba_ext this).symm
end Go.Proofs.YtmplnpjdbfedbaaGreatDoor.X
