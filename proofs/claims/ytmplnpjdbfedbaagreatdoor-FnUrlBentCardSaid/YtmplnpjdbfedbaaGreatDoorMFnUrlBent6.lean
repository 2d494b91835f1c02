/- Lemmas and contracts for the law FnUrlBent, part 6: of the program's functions, and over data alone. Conditions: the listed package-level variables begin as the program's text lays them (tied by the card). -/
import Derived.Test.YtmplnpjdbfedbaaGreatDoorMFnUrlBent2
import Derived.Test.YtmplnpjdbfedbaaGreatDoorMFnUrlBent3
import Derived.Test.YtmplnpjdbfedbaaGreatDoorMFnUrlBent5
import Derived.Laws.CopyOwn
import Derived.Test.YtmplnpjdbfedbaaGreatDoorMFnUrlBent4
import Derived.WalkKit
import Derived.LaidEql
import Derived.Stop.Asserts
import Derived.RowKitTokens
import Derived.Laws.Externs
import Derived.Test.YtmplnpjdbfedbaaGreatDoorMFnUrlBent1
import Derived.Lib.Bytes
import Derived.Laws.BitsAllLaws
import Derived.Lib.IndexBytes
namespace Go.Proofs.YtmplnpjdbfedbaaGreatDoor.X
open Go.RowKit Go.Proofs.YtmplnpjdbfedbaaGreatDoorW.PrintWords Go.Proofs.YtmplnpjdbfedbaaGreatDoorW.PrintLast Go.Proofs.YtmplnpjdbfedbaaGreatDoorW.PrintMore
attribute [local go_sem] max2_int min2_int max_two min_two max_three min_three max_four min_four
set_option linter.unusedVariables false
set_option linter.unusedSimpArgs false
def zR : Int × Int × Int × Int × Int × Bool := (0, 0, 0, 0, 0, false)
def opEnd (k : Nat) (s : ByteArray) (kd a b c d : Int) : Option (Int × Int × Int × Int × Int × Bool) := (impl_OpOk.f k kd a b c d).bind fun t => if t = true then (impl_OpText.f k kd a b c d).bind fun x => if x.toList = s.toList then some (kd, a, b, c, d, true) else some zR else some zR
def pad4 (l : List Int) : List Int := l ++ List.replicate (4 - l.length) 0
def impl_OpRead.f (k : Nat) (a0 : ByteArray) : Option (Int × Int × Int × Int × Int × Bool) := if a0.size ≤ 1048576 then (if (kindGo ⟨(Lib.cut a0.data.toList [46]).1.toArray⟩ 8 1).2 = true then (if (Lib.cut a0.data.toList [46]).2.2 = true then (if (Lib.cut a0.data.toList [46]).2.1.toArray.size ≤ 1048576 then (scanF k (partsB ⟨(Lib.cut a0.data.toList [46]).2.1.toArray⟩ ⟨#[46]⟩) false).bind fun x => if x.2 = true then some zR else if 4 < x.1.length then some zR else opEnd k a0 (kindGo ⟨(Lib.cut a0.data.toList [46]).1.toArray⟩ 8 1).1 ((pad4 x.1).getD 0 0) ((pad4 x.1).getD 1 0) ((pad4 x.1).getD 2 0) ((pad4 x.1).getD 3 0) else none) else opEnd k a0 (kindGo ⟨(Lib.cut a0.data.toList [46]).1.toArray⟩ 8 1).1 0 0 0 0) else some zR) else none
section
variable {w w0 : World} {g b B : Nat} {t : TypeId} {a0 a1 a2 a3 a4 c0 c1 c2 c3 c4 : Value} {cs : Array Value}
theorem blk5 (h : w.heap[g]? = some (.cells #[a0, a1, a2, a3, a4] t (0, 0))) : (((((w.setCell ⟨g, 0, none⟩ c0).setCell ⟨g, 1, none⟩ c1).setCell ⟨g, 2, none⟩ c2).setCell ⟨g, 3, none⟩ c3).setCell ⟨g, 4, none⟩ c4).heap[g]? = some (.cells #[c0, c1, c2, c3, c4] t (0, 0)) :=
 blk_set (blk_set (blk_set (blk_set (blk_set h 0 _) 1 _) 2 _) 3 _) 4 _
theorem far5 (h : w.heap[g]? = some (.cells cs t (0, 0))) (hne : g ≠ b) : (((((w.setCell ⟨b, 0, none⟩ c0).setCell ⟨b, 1, none⟩ c1).setCell ⟨b, 2, none⟩ c2).setCell ⟨b, 3, none⟩ c3).setCell ⟨b, 4, none⟩ c4).heap[g]? = some (.cells cs t (0, 0)) :=
 blk_far (p := ⟨b, 4, none⟩) (blk_far (p := ⟨b, 3, none⟩) (blk_far (p := ⟨b, 2, none⟩) (blk_far (p := ⟨b, 1, none⟩) (blk_far (p := ⟨b, 0, none⟩) h hne _) hne _) hne _) hne _) hne _
theorem below5 (h : Below B w0 w) (hb : B ≤ b) : Below B w0 (((((w.setCell ⟨b, 0, none⟩ c0).setCell ⟨b, 1, none⟩ c1).setCell ⟨b, 2, none⟩ c2).setCell ⟨b, 3, none⟩ c3).setCell ⟨b, 4, none⟩ c4) :=
 ((((h.setCell (p := ⟨b, 0, none⟩) hb _).setCell (p := ⟨b, 1, none⟩) hb _).setCell (p := ⟨b, 2, none⟩) hb _).setCell (p := ⟨b, 3, none⟩) hb _).setCell (p := ⟨b, 4, none⟩) hb _
end
theorem cut_calls (s word rest : ByteArray) (more : Bool) (w : World) (hG : Glob w) (hs : s.size ≤ 1048576) (h1 : (⟨(Lib.cut s.data.toList [46]).1.toArray⟩ : ByteArray) = word) (h2 : (⟨(Lib.cut s.data.toList [46]).2.1.toArray⟩ : ByteArray) = rest) (h3 : (Lib.cut s.data.toList [46]).2.2 = more) :
  Calls Tryz.prog 62 #[.string s, .string ⟨#[46]⟩] w fun e w' => e = .returned (.tuple #[.string word, .string rest, .bool more]) ∧ Below w.heap.size w w' := by
 obtain ⟨m, hm⟩ := hG.max
 refine (Tryz.strings_Cut s ⟨#[46]⟩ m w (by omega) hm).mono ?_
 rintro e w' ⟨rfl, n, rfl⟩
 refine ⟨?_, pw_below_drewN (Below.refl _ _) n⟩
 rw [← h1, ← h2, ← h3]
theorem C_cells64 {w : World} {A : Option Addr} {xs : List Int} (h : Kd.C (Kd.int .i64) w A xs.length xs) (hn : 0 < xs.length) : ∃ ad, A = some ad ∧ ∀ j v, (nums .i64 xs)[j]? = some v → w.cell? (ad.add j) = some v := by
 obtain ⟨ad, e, _⟩ := Kd.at_int h (0 : Int) (by omega) (by omega)
 refine ⟨ad, e, fun j v hj => ?_⟩
 have hjl : j < xs.length := by
  have := (List.getElem?_eq_some_iff.1 hj).1
  simpa [nums] using this
 obtain ⟨ad', e', hx⟩ := Kd.at_int h (j : Int) (by omega) (by omega)
 rw [e] at e'; obtain rfl := Option.some.inj e'
 rw [Int.toNat_natCast] at hx
 rw [hx, ← hj]
 simp [nums, rd, List.getD_eq_getElem?_getD, hjl]
theorem splice4 (xs : List Int) (h : xs.length ≤ 4) : splice (nums .i64 (List.replicate 4 0)) 0 (nums .i64 xs) = nums .i64 (pad4 xs) := by
 unfold splice nums pad4
 rw [List.take_zero, List.nil_append, List.map_append, List.map_replicate, List.length_map, Nat.zero_add, List.map_replicate, List.drop_replicate]
theorem pad4_len (xs : List Int) (h : xs.length ≤ 4) : (pad4 xs).length = 4 := by simp [pad4]; omega
theorem nums_at {w : World} {g : Nat} {l : List Int} {t : TypeId} {fr : Nat × Nat} (h : w.heap[g]? = some (.cells (nums .i64 l).toArray t fr)) (hl : l.length = 4) : w.cell? ⟨g, 0, none⟩ = some (.int .i64 (l.getD 0 0)) ∧ w.cell? ⟨g, 1, none⟩ = some (.int .i64 (l.getD 1 0)) ∧ w.cell? ⟨g, 2, none⟩ = some (.int .i64 (l.getD 2 0)) ∧ w.cell? ⟨g, 3, none⟩ = some (.int .i64 (l.getD 3 0)) := by
 match l, hl with
 | [a, b, c, d], _ => exact ⟨(cell_of_row _ _ _ _ _ _ h).trans rfl, (cell_of_row _ _ _ _ _ _ h).trans rfl, (cell_of_row _ _ _ _ _ _ h).trans rfl, (cell_of_row _ _ _ _ _ _ h).trans rfl⟩
theorem opCut : ∀ (b : Nat) (W : World), (Instr.sliceAt 110 (.pointer (some ⟨b, 0, none⟩)) none none none).run Tryz.prog W = .ok (.slice (some ⟨b, 0, none⟩) 4 4) W := fun b W => (by (show _ = _; kernel_rfl))
theorem tup6 {a b c d e a' b' c' d' e' : Int} {f f' : Bool} (h : some (a, b, c, d, e, f) = some (a', b', c', d', e', f')) : a = a' ∧ b = b' ∧ c = c' ∧ d = d' ∧ e = e' ∧ f = f' := by
 have := Option.some.inj h
 simp only [Prod.mk.injEq] at this
 exact this
set_option maxHeartbeats 8000000 in
set_option maxRecDepth 100000 in
theorem impl_OpRead.calls (k : Nat) (a0 : ByteArray) (r1 : Int) (r2 : Int) (r3 : Int) (r4 : Int) (r5 : Int) (r6 : Bool) (w : World) (h : impl_OpRead.f k a0 = some (r1, r2, r3, r4, r5, r6)) (hG : Glob w) :
  Calls Tryz.prog 32 #[.string a0] w fun e w' => e = .returned (.tuple #[.agg #[.int .i64 r1, .int .i64 r2, .int .i64 r3, .int .i64 r4, .int .i64 r5], .bool r6]) ∧ Below w.heap.size w w' := by
 have HG := Aside0.mk hG; clear hG; have hu := Tryz.underlying65; have hz : ∀ w : World, (zeroValue 65).run Tryz.prog w = .ok (.agg #[.int .i64 0, .int .i64 0, .int .i64 0, .int .i64 0, .int .i64 0]) w := fun w => (by kernel_rfl); have hz4 : ∀ w : World, (zeroValue 110).run Tryz.prog w = .ok (.agg #[.int .i64 0, .int .i64 0, .int .i64 0, .int .i64 0]) w := fun w => (by kernel_rfl); have hzt : ∀ w : World, (zeroValue 60).run Tryz.prog w = .ok (.agg #[.string ⟨#[]⟩, .bool false]) w := fun w => (by kernel_rfl)
 unfold impl_OpRead.f at h
 split at h
 case isFalse => cases h
 rename_i hs
 obtain ⟨word, hword⟩ : ∃ x, (⟨(Lib.cut a0.data.toList [46]).1.toArray⟩ : ByteArray) = x := ⟨_, rfl⟩; obtain ⟨rest, hrest⟩ : ∃ x, (⟨(Lib.cut a0.data.toList [46]).2.1.toArray⟩ : ByteArray) = x := ⟨_, rfl⟩; obtain ⟨more, hmore⟩ : ∃ x, (Lib.cut a0.data.toList [46]).2.2 = x := ⟨_, rfl⟩
 rw [show (Lib.cut a0.data.toList [46]).2.1.toArray.size = (⟨(Lib.cut a0.data.toList [46]).2.1.toArray⟩ : ByteArray).size from rfl, hword, hrest, hmore] at h
 obtain ⟨⟨kd, kn⟩, hkd⟩ : ∃ x, kindGo word 8 1 = x := ⟨_, rfl⟩
 rw [hkd] at h
 have HS := Aside0.mk hs; have HW := Aside0.mk hword; have HRs := Aside0.mk hrest; have HM := Aside0.mk hmore; have HK := Aside0.mk hkd; clear hs hword hrest hmore hkd
 dsimp only at h
 cases kn with
 | false =>
  rw [if_neg (by decide)] at h
  obtain ⟨rfl, rfl, rfl, rfl, rfl, rfl⟩ := tup6 h
  go_enter Tryz.func32, Tryz.ntmps32
  go_wp2_with (first | ((with_reducible refine gd_ 2 rfl ?_); refine bx_ 2 rfl #[.int .i64 0, .int .i64 0, .int .i64 0, .int .i64 0, .int .i64 0] 65 ?_; intro b2 hg w4 hbox hb; have HX2 := Aside0.mk hbox; have HB4 := Aside0.mk hb; have HG2 := Aside0.mk (show w.heap.size ≤ b2 by rw [hg]; exact Nat.le_refl _); have HG4 := Aside0.mk (HG.out.belowW hb); clear hb hbox hg) | (go_at_call 62; refine (cut_calls a0 word rest _ _ HG4.out HS.out HW.out HRs.out HM.out).mono ?_; rintro e w5 ⟨rfl, hb⟩; have HX5 := Aside0.mk (blk_below HX2.out hb); have HB5 := Aside0.mk (below_step HB4.out hb); have HG5 := Aside0.mk (HG4.out.belowW hb); clear hb) | (go_at_call 65; refine (opKind_calls word _ HG5.out).mono ?_; rw [HK.out]; rintro e w6 ⟨rfl, hb⟩; have HX6 := Aside0.mk (blk_below HX5.out hb); obtain ⟨x0, x1, x2, x3, x4⟩ := cc5_ HX6.out; obtain ⟨f0, f1, f2, f3, f4⟩ := cf5_ HX6.out; have HB6 := Aside0.mk (below_step HB5.out hb); have HG6 := Aside0.mk (HG5.out.belowW hb); clear hb))
  refine bodyPost_ret (results_ct rfl _ _ b2 65 #[.int .i64 0, .int .i64 0, .int .i64 0, .int .i64 0, .int .i64 0] (0, 0) _ rfl (blk5 HX6.out) Tryz.underlying65 rfl (by kernel_rfl)) rfl ⟨rfl, below5 HB6.out HG2.out⟩
 | true =>
  rw [if_pos rfl] at h
  cases more with
  | false =>
   rw [if_neg (by decide)] at h
   unfold opEnd at h
   obtain ⟨t, ht, h⟩ := Option.bind_eq_some_iff.1 h; have HOK := Aside0.mk ht; clear ht
   cases t with
   | false =>
    rw [if_neg (by decide)] at h
    obtain ⟨rfl, rfl, rfl, rfl, rfl, rfl⟩ := tup6 h
    go_enter Tryz.func32, Tryz.ntmps32
    go_wp2_with (first | ((with_reducible refine gd_ 2 rfl ?_); refine bx_ 2 rfl #[.int .i64 0, .int .i64 0, .int .i64 0, .int .i64 0, .int .i64 0] 65 ?_; intro b2 hg w4 hbox hb; have HX2 := Aside0.mk hbox; have HB4 := Aside0.mk hb; have HG2 := Aside0.mk (show w.heap.size ≤ b2 by rw [hg]; exact Nat.le_refl _); have HG4 := Aside0.mk (HG.out.belowW hb); clear hb hbox hg) | (go_at_call 62; refine (cut_calls a0 word rest _ _ HG4.out HS.out HW.out HRs.out HM.out).mono ?_; rintro e w5 ⟨rfl, hb⟩; have HX5 := Aside0.mk (blk_below HX2.out hb); have HB5 := Aside0.mk (below_step HB4.out hb); have HG5 := Aside0.mk (HG4.out.belowW hb); clear hb) | (go_at_call 65; refine (opKind_calls word _ HG5.out).mono ?_; rw [HK.out]; rintro e w6 ⟨rfl, hb⟩; have HX6 := Aside0.mk (blk_below HX5.out hb); obtain ⟨x0, x1, x2, x3, x4⟩ := cc5_ HX6.out; obtain ⟨f0, f1, f2, f3, f4⟩ := cf5_ HX6.out; have HB6 := Aside0.mk (below_step HB5.out hb); have HG6 := Aside0.mk (HG5.out.belowW hb); clear hb) | ((with_reducible refine gd_ 9 rfl ?_); refine bx_ 9 rfl #[.int .i64 0, .int .i64 0, .int .i64 0, .int .i64 0] 110 ?_; intro b9 hg w7 hbox hb; have HX7 := Aside0.mk (blk_below HX6.out hb); have HN7 := Aside0.mk hbox; obtain ⟨n0, n1, n2, n3⟩ := cc4_ hbox; have H29 := Aside0.mk (show b2 < b9 by rw [hg]; exact blk_lt HX6.out); have HB7 := Aside0.mk (below_step HB6.out hb); have HG7 := Aside0.mk (HG6.out.belowW hb); clear hb hbox hg x0 x1 x2 x3 x4 f0 f1 f2 f3 f4) | ((with_reducible refine gd_ 12 rfl ?_); refine bx_ 12 rfl #[.int .i64 0, .int .i64 0, .int .i64 0, .int .i64 0, .int .i64 0] 65 ?_; intro b12 hg w13 hbox hb; have HX13 := Aside0.mk (blk_below HX7.out hb); have HN13 := Aside0.mk hbox; obtain ⟨m0, m1, m2, m3, m4⟩ := cc5_ hbox; obtain ⟨q0, q1, q2, q3, q4⟩ := cf5_ hbox; have H212 := Aside0.mk (show b2 < b12 by rw [hg]; exact blk_lt HX7.out); have HB13 := Aside0.mk (below_step HB7.out hb); clear hb hbox hg) | (go_at_call 67; refine (impl_OpOk.calls k kd 0 0 0 0 false _ HOK.out).mono ?_; rintro e w14 ⟨rfl, hb⟩; have HN14 := Aside0.mk (blk_below (o := .cells #[.int .i64 kd, .int .i64 0, .int .i64 0, .int .i64 0, .int .i64 0] 65 (0, 0)) (blk5 HN13.out) hb); have HX14 := Aside0.mk (blk_below (far5 HX13.out (by have := H212.out; omega)) hb); clear m0 m1 m2 m3 m4; obtain ⟨m0, m1, m2, m3, m4⟩ := cc5_ HN14.out; obtain ⟨x0, x1, x2, x3, x4⟩ := cc5_ HX14.out; obtain ⟨f0, f1, f2, f3, f4⟩ := cf5_ HX14.out; have HB14 := Aside0.mk (below_step (below5 HB13.out (by have := HG2.out; have := H212.out; omega)) hb); clear hb q0 q1 q2 q3 q4))
    refine bodyPost_ret (results_ct rfl _ _ b2 65 #[.int .i64 0, .int .i64 0, .int .i64 0, .int .i64 0, .int .i64 0] (0, 0) _ rfl (blk5 HX14.out) Tryz.underlying65 rfl (by kernel_rfl)) rfl ⟨rfl, below5 HB14.out HG2.out⟩
   | true =>
    rw [if_pos rfl] at h
    obtain ⟨tx, htx, h⟩ := Option.bind_eq_some_iff.1 h; have HTX := Aside0.mk htx; clear htx
    by_cases hc : tx.toList = a0.toList
    · rw [if_pos hc] at h
      obtain ⟨rfl, rfl, rfl, rfl, rfl, rfl⟩ := tup6 h; have k0 := beq_iff_eq.mpr hc; have k1 := bne_eq_false_iff_eq.mpr hc; clear hc
      go_enter Tryz.func32, Tryz.ntmps32
      go_wp2_with (first | ((with_reducible refine gd_ 2 rfl ?_); refine bx_ 2 rfl #[.int .i64 0, .int .i64 0, .int .i64 0, .int .i64 0, .int .i64 0] 65 ?_; intro b2 hg w4 hbox hb; have HX2 := Aside0.mk hbox; have HB4 := Aside0.mk hb; have HG2 := Aside0.mk (show w.heap.size ≤ b2 by rw [hg]; exact Nat.le_refl _); have HG4 := Aside0.mk (HG.out.belowW hb); clear hb hbox hg) | (go_at_call 62; refine (cut_calls a0 word rest _ _ HG4.out HS.out HW.out HRs.out HM.out).mono ?_; rintro e w5 ⟨rfl, hb⟩; have HX5 := Aside0.mk (blk_below HX2.out hb); have HB5 := Aside0.mk (below_step HB4.out hb); have HG5 := Aside0.mk (HG4.out.belowW hb); clear hb) | (go_at_call 65; refine (opKind_calls word _ HG5.out).mono ?_; rw [HK.out]; rintro e w6 ⟨rfl, hb⟩; have HX6 := Aside0.mk (blk_below HX5.out hb); obtain ⟨x0, x1, x2, x3, x4⟩ := cc5_ HX6.out; obtain ⟨f0, f1, f2, f3, f4⟩ := cf5_ HX6.out; have HB6 := Aside0.mk (below_step HB5.out hb); have HG6 := Aside0.mk (HG5.out.belowW hb); clear hb) | ((with_reducible refine gd_ 9 rfl ?_); refine bx_ 9 rfl #[.int .i64 0, .int .i64 0, .int .i64 0, .int .i64 0] 110 ?_; intro b9 hg w7 hbox hb; have HX7 := Aside0.mk (blk_below HX6.out hb); have HN7 := Aside0.mk hbox; obtain ⟨n0, n1, n2, n3⟩ := cc4_ hbox; have H29 := Aside0.mk (show b2 < b9 by rw [hg]; exact blk_lt HX6.out); have HB7 := Aside0.mk (below_step HB6.out hb); have HG7 := Aside0.mk (HG6.out.belowW hb); clear hb hbox hg x0 x1 x2 x3 x4 f0 f1 f2 f3 f4) | ((with_reducible refine gd_ 12 rfl ?_); refine bx_ 12 rfl #[.int .i64 0, .int .i64 0, .int .i64 0, .int .i64 0, .int .i64 0] 65 ?_; intro b12 hg w13 hbox hb; have HX13 := Aside0.mk (blk_below HX7.out hb); have HN13 := Aside0.mk hbox; obtain ⟨m0, m1, m2, m3, m4⟩ := cc5_ hbox; obtain ⟨q0, q1, q2, q3, q4⟩ := cf5_ hbox; have H212 := Aside0.mk (show b2 < b12 by rw [hg]; exact blk_lt HX7.out); have HB13 := Aside0.mk (below_step HB7.out hb); clear hb hbox hg) | (go_at_call 67; refine (impl_OpOk.calls k kd 0 0 0 0 true _ HOK.out).mono ?_; rintro e w14 ⟨rfl, hb⟩; have HN14 := Aside0.mk (blk_below (o := .cells #[.int .i64 kd, .int .i64 0, .int .i64 0, .int .i64 0, .int .i64 0] 65 (0, 0)) (blk5 HN13.out) hb); have HX14 := Aside0.mk (blk_below (far5 HX13.out (by have := H212.out; omega)) hb); clear m0 m1 m2 m3 m4; obtain ⟨m0, m1, m2, m3, m4⟩ := cc5_ HN14.out; obtain ⟨x0, x1, x2, x3, x4⟩ := cc5_ HX14.out; obtain ⟨f0, f1, f2, f3, f4⟩ := cf5_ HX14.out; have HB14 := Aside0.mk (below_step (below5 HB13.out (by have := HG2.out; have := H212.out; omega)) hb); clear hb q0 q1 q2 q3 q4) | (go_at_call 45; refine (impl_OpText.calls k kd 0 0 0 0 tx _ HTX.out (HG.out.belowW HB14.out)).mono ?_; rintro e w15 ⟨rfl, hb⟩; have HN15 := Aside0.mk (blk_below HN14.out hb); have HX15 := Aside0.mk (blk_below HX14.out hb); clear m0 m1 m2 m3 m4 x0 x1 x2 x3 x4 f0 f1 f2 f3 f4; obtain ⟨m0, m1, m2, m3, m4⟩ := cc5_ HN15.out; obtain ⟨x0, x1, x2, x3, x4⟩ := cc5_ HX15.out; obtain ⟨f0, f1, f2, f3, f4⟩ := cf5_ HX15.out; have HB15 := Aside0.mk (below_step HB14.out hb); clear hb))
      refine bodyPost_ret (results_ct rfl _ _ b2 65 #[.int .i64 kd, .int .i64 0, .int .i64 0, .int .i64 0, .int .i64 0] (0, 0) _ rfl (blk5 HX15.out) Tryz.underlying65 rfl (by kernel_rfl)) rfl ⟨rfl, below5 HB15.out HG2.out⟩
    · rw [if_neg hc] at h
      obtain ⟨rfl, rfl, rfl, rfl, rfl, rfl⟩ := tup6 h; have k0 := beq_eq_false_iff_ne.mpr hc; have k1 := bne_iff_ne.mpr hc; clear hc
      go_enter Tryz.func32, Tryz.ntmps32
      go_wp2_with (first | ((with_reducible refine gd_ 2 rfl ?_); refine bx_ 2 rfl #[.int .i64 0, .int .i64 0, .int .i64 0, .int .i64 0, .int .i64 0] 65 ?_; intro b2 hg w4 hbox hb; have HX2 := Aside0.mk hbox; have HB4 := Aside0.mk hb; have HG2 := Aside0.mk (show w.heap.size ≤ b2 by rw [hg]; exact Nat.le_refl _); have HG4 := Aside0.mk (HG.out.belowW hb); clear hb hbox hg) | (go_at_call 62; refine (cut_calls a0 word rest _ _ HG4.out HS.out HW.out HRs.out HM.out).mono ?_; rintro e w5 ⟨rfl, hb⟩; have HX5 := Aside0.mk (blk_below HX2.out hb); have HB5 := Aside0.mk (below_step HB4.out hb); have HG5 := Aside0.mk (HG4.out.belowW hb); clear hb) | (go_at_call 65; refine (opKind_calls word _ HG5.out).mono ?_; rw [HK.out]; rintro e w6 ⟨rfl, hb⟩; have HX6 := Aside0.mk (blk_below HX5.out hb); obtain ⟨x0, x1, x2, x3, x4⟩ := cc5_ HX6.out; obtain ⟨f0, f1, f2, f3, f4⟩ := cf5_ HX6.out; have HB6 := Aside0.mk (below_step HB5.out hb); have HG6 := Aside0.mk (HG5.out.belowW hb); clear hb) | ((with_reducible refine gd_ 9 rfl ?_); refine bx_ 9 rfl #[.int .i64 0, .int .i64 0, .int .i64 0, .int .i64 0] 110 ?_; intro b9 hg w7 hbox hb; have HX7 := Aside0.mk (blk_below HX6.out hb); have HN7 := Aside0.mk hbox; obtain ⟨n0, n1, n2, n3⟩ := cc4_ hbox; have H29 := Aside0.mk (show b2 < b9 by rw [hg]; exact blk_lt HX6.out); have HB7 := Aside0.mk (below_step HB6.out hb); have HG7 := Aside0.mk (HG6.out.belowW hb); clear hb hbox hg x0 x1 x2 x3 x4 f0 f1 f2 f3 f4) | ((with_reducible refine gd_ 12 rfl ?_); refine bx_ 12 rfl #[.int .i64 0, .int .i64 0, .int .i64 0, .int .i64 0, .int .i64 0] 65 ?_; intro b12 hg w13 hbox hb; have HX13 := Aside0.mk (blk_below HX7.out hb); have HN13 := Aside0.mk hbox; obtain ⟨m0, m1, m2, m3, m4⟩ := cc5_ hbox; obtain ⟨q0, q1, q2, q3, q4⟩ := cf5_ hbox; have H212 := Aside0.mk (show b2 < b12 by rw [hg]; exact blk_lt HX7.out); have HB13 := Aside0.mk (below_step HB7.out hb); clear hb hbox hg) | (go_at_call 67; refine (impl_OpOk.calls k kd 0 0 0 0 true _ HOK.out).mono ?_; rintro e w14 ⟨rfl, hb⟩; have HN14 := Aside0.mk (blk_below (o := .cells #[.int .i64 kd, .int .i64 0, .int .i64 0, .int .i64 0, .int .i64 0] 65 (0, 0)) (blk5 HN13.out) hb); have HX14 := Aside0.mk (blk_below (far5 HX13.out (by have := H212.out; omega)) hb); clear m0 m1 m2 m3 m4; obtain ⟨m0, m1, m2, m3, m4⟩ := cc5_ HN14.out; obtain ⟨x0, x1, x2, x3, x4⟩ := cc5_ HX14.out; obtain ⟨f0, f1, f2, f3, f4⟩ := cf5_ HX14.out; have HB14 := Aside0.mk (below_step (below5 HB13.out (by have := HG2.out; have := H212.out; omega)) hb); clear hb q0 q1 q2 q3 q4) | (go_at_call 45; refine (impl_OpText.calls k kd 0 0 0 0 tx _ HTX.out (HG.out.belowW HB14.out)).mono ?_; rintro e w15 ⟨rfl, hb⟩; have HN15 := Aside0.mk (blk_below HN14.out hb); have HX15 := Aside0.mk (blk_below HX14.out hb); clear m0 m1 m2 m3 m4 x0 x1 x2 x3 x4 f0 f1 f2 f3 f4; obtain ⟨m0, m1, m2, m3, m4⟩ := cc5_ HN15.out; obtain ⟨x0, x1, x2, x3, x4⟩ := cc5_ HX15.out; obtain ⟨f0, f1, f2, f3, f4⟩ := cf5_ HX15.out; have HB15 := Aside0.mk (below_step HB14.out hb); clear hb))
      refine bodyPost_ret (results_ct rfl _ _ b2 65 #[.int .i64 0, .int .i64 0, .int .i64 0, .int .i64 0, .int .i64 0] (0, 0) _ rfl (blk5 HX15.out) Tryz.underlying65 rfl (by kernel_rfl)) rfl ⟨rfl, below5 HB15.out HG2.out⟩
  | true =>
   rw [if_pos rfl] at h
   split at h
   case isFalse => cases h
   rename_i hrs
   obtain ⟨⟨ns, fl⟩, hsc, h⟩ := Option.bind_eq_some_iff.1 h; have HRS := Aside0.mk hrs; have HSC := Aside0.mk hsc; clear hrs hsc
   dsimp only at h
   cases fl with
   | true =>
    rw [if_pos rfl] at h
    obtain ⟨rfl, rfl, rfl, rfl, rfl, rfl⟩ := tup6 h
    go_enter Tryz.func32, Tryz.ntmps32
    go_wp2_with (first | ((with_reducible refine gd_ 2 rfl ?_); refine bx_ 2 rfl #[.int .i64 0, .int .i64 0, .int .i64 0, .int .i64 0, .int .i64 0] 65 ?_; intro b2 hg w4 hbox hb; have HX2 := Aside0.mk hbox; have HB4 := Aside0.mk hb; have HG2 := Aside0.mk (show w.heap.size ≤ b2 by rw [hg]; exact Nat.le_refl _); have HG4 := Aside0.mk (HG.out.belowW hb); clear hb hbox hg) | (go_at_call 62; refine (cut_calls a0 word rest _ _ HG4.out HS.out HW.out HRs.out HM.out).mono ?_; rintro e w5 ⟨rfl, hb⟩; have HX5 := Aside0.mk (blk_below HX2.out hb); have HB5 := Aside0.mk (below_step HB4.out hb); have HG5 := Aside0.mk (HG4.out.belowW hb); clear hb) | (go_at_call 65; refine (opKind_calls word _ HG5.out).mono ?_; rw [HK.out]; rintro e w6 ⟨rfl, hb⟩; have HX6 := Aside0.mk (blk_below HX5.out hb); obtain ⟨x0, x1, x2, x3, x4⟩ := cc5_ HX6.out; obtain ⟨f0, f1, f2, f3, f4⟩ := cf5_ HX6.out; have HB6 := Aside0.mk (below_step HB5.out hb); have HG6 := Aside0.mk (HG5.out.belowW hb); clear hb) | ((with_reducible refine gd_ 9 rfl ?_); refine bx_ 9 rfl #[.int .i64 0, .int .i64 0, .int .i64 0, .int .i64 0] 110 ?_; intro b9 hg w7 hbox hb; have HX7 := Aside0.mk (blk_below HX6.out hb); have HN7 := Aside0.mk hbox; obtain ⟨n0, n1, n2, n3⟩ := cc4_ hbox; have H29 := Aside0.mk (show b2 < b9 by rw [hg]; exact blk_lt HX6.out); have HB7 := Aside0.mk (below_step HB6.out hb); have HG7 := Aside0.mk (HG6.out.belowW hb); clear hb hbox hg x0 x1 x2 x3 x4 f0 f1 f2 f3 f4) | ((with_reducible refine gd_ 10 rfl ?_); refine bx_ 10 rfl #[.string ⟨#[]⟩, .bool false] 60 ?_; intro b10 hg w8 hbox hb; have HX8 := Aside0.mk (blk_below HX7.out hb); have HN8 := Aside0.mk (blk_below HN7.out hb); have HT8 := Aside0.mk hbox; have H910 := Aside0.mk (show b9 < b10 by rw [hg]; exact blk_lt HN7.out); have HB8 := Aside0.mk (below_step HB7.out hb); have HG8 := Aside0.mk (HG7.out.belowW hb); clear hb hbox hg n0 n1 n2 n3) | (go_at_call 66; refine (scanInt_calls k b10 ⟨#[]⟩ rest ⟨#[46]⟩ ns _ _ HG8.out HRS.out (by decide) HT8.out HSC.out).mono ?_; rintro e w9 ⟨v, rfl, hR, hT, hb⟩; obtain ⟨A9, c9, rfl, hc9, hr9⟩ := Kd.R_reads hR; have HR9 := Aside0.mk hr9; obtain ⟨t0, t1⟩ := cells2_at hT; have HX9 := Aside0.mk ((hb.block b2 (by have := H29.out; have := H910.out; omega)).trans HX8.out); have HN9 := Aside0.mk ((hb.block b9 H910.out).trans HN8.out); have HB9 := Aside0.mk (HB8.out.trans (hb.mono (by have := HG2.out; have := H29.out; have := H910.out; omega))); obtain ⟨n9, hn9⟩ : ∃ n, ns.length = n := ⟨_, rfl⟩; have HL9 := Aside0.mk hn9; rw [hn9]; obtain ⟨x0, x1, x2, x3, x4⟩ := cc5_ HX9.out; obtain ⟨f0, f1, f2, f3, f4⟩ := cf5_ HX9.out; clear hb hR hT hc9 hr9 hn9 t0))
    refine bodyPost_ret (results_ct rfl _ _ b2 65 #[.int .i64 0, .int .i64 0, .int .i64 0, .int .i64 0, .int .i64 0] (0, 0) _ rfl (blk5 HX9.out) Tryz.underlying65 rfl (by kernel_rfl)) rfl ⟨rfl, below5 HB9.out HG2.out⟩
   | false =>
    rw [if_neg (by decide)] at h
    by_cases h4 : 4 < ns.length
    · rw [if_pos h4] at h
      obtain ⟨rfl, rfl, rfl, rfl, rfl, rfl⟩ := tup6 h; have H4 := Aside0.mk h4; clear h4
      go_enter Tryz.func32, Tryz.ntmps32
      go_wp2_with (first | ((with_reducible refine gd_ 2 rfl ?_); refine bx_ 2 rfl #[.int .i64 0, .int .i64 0, .int .i64 0, .int .i64 0, .int .i64 0] 65 ?_; intro b2 hg w4 hbox hb; have HX2 := Aside0.mk hbox; have HB4 := Aside0.mk hb; have HG2 := Aside0.mk (show w.heap.size ≤ b2 by rw [hg]; exact Nat.le_refl _); have HG4 := Aside0.mk (HG.out.belowW hb); clear hb hbox hg) | (go_at_call 62; refine (cut_calls a0 word rest _ _ HG4.out HS.out HW.out HRs.out HM.out).mono ?_; rintro e w5 ⟨rfl, hb⟩; have HX5 := Aside0.mk (blk_below HX2.out hb); have HB5 := Aside0.mk (below_step HB4.out hb); have HG5 := Aside0.mk (HG4.out.belowW hb); clear hb) | (go_at_call 65; refine (opKind_calls word _ HG5.out).mono ?_; rw [HK.out]; rintro e w6 ⟨rfl, hb⟩; have HX6 := Aside0.mk (blk_below HX5.out hb); obtain ⟨x0, x1, x2, x3, x4⟩ := cc5_ HX6.out; obtain ⟨f0, f1, f2, f3, f4⟩ := cf5_ HX6.out; have HB6 := Aside0.mk (below_step HB5.out hb); have HG6 := Aside0.mk (HG5.out.belowW hb); clear hb) | ((with_reducible refine gd_ 9 rfl ?_); refine bx_ 9 rfl #[.int .i64 0, .int .i64 0, .int .i64 0, .int .i64 0] 110 ?_; intro b9 hg w7 hbox hb; have HX7 := Aside0.mk (blk_below HX6.out hb); have HN7 := Aside0.mk hbox; obtain ⟨n0, n1, n2, n3⟩ := cc4_ hbox; have H29 := Aside0.mk (show b2 < b9 by rw [hg]; exact blk_lt HX6.out); have HB7 := Aside0.mk (below_step HB6.out hb); have HG7 := Aside0.mk (HG6.out.belowW hb); clear hb hbox hg x0 x1 x2 x3 x4 f0 f1 f2 f3 f4) | ((with_reducible refine gd_ 10 rfl ?_); refine bx_ 10 rfl #[.string ⟨#[]⟩, .bool false] 60 ?_; intro b10 hg w8 hbox hb; have HX8 := Aside0.mk (blk_below HX7.out hb); have HN8 := Aside0.mk (blk_below HN7.out hb); have HT8 := Aside0.mk hbox; have H910 := Aside0.mk (show b9 < b10 by rw [hg]; exact blk_lt HN7.out); have HB8 := Aside0.mk (below_step HB7.out hb); have HG8 := Aside0.mk (HG7.out.belowW hb); clear hb hbox hg n0 n1 n2 n3) | (go_at_call 66; refine (scanInt_calls k b10 ⟨#[]⟩ rest ⟨#[46]⟩ ns _ _ HG8.out HRS.out (by decide) HT8.out HSC.out).mono ?_; rintro e w9 ⟨v, rfl, hR, hT, hb⟩; obtain ⟨A9, c9, rfl, hc9, hr9⟩ := Kd.R_reads hR; have HR9 := Aside0.mk hr9; obtain ⟨t0, t1⟩ := cells2_at hT; have HX9 := Aside0.mk ((hb.block b2 (by have := H29.out; have := H910.out; omega)).trans HX8.out); have HN9 := Aside0.mk ((hb.block b9 H910.out).trans HN8.out); have HB9 := Aside0.mk (HB8.out.trans (hb.mono (by have := HG2.out; have := H29.out; have := H910.out; omega))); obtain ⟨n9, hn9⟩ : ∃ n, ns.length = n := ⟨_, rfl⟩; have HL9 := Aside0.mk hn9; rw [hn9]; obtain ⟨x0, x1, x2, x3, x4⟩ := cc5_ HX9.out; obtain ⟨f0, f1, f2, f3, f4⟩ := cf5_ HX9.out; have hlen : (4 : Int) < (n9 : Int) := (by have := H4.out; omega);clear hb hR hT hc9 hr9 hn9 t0))
      refine bodyPost_ret (results_ct rfl _ _ b2 65 #[.int .i64 0, .int .i64 0, .int .i64 0, .int .i64 0, .int .i64 0] (0, 0) _ rfl (blk5 HX9.out) Tryz.underlying65 rfl (by kernel_rfl)) rfl ⟨rfl, below5 HB9.out HG2.out⟩
    · rw [if_neg h4] at h
      have H4 := Aside0.mk h4; clear h4; obtain ⟨p0, hp0⟩ : ∃ x, (pad4 ns).getD 0 0 = x := ⟨_, rfl⟩; obtain ⟨p1, hp1⟩ : ∃ x, (pad4 ns).getD 1 0 = x := ⟨_, rfl⟩; obtain ⟨p2, hp2⟩ : ∃ x, (pad4 ns).getD 2 0 = x := ⟨_, rfl⟩; obtain ⟨p3, hp3⟩ : ∃ x, (pad4 ns).getD 3 0 = x := ⟨_, rfl⟩
      rw [hp0, hp1, hp2, hp3] at h
      have P0 := Aside0.mk hp0; have P1 := Aside0.mk hp1; have P2 := Aside0.mk hp2; have P3 := Aside0.mk hp3; clear hp0 hp1 hp2 hp3
      unfold opEnd at h
      have hcut := opCut; obtain ⟨t, ht, h⟩ := Option.bind_eq_some_iff.1 h; have HOK := Aside0.mk ht; clear ht
      cases t with
      | false =>
       rw [if_neg (by decide)] at h
       obtain ⟨rfl, rfl, rfl, rfl, rfl, rfl⟩ := tup6 h
       go_enter Tryz.func32, Tryz.ntmps32
       go_wp2_with (first | ((with_reducible refine gd_ 2 rfl ?_); refine bx_ 2 rfl #[.int .i64 0, .int .i64 0, .int .i64 0, .int .i64 0, .int .i64 0] 65 ?_; intro b2 hg w4 hbox hb; have HX2 := Aside0.mk hbox; have HB4 := Aside0.mk hb; have HG2 := Aside0.mk (show w.heap.size ≤ b2 by rw [hg]; exact Nat.le_refl _); have HG4 := Aside0.mk (HG.out.belowW hb); clear hb hbox hg) | (go_at_call 62; refine (cut_calls a0 word rest _ _ HG4.out HS.out HW.out HRs.out HM.out).mono ?_; rintro e w5 ⟨rfl, hb⟩; have HX5 := Aside0.mk (blk_below HX2.out hb); have HB5 := Aside0.mk (below_step HB4.out hb); have HG5 := Aside0.mk (HG4.out.belowW hb); clear hb) | (go_at_call 65; refine (opKind_calls word _ HG5.out).mono ?_; rw [HK.out]; rintro e w6 ⟨rfl, hb⟩; have HX6 := Aside0.mk (blk_below HX5.out hb); obtain ⟨x0, x1, x2, x3, x4⟩ := cc5_ HX6.out; obtain ⟨f0, f1, f2, f3, f4⟩ := cf5_ HX6.out; have HB6 := Aside0.mk (below_step HB5.out hb); have HG6 := Aside0.mk (HG5.out.belowW hb); clear hb) | ((with_reducible refine gd_ 9 rfl ?_); refine bx_ 9 rfl #[.int .i64 0, .int .i64 0, .int .i64 0, .int .i64 0] 110 ?_; intro b9 hg w7 hbox hb; have HX7 := Aside0.mk (blk_below HX6.out hb); have HN7 := Aside0.mk hbox; obtain ⟨n0, n1, n2, n3⟩ := cc4_ hbox; have H29 := Aside0.mk (show b2 < b9 by rw [hg]; exact blk_lt HX6.out); have HB7 := Aside0.mk (below_step HB6.out hb); have HG7 := Aside0.mk (HG6.out.belowW hb); clear hb hbox hg x0 x1 x2 x3 x4 f0 f1 f2 f3 f4) | ((with_reducible refine gd_ 10 rfl ?_); refine bx_ 10 rfl #[.string ⟨#[]⟩, .bool false] 60 ?_; intro b10 hg w8 hbox hb; have HX8 := Aside0.mk (blk_below HX7.out hb); have HN8 := Aside0.mk (blk_below HN7.out hb); have HT8 := Aside0.mk hbox; have H910 := Aside0.mk (show b9 < b10 by rw [hg]; exact blk_lt HN7.out); have HB8 := Aside0.mk (below_step HB7.out hb); have HG8 := Aside0.mk (HG7.out.belowW hb); clear hb hbox hg n0 n1 n2 n3) | (go_at_call 66; refine (scanInt_calls k b10 ⟨#[]⟩ rest ⟨#[46]⟩ ns _ _ HG8.out HRS.out (by decide) HT8.out HSC.out).mono ?_; rintro e w9 ⟨v, rfl, hR, hT, hb⟩; obtain ⟨A9, c9, rfl, hc9, hr9⟩ := Kd.R_reads hR; have HR9 := Aside0.mk hr9; obtain ⟨t0, t1⟩ := cells2_at hT; have HX9 := Aside0.mk ((hb.block b2 (by have := H29.out; have := H910.out; omega)).trans HX8.out); have HN9 := Aside0.mk ((hb.block b9 H910.out).trans HN8.out); have HB9 := Aside0.mk (HB8.out.trans (hb.mono (by have := HG2.out; have := H29.out; have := H910.out; omega))); obtain ⟨n9, hn9⟩ : ∃ n, ns.length = n := ⟨_, rfl⟩; have HL9 := Aside0.mk hn9; rw [hn9]; obtain ⟨x0, x1, x2, x3, x4⟩ := cc5_ HX9.out; obtain ⟨f0, f1, f2, f3, f4⟩ := cf5_ HX9.out; have hlen : ¬ ((4 : Int) < (n9 : Int)) := (by have := H4.out; omega); have HL4 : Aside0 (n9 ≤ 4) := ⟨by have := H4.out; omega⟩;clear hb hR hT hc9 hr9 hn9 t0) | ((with_reducible refine gate_builtin (b := .copy) (xs := #[.tmp 38, .tmp 39]) rfl ?_); refine wpList_copy_splice rfl (.tmp 38) (.tmp 39) 78 78 rfl 3 Tryz.underlying78 (by kernel_rfl) _ _ _ _ _ _ rfl rfl b9 0 (nums .i64 (List.replicate 4 0)) 110 ?hg (nums .i64 ns) ?hn ?hpos ?hfit ?h1 b9 _ (Below.refl _ _) (Nat.le_refl _) ?_; (case hg => exact HN9.out); (case hn => rw [nums_length]; have := HL9.out; have := HL4.out; show _ = min _ _; omega); (case hpos => intro hps; rw [nums_length] at hps; exact ⟨rfl, C_cells64 HR9.out hps⟩); (case hfit => rw [nums_length, nums_length]; have := HL9.out; have := HL4.out; simp; omega); (case h1 => intro v hv; obtain ⟨x, _, rfl⟩ := List.mem_map.1 hv; rfl); intro w10 hg10 hb10; rw [splice4 ns (by rw [HL9.out]; exact HL4.out)] at hg10; obtain ⟨n0, n1, n2, n3⟩ := nums_at (show w10.heap[b9]? = some (.cells (nums .i64 (pad4 ns)).toArray 110 (0, 0)) from hg10) (pad4_len ns (by rw [HL9.out]; exact HL4.out)); have HX10 := Aside0.mk ((hb10.block b2 H29.out).trans HX9.out); have HB10 := Aside0.mk (HB9.out.trans (hb10.mono (by have := HG2.out; have := H29.out; omega))); rw [P0.out] at n0; rw [P1.out] at n1; rw [P2.out] at n2; rw [P3.out] at n3; clear hg10 hb10 x0 x1 x2 x3 x4 f0 f1 f2 f3 f4) | ((with_reducible refine gd_ 12 rfl ?_); refine bx_ 12 rfl #[.int .i64 0, .int .i64 0, .int .i64 0, .int .i64 0, .int .i64 0] 65 ?_; intro b12 hg w13 hbox hb; have HX13 := Aside0.mk (blk_below HX10.out hb); have HN13 := Aside0.mk hbox; obtain ⟨m0, m1, m2, m3, m4⟩ := cc5_ hbox; obtain ⟨q0, q1, q2, q3, q4⟩ := cf5_ hbox; have H212 := Aside0.mk (show b2 < b12 by rw [hg]; exact blk_lt HX10.out); have HB13 := Aside0.mk (below_step HB10.out hb); clear hb hbox hg) | (go_at_call 67; refine (impl_OpOk.calls k kd p0 p1 p2 p3 false _ HOK.out).mono ?_; rintro e w14 ⟨rfl, hb⟩; have HN14 := Aside0.mk (blk_below (o := .cells #[.int .i64 kd, .int .i64 p0, .int .i64 p1, .int .i64 p2, .int .i64 p3] 65 (0, 0)) (blk5 HN13.out) hb); have HX14 := Aside0.mk (blk_below (far5 HX13.out (by have := H212.out; omega)) hb); clear m0 m1 m2 m3 m4; obtain ⟨m0, m1, m2, m3, m4⟩ := cc5_ HN14.out; obtain ⟨x0, x1, x2, x3, x4⟩ := cc5_ HX14.out; obtain ⟨f0, f1, f2, f3, f4⟩ := cf5_ HX14.out; have HB14 := Aside0.mk (below_step (below5 HB13.out (by have := HG2.out; have := H212.out; omega)) hb); clear hb q0 q1 q2 q3 q4))
       refine bodyPost_ret (results_ct rfl _ _ b2 65 #[.int .i64 0, .int .i64 0, .int .i64 0, .int .i64 0, .int .i64 0] (0, 0) _ rfl (blk5 HX14.out) Tryz.underlying65 rfl (by kernel_rfl)) rfl ⟨rfl, below5 HB14.out HG2.out⟩
      | true =>
       rw [if_pos rfl] at h
       obtain ⟨tx, htx, h⟩ := Option.bind_eq_some_iff.1 h; have HTX := Aside0.mk htx; clear htx
       by_cases hc : tx.toList = a0.toList
       · rw [if_pos hc] at h
         obtain ⟨rfl, rfl, rfl, rfl, rfl, rfl⟩ := tup6 h; have k0 := beq_iff_eq.mpr hc; have k1 := bne_eq_false_iff_eq.mpr hc; clear hc
         go_enter Tryz.func32, Tryz.ntmps32
         go_wp2_with (first | ((with_reducible refine gd_ 2 rfl ?_); refine bx_ 2 rfl #[.int .i64 0, .int .i64 0, .int .i64 0, .int .i64 0, .int .i64 0] 65 ?_; intro b2 hg w4 hbox hb; have HX2 := Aside0.mk hbox; have HB4 := Aside0.mk hb; have HG2 := Aside0.mk (show w.heap.size ≤ b2 by rw [hg]; exact Nat.le_refl _); have HG4 := Aside0.mk (HG.out.belowW hb); clear hb hbox hg) | (go_at_call 62; refine (cut_calls a0 word rest _ _ HG4.out HS.out HW.out HRs.out HM.out).mono ?_; rintro e w5 ⟨rfl, hb⟩; have HX5 := Aside0.mk (blk_below HX2.out hb); have HB5 := Aside0.mk (below_step HB4.out hb); have HG5 := Aside0.mk (HG4.out.belowW hb); clear hb) | (go_at_call 65; refine (opKind_calls word _ HG5.out).mono ?_; rw [HK.out]; rintro e w6 ⟨rfl, hb⟩; have HX6 := Aside0.mk (blk_below HX5.out hb); obtain ⟨x0, x1, x2, x3, x4⟩ := cc5_ HX6.out; obtain ⟨f0, f1, f2, f3, f4⟩ := cf5_ HX6.out; have HB6 := Aside0.mk (below_step HB5.out hb); have HG6 := Aside0.mk (HG5.out.belowW hb); clear hb) | ((with_reducible refine gd_ 9 rfl ?_); refine bx_ 9 rfl #[.int .i64 0, .int .i64 0, .int .i64 0, .int .i64 0] 110 ?_; intro b9 hg w7 hbox hb; have HX7 := Aside0.mk (blk_below HX6.out hb); have HN7 := Aside0.mk hbox; obtain ⟨n0, n1, n2, n3⟩ := cc4_ hbox; have H29 := Aside0.mk (show b2 < b9 by rw [hg]; exact blk_lt HX6.out); have HB7 := Aside0.mk (below_step HB6.out hb); have HG7 := Aside0.mk (HG6.out.belowW hb); clear hb hbox hg x0 x1 x2 x3 x4 f0 f1 f2 f3 f4) | ((with_reducible refine gd_ 10 rfl ?_); refine bx_ 10 rfl #[.string ⟨#[]⟩, .bool false] 60 ?_; intro b10 hg w8 hbox hb; have HX8 := Aside0.mk (blk_below HX7.out hb); have HN8 := Aside0.mk (blk_below HN7.out hb); have HT8 := Aside0.mk hbox; have H910 := Aside0.mk (show b9 < b10 by rw [hg]; exact blk_lt HN7.out); have HB8 := Aside0.mk (below_step HB7.out hb); have HG8 := Aside0.mk (HG7.out.belowW hb); clear hb hbox hg n0 n1 n2 n3) | (go_at_call 66; refine (scanInt_calls k b10 ⟨#[]⟩ rest ⟨#[46]⟩ ns _ _ HG8.out HRS.out (by decide) HT8.out HSC.out).mono ?_; rintro e w9 ⟨v, rfl, hR, hT, hb⟩; obtain ⟨A9, c9, rfl, hc9, hr9⟩ := Kd.R_reads hR; have HR9 := Aside0.mk hr9; obtain ⟨t0, t1⟩ := cells2_at hT; have HX9 := Aside0.mk ((hb.block b2 (by have := H29.out; have := H910.out; omega)).trans HX8.out); have HN9 := Aside0.mk ((hb.block b9 H910.out).trans HN8.out); have HB9 := Aside0.mk (HB8.out.trans (hb.mono (by have := HG2.out; have := H29.out; have := H910.out; omega))); obtain ⟨n9, hn9⟩ : ∃ n, ns.length = n := ⟨_, rfl⟩; have HL9 := Aside0.mk hn9; rw [hn9]; obtain ⟨x0, x1, x2, x3, x4⟩ := cc5_ HX9.out; obtain ⟨f0, f1, f2, f3, f4⟩ := cf5_ HX9.out; have hlen : ¬ ((4 : Int) < (n9 : Int)) := (by have := H4.out; omega); have HL4 : Aside0 (n9 ≤ 4) := ⟨by have := H4.out; omega⟩;clear hb hR hT hc9 hr9 hn9 t0) | ((with_reducible refine gate_builtin (b := .copy) (xs := #[.tmp 38, .tmp 39]) rfl ?_); refine wpList_copy_splice rfl (.tmp 38) (.tmp 39) 78 78 rfl 3 Tryz.underlying78 (by kernel_rfl) _ _ _ _ _ _ rfl rfl b9 0 (nums .i64 (List.replicate 4 0)) 110 ?hg (nums .i64 ns) ?hn ?hpos ?hfit ?h1 b9 _ (Below.refl _ _) (Nat.le_refl _) ?_; (case hg => exact HN9.out); (case hn => rw [nums_length]; have := HL9.out; have := HL4.out; show _ = min _ _; omega); (case hpos => intro hps; rw [nums_length] at hps; exact ⟨rfl, C_cells64 HR9.out hps⟩); (case hfit => rw [nums_length, nums_length]; have := HL9.out; have := HL4.out; simp; omega); (case h1 => intro v hv; obtain ⟨x, _, rfl⟩ := List.mem_map.1 hv; rfl); intro w10 hg10 hb10; rw [splice4 ns (by rw [HL9.out]; exact HL4.out)] at hg10; obtain ⟨n0, n1, n2, n3⟩ := nums_at (show w10.heap[b9]? = some (.cells (nums .i64 (pad4 ns)).toArray 110 (0, 0)) from hg10) (pad4_len ns (by rw [HL9.out]; exact HL4.out)); have HX10 := Aside0.mk ((hb10.block b2 H29.out).trans HX9.out); have HB10 := Aside0.mk (HB9.out.trans (hb10.mono (by have := HG2.out; have := H29.out; omega))); rw [P0.out] at n0; rw [P1.out] at n1; rw [P2.out] at n2; rw [P3.out] at n3; clear hg10 hb10 x0 x1 x2 x3 x4 f0 f1 f2 f3 f4) | ((with_reducible refine gd_ 12 rfl ?_); refine bx_ 12 rfl #[.int .i64 0, .int .i64 0, .int .i64 0, .int .i64 0, .int .i64 0] 65 ?_; intro b12 hg w13 hbox hb; have HX13 := Aside0.mk (blk_below HX10.out hb); have HN13 := Aside0.mk hbox; obtain ⟨m0, m1, m2, m3, m4⟩ := cc5_ hbox; obtain ⟨q0, q1, q2, q3, q4⟩ := cf5_ hbox; have H212 := Aside0.mk (show b2 < b12 by rw [hg]; exact blk_lt HX10.out); have HB13 := Aside0.mk (below_step HB10.out hb); clear hb hbox hg) | (go_at_call 67; refine (impl_OpOk.calls k kd p0 p1 p2 p3 true _ HOK.out).mono ?_; rintro e w14 ⟨rfl, hb⟩; have HN14 := Aside0.mk (blk_below (o := .cells #[.int .i64 kd, .int .i64 p0, .int .i64 p1, .int .i64 p2, .int .i64 p3] 65 (0, 0)) (blk5 HN13.out) hb); have HX14 := Aside0.mk (blk_below (far5 HX13.out (by have := H212.out; omega)) hb); clear m0 m1 m2 m3 m4; obtain ⟨m0, m1, m2, m3, m4⟩ := cc5_ HN14.out; obtain ⟨x0, x1, x2, x3, x4⟩ := cc5_ HX14.out; obtain ⟨f0, f1, f2, f3, f4⟩ := cf5_ HX14.out; have HB14 := Aside0.mk (below_step (below5 HB13.out (by have := HG2.out; have := H212.out; omega)) hb); clear hb q0 q1 q2 q3 q4) | (go_at_call 45; refine (impl_OpText.calls k kd p0 p1 p2 p3 tx _ HTX.out (HG.out.belowW HB14.out)).mono ?_; rintro e w15 ⟨rfl, hb⟩; have HN15 := Aside0.mk (blk_below HN14.out hb); have HX15 := Aside0.mk (blk_below HX14.out hb); clear m0 m1 m2 m3 m4 x0 x1 x2 x3 x4 f0 f1 f2 f3 f4; obtain ⟨m0, m1, m2, m3, m4⟩ := cc5_ HN15.out; obtain ⟨x0, x1, x2, x3, x4⟩ := cc5_ HX15.out; obtain ⟨f0, f1, f2, f3, f4⟩ := cf5_ HX15.out; have HB15 := Aside0.mk (below_step HB14.out hb); clear hb))
         refine bodyPost_ret (results_ct rfl _ _ b2 65 #[.int .i64 kd, .int .i64 p0, .int .i64 p1, .int .i64 p2, .int .i64 p3] (0, 0) _ rfl (blk5 HX15.out) Tryz.underlying65 rfl (by kernel_rfl)) rfl ⟨rfl, below5 HB15.out HG2.out⟩
       · rw [if_neg hc] at h
         obtain ⟨rfl, rfl, rfl, rfl, rfl, rfl⟩ := tup6 h; have k0 := beq_eq_false_iff_ne.mpr hc; have k1 := bne_iff_ne.mpr hc; clear hc
         go_enter Tryz.func32, Tryz.ntmps32
         go_wp2_with (first | ((with_reducible refine gd_ 2 rfl ?_); refine bx_ 2 rfl #[.int .i64 0, .int .i64 0, .int .i64 0, .int .i64 0, .int .i64 0] 65 ?_; intro b2 hg w4 hbox hb; have HX2 := Aside0.mk hbox; have HB4 := Aside0.mk hb; have HG2 := Aside0.mk (show w.heap.size ≤ b2 by rw [hg]; exact Nat.le_refl _); have HG4 := Aside0.mk (HG.out.belowW hb); clear hb hbox hg) | (go_at_call 62; refine (cut_calls a0 word rest _ _ HG4.out HS.out HW.out HRs.out HM.out).mono ?_; rintro e w5 ⟨rfl, hb⟩; have HX5 := Aside0.mk (blk_below HX2.out hb); have HB5 := Aside0.mk (below_step HB4.out hb); have HG5 := Aside0.mk (HG4.out.belowW hb); clear hb) | (go_at_call 65; refine (opKind_calls word _ HG5.out).mono ?_; rw [HK.out]; rintro e w6 ⟨rfl, hb⟩; have HX6 := Aside0.mk (blk_below HX5.out hb); obtain ⟨x0, x1, x2, x3, x4⟩ := cc5_ HX6.out; obtain ⟨f0, f1, f2, f3, f4⟩ := cf5_ HX6.out; have HB6 := Aside0.mk (below_step HB5.out hb); have HG6 := Aside0.mk (HG5.out.belowW hb); clear hb) | ((with_reducible refine gd_ 9 rfl ?_); refine bx_ 9 rfl #[.int .i64 0, .int .i64 0, .int .i64 0, .int .i64 0] 110 ?_; intro b9 hg w7 hbox hb; have HX7 := Aside0.mk (blk_below HX6.out hb); have HN7 := Aside0.mk hbox; obtain ⟨n0, n1, n2, n3⟩ := cc4_ hbox; have H29 := Aside0.mk (show b2 < b9 by rw [hg]; exact blk_lt HX6.out); have HB7 := Aside0.mk (below_step HB6.out hb); have HG7 := Aside0.mk (HG6.out.belowW hb); clear hb hbox hg x0 x1 x2 x3 x4 f0 f1 f2 f3 f4) | ((with_reducible refine gd_ 10 rfl ?_); refine bx_ 10 rfl #[.string ⟨#[]⟩, .bool false] 60 ?_; intro b10 hg w8 hbox hb; have HX8 := Aside0.mk (blk_below HX7.out hb); have HN8 := Aside0.mk (blk_below HN7.out hb); have HT8 := Aside0.mk hbox; have H910 := Aside0.mk (show b9 < b10 by rw [hg]; exact blk_lt HN7.out); have HB8 := Aside0.mk (below_step HB7.out hb); have HG8 := Aside0.mk (HG7.out.belowW hb); clear hb hbox hg n0 n1 n2 n3) | (go_at_call 66; refine (scanInt_calls k b10 ⟨#[]⟩ rest ⟨#[46]⟩ ns _ _ HG8.out HRS.out (by decide) HT8.out HSC.out).mono ?_; rintro e w9 ⟨v, rfl, hR, hT, hb⟩; obtain ⟨A9, c9, rfl, hc9, hr9⟩ := Kd.R_reads hR; have HR9 := Aside0.mk hr9; obtain ⟨t0, t1⟩ := cells2_at hT; have HX9 := Aside0.mk ((hb.block b2 (by have := H29.out; have := H910.out; omega)).trans HX8.out); have HN9 := Aside0.mk ((hb.block b9 H910.out).trans HN8.out); have HB9 := Aside0.mk (HB8.out.trans (hb.mono (by have := HG2.out; have := H29.out; have := H910.out; omega))); obtain ⟨n9, hn9⟩ : ∃ n, ns.length = n := ⟨_, rfl⟩; have HL9 := Aside0.mk hn9; rw [hn9]; obtain ⟨x0, x1, x2, x3, x4⟩ := cc5_ HX9.out; obtain ⟨f0, f1, f2, f3, f4⟩ := cf5_ HX9.out; have hlen : ¬ ((4 : Int) < (n9 : Int)) := (by have := H4.out; omega); have HL4 : Aside0 (n9 ≤ 4) := ⟨by have := H4.out; omega⟩;clear hb hR hT hc9 hr9 hn9 t0) | ((with_reducible refine gate_builtin (b := .copy) (xs := #[.tmp 38, .tmp 39]) rfl ?_); refine wpList_copy_splice rfl (.tmp 38) (.tmp 39) 78 78 rfl 3 Tryz.underlying78 (by kernel_rfl) _ _ _ _ _ _ rfl rfl b9 0 (nums .i64 (List.replicate 4 0)) 110 ?hg (nums .i64 ns) ?hn ?hpos ?hfit ?h1 b9 _ (Below.refl _ _) (Nat.le_refl _) ?_; (case hg => exact HN9.out); (case hn => rw [nums_length]; have := HL9.out; have := HL4.out; show _ = min _ _; omega); (case hpos => intro hps; rw [nums_length] at hps; exact ⟨rfl, C_cells64 HR9.out hps⟩); (case hfit => rw [nums_length, nums_length]; have := HL9.out; have := HL4.out; simp; omega); (case h1 => intro v hv; obtain ⟨x, _, rfl⟩ := List.mem_map.1 hv; rfl); intro w10 hg10 hb10; rw [splice4 ns (by rw [HL9.out]; exact HL4.out)] at hg10; obtain ⟨n0, n1, n2, n3⟩ := nums_at (show w10.heap[b9]? = some (.cells (nums .i64 (pad4 ns)).toArray 110 (0, 0)) from hg10) (pad4_len ns (by rw [HL9.out]; exact HL4.out)); have HX10 := Aside0.mk ((hb10.block b2 H29.out).trans HX9.out); have HB10 := Aside0.mk (HB9.out.trans (hb10.mono (by have := HG2.out; have := H29.out; omega))); rw [P0.out] at n0; rw [P1.out] at n1; rw [P2.out] at n2; rw [P3.out] at n3; clear hg10 hb10 x0 x1 x2 x3 x4 f0 f1 f2 f3 f4) | ((with_reducible refine gd_ 12 rfl ?_); refine bx_ 12 rfl #[.int .i64 0, .int .i64 0, .int .i64 0, .int .i64 0, .int .i64 0] 65 ?_; intro b12 hg w13 hbox hb; have HX13 := Aside0.mk (blk_below HX10.out hb); have HN13 := Aside0.mk hbox; obtain ⟨m0, m1, m2, m3, m4⟩ := cc5_ hbox; obtain ⟨q0, q1, q2, q3, q4⟩ := cf5_ hbox; have H212 := Aside0.mk (show b2 < b12 by rw [hg]; exact blk_lt HX10.out); have HB13 := Aside0.mk (below_step HB10.out hb); clear hb hbox hg) | (go_at_call 67; refine (impl_OpOk.calls k kd p0 p1 p2 p3 true _ HOK.out).mono ?_; rintro e w14 ⟨rfl, hb⟩; have HN14 := Aside0.mk (blk_below (o := .cells #[.int .i64 kd, .int .i64 p0, .int .i64 p1, .int .i64 p2, .int .i64 p3] 65 (0, 0)) (blk5 HN13.out) hb); have HX14 := Aside0.mk (blk_below (far5 HX13.out (by have := H212.out; omega)) hb); clear m0 m1 m2 m3 m4; obtain ⟨m0, m1, m2, m3, m4⟩ := cc5_ HN14.out; obtain ⟨x0, x1, x2, x3, x4⟩ := cc5_ HX14.out; obtain ⟨f0, f1, f2, f3, f4⟩ := cf5_ HX14.out; have HB14 := Aside0.mk (below_step (below5 HB13.out (by have := HG2.out; have := H212.out; omega)) hb); clear hb q0 q1 q2 q3 q4) | (go_at_call 45; refine (impl_OpText.calls k kd p0 p1 p2 p3 tx _ HTX.out (HG.out.belowW HB14.out)).mono ?_; rintro e w15 ⟨rfl, hb⟩; have HN15 := Aside0.mk (blk_below HN14.out hb); have HX15 := Aside0.mk (blk_below HX14.out hb); clear m0 m1 m2 m3 m4 x0 x1 x2 x3 x4 f0 f1 f2 f3 f4; obtain ⟨m0, m1, m2, m3, m4⟩ := cc5_ HN15.out; obtain ⟨x0, x1, x2, x3, x4⟩ := cc5_ HX15.out; obtain ⟨f0, f1, f2, f3, f4⟩ := cf5_ HX15.out; have HB15 := Aside0.mk (below_step HB14.out hb); clear hb))
         refine bodyPost_ret (results_ct rfl _ _ b2 65 #[.int .i64 0, .int .i64 0, .int .i64 0, .int .i64 0, .int .i64 0] (0, 0) _ rfl (blk5 HX15.out) Tryz.underlying65 rfl (by kernel_rfl)) rfl ⟨rfl, below5 HB15.out HG2.out⟩
end Go.Proofs.YtmplnpjdbfedbaaGreatDoor.X
namespace Go.Proofs.YtmplnpjdbfedbaaGreatDoor.X
open Go.RowKit Go.Proofs.YtmplnpjdbfedbaaGreatDoorW.PrintWords Go.Proofs.YtmplnpjdbfedbaaGreatDoorW.PrintLast Go.Proofs.YtmplnpjdbfedbaaGreatDoorW.PrintMore
attribute [local go_sem] max2_int min2_int max_two min_two max_three min_three max_four min_four
set_option linter.unusedVariables false
set_option linter.unusedSimpArgs false
section
def wordF (s p : ByteArray) : ByteArray × Bool := (⟨(Lib.trimPrefix s.data.toList p.data.toList).toArray⟩, Lib.hasPrefix s.data.toList p.data.toList)
def cutF (s p : ByteArray) : ByteArray × ByteArray × Bool := (⟨(Lib.cut s.data.toList p.data.toList).1.toArray⟩, ⟨(Lib.cut s.data.toList p.data.toList).2.1.toArray⟩, (Lib.cut s.data.toList p.data.toList).2.2)
set_option maxHeartbeats 4000000 in
set_option maxRecDepth 100000 in
theorem until_calls (B : Nat) (s p part rest : ByteArray) (ok fl : Bool) (w : World) (hG : Glob w) (hs : s.size ≤ 1048576) (hb : w.heap[B]? = some (.cells #[.string s, .bool fl] 60 (0, 0))) (h : cutF s p = (part, rest, ok)) :
    Calls Tryz.prog 30 #[.pointer (some ⟨B, 0, none⟩), .string p] w fun e w' => e = .returned (.string part) ∧ ∃ m, w' = ((w.drewN m).setCell ⟨B, 0, none⟩ (.string rest)).setCell ⟨B, 1, none⟩ (.bool (fl || !ok)) := by
  obtain ⟨x0, x1⟩ := cells2_at hb
  have y0 := blk_frozen hb 0
  have y1 := blk_frozen hb 1
  have z1 : ∀ m, (w.drewN m).cell? ⟨B, 1, none⟩ = some (.bool fl) := fun m => x1
  have z0 : ∀ m, (w.drewN m).cell? ⟨B, 0, none⟩ = some (.string s) := fun m => x0
  have f0 : ∀ m, (w.drewN m).frozen? ⟨B, 0, none⟩ = false := fun m => y0
  have f1 : ∀ m, (w.drewN m).frozen? ⟨B, 1, none⟩ = false := fun m => y1
  have HC : Aside0 (Calls Tryz.prog 62 #[.string s, .string p] w fun e w' => e = .returned (.tuple #[.string part, .string rest, .bool ok]) ∧ ∃ n, w' = w.drewN n) := ⟨by
    obtain ⟨m, hm⟩ := hG.max
    refine (Tryz.strings_Cut s p m w (by omega) hm).mono ?_
    rintro e w' ⟨rfl, n, rfl⟩
    obtain ⟨e1, e2, e3⟩ : (⟨(Lib.cut s.data.toList p.data.toList).1.toArray⟩ : ByteArray) = part ∧ (⟨(Lib.cut s.data.toList p.data.toList).2.1.toArray⟩ : ByteArray) = rest ∧ (Lib.cut s.data.toList p.data.toList).2.2 = ok := by
      unfold cutF at h
      simp only [Prod.mk.injEq] at h
      exact h
    rw [e1, e2, e3]
    exact ⟨rfl, n, rfl⟩⟩
  clear hG hs h hb
  cases fl with
  | true =>
    go_enter Tryz.func30, Tryz.ntmps30
    go_wp2_with (go_at_call 62; refine HC.out.mono ?_; rintro e w2 ⟨rfl, ⟨m, rfl⟩⟩)
    go_ret
    exact ⟨rfl, m, rfl⟩
  | false =>
    go_enter Tryz.func30, Tryz.ntmps30
    go_wp2_with (go_at_call 62; refine HC.out.mono ?_; rintro e w2 ⟨rfl, ⟨m, rfl⟩⟩)
    go_ret
    exact ⟨rfl, m, rfl⟩
set_option maxHeartbeats 4000000 in
set_option maxRecDepth 100000 in
theorem word_calls (B : Nat) (s p rest : ByteArray) (ok fl : Bool) (w : World) (hb : w.heap[B]? = some (.cells #[.string s, .bool fl] 60 (0, 0))) (h : wordF s p = (rest, ok)) :
    Calls Tryz.prog 29 #[.pointer (some ⟨B, 0, none⟩), .string p] w fun e w' => e = .returned (.tuple #[]) ∧ w' = (w.setCell ⟨B, 0, none⟩ (.string rest)).setCell ⟨B, 1, none⟩ (.bool (fl || !ok)) := by
  obtain ⟨x0, x1⟩ := cells2_at hb
  have y0 := blk_frozen hb 0
  have y1 := blk_frozen hb 1
  have HC : Aside0 (Calls Tryz.prog 61 #[.string s, .string p] w fun e w' => e = .returned (.tuple #[.string rest, .bool ok]) ∧ w' = w) := ⟨by
    refine (Tryz.strings_CutPrefix s p w).mono ?_
    rintro e w' ⟨rfl, hw⟩
    unfold wordF at h
    simp only [Prod.mk.injEq] at h
    rw [h.1, h.2]
    exact ⟨rfl, hw⟩⟩
  clear h hb
  cases fl with
  | true =>
    go_enter Tryz.func29, Tryz.ntmps29
    go_wp2_with (go_at_call 61; refine HC.out.mono ?_; rintro e w2 ⟨rfl, rfl⟩)
    refine bodyPost_end (results_none Tryz.results29 _ _ _) rfl ⟨rfl, rfl⟩
  | false =>
    go_enter Tryz.func29, Tryz.ntmps29
    go_wp2_with (go_at_call 61; refine HC.out.mono ?_; rintro e w2 ⟨rfl, rfl⟩)
    refine bodyPost_end (results_none Tryz.results29 _ _ _) rfl ⟨rfl, rfl⟩
set_option maxHeartbeats 4000000 in
set_option maxRecDepth 100000 in
theorem clone_calls (s : ByteArray) (w : World) (hs : s.size ≤ 1048576) :
    Calls Tryz.prog 33 #[.string s] w fun e w' => e = .returned (.string s) ∧ Below w.heap.size w w' := by
  have HS := Aside0.mk hs; clear hs
  go_enter Tryz.func33, Tryz.ntmps33
  go_wp2_with (go_at_call 68; refine (Tryz.stringslite_Clone s _ (by have := HS.out; omega)).mono ?_; rintro e w2 ⟨rfl, hb⟩; have HB := Aside0.mk hb; clear hb)
  go_ret
  exact ⟨rfl, HB.out⟩
theorem keep5 {w W : World} {g b : Nat} {row : Option Nat} {c0 c1 c2 c3 c4 : Value} (h : KeepBut w W g row) (hb : w.heap.size ≤ b) : KeepBut w (((((W.setCell ⟨b, 0, none⟩ c0).setCell ⟨b, 1, none⟩ c1).setCell ⟨b, 2, none⟩ c2).setCell ⟨b, 3, none⟩ c3).setCell ⟨b, 4, none⟩ c4) g row :=
  keep_far (p := ⟨b, 4, none⟩) (keep_far (p := ⟨b, 3, none⟩) (keep_far (p := ⟨b, 2, none⟩) (keep_far (p := ⟨b, 1, none⟩) (keep_far (p := ⟨b, 0, none⟩) h hb _) hb _) hb _) hb _) hb _
theorem keep_below {w W : World} {g : Nat} (h : Below w.heap.size w W) : KeepBut w W g none := ⟨h.size, fun i hi _ _ => h.block i hi⟩
set_option maxHeartbeats 4000000 in
set_option maxRecDepth 100000 in
theorem scanOp_calls (k B : Nat) (rest : ByteArray) (fl : Bool) (s : ByteArray) (o a b c d : Int) (ok : Bool) (w : World) (hG : Glob w) (hb : w.heap[B]? = some (.cells #[.string rest, .bool fl] 60 (0, 0))) (h : impl_OpRead.f k s = some (o, a, b, c, d, ok)) :
    Calls Tryz.prog 64 #[.pointer (some ⟨B, 0, none⟩), .string s, .func (.func 32) #[] #[]] w fun e w' => e = .returned (.agg #[.int .i64 o, .int .i64 a, .int .i64 b, .int .i64 c, .int .i64 d]) ∧ w'.heap[B]? = some (.cells #[.string rest, .bool (fl || !ok)] 60 (0, 0)) ∧ KeepBut w w' B none ∧ Below B w w' := by
  have hBl := blk_lt hb
  have H := Aside0.mk h; have HG := Aside0.mk hG; have HB := Aside0.mk hb; have HL := Aside0.mk hBl
  have hu := Tryz.underlying65
  have hz : ∀ w : World, (zeroValue 65).run Tryz.prog w = .ok (.agg #[.int .i64 0, .int .i64 0, .int .i64 0, .int .i64 0, .int .i64 0]) w := fun w => by kernel_rfl
  clear h hG hb hBl
  have henter : ∀ (args : Array Value) (W : World), (callFunc 32 args).run Tryz.prog W = .ok (.enter 32 args) W := fun args W => enters_ Tryz.func32 (by kernel_rfl) rfl args W
  go_enter Tryz.func64, Tryz.ntmps64
  go_upto_region 2 with (first
    | ((with_reducible refine gd_ 6 rfl ?_); refine bx_ 6 rfl #[.int .i64 0, .int .i64 0, .int .i64 0, .int .i64 0, .int .i64 0] 65 ?_; intro b6 hg w2 hbox hb; have H6 := Aside0.mk hbox; have HB2 := Aside0.mk hb; have HG6 := Aside0.mk (show w.heap.size ≤ b6 by rw [hg]; exact Nat.le_refl _); clear hb hbox hg)
    | ((with_reducible refine gd_ 7 rfl ?_); refine bx_ 7 rfl #[.int .i64 0, .int .i64 0, .int .i64 0, .int .i64 0, .int .i64 0] 65 ?_; intro b7 hg w4 hbox hb; have H7 := Aside0.mk hbox; have H64 := Aside0.mk (blk_below H63.out hb); have HB4 := Aside0.mk (below_step HB3.out hb); have HG7 := Aside0.mk (show w.heap.size ≤ b7 by rw [hg]; exact HB3.out.size); have N67 := Aside0.mk (show b6 ≠ b7 by rw [hg]; exact Nat.ne_of_lt (blk_lt H63.out)); obtain ⟨x0, x1, x2, x3, x4⟩ := cc5_ hbox; obtain ⟨f0, f1, f2, f3, f4⟩ := cf5_ hbox; clear hb hbox hg)
    | (go_at_call 32; refine (impl_OpRead.calls k s o a b c d ok _ H.out (HG.out.belowW HB2.out)).mono ?_; rintro e w3 ⟨rfl, hb⟩; have H63 := Aside0.mk (blk_below H6.out hb); have HB3 := Aside0.mk (below_step HB2.out hb); clear hb))
  generalize hw5 : (((((w4.setCell ⟨b7, 0, none⟩ (.int .i64 o)).setCell ⟨b7, 1, none⟩ (.int .i64 a)).setCell ⟨b7, 2, none⟩ (.int .i64 b)).setCell ⟨b7, 3, none⟩ (.int .i64 c)).setCell ⟨b7, 4, none⟩ (.int .i64 d)) = w5
  have H75 : Aside0 (w5.heap[b7]? = some (.cells #[.int .i64 o, .int .i64 a, .int .i64 b, .int .i64 c, .int .i64 d] 65 (0, 0))) := ⟨by rw [← hw5]; exact blk5 H7.out⟩
  have H65 : Aside0 (w5.heap[b6]? = some (.cells #[.int .i64 0, .int .i64 0, .int .i64 0, .int .i64 0, .int .i64 0] 65 (0, 0))) := ⟨by rw [← hw5]; exact far5 H64.out N67.out⟩
  have HB5 : Aside0 (Below w.heap.size w w5) := ⟨by rw [← hw5]; exact below5 HB4.out HG7.out⟩
  clear hw5 x0 x1 x2 x3 x4 f0 f1 f2 f3 f4 henter
  have HT5 := Aside0.mk (blk_below HB.out HB5.out)
  obtain ⟨t0, t1⟩ := cells2_at HT5.out
  have u1 := blk_frozen HT5.out 1
  have key : Aside0 (∀ W : World, W = w5.setCell ⟨B, 1, none⟩ (.bool (fl || !ok)) → W.heap[B]? = some (.cells #[.string rest, .bool (fl || !ok)] 60 (0, 0)) ∧ W.heap[b7]? = some (.cells #[.int .i64 o, .int .i64 a, .int .i64 b, .int .i64 c, .int .i64 d] 65 (0, 0)) ∧ W.heap[b6]? = some (.cells #[.int .i64 0, .int .i64 0, .int .i64 0, .int .i64 0, .int .i64 0] 65 (0, 0)) ∧ KeepBut w W B none ∧ Below B w W) := ⟨by
    rintro W rfl
    have nB7 : b7 ≠ B := by have := HG7.out; have := HL.out; omega
    have nB6 : b6 ≠ B := by have := HG6.out; have := HL.out; omega
    exact ⟨blk_set HT5.out 1 _, blk_far (p := ⟨B, 1, none⟩) H75.out nB7 _, blk_far (p := ⟨B, 1, none⟩) H65.out nB6 _, (keep_below HB5.out).set_ 1 _, (HB5.out.mono (Nat.le_of_lt HL.out)).setCell (p := ⟨B, 1, none⟩) (Nat.le_refl _) _⟩⟩
  cases fl <;> (
    go_upto_region 3 with (fail)
    generalize hw6 : w5.setCell ⟨B, 1, none⟩ _ = w6
    obtain ⟨hT6, h76, h66, hK6, hB6⟩ := key.out w6 hw6.symm
    have HT6 := Aside0.mk hT6; have H66 := Aside0.mk h66; have HK6 := Aside0.mk hK6; have HB6 := Aside0.mk hB6
    obtain ⟨x0, x1, x2, x3, x4⟩ := cc5_ h76
    obtain ⟨z0, z1, z2, z3, z4⟩ := cc5_ h66
    obtain ⟨q0, q1, q2, q3, q4⟩ := cf5_ h66
    clear hw6 t0 t1 u1 hT6 h66 h76 hK6 hB6
    go_wp2
    refine bodyPost_ret (results_cell_row Tryz.results64 _ _ b6 65 #[.int .i64 o, .int .i64 a, .int .i64 b, .int .i64 c, .int .i64 d] (0, 0) _ rfl (blk5 H66.out) Tryz.underlying65 rfl (by kernel_rfl)) rfl ⟨rfl, ?_, ?_, ?_⟩
    · exact far5 HT6.out (by have := HG6.out; have := HL.out; omega)
    · exact keep5 HK6.out HG6.out
    · exact below5 HB6.out (Nat.le_of_lt (Nat.lt_of_lt_of_le HL.out HG6.out)))
end
section
def GlobLt (B : Nat) : Prop := 6 ≤ B
theorem Glob.lt {w : World} (h : Glob w) : GlobLt w.heap.size := h.two
theorem GlobLt.mono {B C : Nat} (h : GlobLt B) (hc : B ≤ C) : GlobLt C := Nat.le_trans h hc
theorem Glob.belowB {B : Nat} {w w' : World} (h : Glob w) (hl : GlobLt B) (hb : Below B w w') : Glob w' := h.below hl hb
def scanG (k : Nat) : List ByteArray → Bool → Option (List (S65) × Bool)
  | [], fl => some ([], fl)
  | p :: ps, fl => (impl_OpRead.f k p).bind fun r => (scanG k ps (fl || !r.2.2.2.2.2)).bind fun x => some (⟨r.1, r.2.1, r.2.2.1, r.2.2.2.1, r.2.2.2.2.1⟩ :: x.1, x.2)
set_option maxHeartbeats 4000000 in
set_option maxRecDepth 100000 in
theorem scanOps_calls (k B : Nat) (rest s sep : ByteArray) (f0 : Bool) (ns : List (S65)) (fl : Bool) (w : World) (hG : Glob w) (hGL : GlobLt B) (hs : s.size ≤ 1048576) (h1 : 1 ≤ sep.size) (hb : w.heap[B]? = some (.cells #[.string rest, .bool f0] 60 (0, 0))) (h : scanG k (partsB s sep) f0 = some (ns, fl)) :
    Calls Tryz.prog 31 #[.pointer (some ⟨B, 0, none⟩), .string s, .string sep, .func (.func 32) #[] #[]] w fun e w' => ∃ v, e = .returned v ∧ Kd.R k65 65 w' B (fun j => w.heap.size ≤ j) v ns ∧ w'.heap[B]? = some (.cells #[.string rest, .bool fl] 60 (0, 0)) ∧ KeepBut w w' B none ∧ Below B w w' := by
  have hBl := blk_lt hb
  obtain ⟨ps, hps⟩ : ∃ ps, partsB s sep = ps := ⟨_, rfl⟩
  have hple := partsB_le s sep h1
  rw [hps] at h hple
  obtain ⟨P, hP⟩ : ∃ P, w.heap.size = P := ⟨_, rfl⟩
  have HPS := Aside0.mk hps; have HG := Aside0.mk hG; have HGL := Aside0.mk hGL; have HS := Aside0.mk hs; have H1 := Aside0.mk h1; have HB := Aside0.mk hb; have H := Aside0.mk h; have HL := Aside0.mk hple; have HPq := Aside0.mk hP; have HBP := Aside0.mk (show B < P by omega)
  clear hps hG hGL hs h1 hb h hple hP hBl
  obtain ⟨n, hn⟩ : ∃ n, ps.length = n := ⟨_, rfl⟩
  have HN := Aside0.mk hn
  have hn2 : (n : Int) ≤ 1048577 := by have := HL.out; have := HS.out; omega
  clear hn
  go_enter Tryz.func31, Tryz.ntmps31
  go_wp2_with (go_at_call 63; refine (split_calls s sep _ HG.out HS.out H1.out).mono ?_; rintro e w2 ⟨rfl, hw2⟩; rw [HPS.out, HN.out, HPq.out]; have HW := Aside0.mk hw2; clear hw2)
  have HP2 : Aside0 (w2.heap[P]? = some (.cells (ps.map Value.string).toArray 9 (0, 0))) := ⟨by rw [HW.out, HPS.out, ← HPq.out]; exact heap_alloc_new _ _⟩
  have HB2 : Aside0 (w2.heap[B]? = some (.cells #[.string rest, .bool f0] 60 (0, 0))) := ⟨by rw [HW.out]; exact blk_below HB.out ((Below.refl _ _).alloc (Nat.le_refl _) _)⟩
  have HBel : Aside0 (Below B w w2) := ⟨by rw [HW.out]; exact (Below.refl _ _).alloc (by rw [HPq.out]; exact Nat.le_of_lt HBP.out) _⟩
  have HKp : Aside0 (KeepBut w w2 B none) := ⟨by rw [HW.out]; exact keep_below ((Below.refl _ _).alloc (Nat.le_refl _) _)⟩
  clear HW HB
  go_loopg [9, 16] n (fun kq v9 v16 w' => ∃ (i : Nat) (acc ms : List (S65)) (fi : Bool), kq + i = n ∧ v16 = .int .i64 i ∧ Aside0 (scanG k (ps.drop i) fi = some (ms, fl)) ∧ Aside0 (acc ++ ms = ns) ∧ Aside0 (acc.length = i) ∧ Aside0 (Kd.R k65 65 w' B (fun j => P < j) v9 acc) ∧ Aside0 (w'.heap[B]? = some (.cells #[.string rest, .bool fi] 60 (0, 0))) ∧ Aside0 (w'.heap[P]? = some (.cells (ps.map Value.string).toArray 9 (0, 0))) ∧ Aside0 (Below B w w') ∧ Aside0 (KeepBut w w' B none))
  case atStart => exact ⟨0, [], ns, f0, by omega, rfl, H, Aside0.mk rfl, Aside0.mk rfl, Aside0.mk (Kd.R_nil _ _ _ _ _), HB2, HP2, HBel, HKp⟩
  case round =>
    clear H HB2 HP2 HBel HKp
    obtain ⟨i, acc, ms, fi, hk, rfl, H, HA, HAL, HR, HBi, HPi, HBel, HKp⟩ := hrel
    by_cases hi : i < n
    · have hi2 : i < ps.length := by rw [HN.out]; exact hi
      obtain ⟨p, hp⟩ : ∃ p, ps[i]? = some p := ⟨_, List.getElem?_eq_getElem hi2⟩
      have hd : ps.drop i = p :: ps.drop (i + 1) := by
        rw [List.drop_eq_getElem_cons hi2]
        congr 1
        rw [List.getElem?_eq_getElem hi2] at hp
        exact Option.some.inj hp
      have x := partR_at HPi.out hp
      have H2 := H.out
      rw [hd, scanG] at H2
      obtain ⟨⟨qo, qa, qb, qc, qd, ok⟩, hq, H2⟩ := Option.bind_eq_some_iff.1 H2
      obtain ⟨⟨ms2, fl2⟩, hm, H2⟩ := Option.bind_eq_some_iff.1 H2
      obtain ⟨rfl, rfl⟩ := Prod.mk.inj (Option.some.inj H2)
      have HQ := Aside0.mk hq; have HM := Aside0.mk hm
      clear hi2 hp hd H2 hq hm H
      have hin : (i : Int) < (n : Int) := by omega
      go_wp2_with (first
        | (go_at_call 64; refine (scanOp_calls k B rest fi p qo qa qb qc qd ok _ (HG.out.belowB HGL.out HBel.out) HBi.out HQ.out).mono ?_; rintro e w3 ⟨rfl, hT, hK, hBe⟩; have HB3 := Aside0.mk hT; have HP3 := Aside0.mk ((hK.2 P (blk_lt HPi.out) (by have := HBP.out; omega) (by simp)).trans HPi.out); have HR3 := Aside0.mk (Kd.R_keep HR.out hK (fun j hj => by have := HBP.out; omega)); have HBel3 := Aside0.mk (HBel.out.trans hBe); have HKp3 := Aside0.mk (HKp.out.trans hK (.inl rfl)); clear hT hK hBe)
        | ((with_reducible refine gate_builtin (b := .append) (xs := #[.tmp 20, .tmp 25]) rfl ?_); at_builtin; refine Kd.R_append k65 (w0 := w) B rfl (.tmp 20) (.tmp 25) 23 65 (.agg #[.int .i64 0, .int .i64 0, .int .i64 0, .int .i64 0, .int .i64 0]) 40 rfl Tryz.underlying23 info65 rfl (by decide) (by omega) u9 acc (⟨qo, qa, qb, qc, qd⟩ : S65) [.int .i64 qo, .int .i64 qa, .int .i64 qb, .int .i64 qc, .int .i64 qd] (fun j => P < j) (fun _ => False) rfl rfl ?aP (fun _ hk => hk.elim) ?aF ?aO ?aB ?aS ?aL ?_; (case aP => exact k65_mkM _ _ _ _); (case aB => exact HBel3.out); (case aF => intro j hj; have := blk_lt HP3.out; show P < j; omega); (case aO => exact HR3.out); (case aS => have := blk_lt HB3.out; omega); (case aL => have := HAL.out; omega); intro v1 w4 ho hb hg hat; have HR4 := Aside0.mk ho; have HBel4 := Aside0.mk hb; have hown := HR3.out.1; have HB4 : Aside0 (w4.heap[B]? = some (.cells #[.string rest, .bool (fi || !ok)] 60 (0, 0))) := ⟨(hg.block B (blk_lt HB3.out) (fun h => absurd (hown B h.symm) (by have := HBP.out; omega))).trans HB3.out⟩; have HP4 : Aside0 (w4.heap[P]? = some (.cells (ps.map Value.string).toArray 9 (0, 0))) := ⟨(hg.block P (blk_lt HP3.out) (fun h => absurd (hown P h.symm) (by omega))).trans HP3.out⟩; have HKp4 : Aside0 (KeepBut w w4 B none) := ⟨⟨Nat.le_trans HKp3.out.1 hg.size, fun i hi hne hr => (hg.block i (Nat.lt_of_lt_of_le hi HKp3.out.1) (fun h => absurd (hown i h.symm) (by have := HPq.out; omega))).trans (HKp3.out.2 i hi hne hr)⟩⟩; clear ho hb hg hat hown))
      go_roundg (gk - 1)
      case measure => omega
      case rel => exact ⟨i + 1, acc ++ [⟨qo, qa, qb, qc, qd⟩], ms2, fi || !ok, by omega, by first | rfl | (simp; done) | (unfold wrap64; simp; omega), HM, Aside0.mk (by rw [← HA.out, List.append_assoc]; rfl), Aside0.mk (by rw [List.length_append, HAL.out]; rfl), HR4, HB4, HP4, HBel4, HKp4⟩
    · have hin : ¬ ((i : Int) < (n : Int)) := by omega
      have hlast : ms = [] ∧ fi = fl := by
        have H2 := H.out
        rw [List.drop_of_length_le (by rw [HN.out]; omega), scanG] at H2
        obtain ⟨e1, e2⟩ := Prod.mk.inj (Option.some.inj H2)
        exact ⟨e1.symm, e2⟩
      obtain ⟨rfl, rfl⟩ := hlast
      have e := HA.out
      rw [List.append_nil] at e
      subst e
      go_wp2
      go_ret
      exact ⟨_, rfl, Kd.R_mono HR.out (fun j h => by have := HPq.out; omega), HBi.out, HKp.out, HBel.out⟩
end
end Go.Proofs.YtmplnpjdbfedbaaGreatDoor.X
namespace Go.Proofs.YtmplnpjdbfedbaaGreatDoor.X
open Go.RowKit Go.Proofs.YtmplnpjdbfedbaaGreatDoorW.PrintWords Go.Proofs.YtmplnpjdbfedbaaGreatDoorW.PrintLast Go.Proofs.YtmplnpjdbfedbaaGreatDoorW.PrintMore
attribute [local go_sem] max2_int min2_int max_two min_two max_three min_three max_four min_four
set_option linter.unusedVariables false
set_option linter.unusedSimpArgs false
abbrev AskR := List (S65) × ByteArray × Int × Bool
def zA : AskR := ([], ⟨#[]⟩, 0, false)
def askEnd (k : Nat) (s : ByteArray) (l : List (S65)) (path : ByteArray) (n : Int) : Option AskR := (impl_AskOk.f k l path n).bind fun t => if t = true then (impl_AskText.f k l path n).bind fun x => if x.toList = s.toList then some (l, path, n, true) else some zA else some zA
def askMid (k : Nat) (s ops r1 : ByteArray) (f1 : Bool) : Option AskR := (if ops.toList = [45] then some ([], f1) else scanG k (partsB ops ⟨#[44]⟩) f1).bind fun x => (impl_numberRead.f k (cutF r1 ⟨#[63, 101, 61]⟩).2.1).bind fun y => if ((x.2 || !(cutF r1 ⟨#[63, 101, 61]⟩).2.2) || !y.2) = true then some zA else askEnd k s x.1 (cutF r1 ⟨#[63, 101, 61]⟩).1 y.1
def impl_AskRead.f (k : Nat) (a0 : ByteArray) : Option (List (S65) × ByteArray × Int × Bool) := if 200 < a0.size then some zA else
 if (wordF a0 ⟨#[47]⟩).1.size ≤ 1048576 ∧ (cutF (wordF a0 ⟨#[47]⟩).1 ⟨#[47]⟩).1.size ≤ 1048576 ∧ (cutF (wordF a0 ⟨#[47]⟩).1 ⟨#[47]⟩).2.1.size ≤ 1048576 ∧ (cutF (cutF (wordF a0 ⟨#[47]⟩).1 ⟨#[47]⟩).2.1 ⟨#[63, 101, 61]⟩).1.size ≤ 1048576 then askMid k a0 (cutF (wordF a0 ⟨#[47]⟩).1 ⟨#[47]⟩).1 (cutF (wordF a0 ⟨#[47]⟩).1 ⟨#[47]⟩).2.1 ((false || !(wordF a0 ⟨#[47]⟩).2) || !(cutF (wordF a0 ⟨#[47]⟩).1 ⟨#[47]⟩).2.2) else none
section
variable {w w0 : World} {g b B : Nat} {t : TypeId} {a0 a1 a2 c0 c1 c2 : Value} {cs : Array Value}
theorem blk3 (h : w.heap[g]? = some (.cells #[a0, a1, a2] t (0, 0))) : (((w.setCell ⟨g, 0, none⟩ c0).setCell ⟨g, 1, none⟩ c1).setCell ⟨g, 2, none⟩ c2).heap[g]? = some (.cells #[c0, c1, c2] t (0, 0)) :=
 blk_set (blk_set (blk_set h 0 _) 1 _) 2 _
theorem below3 (h : Below B w0 w) (hb : B ≤ b) : Below B w0 (((w.setCell ⟨b, 0, none⟩ c0).setCell ⟨b, 1, none⟩ c1).setCell ⟨b, 2, none⟩ c2) :=
 ((h.setCell (p := ⟨b, 0, none⟩) hb _).setCell (p := ⟨b, 1, none⟩) hb _).setCell (p := ⟨b, 2, none⟩) hb _
end
theorem tup4 {a a' : List (S65)} {b b' : ByteArray} {c c' : Int} {d d' : Bool} (h : some (a, b, c, d) = some (a', b', c', d')) : a = a' ∧ b = b' ∧ c = c' ∧ d = d' := by
 have := Option.some.inj h
 simp only [Prod.mk.injEq] at this
 exact this
structure AskW (w W : World) (b2 b4 b6 : Nat) (rest : ByteArray) (fl : Bool) (v : Value) (path : ByteArray) (n : Int) : Prop where
 h2 : W.heap[b2]? = some (.cells #[.slice none 0 0, .string ⟨#[]⟩, .int .i64 0] 25 (0, 0))
 h4 : W.heap[b4]? = some (.cells #[.string rest, .bool fl] 60 (0, 0))
 h6 : W.heap[b6]? = some (.cells #[v, .string path, .int .i64 n] 25 (0, 0))
 l2 : w.heap.size ≤ b2
 l4 : b2 < b4
 l6 : b4 < b6
 bel : Below w.heap.size w W
section
variable {w W W' : World} {b2 b4 b6 : Nat} {rest : ByteArray} {fl : Bool} {v : Value} {path : ByteArray} {n : Int}
theorem AskW.below (h : AskW w W b2 b4 b6 rest fl v path n) (hb : Below W.heap.size W W') : AskW w W' b2 b4 b6 rest fl v path n := ⟨blk_below h.h2 hb, blk_below h.h4 hb, blk_below h.h6 hb, h.l2, h.l4, h.l6, below_step h.bel hb⟩
theorem AskW.set4 (h : AskW w W b2 b4 b6 rest fl v path n) (r' : ByteArray) (f' : Bool) : AskW w ((W.setCell ⟨b4, 0, none⟩ (.string r')).setCell ⟨b4, 1, none⟩ (.bool f')) b2 b4 b6 r' f' v path n := by
 have h1 := h.l2; have h3 := h.l4; have h5 := h.l6
 exact ⟨blk_far (p := ⟨b4, 1, none⟩) (blk_far (p := ⟨b4, 0, none⟩) h.h2 (by show b2 ≠ b4; omega) _) (by show b2 ≠ b4; omega) _, blk_set (blk_set h.h4 0 _) 1 _, blk_far (p := ⟨b4, 1, none⟩) (blk_far (p := ⟨b4, 0, none⟩) h.h6 (by show b6 ≠ b4; omega) _) (by show b6 ≠ b4; omega) _, h.l2, h.l4, h.l6, (h.bel.setCell (p := ⟨b4, 0, none⟩) (by show w.heap.size ≤ b4; omega) _).setCell (p := ⟨b4, 1, none⟩) (by show w.heap.size ≤ b4; omega) _⟩
theorem AskW.flag (h : AskW w W b2 b4 b6 rest fl v path n) (f' : Bool) : AskW w (W.setCell ⟨b4, 1, none⟩ (.bool f')) b2 b4 b6 rest f' v path n := by
 have h1 := h.l2; have h3 := h.l4; have h5 := h.l6
 exact ⟨blk_far (p := ⟨b4, 1, none⟩) h.h2 (by show b2 ≠ b4; omega) _, blk_set h.h4 1 _, blk_far (p := ⟨b4, 1, none⟩) h.h6 (by show b6 ≠ b4; omega) _, h.l2, h.l4, h.l6, h.bel.setCell (p := ⟨b4, 1, none⟩) (by show w.heap.size ≤ b4; omega) _⟩
theorem AskW.set6 (h : AskW w W b2 b4 b6 rest fl v path n) (v' : Value) : AskW w (W.setCell ⟨b6, 0, none⟩ v') b2 b4 b6 rest fl v' path n := by
 have h1 := h.l2; have h3 := h.l4; have h5 := h.l6
 exact ⟨blk_far (p := ⟨b6, 0, none⟩) h.h2 (by show b2 ≠ b6; omega) _, blk_far (p := ⟨b6, 0, none⟩) h.h4 (by show b4 ≠ b6; omega) _, blk_set h.h6 0 _, h.l2, h.l4, h.l6, h.bel.setCell (p := ⟨b6, 0, none⟩) (by show w.heap.size ≤ b6; omega) _⟩
theorem AskW.setP (h : AskW w W b2 b4 b6 rest fl v path n) (p' : ByteArray) : AskW w (W.setCell ⟨b6, 1, none⟩ (.string p')) b2 b4 b6 rest fl v p' n := by
 have h1 := h.l2; have h3 := h.l4; have h5 := h.l6
 exact ⟨blk_far (p := ⟨b6, 1, none⟩) h.h2 (by show b2 ≠ b6; omega) _, blk_far (p := ⟨b6, 1, none⟩) h.h4 (by show b4 ≠ b6; omega) _, blk_set h.h6 1 _, h.l2, h.l4, h.l6, h.bel.setCell (p := ⟨b6, 1, none⟩) (by show w.heap.size ≤ b6; omega) _⟩
theorem AskW.setN (h : AskW w W b2 b4 b6 rest fl v path n) (n' : Int) : AskW w (W.setCell ⟨b6, 2, none⟩ (.int .i64 n')) b2 b4 b6 rest fl v path n' := by
 have h1 := h.l2; have h3 := h.l4; have h5 := h.l6
 exact ⟨blk_far (p := ⟨b6, 2, none⟩) h.h2 (by show b2 ≠ b6; omega) _, blk_far (p := ⟨b6, 2, none⟩) h.h4 (by show b4 ≠ b6; omega) _, blk_set h.h6 2 _, h.l2, h.l4, h.l6, h.bel.setCell (p := ⟨b6, 2, none⟩) (by show w.heap.size ≤ b6; omega) _⟩
end
set_option maxHeartbeats 8000000 in
set_option maxRecDepth 100000 in
theorem impl_AskRead.calls (k : Nat) (a0 : ByteArray) (r1 : List (S65)) (r2 : ByteArray) (r3 : Int) (r4 : Bool) (w : World) (h : impl_AskRead.f k a0 = some (r1, r2, r3, r4)) (hG : Glob w) :
  Calls Tryz.prog 13 #[.string a0] w fun e w' => ∃ v0_ : Value, e = .returned (.tuple #[.agg #[v0_, .string r2, .int .i64 r3], .bool r4]) ∧ Kd.R k65 65 w' w.heap.size (fun _ => True) v0_ r1 ∧ Below w.heap.size w w' := by
 have HG := Aside0.mk hG; clear hG; have hu := Tryz.underlying25; have hz : ∀ w : World, (zeroValue 25).run Tryz.prog w = .ok (.agg #[.slice none 0 0, .string ⟨#[]⟩, .int .i64 0]) w := fun w => (by kernel_rfl); have hzt : ∀ w : World, (zeroValue 60).run Tryz.prog w = .ok (.agg #[.string ⟨#[]⟩, .bool false]) w := fun w => (by kernel_rfl)
 unfold impl_AskRead.f at h
 by_cases h200 : 200 < a0.size
 · rw [if_pos h200] at h
   obtain ⟨rfl, rfl, rfl, rfl⟩ := tup4 h; have g2 : (200 : Int) < (a0.size : Int) := (by omega); clear h h200
   go_enter Tryz.func13, Tryz.ntmps13
   go_wp2_with ((with_reducible refine gd_ 2 rfl ?_); refine bx_ 2 rfl #[.slice none 0 0, .string ⟨#[]⟩, .int .i64 0] 25 ?_; intro b2 hg w1 hbox hb; have HX2 := Aside0.mk hbox; have HB2 := Aside0.mk hb; have HG2 := Aside0.mk (show w.heap.size ≤ b2 by rw [hg]; exact Nat.le_refl _); obtain ⟨x0, x1, x2⟩ := cc3_ hbox; obtain ⟨f0, f1_, f2_⟩ := cf3_ hbox; clear hb hbox hg)
   refine bodyPost_ret (results_ct rfl _ _ b2 25 #[.slice none 0 0, .string ⟨#[]⟩, .int .i64 0] (0, 0) _ rfl (blk3 HX2.out) Tryz.underlying25 rfl (by kernel_rfl)) rfl ⟨_, rfl, Kd.R_nil _ _ _ _ _, below3 HB2.out HG2.out⟩
 · rw [if_neg h200] at h
   have g2 : ¬ ((200 : Int) < (a0.size : Int)) := (by omega)
   split at h
   case isFalse => cases h
   rename_i hs
   obtain ⟨⟨r0, ok0⟩, hw0⟩ : ∃ x, wordF a0 ⟨#[47]⟩ = x := ⟨_, rfl⟩
   rw [hw0] at h hs
   dsimp only at h hs
   obtain ⟨⟨ops, q1, ok1⟩, hc1⟩ : ∃ x, cutF r0 ⟨#[47]⟩ = x := ⟨_, rfl⟩
   rw [hc1] at h hs
   dsimp only at h hs
   obtain ⟨⟨path, q2, ok2⟩, hc2⟩ : ∃ x, cutF q1 ⟨#[63, 101, 61]⟩ = x := ⟨_, rfl⟩
   unfold askMid at h
   rw [hc2] at h hs
   dsimp only at h hs
   obtain ⟨f1, hf1⟩ : ∃ f, ((false || !ok0) || !ok1) = f := ⟨_, rfl⟩
   rw [hf1] at h
   obtain ⟨⟨l, f2⟩, hl, hB⟩ := Option.bind_eq_some_iff.1 h; clear h
   dsimp only at hB
   obtain ⟨⟨n, okn⟩, hn, h⟩ := Option.bind_eq_some_iff.1 hB; clear hB
   dsimp only at h
   have HW0 := Aside0.mk hw0; have HC1 := Aside0.mk hc1; have HC2 := Aside0.mk hc2; have HF1 := Aside0.mk hf1; have HL_ := Aside0.mk hl; have HN := Aside0.mk hn; have S0 := Aside0.mk hs.1; have S1 := Aside0.mk hs.2.1; have S2 := Aside0.mk hs.2.2.1; have S3 := Aside0.mk hs.2.2.2; clear hw0 hc1 hc2 hf1 hl hn hs h200
   go_enter Tryz.func13, Tryz.ntmps13
   go_upto_region 4 with (first | ((with_reducible refine gd_ 2 rfl ?_); refine bx_ 2 rfl #[.slice none 0 0, .string ⟨#[]⟩, .int .i64 0] 25 ?_; intro b2 hg w1 hbox hb; have HX2 := Aside0.mk hbox; have HB2 := Aside0.mk hb; have HG2 := Aside0.mk (show w.heap.size ≤ b2 by rw [hg]; exact Nat.le_refl _); obtain ⟨x0, x1, x2⟩ := cc3_ hbox; obtain ⟨f0, f1_, f2_⟩ := cf3_ hbox; clear hb hbox hg) | ((with_reducible refine gd_ 4 rfl ?_); refine bx_ 4 rfl #[.string ⟨#[]⟩, .bool false] 60 ?_; intro b4 hg w3 hbox hb; have HX3 := Aside0.mk (blk_below HX2.out hb); have HT3 := Aside0.mk hbox; have HB3 := Aside0.mk (below_step HB2.out hb); have H24 := Aside0.mk (show b2 < b4 by rw [hg]; exact blk_lt HX2.out); obtain ⟨y0, y1⟩ := cells2_at hbox; have z0 := blk_frozen hbox 0; have z1 := blk_frozen hbox 1; clear hb hbox hg))
   generalize hw4 : (w3.setCell ⟨b4, 0, none⟩ (.string a0)).setCell ⟨b4, 1, none⟩ (.bool false) = w4
   have A4 : Aside0 (w4.heap[b2]? = some (.cells #[.slice none 0 0, .string ⟨#[]⟩, .int .i64 0] 25 (0, 0)) ∧ w4.heap[b4]? = some (.cells #[.string a0, .bool false] 60 (0, 0)) ∧ Below w.heap.size w w4) := ⟨by rw [← hw4]; exact ⟨blk_far (p := ⟨b4, 1, none⟩) (blk_far (p := ⟨b4, 0, none⟩) HX3.out (show b2 ≠ b4 from Nat.ne_of_lt H24.out) _) (show b2 ≠ b4 from Nat.ne_of_lt H24.out) _, blk_set (blk_set HT3.out 0 _) 1 _, (HB3.out.setCell (p := ⟨b4, 0, none⟩) (Nat.le_trans HG2.out (Nat.le_of_lt H24.out)) _).setCell (p := ⟨b4, 1, none⟩) (Nat.le_trans HG2.out (Nat.le_of_lt H24.out)) _⟩⟩; clear hw4 y0 y1 z0 z1 x0 x1 x2 f0 f1_ f2_
   go_upto_region 5 with (go_at_call 29; refine (word_calls b4 a0 ⟨#[47]⟩ r0 ok0 false _ A4.out.2.1 HW0.out).mono ?_; rintro e w5 ⟨rfl, hw5⟩; have A5 : Aside0 (w5.heap[b2]? = some (.cells #[.slice none 0 0, .string ⟨#[]⟩, .int .i64 0] 25 (0, 0)) ∧ w5.heap[b4]? = some (.cells #[.string r0, .bool (false || !ok0)] 60 (0, 0)) ∧ Below w.heap.size w w5) := ⟨by rw [hw5]; exact ⟨blk_far (p := ⟨b4, 1, none⟩) (blk_far (p := ⟨b4, 0, none⟩) A4.out.1 (show b2 ≠ b4 from Nat.ne_of_lt H24.out) _) (show b2 ≠ b4 from Nat.ne_of_lt H24.out) _, blk_set (blk_set A4.out.2.1 0 _) 1 _, (A4.out.2.2.setCell (p := ⟨b4, 0, none⟩) (Nat.le_trans HG2.out (Nat.le_of_lt H24.out)) _).setCell (p := ⟨b4, 1, none⟩) (Nat.le_trans HG2.out (Nat.le_of_lt H24.out)) _⟩⟩; clear hw5)
   go_upto_region 6 with (go_at_call 30; refine (until_calls b4 r0 ⟨#[47]⟩ ops q1 ok1 (false || !ok0) _ (HG.out.belowW A5.out.2.2) S0.out A5.out.2.1 HC1.out).mono ?_; rintro e w6 ⟨rfl, m, hw6⟩; have A6 : Aside0 (w6.heap[b2]? = some (.cells #[.slice none 0 0, .string ⟨#[]⟩, .int .i64 0] 25 (0, 0)) ∧ w6.heap[b4]? = some (.cells #[.string q1, .bool f1] 60 (0, 0)) ∧ Below w.heap.size w w6) := ⟨by rw [hw6, HF1.out]; exact ⟨blk_far (w := (w5.drewN m).setCell ⟨b4, 0, none⟩ _) (p := ⟨b4, 1, none⟩) (blk_far (w := w5.drewN m) (p := ⟨b4, 0, none⟩) A5.out.1 (show b2 ≠ b4 from Nat.ne_of_lt H24.out) _) (show b2 ≠ b4 from Nat.ne_of_lt H24.out) _, blk_set (blk_set (w := w5.drewN m) A5.out.2.1 0 _) 1 _, ((pw_below_drewN A5.out.2.2 m).setCell (p := ⟨b4, 0, none⟩) (Nat.le_trans HG2.out (Nat.le_of_lt H24.out)) _).setCell (p := ⟨b4, 1, none⟩) (Nat.le_trans HG2.out (Nat.le_of_lt H24.out)) _⟩⟩; clear hw6)
   go_upto_region 7 with ((with_reducible refine gd_ 6 rfl ?_); refine bx_ 6 rfl #[.slice none 0 0, .string ⟨#[]⟩, .int .i64 0] 25 ?_; intro b6 hg w7 hbox hb; have HA7 : Aside0 (AskW w w7 b2 b4 b6 q1 f1 (.slice none 0 0) ⟨#[]⟩ 0) := ⟨⟨blk_below A6.out.1 hb, blk_below A6.out.2.1 hb, hbox, HG2.out, H24.out, (by rw [hg]; exact blk_lt A6.out.2.1), below_step A6.out.2.2 hb⟩⟩; clear hb hbox hg)
   by_cases hops : ops.toList = [45]
   · have hl := HL_.out
     rw [if_pos hops] at hl
     simp only [Option.some.injEq, Prod.mk.injEq] at hl
     obtain ⟨rfl, rfl⟩ := hl; have k5 := beq_iff_eq.mpr hops; have k6 := bne_eq_false_iff_eq.mpr hops; clear hops HL_
     go_upto_region 9 with (fail)
     have HA9 := HA7; have HR9 : Aside0 (Kd.R k65 65 w7 b4 (fun j => b6 < j) (.slice none 0 0) []) := ⟨Kd.R_nil _ _ _ _ _⟩; clear k5 k6
     go_upto_region 10 with (first | (go_at_call 30; refine (until_calls b4 q1 ⟨#[63, 101, 61]⟩ path q2 ok2 f1 _ (HG.out.belowW HA9.out.bel) S2.out HA9.out.h4 HC2.out).mono ?_; rintro e wa ⟨rfl, m, hwa⟩; have HAa : Aside0 (AskW w wa b2 b4 b6 q2 (f1 || !ok2) (.slice none 0 0) ⟨#[]⟩ 0) := ⟨by rw [hwa]; exact (HA9.out.below (pw_below_drewN (Below.refl _ _) m)).set4 _ _⟩; have HRa : Aside0 (Kd.R k65 65 wa b4 (fun j => b6 < j) (.slice none 0 0) []) := ⟨by rw [hwa]; exact Kd.R_far (p := ⟨b4, 1, none⟩) (Kd.R_far (p := ⟨b4, 0, none⟩) (Kd.R_drewN HR9.out m) (fun j hj => by have := HA7.out.l6; show j ≠ b4; omega) _) (fun j hj => by have := HA7.out.l6; show j ≠ b4; omega) _⟩; clear hwa) | (go_at_call 33; refine (clone_calls path _ S3.out).mono ?_; rintro e wb ⟨rfl, hb⟩; have HAb := Aside0.mk (HAa.out.below hb); have HRb := Aside0.mk (Kd.R_below HRa.out hb); obtain ⟨y0, y1, y2⟩ := cc3_ HAb.out.h6; obtain ⟨z0, z1, z2⟩ := cf3_ HAb.out.h6; clear hb))
     generalize hwc : wb.setCell ⟨b6, 1, none⟩ (.string path) = wc
     have HAc : Aside0 (AskW w wc b2 b4 b6 q2 (f1 || !ok2) (.slice none 0 0) path 0) := ⟨by rw [← hwc]; exact HAb.out.setP path⟩; have HRc : Aside0 (Kd.R k65 65 wc b4 (fun j => b6 < j) (.slice none 0 0) []) := ⟨by rw [← hwc]; exact Kd.R_far (p := ⟨b6, 1, none⟩) HRb.out (fun j hj => by show j ≠ b6; omega) _⟩; clear hwc y0 y1 y2 z0 z1 z2; obtain ⟨t0, t1⟩ := cells2_at HAc.out.h4
     go_upto_region 11 with (go_at_call 34; refine (scanPart_calls k b4 q2 (f1 || !ok2) q2 n okn _ HAc.out.h4 HN.out).mono ?_; rintro e wd ⟨rfl, m, hwd⟩; have HAd : Aside0 (AskW w wd b2 b4 b6 q2 ((f1 || !ok2) || !okn) (.slice none 0 0) path 0) := ⟨by rw [hwd]; exact (HAc.out.below (pw_below_drewN (Below.refl _ _) m)).flag _⟩; have HRd : Aside0 (Kd.R k65 65 wd b4 (fun j => b6 < j) (.slice none 0 0) []) := ⟨by rw [hwd]; exact Kd.R_far (p := ⟨b4, 1, none⟩) (Kd.R_drewN HRc.out m) (fun j hj => by have := HA7.out.l6; show j ≠ b4; omega) _⟩; obtain ⟨y0, y1, y2⟩ := cc3_ HAd.out.h6; obtain ⟨z0, z1, z2⟩ := cf3_ HAd.out.h6; clear hwd)
     generalize hwe : wd.setCell ⟨b6, 2, none⟩ (.int .i64 n) = we
     have HAe : Aside0 (AskW w we b2 b4 b6 q2 ((f1 || !ok2) || !okn) (.slice none 0 0) path n) := ⟨by rw [← hwe]; exact HAd.out.setN n⟩; have HRe : Aside0 (Kd.R k65 65 we b4 (fun j => b6 < j) (.slice none 0 0) []) := ⟨by rw [← hwe]; exact Kd.R_far (p := ⟨b6, 2, none⟩) HRd.out (fun j hj => by show j ≠ b6; omega) _⟩; clear hwe y0 y1 y2 z0 z1 z2 t0 t1; obtain ⟨f4, hf4⟩ : ∃ f, ((f1 || !ok2) || !okn) = f := ⟨_, rfl⟩
     rw [hf4] at HAe h
     clear hf4; obtain ⟨t0, t1⟩ := cells2_at HAe.out.h4; obtain ⟨x0, x1, x2⟩ := cc3_ HAe.out.h2; obtain ⟨p0, p1, p2⟩ := cf3_ HAe.out.h2
     cases f4 with
     | true =>
      rw [if_pos rfl] at h
      obtain ⟨rfl, rfl, rfl, rfl⟩ := tup4 h
      go_wp2
      refine bodyPost_ret (results_ct rfl _ _ b2 25 #[.slice none 0 0, .string ⟨#[]⟩, .int .i64 0] (0, 0) _ rfl (blk3 HAe.out.h2) Tryz.underlying25 rfl (by kernel_rfl)) rfl ⟨_, rfl, Kd.R_nil _ _ _ _ _, below3 HAe.out.bel HG2.out⟩
     | false =>
      rw [if_neg (by decide)] at h
      unfold askEnd at h
      obtain ⟨t, ht, h⟩ := Option.bind_eq_some_iff.1 h; have HOK := Aside0.mk ht; clear ht; obtain ⟨y0, y1, y2⟩ := cc3_ HAe.out.h6
      cases t with
      | false =>
       rw [if_neg (by decide)] at h
       obtain ⟨rfl, rfl, rfl, rfl⟩ := tup4 h
       go_wp2_with (go_at_call 36; refine (impl_AskOk.calls k none 0 [] path n false _ (Kd.R_reads' HRe.out).2.2 (Kd.R_reads' HRe.out).2.1 HOK.out).mono ?_; rintro e wf ⟨rfl, hb⟩; have HAf := Aside0.mk (HAe.out.below hb); have HRf := Aside0.mk (Kd.R_below HRe.out hb); clear x0 x1 x2 p0 p1 p2 y0 y1 y2; obtain ⟨y0, y1, y2⟩ := cc3_ HAf.out.h6; obtain ⟨x0, x1, x2⟩ := cc3_ HAf.out.h2; obtain ⟨p0, p1, p2⟩ := cf3_ HAf.out.h2; clear hb)
       refine bodyPost_ret (results_ct rfl _ _ b2 25 #[.slice none 0 0, .string ⟨#[]⟩, .int .i64 0] (0, 0) _ rfl (blk3 HAf.out.h2) Tryz.underlying25 rfl (by kernel_rfl)) rfl ⟨_, rfl, Kd.R_nil _ _ _ _ _, below3 HAf.out.bel HG2.out⟩
      | true =>
       rw [if_pos rfl] at h
       obtain ⟨tx, htx, h⟩ := Option.bind_eq_some_iff.1 h; have HTX := Aside0.mk htx; clear htx
       by_cases hc : tx.toList = a0.toList
       · rw [if_pos hc] at h
         obtain ⟨rfl, rfl, rfl, rfl⟩ := tup4 h; have k0 := beq_iff_eq.mpr hc; have k1 := bne_eq_false_iff_eq.mpr hc; clear hc
         go_wp2_with (first | (go_at_call 36; refine (impl_AskOk.calls k none 0 [] path n true _ (Kd.R_reads' HRe.out).2.2 (Kd.R_reads' HRe.out).2.1 HOK.out).mono ?_; rintro e wf ⟨rfl, hb⟩; have HAf := Aside0.mk (HAe.out.below hb); have HRf := Aside0.mk (Kd.R_below HRe.out hb); clear x0 x1 x2 p0 p1 p2 y0 y1 y2; obtain ⟨y0, y1, y2⟩ := cc3_ HAf.out.h6; obtain ⟨x0, x1, x2⟩ := cc3_ HAf.out.h2; obtain ⟨p0, p1, p2⟩ := cf3_ HAf.out.h2; clear hb) | (go_at_call 20; refine (impl_AskText.calls k none 0 [] path n tx _ (Kd.R_reads' HRf.out).2.2 (Kd.R_reads' HRf.out).2.1 HTX.out (HG.out.belowW HAf.out.bel)).mono ?_; rintro e wg ⟨rfl, hb⟩; have HAg := Aside0.mk (HAf.out.below hb); have HRg := Aside0.mk (Kd.R_below HRf.out hb); clear x0 x1 x2 p0 p1 p2 y0 y1 y2; obtain ⟨y0, y1, y2⟩ := cc3_ HAg.out.h6; obtain ⟨x0, x1, x2⟩ := cc3_ HAg.out.h2; obtain ⟨p0, p1, p2⟩ := cf3_ HAg.out.h2; clear hb))
         refine bodyPost_ret (results_ct rfl _ _ b2 25 #[.slice none 0 0, .string path, .int .i64 n] (0, 0) _ rfl (blk3 HAg.out.h2) Tryz.underlying25 rfl (by kernel_rfl)) rfl ⟨_, rfl, ?_, below3 HAg.out.bel HG2.out⟩
         have far2 : ∀ j, b6 < j → j ≠ b2 := fun j hj => by have := HA7.out.l6; have := H24.out; omega
         exact Kd.R_mono (Kd.R_lower (Kd.R_far (p := ⟨b2, 2, none⟩) (Kd.R_far (p := ⟨b2, 1, none⟩) (Kd.R_far (p := ⟨b2, 0, none⟩) HRg.out far2 _) far2 _) far2 _) (Nat.le_trans HG2.out (Nat.le_of_lt H24.out))) (fun _ _ => trivial)
       · rw [if_neg hc] at h
         obtain ⟨rfl, rfl, rfl, rfl⟩ := tup4 h; have k0 := beq_eq_false_iff_ne.mpr hc; have k1 := bne_iff_ne.mpr hc; clear hc
         go_wp2_with (first | (go_at_call 36; refine (impl_AskOk.calls k none 0 [] path n true _ (Kd.R_reads' HRe.out).2.2 (Kd.R_reads' HRe.out).2.1 HOK.out).mono ?_; rintro e wf ⟨rfl, hb⟩; have HAf := Aside0.mk (HAe.out.below hb); have HRf := Aside0.mk (Kd.R_below HRe.out hb); clear x0 x1 x2 p0 p1 p2 y0 y1 y2; obtain ⟨y0, y1, y2⟩ := cc3_ HAf.out.h6; obtain ⟨x0, x1, x2⟩ := cc3_ HAf.out.h2; obtain ⟨p0, p1, p2⟩ := cf3_ HAf.out.h2; clear hb) | (go_at_call 20; refine (impl_AskText.calls k none 0 [] path n tx _ (Kd.R_reads' HRf.out).2.2 (Kd.R_reads' HRf.out).2.1 HTX.out (HG.out.belowW HAf.out.bel)).mono ?_; rintro e wg ⟨rfl, hb⟩; have HAg := Aside0.mk (HAf.out.below hb); have HRg := Aside0.mk (Kd.R_below HRf.out hb); clear x0 x1 x2 p0 p1 p2 y0 y1 y2; obtain ⟨y0, y1, y2⟩ := cc3_ HAg.out.h6; obtain ⟨x0, x1, x2⟩ := cc3_ HAg.out.h2; obtain ⟨p0, p1, p2⟩ := cf3_ HAg.out.h2; clear hb))
         refine bodyPost_ret (results_ct rfl _ _ b2 25 #[.slice none 0 0, .string ⟨#[]⟩, .int .i64 0] (0, 0) _ rfl (blk3 HAg.out.h2) Tryz.underlying25 rfl (by kernel_rfl)) rfl ⟨_, rfl, Kd.R_nil _ _ _ _ _, below3 HAg.out.bel HG2.out⟩
   · have HL := Aside0.mk ((if_neg hops).symm.trans HL_.out)
     have k5 := beq_eq_false_iff_ne.mpr hops; have k6 := bne_iff_ne.mpr hops; clear hops HL_
     go_upto_region 9 with (go_at_call 31; refine (scanOps_calls k b4 q1 ops ⟨#[44]⟩ f1 l f2 _ (HG.out.belowW HA7.out.bel) (HG.out.lt.mono (Nat.le_trans HG2.out (Nat.le_of_lt H24.out))) S1.out (by decide) HA7.out.h4 HL.out).mono ?_; rintro e w8 ⟨v, rfl, hR, hT, hK, hBe⟩; obtain ⟨A8, c8, rfl, hc8, hr8⟩ := Kd.R_reads hR; have HA8 : Aside0 (AskW w w8 b2 b4 b6 q1 f2 (.slice none 0 0) ⟨#[]⟩ 0) := ⟨⟨(hK.2 b2 (blk_lt HA7.out.h2) (show b2 ≠ b4 from Nat.ne_of_lt H24.out) (by simp)).trans HA7.out.h2, hT, (hK.2 b6 (blk_lt HA7.out.h6) (Nat.ne_of_gt HA7.out.l6) (by simp)).trans HA7.out.h6, HG2.out, H24.out, HA7.out.l6, HA7.out.bel.trans (hBe.mono (Nat.le_trans HG2.out (Nat.le_of_lt H24.out)))⟩⟩; have HR8 : Aside0 (Kd.R k65 65 w8 b4 (fun j => b6 < j) (.slice A8 l.length c8) l) := ⟨Kd.R_mono hR (fun j hj => Nat.lt_of_lt_of_le (blk_lt HA7.out.h6) hj)⟩; obtain ⟨y0, y1, y2⟩ := cc3_ HA8.out.h6; obtain ⟨z0, z1, z2⟩ := cf3_ HA8.out.h6; clear hR hT hK hBe hc8 hr8)
     generalize hw9 : w8.setCell ⟨b6, 0, none⟩ (.slice A8 l.length c8) = w9
     have HA9 : Aside0 (AskW w w9 b2 b4 b6 q1 f2 (.slice A8 l.length c8) ⟨#[]⟩ 0) := ⟨by rw [← hw9]; exact HA8.out.set6 _⟩; have HR9 : Aside0 (Kd.R k65 65 w9 b4 (fun j => b6 < j) (.slice A8 l.length c8) l) := ⟨by rw [← hw9]; exact Kd.R_far (p := ⟨b6, 0, none⟩) HR8.out (fun j hj => by show j ≠ b6; omega) _⟩; clear hw9 y0 y1 y2 z0 z1 z2 k5 k6
     go_upto_region 10 with (first | (go_at_call 30; refine (until_calls b4 q1 ⟨#[63, 101, 61]⟩ path q2 ok2 f2 _ (HG.out.belowW HA9.out.bel) S2.out HA9.out.h4 HC2.out).mono ?_; rintro e wa ⟨rfl, m, hwa⟩; have HAa : Aside0 (AskW w wa b2 b4 b6 q2 (f2 || !ok2) (.slice A8 l.length c8) ⟨#[]⟩ 0) := ⟨by rw [hwa]; exact (HA9.out.below (pw_below_drewN (Below.refl _ _) m)).set4 _ _⟩; have HRa : Aside0 (Kd.R k65 65 wa b4 (fun j => b6 < j) (.slice A8 l.length c8) l) := ⟨by rw [hwa]; exact Kd.R_far (p := ⟨b4, 1, none⟩) (Kd.R_far (p := ⟨b4, 0, none⟩) (Kd.R_drewN HR9.out m) (fun j hj => by have := HA7.out.l6; show j ≠ b4; omega) _) (fun j hj => by have := HA7.out.l6; show j ≠ b4; omega) _⟩; clear hwa) | (go_at_call 33; refine (clone_calls path _ S3.out).mono ?_; rintro e wb ⟨rfl, hb⟩; have HAb := Aside0.mk (HAa.out.below hb); have HRb := Aside0.mk (Kd.R_below HRa.out hb); obtain ⟨y0, y1, y2⟩ := cc3_ HAb.out.h6; obtain ⟨z0, z1, z2⟩ := cf3_ HAb.out.h6; clear hb))
     generalize hwc : wb.setCell ⟨b6, 1, none⟩ (.string path) = wc
     have HAc : Aside0 (AskW w wc b2 b4 b6 q2 (f2 || !ok2) (.slice A8 l.length c8) path 0) := ⟨by rw [← hwc]; exact HAb.out.setP path⟩; have HRc : Aside0 (Kd.R k65 65 wc b4 (fun j => b6 < j) (.slice A8 l.length c8) l) := ⟨by rw [← hwc]; exact Kd.R_far (p := ⟨b6, 1, none⟩) HRb.out (fun j hj => by show j ≠ b6; omega) _⟩; clear hwc y0 y1 y2 z0 z1 z2; obtain ⟨t0, t1⟩ := cells2_at HAc.out.h4
     go_upto_region 11 with (go_at_call 34; refine (scanPart_calls k b4 q2 (f2 || !ok2) q2 n okn _ HAc.out.h4 HN.out).mono ?_; rintro e wd ⟨rfl, m, hwd⟩; have HAd : Aside0 (AskW w wd b2 b4 b6 q2 ((f2 || !ok2) || !okn) (.slice A8 l.length c8) path 0) := ⟨by rw [hwd]; exact (HAc.out.below (pw_below_drewN (Below.refl _ _) m)).flag _⟩; have HRd : Aside0 (Kd.R k65 65 wd b4 (fun j => b6 < j) (.slice A8 l.length c8) l) := ⟨by rw [hwd]; exact Kd.R_far (p := ⟨b4, 1, none⟩) (Kd.R_drewN HRc.out m) (fun j hj => by have := HA7.out.l6; show j ≠ b4; omega) _⟩; obtain ⟨y0, y1, y2⟩ := cc3_ HAd.out.h6; obtain ⟨z0, z1, z2⟩ := cf3_ HAd.out.h6; clear hwd)
     generalize hwe : wd.setCell ⟨b6, 2, none⟩ (.int .i64 n) = we
     have HAe : Aside0 (AskW w we b2 b4 b6 q2 ((f2 || !ok2) || !okn) (.slice A8 l.length c8) path n) := ⟨by rw [← hwe]; exact HAd.out.setN n⟩; have HRe : Aside0 (Kd.R k65 65 we b4 (fun j => b6 < j) (.slice A8 l.length c8) l) := ⟨by rw [← hwe]; exact Kd.R_far (p := ⟨b6, 2, none⟩) HRd.out (fun j hj => by show j ≠ b6; omega) _⟩; clear hwe y0 y1 y2 z0 z1 z2 t0 t1; obtain ⟨f4, hf4⟩ : ∃ f, ((f2 || !ok2) || !okn) = f := ⟨_, rfl⟩
     rw [hf4] at HAe h
     clear hf4; obtain ⟨t0, t1⟩ := cells2_at HAe.out.h4; obtain ⟨x0, x1, x2⟩ := cc3_ HAe.out.h2; obtain ⟨p0, p1, p2⟩ := cf3_ HAe.out.h2
     cases f4 with
     | true =>
      rw [if_pos rfl] at h
      obtain ⟨rfl, rfl, rfl, rfl⟩ := tup4 h
      go_wp2
      refine bodyPost_ret (results_ct rfl _ _ b2 25 #[.slice none 0 0, .string ⟨#[]⟩, .int .i64 0] (0, 0) _ rfl (blk3 HAe.out.h2) Tryz.underlying25 rfl (by kernel_rfl)) rfl ⟨_, rfl, Kd.R_nil _ _ _ _ _, below3 HAe.out.bel HG2.out⟩
     | false =>
      rw [if_neg (by decide)] at h
      unfold askEnd at h
      obtain ⟨t, ht, h⟩ := Option.bind_eq_some_iff.1 h; have HOK := Aside0.mk ht; clear ht; obtain ⟨y0, y1, y2⟩ := cc3_ HAe.out.h6
      cases t with
      | false =>
       rw [if_neg (by decide)] at h
       obtain ⟨rfl, rfl, rfl, rfl⟩ := tup4 h
       go_wp2_with (go_at_call 36; refine (impl_AskOk.calls k A8 c8 l path n false _ (Kd.R_reads' HRe.out).2.2 (Kd.R_reads' HRe.out).2.1 HOK.out).mono ?_; rintro e wf ⟨rfl, hb⟩; have HAf := Aside0.mk (HAe.out.below hb); have HRf := Aside0.mk (Kd.R_below HRe.out hb); clear x0 x1 x2 p0 p1 p2 y0 y1 y2; obtain ⟨y0, y1, y2⟩ := cc3_ HAf.out.h6; obtain ⟨x0, x1, x2⟩ := cc3_ HAf.out.h2; obtain ⟨p0, p1, p2⟩ := cf3_ HAf.out.h2; clear hb)
       refine bodyPost_ret (results_ct rfl _ _ b2 25 #[.slice none 0 0, .string ⟨#[]⟩, .int .i64 0] (0, 0) _ rfl (blk3 HAf.out.h2) Tryz.underlying25 rfl (by kernel_rfl)) rfl ⟨_, rfl, Kd.R_nil _ _ _ _ _, below3 HAf.out.bel HG2.out⟩
      | true =>
       rw [if_pos rfl] at h
       obtain ⟨tx, htx, h⟩ := Option.bind_eq_some_iff.1 h; have HTX := Aside0.mk htx; clear htx
       by_cases hc : tx.toList = a0.toList
       · rw [if_pos hc] at h
         obtain ⟨rfl, rfl, rfl, rfl⟩ := tup4 h; have k0 := beq_iff_eq.mpr hc; have k1 := bne_eq_false_iff_eq.mpr hc; clear hc
         go_wp2_with (first | (go_at_call 36; refine (impl_AskOk.calls k A8 c8 l path n true _ (Kd.R_reads' HRe.out).2.2 (Kd.R_reads' HRe.out).2.1 HOK.out).mono ?_; rintro e wf ⟨rfl, hb⟩; have HAf := Aside0.mk (HAe.out.below hb); have HRf := Aside0.mk (Kd.R_below HRe.out hb); clear x0 x1 x2 p0 p1 p2 y0 y1 y2; obtain ⟨y0, y1, y2⟩ := cc3_ HAf.out.h6; obtain ⟨x0, x1, x2⟩ := cc3_ HAf.out.h2; obtain ⟨p0, p1, p2⟩ := cf3_ HAf.out.h2; clear hb) | (go_at_call 20; refine (impl_AskText.calls k A8 c8 l path n tx _ (Kd.R_reads' HRf.out).2.2 (Kd.R_reads' HRf.out).2.1 HTX.out (HG.out.belowW HAf.out.bel)).mono ?_; rintro e wg ⟨rfl, hb⟩; have HAg := Aside0.mk (HAf.out.below hb); have HRg := Aside0.mk (Kd.R_below HRf.out hb); clear x0 x1 x2 p0 p1 p2 y0 y1 y2; obtain ⟨y0, y1, y2⟩ := cc3_ HAg.out.h6; obtain ⟨x0, x1, x2⟩ := cc3_ HAg.out.h2; obtain ⟨p0, p1, p2⟩ := cf3_ HAg.out.h2; clear hb))
         refine bodyPost_ret (results_ct rfl _ _ b2 25 #[.slice A8 l.length c8, .string path, .int .i64 n] (0, 0) _ rfl (blk3 HAg.out.h2) Tryz.underlying25 rfl (by kernel_rfl)) rfl ⟨_, rfl, ?_, below3 HAg.out.bel HG2.out⟩
         have far2 : ∀ j, b6 < j → j ≠ b2 := fun j hj => by have := HA7.out.l6; have := H24.out; omega
         exact Kd.R_mono (Kd.R_lower (Kd.R_far (p := ⟨b2, 2, none⟩) (Kd.R_far (p := ⟨b2, 1, none⟩) (Kd.R_far (p := ⟨b2, 0, none⟩) HRg.out far2 _) far2 _) far2 _) (Nat.le_trans HG2.out (Nat.le_of_lt H24.out))) (fun _ _ => trivial)
       · rw [if_neg hc] at h
         obtain ⟨rfl, rfl, rfl, rfl⟩ := tup4 h; have k0 := beq_eq_false_iff_ne.mpr hc; have k1 := bne_iff_ne.mpr hc; clear hc
         go_wp2_with (first | (go_at_call 36; refine (impl_AskOk.calls k A8 c8 l path n true _ (Kd.R_reads' HRe.out).2.2 (Kd.R_reads' HRe.out).2.1 HOK.out).mono ?_; rintro e wf ⟨rfl, hb⟩; have HAf := Aside0.mk (HAe.out.below hb); have HRf := Aside0.mk (Kd.R_below HRe.out hb); clear x0 x1 x2 p0 p1 p2 y0 y1 y2; obtain ⟨y0, y1, y2⟩ := cc3_ HAf.out.h6; obtain ⟨x0, x1, x2⟩ := cc3_ HAf.out.h2; obtain ⟨p0, p1, p2⟩ := cf3_ HAf.out.h2; clear hb) | (go_at_call 20; refine (impl_AskText.calls k A8 c8 l path n tx _ (Kd.R_reads' HRf.out).2.2 (Kd.R_reads' HRf.out).2.1 HTX.out (HG.out.belowW HAf.out.bel)).mono ?_; rintro e wg ⟨rfl, hb⟩; have HAg := Aside0.mk (HAf.out.below hb); have HRg := Aside0.mk (Kd.R_below HRf.out hb); clear x0 x1 x2 p0 p1 p2 y0 y1 y2; obtain ⟨y0, y1, y2⟩ := cc3_ HAg.out.h6; obtain ⟨x0, x1, x2⟩ := cc3_ HAg.out.h2; obtain ⟨p0, p1, p2⟩ := cf3_ HAg.out.h2; clear hb))
         refine bodyPost_ret (results_ct rfl _ _ b2 25 #[.slice none 0 0, .string ⟨#[]⟩, .int .i64 0] (0, 0) _ rfl (blk3 HAg.out.h2) Tryz.underlying25 rfl (by kernel_rfl)) rfl ⟨_, rfl, Kd.R_nil _ _ _ _ _, below3 HAg.out.bel HG2.out⟩
end Go.Proofs.YtmplnpjdbfedbaaGreatDoor.X
namespace Go.Proofs.YtmplnpjdbfedbaaGreatDoor.X
open Go.RowKit Go.Extern.Stop Go.Stop Go.Extern
set_option linter.unusedVariables false
set_option linter.unusedSimpArgs false
theorem as_nil (t : Value) (w : World) : Calls Tryz.prog 26 #[.nilIface, t] w fun e w' => e = .returned (.bool false) ∧ w' = w := by
  go_enter Tryz.func26, Tryz.ntmps26
  go_wp2
  go_ret
  exact ⟨rfl, rfl⟩
theorem eValueOfP (t : Addr) (w : World) : (ReflectliteValue.unpack (.iface 55 (.pointer (some t)))).run Tryz.prog w
    = .ok (.agg #[.pointer (some ⟨10, 55, none⟩), .pointer (some ⟨w.heap.size, 0, none⟩), .int .u64 150]) (w.alloc (.cells #[.pointer (some t)] 55)) := by kernel_rfl
theorem eTypeP (a : Addr) (w : World) : (ReflectliteValue.methodAny (ReflectliteValue.valueError "reflectlite.Value.Type" 0) (fun t _ _ _ => ReflectliteType.toType t) #[.agg #[.pointer (some ⟨10, 55, none⟩), .pointer (some a), .int .u64 150]]).run Tryz.prog w
    = .ok (.iface 131 (.agg #[.pointer (some ⟨10, 55, none⟩)])) w := by kernel_rfl
theorem eMethodKind (h : Value) (w : World) : (Go.method 320 131 (.agg #[h]) "Kind").run Tryz.prog w = .ok (151, h) w := by kernel_rfl
theorem eKindP (w : World) : ((ReflectliteType.abiMethod fun t => (fun a : Nat => Value.int IntKind.u8 (a : Int)) <$> Rtype.kind t) #[.pointer (some ⟨10, 55, none⟩)]).run Tryz.prog w = .ok (.int .u8 22) w := by kernel_rfl
theorem eKindU (w : World) : ((ReflectliteType.abiMethod fun t => (fun a : Nat => Value.int IntKind.u8 (a : Int)) <$> Rtype.kind t) #[.pointer (some ⟨10, 53, none⟩)]).run Tryz.prog w = .ok (.int .u8 25) w := by kernel_rfl
theorem erlm (z : Sem Value) (f : TypeId → Addr → Nat → Nat → Sem Value) (v : Value) :
    ReflectliteValue.method z f #[v] = (do match ← ReflectliteValue.parts v with | none => z | some (t, a, fl) => f t a fl (fl % 32)) := rfl
theorem ePartsP (a : Addr) (w : World) : (ReflectliteValue.parts (.agg #[.pointer (some ⟨10, 55, none⟩), .pointer (some a), .int .u64 150])).run Tryz.prog w = .ok (some (55, a, 150)) w := by kernel_rfl
theorem eIsNilP (a p : Addr) (W : World) (ha : W.cell? a = some (.pointer (some p))) :
    (ReflectliteValue.method (ReflectliteValue.valueError "reflectlite.Value.IsNil" 0) ReflectliteValue.isNil #[.agg #[.pointer (some ⟨10, 55, none⟩), .pointer (some a), .int .u64 150]]).run Tryz.prog W = .ok (.bool false) W := by
  rw [erlm]
  simp only [Sem.run_bind, ePartsP, Result.andThen]
  simp [ReflectliteValue.isNil, loadVar, isAgg, underlying, Tryz.underlying55, ha, Result.andThen]
theorem eMethodElem (h : Value) (w : World) : (Go.method 320 131 (.agg #[h]) "Elem").run Tryz.prog w = .ok (162, .agg #[h]) w := by kernel_rfl
theorem eMethodImplements (h : Value) (w : World) : (Go.method 320 131 (.agg #[h]) "Implements").run Tryz.prog w = .ok (163, .agg #[h]) w := by kernel_rfl
theorem eMethodAssignableTo (h : Value) (w : World) : (Go.method 320 131 (.agg #[h]) "AssignableTo").run Tryz.prog w = .ok (160, .agg #[h]) w := by kernel_rfl
theorem eElemP (w : World) : (ReflectliteType.method ReflectliteType.elem #[.agg #[.pointer (some ⟨10, 55, none⟩)]]).run Tryz.prog w = .ok (.iface 131 (.agg #[.pointer (some ⟨10, 53, none⟩)])) w := by kernel_rfl
theorem eImplU (w : World) : (ReflectliteType.relation "Implements" ReflectliteType.implements_ #[.agg #[.pointer (some ⟨10, 53, none⟩)], .iface 131 (.agg #[.pointer (some ⟨10, 49, none⟩)])]).run Tryz.prog w = .ok (.bool true) w := by kernel_rfl
theorem eTypeOfU (v : Value) (w : World) : (ReflectliteType.typeOf #[.iface 53 v]).run Tryz.prog w = .ok (.iface 131 (.agg #[.pointer (some ⟨10, 53, none⟩)])) w := by kernel_rfl
theorem eAsgU (w : World) : (ReflectliteType.relation "AssignableTo" ReflectliteType.assignableTo #[.agg #[.pointer (some ⟨10, 53, none⟩)], .iface 131 (.agg #[.pointer (some ⟨10, 53, none⟩)])]).run Tryz.prog w = .ok (.bool true) w := by kernel_rfl
theorem eValueOfU (c : Int) (w : World) : (ReflectliteValue.unpack (.iface 53 (.agg #[.int .i64 c]))).run Tryz.prog w
    = .ok (.agg #[.pointer (some ⟨10, 53, none⟩), .pointer (some ⟨w.heap.size, 0, none⟩), .int .u64 153]) (w.alloc (.cells #[.int .i64 c] 53)) := by kernel_rfl
theorem eElemOfP (w : World) : (Rtype.elem? 55).run Tryz.prog w = .ok (some 53) w := by kernel_rfl
theorem eMkU (p : Addr) (w : World) : (ReflectliteValue.mk 53 p ReflectliteValue.flagAddr).run Tryz.prog w = .ok (.agg #[.pointer (some ⟨10, 53, none⟩), .pointer (some p), .int .u64 409]) w := by kernel_rfl
theorem eElemVP (a p : Addr) (W : World) (ha : W.cell? a = some (.pointer (some p))) :
    (ReflectliteValue.method (ReflectliteValue.valueError "reflectlite.Value.Elem" 0) ReflectliteValue.elem #[.agg #[.pointer (some ⟨10, 55, none⟩), .pointer (some a), .int .u64 150]]).run Tryz.prog W
      = .ok (.agg #[.pointer (some ⟨10, 53, none⟩), .pointer (some p), .int .u64 409]) W := by
  rw [erlm]
  simp only [Sem.run_bind, ePartsP, Result.andThen]
  simp [ReflectliteValue.elem, loadVar, isAgg, underlying, Tryz.underlying55, ha, Result.andThen, eElemOfP, eMkU]
theorem ePartsUa (a : Addr) (w : World) : (ReflectliteValue.parts (.agg #[.pointer (some ⟨10, 53, none⟩), .pointer (some a), .int .u64 409])).run Tryz.prog w = .ok (some (53, a, 409)) w := by kernel_rfl
theorem ePartsU (a : Addr) (w : World) : (ReflectliteValue.parts (.agg #[.pointer (some ⟨10, 53, none⟩), .pointer (some a), .int .u64 153])).run Tryz.prog w = .ok (some (53, a, 153)) w := by kernel_rfl
theorem eDirectU (w : World) : (Rtype.directlyAssignable 53 53).run Tryz.prog w = .ok true w := by kernel_rfl
end Go.Proofs.YtmplnpjdbfedbaaGreatDoor.X
namespace Go.Proofs.YtmplnpjdbfedbaaGreatDoor.X
open Go.RowKit Go.Extern.Stop Go.Stop Go.Extern Go.Proofs.YtmplnpjdbfedbaaGreatDoorW.PrintWords
set_option linter.unusedVariables false
set_option linter.unusedSimpArgs false
theorem erls (v x : Value) : ReflectliteValue.set #[v, x] = (do
    let (some (dst, a, fl), some (src, b, _)) := (← ReflectliteValue.parts v, ← ReflectliteValue.parts x)
      | unsupported (.noEntry "extern/(internal/reflectlite.Value).Set.zeroValue")
    if fl / ReflectliteValue.flagAddr % 2 == 0 then unsupported (.noEntry "extern/(internal/reflectlite.Value).Set.unaddressable")
    let val ← loadVar src b
    if ← Rtype.directlyAssignable dst src then storeVar dst a val
    else if ← Rtype.implements dst src then
      if (← Rtype.kind src) == 20 then
        match val with
        | .nilIface => unsupported (.noEntry "extern/reflectlite: a nil value of one interface type handed on as a value of another")
        | _ => storeVar dst a val
      else storeVar dst a (.iface src val)
    else panicString ("reflectlite.Set: value of type " ++ (← Rtype.spelt src) ++ " is not assignable to type " ++ (← Rtype.spelt dst))
    pure (.tuple #[])) := rfl
theorem eSetU (ta : Addr) (g : Nat) (c : Int) (old : Value) (W : World) (hb : W.heap[g]? = some (.cells #[.int .i64 c] 53 (0, 0))) (ht : W.cell? ta = some old) (hf : W.frozen? ta = false) :
    (ReflectliteValue.set #[.agg #[.pointer (some ⟨10, 53, none⟩), .pointer (some ta), .int .u64 409], .agg #[.pointer (some ⟨10, 53, none⟩), .pointer (some ⟨g, 0, none⟩), .int .u64 153]]).run Tryz.prog W
      = .ok (.tuple #[]) (W.setCell ta (.int .i64 c)) := by
  have hl := run_loadVar_row (P := Tryz.prog) W g 53 53 #[.int .i64 c] (0, 0) _ hb Tryz.underlying53 rfl (by kernel_rfl)
  rw [erls]
  simp only [Sem.run_bind, ePartsUa, ePartsU, Result.andThen]
  simp [ReflectliteValue.flagAddr, hl, Result.andThen, eDirectU, storeVar, Value.cells, storeCells, Addr.add]
  rw [run_store Tryz.prog W ta _ _ (by rfl)]
  simp [ht, hf]
set_option maxHeartbeats 4000000 in
set_option maxRecDepth 100000 in
theorem as_hit (c : Int) (t : Addr) (old : Value) (w : World) (hg : w.cell? ⟨0, 0, none⟩ = some (.iface 131 (.agg #[.pointer (some ⟨10, 49, none⟩)]))) (ht0 : w.cell? t = some old) (hf0 : w.frozen? t = false) :
    Calls Tryz.prog 26 #[.iface 53 (.agg #[.int .i64 c]), .iface 55 (.pointer (some t))] w fun ev w' => ev = .returned (.bool true) ∧ w' = ((((w.alloc (.cells #[.pointer (some t)] 55)).alloc (.cells #[.pointer (some ⟨10, 55, none⟩), .pointer (some ⟨w.heap.size, 0, none⟩), .int .u64 150] 94)).alloc (.cells #[.pointer (some ⟨10, 55, none⟩), .pointer (some ⟨w.heap.size, 0, none⟩), .int .u64 150] 94)).alloc (.cells #[.int .i64 c] 53)).setCell t (.int .i64 c) := by
  have h6 := @run_callFunc_extern Tryz.prog 57 _ (fun args => ReflectliteValue.unpack (args.getD 0 (.tuple #[]))) Tryz.func57 (by kernel_rfl) (by kernel_rfl) (by kernel_rfl) (by kernel_rfl)
  have h7 := @run_callFunc_extern Tryz.prog 58 _ (ReflectliteValue.methodAny (ReflectliteValue.valueError "reflectlite.Value.Type" 0) (fun t _ _ _ => ReflectliteType.toType t)) Tryz.func58 (by kernel_rfl) (by kernel_rfl) (by kernel_rfl) (by kernel_rfl)
  have h8 := @run_callFunc_extern Tryz.prog 59 _ (ReflectliteValue.method (ReflectliteValue.valueError "reflectlite.Value.IsNil" 0) ReflectliteValue.isNil) Tryz.func59 (by kernel_rfl) (by kernel_rfl) (by kernel_rfl) (by kernel_rfl)
  have h27 := @run_callFunc_extern Tryz.prog 151 _ (ReflectliteType.abiMethod fun t => do pure (.int .u8 (← Rtype.kind t))) Tryz.func151 (by kernel_rfl) (by kernel_rfl) (by kernel_rfl) (by kernel_rfl)
  have h37 := @run_callFunc_extern Tryz.prog 162 _ (ReflectliteType.method ReflectliteType.elem) Tryz.func162 (by kernel_rfl) (by kernel_rfl) (by kernel_rfl) (by kernel_rfl)
  have h38 := @run_callFunc_extern Tryz.prog 163 _ (ReflectliteType.relation "Implements" ReflectliteType.implements_) Tryz.func163 (by kernel_rfl) (by kernel_rfl) (by kernel_rfl) (by kernel_rfl)
  have h10 := @run_callFunc_extern Tryz.prog 85 _ ReflectliteType.typeOf Tryz.func85 (by kernel_rfl) (by kernel_rfl) (by kernel_rfl) (by kernel_rfl)
  have h35 := @run_callFunc_extern Tryz.prog 160 _ (ReflectliteType.relation "AssignableTo" ReflectliteType.assignableTo) Tryz.func160 (by kernel_rfl) (by kernel_rfl) (by kernel_rfl) (by kernel_rfl)
  have h11 := @run_callFunc_extern Tryz.prog 86 _ (ReflectliteValue.method (ReflectliteValue.valueError "reflectlite.Value.Elem" 0) ReflectliteValue.elem) Tryz.func86 (by kernel_rfl) (by kernel_rfl) (by kernel_rfl) (by kernel_rfl)
  have h12 := @run_callFunc_extern Tryz.prog 87 _ ReflectliteValue.set Tryz.func87 (by kernel_rfl) (by kernel_rfl) (by kernel_rfl) (by kernel_rfl)
  have tO := eTypeOfU
  have mA := eMethodAssignableTo
  have a25 := eAsgU
  have v25 := eValueOfU
  have f6 := eValueOfP
  have f7 := eTypeP
  have mK := eMethodKind
  have mE := eMethodElem
  have mI := eMethodImplements
  have k27 := eKindP
  have k25 := eKindU
  have e27 := eElemP
  have i25 := eImplU
  have n8 := eIsNilP ⟨w.heap.size, 0, none⟩ t ((w.alloc (.cells #[.pointer (some t)] 55)).alloc (.cells #[.pointer (some ⟨10, 55, none⟩), .pointer (some ⟨w.heap.size, 0, none⟩), .int .u64 150] 94)) (by simp)
  have hlt : 0 < w.heap.size := World.block_lt_of_cell? _ _ hg
  have hg2 : ((w.alloc (.cells #[.pointer (some t)] 55)).alloc (.cells #[.pointer (some ⟨10, 55, none⟩), .pointer (some ⟨w.heap.size, 0, none⟩), .int .u64 150] 94)).cell? ⟨0, 0, none⟩ = some (.iface 131 (.agg #[.pointer (some ⟨10, 49, none⟩)])) := by
    rw [World.cell?_alloc_lt _ _ ⟨0, 0, none⟩ (by first | (simp; done) | (simp; omega)), World.cell?_alloc_lt _ _ ⟨0, 0, none⟩ hlt]; exact hg
  have htl : t.block < w.heap.size := World.block_lt_of_cell? _ _ ht0
  have el := eElemVP ⟨w.heap.size, 0, none⟩ t (((w.alloc (.cells #[.pointer (some t)] 55)).alloc (.cells #[.pointer (some ⟨10, 55, none⟩), .pointer (some ⟨w.heap.size, 0, none⟩), .int .u64 150] 94)).alloc (.cells #[.pointer (some ⟨10, 55, none⟩), .pointer (some ⟨w.heap.size, 0, none⟩), .int .u64 150] 94)) (by rw [World.cell?_alloc_lt _ _ ⟨w.heap.size, 0, none⟩ (by simp; omega)]; simp)
  have st := eSetU t (w.heap.size + 1 + 1 + 1) c old ((((w.alloc (.cells #[.pointer (some t)] 55)).alloc (.cells #[.pointer (some ⟨10, 55, none⟩), .pointer (some ⟨w.heap.size, 0, none⟩), .int .u64 150] 94)).alloc (.cells #[.pointer (some ⟨10, 55, none⟩), .pointer (some ⟨w.heap.size, 0, none⟩), .int .u64 150] 94)).alloc (.cells #[.int .i64 c] 53))
    (by have := heap_alloc_new (((w.alloc (.cells #[.pointer (some t)] 55)).alloc (.cells #[.pointer (some ⟨10, 55, none⟩), .pointer (some ⟨w.heap.size, 0, none⟩), .int .u64 150] 94)).alloc (.cells #[.pointer (some ⟨10, 55, none⟩), .pointer (some ⟨w.heap.size, 0, none⟩), .int .u64 150] 94)) (.cells #[.int .i64 c] 53); simpa using this)
    (by rw [World.cell?_alloc_lt _ _ t (by simp; omega), World.cell?_alloc_lt _ _ t (by simp; omega), World.cell?_alloc_lt _ _ t (by simp; omega), World.cell?_alloc_lt _ _ t htl]; exact ht0)
    (by rw [World.frozen?_alloc_old _ _ t (by simp; omega), World.frozen?_alloc_old _ _ t (by simp; omega), World.frozen?_alloc_old _ _ t (by simp; omega), World.frozen?_alloc_old _ _ t (Nat.ne_of_lt htl)]; exact hf0)
  go_enter Tryz.func26, Tryz.ntmps26
  go_wp2
  refine wp_loop_rounds 1 ?_
  rw [rounds_succ]
  go_wp2
  go_ret
  exact ⟨rfl, rfl⟩
theorem as_hit_below (c : Int) (t : Nat) (c0 : Int) (w : World) (hg : w.cell? ⟨0, 0, none⟩ = some (.iface 131 (.agg #[.pointer (some ⟨10, 49, none⟩)]))) (ht : w.heap[t]? = some (.cells #[.int .i64 c0] 53 (0, 0))) :
    Calls Tryz.prog 26 #[.iface 53 (.agg #[.int .i64 c]), .iface 55 (.pointer (some ⟨t, 0, none⟩))] w fun ev w' => ev = .returned (.bool true) ∧ ∃ W, Below w.heap.size w W ∧ w' = W.setCell ⟨t, 0, none⟩ (.int .i64 c) := by
  refine (as_hit c ⟨t, 0, none⟩ (.int .i64 c0) w hg ((cell_of_row _ _ _ _ _ _ ht).trans rfl) (blk_frozen ht 0)).mono ?_
  rintro e w' ⟨rfl, rfl⟩
  have b0 : Below w.heap.size w w := Below.refl _ _
  have b1 := b0.alloc b0.size (.cells #[.pointer (some ⟨t, 0, none⟩)] 55)
  have b2 := b1.alloc b1.size (.cells #[.pointer (some ⟨10, 55, none⟩), .pointer (some ⟨w.heap.size, 0, none⟩), .int .u64 150] 94)
  have b3 := b2.alloc b2.size (.cells #[.pointer (some ⟨10, 55, none⟩), .pointer (some ⟨w.heap.size, 0, none⟩), .int .u64 150] 94)
  have b4 := b3.alloc b3.size (.cells #[.int .i64 c] 53)
  exact ⟨rfl, _, b4, rfl⟩
end Go.Proofs.YtmplnpjdbfedbaaGreatDoor.X
namespace Go.Proofs.YtmplnpjdbfedbaaGreatDoor.X
open Go.RowKit Go.Proofs.YtmplnpjdbfedbaaGreatDoorW.PrintWords Go.Proofs.YtmplnpjdbfedbaaGreatDoorW.PrintLast Go.Proofs.YtmplnpjdbfedbaaGreatDoorW.PrintMore
attribute [local go_sem] max2_int min2_int max_two min_two max_three min_three max_four min_four
set_option linter.unusedVariables false
set_option linter.unusedSimpArgs false
section
abbrev UrlR := List (S65) × ByteArray × Int × Int
def zU (c : Int) : UrlR := ([], ⟨#[]⟩, 0, c)
def urlG (k : Nat) (l0 : List Int) (a1 : ByteArray) (a2 : Int) : Option (List (S65) × ByteArray × Int × Int) := if 500 < l0.length then some (zU 400) else if a1.size < 19 then some (zU 400) else if Lib.hasPrefix (a1.extract (a1.size - 3 - 16) a1.size).data.toList [38, 115, 61] = true then (impl_AskRead.f k (a1.extract 0 (a1.size - 3 - 16))).bind fun a => if a.2.2.2 = true then (impl_UrlText.f k l0 a.1 a.2.1 a.2.2.1).bind fun t => if t.toList = a1.toList then (if a.2.2.1 ≤ a2 then some (zU 403) else some (a.1, a.2.1, a.2.2.1, 200)) else some (zU 403) else some (zU 400) else some (zU 400)
def impl_UrlRead.f (k : Nat) (l0 : List Int) (a1 : ByteArray) (a2 : Int) : Option (List (S65) × ByteArray × Int × Int) := if a1.size ≤ 9223372036854775807 then urlG k l0 a1 a2 else none
def errOf (c : Int) : Value := if c = 200 then .nilIface else .iface 53 (.agg #[.int .i64 c])
theorem prefix_calls (s p : ByteArray) (b : Bool) (w : World) (h : Lib.hasPrefix s.data.toList p.data.toList = b) : Calls Tryz.prog 56 #[.string s, .string p] w fun e w' => e = .returned (.bool b) ∧ w' = w := by
 refine (Tryz.strings_HasPrefix s p w).mono ?_
 rintro e w' ⟨rfl, rfl⟩
 rw [h]
 exact ⟨rfl, rfl⟩
theorem tup4u {a a' : List (S65)} {b b' : ByteArray} {c c' d d' : Int} (h : some (a, b, c, d) = some (a', b', c', d')) : a = a' ∧ b = b' ∧ c = c' ∧ d = d' := by
 have := Option.some.inj h
 simp only [Prod.mk.injEq] at this
 exact this
structure UrlW (k : Nat) (w W : World) (b6 b9 : Nat) (v : Value) (l : List (S65)) (p : ByteArray) (n : Int) : Prop where
 h6 : W.heap[b6]? = some (.cells #[.slice none 0 0, .string ⟨#[]⟩, .int .i64 0] 25 (0, 0))
 h9 : W.heap[b9]? = some (.cells #[v, .string p, .int .i64 n] 25 (0, 0))
 g6 : w.heap.size ≤ b6
 l9 : b6 < b9
 bel : Below w.heap.size w W
 row : Kd.R k65 65 W w.heap.size (fun j => b6 < j ∧ j ≠ b9) v l
theorem UrlW.below {k : Nat} {w W W' : World} {b6 b9 : Nat} {v : Value} {l : List (S65)} {p : ByteArray} {n : Int} (h : UrlW k w W b6 b9 v l p n) (hb : Below W.heap.size W W') : UrlW k w W' b6 b9 v l p n := ⟨blk_below h.h6 hb, blk_below h.h9 hb, h.g6, h.l9, below_step h.bel hb, Kd.R_below h.row hb⟩
set_option maxHeartbeats 8000000 in
set_option maxRecDepth 100000 in
theorem urlCheck_calls (k : Nat) (A0 : Option Addr) (c0 : Nat) (l0 : List Int) (a1 : ByteArray) (a2 : Int) (r1 : List (S65)) (r2 : ByteArray) (r3 r4 : Int) (w : World) (hr0 : Kd.C (Kd.int .u8) w A0 l0.length l0) (hc0 : l0.length ≤ c0) (hsz : a1.size ≤ 9223372036854775807) (h : urlG k l0 a1 a2 = some (r1, r2, r3, r4)) (hG : Glob w) :
  Calls Tryz.prog 25 #[.slice A0 l0.length c0, .string a1, .int .i64 a2] w fun e w' => ∃ v0_ : Value, e = .returned (.tuple #[.agg #[v0_, .string r2, .int .i64 r3], errOf r4]) ∧ Kd.R k65 65 w' w.heap.size (fun _ => True) v0_ r1 ∧ Below w.heap.size w w' := by
 have HG := Aside0.mk hG; have HC0 := Aside0.mk hr0; have HCc := Aside0.mk hc0; clear hG hr0 hc0; have hu := Tryz.underlying25; have huf := Tryz.underlying53; have hz : ∀ w : World, (zeroValue 25).run Tryz.prog w = .ok (.agg #[.slice none 0 0, .string ⟨#[]⟩, .int .i64 0]) w := fun w => (by kernel_rfl); obtain ⟨n0, hn0⟩ : ∃ n, l0.length = n := ⟨_, rfl⟩; have HN0 := Aside0.mk hn0; have e3 : wrap64 ((a1.size : Int) - 3) = (a1.size : Int) - 3 := (by unfold wrap64; omega)
 unfold urlG at h
 rw [hn0] at h ⊢
 clear hn0
 by_cases h5 : 500 < n0
 · rw [if_pos h5] at h
   obtain ⟨rfl, rfl, rfl, rfl⟩ := tup4u h; have g5 : (500 : Int) < (n0 : Int) := (by omega); clear h
   go_enter Tryz.func25, Tryz.ntmps25
   go_wp2_with ((with_reducible refine gd_ 6 rfl ?_); refine bx_ 6 rfl #[.slice none 0 0, .string ⟨#[]⟩, .int .i64 0] 25 ?_; intro b6 hg w2 hbox hb; have HX2 := Aside0.mk hbox; have HB2 := Aside0.mk hb; have HG6 := Aside0.mk (show w.heap.size ≤ b6 by rw [hg]; exact Nat.le_refl _); obtain ⟨x0, x1, x2⟩ := cc3_ hbox; obtain ⟨f0, f1, f2⟩ := cf3_ hbox; clear hb hbox hg)
   refine bodyPost_ret (results_ct rfl _ _ b6 25 #[.slice none 0 0, .string ⟨#[]⟩, .int .i64 0] (0, 0) _ rfl (blk3 HX2.out) Tryz.underlying25 rfl (by kernel_rfl)) rfl ⟨_, rfl, Kd.R_nil _ _ _ _ _, below3 HB2.out HG6.out⟩
 · rw [if_neg h5] at h
   have g5 : ¬ ((500 : Int) < (n0 : Int)) := (by omega)
   by_cases h19 : a1.size < 19
   · rw [if_pos h19] at h
     obtain ⟨rfl, rfl, rfl, rfl⟩ := tup4u h; have e4 : wrap64 ((a1.size : Int) - 3 - 16) = (a1.size : Int) - 3 - 16 := (by unfold wrap64; omega); have g19 : (a1.size : Int) - 3 - 16 < 0 := (by omega); clear h
     go_enter Tryz.func25, Tryz.ntmps25
     go_wp2_with ((with_reducible refine gd_ 6 rfl ?_); refine bx_ 6 rfl #[.slice none 0 0, .string ⟨#[]⟩, .int .i64 0] 25 ?_; intro b6 hg w2 hbox hb; have HX2 := Aside0.mk hbox; have HB2 := Aside0.mk hb; have HG6 := Aside0.mk (show w.heap.size ≤ b6 by rw [hg]; exact Nat.le_refl _); obtain ⟨x0, x1, x2⟩ := cc3_ hbox; obtain ⟨f0, f1, f2⟩ := cf3_ hbox; clear hb hbox hg)
     refine bodyPost_ret (results_ct rfl _ _ b6 25 #[.slice none 0 0, .string ⟨#[]⟩, .int .i64 0] (0, 0) _ rfl (blk3 HX2.out) Tryz.underlying25 rfl (by kernel_rfl)) rfl ⟨_, rfl, Kd.R_nil _ _ _ _ _, below3 HB2.out HG6.out⟩
   · rw [if_neg h19] at h
     have e4 : wrap64 ((a1.size : Int) - 3 - 16) = (a1.size : Int) - 3 - 16 := (by unfold wrap64; omega); have g19 : ¬ ((a1.size : Int) - 3 - 16 < 0) := (by omega); have g20 : (a1.size : Int) - 3 - 16 ≤ (a1.size : Int) := (by omega); have g21 : (0 : Int) ≤ (a1.size : Int) - 3 - 16 := (by omega); clear h19
     by_cases hp : Lib.hasPrefix (a1.extract (a1.size - 3 - 16) a1.size).data.toList [38, 115, 61] = true
     · rw [if_pos hp] at h
       have HP : Aside0 (Lib.hasPrefix (a1.extract (a1.size - 3 - 16) a1.size).data.toList (⟨#[38, 115, 61]⟩ : ByteArray).data.toList = true) := ⟨hp⟩; clear hp; obtain ⟨⟨l, p, n, okv⟩, ha, h⟩ := Option.bind_eq_some_iff.1 h
       dsimp only at h
       have HA := Aside0.mk ha; clear ha
       go_enter Tryz.func25, Tryz.ntmps25
       go_upto_region 5 with (first | ((with_reducible refine gd_ 6 rfl ?_); refine bx_ 6 rfl #[.slice none 0 0, .string ⟨#[]⟩, .int .i64 0] 25 ?_; intro b6 hg w2 hbox hb; have HX2 := Aside0.mk hbox; have HB2 := Aside0.mk hb; have HG6 := Aside0.mk (show w.heap.size ≤ b6 by rw [hg]; exact Nat.le_refl _); obtain ⟨x0, x1, x2⟩ := cc3_ hbox; obtain ⟨f0, f1, f2⟩ := cf3_ hbox; clear hb hbox hg) | (go_at_call 56; refine (prefix_calls (a1.extract (a1.size - 3 - 16) a1.size) ⟨#[38, 115, 61]⟩ true _ HP.out).mono ?_; rintro e w3 ⟨rfl, rfl⟩) | (go_at_call 13; refine (impl_AskRead.calls k (a1.extract 0 (a1.size - 3 - 16)) l p n okv _ HA.out (HG.out.belowW HB2.out)).mono ?_; rintro e w4 ⟨v, rfl, hR, hb⟩; have HX4 := Aside0.mk (blk_below HX2.out hb); have HB4 := Aside0.mk (below_step HB2.out hb); have HR4 : Aside0 (Kd.R k65 65 w4 w.heap.size (fun j => b6 < j) v l) := ⟨Kd.R_lower (Kd.R_mono (Kd.R_bound hR) (fun j hj => Nat.lt_of_lt_of_le (blk_lt HX2.out) hj.2.1)) HB2.out.size⟩; obtain ⟨A4, c4, rfl, hc4, hr4⟩ := Kd.R_reads hR; clear hb hR hc4 hr4) | ((with_reducible refine gd_ 9 rfl ?_); refine bx_ 9 rfl #[.slice none 0 0, .string ⟨#[]⟩, .int .i64 0] 25 ?_; intro b9 hg w5 hbox hb; have HX5 := Aside0.mk (blk_below HX4.out hb); have HN5 := Aside0.mk hbox; have H69 := Aside0.mk (show b6 < b9 by rw [hg]; exact blk_lt HX4.out); have HR5 := Aside0.mk (Kd.R_below (Kd.R_elderB HR4.out b9 (Nat.le_of_eq hg.symm)) hb); have HB5 := Aside0.mk (below_step HB4.out hb); clear x0 x1 x2 f0 f1 f2; obtain ⟨x0, x1, x2⟩ := cc3_ hbox; obtain ⟨f0, f1, f2⟩ := cf3_ hbox; clear hb hbox hg))
       generalize hw6 : ((w5.setCell ⟨b9, 0, none⟩ (.slice A4 l.length c4)).setCell ⟨b9, 1, none⟩ (.string p)).setCell ⟨b9, 2, none⟩ (.int .i64 n) = w6
       have H6 : Aside0 (UrlW k w w6 b6 b9 (.slice A4 l.length c4) l p n) := ⟨by
        rw [← hw6]
        have n9 : b6 ≠ b9 := Nat.ne_of_lt H69.out; have g9 : w.heap.size ≤ b9 := Nat.le_trans HG6.out (Nat.le_of_lt H69.out)
        exact ⟨blk_far (p := ⟨b9, 2, none⟩) (blk_far (p := ⟨b9, 1, none⟩) (blk_far (p := ⟨b9, 0, none⟩) HX5.out n9 _) n9 _) n9 _, blk3 HN5.out, HG6.out, H69.out, below3 HB5.out g9, Kd.R_far (p := ⟨b9, 2, none⟩) (Kd.R_far (p := ⟨b9, 1, none⟩) (Kd.R_far (p := ⟨b9, 0, none⟩) HR5.out (fun j hj => by show j ≠ b9; exact hj.2) _) (fun j hj => by show j ≠ b9; exact hj.2) _) (fun j hj => by show j ≠ b9; exact hj.2) _⟩⟩
       clear hw6 x0 x1 x2 f0 f1 f2; obtain ⟨x0, x1, x2⟩ := cc3_ H6.out.h6; obtain ⟨f0, f1, f2⟩ := cf3_ H6.out.h6; obtain ⟨y0, y1, y2⟩ := cc3_ H6.out.h9
       cases okv with
       | false =>
        rw [if_neg (by decide)] at h
        obtain ⟨rfl, rfl, rfl, rfl⟩ := tup4u h; clear h
        go_wp2
        refine bodyPost_ret (results_ct rfl _ _ b6 25 #[.slice none 0 0, .string ⟨#[]⟩, .int .i64 0] (0, 0) _ rfl (blk3 H6.out.h6) Tryz.underlying25 rfl (by kernel_rfl)) rfl ⟨_, rfl, Kd.R_nil _ _ _ _ _, below3 H6.out.bel H6.out.g6⟩
       | true =>
        rw [if_pos rfl] at h
        obtain ⟨tx, htx, h⟩ := Option.bind_eq_some_iff.1 h; have HTX := Aside0.mk htx; clear htx
        by_cases hc : tx.toList = a1.toList
        · rw [if_pos hc] at h
          have k0 := beq_iff_eq.mpr hc; have k1 := bne_eq_false_iff_eq.mpr hc; clear hc
          by_cases hn : n ≤ a2
          · rw [if_pos hn] at h
            obtain ⟨rfl, rfl, rfl, rfl⟩ := tup4u h; clear h
            go_wp2_with (go_at_call 7; rw [← HN0.out]; refine (impl_UrlText.calls k A0 c0 l0 A4 c4 l p n tx _ (Kd.C_below HC0.out H6.out.bel) HCc.out (Kd.R_reads' H6.out.row).2.2 (Kd.R_reads' H6.out.row).2.1 HTX.out (HG.out.belowW H6.out.bel)).mono ?_; rw [HN0.out]; rintro e w7 ⟨rfl, hb⟩; have H7 := Aside0.mk (H6.out.below hb); clear x0 x1 x2 f0 f1 f2 y0 y1 y2; obtain ⟨x0, x1, x2⟩ := cc3_ H7.out.h6; obtain ⟨f0, f1, f2⟩ := cf3_ H7.out.h6; obtain ⟨y0, y1, y2⟩ := cc3_ H7.out.h9; clear hb)
            refine bodyPost_ret (results_ct rfl _ _ b6 25 #[.slice none 0 0, .string ⟨#[]⟩, .int .i64 0] (0, 0) _ rfl (blk3 H7.out.h6) Tryz.underlying25 rfl (by kernel_rfl)) rfl ⟨_, rfl, Kd.R_nil _ _ _ _ _, below3 H7.out.bel H7.out.g6⟩
          · rw [if_neg hn] at h
            obtain ⟨rfl, rfl, rfl, rfl⟩ := tup4u h; clear h
            go_wp2_with (go_at_call 7; rw [← HN0.out]; refine (impl_UrlText.calls k A0 c0 l0 A4 c4 l p n tx _ (Kd.C_below HC0.out H6.out.bel) HCc.out (Kd.R_reads' H6.out.row).2.2 (Kd.R_reads' H6.out.row).2.1 HTX.out (HG.out.belowW H6.out.bel)).mono ?_; rw [HN0.out]; rintro e w7 ⟨rfl, hb⟩; have H7 := Aside0.mk (H6.out.below hb); clear x0 x1 x2 f0 f1 f2 y0 y1 y2; obtain ⟨x0, x1, x2⟩ := cc3_ H7.out.h6; obtain ⟨f0, f1, f2⟩ := cf3_ H7.out.h6; obtain ⟨y0, y1, y2⟩ := cc3_ H7.out.h9; clear hb)
            refine bodyPost_ret (results_ct rfl _ _ b6 25 #[.slice A4 l.length c4, .string p, .int .i64 n] (0, 0) _ rfl (blk3 H7.out.h6) Tryz.underlying25 rfl (by kernel_rfl)) rfl ⟨_, rfl, ?_, below3 H7.out.bel H7.out.g6⟩
            exact Kd.R_mono (Kd.R_far (p := ⟨b6, 2, none⟩) (Kd.R_far (p := ⟨b6, 1, none⟩) (Kd.R_far (p := ⟨b6, 0, none⟩) H7.out.row (fun j hj => by show j ≠ b6; exact Nat.ne_of_gt hj.1) _) (fun j hj => by show j ≠ b6; exact Nat.ne_of_gt hj.1) _) (fun j hj => by show j ≠ b6; exact Nat.ne_of_gt hj.1) _) (fun _ _ => trivial)
        · rw [if_neg hc] at h
          obtain ⟨rfl, rfl, rfl, rfl⟩ := tup4u h; have k0 := beq_eq_false_iff_ne.mpr hc; have k1 := bne_iff_ne.mpr hc; clear hc h
          go_wp2_with (go_at_call 7; rw [← HN0.out]; refine (impl_UrlText.calls k A0 c0 l0 A4 c4 l p n tx _ (Kd.C_below HC0.out H6.out.bel) HCc.out (Kd.R_reads' H6.out.row).2.2 (Kd.R_reads' H6.out.row).2.1 HTX.out (HG.out.belowW H6.out.bel)).mono ?_; rw [HN0.out]; rintro e w7 ⟨rfl, hb⟩; have H7 := Aside0.mk (H6.out.below hb); clear x0 x1 x2 f0 f1 f2 y0 y1 y2; obtain ⟨x0, x1, x2⟩ := cc3_ H7.out.h6; obtain ⟨f0, f1, f2⟩ := cf3_ H7.out.h6; obtain ⟨y0, y1, y2⟩ := cc3_ H7.out.h9; clear hb)
          refine bodyPost_ret (results_ct rfl _ _ b6 25 #[.slice none 0 0, .string ⟨#[]⟩, .int .i64 0] (0, 0) _ rfl (blk3 H7.out.h6) Tryz.underlying25 rfl (by kernel_rfl)) rfl ⟨_, rfl, Kd.R_nil _ _ _ _ _, below3 H7.out.bel H7.out.g6⟩
     · rw [if_neg hp] at h
       obtain ⟨rfl, rfl, rfl, rfl⟩ := tup4u h; have HP : Aside0 (Lib.hasPrefix (a1.extract (a1.size - 3 - 16) a1.size).data.toList (⟨#[38, 115, 61]⟩ : ByteArray).data.toList = false) := ⟨by simpa using hp⟩; clear hp h
       go_enter Tryz.func25, Tryz.ntmps25
       go_wp2_with (first | ((with_reducible refine gd_ 6 rfl ?_); refine bx_ 6 rfl #[.slice none 0 0, .string ⟨#[]⟩, .int .i64 0] 25 ?_; intro b6 hg w2 hbox hb; have HX2 := Aside0.mk hbox; have HB2 := Aside0.mk hb; have HG6 := Aside0.mk (show w.heap.size ≤ b6 by rw [hg]; exact Nat.le_refl _); obtain ⟨x0, x1, x2⟩ := cc3_ hbox; obtain ⟨f0, f1, f2⟩ := cf3_ hbox; clear hb hbox hg) | (go_at_call 56; refine (prefix_calls (a1.extract (a1.size - 3 - 16) a1.size) ⟨#[38, 115, 61]⟩ false _ HP.out).mono ?_; rintro e w3 ⟨rfl, rfl⟩))
       refine bodyPost_ret (results_ct rfl _ _ b6 25 #[.slice none 0 0, .string ⟨#[]⟩, .int .i64 0] (0, 0) _ rfl (blk3 HX2.out) Tryz.underlying25 rfl (by kernel_rfl)) rfl ⟨_, rfl, Kd.R_nil _ _ _ _ _, below3 HB2.out HG6.out⟩
theorem urlG_zero (k : Nat) (l0 : List Int) (a1 : ByteArray) (a2 : Int) (r1 : List (S65)) (r2 : ByteArray) (r3 r4 : Int) (h : urlG k l0 a1 a2 = some (r1, r2, r3, r4)) (hr : r4 ≠ 200) : r1 = [] ∧ r2 = ⟨#[]⟩ ∧ r3 = 0 := by
 unfold urlG at h
 split at h
 · obtain ⟨rfl, rfl, rfl, rfl⟩ := tup4u h; exact ⟨rfl, rfl, rfl⟩
 split at h
 · obtain ⟨rfl, rfl, rfl, rfl⟩ := tup4u h; exact ⟨rfl, rfl, rfl⟩
 split at h
 · obtain ⟨a, ha, h⟩ := Option.bind_eq_some_iff.1 h
   split at h
   · obtain ⟨t, ht, h⟩ := Option.bind_eq_some_iff.1 h
     split at h
     · split at h
       · obtain ⟨rfl, rfl, rfl, rfl⟩ := tup4u h; exact ⟨rfl, rfl, rfl⟩
       · obtain ⟨rfl, rfl, rfl, rfl⟩ := tup4u h; exact absurd rfl hr
     · obtain ⟨rfl, rfl, rfl, rfl⟩ := tup4u h; exact ⟨rfl, rfl, rfl⟩
   · obtain ⟨rfl, rfl, rfl, rfl⟩ := tup4u h; exact ⟨rfl, rfl, rfl⟩
 · obtain ⟨rfl, rfl, rfl, rfl⟩ := tup4u h; exact ⟨rfl, rfl, rfl⟩
set_option maxHeartbeats 8000000 in
set_option maxRecDepth 100000 in
theorem impl_UrlRead.calls (k : Nat) (A0 : Option Addr) (c0 : Nat) (l0 : List Int) (a1 : ByteArray) (a2 : Int) (r1 : List (S65)) (r2 : ByteArray) (r3 r4 : Int) (w : World) (hr0 : Kd.C (Kd.int .u8) w A0 l0.length l0) (hc0 : l0.length ≤ c0) (h : impl_UrlRead.f k l0 a1 a2 = some (r1, r2, r3, r4)) (hG : Glob w) :
  Calls Tryz.prog 10 #[.slice A0 l0.length c0, .string a1, .int .i64 a2] w fun e w' => ∃ v0_ : Value, e = .returned (.tuple #[.agg #[v0_, .string r2, .int .i64 r3], .int .i64 r4]) ∧ Kd.R k65 65 w' w.heap.size (fun _ => True) v0_ r1 ∧ Below w.heap.size w w' := by
 unfold impl_UrlRead.f at h
 by_cases hsz : a1.size ≤ 9223372036854775807
 case neg => rw [if_neg hsz] at h; cases h
 rw [if_pos hsz] at h
 have HG := Aside0.mk hG; have HC0 := Aside0.mk hr0; have HCc := Aside0.mk hc0; have H := Aside0.mk h; have HSZ := Aside0.mk hsz; have hzero := urlG_zero _ _ _ _ _ _ _ _ h; clear hG hr0 hc0 h hsz; have hu := Tryz.underlying25; have huf := Tryz.underlying53; have hz : ∀ w : World, (zeroValue 25).run Tryz.prog w = .ok (.agg #[.slice none 0 0, .string ⟨#[]⟩, .int .i64 0]) w := fun w => (by kernel_rfl); have hzf : ∀ w : World, (zeroValue 53).run Tryz.prog w = .ok (.agg #[.int .i64 0]) w := fun w => (by kernel_rfl); obtain ⟨n0, hn0⟩ : ∃ n, l0.length = n := ⟨_, rfl⟩; have HN0 := Aside0.mk hn0
 rw [hn0]
 clear hn0
 by_cases hr : r4 = 200
 · clear hzero
   have HE : Aside0 (errOf r4 = .nilIface) := ⟨by unfold errOf; rw [if_pos hr]⟩
   go_enter Tryz.func10, Tryz.ntmps10
   go_upto_region 2 with (first | ((with_reducible refine gd_ 6 rfl ?_); refine bx_ 6 rfl #[.slice none 0 0, .string ⟨#[]⟩, .int .i64 0] 25 ?_; intro b6 hg w2 hbox hb; have HX2 := Aside0.mk hbox; have HB2 := Aside0.mk hb; have HG6 := Aside0.mk (show w.heap.size ≤ b6 by rw [hg]; exact Nat.le_refl _); obtain ⟨x0, x1, x2⟩ := cc3_ hbox; obtain ⟨f0, f1, f2⟩ := cf3_ hbox; clear hb hbox hg) | (go_at_call 25; rw [← HN0.out]; refine (urlCheck_calls k A0 c0 l0 a1 a2 r1 r2 r3 r4 _ (Kd.C_below HC0.out HB2.out) HCc.out HSZ.out H.out (HG.out.belowW HB2.out)).mono ?_; rw [HN0.out]; rintro e w4 ⟨v, rfl, hR, hb⟩; rw [HE.out]; have HX4 := Aside0.mk (blk_below HX2.out hb); have HB4 := Aside0.mk (below_step HB2.out hb); have HR4 : Aside0 (Kd.R k65 65 w4 w.heap.size (fun j => b6 < j) v r1) := ⟨Kd.R_lower (Kd.R_mono (Kd.R_bound hR) (fun j hj => Nat.lt_of_lt_of_le (blk_lt HX2.out) hj.2.1)) HB2.out.size⟩; obtain ⟨A4, c4, rfl, hc4, hr4⟩ := Kd.R_reads hR; clear hb hR hc4 hr4) | ((with_reducible refine gd_ 8 rfl ?_); refine bx_ 8 rfl #[.slice none 0 0, .string ⟨#[]⟩, .int .i64 0] 25 ?_; intro b8 hg w5 hbox hb; have HX5 := Aside0.mk (blk_below HX4.out hb); have HN5 := Aside0.mk hbox; have H68 := Aside0.mk (show b6 < b8 by rw [hg]; exact blk_lt HX4.out); have HR5 := Aside0.mk (Kd.R_below (Kd.R_elderB HR4.out b8 (Nat.le_of_eq hg.symm)) hb); have HB5 := Aside0.mk (below_step HB4.out hb); clear x0 x1 x2 f0 f1 f2; obtain ⟨x0, x1, x2⟩ := cc3_ hbox; obtain ⟨f0, f1, f2⟩ := cf3_ hbox; clear hb hbox hg))
   generalize hw6 : ((w5.setCell ⟨b8, 0, none⟩ (.slice A4 r1.length c4)).setCell ⟨b8, 1, none⟩ (.string r2)).setCell ⟨b8, 2, none⟩ (.int .i64 r3) = w6
   have H6 : Aside0 (UrlW k w w6 b6 b8 (.slice A4 r1.length c4) r1 r2 r3) := ⟨by
    rw [← hw6]
    have n9 : b6 ≠ b8 := Nat.ne_of_lt H68.out; have g9 : w.heap.size ≤ b8 := Nat.le_trans HG6.out (Nat.le_of_lt H68.out)
    exact ⟨blk_far (p := ⟨b8, 2, none⟩) (blk_far (p := ⟨b8, 1, none⟩) (blk_far (p := ⟨b8, 0, none⟩) HX5.out n9 _) n9 _) n9 _, blk3 HN5.out, HG6.out, H68.out, below3 HB5.out g9, Kd.R_far (p := ⟨b8, 2, none⟩) (Kd.R_far (p := ⟨b8, 1, none⟩) (Kd.R_far (p := ⟨b8, 0, none⟩) HR5.out (fun j hj => by show j ≠ b8; exact hj.2) _) (fun j hj => by show j ≠ b8; exact hj.2) _) (fun j hj => by show j ≠ b8; exact hj.2) _⟩⟩
   clear hw6 x0 x1 x2 f0 f1 f2; obtain ⟨x0, x1, x2⟩ := cc3_ H6.out.h6; obtain ⟨f0, f1, f2⟩ := cf3_ H6.out.h6; obtain ⟨y0, y1, y2⟩ := cc3_ H6.out.h9
   go_wp2_with (first | ((with_reducible refine gd_ 10 rfl ?_); refine bx_ 10 rfl #[.int .i64 0] 53 ?_; intro b10 hg w7 hbox hb; have H7 := Aside0.mk (H6.out.below hb); have HF7 := Aside0.mk hbox; have H10 := Aside0.mk (show w.heap.size ≤ b10 by rw [hg]; exact H6.out.bel.size); have H10a := Aside0.mk (show b6 < b10 by rw [hg]; exact blk_lt H6.out.h6); have H10b := Aside0.mk (show b8 < b10 by rw [hg]; exact blk_lt H6.out.h9); have HR7 := Aside0.mk (Kd.R_below (Kd.R_elderB H6.out.row b10 (Nat.le_of_eq hg.symm)) hb); clear x0 x1 x2 f0 f1 f2 y0 y1 y2; obtain ⟨x0, x1, x2⟩ := cc3_ H7.out.h6; obtain ⟨f0, f1, f2⟩ := cf3_ H7.out.h6; obtain ⟨y0, y1, y2⟩ := cc3_ H7.out.h9; clear hb hbox hg) | (go_at_call 26; refine (as_nil _ _).mono ?_; rintro e w8 ⟨rfl, rfl⟩))
   rw [hr]
   refine bodyPost_ret (results_ct rfl _ _ b6 25 #[.slice A4 r1.length c4, .string r2, .int .i64 r3] (0, 0) _ rfl (blk3 H7.out.h6) Tryz.underlying25 rfl (by kernel_rfl)) rfl ⟨_, rfl, ?_, below3 H7.out.bel H7.out.g6⟩
   exact Kd.R_mono (Kd.R_far (p := ⟨b6, 2, none⟩) (Kd.R_far (p := ⟨b6, 1, none⟩) (Kd.R_far (p := ⟨b6, 0, none⟩) H7.out.row (fun j hj => by show j ≠ b6; exact Nat.ne_of_gt hj.1) _) (fun j hj => by show j ≠ b6; exact Nat.ne_of_gt hj.1) _) (fun j hj => by show j ≠ b6; exact Nat.ne_of_gt hj.1) _) (fun _ _ => trivial)
 · obtain ⟨q1, q2, q3⟩ := hzero hr
   have Q1 := Aside0.mk q1; have Q2 := Aside0.mk q2; have Q3 := Aside0.mk q3; clear hzero q1 q2 q3; have HE : Aside0 (errOf r4 = .iface 53 (.agg #[.int .i64 r4])) := ⟨by unfold errOf; rw [if_neg hr]⟩
   go_enter Tryz.func10, Tryz.ntmps10
   go_upto_region 2 with (first | ((with_reducible refine gd_ 6 rfl ?_); refine bx_ 6 rfl #[.slice none 0 0, .string ⟨#[]⟩, .int .i64 0] 25 ?_; intro b6 hg w2 hbox hb; have HX2 := Aside0.mk hbox; have HB2 := Aside0.mk hb; have HG6 := Aside0.mk (show w.heap.size ≤ b6 by rw [hg]; exact Nat.le_refl _); obtain ⟨x0, x1, x2⟩ := cc3_ hbox; obtain ⟨f0, f1, f2⟩ := cf3_ hbox; clear hb hbox hg) | (go_at_call 25; rw [← HN0.out]; refine (urlCheck_calls k A0 c0 l0 a1 a2 r1 r2 r3 r4 _ (Kd.C_below HC0.out HB2.out) HCc.out HSZ.out H.out (HG.out.belowW HB2.out)).mono ?_; rw [HN0.out]; rintro e w4 ⟨v, rfl, hR, hb⟩; rw [HE.out]; have HX4 := Aside0.mk (blk_below HX2.out hb); have HB4 := Aside0.mk (below_step HB2.out hb); have HR4 : Aside0 (Kd.R k65 65 w4 w.heap.size (fun j => b6 < j) v r1) := ⟨Kd.R_lower (Kd.R_mono (Kd.R_bound hR) (fun j hj => Nat.lt_of_lt_of_le (blk_lt HX2.out) hj.2.1)) HB2.out.size⟩; obtain ⟨A4, c4, rfl, hc4, hr4⟩ := Kd.R_reads hR; clear hb hR hc4 hr4) | ((with_reducible refine gd_ 8 rfl ?_); refine bx_ 8 rfl #[.slice none 0 0, .string ⟨#[]⟩, .int .i64 0] 25 ?_; intro b8 hg w5 hbox hb; have HX5 := Aside0.mk (blk_below HX4.out hb); have HN5 := Aside0.mk hbox; have H68 := Aside0.mk (show b6 < b8 by rw [hg]; exact blk_lt HX4.out); have HR5 := Aside0.mk (Kd.R_below (Kd.R_elderB HR4.out b8 (Nat.le_of_eq hg.symm)) hb); have HB5 := Aside0.mk (below_step HB4.out hb); clear x0 x1 x2 f0 f1 f2; obtain ⟨x0, x1, x2⟩ := cc3_ hbox; obtain ⟨f0, f1, f2⟩ := cf3_ hbox; clear hb hbox hg))
   generalize hw6 : ((w5.setCell ⟨b8, 0, none⟩ (.slice A4 r1.length c4)).setCell ⟨b8, 1, none⟩ (.string r2)).setCell ⟨b8, 2, none⟩ (.int .i64 r3) = w6
   have H6 : Aside0 (UrlW k w w6 b6 b8 (.slice A4 r1.length c4) r1 r2 r3) := ⟨by
    rw [← hw6]
    have n9 : b6 ≠ b8 := Nat.ne_of_lt H68.out; have g9 : w.heap.size ≤ b8 := Nat.le_trans HG6.out (Nat.le_of_lt H68.out)
    exact ⟨blk_far (p := ⟨b8, 2, none⟩) (blk_far (p := ⟨b8, 1, none⟩) (blk_far (p := ⟨b8, 0, none⟩) HX5.out n9 _) n9 _) n9 _, blk3 HN5.out, HG6.out, H68.out, below3 HB5.out g9, Kd.R_far (p := ⟨b8, 2, none⟩) (Kd.R_far (p := ⟨b8, 1, none⟩) (Kd.R_far (p := ⟨b8, 0, none⟩) HR5.out (fun j hj => by show j ≠ b8; exact hj.2) _) (fun j hj => by show j ≠ b8; exact hj.2) _) (fun j hj => by show j ≠ b8; exact hj.2) _⟩⟩
   clear hw6 x0 x1 x2 f0 f1 f2; obtain ⟨x0, x1, x2⟩ := cc3_ H6.out.h6; obtain ⟨f0, f1, f2⟩ := cf3_ H6.out.h6; obtain ⟨y0, y1, y2⟩ := cc3_ H6.out.h9
   go_wp2_with (first | ((with_reducible refine gd_ 10 rfl ?_); refine bx_ 10 rfl #[.int .i64 0] 53 ?_; intro b10 hg w7 hbox hb; have H7 := Aside0.mk (H6.out.below hb); have HF7 := Aside0.mk hbox; have H10 := Aside0.mk (show w.heap.size ≤ b10 by rw [hg]; exact H6.out.bel.size); have H10a := Aside0.mk (show b6 < b10 by rw [hg]; exact blk_lt H6.out.h6); have H10b := Aside0.mk (show b8 < b10 by rw [hg]; exact blk_lt H6.out.h9); have HR7 := Aside0.mk (Kd.R_below (Kd.R_elderB H6.out.row b10 (Nat.le_of_eq hg.symm)) hb); clear x0 x1 x2 f0 f1 f2 y0 y1 y2; obtain ⟨x0, x1, x2⟩ := cc3_ H7.out.h6; obtain ⟨f0, f1, f2⟩ := cf3_ H7.out.h6; obtain ⟨y0, y1, y2⟩ := cc3_ H7.out.h9; clear hb hbox hg) | (go_at_call 26; refine (as_hit_below r4 b10 0 _ (HG.out.belowW H7.out.bel).err HF7.out).mono ?_; rintro e w8 ⟨rfl, W, hb, hw8⟩; have H8 : Aside0 (w8.heap[b6]? = some (.cells #[.slice none 0 0, .string ⟨#[]⟩, .int .i64 0] 25 (0, 0)) ∧ w8.heap[b10]? = some (.cells #[.int .i64 r4] 53 (0, 0)) ∧ Below w.heap.size w w8) := ⟨by rw [hw8]; exact ⟨blk_far (p := ⟨b10, 0, none⟩) (blk_below H7.out.h6 hb) (Nat.ne_of_lt H10a.out) _, blk_set (blk_below HF7.out hb) 0 _, (below_step H7.out.bel hb).setCell (p := ⟨b10, 0, none⟩) H10.out _⟩⟩; clear hw8 hb x0 x1 x2 f0 f1 f2 y0 y1 y2; obtain ⟨x0, x1, x2⟩ := cc3_ H8.out.1; obtain ⟨f0, f1, f2⟩ := cf3_ H8.out.1; have z0 : w8.cell? ⟨b10, 0, none⟩ = some (.int .i64 r4) := (blk_cell H8.out.2.1 0).trans rfl))
   have z1 : (w8.setCell ⟨b6, 0, none⟩ (.slice none 0 0)).cell? ⟨b10, 0, none⟩ = some (.int .i64 r4) := (blk_cell (blk_far (p := ⟨b6, 0, none⟩) H8.out.2.1 (Nat.ne_of_gt H10a.out) _) 0).trans rfl
   go_region
   go_wp2
   obtain ⟨q1⟩ := Q1; obtain ⟨q2⟩ := Q2; obtain ⟨q3⟩ := Q3
   rw [q1, q2, q3]
   refine bodyPost_ret (results_ct rfl _ _ b6 25 #[.slice none 0 0, .string ⟨#[]⟩, .int .i64 0] (0, 0) _ rfl (blk3 H8.out.1) Tryz.underlying25 rfl (by kernel_rfl)) rfl ⟨_, rfl, Kd.R_nil _ _ _ _ _, below_drew (below3 H8.out.2.2 H6.out.g6)⟩
end
section
open Go.Proofs.YtmplnpjdbfedbaaGreatDoorW.PrintWords.Aside0 renaming mk → yaa
open Go.Proofs.YtmplnpjdbfedbaaGreatDoorW.PrintWords.Kd renaming R_reads' → yab, R_far → yad, R_below → yae
open Go.Proofs.YtmplnpjdbfedbaaGreatDoorW.PrintWords renaming pw_below_drewN → yac
def laws_FnUrlBent.f (k : Nat) (l0 : List Int) : Option (Bool) := if (l0.length : Int) > 1048576 then (some true) else ((spec_DrawUrlText.f k l0).bind fun bt101 => ((impl_UrlText.f k bt101.1 bt101.2.1 bt101.2.2.1 bt101.2.2.2).bind fun t110 => ((spec_UrlText.f k bt101.1 bt101.2.1 bt101.2.2.1 bt101.2.2.2).bind fun t111 => (if t110.toList = t111.toList then (if t110.toList = ([] : List UInt8) then ((laws_eaOk.f).bind fun t112 => (some t112)) else (if t110.size ≤ 9223372036854775807 then ((some (bytesN t110 : List Int)).bind fun y113 => (if 0 ≤ (wrap64 ((wrap64 ((y113.length : Int) - 1)) - (Int.tmod (wrap64 ((l0.length : Int) * 31)) 16))) then (if (wrap64 ((wrap64 ((y113.length : Int) - 1)) - (Int.tmod (wrap64 ((l0.length : Int) * 31)) 16))) < (y113.length : Int) then ((impl_UrlRead.f k bt101.1 (strOfNums (y113.set ((wrap64 ((wrap64 ((y113.length : Int) - 1)) - (Int.tmod (wrap64 ((l0.length : Int) * 31)) 16))) : Int).toNat (Go.bits .xor .u8 (rd y113 (wrap64 ((wrap64 ((y113.length : Int) - 1)) - (Int.tmod (wrap64 ((l0.length : Int) * 31)) 16)))) (1 + ((l0.length : Int) % 15))))) ((l0.length : Int) % 50)).bind fun bt118 => (some (bt118.2.2.2 == 403))) else (none)) else (none))) else (none))) else (some false)))))
set_option maxHeartbeats 8000000 in
set_option maxRecDepth 100000 in
theorem laws_FnUrlBent.calls (k : Nat) (A0 : Option Addr) (c0 : Nat) (l0 : List Int) (r : Bool) (w : World) (hr0 : Kd.C (Kd.int .u8) w A0 l0.length l0) (hc0 : l0.length ≤ c0) (h : laws_FnUrlBent.f k l0 = some r) (hrt : r = true) (hG : Glob w) :
  Calls Tryz.prog 3 #[.slice A0 l0.length c0] w fun e w' => e = .returned (.bool r) ∧ Below w.heap.size w w' := by
 have HG := yaa hG; clear hG; have hu25 := Tryz.underlying25; have HR0 := yaa hr0; have HC0 := yaa hc0; clear hr0 hc0; have HB := yaa (Below.refl w.heap.size w); have H : (if (l0.length : Int) > 1048576 then (some true) else ((spec_DrawUrlText.f k l0).bind fun a9 => ((impl_UrlText.f k a9.1 a9.2.1 a9.2.2.1 a9.2.2.2).bind fun b0 => ((spec_UrlText.f k a9.1 a9.2.1 a9.2.2.1 a9.2.2.2).bind fun b8 => (if b0.toList = b8.toList then (if b0.toList = ([] : List UInt8) then ((laws_eaOk.f).bind fun c8 => (some c8)) else (if b0.size ≤ 9223372036854775807 then ((some (bytesN b0 : List Int)).bind fun y113 => (if 0 ≤ (wrap64 ((wrap64 ((y113.length : Int) - 1)) - (Int.tmod (wrap64 ((l0.length : Int) * 31)) 16))) then (if (wrap64 ((wrap64 ((y113.length : Int) - 1)) - (Int.tmod (wrap64 ((l0.length : Int) * 31)) 16))) < (y113.length : Int) then ((impl_UrlRead.f k a9.1 (strOfNums (y113.set ((wrap64 ((wrap64 ((y113.length : Int) - 1)) - (Int.tmod (wrap64 ((l0.length : Int) * 31)) 16))) : Int).toNat (Go.bits .xor .u8 (rd y113 (wrap64 ((wrap64 ((y113.length : Int) - 1)) - (Int.tmod (wrap64 ((l0.length : Int) * 31)) 16)))) (1 + ((l0.length : Int) % 15))))) ((l0.length : Int) % 50)).bind fun b1 => (some (b1.2.2.2 == 403))) else (none)) else (none))) else (none))) else (some false)))))) = some r := h; clear h
 by_cases c2 : (l0.length : Int) > 1048576
 ·
  rw [if_pos c2] at H
  have g6 : decide (1048576 < (l0.length : Int)) = true := decide_eq_true c2; have g7 : decide (1048576 < l0.length) = true := decide_eq_true (by omega); clear c2; obtain rfl := Option.some.inj H
  go_enter Tryz.func3, Tryz.ntmps3
  go_wp2
  go_ret
  exact ⟨by first | rfl | (simp [*, errW_none, errW_some] <;> rfl), upH HB.out⟩
 rw [if_neg c2] at H
 have g6 : decide (1048576 < (l0.length : Int)) = false := decide_eq_false c2; have g7 : decide (1048576 < l0.length) = false := decide_eq_false (by omega); clear c2; obtain ⟨⟨a8, a5, a6, a7⟩, A3, H⟩ := bindA H; (try dsimp only at H); obtain ⟨b0, A4, H⟩ := bindA H; (try dsimp only at H); obtain ⟨b8, A5, H⟩ := bindA H; (try dsimp only at H)
 by_cases c6 : b0.toList = b8.toList
 rotate_left
 ·
  rw [if_neg c6] at H
  have g8 := beq_eq_false_iff_ne.mpr c6; have g9 := bne_iff_ne.mpr c6
  rw [hrt] at H
  exact absurd H (by simp)
 rw [if_pos c6] at H
 have g8 := beq_iff_eq.mpr c6; have g9 := bne_eq_false_iff_eq.mpr c6; clear c6
 by_cases c7 : b0.toList = ([] : List UInt8)
 ·
  rw [if_pos c7] at H
  have h0 := beq_iff_eq.mpr c7; have h2 := bne_eq_false_iff_eq.mpr c7; clear c7; obtain ⟨c8, A8, H⟩ := bindA H; (try dsimp only at H); obtain rfl := Option.some.inj H
  go_enter Tryz.func3, Tryz.ntmps3
  go_wp2_with (first | ((with_reducible refine gc_ 6 rfl ?_); refine gl_ (some 15) rfl Tryz.func6 #[.slice A0 l0.length c0] ?_; (with_reducible refine (spec_DrawUrlText.calls k _ _ l0 a8 a5 a6 a7 _ ?side1 ?side2 A3.out).mono ?_); (case side1 => repeat (first | exact HR0.out | (with_reducible refine Kd.C_alloc ?_ _) | (with_reducible refine Kd.C_drewN ?_ _) | (with_reducible refine Kd.C_drew ?_))); (case side2 => exact HC0.out); rintro e w9 ⟨h3, h4, rfl, ho0, ho1, hb⟩; refine ⟨_, rfl, ?_⟩; have a1 := yaa (Kd.R_lower ho0 (below_size (upH HB.out))); have a4 := yaa (Kd.R_lower ho1 (below_size (upH HB.out))); replace HB := yaa (below_step (upH HB.out) hb); (try clear hb ho0 ho1)) | ((with_reducible refine gd_ 4 rfl ?_); refine bx_ 4 rfl #[.slice none 0 0, .string (⟨#[]⟩ : ByteArray), .int .i64 0] 25 ?_; intro a2 hg w10 hbox hb; replace a1 := yaa (yae (upR a1.out) hb); replace a4 := yaa (yae (upR a4.out) hb); have a3 := yaa (hbox); have b9 := yaa ((by rw [hg]; exact (below_size (upH HB.out)) : w.heap.size ≤ a2)); replace HB := yaa (below_step (upH HB.out) hb); have d2 := b9; clear hb hbox hg; obtain ⟨b4, b2, h5⟩ := Kd.R_slice a4.out; subst h5; obtain ⟨d6, d7, d8⟩ := cc3_ a3.out; obtain ⟨d9, e0, e1⟩ := cf3_ a3.out; obtain ⟨d3, c9, h7⟩ := Kd.R_slice a1.out; subst h7) | ((with_reducible refine gc_ 7 rfl ?_); refine gl_ (some 20) rfl Tryz.func7 #[.slice d3 a8.length c9, .agg #[.slice b4 a5.length b2, .string a6, .int .i64 a7]] ?_; (with_reducible refine (impl_UrlText.calls k _ _ a8 _ _ a5 a6 a7 b0 _ ?side1 ?side2 ?side3 ?side4 A4.out ?sideG).mono ?_); (case sideG => exact Glob.belowW HG.out (by repeat (first | (with_reducible first | exact HB.out | apply below_alloc | apply yac | apply below_drew1 | refine below_set ?_ (Aside0.out ‹_›)) | exact HB.out | exact Below.refl _ _))); (case side1 => refine (yab (e := 5) (base := w.heap.size) (ok := fun k_ => True) (n := a8.length) (c := c9) ?_).2.2; exact (by (with_reducible repeat (first | apply Kd.R_alloc | apply Kd.R_drewN | apply Kd.R_drew)); exact (Kd.R_mono (yad (p := ⟨a2, 2, none⟩) (yad (p := ⟨a2, 1, none⟩) (yad (p := ⟨a2, 0, none⟩) (Kd.R_types a1.out a3.out (by decide)) (fun _ hk => hk.2) (.slice b4 a5.length b2)) (fun _ hk => hk.2) (.string a6)) (fun _ hk => hk.2) (.int .i64 a7)) (fun _ h_ => h_.1)))); (case side2 => exact (yab a1.out).2.1); (case side3 => refine (yab (e := 65) (base := w.heap.size) (ok := fun k_ => True) (n := a5.length) (c := b2) ?_).2.2; exact (by (with_reducible repeat (first | apply Kd.R_alloc | apply Kd.R_drewN | apply Kd.R_drew)); exact (Kd.R_mono (yad (p := ⟨a2, 2, none⟩) (yad (p := ⟨a2, 1, none⟩) (yad (p := ⟨a2, 0, none⟩) (Kd.R_types a4.out a3.out (by decide)) (fun _ hk => hk.2) (.slice b4 a5.length b2)) (fun _ hk => hk.2) (.string a6)) (fun _ hk => hk.2) (.int .i64 a7)) (fun _ h_ => h_.1)))); (case side4 => exact (yab a4.out).2.1); rintro e w14 ⟨rfl, hb⟩; refine ⟨_, rfl, ?_⟩; replace a1 := yaa (yae (by (with_reducible repeat (first | apply Kd.R_alloc | apply Kd.R_drewN | apply Kd.R_drew)); exact (Kd.R_mono (yad (p := ⟨a2, 2, none⟩) (yad (p := ⟨a2, 1, none⟩) (yad (p := ⟨a2, 0, none⟩) (Kd.R_types a1.out a3.out (by decide)) (fun _ hk => hk.2) (.slice b4 a5.length b2)) (fun _ hk => hk.2) (.string a6)) (fun _ hk => hk.2) (.int .i64 a7)) (fun _ h_ => h_.1))) hb); replace a4 := yaa (yae (by (with_reducible repeat (first | apply Kd.R_alloc | apply Kd.R_drewN | apply Kd.R_drew)); exact (Kd.R_mono (yad (p := ⟨a2, 2, none⟩) (yad (p := ⟨a2, 1, none⟩) (yad (p := ⟨a2, 0, none⟩) (Kd.R_types a4.out a3.out (by decide)) (fun _ hk => hk.2) (.slice b4 a5.length b2)) (fun _ hk => hk.2) (.string a6)) (fun _ hk => hk.2) (.int .i64 a7)) (fun _ h_ => h_.1))) hb); replace a3 := yaa (blk_below (g := a2) (o := .cells #[.slice b4 a5.length b2, .string a6, .int .i64 a7] 25 (0, 0)) (by (repeat refine oneB ?_); refine blk_put (cs := #[.slice b4 a5.length b2, .string a6, .int .i64 0]) ?_ 2 _ rfl; refine blk_put (cs := #[.slice b4 a5.length b2, .string (⟨#[]⟩ : ByteArray), .int .i64 0]) ?_ 1 _ rfl; refine blk_put (cs := #[.slice none 0 0, .string (⟨#[]⟩ : ByteArray), .int .i64 0]) ?_ 0 _ rfl; exact upB a3.out) hb); replace HB := yaa (below_step (by repeat (with_reducible first | exact HB.out | apply below_alloc | apply yac | apply below_drew1 | refine below_set ?_ (Aside0.out ‹_›))) hb); (try clear hb); obtain ⟨e2, e3, e4⟩ := cc3_ a3.out; obtain ⟨e5, e6⟩ := cf2_ a3.out; have e7 := blk_frozen a3.out 2) | ((with_reducible refine gc_ 8 rfl ?_); refine gl_ (some 24) rfl Tryz.func8 #[.slice d3 a8.length c9, .agg #[.slice b4 a5.length b2, .string a6, .int .i64 a7]] ?_; (with_reducible refine (spec_UrlText.calls k _ _ a8 _ _ a5 a6 a7 b8 _ ?side1 ?side2 ?side3 ?side4 A5.out).mono ?_); (case side1 => repeat (first | exact (yab a1.out).2.2 | (with_reducible refine Kd.C_alloc ?_ _) | (with_reducible refine Kd.C_drewN ?_ _) | (with_reducible refine Kd.C_drew ?_))); (case side2 => exact (yab a1.out).2.1); (case side3 => repeat (first | exact (yab a4.out).2.2 | (with_reducible refine Kd.C_alloc ?_ _) | (with_reducible refine Kd.C_drewN ?_ _) | (with_reducible refine Kd.C_drew ?_))); (case side4 => exact (yab a4.out).2.1); rintro e w16 ⟨rfl, hb⟩; refine ⟨_, rfl, ?_⟩; replace a1 := yaa (yae (upR a1.out) hb); replace a4 := yaa (yae (upR a4.out) hb); replace a3 := yaa (blk_below (upB a3.out) hb); replace HB := yaa (below_step (by repeat (with_reducible first | exact HB.out | apply below_alloc | apply yac | apply below_drew1 | refine below_set ?_ (Aside0.out ‹_›))) hb); (try clear hb)) | ((with_reducible refine gc_ 9 rfl ?_); refine gl_ (some 28) rfl Tryz.func9 #[] ?_; (with_reducible refine (laws_eaOk.calls  c8 _ A8.out).mono ?_); rintro e w17 ⟨rfl, hb⟩; refine ⟨_, rfl, ?_⟩; replace a1 := yaa (yae (upR a1.out) hb); replace a4 := yaa (yae (upR a4.out) hb); replace a3 := yaa (blk_below (upB a3.out) hb); replace HB := yaa (below_step (by repeat (with_reducible first | exact HB.out | apply below_alloc | apply yac | apply below_drew1 | refine below_set ?_ (Aside0.out ‹_›))) hb); (try clear hb)))
  go_ret
  exact ⟨by first | rfl | (simp [*, errW_none, errW_some] <;> rfl), by repeat (with_reducible first | exact HB.out | apply below_alloc | apply yac | apply below_drew1 | refine below_set ?_ (Aside0.out ‹_›))⟩
 rw [if_neg c7] at H
 have h0 := beq_eq_false_iff_ne.mpr c7; have h2 := bne_iff_ne.mpr c7
 by_cases c18 : b0.size ≤ 9223372036854775807
 rotate_left
 ·
  rw [if_neg c18] at H
  exact absurd H (by simp)
 rw [if_pos c18] at H
 have i7 := eq_true c18; have i8 : decide (b0.size ≤ 9223372036854775807) = true := decide_eq_true c18
 try have i9 : (9223372036854775807 < b0.size) = False := eq_false (Nat.not_lt.2 c18)
 clear c18; obtain ⟨y113, hy113⟩ : ∃ y_ : List Int, y_ = (bytesN b0) := ⟨_, rfl⟩
 replace H : (if 0 ≤ (wrap64 ((wrap64 ((y113.length : Int) - 1)) - (Int.tmod (wrap64 ((l0.length : Int) * 31)) 16))) then (if (wrap64 ((wrap64 ((y113.length : Int) - 1)) - (Int.tmod (wrap64 ((l0.length : Int) * 31)) 16))) < (y113.length : Int) then ((impl_UrlRead.f k a8 (strOfNums (y113.set ((wrap64 ((wrap64 ((y113.length : Int) - 1)) - (Int.tmod (wrap64 ((l0.length : Int) * 31)) 16))) : Int).toNat (Go.bits .xor .u8 (rd y113 (wrap64 ((wrap64 ((y113.length : Int) - 1)) - (Int.tmod (wrap64 ((l0.length : Int) * 31)) 16)))) (1 + ((l0.length : Int) % 15))))) ((l0.length : Int) % 50)).bind fun b1 => (some (b1.2.2.2 == 403))) else (none)) else (none)) = some r := by first | (rw [hy113]; with_reducible exact H) | (have H2_ := (Option.bind_some _ _).symm.trans H; rw [hy113]; with_reducible exact H2_) | (have H2_ := (Option.bind_some _ _).symm.trans H; with_reducible exact H2_) | with_reducible exact H | (rw [hy113]; exact H) | exact H
 have Ny113 := yaa hy113; clear hy113; obtain ⟨ji19, hji19⟩ : ∃ j_ : Int, (wrap64 ((wrap64 ((y113.length : Int) - 1)) - (Int.tmod (wrap64 ((l0.length : Int) * 31)) 16))) = j_ := ⟨_, rfl⟩
 replace H : (if 0 ≤ (ji19) then (if (ji19) < (y113.length : Int) then ((impl_UrlRead.f k a8 (strOfNums (y113.set ((ji19) : Int).toNat (Go.bits .xor .u8 (rd y113 (ji19)) (1 + ((l0.length : Int) % 15))))) ((l0.length : Int) % 50)).bind fun b1 => (some (b1.2.2.2 == 403))) else (none)) else (none)) = some r := by first | (rw [hji19] at H; exact H) | (simp only [hji19] at H ⊢; exact H)
 (try rw [hji19] at A3)
 (try rw [hji19] at A4)
 (try rw [hji19] at A5)
 have hji19w : (IntKind.i64.wrap ((wrap64 ((y113.length : Int) - 1)) - (Int.tmod (wrap64 ((l0.length : Int) * 31)) 16))) = ji19 := (i64_w _).trans hji19
 by_cases c20 : 0 ≤ (ji19)
 ·
  rw [if_pos c20] at H
  replace c20 := decide_eq_true c20
  by_cases c21 : (ji19) < (y113.length : Int)
  ·
   rw [if_pos c21] at H
   replace c21 := decide_eq_true c21; obtain ⟨y117, hy117⟩ : ∃ y_ : List Int, y_ = (y113.set ((ji19) : Int).toNat (Go.bits .xor .u8 (rd y113 (ji19)) (1 + ((l0.length : Int) % 15)))) := ⟨_, rfl⟩
   replace H : ((impl_UrlRead.f k a8 (strOfNums y117) ((l0.length : Int) % 50)).bind fun b1 => (some (b1.2.2.2 == 403))) = some r := by first | (rw [hy117]; with_reducible exact H) | (have H2_ := (Option.bind_some _ _).symm.trans H; rw [hy117]; with_reducible exact H2_) | (have H2_ := (Option.bind_some _ _).symm.trans H; with_reducible exact H2_) | with_reducible exact H | (rw [hy117]; exact H) | exact H
   have Ny117 := yaa hy117; clear hy117; obtain ⟨⟨h8, h9, i0, i1⟩, A23, H⟩ := bindA H; (try dsimp only at H); obtain rfl := Option.some.inj H
   go_enter Tryz.func3, Tryz.ntmps3
   go_wp2_with (first | ((with_reducible refine gc_ 6 rfl ?_); refine gl_ (some 15) rfl Tryz.func6 #[.slice A0 l0.length c0] ?_; (with_reducible refine (spec_DrawUrlText.calls k _ _ l0 a8 a5 a6 a7 _ ?side1 ?side2 A3.out).mono ?_); (case side1 => repeat (first | exact HR0.out | (with_reducible refine Kd.C_alloc ?_ _) | (with_reducible refine Kd.C_drewN ?_ _) | (with_reducible refine Kd.C_drew ?_))); (case side2 => exact HC0.out); rintro e w24 ⟨h3, h4, rfl, ho0, ho1, hb⟩; refine ⟨_, rfl, ?_⟩; have a1 := yaa (Kd.R_lower ho0 (below_size (upH HB.out))); have a4 := yaa (Kd.R_lower ho1 (below_size (upH HB.out))); replace HB := yaa (below_step (upH HB.out) hb); (try clear hb ho0 ho1)) | ((with_reducible refine gd_ 4 rfl ?_); refine bx_ 4 rfl #[.slice none 0 0, .string (⟨#[]⟩ : ByteArray), .int .i64 0] 25 ?_; intro a2 hg w25 hbox hb; replace a1 := yaa (yae (upR a1.out) hb); replace a4 := yaa (yae (upR a4.out) hb); have a3 := yaa (hbox); have b9 := yaa ((by rw [hg]; exact (below_size (upH HB.out)) : w.heap.size ≤ a2)); replace HB := yaa (below_step (upH HB.out) hb); have d2 := b9; clear hb hbox hg; obtain ⟨b5, b3, i2⟩ := Kd.R_slice a4.out; subst i2; obtain ⟨e8, e9, f0⟩ := cc3_ a3.out; obtain ⟨f1, f2, f3⟩ := cf3_ a3.out; obtain ⟨d0, c4, i3⟩ := Kd.R_slice a1.out; subst i3) | ((with_reducible refine gc_ 7 rfl ?_); refine gl_ (some 20) rfl Tryz.func7 #[.slice d0 a8.length c4, .agg #[.slice b5 a5.length b3, .string a6, .int .i64 a7]] ?_; (with_reducible refine (impl_UrlText.calls k _ _ a8 _ _ a5 a6 a7 b0 _ ?side1 ?side2 ?side3 ?side4 A4.out ?sideG).mono ?_); (case sideG => exact Glob.belowW HG.out (by repeat (first | (with_reducible first | exact HB.out | apply below_alloc | apply yac | apply below_drew1 | refine below_set ?_ (Aside0.out ‹_›)) | exact HB.out | exact Below.refl _ _))); (case side1 => refine (yab (e := 5) (base := w.heap.size) (ok := fun k_ => True) (n := a8.length) (c := c4) ?_).2.2; exact (by (with_reducible repeat (first | apply Kd.R_alloc | apply Kd.R_drewN | apply Kd.R_drew)); exact (Kd.R_mono (yad (p := ⟨a2, 2, none⟩) (yad (p := ⟨a2, 1, none⟩) (yad (p := ⟨a2, 0, none⟩) (Kd.R_types a1.out a3.out (by decide)) (fun _ hk => hk.2) (.slice b5 a5.length b3)) (fun _ hk => hk.2) (.string a6)) (fun _ hk => hk.2) (.int .i64 a7)) (fun _ h_ => h_.1)))); (case side2 => exact (yab a1.out).2.1); (case side3 => refine (yab (e := 65) (base := w.heap.size) (ok := fun k_ => True) (n := a5.length) (c := b3) ?_).2.2; exact (by (with_reducible repeat (first | apply Kd.R_alloc | apply Kd.R_drewN | apply Kd.R_drew)); exact (Kd.R_mono (yad (p := ⟨a2, 2, none⟩) (yad (p := ⟨a2, 1, none⟩) (yad (p := ⟨a2, 0, none⟩) (Kd.R_types a4.out a3.out (by decide)) (fun _ hk => hk.2) (.slice b5 a5.length b3)) (fun _ hk => hk.2) (.string a6)) (fun _ hk => hk.2) (.int .i64 a7)) (fun _ h_ => h_.1)))); (case side4 => exact (yab a4.out).2.1); rintro e w29 ⟨rfl, hb⟩; refine ⟨_, rfl, ?_⟩; replace a1 := yaa (yae (by (with_reducible repeat (first | apply Kd.R_alloc | apply Kd.R_drewN | apply Kd.R_drew)); exact (Kd.R_mono (yad (p := ⟨a2, 2, none⟩) (yad (p := ⟨a2, 1, none⟩) (yad (p := ⟨a2, 0, none⟩) (Kd.R_types a1.out a3.out (by decide)) (fun _ hk => hk.2) (.slice b5 a5.length b3)) (fun _ hk => hk.2) (.string a6)) (fun _ hk => hk.2) (.int .i64 a7)) (fun _ h_ => h_.1))) hb); replace a4 := yaa (yae (by (with_reducible repeat (first | apply Kd.R_alloc | apply Kd.R_drewN | apply Kd.R_drew)); exact (Kd.R_mono (yad (p := ⟨a2, 2, none⟩) (yad (p := ⟨a2, 1, none⟩) (yad (p := ⟨a2, 0, none⟩) (Kd.R_types a4.out a3.out (by decide)) (fun _ hk => hk.2) (.slice b5 a5.length b3)) (fun _ hk => hk.2) (.string a6)) (fun _ hk => hk.2) (.int .i64 a7)) (fun _ h_ => h_.1))) hb); replace a3 := yaa (blk_below (g := a2) (o := .cells #[.slice b5 a5.length b3, .string a6, .int .i64 a7] 25 (0, 0)) (by (repeat refine oneB ?_); refine blk_put (cs := #[.slice b5 a5.length b3, .string a6, .int .i64 0]) ?_ 2 _ rfl; refine blk_put (cs := #[.slice b5 a5.length b3, .string (⟨#[]⟩ : ByteArray), .int .i64 0]) ?_ 1 _ rfl; refine blk_put (cs := #[.slice none 0 0, .string (⟨#[]⟩ : ByteArray), .int .i64 0]) ?_ 0 _ rfl; exact upB a3.out) hb); replace HB := yaa (below_step (by repeat (with_reducible first | exact HB.out | apply below_alloc | apply yac | apply below_drew1 | refine below_set ?_ (Aside0.out ‹_›))) hb); (try clear hb); obtain ⟨f4, f5, f6⟩ := cc3_ a3.out; obtain ⟨f7, f8⟩ := cf2_ a3.out; have f9 := blk_frozen a3.out 2) | ((with_reducible refine gc_ 8 rfl ?_); refine gl_ (some 24) rfl Tryz.func8 #[.slice d0 a8.length c4, .agg #[.slice b5 a5.length b3, .string a6, .int .i64 a7]] ?_; (with_reducible refine (spec_UrlText.calls k _ _ a8 _ _ a5 a6 a7 b8 _ ?side1 ?side2 ?side3 ?side4 A5.out).mono ?_); (case side1 => repeat (first | exact (yab a1.out).2.2 | (with_reducible refine Kd.C_alloc ?_ _) | (with_reducible refine Kd.C_drewN ?_ _) | (with_reducible refine Kd.C_drew ?_))); (case side2 => exact (yab a1.out).2.1); (case side3 => repeat (first | exact (yab a4.out).2.2 | (with_reducible refine Kd.C_alloc ?_ _) | (with_reducible refine Kd.C_drewN ?_ _) | (with_reducible refine Kd.C_drew ?_))); (case side4 => exact (yab a4.out).2.1); rintro e w31 ⟨rfl, hb⟩; refine ⟨_, rfl, ?_⟩; replace a1 := yaa (yae (upR a1.out) hb); replace a4 := yaa (yae (upR a4.out) hb); replace a3 := yaa (blk_below (upB a3.out) hb); replace HB := yaa (below_step (by repeat (with_reducible first | exact HB.out | apply below_alloc | apply yac | apply below_drew1 | refine below_set ?_ (Aside0.out ‹_›))) hb); (try clear hb)) | ((with_reducible refine gd_ 30 rfl ?_); refine Kd.R_strB _ 5 rfl (N := 30) rfl 9 22 _ rfl b0 rfl Tryz.underlying9 Tryz.underlying22 Tryz.underlying5 (of_decide_eq_true (by assumption)) (Below.refl _ _) (Nat.le_refl _) ?_; intro j1 w32 c5 hb hg_ hnew_; clear hg_ hnew_; rw [← Ny113.out] at c5; obtain ⟨go22, j2, i4, gq_, gl_⟩ := RB.slice c5; subst i4; have n0_ := yaa (yae (Kd.R_elderB a1.out go22 gq_) hb); have n2_ := yaa c5; have GB22 : Aside0 (w.heap.size ≤ go22) := ⟨Nat.le_trans (below_size (by repeat (with_reducible first | exact HB.out | apply below_alloc | apply yac | apply below_drew1 | refine below_set ?_ (Aside0.out ‹_›)))) gq_⟩; have n4_ := yaa (below_step (by repeat (with_reducible first | exact HB.out | apply below_alloc | apply yac | apply below_drew1 | refine below_set ?_ (Aside0.out ‹_›))) hb); clear a1 HB; have a1 := n0_; have b6 := n2_; have HB := n4_; clear n0_ n2_ n4_; clear hb c5 gq_ gl_; have p22 : 0 ≤ ji19 := of_decide_eq_true (by assumption); have q22 : ji19 < (y113.length : Int) := of_decide_eq_true (by assumption); have d1 : Aside0 (ji19.toNat < y113.length) := ⟨by omega⟩; have i5 : w32.cell? ⟨go22, ji19.toNat, none⟩ = some (.int .u8 (rd y113 ji19)) := RB.cell b6.out _ d1.out; have hf22 := RB.lit b6.out _ d1.out; replace p22 := eq_true p22; replace q22 := eq_true q22) | ((with_reducible refine gate_store (t := 5) (p := 51) rfl ?_); refine store_event (t := 5) (p := 51) (v := ?vo_w36) (w1 := (w32.setCell ⟨go22, ((ji19) : Int).toNat, none⟩ (.int .u8 (Go.bits .xor .u8 (rd y113 (ji19)) (1 + ((l0.length : Int) % 15)))))) ?hg ?ho ?hn ?hr ?_; (case ho => rfl); (case hg => rfl); (case hn => rfl); (case hr => first | (go_simp; done) | (go_simp; rfl)); intro w36 hw; have n0_ := yad (p := ⟨go22, ji19.toNat, none⟩) a1.out (fun _ hk => hk.2) (.int .u8 (Go.bits .xor .u8 (rd y113 (ji19)) (1 + ((l0.length : Int) % 15)))); have n3_ := RB.set b6.out ji19.toNat d1.out (Go.bits .xor .u8 (rd y113 (ji19)) (1 + ((l0.length : Int) % 15))); have n4_ : Below w.heap.size w w36 := (by rw [hw]; exact below_set HB.out GB22.out); rw [← hw] at n0_ n3_; rw [← Ny117.out] at n3_; clear a1 HB b6 hw i5 hf22; have a1 := yaa n0_; have HB := yaa n4_; have hcv37 := RB.string (by rw [Ny117.out, List.length_set]) n3_; clear n0_ n3_ n4_) | ((with_reducible refine gc_ 10 rfl ?_); refine gl_ (some 59) rfl Tryz.func10 #[.slice d0 a8.length c4, .string (strOfNums y117), .int .i64 ((l0.length : Int) % 50)] ?_; (with_reducible refine (impl_UrlRead.calls k _ _ a8 (strOfNums y117) ((l0.length : Int) % 50) h8 h9 i0 i1 _ ?side1 ?side2 A23.out ?sideG).mono ?_); (case sideG => exact Glob.belowW HG.out (by repeat (first | (with_reducible first | exact HB.out | apply below_alloc | apply yac | apply below_drew1 | refine below_set ?_ (Aside0.out ‹_›)) | exact HB.out | exact Below.refl _ _))); (case side1 => repeat (first | exact (yab a1.out).2.2 | (with_reducible refine Kd.C_alloc ?_ _) | (with_reducible refine Kd.C_drewN ?_ _) | (with_reducible refine Kd.C_drew ?_))); (case side2 => exact (yab a1.out).2.1); rintro e w38 ⟨j3, rfl, ho0, hb⟩; refine ⟨_, rfl, ?_⟩; have n3_ := yaa (Kd.R_lower ho0 (below_size HB.out)); have n5_ := yaa (below_step HB.out hb); clear a1 HB hcv37; have b7 := n3_; have HB := n5_; clear n3_ n5_; clear hb ho0) | ((with_reducible refine gd_ 8 rfl ?_); refine bx_ 8 rfl #[.slice none 0 0, .string (⟨#[]⟩ : ByteArray), .int .i64 0] 25 ?_; intro d5 hg w39 hbox hb; have c1 := yaa hbox; have n6_ := yaa (yae b7.out hb); have j0 : Aside0 (w.heap.size ≤ d5) := ⟨by rw [hg]; exact below_size HB.out⟩; have n5_ := yaa (below_step HB.out hb); clear HB b7; have HB := n5_; have b7 := n6_; clear n5_ n6_; clear hb hbox hg; obtain ⟨j4, j5, i6⟩ := Kd.R_slice b7.out; subst i6; obtain ⟨g0, g1, g2⟩ := cc3_ c1.out; obtain ⟨g3, g4⟩ := cf2_ c1.out; have g5 := blk_frozen c1.out 2))
   go_ret
   exact ⟨by first | rfl | (simp [errW_none, errW_some] <;> rfl) | (simp only [← hji19]; first | rfl | (simp [errW_none, errW_some] <;> rfl)) | (simp [*, errW_none, errW_some] <;> rfl), by repeat (with_reducible first | exact HB.out | apply below_alloc | apply yac | apply below_drew1 | refine below_set ?_ (Aside0.out ‹_›))⟩
  rw [if_neg c21] at H
  exact absurd H (by simp)
 rw [if_neg c20] at H
 exact absurd H (by simp)
def laws_FnUrlBent.Pure : Prop := ∀ (l0 : List Int), l0.length ≤ maxLen → l0.length * 1 ≤ 140737488351232 → (∀ x ∈ l0, (Lit.int .u8 x).wf = true) → ∃ k, laws_FnUrlBent.f k l0 = some true
theorem laws_FnUrlBent.walk (P : laws_FnUrlBent.Pure) (a0 : Option Addr) (len0 cap0 : Nat) (z0 : List Int) (w : World) (w0 : (a0 = none ∧ len0 = 0 ∧ cap0 = 0 ∧ z0 = []) ∨ ∃ x, a0 = some x ∧ len0 ≤ cap0 ∧ cap0 ≤ maxLen ∧ z0.length = cap0 ∧ (∀ i, i < z0.length → w.cell? (x.add i) = some (.int .u8 (z0.getD i 0))) ∧ ∀ n ∈ z0, (Lit.int .u8 n).wf = true) (y0 : len0 * 1 ≤ 140737488351232) (hG : Glob w) :
  Calls Tryz.prog 3 #[.slice a0 len0 cap0] w fun e w' => e = .returned (.bool true) ∧ Below w.heap.size w w' := by
 obtain ⟨l0, rfl, hr0, hm0, hw0, hc0⟩ := ReadsInt.ofRowC w0; obtain ⟨k, h⟩ := P l0 hm0 y0 hw0
 refine (laws_FnUrlBent.calls k _ _ l0 true w (Kd.C_of_reads (d := (0 : Int)) (h1 := fun _ => rfl) hr0) hc0 h rfl hG).mono ?_
 rintro e w' ⟨rfl, hd⟩
 exact ⟨rfl, hd⟩
end
end Go.Proofs.YtmplnpjdbfedbaaGreatDoor.X
namespace Go.Proofs.YtmplnpjdbfedbaaGreatDoor.Pl
open Go.RowKit Go.Proofs.YtmplnpjdbfedbaaGreatDoorW.PrintWords
theorem wrap_id {x : Int} (h0 : -9223372036854775808 ≤ x) (h1 : x ≤ 9223372036854775807) : wrap64 x = x := by
  unfold wrap64; omega
theorem wrap_succ {i : Nat} (h : i < 9223372036854775807) : wrap64 ((i : Int) + 1) = ((i + 1 : Nat) : Int) := by
  unfold wrap64; omega
theorem ev_succ {α : Type} {g : Nat → Option α} {r : α} (h : Ev (fun k => g (k + 1)) r) : Ev g r := by
  obtain ⟨K, h⟩ := h
  refine ⟨K + 1, fun n hn => ?_⟩
  obtain ⟨m, rfl⟩ : ∃ m, n = m + 1 := ⟨n - 1, by omega⟩
  exact h m (by omega)
theorem rd_nat (l : List Int) (i : Nat) : rd l (i : Int) = l.getD i 0 := rfl
theorem getD_mem {α : Type} (l : List α) (z : α) (i : Nat) (h : i < l.length) : l.getD i z ∈ l := by
  rw [List.getD_eq_getElem?_getD, List.getElem?_eq_getElem h]; exact List.getElem_mem h
theorem ev_allR (n : Nat) (p : Nat → Bool) (b : Bool) (g : Nat → Int → Option Bool)
    (hyes : ∀ i, i < n → p i = true → ∀ r, Ev (fun k => g k ((i + 1 : Nat) : Int)) r → Ev (fun k => g k (i : Int)) r)
    (hno : ∀ i, i < n → p i = false → Ev (fun k => g k (i : Int)) false)
    (hend : Ev (fun k => g k (n : Int)) b) : Ev (fun k => g k 0) ((List.range n).all p && b) := by
  have key : ∀ d i, i + d = n → Ev (fun k => g k (i : Int)) (((List.range' i d).all p) && b) := by
    intro d
    induction d with
    | zero => intro i hi; have : i = n := by omega
              subst this; simpa using hend
    | succ d ih =>
      intro i hi
      have := ih (i + 1) (by omega)
      rw [List.range'_succ, List.all_cons]
      cases hp : p i with
      | true => simpa using hyes i (by omega) hp _ this
      | false => simpa using hno i (by omega) hp
  have := key n 0 (by omega)
  rwa [← List.range_eq_range'] at this
theorem Ev.at_ {α : Type} {g : Nat → Option α} {r : α} (h : Ev g r) : ∃ K, ∀ k, K ≤ k → g k = some r := h
theorem ev_const {α : Type} {x : Option α} {r : α} (h : x = some r) : Ev (fun _ => x) r := ⟨0, fun _ _ => h⟩
def Tot {α : Type} (g : Nat → Option α) (post : α → Prop) : Prop := ∃ r, Ev g r ∧ post r
theorem Tot.ret {α : Type} {post : α → Prop} {r : α} (h : post r) : Tot (fun _ => some r) post := ⟨r, Ev.now r, h⟩
theorem Tot.mono {α : Type} {g : Nat → Option α} {P Q : α → Prop} (h : Tot g P) (hi : ∀ r, P r → Q r) : Tot g Q := by
  obtain ⟨r, h, hp⟩ := h
  exact ⟨r, h, hi r hp⟩
theorem Tot.bind {α β : Type} {g : Nat → Option α} {f : Nat → α → Option β} {P : α → Prop} {Q : β → Prop} (h : Tot g P) (hf : ∀ a, P a → Tot (fun k => f k a) Q) : Tot (fun k => (g k).bind (f k)) Q := by
  obtain ⟨a, h, hp⟩ := h
  obtain ⟨r, h2, hq⟩ := hf a hp
  exact ⟨r, Ev.bind h h2, hq⟩
theorem Tot.some_bind {α β : Type} {f : Nat → α → Option β} {Q : β → Prop} {a : α} (hf : Tot (fun k => f k a) Q) : Tot (fun k => (some a).bind (f k)) Q := hf
theorem Tot.ite {α : Type} {c : Prop} [Decidable c] {f g : Nat → Option α} {Q : α → Prop} (h1 : c → Tot f Q) (h2 : ¬ c → Tot g Q) : Tot (fun k => if c then f k else g k) Q := by
  by_cases h : c
  · simpa [h] using h1 h
  · simpa [h] using h2 h
theorem Tot.pos {α : Type} {c : Prop} [Decidable c] {f g : Nat → Option α} {Q : α → Prop} (h : c) (h1 : Tot f Q) : Tot (fun k => if c then f k else g k) Q := by simpa [h] using h1
theorem Tot.neg {α : Type} {c : Prop} [Decidable c] {f g : Nat → Option α} {Q : α → Prop} (h : ¬ c) (h1 : Tot g Q) : Tot (fun k => if c then f k else g k) Q := by simpa [h] using h1
theorem Tot.succ {α : Type} {g : Nat → Option α} {Q : α → Prop} (h : Tot (fun k => g (k + 1)) Q) : Tot g Q := by
  obtain ⟨r, h, hp⟩ := h
  exact ⟨r, ev_succ h, hp⟩
theorem Tot.of_ev {α : Type} {g : Nat → Option α} {r : α} (h : Ev g r) : Tot g (fun x => x = r) := ⟨r, h, rfl⟩
theorem Tot.of_eq {α : Type} {x : Option α} {r : α} (h : x = some r) : Tot (fun _ => x) (fun y => y = r) := ⟨r, ev_const h, rfl⟩
theorem Tot.ev {α : Type} {g : Nat → Option α} {P : α → Prop} (h : Tot g P) : ∃ r, Ev g r ∧ P r := h
theorem tot_ind {α σ : Type} (g : Nat → σ → Option α) (Inv : σ → Prop) (m : σ → Nat) (post : α → Prop)
    (h : ∀ s, Inv s → (∀ s', Inv s' → m s' < m s → Tot (fun k => g k s') post) → Tot (fun k => g k s) post) : ∀ s, Inv s → Tot (fun k => g k s) post := by
  have key : ∀ d s, m s < d → Inv s → Tot (fun k => g k s) post := by
    intro d
    induction d with
    | zero => intro s h; omega
    | succ d ih => intro s hd hs; exact h s hs (fun s' hs' hm => ih s' (by omega) hs')
  intro s hs
  exact key (m s + 1) s (by omega) hs
theorem Tot.rounds {g : Nat → Option Bool} (h : Tot g (fun b => b = true)) : ∃ k, g k = some true := by
  obtain ⟨r, h, rfl⟩ := h
  exact h.rounds
end Go.Proofs.YtmplnpjdbfedbaaGreatDoor.Pl
namespace Go.Proofs.YtmplnpjdbfedbaaGreatDoor.X
open Go.RowKit Go.Proofs.YtmplnpjdbfedbaaGreatDoorW.PrintWords Go.Proofs.YtmplnpjdbfedbaaGreatDoor.Pl
set_option linter.unusedSimpArgs false
theorem l1In_some (a b c : Int) : spec_l1In.f a b c = some (decide (b ≤ a ∧ a ≤ c)) := by
  unfold spec_l1In.f
  by_cases h : b ≤ a <;> simp [h]
theorem within_some (a b c : Int) : impl_within.f a b c = some (decide (b ≤ a ∧ a ≤ c)) := by
  unfold impl_within.f
  by_cases h : b ≤ a <;> simp [h]
theorem sizeOk_some (a : Int) : impl_sizeOk.f a = some (decide (1 ≤ a ∧ a ≤ 6)) := by
  unfold impl_sizeOk.f
  by_cases h : 1 ≤ a <;> simp [h]
theorem partOk_some (a : Int) : impl_partOk.f a = some (decide (0 ≤ a ∧ a ≤ 255)) := by
  unfold impl_partOk.f
  by_cases h : 0 ≤ a <;> simp [h]
def opOkB (o a b c d : Int) : Bool :=
  if o = 1 then decide (0 ≤ a ∧ a ≤ 5) && (decide (0 ≤ b ∧ b ≤ 5) && (decide (1 ≤ c ∧ c ≤ 6) && decide (1 ≤ d ∧ d ≤ 6)))
  else if o = 7 then decide (1 ≤ a ∧ a ≤ 6) && (decide (1 ≤ b ∧ b ≤ 6) && (decide (c = 0) && decide (d = 0)))
  else if o = 8 then decide (0 ≤ a ∧ a ≤ 255) && (decide (0 ≤ b ∧ b ≤ 255) && (decide (0 ≤ c ∧ c ≤ 255) && decide (d = 0)))
  else decide (2 ≤ o ∧ o ≤ 6) && (decide (a = 0) && (decide (b = 0) && (decide (c = 0) && decide (d = 0))))
theorem spec_OpOk_some (o a b c d : Int) : spec_OpOk.f o a b c d = some (opOkB o a b c d) := by
  unfold spec_OpOk.f opOkB
  simp only [l1In_some, Option.bind_some]
  by_cases h1 : o = 1
  · simp only [h1, if_true]
    by_cases p : 0 ≤ a ∧ a ≤ 5 <;> by_cases q : 0 ≤ b ∧ b ≤ 5 <;> by_cases r : 1 ≤ c ∧ c ≤ 6 <;> simp [p, q, r]
  · simp only [h1, if_false]
    by_cases h7 : o = 7
    · simp only [h7, if_true]
      by_cases p : 1 ≤ a ∧ a ≤ 6 <;> by_cases q : 1 ≤ b ∧ b ≤ 6 <;> by_cases r : c = 0 <;> simp [p, q, r]; rfl
    · simp only [h7, if_false]
      by_cases h8 : o = 8
      · simp only [h8, if_true]
        by_cases p : 0 ≤ a ∧ a ≤ 255 <;> by_cases q : 0 ≤ b ∧ b ≤ 255 <;> by_cases r : 0 ≤ c ∧ c ≤ 255 <;> simp [p, q, r]; rfl
      · simp only [h8, if_false]
        by_cases p : 2 ≤ o ∧ o ≤ 6 <;> by_cases q : a = 0 <;> by_cases r : b = 0 <;> by_cases s : c = 0 <;> simp [p, q, r, s]; rfl
theorem impl_OpOk_some (k : Nat) (o a b c d : Int) : impl_OpOk.f (k + 1) o a b c d = some (opOkB o a b c d) := by
  unfold impl_OpOk.f opOkB
  simp only [impl_OpOk.j0, within_some, sizeOk_some, partOk_some, Option.bind_some]
  by_cases h1 : o = 1
  · simp only [h1, if_true]
    by_cases p : 0 ≤ a ∧ a ≤ 5 <;> by_cases q : 0 ≤ b ∧ b ≤ 5 <;> by_cases r : 1 ≤ c ∧ c ≤ 6 <;> simp [p, q, r]
  · simp only [h1, if_false]
    by_cases h2 : o = 2
    · subst h2; simp; rfl
    by_cases h3 : o = 3
    · subst h3; simp; rfl
    by_cases h4 : o = 4
    · subst h4; simp; rfl
    by_cases h5 : o = 5
    · subst h5; simp; rfl
    by_cases h6 : o = 6
    · subst h6; simp; rfl
    by_cases h7 : o = 7
    · subst h7
      simp only [show ¬ ((7 : Int) = 2) by decide, show ¬ ((7 : Int) = 3) by decide, show ¬ ((7 : Int) = 4) by decide, show ¬ ((7 : Int) = 5) by decide, if_false, if_true]
      by_cases p : 1 ≤ a ∧ a ≤ 6 <;> by_cases q : 1 ≤ b ∧ b ≤ 6 <;> by_cases r : c = 0 <;> simp [p, q, r]; rfl
    by_cases h8 : o = 8
    · subst h8
      simp only [show ¬ ((8 : Int) = 2) by decide, show ¬ ((8 : Int) = 3) by decide, show ¬ ((8 : Int) = 4) by decide, show ¬ ((8 : Int) = 5) by decide, show ¬ ((8 : Int) = 7) by decide, if_false, if_true]
      by_cases p : 0 ≤ a ∧ a ≤ 255 <;> by_cases q : 0 ≤ b ∧ b ≤ 255 <;> by_cases r : 0 ≤ c ∧ c ≤ 255 <;> simp [p, q, r]; rfl
    have h9 : ¬ (2 ≤ o ∧ o ≤ 6) := by omega
    have h6' : (o == 6) = false := by simpa using h6
    simp [h2, h3, h4, h5, h7, h8, h9, h6']
abbrev Op := S65
def okB (x : Op) : Bool := opOkB x.f0 x.f1 x.f2 x.f3 x.f4
def opAt (l : List Op) (i : Nat) : Op := rd_T65 l (i : Int)
def allOkB (l : List Op) : Bool := decide (l.length ≤ 5) && (List.range l.length).all fun i => okB (opAt l i)
theorem spec_l6All_ev (l : List Op) (hl : l.length ≤ 4611686018427387904) : Ev (fun k => spec_l6All.f k l) (allOkB l) := by
  have := ev_allR l.length (fun i => okB (opAt l i)) (decide ((l.length : Int) ≤ 5)) (fun k i => spec_l6All.l0 k l i) ?_ ?_ ?_
  · have e : allOkB l = ((List.range l.length).all (fun i => okB (opAt l i)) && decide ((l.length : Int) ≤ 5)) := by
      unfold allOkB
      rw [Bool.and_comm]
      congr 1
      simp only [decide_eq_decide]
      omega
    rw [e]
    exact this
  · intro i hi hp r h
    refine Ev.step (fun k => ?_) h
    have e := spec_OpOk_some (rd_T65 l (i : Int)).f0 (rd_T65 l (i : Int)).f1 (rd_T65 l (i : Int)).f2 (rd_T65 l (i : Int)).f3 (rd_T65 l (i : Int)).f4
    simp only [spec_l6All.l0]
    rw [if_pos (by omega), if_pos (by omega), e]
    simp only [Option.bind_some]
    rw [if_pos (show opOkB (rd_T65 l (i : Int)).f0 (rd_T65 l (i : Int)).f1 (rd_T65 l (i : Int)).f2 (rd_T65 l (i : Int)).f3 (rd_T65 l (i : Int)).f4 = true from hp), wrap_succ (by omega)]
  · intro i hi hp
    refine ev_succ ⟨0, fun k _ => ?_⟩
    have e := spec_OpOk_some (rd_T65 l (i : Int)).f0 (rd_T65 l (i : Int)).f1 (rd_T65 l (i : Int)).f2 (rd_T65 l (i : Int)).f3 (rd_T65 l (i : Int)).f4
    simp only [spec_l6All.l0]
    rw [if_pos (by omega), if_pos (by omega), e]
    simp only [Option.bind_some]
    rw [if_neg (show ¬ (opOkB (rd_T65 l (i : Int)).f0 (rd_T65 l (i : Int)).f1 (rd_T65 l (i : Int)).f2 (rd_T65 l (i : Int)).f3 (rd_T65 l (i : Int)).f4 = true) from by have hp2 : opOkB (rd_T65 l (i : Int)).f0 (rd_T65 l (i : Int)).f1 (rd_T65 l (i : Int)).f2 (rd_T65 l (i : Int)).f3 (rd_T65 l (i : Int)).f4 = false := hp; rw [hp2]; decide)]
  · refine ev_succ ⟨0, fun k _ => ?_⟩
    simp only [spec_l6All.l0]
    rw [if_neg (by omega)]
theorem impl_opsOk_ev (l : List Op) (hl : l.length ≤ 4611686018427387904) : Ev (fun k => impl_opsOk.f k l) (allOkB l) := by
  by_cases h5 : l.length ≤ 5
  · have := ev_allR l.length (fun i => okB (opAt l i)) true (fun k i => impl_opsOk.l0 k l (l.length : Int) i) ?_ ?_ ?_
    · have e : allOkB l = ((List.range l.length).all (fun i => okB (opAt l i)) && true) := by
        unfold allOkB
        simp [h5]
      rw [e]
      refine Ev.congr (fun k => ?_) this
      show impl_opsOk.f k l = _
      unfold impl_opsOk.f
      rw [if_neg (by omega)]
    · intro i hi hp r h
      obtain ⟨K, h⟩ := h
      refine ⟨K + 2, fun k hk => ?_⟩
      obtain ⟨k, rfl⟩ : ∃ m, k = m + 2 := ⟨k - 2, by omega⟩
      have e := impl_OpOk_some k (rd_T65 l (i : Int)).f0 (rd_T65 l (i : Int)).f1 (rd_T65 l (i : Int)).f2 (rd_T65 l (i : Int)).f3 (rd_T65 l (i : Int)).f4
      have e2 := h (k + 1) (by omega)
      dsimp only at e2 ⊢
      simp only [impl_opsOk.l0] at e2 ⊢
      rw [if_pos (by omega), if_pos (by omega), if_pos (by omega), e]
      simp only [Option.bind_some]
      rw [if_pos (show opOkB (rd_T65 l (i : Int)).f0 (rd_T65 l (i : Int)).f1 (rd_T65 l (i : Int)).f2 (rd_T65 l (i : Int)).f3 (rd_T65 l (i : Int)).f4 = true from hp), wrap_succ (by omega)]
      exact e2
    · intro i hi hp
      refine ev_succ (ev_succ ⟨0, fun k _ => ?_⟩)
      have e := impl_OpOk_some k (rd_T65 l (i : Int)).f0 (rd_T65 l (i : Int)).f1 (rd_T65 l (i : Int)).f2 (rd_T65 l (i : Int)).f3 (rd_T65 l (i : Int)).f4
      simp only [impl_opsOk.l0]
      rw [if_pos (by omega), if_pos (by omega), if_pos (by omega), e]
      simp only [Option.bind_some]
      rw [if_neg (show ¬ (opOkB (rd_T65 l (i : Int)).f0 (rd_T65 l (i : Int)).f1 (rd_T65 l (i : Int)).f2 (rd_T65 l (i : Int)).f3 (rd_T65 l (i : Int)).f4 = true) from by have hp2 : opOkB (rd_T65 l (i : Int)).f0 (rd_T65 l (i : Int)).f1 (rd_T65 l (i : Int)).f2 (rd_T65 l (i : Int)).f3 (rd_T65 l (i : Int)).f4 = false := hp; rw [hp2]; decide)]
    · refine ev_succ ⟨0, fun k _ => ?_⟩
      simp only [impl_opsOk.l0]
      rw [if_neg (by omega)]
  · have e : allOkB l = false := by
      unfold allOkB
      simp [h5]
    rw [e]
    refine ⟨0, fun k _ => ?_⟩
    show impl_opsOk.f k l = _
    unfold impl_opsOk.f
    rw [if_pos (by omega)]
def signB (c : Int) : Bool := decide (97 ≤ c ∧ c ≤ 122) || decide (48 ≤ c ∧ c ≤ 57)
def nameB (s : ByteArray) : Bool := decide (1 ≤ s.size ∧ s.size ≤ 6) && (List.range s.size).all fun i => signB (bt s (i : Int))
theorem impl_nameOk_ev (s : ByteArray) : Ev (fun k => impl_nameOk.f k s) (nameB s) := by
  by_cases hs : 1 ≤ s.size ∧ s.size ≤ 6
  · have := ev_allR s.size (fun i => signB (bt s (i : Int))) true (fun k i => impl_nameOk.l0 k s (s.size : Int) i) ?_ ?_ ?_
    · have e : nameB s = ((List.range s.size).all (fun i => signB (bt s (i : Int))) && true) := by
        unfold nameB
        simp [hs]
      rw [e]
      refine Ev.step (fun k => ?_) this
      unfold impl_nameOk.f
      rw [if_neg (by omega)]
      simp only [impl_nameOk.j0]
      rw [if_neg (by simp; omega)]
    · intro i hi hp r h
      refine Ev.step (fun k => ?_) h
      simp only [impl_nameOk.l0]
      rw [if_pos (by omega), if_pos (by omega), if_pos (by omega), wrap_succ (by omega)]
      simp only [signB, Bool.or_eq_true, decide_eq_true_eq] at hp
      repeat' split
      all_goals first | rfl | (exfalso; omega)
    · intro i hi hp
      refine ev_succ ⟨0, fun k _ => ?_⟩
      simp only [impl_nameOk.l0]
      rw [if_pos (by omega), if_pos (by omega), if_pos (by omega)]
      simp only [signB, Bool.or_eq_false_iff, decide_eq_false_iff_not] at hp
      repeat' split
      all_goals first | rfl | (exfalso; omega)
    · refine ev_succ ⟨0, fun k _ => ?_⟩
      simp only [impl_nameOk.l0]
      rw [if_neg (by omega)]
  · have e : nameB s = false := by
      unfold nameB
      simp only [hs, decide_false, Bool.false_and]
    rw [e]
    refine ev_succ ⟨0, fun k _ => ?_⟩
    unfold impl_nameOk.f
    simp only [impl_nameOk.j0]
    split
    · rfl
    · rw [if_pos (by simp; omega)]
theorem spec_l7Path_ev (s : ByteArray) : Ev (fun k => spec_l7Path.f k s) (nameB s) := by
  by_cases hs : 1 ≤ s.size ∧ s.size ≤ 6
  · have := ev_allR s.size (fun i => signB (bt s (i : Int))) true (fun k i => spec_l7Path.l0 k s i) ?_ ?_ ?_
    · have e : nameB s = ((List.range s.size).all (fun i => signB (bt s (i : Int))) && true) := by
        unfold nameB
        simp [hs]
      rw [e]
      refine Ev.step (fun k => ?_) this
      unfold spec_l7Path.f
      rw [if_neg (by omega)]
      simp only [spec_l7Path.j0]
      rw [if_neg (by simp; omega)]
    · intro i hi hp r h
      refine Ev.step (fun k => ?_) h
      simp only [spec_l7Path.l0]
      rw [if_pos (by omega), if_pos (by omega), wrap_succ (by omega)]
      simp only [signB, Bool.or_eq_true, decide_eq_true_eq] at hp
      repeat' split
      all_goals first | rfl | (exfalso; omega)
    · intro i hi hp
      refine ev_succ ⟨0, fun k _ => ?_⟩
      simp only [spec_l7Path.l0]
      rw [if_pos (by omega), if_pos (by omega)]
      simp only [signB, Bool.or_eq_false_iff, decide_eq_false_iff_not] at hp
      repeat' split
      all_goals first | rfl | (exfalso; omega)
    · refine ev_succ ⟨0, fun k _ => ?_⟩
      simp only [spec_l7Path.l0]
      rw [if_neg (by omega)]
  · have e : nameB s = false := by
      unfold nameB
      simp only [hs, decide_false, Bool.false_and]
    rw [e]
    refine ev_succ ⟨0, fun k _ => ?_⟩
    unfold spec_l7Path.f
    simp only [spec_l7Path.j0]
    split
    · rfl
    · rw [if_pos (by simp; omega)]
def askB (l : List Op) (s : ByteArray) (n : Int) : Bool := allOkB l && (nameB s && decide (0 ≤ n ∧ n ≤ 9999))
theorem impl_AskOk_ev (l : List Op) (hl : l.length ≤ 4611686018427387904) (s : ByteArray) (n : Int) : Ev (fun k => impl_AskOk.f k l s n) (askB l s n) := by
  obtain ⟨K, h⟩ := impl_opsOk_ev l hl
  obtain ⟨K', h'⟩ := impl_nameOk_ev s
  refine ⟨K + K', fun k hk => ?_⟩
  have e1 := h k (by omega)
  have e2 := h' k (by omega)
  dsimp only at e1 e2 ⊢
  unfold impl_AskOk.f askB
  rw [e1]
  cases allOkB l <;> simp [e2, within_some]
  cases nameB s <;> simp
theorem spec_AskOk_ev (l : List Op) (hl : l.length ≤ 4611686018427387904) (s : ByteArray) (n : Int) : Ev (fun k => spec_AskOk.f k l s n) (askB l s n) := by
  obtain ⟨K, h⟩ := spec_l6All_ev l hl
  obtain ⟨K', h'⟩ := spec_l7Path_ev s
  refine ⟨K + K', fun k hk => ?_⟩
  have e1 := h k (by omega)
  have e2 := h' k (by omega)
  dsimp only at e1 e2 ⊢
  unfold spec_AskOk.f askB
  rw [e1]
  cases allOkB l <;> simp [e2, l1In_some]
  cases nameB s <;> simp
end Go.Proofs.YtmplnpjdbfedbaaGreatDoor.X
namespace Go.Proofs.YtmplnpjdbfedbaaGreatDoor.X
open Go.RowKit Go.Proofs.YtmplnpjdbfedbaaGreatDoorW.PrintWords Go.Proofs.YtmplnpjdbfedbaaGreatDoor.Pl
set_option linter.unusedSimpArgs false
set_option linter.unusedVariables false
theorem wr_id {x : Int} (h0 : -9223372036854775808 ≤ x) (h1 : x ≤ 9223372036854775807) : wrap64 x = x := by unfold wrap64; omega
theorem digit_str (d : Nat) (h : d < 10) : strOfNums [(wrap64 (48 + (d : Int))) % 256] = ⟨#[UInt8.ofNat (48 + d)]⟩ := by
  rw [wr_id (by omega) (by omega), show (48 + (d : Int)) % 256 = ((48 + d : Nat) : Int) by omega]
  unfold strOfNums
  rfl
theorem plain_tot (n : Nat) : n ≤ 9223372036854775807 → ∀ x3 : ByteArray, x3.size + Lib.nDigits n ≤ 9223372036854775807 → Tot (fun k => spec_l7Plain.l0 k (n : Int) x3) (fun r => r = ⟨(Lib.decDigits n).toArray⟩ ++ x3) := by
  induction n using Nat.strongRecOn with
  | _ n ih =>
    intro hn x3 hx
    refine Tot.succ ?_
    simp only [spec_l7Plain.l0]
    by_cases h : n < 10
    · refine Tot.neg (by omega) (Tot.some_bind ?_)
      rw [digit_str n h]
      rw [Lib.nDigits_small h] at hx
      refine Tot.pos ?_ (Tot.ret ?_)
      · show 1 + x3.size ≤ _
        omega
      · rw [Lib.decDigits_one h]
    · refine Tot.pos (by omega) (Tot.some_bind ?_)
      rw [show Int.tmod (n : Int) 10 = ((n % 10 : Nat) : Int) from (Int.ofNat_tmod n 10).symm, digit_str _ (by omega), show Int.tdiv (n : Int) 10 = ((n / 10 : Nat) : Int) from (Int.ofNat_tdiv n 10).symm, wr_id (by omega) (by omega)]
      rw [Lib.nDigits_big h] at hx
      have hp := Lib.nDigits_pos (n / 10)
      refine Tot.pos ?_ ?_
      · show 1 + x3.size ≤ _
        omega
      · refine Tot.mono (ih (n / 10) (by omega) (by omega) _ ?_) ?_
        · rw [ByteArray.size_append]
          show 1 + x3.size + _ ≤ _
          omega
        · rintro r rfl
          rw [Lib.decDigits.eq_def n, dif_neg h, ← ByteArray.append_assoc]
          congr 1
theorem plainF_tot (n : Nat) (hn : n ≤ 9223372036854775807) : Tot (fun k => spec_l7Plain.f k (n : Int)) (fun r => r = ⟨(Lib.itoa (n : Int)).toArray⟩) := by
  have h := Lib.itoa_length_le (n : Int) (by omega) (by omega)
  rw [Lib.itoa_nonneg, Lib.decDigits_length] at h
  refine Tot.mono (plain_tot n hn ⟨#[]⟩ (by show 0 + _ ≤ _; omega)) ?_
  rintro r rfl
  rw [Lib.itoa_nonneg]
  exact ByteArray.append_empty
theorem rd4 (a b c d : Int) (i : Nat) (hi : i < 4) : rd [a, b, c, d] (i : Int) = [a, b, c, d].getD i 0 := by
  match i, hi with
  | 0, _ => rfl
  | 1, _ => rfl
  | 2, _ => rfl
  | 3, _ => rfl
theorem otext_tot (W : ByteArray) (hW : W.size ≤ 5) (a b c d : Int) (hns : ∀ n ∈ [a, b, c, d], 0 ≤ n ∧ n ≤ 9223372036854775807) (many : Nat) (hm : many ≤ 4) : ∀ e i, i + e = many → Tot (fun k => spec_OpText.l0 k (txtI W ([a, b, c, d].take i)) many [a, b, c, d] i) (fun r => r = txtI W ([a, b, c, d].take many))
  | 0, i, h => by
    obtain rfl : i = many := by omega
    refine Tot.succ ?_
    simp only [spec_OpText.l0]
    exact Tot.neg (by omega) (Tot.ret rfl)
  | e + 1, i, h => by
    have ih := otext_tot W hW a b c d hns many hm e (i + 1) (by omega)
    have hl := txtI_len W ([a, b, c, d].take i) (fun n hn => by have := hns n (List.mem_of_mem_take hn); exact ⟨by omega, this.2⟩) hW (by simp; omega)
    have hn := hns ([a, b, c, d].getD i 0) (num_mem (by omega))
    have e1 : txtI W ([a, b, c, d].take (i + 1)) = txtI W ([a, b, c, d].take i) ++ numT ([a, b, c, d].getD i 0) := by rw [take_getD _ _ (by simp; omega), txtI_snoc]
    rw [e1] at ih
    generalize txtI W ([a, b, c, d].take i) = T at *
    refine Tot.succ ?_
    simp only [spec_OpText.l0, rd4 a b c d i (by omega)]
    obtain ⟨m, hm'⟩ := Int.eq_ofNat_of_zero_le hn.1
    rw [hm'] at ih hn ⊢
    refine Tot.pos (by omega) (Tot.pos (by omega) (Tot.pos (by omega) (Tot.pos (by simp; omega) ?_)))
    refine Tot.bind (plainF_tot m (by omega)) ?_
    rintro _ rfl
    have h20 := Lib.itoa_length_le (m : Int) (by omega) (by omega)
    refine Tot.pos ?_ ?_
    · rw [ByteArray.size_append]
      show _ + 1 + (Lib.itoa (m : Int)).toArray.size ≤ _
      rw [List.size_toArray]
      omega
    · rw [wr_id (by omega) (by omega), ByteArray.append_assoc]
      exact ih
theorem opOk_kind {o a b c d : Int} (h : opOkB o a b c d = true) : 1 ≤ o ∧ o ≤ 8 ∧ ∀ n ∈ [a, b, c, d], 0 ≤ n ∧ n ≤ 255 := by
  unfold opOkB at h
  simp only [List.mem_cons, List.not_mem_nil, or_false, forall_eq_or_imp, forall_eq]
  split at h
  · simp at h; omega
  · split at h
    · simp at h; omega
    · split at h
      · simp at h; omega
      · simp at h; omega
theorem word_some (k : Nat) (h : k < 9) : spec_l7Word.f (k : Int) = some (formW k, (formN k : Int)) := by
  match k, h with
  | 0, _ => rfl
  | 1, _ => rfl
  | 2, _ => rfl
  | 3, _ => rfl
  | 4, _ => rfl
  | 5, _ => rfl
  | 6, _ => rfl
  | 7, _ => rfl
  | 8, _ => rfl
def opTextF (o a b c d : Int) : ByteArray := if opOkB o a b c d then txtI (formW o.toNat) ([a, b, c, d].take (formN o.toNat)) else ⟨#[]⟩
theorem spec_OpText_tot (o a b c d : Int) : Tot (fun k => spec_OpText.f k o a b c d) (fun r => r = opTextF o a b c d) := by
  unfold spec_OpText.f opTextF
  refine Tot.bind (Tot.of_eq (spec_OpOk_some o a b c d)) ?_
  rintro _ rfl
  cases h : opOkB o a b c d with
  | false => exact Tot.neg (by decide) (Tot.ret rfl)
  | true =>
    obtain ⟨h1, h8, hn⟩ := opOk_kind h
    obtain ⟨k, rfl⟩ := Int.eq_ofNat_of_zero_le (show 0 ≤ o by omega)
    refine Tot.pos rfl ?_
    refine Tot.bind (Tot.of_eq (word_some k (by omega))) ?_
    rintro _ rfl
    exact otext_tot (formW k) (formW_len k (by omega)) a b c d (fun n h => ⟨(hn n h).1, by have := (hn n h).2; omega⟩) (formN k) (formN_le k (by omega)) (formN k) 0 (by omega)
theorem impl_OpText_tot (o a b c d : Int) : Tot (fun k => impl_OpText.f k o a b c d) (fun r => r = opTextF o a b c d) := by
  refine Tot.succ ?_
  unfold impl_OpText.f opTextF
  refine Tot.bind (Tot.succ (Tot.succ (Tot.of_eq (impl_OpOk_some 0 o a b c d)))) ?_
  rintro _ rfl
  cases h : opOkB o a b c d with
  | false => exact Tot.neg (by decide) (Tot.ret rfl)
  | true =>
    obtain ⟨h1, h8, hn⟩ := opOk_kind h
    refine Tot.pos rfl ?_
    unfold opTextI
    rw [if_pos ⟨by omega, by omega, fun n h => ⟨by have := hn n h; omega, by have := hn n h; omega⟩⟩]
    exact Tot.ret rfl
end Go.Proofs.YtmplnpjdbfedbaaGreatDoor.X
namespace Go.Proofs.YtmplnpjdbfedbaaGreatDoor.X
open Go.RowKit Go.Proofs.YtmplnpjdbfedbaaGreatDoorW.PrintWords Go.Proofs.YtmplnpjdbfedbaaGreatDoor.Pl
set_option linter.unusedSimpArgs false
set_option linter.unusedVariables false
theorem ba_ext {a b : ByteArray} (h : a.data.toList = b.data.toList) : a = b := by
  obtain ⟨a⟩ := a; obtain ⟨b⟩ := b
  exact congrArg ByteArray.mk (Array.toList_inj.1 h)
theorem ba_app (a b : ByteArray) : (a ++ b).data.toList = a.data.toList ++ b.data.toList := by
  rw [ByteArray.data_append, Array.toList_append]
theorem ba_size (a : ByteArray) : a.size = a.data.toList.length := by
  show a.data.size = _
  rw [Array.length_toList]
theorem ba_mk (l : List UInt8) : (⟨l.toArray⟩ : ByteArray).data.toList = l := rfl
def opT (x : Op) : ByteArray := opTextF x.f0 x.f1 x.f2 x.f3 x.f4
def joinT (xs : List ByteArray) : ByteArray := ⟨(Lib.join (xs.map (·.data.toList)) [44]).toArray⟩
theorem joinT_one (x : ByteArray) : joinT [x] = x := ba_ext (by rw [joinT, ba_mk, List.map_cons, List.map_nil, Lib.join_one])
theorem joinT_snoc (xs : List ByteArray) (h : xs ≠ []) (y : ByteArray) : joinT (xs ++ [y]) = (joinT xs ++ ⟨#[44]⟩) ++ y := by
  obtain ⟨x, r, rfl⟩ := List.exists_cons_of_ne_nil h
  apply ba_ext
  rw [ba_app, ba_app, joinT, joinT, ba_mk, ba_mk, List.cons_append, List.map_cons, List.map_cons, Lib.join_cons, Lib.join_cons, List.map_append, List.map_cons, List.map_nil]
  simp [Lib.joinTail]
theorem opT_len (x : Op) : (opT x).size ≤ 1000 := by
  unfold opT opTextF
  split
  · rename_i h
    obtain ⟨h1, h8, hn⟩ := opOk_kind h
    refine txtI_len _ _ (fun n h => ?_) (formW_len _ (by omega)) (by simp; omega)
    have := hn n (List.mem_of_mem_take h)
    exact ⟨by omega, by omega⟩
  · show 0 ≤ _
    omega
theorem joinT_len (xs : List ByteArray) (h : ∀ x ∈ xs, x.size ≤ 1000) : (joinT xs).size ≤ 1001 * xs.length := by
  cases xs with
  | nil => exact Nat.le_refl _
  | cons x r =>
    rw [ba_size, joinT, ba_mk, List.map_cons, Lib.join_cons, List.length_append, Lib.joinTail_length]
    have h0 := h x (List.mem_cons_self ..)
    rw [ba_size] at h0
    have key : ∀ r : List ByteArray, (∀ x ∈ r, x.size ≤ 1000) → Lib.lens (r.map (·.data.toList)) ≤ 1000 * r.length := by
      intro r
      induction r with
      | nil => intro _; exact Nat.le_refl _
      | cons y r ih =>
        intro h
        have h1 := ih (fun z hz => h z (List.mem_cons_of_mem _ hz))
        have h2 := h y (List.mem_cons_self ..)
        rw [ba_size] at h2
        simp only [Lib.lens, List.map_cons, List.sum_cons, List.length_cons] at h1 ⊢
        omega
    have := key r (fun z hz => h z (List.mem_cons_of_mem _ hz))
    simp only [List.length_map, List.length_cons, List.length_nil]
    omega
def opsF (l : List Op) : ByteArray := if l.length = 0 then ⟨#[45]⟩ else joinT (l.map opT)
theorem opsF_len (l : List Op) (h : l.length ≤ 5) : (opsF l).size ≤ 5100 := by
  unfold opsF
  split
  · show 1 ≤ _
    omega
  · have := joinT_len (l.map opT) (fun x hx => by obtain ⟨y, _, rfl⟩ := List.mem_map.1 hx; exact opT_len y)
    rw [List.length_map] at this
    omega
theorem take_opT (l : List Op) (i : Nat) (h : i < l.length) : (l.map opT).take (i + 1) = (l.map opT).take i ++ [opT (opAt l i)] := by
  rw [List.take_add_one, List.getElem?_eq_getElem (by simpa using h)]
  simp [opAt, rd_T65, List.getD_eq_getElem?_getD, h]
theorem take_len (l : List Op) (i : Nat) (h : i ≤ l.length) : ((l.map opT).take i).length = i := by simp; omega
theorem take_small (l : List Op) (i : Nat) (h : l.length ≤ 5) : (joinT ((l.map opT).take i)).size ≤ 5005 := by
  have := joinT_len ((l.map opT).take i) (fun x hx => by obtain ⟨y, _, rfl⟩ := List.mem_map.1 (List.mem_of_mem_take hx); exact opT_len y)
  have h2 : ((l.map opT).take i).length ≤ 5 := by simp; omega
  omega
theorem l7Ops_tot (l : List Op) (hl : l.length ≤ 5) : ∀ e i, i + e = l.length → Tot (fun k => spec_l7Ops.l0 k l (joinT ((l.map opT).take i)) i) (fun r => r = joinT (l.map opT))
  | 0, i, h => by
    refine Tot.succ ?_
    simp only [spec_l7Ops.l0]
    refine Tot.neg (by omega) (Tot.ret ?_)
    rw [List.take_of_length_le (by simp; omega)]
  | e + 1, i, h => by
    have ih := l7Ops_tot l hl e (i + 1) (by omega)
    have hs := take_small l i hl
    have ht := opT_len (opAt l i)
    rw [take_opT l i (by omega)] at ih
    refine Tot.succ ?_
    simp only [spec_l7Ops.l0]
    refine Tot.pos (by omega) ?_
    by_cases h0 : i = 0
    · subst h0
      refine Tot.neg (by omega) (Tot.pos (by omega) ?_)
      refine Tot.bind (spec_OpText_tot _ _ _ _ _) ?_
      rintro _ rfl
      have e0 : (⟨#[]⟩ : ByteArray) ++ opT (opAt l 0) = opT (opAt l 0) := ba_ext (by rw [ba_app]; rfl)
      have e1 : joinT ((l.map opT).take 0) = ⟨#[]⟩ := rfl
      rw [List.take_zero, List.nil_append, joinT_one] at ih
      rw [e1]
      refine Tot.pos (by show 0 + (opT (opAt l 0)).size ≤ _; omega) ?_
      rw [wr_id (by omega) (by omega)]
      show Tot (fun k => spec_l7Ops.l0 k l ((⟨#[]⟩ : ByteArray) ++ opT (opAt l 0)) _) _
      rw [e0]
      exact ih
    · have hne : (l.map opT).take i ≠ [] := by
        intro hh
        have := congrArg List.length hh
        rw [take_len l i (by omega)] at this
        exact h0 (by simpa using this)
      rw [joinT_snoc _ hne] at ih
      refine Tot.pos (by omega) (Tot.pos (by omega) (Tot.pos (by omega) ?_))
      refine Tot.bind (spec_OpText_tot _ _ _ _ _) ?_
      rintro _ rfl
      refine Tot.pos ?_ ?_
      · rw [ByteArray.size_append]
        show _ + 1 + (opT (opAt l i)).size ≤ _
        omega
      · rw [wr_id (by omega) (by omega)]
        exact ih
theorem spec_l7Ops_tot (l : List Op) (hl : l.length ≤ 5) : Tot (fun k => spec_l7Ops.f k l) (fun r => r = opsF l) := by
  unfold spec_l7Ops.f opsF
  by_cases h : l.length = 0
  · rw [if_pos h]
    exact Tot.pos (by omega) (Tot.ret rfl)
  · rw [if_neg h]
    exact Tot.neg (by omega) (l7Ops_tot l hl l.length 0 (by omega))
def askI (ops path : ByteArray) (till : Int) : ByteArray := (((((⟨#[47]⟩ : ByteArray) ++ ops) ++ (⟨#[47]⟩ : ByteArray)) ++ path) ++ (⟨#[63, 101, 61]⟩ : ByteArray)) ++ ⟨(Lib.itoa till).toArray⟩
def askF (l : List Op) (path : ByteArray) (till : Int) : ByteArray := if askB l path till then askI (opsF l) path till else ⟨#[]⟩
theorem askB_parts {l : List Op} {path : ByteArray} {till : Int} (h : askB l path till = true) : l.length ≤ 5 ∧ (1 ≤ path.size ∧ path.size ≤ 6) ∧ 0 ≤ till ∧ till ≤ 9999 := by
  simp only [askB, allOkB, nameB, Bool.and_eq_true, decide_eq_true_eq] at h
  exact ⟨h.1.1, h.2.1.1, h.2.2.1, h.2.2.2⟩
theorem spec_AskText_tot (l : List Op) (hl : l.length ≤ 4611686018427387904) (path : ByteArray) (till : Int) : Tot (fun k => spec_AskText.f k l path till) (fun r => r = askF l path till) := by
  unfold spec_AskText.f askF
  refine Tot.bind (Tot.of_ev (spec_AskOk_ev l hl path till)) ?_
  rintro _ rfl
  cases h : askB l path till with
  | false => exact Tot.neg (by decide) (Tot.ret rfl)
  | true =>
    obtain ⟨h5, hp, ht0, ht1⟩ := askB_parts h
    obtain ⟨n, rfl⟩ := Int.eq_ofNat_of_zero_le ht0
    have ho := opsF_len l h5
    have hi := Lib.itoa_length_le (n : Int) (by omega) (by omega)
    refine Tot.pos rfl ?_
    refine Tot.bind (spec_l7Ops_tot l h5) ?_
    rintro _ rfl
    refine Tot.pos (by omega) (Tot.pos ?_ (Tot.pos ?_ (Tot.pos ?_ ?_)))
    · rw [ByteArray.size_append]; show 1 + _ + 1 ≤ _; omega
    · rw [ByteArray.size_append, ByteArray.size_append]; show 1 + _ + 1 + _ ≤ _; omega
    · rw [ByteArray.size_append, ByteArray.size_append, ByteArray.size_append]; show 1 + _ + 1 + _ + 3 ≤ _; omega
    · refine Tot.bind (plainF_tot n (by omega)) ?_
      rintro _ rfl
      refine Tot.pos ?_ (Tot.ret rfl)
      rw [ByteArray.size_append, ByteArray.size_append, ByteArray.size_append, ByteArray.size_append]
      show 1 + _ + 1 + _ + 3 + (Lib.itoa (n : Int)).toArray.size ≤ _
      rw [List.size_toArray]
      omega
theorem impl_askLoop_tot (l : List Op) (h5 : l.length ≤ 5) (path : ByteArray) (hp : path.size ≤ 6) (n : Nat) (hn : n ≤ 9999) : ∀ e i, i + e = l.length → Tot (fun k => impl_AskText.l0 k ((l.map opT).take i) l l.length i l path n) (fun r => r = askI (opsF l) path n)
  | 0, i, h => by
    have ho := opsF_len l h5
    have hi := Lib.itoa_length_le (n : Int) (by omega) (by omega)
    have hI : strconv_Itoa_47.f (n : Int) = some ⟨(Lib.itoa (n : Int)).toArray⟩ := by unfold strconv_Itoa_47.f; rw [if_pos ⟨by omega, by omega⟩]
    refine Tot.succ ?_
    simp only [impl_AskText.l0]
    refine Tot.neg (by omega) ?_
    rw [List.take_of_length_le (by simp; omega)]
    by_cases h0 : l.length = 0
    · refine Tot.neg (by rw [List.length_map]; omega) ?_
      have e : opsF l = ⟨#[45]⟩ := by unfold opsF; rw [if_pos h0]
      rw [e]
      refine Tot.pos (by omega) (Tot.pos ?_ (Tot.pos ?_ ?_))
      · rw [ByteArray.size_append]; show 1 + 1 + 1 + _ ≤ _; omega
      · rw [ByteArray.size_append, ByteArray.size_append]; show 1 + 1 + 1 + _ + 3 ≤ _; omega
      · refine Tot.bind (Tot.of_eq hI) ?_
        rintro _ rfl
        refine Tot.pos ?_ (Tot.ret rfl)
        rw [ByteArray.size_append, ByteArray.size_append]
        show 1 + 1 + 1 + _ + 3 + (Lib.itoa (n : Int)).toArray.size ≤ _
        rw [List.size_toArray]
        omega
    · refine Tot.pos (by rw [List.length_map]; omega) ?_
      have e : opsF l = joinT (l.map opT) := by unfold opsF; rw [if_neg h0]
      have hJ : strings_Join.f (l.map opT) ⟨#[44]⟩ = some (opsF l) := by
        have hh := opsF_len l h5
        rw [e, ba_size] at hh
        unfold strings_Join.f
        rw [if_pos ⟨by simp; omega, by have : (Lib.join ((l.map opT).map (·.data.toList)) [44]).length ≤ 5100 := hh; show (Lib.join _ [44]).length ≤ _; omega⟩, e]
        rfl
      refine Tot.bind (Tot.of_eq hJ) ?_
      rintro _ rfl
      refine Tot.pos (by omega) (Tot.pos ?_ (Tot.pos ?_ (Tot.pos ?_ ?_)))
      · rw [ByteArray.size_append]; show 1 + _ + 1 ≤ _; omega
      · rw [ByteArray.size_append, ByteArray.size_append]; show 1 + _ + 1 + _ ≤ _; omega
      · rw [ByteArray.size_append, ByteArray.size_append, ByteArray.size_append]; show 1 + _ + 1 + _ + 3 ≤ _; omega
      · refine Tot.bind (Tot.of_eq hI) ?_
        rintro _ rfl
        refine Tot.pos ?_ (Tot.ret rfl)
        rw [ByteArray.size_append, ByteArray.size_append, ByteArray.size_append, ByteArray.size_append]
        show 1 + _ + 1 + _ + 3 + (Lib.itoa (n : Int)).toArray.size ≤ _
        rw [List.size_toArray]
        omega
  | e + 1, i, h => by
    have ih := impl_askLoop_tot l h5 path hp n hn e (i + 1) (by omega)
    rw [take_opT l i (by omega)] at ih
    refine Tot.succ ?_
    simp only [impl_AskText.l0]
    refine Tot.pos (by omega) (Tot.pos (by omega) (Tot.pos (by omega) ?_))
    refine Tot.bind (impl_OpText_tot _ _ _ _ _) ?_
    rintro _ rfl
    refine Tot.pos (by rw [take_len l i (by omega)]; omega) ?_
    rw [wr_id (by omega) (by omega)]
    exact ih
theorem impl_AskText_tot (l : List Op) (hl : l.length ≤ 4611686018427387904) (path : ByteArray) (till : Int) : Tot (fun k => impl_AskText.f k l path till) (fun r => r = askF l path till) := by
  unfold impl_AskText.f askF
  refine Tot.bind (Tot.of_ev (impl_AskOk_ev l hl path till)) ?_
  rintro _ rfl
  cases h : askB l path till with
  | false => exact Tot.neg (by decide) (Tot.ret rfl)
  | true =>
    obtain ⟨h5, hp, ht0, ht1⟩ := askB_parts h
    obtain ⟨n, rfl⟩ := Int.eq_ofNat_of_zero_le ht0
    refine Tot.pos rfl (Tot.pos (by omega) (Tot.pos (by omega) ?_))
    exact impl_askLoop_tot l h5 path hp.2 n (by omega) l.length 0 (by omega)
end Go.Proofs.YtmplnpjdbfedbaaGreatDoor.X
namespace Go.Proofs.YtmplnpjdbfedbaaGreatDoor.X
open Go.RowKit Go.Proofs.YtmplnpjdbfedbaaGreatDoorW.PrintWords Go.Proofs.YtmplnpjdbfedbaaGreatDoor.Pl
set_option linter.unusedSimpArgs false
set_option linter.unusedVariables false
def hexD : ByteArray := ⟨#[48, 49, 50, 51, 52, 53, 54, 55, 56, 57, 97, 98, 99, 100, 101, 102]⟩
def hexd (n : Nat) : UInt8 := if n < 10 then UInt8.ofNat (48 + n) else UInt8.ofNat (87 + n)
def hexL (l : List Int) : List UInt8 := l.flatMap fun b => [hexd (b.toNat / 16), hexd (b.toNat % 16)]
def hexF (l : List Int) : ByteArray := ⟨(hexL l).toArray⟩
theorem hexL_len (l : List Int) : (hexL l).length = 2 * l.length := by
  induction l with
  | nil => rfl
  | cons b l ih =>
    have : hexL (b :: l) = hexd (b.toNat / 16) :: hexd (b.toNat % 16) :: hexL l := rfl
    rw [this, List.length_cons, List.length_cons, ih, List.length_cons]
    omega
theorem hexF_size (l : List Int) : (hexF l).size = 2 * l.length := by
  show (hexL l).toArray.size = _
  rw [List.size_toArray, hexL_len]
theorem hx_impl : ∀ b : Fin 256, bt hexD ((b.val : Int) / 16) = ((hexd (b.val / 16)).toNat : Int) ∧ bt hexD (Go.bits .and .u8 (b.val : Int) 15) = ((hexd (b.val % 16)).toNat : Int) ∧ 0 ≤ Go.bits .and .u8 (b.val : Int) 15 ∧ Go.bits .and .u8 (b.val : Int) 15 < 16 := by decide +kernel
theorem hx_spec : ∀ b : Fin 256, hexD.extract ((Int.tdiv (b.val : Int) 16) % 256).toNat (((Int.tdiv (b.val : Int) 16) % 256 + 1) % 256).toNat = ⟨#[hexd (b.val / 16)]⟩ ∧ hexD.extract (Int.tmod (b.val : Int) 16).toNat ((Int.tmod (b.val : Int) 16 + 1) % 256).toNat = ⟨#[hexd (b.val % 16)]⟩ := by decide +kernel
theorem rd_in {l : List Int} (hb : ∀ y ∈ l, 0 ≤ y ∧ y ≤ 255) (i : Nat) (h : i < l.length) : ∃ b : Fin 256, rd l (i : Int) = (b.val : Int) ∧ l.drop i = (b.val : Int) :: l.drop (i + 1) := by
  have hm := hb l[i] (List.getElem_mem h)
  refine ⟨⟨l[i].toNat, by omega⟩, ?_, ?_⟩
  · rw [rd_nat, List.getD_eq_getElem?_getD, List.getElem?_eq_getElem h]
    show l[i] = _
    dsimp only
    omega
  · rw [List.drop_eq_getElem_cons h]
    congr 1
    dsimp only
    omega
theorem spec_hex_tot (l : List Int) (hb : ∀ y ∈ l, 0 ≤ y ∧ y ≤ 255) (hl : l.length ≤ 1000000000000) : ∀ e i, i + e = l.length → ∀ x3 : ByteArray, x3.size ≤ 2 * i → Tot (fun k => spec_HexText.l0 k l x3 i) (fun r => r = x3 ++ hexF (l.drop i))
  | 0, i, h, x3, hx => by
    refine Tot.succ ?_
    simp only [spec_HexText.l0]
    refine Tot.neg (by omega) (Tot.ret ?_)
    rw [List.drop_of_length_le (by omega)]
    exact ByteArray.append_empty.symm
  | e + 1, i, h, x3, hx => by
    obtain ⟨b, h1, h2⟩ := rd_in hb i (by omega)
    obtain ⟨s1, s2⟩ := hx_spec b
    have hb2 := b.isLt
    have q1 : Int.tdiv (b.val : Int) 16 = ((b.val / 16 : Nat) : Int) := (Int.ofNat_tdiv b.val 16).symm
    have q2 : Int.tmod (b.val : Int) 16 = ((b.val % 16 : Nat) : Int) := (Int.ofNat_tmod b.val 16).symm
    refine Tot.succ ?_
    simp only [spec_HexText.l0, h1]
    rw [show (⟨#[48, 49, 50, 51, 52, 53, 54, 55, 56, 57, 97, 98, 99, 100, 101, 102]⟩ : ByteArray) = hexD from rfl, s1, s2, q1, q2]
    refine Tot.pos (by omega) (Tot.pos (by omega) (Tot.pos (by omega) (Tot.pos (by omega) (Tot.pos (by omega) (Tot.pos ?_ (Tot.pos (by omega) (Tot.pos (by omega) (Tot.pos (by omega) (Tot.pos ?_ ?_)))))))))
    · show _ + 1 ≤ _; omega
    · rw [ByteArray.size_append]; show _ + 1 + 1 ≤ _; omega
    · rw [show wrap64 ((i : Int) + 1) = ((i + 1 : Nat) : Int) by rw [wrap_id (by omega) (by omega)]; rfl]
      refine Tot.mono (spec_hex_tot l hb hl e (i + 1) (by omega) _ ?_) ?_
      · rw [ByteArray.size_append, ByteArray.size_append]; show _ + 1 + 1 ≤ _; omega
      · rintro r rfl
        rw [h2, ByteArray.append_assoc, ByteArray.append_assoc]
        congr 1
theorem spec_HexText_tot (l : List Int) (hb : ∀ y ∈ l, 0 ≤ y ∧ y ≤ 255) (hl : l.length ≤ 1000000000000) : Tot (fun k => spec_HexText.f k l) (fun r => r = hexF l) := by
  unfold spec_HexText.f
  refine Tot.mono (spec_hex_tot l hb hl l.length 0 (by omega) ⟨#[]⟩ (by show 0 ≤ _; omega)) ?_
  rintro r rfl
  rw [List.drop_zero]
  exact ByteArray.empty_append
def hexN (l : List Int) : List Int := (hexL l).map fun u => (u.toNat : Int)
theorem hexN_str (l : List Int) : strOfNums (hexN l) = hexF l := by
  have h : (strOfNums (hexN l)).data.toList = (hexF l).data.toList := by
    rw [← Lib.toList_data, Lib.strOfNums_toList]
    show ((hexL l).map _).map _ = hexL l
    rw [List.map_map]
    refine (List.map_congr_left (g := id) (fun u _ => ?_)).trans (List.map_id _)
    show UInt8.ofNat ((u.toNat : Int)).toNat = u
    rw [Int.toNat_natCast, UInt8.ofNat_toNat]
  cases hA : strOfNums (hexN l) with
  | mk A =>
    rw [hA] at h
    exact congrArg ByteArray.mk (Array.toList_inj.1 h)
theorem impl_hex_tot (l : List Int) (hb : ∀ y ∈ l, 0 ≤ y ∧ y ≤ 255) (hl : l.length ≤ 1000000000000) : ∀ e i, i + e = l.length → ∀ x3 : List Int, x3.length ≤ 2 * i → Tot (fun k => impl_HexText.l0 k x3 l l.length i) (fun r => r = strOfNums (x3 ++ hexN (l.drop i)))
  | 0, i, h, x3, hx => by
    refine Tot.succ ?_
    simp only [impl_HexText.l0]
    refine Tot.neg (by omega) (Tot.ret ?_)
    rw [List.drop_of_length_le (by omega)]
    show _ = strOfNums (x3 ++ [])
    rw [List.append_nil]
  | e + 1, i, h, x3, hx => by
    obtain ⟨b, h1, h2⟩ := rd_in hb i (by omega)
    obtain ⟨s1, s2, s3, s4⟩ := hx_impl b
    have hb2 := b.isLt
    refine Tot.succ ?_
    simp only [impl_HexText.l0, h1]
    rw [show (⟨#[48, 49, 50, 51, 52, 53, 54, 55, 56, 57, 97, 98, 99, 100, 101, 102]⟩ : ByteArray) = hexD from rfl, s1, s2]
    refine Tot.pos (by omega) (Tot.pos (by omega) (Tot.pos (by omega) (Tot.pos (by omega) (Tot.pos (by omega) (Tot.pos s3 (Tot.pos s4 (Tot.some_bind (Tot.pos ?_ ?_))))))))
    · simp; omega
    · rw [show wrap64 ((i : Int) + 1) = ((i + 1 : Nat) : Int) by rw [wrap_id (by omega) (by omega)]; rfl]
      refine Tot.mono (impl_hex_tot l hb hl e (i + 1) (by omega) _ ?_) ?_
      · simp; omega
      · rintro r rfl
        rw [h2, List.append_assoc]
        rfl
theorem impl_HexText_tot (l : List Int) (hb : ∀ y ∈ l, 0 ≤ y ∧ y ≤ 255) (hl : l.length ≤ 1000000000000) : Tot (fun k => impl_HexText.f k l) (fun r => r = hexF l) := by
  unfold impl_HexText.f
  rw [wrap_id (by omega) (by omega)]
  refine Tot.pos (by omega) (Tot.pos (by omega) ?_)
  refine Tot.mono (impl_hex_tot l hb hl l.length 0 (by omega) [] (by simp)) ?_
  rintro r rfl
  rw [List.drop_zero, List.nil_append, hexN_str]
end Go.Proofs.YtmplnpjdbfedbaaGreatDoor.X
namespace Go.Proofs.YtmplnpjdbfedbaaGreatDoor.Sha
set_option linter.unusedVariables false
open Go
def W (a : Int) : Prop := 0 ≤ a ∧ a < 4294967296
def X (a b : Int) : Int := ((a.toNat ^^^ b.toNat : Nat) : Int)
def A (a b : Int) : Int := ((a.toNat &&& b.toNat : Nat) : Int)
def R (n : Nat) (a : Int) : Int := (((a.toNat * 2 ^ (32 - n)) % 4294967296 ||| a.toNat / 2 ^ n : Nat) : Int)
theorem W_X {a b : Int} (ha : W a) (hb : W b) : W (X a b) := by
  have : a.toNat ^^^ b.toNat < 2 ^ 32 := Nat.xor_lt_two_pow (by have := ha.1; have := ha.2; omega) (by have := hb.1; have := hb.2; omega)
  unfold W X; omega
theorem W_A {a b : Int} (ha : W a) (hb : W b) : W (A a b) := by
  have : a.toNat &&& b.toNat < 2 ^ 32 := Nat.and_lt_two_pow _ (by have := hb.1; have := hb.2; omega)
  unfold W A; omega
theorem W_not {a : Int} (ha : W a) : W (4294967295 - a) := by have := ha.1; have := ha.2; unfold W; omega
theorem W_mod (a : Int) : W (a % 4294967296) := by unfold W; omega
theorem W_shr {a : Int} (ha : W a) (n : Nat) : W (a / 2 ^ n) := by
  have h0 := ha.1; have h1 := ha.2
  obtain ⟨x, rfl⟩ := Int.eq_ofNat_of_zero_le h0
  have e : ((x : Int) / 2 ^ n) = ((x / 2 ^ n : Nat) : Int) := by simp
  rw [e]; have : x / 2 ^ n ≤ x := Nat.div_le_self _ _
  have h2 : x < 4294967296 := by omega
  have h3 := Nat.lt_of_le_of_lt this h2
  exact ⟨Int.natCast_nonneg _, Int.ofNat_lt.mpr h3⟩
theorem W_R {a : Int} (ha : W a) (n : Nat) : W (R n a) := by
  have : (a.toNat * 2 ^ (32 - n)) % 4294967296 ||| a.toNat / 2 ^ n < 2 ^ 32 := Nat.or_lt_two_pow (by omega) (Nat.lt_of_le_of_lt (Nat.div_le_self _ _) (by have := ha.1; have := ha.2; omega))
  unfold W R; omega
theorem xor32 {a b : Int} (ha : W a) (hb : W b) : bits .xor .u32 a b = X a b := u32_xor a b ha.1 ha.2 hb.1 hb.2
theorem and32 {a b : Int} (ha : W a) (hb : W b) : bits .and .u32 a b = A a b := u32_and a b ha.1 ha.2 hb.1 hb.2
theorem xor64 {a b : Int} (ha : W a) (hb : W b) : bits .xor .u64 a b = X a b := u64_xor a b ha.1 (by have := ha.2; omega) hb.1 (by have := hb.2; omega)
theorem and64 {a b : Int} (ha : W a) (hb : W b) : bits .and .u64 a b = A a b := u64_and a b ha.1 (by have := ha.2; omega) hb.1 (by have := hb.2; omega)
theorem not64 {a : Int} (ha : W a) : bits .xor .u64 4294967295 a = 4294967295 - a := by
  rw [u64_xor _ _ (by decide) (by decide) ha.1 (by have := ha.2; omega)]
  have h0 := ha.1; have h1 := ha.2
  obtain ⟨x, rfl⟩ := Int.eq_ofNat_of_zero_le h0
  have hx : x < 2 ^ 32 := by omega
  have : (4294967295 : Nat) ^^^ x = 4294967295 - x := by
    apply Nat.eq_of_testBit_eq
    intro i
    have e1 : (4294967295 : Nat) = 2 ^ 32 - 1 := by decide
    have e2 : (4294967295 : Nat) - x = 2 ^ 32 - (x + 1) := by omega
    rw [e2, Nat.testBit_two_pow_sub_succ hx, Nat.testBit_xor, e1, Nat.testBit_two_pow_sub_one]
    by_cases h : i < 32
    · simp [h]
    · have : x.testBit i = false := Nat.testBit_lt_two_pow (Nat.lt_of_lt_of_le hx (Nat.pow_le_pow_right (by decide) (by omega)))
      simp [h, this]
  have e : ((4294967295 : Int).toNat) = 4294967295 := by decide
  rw [e, Int.toNat_natCast, this]; omega
end Go.Proofs.YtmplnpjdbfedbaaGreatDoor.Sha
namespace Go.Proofs.YtmplnpjdbfedbaaGreatDoor.X
open Go.RowKit Go.Proofs.YtmplnpjdbfedbaaGreatDoorW.PrintWords
set_option maxRecDepth 100000
def shP : List Int := [2, 3, 5, 7, 11, 13, 17, 19, 23, 29, 31, 37, 41, 43, 47, 53, 59, 61, 67, 71, 73, 79, 83, 89, 97, 101, 103, 107, 109, 113, 127, 131, 137, 139, 149, 151, 157, 163, 167, 173, 179, 181, 191, 193, 197, 199, 211, 223, 227, 229, 233, 239, 241, 251, 257, 263, 269, 271, 277, 281, 283, 293, 307, 311]
theorem primes_ok : spec_l1Primes.f 400 64 = some shP := by decide +kernel
theorem root2 : ∀ i : Fin 8, spec_l1Root.f 50 (shP.getD i.val 0) 2 = some (shS0.getD i.val 0) := by decide +kernel
theorem root3 : ∀ i : Fin 64, spec_l1Root.f 50 (shP.getD i.val 0) 3 = some (shK0.getD i.val 0) := by decide +kernel
end Go.Proofs.YtmplnpjdbfedbaaGreatDoor.X
namespace Go.Proofs.YtmplnpjdbfedbaaGreatDoor.X
open Go.RowKit Go.Proofs.YtmplnpjdbfedbaaGreatDoorW.PrintWords Go.Proofs.YtmplnpjdbfedbaaGreatDoorW.PrintLast Go.Proofs.YtmplnpjdbfedbaaGreatDoorW.PrintMore Go.Proofs.YtmplnpjdbfedbaaGreatDoor.Sha Go.Proofs.YtmplnpjdbfedbaaGreatDoor.Pl
set_option linter.unusedVariables false
set_option linter.unusedSimpArgs false
theorem rot_R (n : Nat) (h1 : 1 ≤ n) (h2 : n ≤ 31) {a : Int} (ha : Sha.W a) : rotI ((32 - n : Nat) : Int) (n : Int) a = Sha.R n a := by
  obtain ⟨h0, h3⟩ := ha
  obtain ⟨x, rfl⟩ := Int.eq_ofNat_of_zero_le h0
  have hx : x < 4294967296 := by omega
  have e1 : ((x : Int) * 2 ^ (32 - n)) = ((x * 2 ^ (32 - n) : Nat) : Int) := by simp
  have e2 : ((x : Int) / 2 ^ n) = ((x / 2 ^ n : Nat) : Int) := by simp
  have e3 : (((x * 2 ^ (32 - n) : Nat) : Int) % 4294967296) = ((x * 2 ^ (32 - n) % 4294967296 : Nat) : Int) := by omega
  have hd : x / 2 ^ n < 4294967296 := Nat.lt_of_le_of_lt (Nat.div_le_self _ _) hx
  unfold rotI Sha.R
  rw [IntKind.wrap_u32', Int.toNat_natCast, Int.toNat_natCast, Nat.min_eq_left (by omega), Nat.min_eq_left (by omega), e1, e2, e3, u32_or_nat _ _ (Nat.mod_lt _ (by decide)) hd, Int.toNat_natCast]
theorem turn_R (n : Nat) (h1 : 1 ≤ n) (h2 : n ≤ 31) {a : Int} (ha : Sha.W a) : spec_l1Turn.f a (n : Int) = some (Sha.R n a) := by
  obtain ⟨h0, h3⟩ := ha
  obtain ⟨x, rfl⟩ := Int.eq_ofNat_of_zero_le h0
  have hx : x < 4294967296 := by omega
  have hw : IntKind.u64.wrap (32 - (n : Int)) = ((32 - n : Nat) : Int) := by rw [IntKind.wrap_u64]; omega
  have hp : x * 2 ^ (32 - n) < 18446744073709551616 := by
    have e : (18446744073709551616 : Nat) = 4294967296 * 2 ^ 32 := by decide
    have h : 2 ^ (32 - n) ≤ 2 ^ 32 := Nat.pow_le_pow_right (by decide) (by omega)
    rw [e]
    exact Nat.lt_of_lt_of_le (Nat.mul_lt_mul_of_pos_right hx (Nat.two_pow_pos _)) (Nat.mul_le_mul_left _ h)
  have hd : x / 2 ^ n < 4294967296 := Nat.lt_of_le_of_lt (Nat.div_le_self _ _) hx
  have e1 : ((x : Int) * 2 ^ (32 - n)) = ((x * 2 ^ (32 - n) : Nat) : Int) := by simp
  have e2 : ((x : Int) / 2 ^ n) = ((x / 2 ^ n : Nat) : Int) := by simp
  have e3 : (((x * 2 ^ (32 - n) : Nat) : Int) % 18446744073709551616) = ((x * 2 ^ (32 - n) : Nat) : Int) := by omega
  unfold spec_l1Turn.f
  rw [if_pos (by omega), hw, if_pos (by omega)]
  unfold shr shl spec_l1Word.f
  rw [IntKind.wrap_u64, Int.toNat_natCast, Int.toNat_natCast, Nat.min_eq_left (by show n ≤ 64; omega), Nat.min_eq_left (by show 32 - n ≤ 64; omega), e1, e2, e3, u64_or_nat _ _ (by omega) hp]
  simp only [Option.bind_some]
  congr 1
  unfold Sha.R
  rw [Int.tmod_eq_emod_of_nonneg (Int.natCast_nonneg _), Int.toNat_natCast]
  have : (x / 2 ^ n ||| x * 2 ^ (32 - n)) % 4294967296 = x * 2 ^ (32 - n) % 4294967296 ||| x / 2 ^ n := by
    have e : (4294967296 : Nat) = 2 ^ 32 := by decide
    rw [e, Nat.or_mod_two_pow, Nat.mod_eq_of_lt (a := x / 2 ^ n) (by rw [← e]; exact hd), Nat.or_comm]
  omega
theorem W_bor {a b : Int} (ha : Sha.W a) (hb : Sha.W b) : Sha.W (bits .or .u32 a b) := by
  rw [u32_or a b ha.1 ha.2 hb.1 hb.2]
  have : a.toNat ||| b.toNat < 2 ^ 32 := Nat.or_lt_two_pow (by have := ha.1; have := ha.2; omega) (by have := hb.1; have := hb.2; omega)
  unfold Sha.W; omega
theorem not32 {a : Int} (ha : Sha.W a) : bits .xor .u32 IntKind.u32.max a = 4294967295 - a := by
  have h := Sha.not64 ha
  rw [u64_xor _ _ (by decide) (by decide) ha.1 (by have := ha.2; omega)] at h
  rw [show IntKind.u32.max = 4294967295 by decide, u32_xor _ _ (by decide) (by decide) ha.1 ha.2]
  exact h
theorem or64_32 {a b : Int} (ha : Sha.W a) (hb : Sha.W b) : bits .or .u64 a b = bits .or .u32 a b := by
  rw [u32_or a b ha.1 ha.2 hb.1 hb.2, u64_or a b ha.1 (by have := ha.2; omega) hb.1 (by have := hb.2; omega)]
structure WQ (q : St8) : Prop where
  a : Sha.W q.a
  b : Sha.W q.b
  c : Sha.W q.c
  d : Sha.W q.d
  e : Sha.W q.e
  f : Sha.W q.f
  g : Sha.W q.g
  h : Sha.W q.h
def St8.l (q : St8) : List Int := [q.a, q.b, q.c, q.d, q.e, q.f, q.g, q.h]
theorem WQ.step {q : St8} (h : WQ q) (k w : Int) : WQ (stepI k w q) := ⟨Sha.W_mod _, h.a, h.b, h.c, Sha.W_mod _, h.e, h.f, h.g⟩
theorem tm (x : Int) (h : 0 ≤ x) : Int.tmod x 4294967296 = x % 4294967296 := Int.tmod_eq_emod_of_nonneg h
theorem step_eq {q : St8} (h : WQ q) {k w : Int} (hk : Sha.W k) (hw : Sha.W w) : spec_l1Step.f q.l k w = some (stepI k w q).l := by
  obtain ⟨a, b, c, d, e, f, g, hh⟩ := q
  obtain ⟨ha, hb, hc, hd, he, hf, hg, hhh⟩ := h
  dsimp only at ha hb hc hd he hf hg hhh
  have t6 := turn_R 6 (by omega) (by omega) he
  have t11 := turn_R 11 (by omega) (by omega) he
  have t25 := turn_R 25 (by omega) (by omega) he
  have t2 := turn_R 2 (by omega) (by omega) ha
  have t13 := turn_R 13 (by omega) (by omega) ha
  have t22 := turn_R 22 (by omega) (by omega) ha
  have r6 : rotI 26 6 e = _ := rot_R 6 (by omega) (by omega) he
  have r11 : rotI 21 11 e = _ := rot_R 11 (by omega) (by omega) he
  have r25 : rotI 7 25 e = _ := rot_R 25 (by omega) (by omega) he
  have r2 : rotI 30 2 a = _ := rot_R 2 (by omega) (by omega) ha
  have r13 : rotI 19 13 a = _ := rot_R 13 (by omega) (by omega) ha
  have r22 : rotI 10 22 a = _ := rot_R 22 (by omega) (by omega) ha
  have w6 := Sha.W_R he 6
  have w11 := Sha.W_R he 11
  have w25 := Sha.W_R he 25
  have w2 := Sha.W_R ha 2
  have w13 := Sha.W_R ha 13
  have w22 := Sha.W_R ha 22
  have x1 := Sha.W_X (Sha.W_X w6 w11) w25
  have x2 := Sha.W_X (Sha.W_X w2 w13) w22
  have c1 := Sha.W_A he hf
  have c2 := Sha.W_A (Sha.W_not he) hg
  have x3 := Sha.W_X c1 c2
  have m1 := Sha.W_A ha hb
  have m2 := Sha.W_A ha hc
  have m3 := Sha.W_A hb hc
  have x4 := Sha.W_X (Sha.W_X m1 m2) m3
  unfold spec_l1Step.f St8.l stepI
  simp only [List.length_cons, List.length_nil]
  have e4 : rd [a, b, c, d, e, f, g, hh] 4 = e := rfl
  have e0 : rd [a, b, c, d, e, f, g, hh] 0 = a := rfl
  have e1 : rd [a, b, c, d, e, f, g, hh] 1 = b := rfl
  have e2 : rd [a, b, c, d, e, f, g, hh] 2 = c := rfl
  have e3 : rd [a, b, c, d, e, f, g, hh] 3 = d := rfl
  have e5 : rd [a, b, c, d, e, f, g, hh] 5 = f := rfl
  have e6 : rd [a, b, c, d, e, f, g, hh] 6 = g := rfl
  have e7 : rd [a, b, c, d, e, f, g, hh] 7 = hh := rfl
  rw [e0, e1, e2, e3, e4, e5, e6, e7]
  have q6 : spec_l1Turn.f e 6 = some (Sha.R 6 e) := t6
  have q11 : spec_l1Turn.f e 11 = some (Sha.R 11 e) := t11
  have q25 : spec_l1Turn.f e 25 = some (Sha.R 25 e) := t25
  have q2 : spec_l1Turn.f a 2 = some (Sha.R 2 a) := t2
  have q13 : spec_l1Turn.f a 13 = some (Sha.R 13 a) := t13
  have q22 : spec_l1Turn.f a 22 = some (Sha.R 22 a) := t22
  rw [q6, q11, q25, q2, q13, q22]
  simp only [Option.bind_some, spec_l1Word.f]
  rw [if_pos (by decide), if_pos (by decide), if_pos (by decide), if_pos (by decide), if_pos (by decide), if_pos (by decide), if_pos (by decide), if_pos (by decide)]
  rw [r6, r11, r25, r2, r13, r22]
  rw [Sha.xor64 w6 w11, Sha.xor64 (Sha.W_X w6 w11) w25, Sha.xor64 w2 w13, Sha.xor64 (Sha.W_X w2 w13) w22, Sha.and64 he hf, Sha.not64 he, Sha.and64 (Sha.W_not he) hg, Sha.xor64 c1 c2, Sha.and64 ha hb, Sha.and64 ha hc, Sha.and64 hb hc, Sha.xor64 m1 m2, Sha.xor64 (Sha.W_X m1 m2) m3]
  rw [Sha.xor32 w6 w11, Sha.xor32 (Sha.W_X w6 w11) w25, Sha.xor32 w2 w13, Sha.xor32 (Sha.W_X w2 w13) w22, Sha.and32 he hf, not32 he, Sha.and32 (Sha.W_not he) hg, Sha.xor32 c1 c2, Sha.and32 ha hb, Sha.and32 ha hc, Sha.and32 hb hc, Sha.xor32 m1 m2, Sha.xor32 (Sha.W_X m1 m2) m3]
  revert x1 x2 x3 x4
  generalize Sha.X (Sha.X (Sha.R 6 e) (Sha.R 11 e)) (Sha.R 25 e) = y1
  generalize Sha.X (Sha.X (Sha.R 2 a) (Sha.R 13 a)) (Sha.R 22 a) = y2
  generalize Sha.X (Sha.A e f) (Sha.A (4294967295 - e) g) = y3
  generalize Sha.X (Sha.X (Sha.A a b) (Sha.A a c)) (Sha.A b c) = y4
  intro x1 x2 x3 x4
  simp only [IntKind.wrap_u64]
  obtain ⟨a1, a2⟩ := x1
  obtain ⟨b1, b2⟩ := x2
  obtain ⟨d1, d2⟩ := x3
  obtain ⟨f1, f2⟩ := x4
  obtain ⟨k1, k2⟩ := hk
  obtain ⟨w1, w2'⟩ := hw
  obtain ⟨h1, h2⟩ := hhh
  obtain ⟨g1, g2⟩ := hd
  have z1 : Int.tmod (((((hh + y1) % 18446744073709551616 + y3) % 18446744073709551616 + k) % 18446744073709551616 + w) % 18446744073709551616) 4294967296 = (hh + y1 + y3 + k + w) % 4294967296 := by rw [tm _ (by omega)]; omega
  have z2 : Int.tmod ((y2 + y4) % 18446744073709551616) 4294967296 = (y2 + y4) % 4294967296 := by rw [tm _ (by omega)]; omega
  rw [z1, z2]
  have z3 : Int.tmod (((hh + y1 + y3 + k + w) % 4294967296 + (y2 + y4) % 4294967296) % 18446744073709551616) 4294967296 = (hh + y1 + y3 + k + w + (y2 + y4)) % 4294967296 := by rw [tm _ (by omega)]; omega
  have z4 : Int.tmod ((d + (hh + y1 + y3 + k + w) % 4294967296) % 18446744073709551616) 4294967296 = (d + (hh + y1 + y3 + k + w)) % 4294967296 := by rw [tm _ (by omega)]; omega
  rw [z3, z4]
end Go.Proofs.YtmplnpjdbfedbaaGreatDoor.X
namespace Go.Proofs.YtmplnpjdbfedbaaGreatDoor.X
open Go.RowKit Go.Proofs.YtmplnpjdbfedbaaGreatDoorW.PrintWords Go.Proofs.YtmplnpjdbfedbaaGreatDoorW.PrintLast Go.Proofs.YtmplnpjdbfedbaaGreatDoorW.PrintMore Go.Proofs.YtmplnpjdbfedbaaGreatDoor.Sha Go.Proofs.YtmplnpjdbfedbaaGreatDoor.Pl
set_option linter.unusedVariables false
set_option linter.unusedSimpArgs false
theorem iter {α : Type} (g : Nat → Nat → α) (c K0 N : Nat) (h : ∀ k i, K0 ≤ k → i < N → g (k + c) i = g k (i + 1)) : ∀ n i k, i + n = N → K0 ≤ k → g (k + c * n) i = g k N
  | 0, i, k, hi, hk => by have : i = N := by omega
                          subst this; rfl
  | n + 1, i, k, hi, hk => by
    have e : k + c * (n + 1) = (k + c * n) + c := by rw [Nat.mul_succ]; omega
    rw [e, h (k + c * n) i (by omega) (by omega)]
    exact iter g c K0 N h n (i + 1) k (by omega) hk
def Byt (b : Int) : Prop := 0 ≤ b ∧ b < 256
theorem rdD (l : List Int) (i : Nat) : rd l (i : Int) = l.getD i 0 := rfl
theorem W_wd0 {b0 b1 b2 b3 : Int} : Sha.W (wd0 b0 b1 b2 b3) := W_bor (W_bor (W_bor (Sha.W_mod _) (Sha.W_mod _)) (Sha.W_mod _)) (Sha.W_mod _)
theorem W_sch (blk : List Int) : ∀ n, ∀ x ∈ schI blk n, Sha.W x
  | 0, x, h => by cases h
  | n + 1, x, h => by
    rw [schI] at h
    rcases List.mem_append.1 h with h | h
    · exact W_sch blk n x h
    · obtain rfl := List.mem_singleton.1 h
      split
      · exact W_wd0
      · exact Sha.W_mod _
theorem W_zero : Sha.W 0 := ⟨by omega, by omega⟩
theorem W_getD {l : List Int} (h : ∀ x ∈ l, Sha.W x) (i : Nat) : Sha.W (l.getD i 0) := by
  by_cases hi : i < l.length
  · exact h _ (getD_mem l 0 i hi)
  · rw [List.getD_eq_getElem?_getD, List.getElem?_eq_none (by omega)]; exact W_zero
theorem B_getD {l : List Int} (h : ∀ x ∈ l, Byt x) (i : Nat) : Byt (l.getD i 0) := by
  by_cases hi : i < l.length
  · exact h _ (getD_mem l 0 i hi)
  · rw [List.getD_eq_getElem?_getD, List.getElem?_eq_none (by omega)]; exact ⟨by decide, by decide⟩
theorem wd0_eq {b0 b1 b2 b3 : Int} (h0 : Byt b0) (h1 : Byt b1) (h2 : Byt b2) (h3 : Byt b3) :
    Go.bits .or .u64 (Go.bits .or .u64 (Go.bits .or .u64 (IntKind.u64.wrap ((IntKind.u64.wrap b0) * 16777216)) (IntKind.u64.wrap ((IntKind.u64.wrap b1) * 65536))) (IntKind.u64.wrap ((IntKind.u64.wrap b2) * 256))) (IntKind.u64.wrap b3) = wd0 b0 b1 b2 b3 := by
  obtain ⟨p0, q0⟩ := h0; obtain ⟨p1, q1⟩ := h1; obtain ⟨p2, q2⟩ := h2; obtain ⟨p3, q3⟩ := h3
  simp only [IntKind.wrap_u64]
  have e0 : b0 % 18446744073709551616 * 16777216 % 18446744073709551616 = b0 % 4294967296 * 16777216 % 4294967296 := by omega
  have e1 : b1 % 18446744073709551616 * 65536 % 18446744073709551616 = b1 % 4294967296 * 65536 % 4294967296 := by omega
  have e2 : b2 % 18446744073709551616 * 256 % 18446744073709551616 = b2 % 4294967296 * 256 % 4294967296 := by omega
  have e3 : b3 % 18446744073709551616 = b3 % 4294967296 := by omega
  rw [e0, e1, e2, e3]
  unfold wd0
  rw [or64_32 (Sha.W_mod _) (Sha.W_mod _), or64_32 (W_bor (Sha.W_mod _) (Sha.W_mod _)) (Sha.W_mod _), or64_32 (W_bor (W_bor (Sha.W_mod _) (Sha.W_mod _)) (Sha.W_mod _)) (Sha.W_mod _)]
theorem words0 (blk : List Int) (hb : blk.length = 64) (hB : ∀ x ∈ blk, Byt x) (k i : Nat) (hi : i < 16) : spec_l1Words.l0 (k + 1) blk (schI blk i) (i : Int) = spec_l1Words.l0 k blk (schI blk (i + 1)) ((i + 1 : Nat) : Int) := by
  have w0 : wrap64 (4 * (i : Int)) = ((4 * i : Nat) : Int) := four_w' hi
  have w1 : wrap64 (((4 * i : Nat) : Int) + 1) = ((4 * i + 1 : Nat) : Int) := by unfold wrap64; omega
  have w2 : wrap64 (((4 * i : Nat) : Int) + 2) = ((4 * i + 2 : Nat) : Int) := by unfold wrap64; omega
  have w3 : wrap64 (((4 * i : Nat) : Int) + 3) = ((4 * i + 3 : Nat) : Int) := by unfold wrap64; omega
  have w4 : wrap64 ((i : Int) + 1) = ((i + 1 : Nat) : Int) := by unfold wrap64; omega
  rw [spec_l1Words.l0, if_pos (by omega), w0, w1, w2, w3, w4, hb]
  rw [if_pos (by omega), if_pos (by omega), if_pos (by omega), if_pos (by omega), if_pos (by omega), if_pos (by omega), if_pos (by omega), if_pos (by omega), if_pos (by rw [schI_length]; omega)]
  rw [rdD, rdD, rdD, rdD, wd0_eq (B_getD hB _) (B_getD hB _) (B_getD hB _) (B_getD hB _)]
  rw [schI, if_pos hi]
where four_w' {i : Nat} (h : i < 16) : wrap64 (4 * (i : Int)) = ((4 * i : Nat) : Int) := by unfold wrap64; omega
theorem wd1_eq {p q x y : Int} (hp : Sha.W p) (hq : Sha.W q) (hx : Sha.W x) (hy : Sha.W y) :
    Int.tmod (IntKind.u64.wrap ((IntKind.u64.wrap ((IntKind.u64.wrap (x + (Go.bits .xor .u64 (Go.bits .xor .u64 (Sha.R 7 p) (Sha.R 18 p)) (p / 8)))) + y)) + (Go.bits .xor .u64 (Go.bits .xor .u64 (Sha.R 17 q) (Sha.R 19 q)) (q / 1024)))) 4294967296 = wd1 p q x y := by
  have r7 : rotI 25 7 p = _ := rot_R 7 (by omega) (by omega) hp
  have r18 : rotI 14 18 p = _ := rot_R 18 (by omega) (by omega) hp
  have r17 : rotI 15 17 q = _ := rot_R 17 (by omega) (by omega) hq
  have r19 : rotI 13 19 q = _ := rot_R 19 (by omega) (by omega) hq
  have s3 : Sha.W (p / 8) := Sha.W_shr hp 3
  have s10 : Sha.W (q / 1024) := Sha.W_shr hq 10
  have x1 := Sha.W_X (Sha.W_X (Sha.W_R hp 7) (Sha.W_R hp 18)) s3
  have x2 := Sha.W_X (Sha.W_X (Sha.W_R hq 17) (Sha.W_R hq 19)) s10
  unfold wd1
  rw [r7, r18, r17, r19, Sha.xor64 (Sha.W_R hp 7) (Sha.W_R hp 18), Sha.xor64 (Sha.W_X (Sha.W_R hp 7) (Sha.W_R hp 18)) s3, Sha.xor64 (Sha.W_R hq 17) (Sha.W_R hq 19), Sha.xor64 (Sha.W_X (Sha.W_R hq 17) (Sha.W_R hq 19)) s10,
    Sha.xor32 (Sha.W_R hp 7) (Sha.W_R hp 18), Sha.xor32 (Sha.W_X (Sha.W_R hp 7) (Sha.W_R hp 18)) s3, Sha.xor32 (Sha.W_R hq 17) (Sha.W_R hq 19), Sha.xor32 (Sha.W_X (Sha.W_R hq 17) (Sha.W_R hq 19)) s10]
  revert x1 x2
  generalize Sha.X (Sha.X (Sha.R 7 p) (Sha.R 18 p)) (p / 8) = y1
  generalize Sha.X (Sha.X (Sha.R 17 q) (Sha.R 19 q)) (q / 1024) = y2
  intro x1 x2
  obtain ⟨a1, a2⟩ := x1
  obtain ⟨b1, b2⟩ := x2
  obtain ⟨c1, c2⟩ := hx
  obtain ⟨d1, d2⟩ := hy
  simp only [IntKind.wrap_u64]
  rw [tm _ (by omega)]
  omega
theorem words1 (blk : List Int) (k i : Nat) (h16 : 16 ≤ i) (hi : i < 64) : spec_l1Words.l1 (k + 1) (schI blk i) (i : Int) = spec_l1Words.l1 k (schI blk (i + 1)) ((i + 1 : Nat) : Int) := by
  have v15 : wrap64 ((i : Int) - 15) = ((i - 15 : Nat) : Int) := by unfold wrap64; omega
  have v2 : wrap64 ((i : Int) - 2) = ((i - 2 : Nat) : Int) := by unfold wrap64; omega
  have v16 : wrap64 ((i : Int) - 16) = ((i - 16 : Nat) : Int) := by unfold wrap64; omega
  have v7 : wrap64 ((i : Int) - 7) = ((i - 7 : Nat) : Int) := by unfold wrap64; omega
  have w4 : wrap64 ((i : Int) + 1) = ((i + 1 : Nat) : Int) := by unfold wrap64; omega
  have hp := W_getD (W_sch blk i) (i - 15)
  have hq := W_getD (W_sch blk i) (i - 2)
  have hx := W_getD (W_sch blk i) (i - 16)
  have hy := W_getD (W_sch blk i) (i - 7)
  have q7 : spec_l1Turn.f ((schI blk i).getD (i - 15) 0) 7 = some _ := turn_R 7 (by omega) (by omega) hp
  have q18 : spec_l1Turn.f ((schI blk i).getD (i - 15) 0) 18 = some _ := turn_R 18 (by omega) (by omega) hp
  have q17 : spec_l1Turn.f ((schI blk i).getD (i - 2) 0) 17 = some _ := turn_R 17 (by omega) (by omega) hq
  have q19 : spec_l1Turn.f ((schI blk i).getD (i - 2) 0) 19 = some _ := turn_R 19 (by omega) (by omega) hq
  have hl := schI_length blk i
  have ew := wd1_eq hp hq hx hy
  have en : schI blk (i + 1) = schI blk i ++ [wd1 ((schI blk i).getD (i - 15) 0) ((schI blk i).getD (i - 2) 0) ((schI blk i).getD (i - 16) 0) ((schI blk i).getD (i - 7) 0)] := by rw [schI, if_neg (by omega)]
  rw [spec_l1Words.l1, if_pos (by omega), v15, v2, v16, v7, w4, hl]
  rw [if_pos (by omega), if_pos (by omega), rdD, rdD, rdD, rdD, q7, q18]
  simp only [Option.bind_some]
  rw [if_pos (by omega), if_pos (by omega), q17, q19]
  simp only [Option.bind_some]
  rw [if_pos (by omega), if_pos (by omega), if_pos (by omega), if_pos (by omega)]
  simp only [spec_l1Word.f, Option.bind_some]
  rw [if_pos (by omega), ew, en]
theorem words_ok (blk : List Int) (hb : blk.length = 64) (hB : ∀ x ∈ blk, Byt x) : spec_l1Words.f 66 blk = some (schI blk 64) := by
  have h1 := iter (fun k i => spec_l1Words.l0 k blk (schI blk i) (i : Int)) 1 0 16 (fun k i _ hi => words0 blk hb hB k i hi) 16 0 50 rfl (by omega)
  have h2 := iter (fun k i => spec_l1Words.l1 k (schI blk (i + 16)) ((i + 16 : Nat) : Int)) 1 0 48 (fun k i _ hi => by
    have := words1 blk k (i + 16) (by omega) (by omega)
    rw [this, show i + 16 + 1 = i + 1 + 16 by omega]) 48 0 1 rfl (by omega)
  have e : spec_l1Words.f 66 blk = spec_l1Words.l0 (50 + 1 * 16) blk (schI blk 0) ((0 : Nat) : Int) := rfl
  rw [e]
  refine h1.trans ?_
  have e2 : spec_l1Words.l0 50 blk (schI blk 16) ((16 : Nat) : Int) = spec_l1Words.l1 49 (schI blk 16) 16 := by rw [spec_l1Words.l0, if_neg (by decide)]
  show spec_l1Words.l0 50 blk (schI blk 16) ((16 : Nat) : Int) = _
  rw [e2]
  refine (show spec_l1Words.l1 49 (schI blk 16) 16 = spec_l1Words.l1 (1 + 1 * 48) (schI blk (0 + 16)) ((0 + 16 : Nat) : Int) from rfl).trans (h2.trans ?_)
  show spec_l1Words.l1 1 (schI blk 64) ((64 : Nat) : Int) = _
  rw [spec_l1Words.l1, if_neg (by decide)]
end Go.Proofs.YtmplnpjdbfedbaaGreatDoor.X
namespace Go.Proofs.YtmplnpjdbfedbaaGreatDoor.X
open Go.RowKit Go.Proofs.YtmplnpjdbfedbaaGreatDoorW.PrintWords Go.Proofs.YtmplnpjdbfedbaaGreatDoorW.PrintLast Go.Proofs.YtmplnpjdbfedbaaGreatDoorW.PrintMore Go.Proofs.YtmplnpjdbfedbaaGreatDoor.Sha Go.Proofs.YtmplnpjdbfedbaaGreatDoor.Pl
set_option linter.unusedVariables false
set_option linter.unusedSimpArgs false
theorem takeGetD_ (l : List Int) (i : Nat) (h : i < l.length) : l.take (i + 1) = l.take i ++ [l.getD i 0] := by
  rw [List.take_add_one]; simp [List.getD_eq_getElem?_getD, h]
def padI (l : List Int) : List Int := l ++ 128 :: (List.replicate (noughts (l.length % 64)) 0 ++ lenBs ((8 * l.length : Nat) : Int) 8)
theorem lenBs_len (L : Int) (j : Nat) : (lenBs L j).length = j := by simp [lenBs]
theorem padI_len (l : List Int) : ∃ n, (padI l).length = 64 * n := by
  refine ⟨(padI l).length / 64, ?_⟩
  have : (padI l).length = l.length + 1 + noughts (l.length % 64) + 8 := by simp [padI, lenBs_len]; omega
  have h2 : (padI l).length % 64 = 0 := by rw [this]; unfold noughts; omega
  omega
theorem whole0 (l : List Int) (hl : l.length ≤ 1000000) (k j : Nat) (hj : j < noughts (l.length % 64)) :
    spec_l1Whole.l0 (k + 1) l (l ++ 128 :: List.replicate j 0) = spec_l1Whole.l0 k l (l ++ 128 :: List.replicate (j + 1) 0) := by
  have e : (l ++ 128 :: List.replicate j (0 : Int)).length = l.length + 1 + j := by simp; omega
  rw [spec_l1Whole.l0, e, if_neg (by unfold noughts at hj; omega), if_pos (by unfold noughts at hj; omega)]
  congr 1
  rw [rep_succ]; simp
theorem whole1 (b : List Int) (L : Int) (hb : b.length ≤ 2000000) (k j : Nat) (hj : j < 8) :
    spec_l1Whole.l1 (k + 1) (b ++ lenBs L j) L (7 - (j : Int)) = spec_l1Whole.l1 k (b ++ lenBs L (j + 1)) L (7 - ((j + 1 : Nat) : Int)) := by
  have w8 : wrap64 (8 * (7 - (j : Int))) = ((56 - 8 * j : Nat) : Int) := by unfold wrap64; omega
  have w1 : wrap64 (7 - (j : Int) - 1) = 7 - ((j + 1 : Nat) : Int) := by unfold wrap64; omega
  rw [spec_l1Whole.l1, if_pos (by omega), w8, w1, if_pos (by omega), if_pos (by rw [List.length_append, lenBs_len]; omega)]
  congr 1
  rw [lenBs_succ, List.append_assoc]
  congr 2
  simp only [shr, lenB, Int.toNat_natCast]
  rw [Nat.min_eq_left (by show 56 - 8 * j ≤ 64; omega)]
theorem whole_ok (l : List Int) (hl : l.length ≤ 1000000) : spec_l1Whole.f 74 l = some (padI l) := by
  have hN : noughts (l.length % 64) ≤ 63 := by unfold noughts; omega
  have hL : IntKind.u64.wrap (wrap64 (8 * (l.length : Int))) = ((8 * l.length : Nat) : Int) := by rw [IntKind.wrap_u64]; unfold wrap64; omega
  unfold spec_l1Whole.f
  simp only [Option.bind_some, List.nil_append]
  rw [if_pos (by simp; omega), if_pos (by omega)]
  have e1 := iter (fun k j => spec_l1Whole.l0 k l (l ++ 128 :: List.replicate j 0)) 1 0 (noughts (l.length % 64)) (fun k j _ hj => whole0 l hl k j hj) (noughts (l.length % 64)) 0 (74 - noughts (l.length % 64)) (by omega) (by omega)
  rw [show 74 - noughts (l.length % 64) + 1 * noughts (l.length % 64) = 74 by omega] at e1
  refine e1.trans ?_
  obtain ⟨k, hk⟩ : ∃ k, 74 - noughts (l.length % 64) = k + 10 := ⟨64 - noughts (l.length % 64), by omega⟩
  have e3 : (l ++ 128 :: List.replicate (noughts (l.length % 64)) (0 : Int)).length = l.length + 1 + noughts (l.length % 64) := by simp; omega
  show spec_l1Whole.l0 (74 - noughts (l.length % 64)) l (l ++ 128 :: List.replicate (noughts (l.length % 64)) 0) = _
  rw [hk, spec_l1Whole.l0, e3, if_pos (by unfold noughts; omega), hL]
  have e2 := iter (fun k j => spec_l1Whole.l1 k ((l ++ 128 :: List.replicate (noughts (l.length % 64)) 0) ++ lenBs ((8 * l.length : Nat) : Int) j) ((8 * l.length : Nat) : Int) (7 - (j : Int))) 1 0 8 (fun k j _ hj => whole1 _ _ (by rw [e3]; omega) k j hj) 8 0 (k + 1) rfl (by omega)
  have e4 : (l ++ 128 :: List.replicate (noughts (l.length % 64)) 0) ++ lenBs ((8 * l.length : Nat) : Int) 0 = l ++ 128 :: List.replicate (noughts (l.length % 64)) 0 := by simp [lenBs]
  simp only [e4] at e2
  refine (show _ = spec_l1Whole.l1 (k + 1 + 1 * 8) (l ++ 128 :: List.replicate (noughts (l.length % 64)) 0) ((8 * l.length : Nat) : Int) (7 - ((0 : Nat) : Int)) from rfl).trans (e2.trans ?_)
  rw [spec_l1Whole.l1, if_neg (by decide)]
  simp [padI]
theorem W_S0 : ∀ x ∈ shS0, Sha.W x := by intro x h; simp only [shS0, List.mem_cons, List.not_mem_nil, or_false] at h; rcases h with rfl | rfl | rfl | rfl | rfl | rfl | rfl | rfl <;> exact ⟨by decide, by decide⟩
theorem W_K0 : ∀ i, Sha.W (shK0.getD i 0) := by
  intro i
  by_cases h : i < 64
  · have : ∀ j : Fin 64, 0 ≤ shK0.getD j.val 0 ∧ shK0.getD j.val 0 < 4294967296 := by decide +kernel
    exact this ⟨i, h⟩
  · rw [List.getD_eq_getElem?_getD, List.getElem?_eq_none (by show shK0.length ≤ i; have : shK0.length = 64 := rfl; omega)]; exact W_zero
theorem WQ_rnd (ws : List Int) {q : St8} (h : WQ q) : ∀ n, WQ (rndI ws n q)
  | 0 => h
  | n + 1 => (WQ_rnd ws h n).step _ _
theorem rounds3 (x4 x6 ws : List Int) (x9 : Int) (q : St8) (hq : WQ q) (hw : ∀ x ∈ ws, Sha.W x) (hl : ws.length = 64) (k i : Nat) (hi : i < 64) :
    spec_l1Sum.l3 (k + 1) x4 x6 shK0 x9 ws (rndI ws i q).l (i : Int) = spec_l1Sum.l3 k x4 x6 shK0 x9 ws (rndI ws (i + 1) q).l ((i + 1 : Nat) : Int) := by
  have w1 : wrap64 ((i : Int) + 1) = ((i + 1 : Nat) : Int) := by unfold wrap64; omega
  rw [spec_l1Sum.l3, if_pos (by omega), if_pos (by omega), if_pos (by show (i : Int) < ((64 : Nat) : Int); omega), if_pos (by rw [hl]; omega), rdD, rdD, step_eq (WQ_rnd ws hq i) (W_K0 i) (W_getD hw i), w1]
  rfl
theorem adds4 (x4 x6 x7 : List Int) (x9 : Int) (q : St8) (hq : WQ q) (hw : ∀ x ∈ x4, Sha.W x) (hl : x4.length = 8) (k i : Nat) (hi : i < 8) :
    spec_l1Sum.l4 (k + 1) ((outI x4 q).take i ++ x4.drop i) x6 x7 x9 q.l (i : Int) = spec_l1Sum.l4 k ((outI x4 q).take (i + 1) ++ x4.drop (i + 1)) x6 x7 x9 q.l ((i + 1 : Nat) : Int) := by
  have w1 : wrap64 ((i : Int) + 1) = ((i + 1 : Nat) : Int) := by unfold wrap64; omega
  have ho : (outI x4 q).length = x4.length := by simp [outI, hl]
  have hlen : ((outI x4 q).take i ++ x4.drop i).length = 8 := by simp [ho, hl]; omega
  have hx := W_getD hw i
  have hy : Sha.W (q.l.getD i 0) := W_getD (by intro x h; simp only [St8.l, List.mem_cons, List.not_mem_nil, or_false] at h; rcases h with rfl | rfl | rfl | rfl | rfl | rfl | rfl | rfl <;> first | exact hq.a | exact hq.b | exact hq.c | exact hq.d | exact hq.e | exact hq.f | exact hq.g | exact hq.h) i
  have hs : (outI x4 q).getD i 0 = (x4.getD i 0 + q.l.getD i 0) % 4294967296 := by
    rw [outI, show q.l = [q.a, q.b, q.c, q.d, q.e, q.f, q.g, q.h] from rfl, List.getD_eq_getElem?_getD, List.getElem?_zipWith, List.getD_eq_getElem?_getD, List.getD_eq_getElem?_getD, List.getElem?_eq_getElem (by omega), List.getElem?_eq_getElem (by exact hi)]; rfl
  have ht : Int.tmod (IntKind.u64.wrap (x4.getD i 0 + q.l.getD i 0)) 4294967296 = (outI x4 q).getD i 0 := by
    obtain ⟨p1, p2⟩ := hx; obtain ⟨p3, p4⟩ := hy
    rw [hs, IntKind.wrap_u64, tm _ (by omega)]; omega
  rw [spec_l1Sum.l4, if_pos (by omega), if_pos (by omega), hlen, if_pos (by omega), if_pos (by show (i : Int) < ((8 : Nat) : Int); omega), rdD, rdD, part_at _ _ _ (by omega) ho]
  simp only [spec_l1Word.f, Option.bind_some]
  rw [ht, w1, Int.toNat_natCast, part_set _ _ _ (by omega) ho]
def qOf (st : List Int) : St8 := ⟨st.getD 0 0, st.getD 1 0, st.getD 2 0, st.getD 3 0, st.getD 4 0, st.getD 5 0, st.getD 6 0, st.getD 7 0⟩
theorem qOf_l {st : List Int} (h : st.length = 8) : (qOf st).l = st := by
  obtain ⟨a0, a1, a2, a3, a4, a5, a6, a7, rfl⟩ := eight h; rfl
theorem WQ_qOf {st : List Int} (h : ∀ x ∈ st, Sha.W x) : WQ (qOf st) := ⟨W_getD h 0, W_getD h 1, W_getD h 2, W_getD h 3, W_getD h 4, W_getD h 5, W_getD h 6, W_getD h 7⟩
theorem mixI_len {st blk : List Int} (h : st.length = 8) : (mixI st blk).length = 8 := by simp [mixI, outI, h]
theorem W_mixI (st blk : List Int) : ∀ x ∈ mixI st blk, Sha.W x := by
  intro x hx
  unfold mixI outI at hx
  obtain ⟨i, hi⟩ := List.mem_iff_getElem?.1 hx
  rw [List.getElem?_zipWith] at hi
  split at hi
  · obtain rfl := Option.some.inj hi; exact Sha.W_mod _
  · cases hi
theorem block2 (h x6 : List Int) (n : Nat) (hh : h.length = 8) (hw : ∀ x ∈ h, Sha.W x) (hB : ∀ x ∈ x6, Byt x) (N : Nat) (hx : x6.length = 64 * N) (hN : N ≤ 100000) (hn : n < N) (k : Nat) :
    spec_l1Sum.l2 (k + 75) h x6 shK0 ((64 * n : Nat) : Int) = spec_l1Sum.l2 k (mixI h ((x6.drop (64 * n)).take 64)) x6 shK0 ((64 * (n + 1) : Nat) : Int) := by
  have w1 : wrap64 (((64 * n : Nat) : Int) + 64) = ((64 * (n + 1) : Nat) : Int) := by unfold wrap64; omega
  have hb : ((x6.take (64 * (n + 1))).drop (64 * n)) = (x6.drop (64 * n)).take 64 := by
    rw [List.drop_take]; congr 1; omega
  have hbl : ((x6.drop (64 * n)).take 64).length = 64 := by simp; omega
  have hbB : ∀ x ∈ (x6.drop (64 * n)).take 64, Byt x := fun x h => hB x (List.mem_of_mem_drop (List.mem_of_mem_take h))
  have hwd : spec_l1Words.f (k + 74) ((x6.drop (64 * n)).take 64) = some _ := at_rounds (spec_l1Words.mono _) (k := 66) (by omega) (words_ok _ hbl hbB)
  rw [show k + 75 = (k + 74) + 1 from rfl, spec_l1Sum.l2, if_pos (by omega), if_pos (by omega), w1, if_pos (by omega), if_pos (by omega), Int.toNat_natCast, Int.toNat_natCast, hb, hwd]
  simp only [Option.bind_some, List.nil_append]
  rw [if_pos (by simp [hh])]
  have e3 := iter (fun k i => spec_l1Sum.l3 k h x6 shK0 ((64 * n : Nat) : Int) (schI ((x6.drop (64 * n)).take 64) 64) (rndI (schI ((x6.drop (64 * n)).take 64) 64) i (qOf h)).l (i : Int)) 1 0 64 (fun k i _ hi => rounds3 _ _ _ _ _ (WQ_qOf hw) (W_sch _ _) (schI_length _ _) k i hi) 64 0 (k + 10) rfl (by omega)
  have e0 : (rndI (schI ((x6.drop (64 * n)).take 64) 64) 0 (qOf h)).l = h := qOf_l hh
  simp only [e0] at e3
  refine e3.trans ?_
  show spec_l1Sum.l3 ((k + 9) + 1) h x6 shK0 _ _ _ ((64 : Nat) : Int) = _
  rw [spec_l1Sum.l3, if_neg (by decide)]
  have e4 := iter (fun k i => spec_l1Sum.l4 k ((outI h (rndI (schI ((x6.drop (64 * n)).take 64) 64) 64 (qOf h))).take i ++ h.drop i) x6 shK0 ((64 * n : Nat) : Int) (rndI (schI ((x6.drop (64 * n)).take 64) 64) 64 (qOf h)).l (i : Int)) 1 0 8 (fun k i _ hi => adds4 h x6 shK0 _ _ (WQ_rnd _ (WQ_qOf hw) 64) hw hh k i hi) 8 0 (k + 1) rfl (by omega)
  simp only [List.take_zero, List.drop_zero, List.nil_append] at e4
  refine e4.trans ?_
  have ho : (outI h (rndI (schI ((x6.drop (64 * n)).take 64) 64) 64 (qOf h))).length = 8 := by simp [outI, hh]
  have hd : h.drop 8 = [] := List.drop_eq_nil_of_le (by omega)
  rw [List.take_of_length_le (by omega), hd, List.append_nil, spec_l1Sum.l4, if_neg (by decide), w1]
  rfl
theorem blocks_snoc (mix : List Int → List Int → List Int) : ∀ (n : Nat) (h l : List Int), blocksF mix (n + 1) h l = mix (blocksF mix n h l) ((l.drop (64 * n)).take 64)
  | 0, h, l => by simp [blocksF]
  | n + 1, h, l => by
    have := blocks_snoc mix n (mix h (l.take 64)) (l.drop 64)
    rw [blocksF, this]
    rw [show blocksF mix (n + 1) h l = blocksF mix n (mix h (l.take 64)) (l.drop 64) from rfl, List.drop_drop, show 64 + 64 * n = 64 * (n + 1) by omega]
theorem blocks_good (l : List Int) : ∀ n, (blocksF mixI n shS0 l).length = 8 ∧ ∀ x ∈ blocksF mixI n shS0 l, Sha.W x
  | 0 => ⟨rfl, W_S0⟩
  | n + 1 => by rw [blocks_snoc]; exact ⟨mixI_len (blocks_good l n).1, W_mixI _ _⟩
theorem padI_byt {l : List Int} (h : ∀ x ∈ l, Byt x) : ∀ x ∈ padI l, Byt x := by
  intro x hx
  simp only [padI, List.mem_append, List.mem_cons, List.mem_replicate] at hx
  rcases hx with hx | rfl | ⟨_, rfl⟩ | hx
  · exact h x hx
  · exact ⟨by decide, by decide⟩
  · exact ⟨by decide, by decide⟩
  · obtain ⟨j, _, rfl⟩ := List.mem_map.1 hx
    unfold lenB Byt; omega
theorem dig5 (h : List Int) (hh : h.length = 8) (k i : Nat) (hi : i < 8) : spec_l1Sum.l5 (k + 1) h (digI (h.take i)) (i : Int) = spec_l1Sum.l5 k h (digI (h.take (i + 1))) ((i + 1 : Nat) : Int) := by
  have w1 : wrap64 ((i : Int) + 1) = ((i + 1 : Nat) : Int) := by unfold wrap64; omega
  rw [spec_l1Sum.l5, if_pos (by omega), if_pos (by omega), hh, if_pos (by omega), w1]
  simp only [Option.bind_some]
  rw [if_pos (by rw [digI_len, List.length_take, hh]; simp; omega), digI_succ h i (by omega), rdD]
  rfl
theorem shP_len : shP.length = 64 := rfl
theorem sum0 (l : List Int) (k : Nat) (hk : 50 ≤ k) : spec_l1Sum.l0 ((k + 1) + 1 * 8) l shP [] ((0 : Nat) : Int) = (spec_l1Whole.f k l).bind fun t => spec_l1Sum.l1 k shP shS0 t [] 0 := by
  have e0 := iter (fun k i => spec_l1Sum.l0 k l shP (shS0.take i) (i : Int)) 1 50 8 (fun k i hk hi => by
    have w1 : wrap64 ((i : Int) + 1) = ((i + 1 : Nat) : Int) := by unfold wrap64; omega
    have hr0 : spec_l1Root.f 50 (shP.getD i 0) 2 = some (shS0.getD i 0) := root2 ⟨i, hi⟩
    have hr : spec_l1Root.f k (shP.getD i 0) 2 = some (shS0.getD i 0) := at_rounds (g := fun k => spec_l1Root.f k (shP.getD i 0) 2) (spec_l1Root.mono _ _) hk hr0
    show spec_l1Sum.l0 (k + 1) l shP (shS0.take i) (i : Int) = spec_l1Sum.l0 k l shP (shS0.take (i + 1)) ((i + 1 : Nat) : Int)
    rw [spec_l1Sum.l0, if_pos (by omega), if_pos (by omega), if_pos (by rw [shP_len]; omega), rdD, hr, Option.bind_some, if_pos (by rw [List.length_take]; omega), w1, takeGetD_ shS0 i hi]) 8 0 (k + 1) rfl (by omega)
  refine Eq.trans e0 ?_
  show spec_l1Sum.l0 (k + 1) l shP (shS0.take 8) ((8 : Nat) : Int) = _
  rw [spec_l1Sum.l0, if_neg (by decide)]
  rfl
theorem sum1 (X : List Int) (k : Nat) (hk : 50 ≤ k) : spec_l1Sum.l1 ((k + 1) + 1 * 64) shP shS0 X [] ((0 : Nat) : Int) = spec_l1Sum.l2 k shS0 X shK0 ((64 * 0 : Nat) : Int) := by
  have e1 := iter (fun k i => spec_l1Sum.l1 k shP shS0 X (shK0.take i) (i : Int)) 1 50 64 (fun k i hk hi => by
    have w1 : wrap64 ((i : Int) + 1) = ((i + 1 : Nat) : Int) := by unfold wrap64; omega
    have hr0 : spec_l1Root.f 50 (shP.getD i 0) 3 = some (shK0.getD i 0) := root3 ⟨i, hi⟩
    have hr : spec_l1Root.f k (shP.getD i 0) 3 = some (shK0.getD i 0) := at_rounds (g := fun k => spec_l1Root.f k (shP.getD i 0) 3) (spec_l1Root.mono _ _) hk hr0
    show spec_l1Sum.l1 (k + 1) shP shS0 X (shK0.take i) (i : Int) = spec_l1Sum.l1 k shP shS0 X (shK0.take (i + 1)) ((i + 1 : Nat) : Int)
    rw [spec_l1Sum.l1, if_pos (by omega), if_pos (by omega), if_pos (by rw [shP_len]; omega), rdD, hr, Option.bind_some, if_pos (by rw [List.length_take]; omega), w1, takeGetD_ shK0 i hi]) 64 0 (k + 1) rfl (by omega)
  refine Eq.trans e1 ?_
  show spec_l1Sum.l1 (k + 1) shP shS0 X (shK0.take 64) ((64 : Nat) : Int) = _
  rw [spec_l1Sum.l1, if_neg (by decide), show shK0.take 64 = shK0 from rfl]
  rfl
theorem sum2 (l : List Int) (hB : ∀ x ∈ l, Byt x) (N : Nat) (hN : (padI l).length = 64 * N) (hNl : N ≤ 100000) (k : Nat) : spec_l1Sum.l2 (((k + 1) + 1 * 8 + 1) + 75 * N) shS0 (padI l) shK0 ((64 * 0 : Nat) : Int) = some (digI (blocksF mixI N shS0 (padI l))) := by
  have e2 := iter (fun k n => spec_l1Sum.l2 k (blocksF mixI n shS0 (padI l)) (padI l) shK0 ((64 * n : Nat) : Int)) 75 0 N (fun k n _ hn => by
    have := block2 (blocksF mixI n shS0 (padI l)) (padI l) n (blocks_good _ n).1 (blocks_good _ n).2 (padI_byt hB) N hN hNl hn k
    rw [this, ← blocks_snoc mixI]) N 0 ((k + 1) + 1 * 8 + 1) (by omega) (by omega)
  refine Eq.trans e2 ?_
  show spec_l1Sum.l2 (((k + 1) + 1 * 8) + 1) _ (padI l) shK0 ((64 * N : Nat) : Int) = _
  rw [spec_l1Sum.l2, hN, if_neg (by omega)]
  have e5 := iter (fun k i => spec_l1Sum.l5 k (blocksF mixI N shS0 (padI l)) (digI ((blocksF mixI N shS0 (padI l)).take i)) (i : Int)) 1 0 8 (fun k i _ hi => dig5 _ (blocks_good _ N).1 k i hi) 8 0 (k + 1) rfl (by omega)
  refine Eq.trans e5 ?_
  show spec_l1Sum.l5 (k + 1) _ (digI ((blocksF mixI N shS0 (padI l)).take 8)) ((8 : Nat) : Int) = _
  rw [spec_l1Sum.l5, if_neg (by decide), List.take_of_length_le (by rw [(blocks_good _ N).1]; omega)]
theorem sum_blocks (l : List Int) (hl : l.length ≤ 1000000) (hB : ∀ x ∈ l, Byt x) (N : Nat) (hN : (padI l).length = 64 * N) : ∃ k, spec_l1Sum.f k l = some (digI (blocksF mixI N shS0 (padI l))) := by
  have hNl : N ≤ 100000 := by
    have : (padI l).length = l.length + 1 + noughts (l.length % 64) + 8 := by simp [padI, lenBs_len]; omega
    unfold noughts at this; omega
  obtain ⟨K2, h2⟩ : ∃ K2, K2 = ((400 + 1) + 1 * 8 + 1) + 75 * N := ⟨_, rfl⟩
  have e2 := sum2 l hB N hN hNl 400
  rw [← h2] at e2
  have e1 := sum1 (padI l) K2 (by omega)
  rw [e2] at e1
  obtain ⟨K1, h1⟩ : ∃ K1, K1 = (K2 + 1) + 1 * 64 := ⟨_, rfl⟩
  rw [← h1] at e1
  have hwh : spec_l1Whole.f K1 l = some (padI l) := at_rounds (g := fun k => spec_l1Whole.f k l) (spec_l1Whole.mono l) (k := 74) (by omega) (whole_ok l hl)
  have e0 := sum0 l K1 (by omega)
  rw [hwh, Option.bind_some] at e0
  obtain ⟨K0, h0⟩ : ∃ K0, K0 = (K1 + 1) + 1 * 8 := ⟨_, rfl⟩
  rw [← h0] at e0
  have hp : spec_l1Primes.f K0 64 = some shP := at_rounds (g := fun k => spec_l1Primes.f k 64) (spec_l1Primes.mono 64) (k := 400) (by omega) primes_ok
  refine ⟨K0, ?_⟩
  unfold spec_l1Sum.f
  rw [hp, Option.bind_some]
  exact Eq.trans e0 e1
theorem shaF_blocks (l : List Int) (T : Int) (hT : IntKind.u64.wrap (T * 8) = ((8 * l.length : Nat) : Int)) (N : Nat) (hN : (padI l).length = 64 * N) : shaF mixI l T = digI (blocksF mixI N shS0 (padI l)) := by
  have hu : (writeF mixI (shS0, List.replicate 64 0, 0) l).2.2 = l.length % 64 := by
    have := writeF_used mixI l (shS0, List.replicate 64 0, 0) (by decide)
    simpa using this
  unfold shaF
  rw [hT, hu, ← writeF_append]
  obtain ⟨b, h1, _⟩ := writeF_blocks mixI N (padI l) shS0 (List.replicate 64 0) (by simp) hN
  show digI (writeF mixI _ (padI l)).1 = _
  rw [h1]
theorem sum_ok (l : List Int) (hl : l.length ≤ 1000000) (hB : ∀ x ∈ l, Byt x) (T : Int) (hT : IntKind.u64.wrap (T * 8) = ((8 * l.length : Nat) : Int)) : ∃ k, spec_l1Sum.f k l = some (shaF mixI l T) := by
  obtain ⟨N, hN⟩ := padI_len l
  rw [shaF_blocks l T hT N hN]
  exact sum_blocks l hl hB N hN
theorem totN0 (n : Nat) (h : n ≤ 1000000) : totN 0 n = (n : Int) := by unfold totN; simp only [IntKind.wrap_u64]; omega
theorem sum_ok0 (l : List Int) (hl : l.length ≤ 1000000) (hB : ∀ x ∈ l, Byt x) : ∃ k, spec_l1Sum.f k l = some (shaF mixI l (totN 0 l.length)) :=
  sum_ok l hl hB _ (by rw [totN0 _ hl, IntKind.wrap_u64]; omega)
end Go.Proofs.YtmplnpjdbfedbaaGreatDoor.X
namespace Go.Proofs.YtmplnpjdbfedbaaGreatDoor.X
open Go.RowKit Go.Proofs.YtmplnpjdbfedbaaGreatDoorW.PrintWords Go.Proofs.YtmplnpjdbfedbaaGreatDoor.Pl Go.Proofs.YtmplnpjdbfedbaaGreatDoor.Sha
set_option linter.unusedSimpArgs false
set_option linter.unusedVariables false
theorem xor8_byt {a : Int} (h : Byt a) (c : Int) (hc : 0 ≤ c ∧ c < 256) : Byt (bits .xor .u8 a c) := by
  obtain ⟨h0, h1⟩ := h
  rw [u8_xor a c h0 h1 hc.1 hc.2]
  have : a.toNat ^^^ c.toNat < 2 ^ 8 := Nat.xor_lt_two_pow (by omega) (by omega)
  unfold Byt; omega
theorem digI_byt (st : List Int) : ∀ x ∈ digI st, Byt x := by
  intro x hx
  obtain ⟨v, _, hv⟩ := List.mem_flatMap.1 hx
  simp only [digB, List.mem_cons, List.not_mem_nil, or_false] at hv
  unfold Byt
  rcases hv with rfl | rfl | rfl | rfl <;> omega
theorem shaF_byt (l : List Int) (T : Int) : ∀ x ∈ shaF mixI l T, Byt x := digI_byt _
theorem padX_byt {key : List Int} (h : ∀ x ∈ key, Byt x) : ∀ x ∈ padX key, Byt x := by
  unfold padX; split
  · exact h
  · exact shaF_byt _ _
theorem padK_byt {key : List Int} (h : ∀ x ∈ key, Byt x) : ∀ x ∈ padK key, Byt x := by
  intro x hx
  rcases List.mem_append.1 hx with hx | hx
  · exact padX_byt h x hx
  · obtain rfl := (List.mem_replicate.1 hx).2; exact ⟨by decide, by decide⟩
theorem macIn_byt {key : List Int} (h : ∀ x ∈ key, Byt x) : ∀ x ∈ macIn key, Byt x := by
  intro x hx
  obtain ⟨b, hb, rfl⟩ := List.mem_map.1 hx
  exact xor8_byt (padK_byt h b hb) 54 ⟨by decide, by decide⟩
theorem macOut_byt {key : List Int} (h : ∀ x ∈ key, Byt x) : ∀ x ∈ macOut key, Byt x := by
  intro x hx
  obtain ⟨b, hb, rfl⟩ := List.mem_map.1 hx
  exact xor8_byt (padK_byt h b hb) 92 ⟨by decide, by decide⟩
theorem macL0 (x1 : List Int) (r : List Int) : ∀ (n : Nat) (x5 : List Int), x5.length + n = 64 → Ev (fun k => spec_ShaMac.l1 k x1 (x5 ++ List.replicate n 0) [] [] 0) r → Ev (fun k => spec_ShaMac.l0 k x1 x5) r
  | 0, x5, hl, h => by
    refine Ev.step (f := fun k => spec_ShaMac.l1 k x1 x5 [] [] 0) (fun k => ?_) (by simpa using h)
    rw [spec_ShaMac.l0, if_neg (by omega)]
  | n + 1, x5, hl, h => by
    have ih := macL0 x1 r n (x5 ++ [0]) (by simp; omega) (by rw [List.append_assoc]; exact h)
    refine Ev.step (f := fun k => spec_ShaMac.l0 k x1 (x5 ++ [0])) (fun k => ?_) ih
    rw [spec_ShaMac.l0, if_pos (by omega), if_pos (by omega)]
theorem macL1 (x1 P : List Int) (hP : P.length = 64) (r : List Int)
    (h : Ev (fun k => if (P.map fun b => bits .xor .u8 b 54).length + x1.length < 140737488355328 then ((spec_l1Sum.f k ((P.map fun b => bits .xor .u8 b 54) ++ x1)).bind fun t133 => (if (P.map fun b => bits .xor .u8 b 92).length + t133.length < 140737488355328 then ((spec_l1Sum.f k ((P.map fun b => bits .xor .u8 b 92) ++ t133)).bind fun t139 => (some t139)) else none)) else none) r) :
    ∀ (n i : Nat), i + n = 64 → Ev (fun k => spec_ShaMac.l1 k x1 P ((P.map fun b => bits .xor .u8 b 54).take i) ((P.map fun b => bits .xor .u8 b 92).take i) (i : Int)) r
  | 0, i, hi => by
    obtain rfl : i = 64 := by omega
    refine Ev.step (fun k => ?_) h
    rw [spec_ShaMac.l1, if_neg (by decide), List.take_of_length_le (by simp [hP]), List.take_of_length_le (by simp [hP])]
  | n + 1, i, hi => by
    have ih := macL1 x1 P hP r h n (i + 1) (by omega)
    have w1 : wrap64 ((i : Int) + 1) = ((i + 1 : Nat) : Int) := by unfold wrap64; omega
    refine Ev.step (fun k => ?_) ih
    rw [spec_ShaMac.l1, if_pos (by omega), if_pos (by omega), hP, if_pos (by omega), if_pos (by rw [List.length_take]; omega), if_pos (by rw [List.length_take]; omega), w1, takeGetD_ _ i (by simp [hP]; omega), takeGetD_ _ i (by simp [hP]; omega), map_at _ _ _ (by omega), map_at _ _ _ (by omega)]
    rfl
theorem totN2 (n : Nat) (h : n ≤ 1000000) : IntKind.u64.wrap (totN (totN 0 64) n * 8) = ((8 * (64 + n) : Nat) : Int) := by unfold totN; simp only [IntKind.wrap_u64]; omega
theorem mac_sum_ev (a b : List Int) (ha : a.length = 64) (hb : b.length ≤ 900000) (hA : ∀ x ∈ a, Byt x) (hB : ∀ x ∈ b, Byt x) : Ev (fun k => spec_l1Sum.f k (a ++ b)) (shaF mixI (a ++ b) (totN (totN 0 64) b.length)) := by
  obtain ⟨k, hk⟩ := sum_ok (a ++ b) (by simp; omega) (fun x hx => (List.mem_append.1 hx).elim (hA x) (hB x)) (totN (totN 0 64) b.length) (by rw [totN2 _ (by omega), List.length_append, ha])
  exact Ev.of (spec_l1Sum.mono _) hk
theorem mac_ev (key list : List Int) (hk : ∀ x ∈ key, Byt x) (hl : ∀ x ∈ list, Byt x) (h0 : key.length ≤ 500) (h1 : list.length ≤ 500) : Ev (fun k => spec_ShaMac.f k key list) (macF key list) := by
  have step1 : Ev (fun k => spec_ShaMac.j1 k list (padX key)) (macF key list) := by
    refine Ev.step (f := fun k => spec_ShaMac.l0 k list (padX key)) (fun k => by rw [spec_ShaMac.j1]) ?_
    refine macL0 list _ (64 - (padX key).length) (padX key) (by have := padX_len key; omega) ?_
    refine macL1 list (padK key) (padK_len key) _ ?_ 64 0 rfl
    have e1 := mac_sum_ev (macIn key) list (macIn_len key) (by omega) (macIn_byt hk) hl
    have e2 := mac_sum_ev (macOut key) (shaF mixI (macIn key ++ list) (totN (totN 0 64) list.length)) (macOut_len key) (by rw [shaF_len32]; omega) (macOut_byt hk) (shaF_byt _ _)
    refine Ev.congr (f := fun k => (spec_l1Sum.f k (macIn key ++ list)).bind fun t133 => (if (macOut key).length + t133.length < 140737488355328 then ((spec_l1Sum.f k (macOut key ++ t133)).bind fun t139 => (some t139)) else none)) (fun k => ?_) (Ev.bind e1 ?_)
    · show (if (macIn key).length + list.length < 140737488355328 then _ else none) = _
      rw [if_pos (by rw [macIn_len]; omega)]
      rfl
    · refine Ev.congr (f := fun k => spec_l1Sum.f k (macOut key ++ shaF mixI (macIn key ++ list) (totN (totN 0 64) list.length))) (fun k => ?_) e2
      rw [if_pos (by rw [macOut_len, shaF_len32]; omega)]
      cases spec_l1Sum.f k (macOut key ++ shaF mixI (macIn key ++ list) (totN (totN 0 64) list.length)) <;> rfl
  refine Ev.congr (f := fun k => spec_ShaMac.j0 k key list false) (fun k => ?_) ?_
  · unfold spec_ShaMac.f
    rw [if_neg (by omega), show decide ((list.length : Int) > 500) = false from decide_eq_false (by omega)]
  · by_cases h64 : key.length ≤ 64
    · refine Ev.step (f := fun k => spec_ShaMac.j1 k list key) (fun k => ?_) (by rw [padX, if_pos h64] at step1; exact step1)
      rw [spec_ShaMac.j0, if_neg (by decide)]
      simp only [Option.bind_some, List.nil_append, List.length_nil]
      rw [if_pos (by omega), if_neg (by omega)]
    · obtain ⟨kk, hkk⟩ := sum_ok0 key (by omega) hk
      have e3 : flatP [⟨none, 0, key⟩] = key := by simp [flatP]
      have e4 : padX key = shaF mixI key (totN 0 key.length) := by rw [padX, if_neg h64, e3]; rfl
      rw [e4] at step1
      refine Ev.step (f := fun k => (spec_l1Sum.f k key).bind fun t110 => spec_ShaMac.j1 k list t110) (fun k => ?_) (Ev.bind (Ev.of (spec_l1Sum.mono _) hkk) step1)
      rw [spec_ShaMac.j0, if_neg (by decide)]
      simp only [Option.bind_some, List.nil_append, List.length_nil]
      rw [if_pos (by omega), if_pos (by omega)]
def macR (key list : List Int) : List Int := if key.length ≤ 500 ∧ list.length ≤ 500 then macF key list else []
theorem implMac_ok (key list : List Int) : impl_ShaMac.f key list = some (macR key list) := by
  unfold impl_ShaMac.f macR; split <;> rfl
theorem specMac_ev (key list : List Int) (hk : ∀ x ∈ key, Byt x) (hl : ∀ x ∈ list, Byt x) : Ev (fun k => spec_ShaMac.f k key list) (macR key list) := by
  unfold macR
  by_cases h : key.length ≤ 500 ∧ list.length ≤ 500
  · rw [if_pos h]; exact mac_ev key list hk hl h.1 h.2
  · rw [if_neg h]
    refine Ev.congr (f := fun k => spec_ShaMac.j0 k key list true) (fun k => ?_) (ev_succ ⟨0, fun k _ => by dsimp only; rw [spec_ShaMac.j0, if_pos rfl]⟩)
    unfold spec_ShaMac.f
    by_cases h0 : key.length ≤ 500
    · rw [if_neg (by omega), show decide ((list.length : Int) > 500) = true from decide_eq_true (by omega)]
    · rw [if_pos (by omega)]
theorem macF_len (key list : List Int) : (macF key list).length = 32 := shaF_len32 _ _
theorem ByteOk {n : Int} (h : (Lit.int .u8 n).wf = true) : 0 ≤ n ∧ n ≤ 255 := by
  simp [Lit.wf, IntKind.min, IntKind.max, IntKind.signed, IntKind.bits] at h; omega
end Go.Proofs.YtmplnpjdbfedbaaGreatDoor.X
namespace Go.Proofs.YtmplnpjdbfedbaaGreatDoor.X
open Go.RowKit Go.Proofs.YtmplnpjdbfedbaaGreatDoorW.PrintWords Go.Proofs.YtmplnpjdbfedbaaGreatDoor.Pl
set_option linter.unusedSimpArgs false
set_option linter.unusedVariables false
theorem bytesN_byt (s : ByteArray) : ∀ x ∈ bytesN s, Byt x := by
  intro x hx
  obtain ⟨u, _, rfl⟩ := List.mem_map.1 hx
  have := u.toNat_lt
  unfold Byt; omega
theorem txtI_93 (W : ByteArray) (l : List Int) (h : ∀ n ∈ l, okI n) (hW : W.size ≤ 5) (hl : l.length ≤ 4) : (txtI W l).size ≤ 93 := by
  have : ∀ (l : List Int) (S : ByteArray), (∀ n ∈ l, okI n) → (l.foldl (fun s n => s ++ numT n) S).size ≤ S.size + 22 * l.length := by
    intro l
    induction l with
    | nil => intro S _; simp
    | cons a l ih =>
      intro S h
      have h1 := ih (S ++ numT a) (fun n hn => h n (List.mem_cons_of_mem _ hn))
      have h2 := h a (List.mem_cons_self ..)
      have h3 := Lib.itoa_length_le a h2.1 h2.2
      rw [ByteArray.size_append, numT_size] at h1
      simp only [List.foldl_cons, List.length_cons]
      omega
  have := this l W h
  unfold txtI
  omega
theorem opT_93 (x : Op) : (opT x).size ≤ 93 := by
  unfold opT opTextF
  split
  · rename_i h
    obtain ⟨h1, h8, hn⟩ := opOk_kind h
    refine txtI_93 _ _ (fun n h => ?_) (formW_len _ (by omega)) (by simp; omega)
    have := hn n (List.mem_of_mem_take h)
    exact ⟨by omega, by omega⟩
  · show 0 ≤ _
    omega
theorem joinT_94 (xs : List ByteArray) (h : ∀ x ∈ xs, x.size ≤ 93) : (joinT xs).size ≤ 94 * xs.length := by
  cases xs with
  | nil => exact Nat.le_refl _
  | cons x r =>
    rw [ba_size, joinT, ba_mk, List.map_cons, Lib.join_cons, List.length_append, Lib.joinTail_length]
    have h0 := h x (List.mem_cons_self ..)
    rw [ba_size] at h0
    have key : ∀ r : List ByteArray, (∀ x ∈ r, x.size ≤ 93) → Lib.lens (r.map (·.data.toList)) ≤ 93 * r.length := by
      intro r
      induction r with
      | nil => intro _; exact Nat.le_refl _
      | cons y r ih =>
        intro h
        have h1 := ih (fun z hz => h z (List.mem_cons_of_mem _ hz))
        have h2 := h y (List.mem_cons_self ..)
        rw [ba_size] at h2
        simp only [Lib.lens, List.map_cons, List.sum_cons, List.length_cons] at h1 ⊢
        omega
    have := key r (fun z hz => h z (List.mem_cons_of_mem _ hz))
    simp only [List.length_map, List.length_cons, List.length_nil]
    omega
theorem opsF_470 (l : List Op) (h : l.length ≤ 5) : (opsF l).size ≤ 470 := by
  unfold opsF
  split
  · show 1 ≤ _
    omega
  · have := joinT_94 (l.map opT) (fun x hx => by obtain ⟨y, _, rfl⟩ := List.mem_map.1 hx; exact opT_93 y)
    rw [List.length_map] at this
    omega
theorem itoa_4 (n : Nat) (h : n ≤ 9999) : (Lib.itoa (n : Int)).length ≤ 4 := by
  rw [Lib.itoa_nonneg, Lib.decDigits_length]
  by_cases h1 : n < 10
  · rw [Lib.nDigits_small h1]; omega
  rw [Lib.nDigits_big h1]
  by_cases h2 : n / 10 < 10
  · rw [Lib.nDigits_small h2]; omega
  rw [Lib.nDigits_big h2]
  by_cases h3 : n / 10 / 10 < 10
  · rw [Lib.nDigits_small h3]; omega
  rw [Lib.nDigits_big h3, Lib.nDigits_small (by omega)]
  omega
theorem askF_500 (l : List Op) (path : ByteArray) (till : Int) : (askF l path till).size ≤ 485 := by
  unfold askF
  split
  · rename_i h
    obtain ⟨h5, hp, ht0, ht1⟩ := askB_parts h
    obtain ⟨n, rfl⟩ := Int.eq_ofNat_of_zero_le ht0
    have ho := opsF_470 l h5
    have hi := itoa_4 n (by omega)
    unfold askI
    simp only [ByteArray.size_append]
    show 1 + _ + 1 + _ + 3 + (Lib.itoa (n : Int)).toArray.size ≤ _
    rw [List.size_toArray]
    omega
  · show 0 ≤ _
    omega
theorem askF_ne {l : List Op} {path : ByteArray} {till : Int} (h : askB l path till = true) : 0 < (askF l path till).size := by
  unfold askF
  rw [if_pos h]
  unfold askI
  simp only [ByteArray.size_append]
  show 0 < 1 + _ + 1 + _ + 3 + _
  omega
def signF (key : List Int) (s : ByteArray) : ByteArray := hexF ((macF key (bytesN s)).take 8)
theorem signF_size (key : List Int) (s : ByteArray) : (signF key s).size = 16 := by
  unfold signF
  rw [hexF_size, List.length_take, macF_len]
  omega
theorem macF_byt {key list : List Int} (h : True) : ∀ x ∈ macF key list, 0 ≤ x ∧ x ≤ 255 := by
  intro x hx
  have := shaF_byt _ _ x hx
  unfold Byt at this
  omega
theorem l7Sign_tot {key : List Int} (hk : ∀ x ∈ key, Byt x) (h0 : key.length ≤ 500) (s : ByteArray) (hs : s.size ≤ 500) : Tot (fun k => spec_l7Sign.f k key s) (fun r => r = signF key s) := by
  unfold spec_l7Sign.f
  refine Tot.pos (by omega) ?_
  have hm : macR key (bytesN s) = macF key (bytesN s) := by unfold macR; rw [if_pos ⟨h0, by rw [bytesN_len]; exact hs⟩]
  have e := specMac_ev key (bytesN s) hk (bytesN_byt s)
  rw [hm] at e
  refine Tot.bind (Tot.of_ev e) ?_; rintro _ rfl
  refine Tot.pos (by rw [macF_len]; omega) ?_
  exact spec_HexText_tot _ (fun y hy => macF_byt trivial y (List.mem_of_mem_take hy)) (by rw [List.length_take]; omega)
def urlF (key : List Int) (l : List Op) (path : ByteArray) (till : Int) : ByteArray := if askB l path till = true ∧ key.length ≤ 500 then (askF l path till ++ ⟨#[38, 115, 61]⟩) ++ signF key (askF l path till) else ⟨#[]⟩
theorem specUrl_tot {key : List Int} (hk : ∀ x ∈ key, Byt x) (l : List Op) (hl : l.length ≤ 4611686018427387904) (path : ByteArray) (till : Int) : Tot (fun k => spec_UrlText.f k key l path till) (fun r => r = urlF key l path till) := by
  unfold spec_UrlText.f urlF
  refine Tot.bind (Tot.of_ev (spec_AskOk_ev l hl path till)) ?_
  rintro _ rfl
  cases h : askB l path till with
  | false =>
    refine Tot.neg (by decide) (Tot.succ ?_)
    simp only [spec_UrlText.j0]
    exact Tot.pos trivial (Tot.ret (by rw [if_neg (fun h => absurd h.1 (by decide))]))
  | true =>
    refine Tot.pos rfl (Tot.succ ?_)
    simp only [spec_UrlText.j0]
    by_cases h5 : key.length ≤ 500
    · refine Tot.neg (by rw [decide_eq_true_eq]; omega) ?_
      have hsz := askF_500 l path till
      refine Tot.bind (spec_AskText_tot l hl path till) ?_; rintro _ rfl
      refine Tot.pos (by omega) ?_
      refine Tot.bind (l7Sign_tot hk h5 _ (by omega)) ?_; rintro _ rfl
      refine Tot.pos ?_ (Tot.ret ?_)
      · rw [ByteArray.size_append, signF_size]; show _ + 3 + 16 ≤ _; omega
      · rw [if_pos (by first | exact ⟨rfl, h5⟩ | exact ⟨trivial, h5⟩)]
    · refine Tot.pos (by rw [decide_eq_true_eq]; omega) (Tot.ret ?_)
      rw [if_neg (fun h => h5 h.2)]
theorem hexL_take : ∀ (n : Nat) (l : List Int), (hexL l).take (2 * n) = hexL (l.take n)
  | 0, l => by simp [hexL]
  | n + 1, [] => by simp [hexL]
  | n + 1, b :: l => by
    have ih := hexL_take n l
    have e : hexL (b :: l) = hexd (b.toNat / 16) :: hexd (b.toNat % 16) :: hexL l := rfl
    have e2 : hexL ((b :: l).take (n + 1)) = hexd (b.toNat / 16) :: hexd (b.toNat % 16) :: hexL (l.take n) := rfl
    rw [e, e2, show 2 * (n + 1) = 2 * n + 1 + 1 by omega, List.take_succ_cons, List.take_succ_cons, ih]
theorem hexF_take (l : List Int) : (hexF l).extract 0 16 = hexF (l.take 8) := by
  apply ba_ext
  rw [ByteArray.data_extract, Array.toList_extract]
  have h : (hexF l).data.toList = hexL l := rfl
  have h2 : (hexF (l.take 8)).data.toList = hexL (l.take 8) := rfl
  rw [h, h2, ← hexL_take]
  simp
theorem implUrl_tot (key : List Int) (l : List Op) (hl : l.length ≤ 4611686018427387904) (path : ByteArray) (till : Int) : Tot (fun k => impl_UrlText.f k key l path till) (fun r => r = urlF key l path till) := by
  unfold impl_UrlText.f urlF
  refine Tot.bind (impl_AskText_tot l hl path till) ?_
  rintro _ rfl
  have hsz := askF_500 l path till
  cases h : askB l path till with
  | false =>
    have e : askF l path till = ⟨#[]⟩ := by unfold askF; rw [if_neg (by rw [h]; decide)]
    rw [e]
    refine Tot.pos (by first | exact Lib.toList_data _ | (unfold ByteArray.toList ByteArray.toList.loop; rfl)) (Tot.ret ?_)
    rw [if_neg (fun h => absurd h.1 (by decide))]
  | true =>
    have hne := askF_ne h
    refine Tot.neg (fun hh => ?_) ?_
    · rw [Lib.toList_data] at hh
      rw [ba_size, hh] at hne
      exact absurd hne (by decide)
    by_cases h5 : key.length ≤ 500
    · refine Tot.neg (by omega) (Tot.pos (by omega) ?_)
      have hm : macR key (bytesN (askF l path till)) = macF key (bytesN (askF l path till)) := by unfold macR; rw [if_pos ⟨h5, by rw [bytesN_len]; omega⟩]
      have e := implMac_ok key (bytesN (askF l path till))
      rw [hm] at e
      refine Tot.bind (Tot.of_eq e) ?_; rintro _ rfl
      refine Tot.bind (impl_HexText_tot _ (macF_byt trivial) (by rw [macF_len]; omega)) ?_; rintro _ rfl
      refine Tot.pos (by rw [hexF_size, macF_len]; omega) (Tot.ret ?_)
      rw [if_pos ⟨rfl, h5⟩, hexF_take]
      rfl
    · refine Tot.pos (by omega) (Tot.ret ?_)
      rw [if_neg (fun h => h5 h.2)]
end Go.Proofs.YtmplnpjdbfedbaaGreatDoor.X
namespace Go.Proofs.YtmplnpjdbfedbaaGreatDoor.X
open Go.RowKit Go.Proofs.YtmplnpjdbfedbaaGreatDoorW.PrintWords Go.Proofs.YtmplnpjdbfedbaaGreatDoor.Pl
set_option linter.unusedSimpArgs false
set_option linter.unusedVariables false
def parts (c : UInt8) : List UInt8 → List (List UInt8)
  | [] => [[]]
  | x :: xs => if x = c then [] :: parts c xs else (match parts c xs with | [] => [[x]] | h :: t => (x :: h) :: t)
theorem parts_none {c : UInt8} : ∀ {a : List UInt8}, c ∉ a → parts c a = [a]
  | [], _ => rfl
  | x :: a, h => by
    simp only [List.mem_cons, not_or] at h
    rw [parts, if_neg (fun e => h.1 e.symm), parts_none h.2]
theorem parts_app {c : UInt8} {b : List UInt8} : ∀ {a : List UInt8}, c ∉ a → parts c (a ++ c :: b) = a :: parts c b
  | [], _ => by rw [List.nil_append, parts, if_pos rfl]
  | x :: a, h => by
    simp only [List.mem_cons, not_or] at h
    rw [List.cons_append, parts, if_neg (fun e => h.1 e.symm), parts_app h.2]
def numOf (l : List UInt8) : Nat := l.foldl (fun a d => 10 * a + (d.toNat - 48)) 0
theorem numOf_snoc (l : List UInt8) (d : UInt8) : numOf (l ++ [d]) = 10 * numOf l + (d.toNat - 48) := by simp [numOf, List.foldl_append]
theorem dig_toNat (k : Nat) (h : k < 10) : (UInt8.ofNat (48 + k)).toNat = 48 + k := by
  rw [UInt8.toNat_ofNat']; omega
theorem dec_num (n : Nat) : numOf (Lib.decDigits n) = n := by
  induction n using Nat.strongRecOn with
  | _ n ih =>
    rw [Lib.decDigits.eq_def]
    split
    · rename_i h
      show 10 * 0 + ((UInt8.ofNat (48 + n)).toNat - 48) = n
      rw [dig_toNat n h]
      omega
    · rename_i h
      rw [numOf_snoc, ih (n / 10) (by omega), dig_toNat _ (by omega)]
      omega
theorem dec_dig (n : Nat) : ∀ d ∈ Lib.decDigits n, 48 ≤ d.toNat ∧ d.toNat ≤ 57 := by
  induction n using Nat.strongRecOn with
  | _ n ih =>
    intro d hd
    rw [Lib.decDigits.eq_def] at hd
    split at hd
    · rename_i h
      obtain rfl := List.mem_singleton.1 hd
      rw [dig_toNat n h]
      omega
    · rename_i h
      rcases List.mem_append.1 hd with h1 | h1
      · exact ih (n / 10) (by omega) d h1
      · obtain rfl := List.mem_singleton.1 h1
        rw [dig_toNat _ (by omega)]
        omega
theorem itoa_dig (n : Nat) : ∀ d ∈ Lib.itoa (n : Int), 48 ≤ d.toNat ∧ d.toNat ≤ 57 := by rw [Lib.itoa_nonneg]; exact dec_dig n
theorem itoa_no {c : UInt8} (hc : c.toNat < 48 ∨ 57 < c.toNat) (n : Nat) : c ∉ Lib.itoa (n : Int) := fun h => by
  have := itoa_dig n c h
  omega
def opL (W : List UInt8) (ns : List Int) : List UInt8 := W ++ ns.flatMap fun n => 46 :: Lib.itoa n
theorem txtI_list (W : ByteArray) (ns : List Int) : (txtI W ns).data.toList = opL W.data.toList ns := by
  induction ns generalizing W with
  | nil => simp [opL, txtI]
  | cons n ns ih =>
    show (txtI (W ++ numT n) ns).data.toList = _
    rw [ih, ba_app]
    have e : (numT n).data.toList = 46 :: Lib.itoa n := by
      unfold numT
      rw [ba_app]
      rfl
    rw [e]
    simp [opL]
theorem parts_opL (W : List UInt8) (hW : (46 : UInt8) ∉ W) : ∀ ns : List Int, (∀ n ∈ ns, 0 ≤ n) → parts 46 (opL W ns) = W :: ns.map Lib.itoa := by
  intro ns hns
  have key : ∀ ns : List Int, (∀ n ∈ ns, 0 ≤ n) → ∀ A : List UInt8, (46 : UInt8) ∉ A → parts 46 (A ++ ns.flatMap fun n => 46 :: Lib.itoa n) = A :: ns.map Lib.itoa := by
    intro ns
    induction ns with
    | nil => intro _ A hA; rw [List.flatMap_nil, List.append_nil, parts_none hA]; rfl
    | cons n ns ih =>
      intro h A hA
      obtain ⟨m, rfl⟩ := Int.eq_ofNat_of_zero_le (h n (List.mem_cons_self ..))
      rw [List.flatMap_cons, List.cons_append, parts_app hA, ih (fun x hx => h x (List.mem_cons_of_mem _ hx)) _ (itoa_no (by decide) m)]
      rfl
  exact key ns hns W hW
theorem formW_sign (k : Nat) (h : k < 9) : ∀ c ∈ (formW k).data.toList, 97 ≤ c.toNat ∧ c.toNat ≤ 122 := by
  match k, h with
  | 0, _ => decide
  | 1, _ => decide
  | 2, _ => decide
  | 3, _ => decide
  | 4, _ => decide
  | 5, _ => decide
  | 6, _ => decide
  | 7, _ => decide
  | 8, _ => decide
theorem formW_no {c : UInt8} (hc : c.toNat < 97) (k : Nat) (h : k < 9) : c ∉ (formW k).data.toList := fun hm => by
  have := formW_sign k h c hm
  omega
theorem opOk_rest {o a b c d : Int} (h : opOkB o a b c d = true) : ∃ k : Nat, o = k ∧ 1 ≤ k ∧ k < 9 ∧ (∀ n ∈ [a, b, c, d], 0 ≤ n ∧ n ≤ 255) ∧ [a, b, c, d] = [a, b, c, d].take (formN k) ++ List.replicate (4 - formN k) 0 := by
  obtain ⟨h1, h8, hn⟩ := opOk_kind h
  obtain ⟨k, rfl⟩ := Int.eq_ofNat_of_zero_le (show 0 ≤ o by omega)
  refine ⟨k, rfl, by omega, by omega, hn, ?_⟩
  have hk : k = 1 ∨ k = 2 ∨ k = 3 ∨ k = 4 ∨ k = 5 ∨ k = 6 ∨ k = 7 ∨ k = 8 := by omega
  rcases hk with rfl | rfl | rfl | rfl | rfl | rfl | rfl | rfl
  · rfl
  all_goals
    simp [opOkB] at h
    simp [formN, formsL, List.replicate, h]
theorem opTextF_list {o a b c d : Int} (h : opOkB o a b c d = true) : (opTextF o a b c d).data.toList = opL (formW o.toNat).data.toList ([a, b, c, d].take (formN o.toNat)) := by
  unfold opTextF
  rw [if_pos h, txtI_list]
end Go.Proofs.YtmplnpjdbfedbaaGreatDoor.X
namespace Go.Proofs.YtmplnpjdbfedbaaGreatDoor.X
open Go.RowKit Go.Proofs.YtmplnpjdbfedbaaGreatDoorW.PrintWords Go.Proofs.YtmplnpjdbfedbaaGreatDoor.Pl
set_option linter.unusedSimpArgs false
set_option linter.unusedVariables false
def baOf (l : List UInt8) : ByteArray := ⟨l.toArray⟩
theorem baOf_list (l : List UInt8) : (baOf l).data.toList = l := rfl
theorem baOf_self (s : ByteArray) : baOf s.data.toList = s := ba_ext rfl
theorem toList_ba {a b : ByteArray} : a.toList = b.toList ↔ a = b := by
  rw [Lib.toList_data, Lib.toList_data]
  exact ⟨fun h => ba_ext h, fun h => by rw [h]⟩
theorem bt_nat (s : ByteArray) (i : Nat) (h : i < s.data.toList.length) : bt s (i : Int) = ((s.data.toList[i]).toNat : Int) := by
  have hs : i < s.size := by rw [ba_size]; exact h
  unfold bt
  rw [Int.toNat_natCast, dif_pos hs]
  have e : s[i] = s.data.toList[i] := by
    rw [Array.getElem_toList]
    rfl
  rw [e]
theorem index_none_ {l : List UInt8} {c : UInt8} (h : c ∉ l) : Lib.index l [c] = -1 := by
  rw [Lib.index_one]
  have hge := Lib.indexByte_ge l c
  rcases Int.lt_or_le (Lib.indexByte l c) 0 with h0 | h0
  · omega
  · obtain ⟨o, ho⟩ := Int.eq_ofNat_of_zero_le h0
    exact absurd (List.mem_of_getElem? (Lib.indexByte_some ho).1) h
theorem index_app {a b : List UInt8} {c : UInt8} (h : c ∉ a) : Lib.index (a ++ c :: b) [c] = (a.length : Int) := by
  rw [Lib.index_one]
  induction a with
  | nil => simp [Lib.indexByte]
  | cons x a ih =>
    simp only [List.mem_cons, not_or] at h
    have ih := ih h.2
    rw [List.cons_append, Lib.indexByte, if_neg (fun e => h.1 (beq_iff_eq.1 e).symm), ih, if_neg (fun e => by have := beq_iff_eq.1 e; omega), List.length_cons]
    omega
theorem split_at {c : UInt8} : ∀ l : List UInt8, c ∉ l ∨ ∃ a b, l = a ++ c :: b ∧ c ∉ a
  | [] => .inl (by simp)
  | x :: l => by
    by_cases hx : x = c
    · exact .inr ⟨[], l, by rw [hx]; rfl, by simp⟩
    · rcases split_at (c := c) l with h | ⟨a, b, rfl, h⟩
      · exact .inl (by simp only [List.mem_cons, not_or]; exact ⟨fun e => hx e.symm, h⟩)
      · exact .inr ⟨x :: a, b, rfl, by simp only [List.mem_cons, not_or]; exact ⟨fun e => hx e.symm, h⟩⟩
theorem cut_none {l : List UInt8} {c : UInt8} (h : c ∉ l) : Lib.cut l [c] = (l, [], false) := by
  unfold Lib.cut
  rw [index_none_ h, if_neg (by omega)]
theorem cut_app {a b : List UInt8} {c : UInt8} (h : c ∉ a) : Lib.cut (a ++ c :: b) [c] = (a, b, true) := by
  unfold Lib.cut
  rw [index_app h, if_pos (by omega), Int.toNat_natCast]
  simp
theorem splitK_parts {c : UInt8} : ∀ (n : Nat) (l : List UInt8), l.length ≤ n → Lib.splitK [c] 0 (Lib.count l [c]) l = parts c l
  | 0, l, h => by
    obtain rfl := List.eq_nil_of_length_eq_zero (Nat.le_zero.1 h)
    rw [Lib.count_miss (index_none_ (by simp))]
    rfl
  | n + 1, l, h => by
    rcases split_at (c := c) l with hn | ⟨a, b, rfl, ha⟩
    · rw [Lib.count_miss (index_none_ hn), parts_none hn]
      rfl
    · rw [List.length_append, List.length_cons] at h
      have e1 : (a ++ c :: b).drop (a.length + [c].length) = b := by simp
      have e2 : (a ++ c :: b).take (a.length + 0) = a := by simp
      rw [Lib.count_hit (by simp) (index_app ha), e1, Nat.add_comm 1, Lib.splitK, index_app ha, if_neg (fun e => by have := beq_iff_eq.1 e; omega), Int.toNat_natCast, e1, e2, splitK_parts n b (by omega), parts_app ha]
theorem partsB_parts (s : ByteArray) (c : UInt8) : partsB s ⟨#[c]⟩ = (parts c s.data.toList).map baOf := by
  have h := Lib.splitB_data ⟨#[c]⟩ 0 (Lib.countB s ⟨#[c]⟩) s
  have h2 := splitK_parts (c := c) s.data.toList.length s.data.toList (Nat.le_refl _)
  have h3 : (partsB s ⟨#[c]⟩).map (·.data.toList) = parts c s.data.toList := h.trans h2
  rw [← h3, List.map_map]
  refine ((List.map_congr_left (g := id) (fun x _ => ?_)).trans (List.map_id _)).symm
  exact baOf_self x
theorem numOf_le : ∀ l : List UInt8, numOf l ≤ 1000 ^ l.length := by
  have key : ∀ (l : List UInt8) (a n : Nat), a ≤ n → l.foldl (fun a d => 10 * a + (d.toNat - 48)) a ≤ n * 1000 ^ l.length + (1000 ^ l.length - 1) := by
    intro l
    induction l with
    | nil => intro a n h; simp; omega
    | cons d l ih =>
      intro a n h
      have hd := d.toNat_lt
      have := ih (10 * a + (d.toNat - 48)) (10 * n + 207) (by omega)
      rw [List.foldl_cons, List.length_cons, Nat.pow_succ]
      have hp : 1 ≤ 1000 ^ l.length := Nat.one_le_pow _ _ (by omega)
      have h2 : (10 * n + 207) * 1000 ^ l.length = 10 * (n * 1000 ^ l.length) + 207 * 1000 ^ l.length := by rw [Nat.add_mul, Nat.mul_assoc]
      have h3 : n * (1000 ^ l.length * 1000) = 1000 * (n * 1000 ^ l.length) := by rw [← Nat.mul_assoc, Nat.mul_comm]
      have h4 : 0 ≤ n * 1000 ^ l.length := Nat.zero_le _
      generalize n * 1000 ^ l.length = q at *
      generalize 1000 ^ l.length = p at *
      omega
  intro l
  have := key l 0 0 (Nat.le_refl _)
  have hp : 1 ≤ 1000 ^ l.length := Nat.one_le_pow _ _ (by omega)
  unfold numOf
  omega
theorem numOf_lt5 (l : List UInt8) (h : l.length ≤ 5) : numOf l ≤ 1000000000000000 := by
  have h1 := numOf_le l
  have h2 : 1000 ^ l.length ≤ 1000 ^ 5 := Nat.pow_le_pow_right (by omega) h
  have h3 : 1000 ^ 5 = 1000000000000000 := by decide
  omega
theorem take_num (l : List UInt8) (i : Nat) (h : i < l.length) : numOf (l.take (i + 1)) = 10 * numOf (l.take i) + ((l[i]).toNat - 48) := by
  rw [List.take_add_one, List.getElem?_eq_getElem h]
  exact numOf_snoc _ _
theorem numRead_loop (s : ByteArray) (h6 : s.data.toList.length ≤ 6) : ∀ e i, i + e = s.data.toList.length → Tot (fun k => impl_numberRead.l0 k s (numOf (s.data.toList.take i)) (s.data.toList.length : Int) i) (fun r => (∀ d ∈ s.data.toList, 48 ≤ d.toNat ∧ d.toNat ≤ 57) → r = ((numOf s.data.toList : Int), true))
  | 0, i, h => by
    refine Tot.succ ?_
    simp only [impl_numberRead.l0]
    refine Tot.neg (by omega) (Tot.ret (fun _ => ?_))
    rw [List.take_of_length_le (by omega)]
  | e + 1, i, h => by
    have hi : i < s.data.toList.length := by omega
    have hn := numOf_lt5 (s.data.toList.take i) (by rw [List.length_take]; omega)
    refine Tot.succ ?_
    simp only [impl_numberRead.l0]
    refine Tot.pos (by omega) (Tot.pos (by omega) (Tot.pos (by rw [ba_size]; omega) ?_))
    rw [bt_nat s i hi]
    have hm := List.getElem_mem hi
    refine Tot.ite (fun h48 => Tot.ret (fun hd => ?_)) (fun h48 => Tot.ite (fun h57 => Tot.ret (fun hd => ?_)) (fun h57 => ?_))
    · have := hd _ hm; omega
    · have := hd _ hm; omega
    have hd0 := (s.data.toList[i]).toNat_lt
    have ih := numRead_loop s h6 e (i + 1) (by omega)
    have he : wrap64 (wrap64 (10 * (numOf (s.data.toList.take i) : Int)) + ((((s.data.toList[i]).toNat : Int) - 48) % 256)) = (numOf (s.data.toList.take (i + 1)) : Int) := by
      rw [take_num _ _ hi, wr_id (x := 10 * (numOf (s.data.toList.take i) : Int)) (by omega) (by omega), wr_id (by omega) (by omega)]
      omega
    rw [he, wr_id (by omega) (by omega)]
    exact ih
theorem dec_head (n : Nat) (h0 : 0 < n) : (Lib.decDigits n).head? ≠ some 48 := by
  induction n using Nat.strongRecOn with
  | _ n ih =>
    rw [Lib.decDigits.eq_def]
    split
    · rename_i h
      intro e
      have := congrArg UInt8.toNat (Option.some.inj e)
      rw [dig_toNat n h] at this
      have h48 : (48 : UInt8).toNat = 48 := rfl
      omega
    · rename_i h
      have := ih (n / 10) (by omega) (by omega)
      cases hd : Lib.decDigits (n / 10) with
      | nil => have hp := Lib.nDigits_pos (n / 10); rw [← Lib.decDigits_length, hd] at hp; simp at hp
      | cons x l =>
        rw [hd] at this
        simpa using this
theorem itoa_le4 (n : Nat) (h : n ≤ 9999) : 1 ≤ (Lib.itoa (n : Int)).length ∧ (Lib.itoa (n : Int)).length ≤ 4 := by
  rw [Lib.itoa_nonneg, Lib.decDigits_length]
  refine ⟨Lib.nDigits_pos n, ?_⟩
  by_cases h1 : n < 10
  · rw [Lib.nDigits_small h1]; omega
  rw [Lib.nDigits_big h1]
  by_cases h2 : n / 10 < 10
  · rw [Lib.nDigits_small h2]; omega
  rw [Lib.nDigits_big h2]
  by_cases h3 : n / 10 / 10 < 10
  · rw [Lib.nDigits_small h3]; omega
  rw [Lib.nDigits_big h3, Lib.nDigits_small (by omega)]
  omega
theorem numRead_j0 (s : ByteArray) : Tot (fun k => impl_numberRead.j0 k s true) (fun r => r = (0, false)) := Tot.succ (by simp only [impl_numberRead.j0]; exact Tot.pos trivial (Tot.ret rfl))
theorem numRead_j1 (s : ByteArray) (h6 : s.data.toList.length ≤ 6) : Tot (fun k => impl_numberRead.j0 k s false) (fun r => ∀ n : Nat, s.data.toList = Lib.itoa (n : Int) → r = ((n : Int), true)) := by
  refine Tot.succ ?_
  simp only [impl_numberRead.j0]
  refine Tot.neg (by decide) ?_
  have := numRead_loop s h6 s.data.toList.length 0 (by omega)
  rw [ba_size]
  refine Tot.mono this ?_
  intro r hr n e
  have hd := hr (by rw [e]; exact itoa_dig n)
  rw [hd, e, Lib.itoa_nonneg, dec_num]
theorem numRead_tot (s : ByteArray) : Tot (fun k => impl_numberRead.f k s) (fun r => ∀ n : Nat, n ≤ 9999 → s.data.toList = Lib.itoa (n : Int) → r = ((n : Int), true)) := by
  unfold impl_numberRead.f
  have hsz := ba_size s
  refine Tot.ite (fun h0 => ?_) (fun h0 => Tot.ite (fun h6 => ?_) (fun h6 => ?_))
  · refine Tot.mono (numRead_j0 s) (fun r _ n hn e => ?_)
    rw [Lib.toList_data] at h0
    have := (itoa_le4 n hn).1
    rw [← e, h0] at this
    simp at this
  · refine Tot.mono (numRead_j0 s) (fun r _ n hn e => ?_)
    have := (itoa_le4 n hn).2
    rw [← e] at this
    omega
  · have hne : 0 < s.data.toList.length := by
      rw [Lib.toList_data] at h0
      exact List.length_pos_iff.2 h0
    refine Tot.pos (by omega) ?_
    have hj := numRead_j1 s (by omega)
    have hb := bt_nat s 0 hne
    refine Tot.ite (fun h48 => ?_) (fun h48 => Tot.mono hj (fun r hr n _ e => hr n e))
    by_cases h1 : (s.size : Int) > 1
    · rw [show decide ((s.size : Int) > 1) = true from decide_eq_true h1]
      refine Tot.mono (numRead_j0 s) (fun r _ n hn e => ?_)
      exfalso
      have hh : s.data.toList.head? = some 48 := by
        cases hl : s.data.toList with
        | nil => rw [hl] at hne; simp at hne
        | cons x l =>
          have hx : (bt s 0) = (x.toNat : Int) := by
            rw [show (0 : Int) = ((0 : Nat) : Int) from rfl, hb]
            simp [hl]
          rw [hx] at h48
          have : x = 48 := UInt8.toNat_inj.1 (by have h48' : (48 : UInt8).toNat = 48 := rfl; omega)
          rw [this]
          rfl
      rw [e, Lib.itoa_nonneg] at hh
      have hn0 : 0 < n := by
        rcases Nat.eq_zero_or_pos n with h | h
        · subst h
          have : s.data.toList.length = 1 := by rw [e, Lib.itoa_nonneg, Lib.decDigits_length, Lib.nDigits_small (by omega)]
          omega
        · exact h
      exact dec_head n hn0 hh
    · rw [show decide ((s.size : Int) > 1) = false from decide_eq_false h1]
      exact Tot.mono hj (fun r hr n _ e => hr n e)
end Go.Proofs.YtmplnpjdbfedbaaGreatDoor.X
