/- Lemmas and contracts for the law FnUrlWords, part 5: of the program's functions, and over data alone. Conditions: the listed package-level variables begin as the program's text lays them (tied by the card). -/
import Derived.Test.YtmplnpjdbfedbaaGreatDoorMFnUrlWords2
import Derived.Laws.IdiomStrings
import Derived.Laws.AppendOwn
import Derived.Test.YtmplnpjdbfedbaaGreatDoorMFnUrlWords1
import Derived.Shelf.Strings.Builder1
import Derived.Shelf.Strings.Builder2
import Derived.Shelf.Strings.OnBuilder
import Derived.Shelf.Small.Wraps
import Derived.Shelf.Strings.BuilderF
import Derived.Shelf.Strings.BuilderK
import Derived.Shelf.Strings.Builder2Cap
import Derived.Shelf.Strconv.Itoa0
import Derived.Shelf.Strconv.Itoa1
import Derived.Shelf.LaysM
import Derived.Shelf.Strconv.Itoa2
import Derived.Shelf.Strconv.Itoa3
import Derived.Shelf.Strconv.Clone
import Derived.Shelf.Strings.Search1
import Derived.Shelf.Strings.Search2
import Derived.Shelf.Strings.Search3
import Derived.Shelf.Strings.Cut
import Derived.Shelf.Strings.Count
import Derived.Shelf.Strings.Shaped
import Derived.Shelf.Strings.Prefix
import Derived.Shelf.Strings.Split
import Derived.Shelf.Strings.SplitShaped
import Derived.Shelf.Unicode.Decode
import Derived.Shelf.Strings.RuneCount
import Derived.Shelf.Strings.Explode
import Derived.Shelf.Unicode.DecodeSlow
import Derived.Shelf.Unicode.DecodeAny
import Derived.Shelf.Strings.BuilderCap
import Derived.Test.YtmplnpjdbfedbaaGreatDoorProg
import Derived.Laws.Rows
import Derived.Lib.AppendIntMem
import Derived.Laws.BitsAllLaws
import Derived.Laws.CopyOwn
import Derived.Lib.ItoaLen
import Derived.Laws.Concat
import Derived.Lib.Split
import Derived.Lib.SplitLaws
namespace Go.Proofs.YtmplnpjdbfedbaaGreatDoor.X
open Go.RowKit Go.Proofs.YtmplnpjdbfedbaaGreatDoorW.PrintWords Go.Proofs.YtmplnpjdbfedbaaGreatDoorW.PrintLast Go.Proofs.YtmplnpjdbfedbaaGreatDoorW.PrintMore
set_option linter.unusedVariables false
def bytesN (s : ByteArray) : List Int := s.data.toList.map fun u => (u.toNat : Int)
theorem bytesN_len (s : ByteArray) : (bytesN s).length = s.size := by
  show (s.data.toList.map _).length = s.data.size
  rw [List.length_map, Array.length_toList]
variable {ops : Array Oper} {Q : Exit → Act → World → Prop} {rest : List Oper} {o : Oper} {a : Act} {W : World}
theorem conv_str_ (N : Tmp) (x : Operand) (s : ByteArray) (hd : o.dst = some N) (hg : o.guard = none) (ho : o.op = .convert 9 22 x) (hx : a.eval x = .string s) (hs : s.size ≤ 9223372036854775807)
    (h : ∀ b c w2, Below W.heap.size W w2 → (bytesN s).length ≤ c → Kd.C (Kd.int .u8) w2 (some ⟨b, 0, none⟩) (bytesN s).length (bytesN s) → wpList Tryz.prog ops Q rest (a.put o.dst (.slice (some ⟨b, 0, none⟩) (bytesN s).length c)) w2) : wpList Tryz.prog ops Q (o :: rest) a W := by
  have kc := run_bytes_of_string (P := Tryz.prog) W 9 22 5 s Tryz.underlying9 Tryz.underlying22 Tryz.underlying5
  have hcap := grownCap_ge W s.size 0 5
  generalize grownCap W s.size 0 5 = c at kc hcap
  rw [← bytesN_len s] at hcap
  refine Kd.event_run hg (v := .slice (some ⟨W.heap.size, 0, none⟩) (bytesN s).length c) (w1 := W.drew.alloc (.cells (bytesRow s c) 5 ((bytesRow s c).size, (bytesRow s c).size + 1))) (by rw [bytesN_len]; simp [execOp, ho, hx, kc]) (h _ _ _ (((Below.refl _ _).drew).alloc (Nat.le_refl _) _) hcap ?_)
  refine Kd.C_of_reads (d := (0 : Int)) (h1 := fun _ => rfl) ⟨rfl, by rw [bytesN_len]; exact hs, fun _ => ⟨_, rfl, fun j hj => ?_⟩⟩
  rw [bytesN_len] at hj
  rw [add_plain]
  have hh := heap_alloc_new W.drew (.cells (bytesRow s c) 5 ((bytesRow s c).size, (bytesRow s c).size + 1))
  have hj2 : j < s.data.toList.length := by rw [Array.length_toList]; exact hj
  have e : (bytesN s).getD j 0 = (s.data[j].toNat : Int) := by
    unfold bytesN
    rw [List.getD_eq_getElem?_getD, List.getElem?_map, List.getElem?_eq_getElem hj2, Array.getElem_toList]
    rfl
  rw [e]
  exact (cell_of_row _ W.heap.size j _ _ _ hh).trans (bytesRow_at s c j hj)
end Go.Proofs.YtmplnpjdbfedbaaGreatDoor.X
namespace Go.Proofs.YtmplnpjdbfedbaaGreatDoor.X
open Go.RowKit Go.Proofs.YtmplnpjdbfedbaaGreatDoorW.PrintWords Go.Proofs.YtmplnpjdbfedbaaGreatDoorW.PrintLast Go.Proofs.YtmplnpjdbfedbaaGreatDoorW.PrintMore
set_option linter.unusedVariables false
variable {ops : Array Oper} {Q : Exit → Act → World → Prop} {rest : List Oper} {o : Oper} {a : Act} {W : World}
def RB (w : World) (base : Nat) (v : Value) (l : List Int) : Prop := ∃ b c cs, v = .slice (some ⟨b, 0, none⟩) l.length c ∧ base ≤ b ∧ l.length ≤ c ∧ w.heap[b]? = some (.cells cs 5 (cs.size, cs.size + 1)) ∧ l.length ≤ cs.size ∧ l.length ≤ 9223372036854775807 ∧ ∀ j, j < l.length → cs[j]? = some (.int .u8 (l.getD j 0))
theorem RB.below {w w' : World} {base : Nat} {v : Value} {l : List Int} (h : RB w base v l) (hb : Below w.heap.size w w') : RB w' base v l := by
  obtain ⟨b, c, cs, e, h1, h2, h3, h4, h5, h6⟩ := h
  exact ⟨b, c, cs, e, h1, h2, (hb.block b (blk_lt h3)).trans h3, h4, h5, h6⟩
theorem RB.slice {w : World} {base : Nat} {v : Value} {l : List Int} (h : RB w base v l) : ∃ b c, v = .slice (some ⟨b, 0, none⟩) l.length c ∧ base ≤ b ∧ l.length ≤ c := by
  obtain ⟨b, c, cs, e, h1, h2, h3, h4, h5, h6⟩ := h
  exact ⟨b, c, e, h1, h2⟩
theorem RB.base {w : World} {base : Nat} {v : Value} {l : List Int} (h : RB w base v l) : ∀ k, v.ownBlock = some k → base ≤ k := by
  obtain ⟨b, c, cs, rfl, h1, _⟩ := h
  intro k hk
  have : b = k := by simpa [Value.ownBlock] using hk
  omega
theorem RB.lt {w : World} {base : Nat} {v : Value} {l : List Int} (h : RB w base v l) : ∀ k, v.ownBlock = some k → k < w.heap.size := by
  obtain ⟨b, c, cs, rfl, h1, _, h3, _⟩ := h
  intro k hk
  have : b = k := by simpa [Value.ownBlock] using hk
  rw [← this]
  exact blk_lt h3
theorem RB.cell {w : World} {base b c : Nat} {l : List Int} (h : RB w base (.slice (some ⟨b, 0, none⟩) l.length c) l) (j : Nat) (hj : j < l.length) : w.cell? ⟨b, j, none⟩ = some (.int .u8 (l.getD j 0)) := by
  obtain ⟨b', c', cs, e, h1, h2, h3, h4, h5, h6⟩ := h
  cases e
  exact (cell_of_row w b j cs _ _ h3).trans (h6 j hj)
theorem RB.lit {w : World} {base b c : Nat} {l : List Int} (h : RB w base (.slice (some ⟨b, 0, none⟩) l.length c) l) (j : Nat) (hj : j < l.length) : w.frozen? ⟨b, j, none⟩ = false := by
  obtain ⟨b', c', cs, e, h1, h2, h3, h4, h5, h6⟩ := h
  cases e
  unfold World.frozen?
  rw [h3]
  simp
  omega
theorem RB.C {w : World} {base b c : Nat} {l : List Int} (h : RB w base (.slice (some ⟨b, 0, none⟩) l.length c) l) : Kd.C (Kd.int .u8) w (some ⟨b, 0, none⟩) l.length l := by
  have h' := h
  obtain ⟨b', c', cs, e, h1, h2, h3, h4, h5, h6⟩ := h
  cases e
  refine Kd.C_of_reads (d := (0 : Int)) (h1 := fun _ => rfl) ⟨rfl, h5, fun _ => ⟨_, rfl, fun j hj => ?_⟩⟩
  rw [add_plain]
  exact h'.cell j hj
theorem Kd.R_strB {w0 W : World} (base e : Nat) (hgd : o.guard = none) {N : Tmp} (hd : o.dst = some N) (tS tD : TypeId) (x : Operand) (ho : o.op = .convert tS tD x) (s : ByteArray) (hx : a.eval x = .string s) (hts : Tryz.prog.underlying tS = some .string) (ht : Tryz.prog.underlying tD = some (.slice 5)) (he : Tryz.prog.underlying 5 = some (.int .u8)) (hs : s.size ≤ 9223372036854775807) (HB : Below base w0 W) (hbase : base ≤ W.heap.size)
    (h : ∀ v1 w1, RB w1 W.heap.size v1 (bytesN s) → Below base w0 w1 → True → (∃ b, v1.ownBlock = some b ∧ W.heap.size ≤ b) → wpList Tryz.prog ops Q rest (a.put o.dst v1) w1) : wpList Tryz.prog ops Q (o :: rest) a W := by
  have kc := run_bytes_of_string (P := Tryz.prog) W tS tD 5 s hts ht he
  have hcap := grownCap_ge W s.size 0 5
  generalize grownCap W s.size 0 5 = c at kc hcap
  have hcap' : (bytesN s).length ≤ c := by rw [bytesN_len]; exact hcap
  refine Kd.event_run hgd (v := .slice (some ⟨W.heap.size, 0, none⟩) (bytesN s).length c) (w1 := W.drew.alloc (.cells (bytesRow s c) 5 ((bytesRow s c).size, (bytesRow s c).size + 1))) (by rw [bytesN_len]; simp [execOp, ho, hx, kc]) (h _ _ ?_ (HB.drew.alloc hbase _) trivial ⟨W.heap.size, by simp [Value.ownBlock], Nat.le_refl _⟩)
  refine ⟨W.heap.size, c, bytesRow s c, rfl, Nat.le_refl _, hcap', heap_alloc_new W.drew (.cells (bytesRow s c) 5 ((bytesRow s c).size, (bytesRow s c).size + 1)), ?_, by rw [bytesN_len]; exact hs, fun j hj => ?_⟩
  · rw [bytesN_len, bytesRow, Array.size_append, Array.size_map]
    show s.data.size ≤ _
    omega
  · rw [bytesN_len] at hj
    have hj2 : j < s.data.toList.length := by rw [Array.length_toList]; exact hj
    have e : (bytesN s).getD j 0 = (s.data[j].toNat : Int) := by
      unfold bytesN
      rw [List.getD_eq_getElem?_getD, List.getElem?_map, List.getElem?_eq_getElem hj2, Array.getElem_toList]
      rfl
    rw [e]
    exact bytesRow_at s c j hj
theorem RB.set {w : World} {base b c : Nat} {l : List Int} (h : RB w base (.slice (some ⟨b, 0, none⟩) l.length c) l) (i : Nat) (hi : i < l.length) (z : Int) : RB (w.setCell ⟨b, i, none⟩ (.int .u8 z)) base (.slice (some ⟨b, 0, none⟩) l.length c) (l.set i z) := by
  obtain ⟨b', c', cs, e, h1, h2, h3, h4, h5, h6⟩ := h
  cases e
  refine ⟨b, c, cs.setIfInBounds i (.int .u8 z), by rw [List.length_set], h1, by rw [List.length_set]; exact h2, ?_, by rw [List.length_set, Array.size_setIfInBounds]; exact h4, by rw [List.length_set]; exact h5, fun j hj => ?_⟩
  · rw [Array.size_setIfInBounds]
    simp [World.setCell, Array.getElem?_modify, h3]
  · rw [List.length_set] at hj
    rw [Array.getElem?_setIfInBounds]
    by_cases hij : i = j
    · subst hij
      rw [if_pos rfl, if_pos (by omega)]
      rw [List.getD_eq_getElem?_getD, List.getElem?_set_self hj]
      rfl
    · rw [if_neg hij, h6 j hj, List.getD_eq_getElem?_getD, List.getD_eq_getElem?_getD, List.getElem?_set_ne hij]
theorem RB.string {w : World} {base b c n : Nat} {l : List Int} (hn : l.length = n) (h : RB w base (.slice (some ⟨b, 0, none⟩) n c) l) : (convert 22 9 (.slice (some ⟨b, 0, none⟩) n c)).run Tryz.prog w = .ok (.string (strOfNums l)) w := by
  subst hn
  exact run_convert_bytes_arg w 22 5 Tryz.underlying22 Tryz.underlying5 b 0 l.length c l rfl (fun i hi => by rw [Nat.zero_add]; exact h.cell i hi) 9 Tryz.underlying9
end Go.Proofs.YtmplnpjdbfedbaaGreatDoor.X
namespace Go.Proofs.YtmplnpjdbfedbaaGreatDoorW.PrintWords
open Go.RowKit
set_option linter.unusedVariables false
variable {α : Type} {P : Program} {ops : Array Oper} {o : Oper} {a : Act} {Q : Exit → Act → World → Prop} {rest : List Oper}
theorem Kd.R_make0 (d : Kd α) {w0 W : World} (base e : Nat) (hgd : o.guard = none) {N : Tmp} (hd : o.dst = some N) (t : TypeId) (x y : Operand) (ho : o.op = .makeSlice t x y) (n : Int) (hx : a.eval x = .int .i64 0) (hy : a.eval y = .int .i64 n)
    (ht : P.underlying t = some (.slice e)) (z : Value) (bytes : Nat) (hinfo : (P.info? e).map (fun i => (i.zero, i.size, i.bytes)) = some (some z, d.sz, bytes)) (hz : z.cells.size = d.sz) (hs0 : 0 < d.sz) (hb0 : 0 < bytes)
    (z0 : α) {ok okp : Nat → Prop} (hzero : d.M W base okp z0 z.cells.toList) (hok : ∀ k, okp k → ok k) (hfresh : ok W.heap.size) (h0 : 0 ≤ n) (hl : n.toNat * bytes ≤ 281474976710656) (HB : Below base w0 W) (hbase : base ≤ W.heap.size)
    (h : ∀ v1 w1, d.R e w1 base ok v1 [] → Below base w0 w1 → W.grownBy w1 none → (∃ b, v1.ownBlock = some b ∧ W.heap.size ≤ b) → wpList P ops Q rest (a.put o.dst v1) w1) : wpList P ops Q (o :: rest) a W := by
  obtain ⟨m, rfl⟩ := Int.eq_ofNat_of_zero_le h0
  simp only [Int.toNat_natCast] at hl
  obtain ⟨i0, hi, hzz⟩ := Option.map_eq_some_iff.1 hinfo
  simp only [Prod.mk.injEq] at hzz
  obtain ⟨hz0, hz1, hz2⟩ := hzz
  have hm : m ≤ 281474976710656 := Nat.le_trans (Nat.le_mul_of_pos_right _ hb0) hl
  have hr := run_make (P := P) (w := W) t e i0 z ht hi hz0 .i64 .i64 0 (m : Int) (by omega) (by omega)
    (by
      have h3 : ((i0.bytes * m : Nat) : Int) ≤ 281474976710656 := by rw [hz2, Nat.mul_comm]; omega
      rwa [Int.natCast_mul] at h3) (by omega)
  simp only [Int.toNat_natCast] at hr
  rw [hz1] at hr
  have h1 : d.R e (W.alloc (.cells (madeCells z.cells (m * d.sz)) e)) base ok (.slice (some ⟨W.heap.size, 0, none⟩) m m) (List.replicate m z0) := by
    have hrep := Kd.reps_made hz hs0 hzero m
    refine ⟨fun k hk => ?_, (madeCells z.cells (m * d.sz)).toList, ?_, ?_⟩
    · have : W.heap.size = k := by simpa [Value.ownBlock] using hk
      subst this
      exact hfresh
    · have h2 := World.ownsRow_lit (base := base) (e := e) (size := d.sz) W (madeCells z.cells (m * d.sz)) m hbase (by show m ≤ 9223372036854775807; omega) (by simp [size_madeCells])
      simpa using h2
    · refine hrep.imp_ (fun p c hp => d.M_mono (fun k hk => ⟨hok k hk.1, fun he => ?_⟩) (Kd.M_below (d.M_bound hp) (below_alloc (Below.refl _ _) _)))
      have h3 : k = W.heap.size := by simpa [Value.ownBlock] using he
      have := hk.2.2.1
      omega
  have h2 := Kd.R_take h1 (m := 0) (Nat.zero_le _)
  refine Kd.event_run hgd (by simp [execOp, ho, hx, hy, hr]) (h _ _ h2 (HB.alloc hbase _) (World.grownBy_alloc W _ none) ⟨W.heap.size, by simp [Value.ownBlock], Nat.le_refl _⟩)
end Go.Proofs.YtmplnpjdbfedbaaGreatDoorW.PrintWords
namespace Go.Proofs.YtmplnpjdbfedbaaGreatDoor.X
open Go.RowKit Go.Proofs.YtmplnpjdbfedbaaGreatDoorW.PrintWords Go.Proofs.YtmplnpjdbfedbaaGreatDoorW.PrintLast Go.Proofs.YtmplnpjdbfedbaaGreatDoorW.PrintMore
attribute [local go_sem] max2_int min2_int max_two min_two max_three min_three max_four min_four
set_option linter.unusedVariables false
set_option linter.unusedSimpArgs false
section
open Go.Proofs.YtmplnpjdbfedbaaGreatDoorW.PrintWords.Aside0 renaming mk → yaa
abbrev q15_0 : Array Bool := Array.replicate 10 false
abbrev q15_1 : Array Bool := #[true, false, false, false, false, false, false, false, false, false]
abbrev q15_2 : Array Bool := #[true, true, false, false, false, false, false, false, false, false]
abbrev q15_3 : Array Bool := #[true, true, true, false, false, false, false, false, false, false]
abbrev q15_4 : Array Bool := #[true, true, true, false, true, false, false, false, false, false]
abbrev q15_5 : Array Bool := #[true, true, true, false, true, true, false, false, false, false]
abbrev q15_6 : Array Bool := #[true, true, true, true, true, true, false, false, false, false]
abbrev q15_7 : Array Bool := #[true, true, true, true, true, true, true, false, false, false]
abbrev q15_8 : Array Bool := #[true, true, true, true, true, true, true, true, false, false]
abbrev q15_9 : Array Bool := #[true, true, true, true, true, true, true, true, true, false]
abbrev q15_10 : Array Bool := #[true, true, true, true, true, true, true, true, true, true]
def impl_HexText.l0 : Nat → List Int → List Int → Int → Int → Option (ByteArray)
 | 0, _, _, _, _ => none
 | k + 1, x3, x10, x11, x12 => if x12 < x11 then (if 0 ≤ x12 then (if x12 < (x10.length : Int) then (if 0 ≤ ((rd x10 x12) / 16) then (if ((rd x10 x12) / 16) < 16 then (if 0 ≤ (Go.bits .and .u8 (rd x10 x12) 15) then (if (Go.bits .and .u8 (rd x10 x12) 15) < 16 then ((some (([bt (⟨#[48, 49, 50, 51, 52, 53, 54, 55, 56, 57, 97, 98, 99, 100, 101, 102]⟩ : ByteArray) ((rd x10 x12) / 16), bt (⟨#[48, 49, 50, 51, 52, 53, 54, 55, 56, 57, 97, 98, 99, 100, 101, 102]⟩ : ByteArray) (Go.bits .and .u8 (rd x10 x12) 15)] : List Int) : List Int)).bind fun y105 => (if x3.length + y105.length < 140737488355328 then (impl_HexText.l0 k (x3 ++ y105) x10 x11 (wrap64 (x12 + 1))) else (none))) else (none)) else (none)) else (none)) else (none)) else (none)) else (none)) else (some (strOfNums x3))
def impl_HexText.f (k : Nat) (l0 : List Int) : Option (ByteArray) := if 0 ≤ (wrap64 (2 * (l0.length : Int))) then (if (wrap64 (2 * (l0.length : Int)) : Int).toNat ≤ 281474976710656 then (impl_HexText.l0 k (([] : List Int)) l0 (l0.length : Int) 0) else (none)) else (none)
def impl_HexText.T5 : Bool × List (List Nat × List Nat) := (true, [([], []), ([], []), ([1], [1]), ([2], [2]), ([], []), ([4], [4]), ([5], [5]), ([3, 6], [3, 6]), ([0, 7], [0, 7]), ([8, 8, 0, 1, 2, 3, 4, 5, 6, 7, 8], [0, 8])])
def impl_HexText.B5 : List Nat := [0, 0, 2, 6, 0, 16, 48, 126, 255, 511]
theorem impl_HexText.tab5 : rtab .any (opsOf Tryz.f15 5) = impl_HexText.T5 := by kernel_rfl
theorem impl_HexText.bits5 : waitsOk impl_HexText.T5.2 impl_HexText.B5 = true := by kernel_rfl
set_option maxHeartbeats 8000000 in
set_option maxRecDepth 100000 in
theorem impl_HexText.calls (k : Nat) (A0 : Option Addr) (c0 : Nat) (l0 : List Int) (r : ByteArray) (w : World) (hr0 : Kd.C (Kd.int .u8) w A0 l0.length l0) (hc0 : l0.length ≤ c0) (h : impl_HexText.f k l0 = some r) :
  Calls Tryz.prog 15 #[.slice A0 l0.length c0] w fun e w' => e = .returned (.string r) ∧ Below w.heap.size w w' := by
 have HR0 := yaa hr0; have HC0 := yaa hc0; clear hr0 hc0; have HB := yaa (Below.refl w.heap.size w); have H : (if 0 ≤ (wrap64 (2 * (l0.length : Int))) then (if (wrap64 (2 * (l0.length : Int)) : Int).toNat ≤ 281474976710656 then (impl_HexText.l0 k (([] : List Int)) l0 (l0.length : Int) 0) else (none)) else (none)) = some r := h; clear h; obtain ⟨ji2, hji2⟩ : ∃ j_ : Int, (wrap64 (2 * (l0.length : Int))) = j_ := ⟨_, rfl⟩
 replace H : (if 0 ≤ (ji2) then (if (ji2 : Int).toNat ≤ 281474976710656 then (impl_HexText.l0 k (([] : List Int)) l0 (l0.length : Int) 0) else (none)) else (none)) = some r := by first | (rw [hji2] at H; exact H) | (simp only [hji2] at H ⊢; exact H)
 have hji2w : (IntKind.i64.wrap (2 * (l0.length : Int))) = ji2 := (i64_w _).trans hji2
 by_cases c3 : 0 ≤ (ji2)
 rotate_left
 ·
  rw [if_neg c3] at H
  exact absurd H (by simp)
 rw [if_pos c3] at H
 have b0 := eq_true c3; replace c3 := decide_eq_true c3
 by_cases c4 : (ji2 : Int).toNat ≤ 281474976710656
 rotate_left
 ·
  rw [if_neg c4] at H
  exact absurd H (by simp)
 rw [if_pos c4] at H
 have b1 := eq_true c4; replace c4 := decide_eq_true c4; obtain ⟨y101, hy101⟩ : ∃ y_ : List Int, y_ = (([] : List Int)) := ⟨_, rfl⟩
 replace H : (impl_HexText.l0 k y101 l0 (l0.length : Int) 0) = some r := by first | (rw [hy101]; with_reducible exact H) | (have H2_ := (Option.bind_some _ _).symm.trans H; rw [hy101]; with_reducible exact H2_) | (have H2_ := (Option.bind_some _ _).symm.trans H; with_reducible exact H2_) | with_reducible exact H | (rw [hy101]; exact H) | exact H
 have Ny101 := yaa hy101; clear hy101; have H' := yaa H; clear H
 go_enter Tryz.func15, Tryz.ntmps15
 go_wp2_with (first | ((with_reducible refine gd_ 9 rfl ?_); refine Kd.R_make0 (Kd.int .u8) _ 5 rfl (N := 9) rfl 22 _ _ rfl ji2 rfl rfl Tryz.underlying22 (.int .u8 0) 1 info5 rfl (by decide) (by omega) 0 (ok := fun _ => True) (okp := fun _ => True) rfl (fun _ hk => hk) trivial (of_decide_eq_true (by assumption)) (Nat.le_trans (Nat.mul_le_mul_right _ (of_decide_eq_true (by assumption) : ji2.toNat ≤ 281474976710656)) (by omega)) (Below.refl _ _) (Nat.le_refl _) ?_; intro b6 w5 ho6 hb hg_ hnew_; clear hg_ hnew_; (first | rw [← Ny101.out] at ho6 | (simp only [Int.reduceToNat] at ho6; rw [← Ny101.out] at ho6)); have a7 := yaa (Kd.R_lower ho6 (below_size (upH HB.out))); replace HB := yaa (below_step (upH HB.out) hb); clear hb ho6))
 (try simp only [Act.put, List.setIfInBounds_toArray, List.set_cons_zero, List.set_cons_succ])
 go_loopg [3, 12] k (fun kq v3 v12 w' => ∃ (a2 : List Int) (a1 : Int), v12 = .int .i64 a1 ∧ Aside0 (impl_HexText.l0 kq a2 l0 (l0.length : Int) a1 = some r) ∧ Aside0 (kq ≤ k) ∧ Aside0 (Kd.R (Kd.int .u8) 5 w' w.heap.size (fun _ => True) v3 a2) ∧ Aside0 (Below w.heap.size w w'))
 case atStart => exact ⟨(y101), (0), (by first | rfl | (simp; done) | (simp [*]; done)), H', ⟨Nat.le_refl _⟩, ⟨by first | exact a7.out | exact upR a7.out⟩, ⟨upH HB.out⟩⟩
 case round =>
  clear H'; (try clear c1); (try clear p2); (try clear c3); (try clear b0); (try clear c3b1); (try clear c4); (try clear b1); (try clear c4b1); (try clear p6); obtain ⟨a2, a1, rfl, HA, HK1, a3, HB⟩ := hrel
  cases gk with
  | zero => exact absurd HA.out (by simp [impl_HexText.l0])
  | succ k1 =>
   have H := HA.out; clear HA
   simp only [impl_HexText.l0] at H
   by_cases c7 : a1 < (l0.length : Int)
   rotate_left
   ·
    rw [if_neg c7] at H
    have b2 : decide (a1 < (l0.length : Int)) = false := decide_eq_false c7; clear c7; obtain rfl := Option.some.inj H; have hcv23 := own_string (P := Tryz.prog) Tryz.underlying22 Tryz.underlying5 Tryz.underlying9 (Kd.own_of_R a3.out)
    go_wp2
    go_ret
    exact ⟨by first | rfl | (simp [errW_none, errW_some] <;> rfl) | (simp only [← hji2]; first | rfl | (simp [errW_none, errW_some] <;> rfl)) | (simp [*, errW_none, errW_some] <;> rfl), upH HB.out⟩
   rw [if_pos c7] at H
   have b2 : decide (a1 < (l0.length : Int)) = true := decide_eq_true c7; clear c7
   by_cases c8 : 0 ≤ a1
   rotate_left
   ·
    rw [if_neg c8] at H
    exact absurd H (by simp)
   rw [if_pos c8] at H
   replace c8 := decide_eq_true c8
   by_cases c9 : a1 < (l0.length : Int)
   rotate_left
   ·
    rw [if_neg c9] at H
    exact absurd H (by simp)
   rw [if_pos c9] at H
   replace c9 := decide_eq_true c9; obtain ⟨ji10, hji10⟩ : ∃ j_ : Int, ((rd l0 a1) / 16) = j_ := ⟨_, rfl⟩
   replace H : (if 0 ≤ (ji10) then (if (ji10) < 16 then (if 0 ≤ (Go.bits .and .u8 (rd l0 a1) 15) then (if (Go.bits .and .u8 (rd l0 a1) 15) < 16 then ((some (([bt (⟨#[48, 49, 50, 51, 52, 53, 54, 55, 56, 57, 97, 98, 99, 100, 101, 102]⟩ : ByteArray) (ji10), bt (⟨#[48, 49, 50, 51, 52, 53, 54, 55, 56, 57, 97, 98, 99, 100, 101, 102]⟩ : ByteArray) (Go.bits .and .u8 (rd l0 a1) 15)] : List Int) : List Int)).bind fun y105 => (if a2.length + y105.length < 140737488355328 then (impl_HexText.l0 k1 (a2 ++ y105) l0 (l0.length : Int) (wrap64 (a1 + 1))) else (none))) else (none)) else (none)) else (none)) else (none)) = some r := by first | (rw [hji10] at H; exact H) | (simp only [hji10] at H ⊢; exact H)
   by_cases c11 : 0 ≤ (ji10)
   rotate_left
   ·
    rw [if_neg c11] at H
    exact absurd H (by simp)
   rw [if_pos c11] at H
   replace c11 := decide_eq_true c11
   by_cases c12 : (ji10) < 16
   rotate_left
   ·
    rw [if_neg c12] at H
    exact absurd H (by simp)
   rw [if_pos c12] at H
   replace c12 := decide_eq_true c12
   by_cases c14 : 0 ≤ (Go.bits .and .u8 (rd l0 a1) 15)
   rotate_left
   ·
    rw [if_neg c14] at H
    exact absurd H (by simp)
   rw [if_pos c14] at H
   replace c14 := decide_eq_true c14
   by_cases c15 : (Go.bits .and .u8 (rd l0 a1) 15) < 16
   rotate_left
   ·
    rw [if_neg c15] at H
    exact absurd H (by simp)
   rw [if_pos c15] at H
   replace c15 := decide_eq_true c15; obtain ⟨y105, hy105⟩ : ∃ y_ : List Int, y_ = (([bt (⟨#[48, 49, 50, 51, 52, 53, 54, 55, 56, 57, 97, 98, 99, 100, 101, 102]⟩ : ByteArray) (ji10), bt (⟨#[48, 49, 50, 51, 52, 53, 54, 55, 56, 57, 97, 98, 99, 100, 101, 102]⟩ : ByteArray) (Go.bits .and .u8 (rd l0 a1) 15)] : List Int)) := ⟨_, rfl⟩
   replace H : (if a2.length + y105.length < 140737488355328 then (impl_HexText.l0 k1 (a2 ++ y105) l0 (l0.length : Int) (wrap64 (a1 + 1))) else (none)) = some r := by first | (rw [hy105]; with_reducible exact H) | (have H2_ := (Option.bind_some _ _).symm.trans H; rw [hy105]; with_reducible exact H2_) | (have H2_ := (Option.bind_some _ _).symm.trans H; with_reducible exact H2_) | with_reducible exact H | (rw [hy105]; exact H) | exact H
   have Ny105 := yaa hy105; clear hy105
   by_cases c17 : a2.length + y105.length < 140737488355328
   rotate_left
   ·
    rw [if_neg c17] at H
    exact absurd H (by simp)
   rw [if_pos c17] at H
   have LMc17 := yaa c17; clear c17; obtain ⟨y108, hy108⟩ : ∃ y_ : List Int, y_ = (a2 ++ y105) := ⟨_, rfl⟩
   replace H : (impl_HexText.l0 k1 y108 l0 (l0.length : Int) (wrap64 (a1 + 1))) = some r := by first | (rw [hy108]; with_reducible exact H) | (have H2_ := (Option.bind_some _ _).symm.trans H; rw [hy108]; with_reducible exact H2_) | (have H2_ := (Option.bind_some _ _).symm.trans H; with_reducible exact H2_) | with_reducible exact H | (rw [hy108]; exact H) | exact H
   have Ny108 := yaa hy108; clear hy108; have H' := yaa H; clear H; have p104 : 0 ≤ (a1 : Int) := of_decide_eq_true (by assumption); have q104 : a1 < (l0.length : Int) := of_decide_eq_true (by assumption); obtain ⟨ad104, b3, a5⟩ := Kd.at_int HR0.out a1 p104 q104
   cases b3
   replace a5 := (upc_ HB.out a5 :); replace p104 := eq_true p104; replace q104 := eq_true q104
   try go_wp2
   replace a3 := yaa (Kd.R_drew a3.out); replace HB := yaa (below_drew1 HB.out); have p13 : 0 ≤ ((ji10) : Int) := of_decide_eq_true (by assumption); have q13 : (ji10) < (16 : Int) := of_decide_eq_true (by assumption); have b9 := bt_at (⟨#[48, 49, 50, 51, 52, 53, 54, 55, 56, 57, 97, 98, 99, 100, 101, 102]⟩ : ByteArray) (ji10); replace p13 := eq_true p13; replace q13 := eq_true q13; have p16 : 0 ≤ ((Go.bits .and .u8 (rd l0 a1) 15) : Int) := of_decide_eq_true (by assumption); have q16 : (Go.bits .and .u8 (rd l0 a1) 15) < (16 : Int) := of_decide_eq_true (by assumption); have c2 := bt_at (⟨#[48, 49, 50, 51, 52, 53, 54, 55, 56, 57, 97, 98, 99, 100, 101, 102]⟩ : ByteArray) (Go.bits .and .u8 (rd l0 a1) 15); replace p16 := eq_true p16; replace q16 := eq_true q16
   refine start_ (n := 10) (S := fun w' => True) (ds := []) q15_0 (by kernel_rfl) rfl rfl trivial (fun hHeld => ?_); refine with_tabW impl_HexText.tab5 impl_HexText.bits5 (fun HT_ HW_ => ?_)
   generalize wr.drew = w18 at a3 HB hHeld ⊢
   refine pz_ 0 16 q15_1 HT_ (by kernel_rfl) ?_
   refine pz_ 1 17 q15_2 HT_ (by kernel_rfl) ?_
   refine pz_ 2 18 q15_3 HT_ (by kernel_rfl) ?_
   refine pz_ 4 20 q15_4 HT_ (by kernel_rfl) ?_
   refine pz_ 5 21 q15_5 HT_ (by kernel_rfl) ?_
   refine take_ (i := 3) (N := some 19) (v := ?_) (a' := ?_) q15_6 rfl rfl (take_ofW HT_.out HW_.out (by kernel_rfl)) (fun _ _ _ h => h) (Or.inl ⟨by rfl, ?_⟩) hHeld ?_ ?_
   rotate_left
   ·
    intro w' _
    go_simp
    with_reducible rfl
   rotate_left
   ·
    simp only [Act.put, List.setIfInBounds_toArray, List.set_cons_zero, List.set_cons_succ, i64_w, i32_w]
    rfl
   refine take_ (i := 6) (N := some 22) (v := ?_) (a' := ?_) q15_7 rfl rfl (take_ofW HT_.out HW_.out (by kernel_rfl)) (fun _ _ _ h => h) (Or.inl ⟨by rfl, ?_⟩) hHeld ?_ ?_
   rotate_left
   ·
    intro w' _
    go_simp
    with_reducible rfl
   rotate_left
   ·
    simp only [Act.put, List.setIfInBounds_toArray, List.set_cons_zero, List.set_cons_succ, i64_w, i32_w]
    rfl
   refine one_ (i := 7) (N := some 23) q15_8 rfl rfl (one_of HT_.out (by kernel_rfl)) (by decide) (fun K hK => ?_)
   refine Kd.R_lit_step (Kd.int .u8) _ 5 ?hg (N := 23) ?hd (xs := ([bt (⟨#[48, 49, 50, 51, 52, 53, 54, 55, 56, 57, 97, 98, 99, 100, 101, 102]⟩ : ByteArray) (ji10), bt (⟨#[48, 49, 50, 51, 52, 53, 54, 55, 56, 57, 97, 98, 99, 100, 101, 102]⟩ : ByteArray) (Go.bits .and .u8 (rd l0 a1) 15)] : List Int)) (inner := [.int .u8 (bt (⟨#[48, 49, 50, 51, 52, 53, 54, 55, 56, 57, 97, 98, 99, 100, 101, 102]⟩ : ByteArray) (ji10)), .int .u8 (bt (⟨#[48, 49, 50, 51, 52, 53, 54, 55, 56, 57, 97, 98, 99, 100, 101, 102]⟩ : ByteArray) (Go.bits .and .u8 (rd l0 a1) 15))]) (ok := fun _ => True) (okp := fun _ => True) ?hr ?hp (fun _ hk => hk) trivial (Below.refl _ _) (Nat.le_refl _) (by simp) ?_; (case hd => rfl); (case hg => rfl); (case hr => first | (go_simp; done) | (go_simp; rfl)); (case hp => exact (Reps.one (show Kd.M (Kd.int .u8) _ _ _ (bt (⟨#[48, 49, 50, 51, 52, 53, 54, 55, 56, 57, 97, 98, 99, 100, 101, 102]⟩ : ByteArray) (ji10)) [.int .u8 (bt (⟨#[48, 49, 50, 51, 52, 53, 54, 55, 56, 57, 97, 98, 99, 100, 101, 102]⟩ : ByteArray) (ji10))] from rfl) (Reps.one (show Kd.M (Kd.int .u8) _ _ _ (bt (⟨#[48, 49, 50, 51, 52, 53, 54, 55, 56, 57, 97, 98, 99, 100, 101, 102]⟩ : ByteArray) (Go.bits .and .u8 (rd l0 a1) 15)) [.int .u8 (bt (⟨#[48, 49, 50, 51, 52, 53, 54, 55, 56, 57, 97, 98, 99, 100, 101, 102]⟩ : ByteArray) (Go.bits .and .u8 (rd l0 a1) 15))] from rfl) (Reps.none _ _))))
   intro c5 w19 a6 hb hg_ hnew_; clear hg_ hnew_
   (first | rw [← Ny105.out] at a6 | (simp only [Int.reduceToNat] at a6; rw [← Ny105.out] at a6))
   have a4 := yaa (Kd.R_lower (Kd.R_new' a6 (Kd.R_lt (upR a3.out))) (below_size (upH HB.out))); replace a3 := yaa (Kd.R_elder' (upR a3.out) (Kd.R_base a6) hb); replace HB := yaa (below_step (upH HB.out) hb); clear hb a6; obtain ⟨b4, b5, a8⟩ := Kd.R_slice a4.out
   (first | subst a8 | (injection a8 with f1_ f2_ f3_; have f4_ := f1_.symm; have f5_ := f3_.symm; clear f1_ f2_ f3_; subst f4_; subst f5_))
   refine hK.out _ _ trivial (fun hHeld => ?_)
   clear hK K
   refine norm_ (a' := ?_) ?_ ?_
   rotate_left
   ·
    show Act.put _ (some 23) _ = _
    simp only [Act.put, List.setIfInBounds_toArray, List.set_cons_zero, List.set_cons_succ, i64_w, i32_w]
    rfl
   refine one_ (i := 8) (N := some 24) q15_9 rfl rfl (one_of HT_.out (by kernel_rfl)) (by decide) (fun K hK => ?_)
   refine Kd.R_append_rows_step (Kd.int .u8) (w0 := w) w.heap.size (by rfl) (.tmp 16) (.tmp 23) 22 5 (.int .u8 0) 1 rfl Tryz.underlying22 info5 rfl (by decide) (by omega) u3 a2 y105 _ _ _ (fun k_ => some k_ ≠ (.slice b4 y105.length b5 : Value).ownBlock) (fun _ => False) rfl rfl ?aO ?aR (fun _ _ h => h) (fun _ h => h.elim) ?aF ?aB ?aS ?aL ?_
   (case aR => repeat (first | exact (Kd.R_reads' a4.out).2.2 | (with_reducible refine Kd.C_alloc ?_ _) | (with_reducible refine Kd.C_drewN ?_ _) | (with_reducible refine Kd.C_drew ?_)))
   (case aB => exact (upH HB.out))
   (case aF => exact (fun k_ hk => Kd.fresh' (Kd.R_lt (upR a4.out)) k_ hk))
   (case aO => exact (by (with_reducible repeat (first | apply Kd.R_alloc | apply Kd.R_drewN | apply Kd.R_drew)); exact Kd.R_mono a3.out (fun _ hk => by first | exact hk.2 | exact True.intro)))
   (case aS => exact (below_size (upH HB.out)))
   (case aL => have := LMc17.out; omega)
   intro c6 w21 ho hb hg hat
   rw [← Ny108.out] at ho
   replace a4 := yaa (Kd.R_after (ok := (fun _ => True)) (upR a4.out) hg hat); replace HB := yaa (hb); have a9 := yaa (ho); clear a3; clear ho hb hg hat
   refine hK.out _ _ trivial (fun hHeld => ?_)
   clear hK K
   refine norm_ (a' := ?_) ?_ ?_
   rotate_left
   ·
    show Act.put _ (some 24) _ = _
    simp only [Act.put, List.setIfInBounds_toArray, List.set_cons_zero, List.set_cons_succ, i64_w, i32_w]
    rfl
   refine pz_ 9 3 q15_10 HT_ (by kernel_rfl) ?_
   refine done_ (done_of HT_.out (by kernel_rfl)) ?_
   try go_wp2
   go_roundg k1
   case measure => have := HK1.out; omega
   case rel => exact ⟨(y108), (wrap64 (a1 + 1)), (by first | rfl | (simp; done) | (simp [*]; done)), H', ⟨by have := HK1.out; omega⟩, ⟨by (with_reducible repeat (first | apply Kd.R_alloc | apply Kd.R_drewN | apply Kd.R_drew)); exact Kd.R_mono a9.out (fun _ hk => trivial)⟩, ⟨upH HB.out⟩⟩
end
end Go.Proofs.YtmplnpjdbfedbaaGreatDoor.X
namespace Go.Proofs
open Go.Shelf
def Tryz.lays156_ren : Go.Shelf.Ren := ⟨fun | 156 => 46 | 165 => 77 | 166 => 78 | 169 => 79 | 240 => 93 | 241 => 94 | 276 => 108 | 277 => 109 | n => n, fun | 31 => 58 | 9 => 9 | 3 => 3 | 4 => 4 | 0 => 0 | 20 => 20 | 72 => 125 | 76 => 127 | 70 => 123 | 37 => 22 | 75 => 49 | 127 => 145 | 164 => 91 | 5 => 5 | 80 => 129 | n => n, fun | n => n⟩
theorem Tryz.lays156 : Go.Proofs.Lays.n156 Tryz.prog Tryz.lays156_ren := {
  mixed := by kernel_rfl
  f156 := Tryz.func46.trans (congrArg some (by kernel_rfl))
  f165 := Tryz.func77.trans (congrArg some (by kernel_rfl))
  f166 := Tryz.func78.trans (congrArg some (by kernel_rfl))
  f169 := Tryz.func79.trans (congrArg some (by kernel_rfl))
  f240 := Tryz.func93.trans (congrArg some (by kernel_rfl))
  f241 := Tryz.func94.trans (congrArg some (by kernel_rfl))
  f276 := Tryz.func108.trans (congrArg some (by kernel_rfl))
  f277 := Tryz.func109.trans (congrArg some (by kernel_rfl))
  t0 := Tryz.underlying0
  a0 := Tryz.isAgg0
  z0 := Tryz.sizeOf0
  v0 := Tryz.zeroValue0
  t3 := Tryz.underlying3
  a3 := Tryz.isAgg3
  z3 := Tryz.sizeOf3
  v3 := Tryz.zeroValue3
  t4 := Tryz.underlying4
  a4 := Tryz.isAgg4
  z4 := Tryz.sizeOf4
  v4 := Tryz.zeroValue4
  t9 := Tryz.underlying9
  a9 := Tryz.isAgg9
  z9 := Tryz.sizeOf9
  v9 := Tryz.zeroValue9
  t20 := Tryz.underlying20
  a20 := Tryz.isAgg20
  z20 := Tryz.sizeOf20
  v20 := Tryz.zeroValue20
  t31 := Tryz.underlying58
  a31 := Tryz.isAgg58
  z31 := Tryz.sizeOf58
  v31 := Tryz.zeroValue58
  t37 := Tryz.underlying22
  a37 := Tryz.isAgg22
  z37 := Tryz.sizeOf22
  v37 := Tryz.zeroValue22
  t70 := Tryz.underlying123
  a70 := Tryz.isAgg123
  z70 := Tryz.sizeOf123
  v70 := Tryz.zeroValue123
  t72 := Tryz.underlying125
  a72 := Tryz.isAgg125
  z72 := Tryz.sizeOf125
  v72 := Tryz.zeroValue125
  t75 := Tryz.underlying49
  a75 := Tryz.isAgg49
  z75 := Tryz.sizeOf49
  v75 := Tryz.zeroValue49
  t76 := Tryz.underlying127
  a76 := Tryz.isAgg127
  z76 := Tryz.sizeOf127
  v76 := Tryz.zeroValue127
  t127 := Tryz.underlying145
  a127 := Tryz.isAgg145
  z127 := Tryz.sizeOf145
  v127 := Tryz.zeroValue145
  t164 := Tryz.underlying91
  a164 := Tryz.isAgg91
  z164 := Tryz.sizeOf91
  v164 := Tryz.zeroValue91 }
theorem Tryz.Builder_Extra_156 : Builder.Extra Tryz.prog Tryz.lays156_ren := {
  sizeBuilder := by kernel_rfl
  liesBuilder := by kernel_rfl
  t5 := Tryz.underlying5
  a5 := Tryz.isAgg5
  z5 := Tryz.sizeOf5
  v5 := Tryz.zeroValue5
  infoByte := by kernel_rfl
  cellsByte := by kernel_rfl
  sizeByte := by kernel_rfl
  neB5 := by decide }
open Go.RowKit in
theorem Tryz.strings_Join_none (a : Option Addr) (c : Nat) (sep : ByteArray) (w : World) :
    Calls Tryz.prog 46 #[.slice a 0 c, .string sep] w fun e w' => e = .returned (.string ⟨#[]⟩) ∧ w' = w := Any.strings_Join_none Tryz.lays156 Tryz.Builder_Extra_156 a c sep w
open Go.RowKit in
theorem Tryz.strings_Join (bk o c : Nat) (xs : List ByteArray) (sep : ByteArray) (w : World) (hcells : ∀ (j : Nat) x, xs[j]? = some x → w.cell? ⟨bk, o + j, none⟩ = some (.string x)) (hbk : bk < w.heap.size) (hN : xs.length ≤ 140737488355328) (hcap : xs.length ≤ c) (hlen : (Lib.join (xs.map (·.data.toList)) sep.data.toList).length ≤ 140737488355328) :
    Calls Tryz.prog 46 #[.slice (some ⟨bk, o, none⟩) xs.length c, .string sep] w fun e w' => e = .returned (.string ⟨(Lib.join (xs.map (·.data.toList)) sep.data.toList).toArray⟩) ∧ Below w.heap.size w w' := Any.strings_Join Tryz.lays156 Tryz.Builder_Extra_156 bk o c xs sep w hcells hbk hN hcap hlen
def Tryz.lays210_ren : Go.Shelf.Ren := ⟨fun | 210 => 88 | 206 => 84 | n => n, fun | 9 => 9 | 4 => 4 | 3 => 3 | n => n, fun | n => n⟩
def Tryz.lays103_ren : Go.Shelf.Ren := ⟨fun | 103 => 61 | 210 => 88 | 206 => 84 | n => n, fun | 9 => 9 | 4 => 4 | 24 => 103 | 3 => 3 | n => n, fun | n => n⟩
theorem Tryz.lays103 : Go.Proofs.Lays.n103 Tryz.prog Tryz.lays103_ren := {
  mixed := by kernel_rfl
  f103 := Tryz.func61.trans (congrArg some (by kernel_rfl))
  f206 := Tryz.func84.trans (congrArg some (by kernel_rfl))
  f210 := Tryz.func88.trans (congrArg some (by kernel_rfl))
  t3 := Tryz.underlying3
  a3 := Tryz.isAgg3
  z3 := Tryz.sizeOf3
  v3 := Tryz.zeroValue3
  t4 := Tryz.underlying4
  a4 := Tryz.isAgg4
  z4 := Tryz.sizeOf4
  v4 := Tryz.zeroValue4
  t9 := Tryz.underlying9
  a9 := Tryz.isAgg9
  z9 := Tryz.sizeOf9
  v9 := Tryz.zeroValue9
  t24 := Tryz.underlying103
  a24 := Tryz.isAgg103
  z24 := Tryz.sizeOf103
  v24 := Tryz.zeroValue103 }
open Go.RowKit in
theorem Tryz.strings_CutPrefix (s p : ByteArray) (w : World) :
    Calls Tryz.prog 61 #[.string s, .string p] w fun e w' => e = .returned (.tuple #[.string ⟨(Lib.trimPrefix s.data.toList p.data.toList).toArray⟩, .bool (Lib.hasPrefix s.data.toList p.data.toList)]) ∧ w' = w := Any.strings_CutPrefix Tryz.lays103 s p w
def Tryz.laysM246_ren : Go.Shelf.Ren := ⟨fun | 246 => 95 | 283 => 110 | 284 => 111 | 285 => 112 | 286 => 113 | 129 => 126 | 317 => 125 | 318 => 127 | 319 => 128 | 320 => 129 | 337 => 135 | 338 => 136 | n => n, fun | 2 => 2 | 3 => 3 | 9 => 9 | 4 => 4 | 171 => 166 | 0 => 0 | 53 => 149 | 37 => 22 | 5 => 5 | 173 => 169 | 212 => 180 | 51 => 146 | 20 => 20 | 213 => 181 | 46 => 74 | 232 => 192 | 233 => 148 | n => n, fun | 17 => 5 | 18 => 8 | 19 => 9 | n => n⟩
def Tryz.laysM243_ren : Go.Shelf.Ren := ⟨fun | 243 => 80 | 246 => 95 | 283 => 110 | 284 => 111 | 285 => 112 | 286 => 113 | 129 => 126 | 317 => 125 | 318 => 127 | 319 => 128 | 320 => 129 | 337 => 135 | 338 => 136 | n => n, fun | 3 => 3 | 9 => 9 | 2 => 2 | 4 => 4 | 171 => 166 | 0 => 0 | 53 => 149 | 37 => 22 | 5 => 5 | 173 => 169 | 212 => 180 | 51 => 146 | 20 => 20 | 213 => 181 | 46 => 74 | 232 => 192 | 233 => 148 | n => n, fun | 17 => 5 | 18 => 8 | 19 => 9 | n => n⟩
def Tryz.laysM171_ren : Go.Shelf.Ren := ⟨fun | 171 => 47 | 243 => 80 | 246 => 95 | 283 => 110 | 284 => 111 | 285 => 112 | 286 => 113 | 129 => 126 | 317 => 125 | 318 => 127 | 319 => 128 | 320 => 129 | 337 => 135 | 338 => 136 | n => n, fun | 3 => 3 | 9 => 9 | 2 => 2 | 4 => 4 | 171 => 166 | 0 => 0 | 53 => 149 | 37 => 22 | 5 => 5 | 173 => 169 | 212 => 180 | 51 => 146 | 20 => 20 | 213 => 181 | 46 => 74 | 232 => 192 | 233 => 148 | n => n, fun | 17 => 5 | 18 => 8 | 19 => 9 | n => n⟩
theorem Tryz.laysM171 : Go.Proofs.LaysM.n171 Tryz.prog Tryz.laysM171_ren := {
  mixed := by kernel_rfl
  f129 := Tryz.func126.trans (congrArg some (by kernel_rfl))
  f171 := Tryz.func47.trans (congrArg some (by kernel_rfl))
  f243 := Tryz.func80.trans (congrArg some (by kernel_rfl))
  f246 := Tryz.func95.trans (congrArg some (by kernel_rfl))
  f283 := Tryz.func110.trans (congrArg some (by kernel_rfl))
  f284 := Tryz.func111.trans (congrArg some (by kernel_rfl))
  f285 := Tryz.func112.trans (congrArg some (by kernel_rfl))
  f286 := Tryz.func113.trans (congrArg some (by kernel_rfl))
  f317 := Tryz.func125.trans (congrArg some (by kernel_rfl))
  f318 := Tryz.func127.trans (congrArg some (by kernel_rfl))
  f319 := Tryz.func128.trans (congrArg some (by kernel_rfl))
  f320 := Tryz.func129.trans (congrArg some (by kernel_rfl))
  f337 := Tryz.func135.trans (congrArg some (by kernel_rfl))
  f338 := Tryz.func136.trans (congrArg some (by kernel_rfl))
  t0 := Tryz.underlying0
  a0 := Tryz.isAgg0
  z0 := Tryz.sizeOf0
  v0 := Tryz.zeroValue0
  t2 := Tryz.underlying2
  a2 := Tryz.isAgg2
  z2 := Tryz.sizeOf2
  v2 := Tryz.zeroValue2
  t3 := Tryz.underlying3
  a3 := Tryz.isAgg3
  z3 := Tryz.sizeOf3
  v3 := Tryz.zeroValue3
  t4 := Tryz.underlying4
  a4 := Tryz.isAgg4
  z4 := Tryz.sizeOf4
  v4 := Tryz.zeroValue4
  t5 := Tryz.underlying5
  a5 := Tryz.isAgg5
  z5 := Tryz.sizeOf5
  v5 := Tryz.zeroValue5
  t9 := Tryz.underlying9
  a9 := Tryz.isAgg9
  z9 := Tryz.sizeOf9
  v9 := Tryz.zeroValue9
  t20 := Tryz.underlying20
  a20 := Tryz.isAgg20
  z20 := Tryz.sizeOf20
  v20 := Tryz.zeroValue20
  t37 := Tryz.underlying22
  a37 := Tryz.isAgg22
  z37 := Tryz.sizeOf22
  v37 := Tryz.zeroValue22
  t46 := Tryz.underlying74
  a46 := Tryz.isAgg74
  z46 := Tryz.sizeOf74
  v46 := Tryz.zeroValue74
  t51 := Tryz.underlying146
  a51 := Tryz.isAgg146
  z51 := Tryz.sizeOf146
  v51 := Tryz.zeroValue146
  t53 := Tryz.underlying149
  a53 := Tryz.isAgg149
  z53 := Tryz.sizeOf149
  v53 := Tryz.zeroValue149
  t171 := Tryz.underlying166
  a171 := Tryz.isAgg166
  z171 := Tryz.sizeOf166
  v171 := Tryz.zeroValue166
  t173 := Tryz.underlying169
  a173 := Tryz.isAgg169
  z173 := Tryz.sizeOf169
  v173 := Tryz.zeroValue169
  t212 := Tryz.underlying180
  a212 := Tryz.isAgg180
  z212 := Tryz.sizeOf180
  v212 := Tryz.zeroValue180
  t213 := Tryz.underlying181
  a213 := Tryz.isAgg181
  z213 := Tryz.sizeOf181
  t232 := Tryz.underlying192
  a232 := Tryz.isAgg192
  z232 := Tryz.sizeOf192
  v232 := Tryz.zeroValue192
  t233 := Tryz.underlying148
  a233 := Tryz.isAgg148
  z233 := Tryz.sizeOf148
  v233 := Tryz.zeroValue148
  g17 := by kernel_rfl
  g18 := by kernel_rfl
  g19 := by kernel_rfl
  i0 := by kernel_rfl
  i2 := by kernel_rfl
  i3 := by kernel_rfl
  i4 := by kernel_rfl
  i5 := by kernel_rfl
  i9 := by kernel_rfl
  i20 := by kernel_rfl
  i37 := by kernel_rfl
  i46 := by kernel_rfl
  i51 := by kernel_rfl
  i53 := by kernel_rfl
  i171 := by kernel_rfl
  i173 := by kernel_rfl
  i212 := by kernel_rfl
  i232 := by kernel_rfl
  i233 := by kernel_rfl
  m17 := by kernel_rfl
  m18 := by kernel_rfl
  m19 := by kernel_rfl }
open Go.RowKit Go.Sort Go.Lib in
theorem Tryz.strconv_Itoa (n : Int) (h0 : -9223372036854775808 ≤ n) (h1 : n ≤ 9223372036854775807) (w : World) (htab : Lib.TabIs Tryz.prog w "internal/strconv.uint64pow10" .u64 Lib.pow10Tab) :
    Calls Tryz.prog 47 #[.int .i64 n] w fun e w' => e = .returned (.string ⟨(Lib.itoa n).toArray⟩) ∧ ∃ k os, w' = grow (w.drewN k) os := Any.strconv_Itoa Tryz.laysM171 n h0 h1 w htab
def Tryz.laysM316_ren : Go.Shelf.Ren := ⟨fun | 316 => 68 | n => n, fun | 9 => 9 | 3 => 3 | 4 => 4 | 37 => 22 | 0 => 0 | 127 => 145 | 5 => 5 | n => n, fun | n => n⟩
theorem Tryz.laysM316 : Go.Proofs.LaysM.n316 Tryz.prog Tryz.laysM316_ren := {
  mixed := by kernel_rfl
  f316 := Tryz.func68.trans (congrArg some (by kernel_rfl))
  t0 := Tryz.underlying0
  a0 := Tryz.isAgg0
  z0 := Tryz.sizeOf0
  v0 := Tryz.zeroValue0
  t3 := Tryz.underlying3
  a3 := Tryz.isAgg3
  z3 := Tryz.sizeOf3
  v3 := Tryz.zeroValue3
  t4 := Tryz.underlying4
  a4 := Tryz.isAgg4
  z4 := Tryz.sizeOf4
  v4 := Tryz.zeroValue4
  t9 := Tryz.underlying9
  a9 := Tryz.isAgg9
  z9 := Tryz.sizeOf9
  v9 := Tryz.zeroValue9
  t37 := Tryz.underlying22
  a37 := Tryz.isAgg22
  z37 := Tryz.sizeOf22
  v37 := Tryz.zeroValue22
  t127 := Tryz.underlying145
  a127 := Tryz.isAgg145
  z127 := Tryz.sizeOf145
  v127 := Tryz.zeroValue145
  t5 := Tryz.underlying5
  a5 := Tryz.isAgg5
  z5 := Tryz.sizeOf5
  v5 := Tryz.zeroValue5
  i0 := by kernel_rfl
  i3 := by kernel_rfl
  i4 := by kernel_rfl
  i5 := by kernel_rfl
  i9 := by kernel_rfl
  i37 := by kernel_rfl
  i127 := by kernel_rfl }
open Go.RowKit in
theorem Tryz.stringslite_Clone (s : ByteArray) (w : World) (hlim : s.size ≤ 281474976710656) :
    Calls Tryz.prog 68 #[.string s] w fun e w' => e = .returned (.string s) ∧ Below w.heap.size w w' := Any.stringslite_Clone Tryz.laysM316 s w hlim
def Tryz.lays219_ren : Go.Shelf.Ren := ⟨fun | 219 => 103 | 217 => 117 | 225 => 118 | 224 => 119 | 267 => 120 | 266 => 132 | 314 => 133 | n => n, fun | 9 => 9 | 3 => 3 | 4 => 4 | 5 => 5 | 46 => 74 | 146 => 185 | 51 => 146 | n => n, fun | 1 => 3 | n => n⟩
def Tryz.lays145_ren : Go.Shelf.Ren := ⟨fun | 145 => 62 | 220 => 89 | 219 => 103 | 217 => 117 | 225 => 118 | 224 => 119 | 267 => 120 | 266 => 132 | 314 => 133 | n => n, fun | 9 => 9 | 4 => 4 | 59 => 105 | 3 => 3 | 5 => 5 | 46 => 74 | 146 => 185 | 51 => 146 | n => n, fun | 1 => 3 | n => n⟩
theorem Tryz.lays145 : Go.Proofs.Lays.n145 Tryz.prog Tryz.lays145_ren := {
  mixed := by kernel_rfl
  f145 := Tryz.func62.trans (congrArg some (by kernel_rfl))
  f217 := Tryz.func117.trans (congrArg some (by kernel_rfl))
  f219 := Tryz.func103.trans (congrArg some (by kernel_rfl))
  f220 := Tryz.func89.trans (congrArg some (by kernel_rfl))
  f224 := Tryz.func119.trans (congrArg some (by kernel_rfl))
  f225 := Tryz.func118.trans (congrArg some (by kernel_rfl))
  f266 := Tryz.func132.trans (congrArg some (by kernel_rfl))
  f267 := Tryz.func120.trans (congrArg some (by kernel_rfl))
  f314 := Tryz.func133.trans (congrArg some (by kernel_rfl))
  t3 := Tryz.underlying3
  a3 := Tryz.isAgg3
  z3 := Tryz.sizeOf3
  v3 := Tryz.zeroValue3
  t4 := Tryz.underlying4
  a4 := Tryz.isAgg4
  z4 := Tryz.sizeOf4
  v4 := Tryz.zeroValue4
  t5 := Tryz.underlying5
  a5 := Tryz.isAgg5
  z5 := Tryz.sizeOf5
  v5 := Tryz.zeroValue5
  t9 := Tryz.underlying9
  a9 := Tryz.isAgg9
  z9 := Tryz.sizeOf9
  v9 := Tryz.zeroValue9
  t46 := Tryz.underlying74
  a46 := Tryz.isAgg74
  z46 := Tryz.sizeOf74
  v46 := Tryz.zeroValue74
  t51 := Tryz.underlying146
  a51 := Tryz.isAgg146
  z51 := Tryz.sizeOf146
  v51 := Tryz.zeroValue146
  t59 := Tryz.underlying105
  a59 := Tryz.isAgg105
  z59 := Tryz.sizeOf105
  v59 := Tryz.zeroValue105
  t146 := Tryz.underlying185
  a146 := Tryz.isAgg185
  z146 := Tryz.sizeOf185
  v146 := Tryz.zeroValue185
  g1 := by kernel_rfl }
open Go.RowKit Go.Lib in
theorem Tryz.strings_Cut (s sep : ByteArray) (m : Int) (w : World) (hs : s.size < 4294967281) (hm : w.cell? ⟨3, 0, none⟩ = some (.int .i64 m)) :
    Calls Tryz.prog 62 #[.string s, .string sep] w fun e w' => e = .returned (.tuple #[.string ⟨(Lib.cut s.data.toList sep.data.toList).1.toArray⟩, .string ⟨(Lib.cut s.data.toList sep.data.toList).2.1.toArray⟩, .bool (Lib.cut s.data.toList sep.data.toList).2.2]) ∧ ∃ n, w' = w.drewN n := Any.strings_Cut Tryz.lays145 s sep m w hs hm
def Tryz.lays99_ren : Go.Shelf.Ren := ⟨fun | 99 => 56 | 206 => 84 | n => n, fun | 9 => 9 | 4 => 4 | 3 => 3 | n => n, fun | n => n⟩
theorem Tryz.lays99 : Go.Proofs.Lays.n99 Tryz.prog Tryz.lays99_ren := {
  mixed := by kernel_rfl
  f99 := Tryz.func56.trans (congrArg some (by kernel_rfl))
  f206 := Tryz.func84.trans (congrArg some (by kernel_rfl))
  t3 := Tryz.underlying3
  a3 := Tryz.isAgg3
  z3 := Tryz.sizeOf3
  v3 := Tryz.zeroValue3
  t4 := Tryz.underlying4
  a4 := Tryz.isAgg4
  z4 := Tryz.sizeOf4
  v4 := Tryz.zeroValue4
  t9 := Tryz.underlying9
  a9 := Tryz.isAgg9
  z9 := Tryz.sizeOf9
  v9 := Tryz.zeroValue9 }
open Go.RowKit Go.Lib in
theorem Tryz.strings_HasPrefix (s p : ByteArray) (w : World) :
    Calls Tryz.prog 56 #[.string s, .string p] w fun e w' => e = .returned (.bool (Lib.hasPrefix s.data.toList p.data.toList)) ∧ w' = w := Any.strings_HasPrefix Tryz.lays99 s p w
def Tryz.lays221_ren : Go.Shelf.Ren := ⟨fun | 221 => 90 | 268 => 104 | 138 => 105 | 143 => 106 | 195 => 121 | 197 => 122 | 218 => 123 | 219 => 103 | 260 => 134 | 217 => 117 | 225 => 118 | 224 => 119 | 267 => 120 | 266 => 132 | 314 => 133 | n => n, fun | 9 => 9 | 3 => 3 | 31 => 58 | 4 => 4 | 0 => 0 | 105 => 175 | 21 => 21 | 5 => 5 | 46 => 74 | 119 => 188 | 139 => 191 | 138 => 190 | 146 => 185 | 51 => 146 | n => n, fun | 1 => 3 | 3 => 6 | 4 => 7 | n => n⟩
def Tryz.lays146_ren : Go.Shelf.Ren := ⟨fun | 146 => 63 | 221 => 90 | 268 => 104 | 138 => 105 | 143 => 106 | 195 => 121 | 197 => 122 | 218 => 123 | 219 => 103 | 260 => 134 | 217 => 117 | 225 => 118 | 224 => 119 | 267 => 120 | 266 => 132 | 314 => 133 | n => n, fun | 9 => 9 | 31 => 58 | 3 => 3 | 4 => 4 | 0 => 0 | 105 => 175 | 21 => 21 | 5 => 5 | 46 => 74 | 119 => 188 | 139 => 191 | 138 => 190 | 146 => 185 | 51 => 146 | n => n, fun | 1 => 3 | 3 => 6 | 4 => 7 | n => n⟩
theorem Tryz.lays146 : Go.Proofs.Lays.n146 Tryz.prog Tryz.lays146_ren := {
  mixed := by kernel_rfl
  f138 := Tryz.func105.trans (congrArg some (by kernel_rfl))
  f143 := Tryz.func106.trans (congrArg some (by kernel_rfl))
  f146 := Tryz.func63.trans (congrArg some (by kernel_rfl))
  f195 := Tryz.func121.trans (congrArg some (by kernel_rfl))
  f197 := Tryz.func122.trans (congrArg some (by kernel_rfl))
  f217 := Tryz.func117.trans (congrArg some (by kernel_rfl))
  f218 := Tryz.func123.trans (congrArg some (by kernel_rfl))
  f219 := Tryz.func103.trans (congrArg some (by kernel_rfl))
  f221 := Tryz.func90.trans (congrArg some (by kernel_rfl))
  f224 := Tryz.func119.trans (congrArg some (by kernel_rfl))
  f225 := Tryz.func118.trans (congrArg some (by kernel_rfl))
  f260 := Tryz.func134.trans (congrArg some (by kernel_rfl))
  f266 := Tryz.func132.trans (congrArg some (by kernel_rfl))
  f267 := Tryz.func120.trans (congrArg some (by kernel_rfl))
  f268 := Tryz.func104.trans (congrArg some (by kernel_rfl))
  f314 := Tryz.func133.trans (congrArg some (by kernel_rfl))
  t0 := Tryz.underlying0
  a0 := Tryz.isAgg0
  z0 := Tryz.sizeOf0
  v0 := Tryz.zeroValue0
  t3 := Tryz.underlying3
  a3 := Tryz.isAgg3
  z3 := Tryz.sizeOf3
  v3 := Tryz.zeroValue3
  t4 := Tryz.underlying4
  a4 := Tryz.isAgg4
  z4 := Tryz.sizeOf4
  v4 := Tryz.zeroValue4
  t5 := Tryz.underlying5
  a5 := Tryz.isAgg5
  z5 := Tryz.sizeOf5
  v5 := Tryz.zeroValue5
  t9 := Tryz.underlying9
  a9 := Tryz.isAgg9
  z9 := Tryz.sizeOf9
  v9 := Tryz.zeroValue9
  t21 := Tryz.underlying21
  a21 := Tryz.isAgg21
  z21 := Tryz.sizeOf21
  v21 := Tryz.zeroValue21
  t31 := Tryz.underlying58
  a31 := Tryz.isAgg58
  z31 := Tryz.sizeOf58
  v31 := Tryz.zeroValue58
  t46 := Tryz.underlying74
  a46 := Tryz.isAgg74
  z46 := Tryz.sizeOf74
  v46 := Tryz.zeroValue74
  t51 := Tryz.underlying146
  a51 := Tryz.isAgg146
  z51 := Tryz.sizeOf146
  v51 := Tryz.zeroValue146
  t105 := Tryz.underlying175
  a105 := Tryz.isAgg175
  z105 := Tryz.sizeOf175
  v105 := Tryz.zeroValue175
  t119 := Tryz.underlying188
  a119 := Tryz.isAgg188
  z119 := Tryz.sizeOf188
  t138 := Tryz.underlying190
  a138 := Tryz.isAgg190
  z138 := Tryz.sizeOf190
  v138 := Tryz.zeroValue190
  t139 := Tryz.underlying191
  a139 := Tryz.isAgg191
  z139 := Tryz.sizeOf191
  v139 := Tryz.zeroValue191
  t146 := Tryz.underlying185
  a146 := Tryz.isAgg185
  z146 := Tryz.sizeOf185
  v146 := Tryz.zeroValue185
  g1 := by kernel_rfl
  g3 := by kernel_rfl
  g4 := by kernel_rfl }
open Go.RowKit Go.Lib in
theorem Tryz.strings_Split (s sep : ByteArray) (m : Int) (w : World) (hs : s.size < 4294967281) (hm : w.cell? ⟨3, 0, none⟩ = some (.int .i64 m)) (h1 : 1 ≤ sep.size) :
    Calls Tryz.prog 63 #[.string s, .string sep] w fun e w' =>
      e = .returned (.slice (some ⟨w.heap.size, 0, none⟩) (Lib.countB s sep + 1) (Lib.countB s sep + 1)) ∧ w' = w.alloc (.cells ((Lib.splitB sep 0 (Lib.countB s sep) s).map Value.string).toArray 9) := Any.strings_Split Tryz.lays146 (by kernel_rfl) s sep m w hs hm h1
end Go.Proofs
namespace Go.Proofs.YtmplnpjdbfedbaaGreatDoor.X
open Go.RowKit Go.Proofs.YtmplnpjdbfedbaaGreatDoorW.PrintWords Go.Proofs.YtmplnpjdbfedbaaGreatDoorW.PrintLast Go.Proofs.YtmplnpjdbfedbaaGreatDoorW.PrintMore
set_option linter.unusedVariables false
def formCells : Array Value := #[.string ⟨#[]⟩, .int .i64 0, .string ⟨#[99, 114, 111, 112]⟩, .int .i64 4, .string ⟨#[102, 108, 105, 112, 120]⟩, .int .i64 0, .string ⟨#[102, 108, 105, 112, 121]⟩, .int .i64 0, .string ⟨#[116, 117, 114, 110]⟩, .int .i64 0, .string ⟨#[103, 114, 97, 121]⟩, .int .i64 0, .string ⟨#[98, 108, 117, 114]⟩, .int .i64 0, .string ⟨#[115, 105, 122, 101]⟩, .int .i64 2, .string ⟨#[102, 108, 97, 116]⟩, .int .i64 3]
def shS0 : List Int := [1779033703, 3144134277, 1013904242, 2773480762, 1359893119, 2600822924, 528734635, 1541459225]
def shK0 : List Int := [1116352408, 1899447441, 3049323471, 3921009573, 961987163, 1508970993, 2453635748, 2870763221, 3624381080, 310598401, 607225278, 1426881987, 1925078388, 2162078206, 2614888103, 3248222580, 3835390401, 4022224774, 264347078, 604807628, 770255983, 1249150122, 1555081692, 1996064986, 2554220882, 2821834349, 2952996808, 3210313671, 3336571891, 3584528711, 113926993, 338241895, 666307205, 773529912, 1294757372, 1396182291, 1695183700, 1986661051, 2177026350, 2456956037, 2730485921, 2820302411, 3259730800, 3345764771, 3516065817, 3600352804, 4094571909, 275423344, 430227734, 506948616, 659060556, 883997877, 958139571, 1322822218, 1537002063, 1747873779, 1955562222, 2024104815, 2227730452, 2361852424, 2428436474, 2756734187, 3204031479, 3329325298]
structure Glob (w : World) : Prop where
  forms : ∃ t fr, w.heap[1]? = some (.cells formCells t fr)
  pow : ∃ t fr, w.heap[5]? = some (.cells (Lib.pow10Tab.map fun z => Value.int .u64 z).toArray t fr)
  s : ∃ t fr, w.heap[2]? = some (.cells (nums .u32 shS0).toArray t fr)
  k : ∃ t fr, w.heap[4]? = some (.cells (nums .u32 shK0).toArray t fr)
  max : ∃ m, w.cell? ⟨3, 0, none⟩ = some (.int .i64 m)
  err : w.cell? ⟨0, 0, none⟩ = some (.iface 131 (.agg #[.pointer (some ⟨10, 49, none⟩)]))
theorem Glob.two {w : World} (h : Glob w) : 6 ≤ w.heap.size := by obtain ⟨_, ⟨t2, f2, h2⟩, _, _, _, _⟩ := h; exact blk_lt h2
theorem Glob.below {B : Nat} {w w' : World} (h : Glob w) (hB : 6 ≤ B) (hb : Below B w w') : Glob w' := by
  obtain ⟨⟨t1, f1, h1⟩, ⟨t2, f2, h2⟩, ⟨t3, f3, h3⟩, ⟨t4, f4, h4⟩, ⟨m, h5⟩, h6⟩ := h
  exact ⟨⟨t1, f1, (hb.block _ (by omega)).trans h1⟩, ⟨t2, f2, (hb.block _ (by omega)).trans h2⟩, ⟨t3, f3, (hb.block _ (by omega)).trans h3⟩, ⟨t4, f4, (hb.block _ (by omega)).trans h4⟩, ⟨m, (hb.cell (show 3 < B by omega)).trans h5⟩, (hb.cell (show 0 < B by omega)).trans h6⟩
theorem Glob.belowW {w w' : World} (h : Glob w) (hb : Below w.heap.size w w') : Glob w' := h.below h.two hb
theorem gPow : Tryz.prog.globalNamed "internal/strconv.uint64pow10" = some 5 := by kernel_rfl
theorem Glob.tab {w : World} (h : Glob w) : Lib.TabIs Tryz.prog w "internal/strconv.uint64pow10" .u64 Lib.pow10Tab := by
  obtain ⟨_, ⟨t, fr, hp⟩, _⟩ := h
  unfold Lib.TabIs World.var?
  rw [gPow, Option.bind_some, hp]
structure GlobP (w : World) : Prop where
  pow : ∃ t fr, w.heap[5]? = some (.cells (Lib.pow10Tab.map fun z => Value.int .u64 z).toArray t fr)
theorem GlobP.belowW {w w' : World} (h : GlobP w) (hb : Below w.heap.size w w') : GlobP w' := by
  obtain ⟨⟨t2, fr2, h2⟩⟩ := h
  exact ⟨⟨t2, fr2, (hb.block _ (blk_lt h2)).trans h2⟩⟩
theorem GlobP.tab {w : World} (h : GlobP w) : Lib.TabIs Tryz.prog w "internal/strconv.uint64pow10" .u64 Lib.pow10Tab := by
  obtain ⟨⟨t, fr, hp⟩⟩ := h
  unfold Lib.TabIs World.var?
  rw [gPow, Option.bind_some, hp]
theorem Glob.toP {w : World} (h : Glob w) : GlobP w := ⟨h.pow⟩
theorem itoa_calls (n : Int) (w : World) (hG : GlobP w) (h0 : -9223372036854775808 ≤ n) (h1 : n ≤ 9223372036854775807) :
    Calls Tryz.prog 47 #[.int .i64 n] w fun e w' => e = .returned (.string ⟨(Lib.itoa n).toArray⟩) ∧ Below w.heap.size w w' := by
  refine (Tryz.strconv_Itoa n h0 h1 w hG.tab).mono ?_
  rintro e w' ⟨rfl, k, os, rfl⟩
  exact ⟨rfl, Lib.below_grow _ _ (Nat.le_refl _) _ _⟩
end Go.Proofs.YtmplnpjdbfedbaaGreatDoor.X
namespace Go.Proofs.YtmplnpjdbfedbaaGreatDoor.X
open Go.RowKit Go.Proofs.YtmplnpjdbfedbaaGreatDoorW.PrintWords Go.Proofs.YtmplnpjdbfedbaaGreatDoorW.PrintLast Go.Proofs.YtmplnpjdbfedbaaGreatDoorW.PrintMore
attribute [local go_sem] max2_int min2_int max_two min_two max_three min_three max_four min_four
set_option linter.unusedVariables false
set_option linter.unusedSimpArgs false
section
end
end Go.Proofs.YtmplnpjdbfedbaaGreatDoor.X
namespace Go.Proofs.YtmplnpjdbfedbaaGreatDoor.X
open Go.RowKit Go.Proofs.YtmplnpjdbfedbaaGreatDoorW.PrintWords Go.Proofs.YtmplnpjdbfedbaaGreatDoorW.PrintLast Go.Proofs.YtmplnpjdbfedbaaGreatDoorW.PrintMore
set_option linter.unusedVariables false
set_option linter.unusedSimpArgs false
def shCells (st blk : List Int) (u : Int) (tot : Int) : Array Value := (nums .u32 st ++ (nums .u8 blk ++ ([.int .i64 u, .int .u64 tot] : List Value))).toArray
structure ShaBlk (w : World) (B : Nat) (st blk : List Int) (u : Nat) (tot : Int) : Prop where
  st8 : st.length = 8
  blk64 : blk.length = 64
  two : 6 ≤ B
  cells : w.heap[B]? = some (.cells (shCells st blk u tot) 151 (0, 0))
variable {w w' : World} {B : Nat} {st blk : List Int} {u : Nat} {tot : Int}
theorem ShaBlk.frozen (h : ShaBlk w B st blk u tot) (i : Nat) : w.frozen? ⟨B, i, none⟩ = false := blk_frozen h.cells i
theorem ShaBlk.cSt (h : ShaBlk w B st blk u tot) (i : Nat) (hi : i < 8) : w.cell? ⟨B, i, none⟩ = some (.int .u32 (st.getD i 0)) := by
  rw [blk_cell h.cells]; have := h.st8
  simp [shCells, nums, List.getElem?_append, hi, this, List.getD_eq_getElem?_getD]
theorem ShaBlk.cBlk (h : ShaBlk w B st blk u tot) (i : Nat) (hi : i < 64) : w.cell? ⟨B, 8 + i, none⟩ = some (.int .u8 (blk.getD i 0)) := by
  rw [blk_cell h.cells]; have := h.st8; have := h.blk64
  simp [shCells, nums, List.getElem?_append, hi, *, List.getD_eq_getElem?_getD]
theorem ShaBlk.cU (h : ShaBlk w B st blk u tot) : w.cell? ⟨B, 72, none⟩ = some (.int .i64 u) := by
  rw [blk_cell h.cells]; have := h.st8; have := h.blk64
  simp [shCells, nums, List.getElem?_append, *]
theorem ShaBlk.cT (h : ShaBlk w B st blk u tot) : w.cell? ⟨B, 73, none⟩ = some (.int .u64 tot) := by
  rw [blk_cell h.cells]; have := h.st8; have := h.blk64
  simp [shCells, nums, List.getElem?_append, *]
theorem ShaBlk.setSt (h : ShaBlk w B st blk u tot) (i : Nat) (hi : i < 8) (x : Int) : ShaBlk (w.setCell ⟨B, i, none⟩ (.int .u32 x)) B (st.set i x) blk u tot := by
  refine ⟨by simp [h.st8], h.blk64, h.two, ?_⟩
  rw [blk_set h.cells]; have h8 := h.st8
  congr 2
  simp only [shCells, List.setIfInBounds_toArray, nums, List.map_set]
  rw [List.set_append_left _ _ (by simp [h8, hi])]
theorem ShaBlk.setBlk (h : ShaBlk w B st blk u tot) (i : Nat) (hi : i < 64) (x : Int) : ShaBlk (w.setCell ⟨B, 8 + i, none⟩ (.int .u8 x)) B st (blk.set i x) u tot := by
  refine ⟨h.st8, by simp [h.blk64], h.two, ?_⟩
  rw [blk_set h.cells]; have h8 := h.st8; have h64 := h.blk64
  congr 2
  simp only [shCells, List.setIfInBounds_toArray, nums, List.map_set]
  rw [List.set_append_right _ _ (by simp [h8]), List.set_append_left _ _ (by simp [h8, h64, hi])]
  simp [h8]
theorem ShaBlk.setU (h : ShaBlk w B st blk u tot) (u' : Nat) : ShaBlk (w.setCell ⟨B, 72, none⟩ (.int .i64 u')) B st blk u' tot := by
  refine ⟨h.st8, h.blk64, h.two, ?_⟩
  rw [blk_set h.cells]; have h8 := h.st8; have h64 := h.blk64
  congr 2
  simp only [shCells, List.setIfInBounds_toArray, nums]
  rw [List.set_append_right _ _ (by simp [h8]), List.set_append_right _ _ (by simp [h8, h64])]
  simp [h8, h64]
theorem ShaBlk.setT (h : ShaBlk w B st blk u tot) (t' : Int) : ShaBlk (w.setCell ⟨B, 73, none⟩ (.int .u64 t')) B st blk u t' := by
  refine ⟨h.st8, h.blk64, h.two, ?_⟩
  rw [blk_set h.cells]; have h8 := h.st8; have h64 := h.blk64
  congr 2
  simp only [shCells, List.setIfInBounds_toArray, nums]
  rw [List.set_append_right _ _ (by simp [h8]), List.set_append_right _ _ (by simp [h8, h64])]
  simp [h8, h64]
theorem ShaBlk.below {C : Nat} (h : ShaBlk w B st blk u tot) (hb : Below C w w') (hC : B < C) : ShaBlk w' B st blk u tot := ⟨h.st8, h.blk64, h.two, (hb.block _ hC).trans h.cells⟩
theorem ShaBlk.lt (h : ShaBlk w B st blk u tot) : B < w.heap.size := blk_lt h.cells
end Go.Proofs.YtmplnpjdbfedbaaGreatDoor.X
namespace Go.Proofs.YtmplnpjdbfedbaaGreatDoor.Sha
def pushF (mix : List Int → List Int → List Int) (s : List Int × List Int × Nat) (b : Int) : List Int × List Int × Nat :=
  if s.2.2 + 1 = 64 then (mix s.1 (s.2.1.set s.2.2 b), s.2.1.set s.2.2 b, 0) else (s.1, s.2.1.set s.2.2 b, s.2.2 + 1)
def writeF (mix : List Int → List Int → List Int) (s : List Int × List Int × Nat) (l : List Int) : List Int × List Int × Nat := l.foldl (pushF mix) s
theorem take_set_succ (l : List Int) (u : Nat) (b : Int) (h : u < l.length) : (l.set u b).take (u + 1) = l.take u ++ [b] := by
  rw [List.take_add_one]
  simp [List.take_set_of_le, h]
theorem writeF_append (mix : List Int → List Int → List Int) (s : List Int × List Int × Nat) (l m : List Int) : writeF mix s (l ++ m) = writeF mix (writeF mix s l) m := by simp [writeF]
theorem writeF_used (mix : List Int → List Int → List Int) : ∀ (l : List Int) (s : List Int × List Int × Nat), s.2.2 < 64 → (writeF mix s l).2.2 = (s.2.2 + l.length) % 64
  | [], s, hs => by simp [writeF]; omega
  | b :: l, s, hs => by
    have e : writeF mix s (b :: l) = writeF mix (pushF mix s b) l := rfl
    have h1 : (pushF mix s b).2.2 = (s.2.2 + 1) % 64 := by
      unfold pushF; split
      · simp; omega
      · simp; omega
    rw [e, writeF_used mix l _ (by rw [h1]; omega), h1]; simp; omega
end Go.Proofs.YtmplnpjdbfedbaaGreatDoor.Sha
namespace Go.Proofs.YtmplnpjdbfedbaaGreatDoor.X
open Go.RowKit Go.Proofs.YtmplnpjdbfedbaaGreatDoorW.PrintWords Go.Proofs.YtmplnpjdbfedbaaGreatDoorW.PrintLast Go.Proofs.YtmplnpjdbfedbaaGreatDoorW.PrintMore Go.Proofs.YtmplnpjdbfedbaaGreatDoor.Sha
set_option linter.unusedVariables false
set_option linter.unusedSimpArgs false
def MixOk (mix : List Int → List Int → List Int) : Prop := ∀ (B : Nat) (st blk : List Int) (u : Nat) (tot : Int) (w : World), Glob w → ShaBlk w B st blk u tot →
  Calls Tryz.prog 107 #[.pointer (some ⟨B, 0, none⟩)] w fun e w' => ∃ v, e = .returned v ∧ ShaBlk w' B (mix st blk) blk u tot ∧ Below B w w'
theorem shDrew {w : World} {B : Nat} {st blk : List Int} {u : Nat} {tot : Int} (h : ShaBlk w B st blk u tot) : ShaBlk w.drew B st blk u tot := ⟨h.st8, h.blk64, h.two, h.cells⟩
set_option maxHeartbeats 1000000 in
set_option maxRecDepth 100000 in
theorem push_room (B : Nat) (st blk : List Int) (u : Nat) (tot b : Int) (w : World) (hb : ShaBlk w B st blk u tot) (hu : u + 1 < 64) :
    Calls Tryz.prog 92 #[.pointer (some ⟨B, 0, none⟩), .int .u8 b] w fun e w' => ∃ v, e = .returned v ∧ ShaBlk w' B st (blk.set u b) (u + 1) tot ∧ Below B w w' := by
  have c1 := hb.cU
  have c2 := hb.cBlk u (by omega)
  have f1 := hb.frozen 72
  have f2 := hb.frozen (8 + u)
  have HB := Aside0.mk hb
  clear hb
  go_enter Tryz.func92, Tryz.ntmps92
  go_wp2
  go_region
  all_goals go_wp2
  all_goals refine bodyPost_end (results_none Tryz.results92 _ _ _) rfl ?_
  all_goals exact ⟨_, rfl, (shDrew (HB.out.setBlk u (by omega) b |>.setU (u + 1))), ((((Below.refl B w).setCell (Nat.le_refl _) _).setCell (Nat.le_refl _) _).drew)⟩
set_option maxHeartbeats 1000000 in
set_option maxRecDepth 100000 in
theorem push_full {mix : List Int → List Int → List Int} (hmix : MixOk mix) (B : Nat) (st blk : List Int) (tot b : Int) (w : World) (hG : Glob w) (hb : ShaBlk w B st blk 63 tot) :
    Calls Tryz.prog 92 #[.pointer (some ⟨B, 0, none⟩), .int .u8 b] w fun e w' => ∃ v, e = .returned v ∧ ShaBlk w' B (mix st (blk.set 63 b)) (blk.set 63 b) 0 tot ∧ Below B w w' := by
  have c1 := hb.cU
  have c2 := hb.cBlk 63 (by omega)
  have f1 := hb.frozen 72
  have f2 := hb.frozen 71
  have HB := Aside0.mk hb
  have HG := Aside0.mk hG
  have HM := Aside0.mk hmix
  clear hb hmix hG
  go_enter Tryz.func92, Tryz.ntmps92
  go_wp2
  go_region
  all_goals go_wp2_with (go_at_call 107; refine (HM.out B st (blk.set 63 b) 64 tot _ (HG.out.below HB.out.two ((((Below.refl B w).setCell (p := ⟨B, 71, none⟩) (Nat.le_refl _) _).setCell (p := ⟨B, 72, none⟩) (Nat.le_refl _) _).drew)) (shDrew (HB.out.setBlk 63 (by omega) b |>.setU 64))).mono ?_; rintro e w2 ⟨v, rfl, hS, hbel⟩; have d1 := hS.cU; have d2 := hS.frozen 72; have HS := Aside0.mk hS; have HL := Aside0.mk hbel; clear hS hbel)
  all_goals refine bodyPost_end (results_none Tryz.results92 _ _ _) rfl ?_
  all_goals exact ⟨_, rfl, HS.out.setU 0, ((((Below.refl B w).setCell (Nat.le_refl _) _).setCell (Nat.le_refl _) _).drew).trans (HL.out.setCell (Nat.le_refl _) _)⟩
def ShaSt (w : World) (B : Nat) (s : List Int × List Int × Nat) (tot : Int) : Prop := s.2.2 < 64 ∧ ShaBlk w B s.1 s.2.1 s.2.2 tot
theorem push_calls {mix : List Int → List Int → List Int} (hmix : MixOk mix) (B : Nat) (s : List Int × List Int × Nat) (tot b : Int) (w : World) (hG : Glob w) (hb : ShaSt w B s tot) :
    Calls Tryz.prog 92 #[.pointer (some ⟨B, 0, none⟩), .int .u8 b] w fun e w' => ∃ v, e = .returned v ∧ ShaSt w' B (pushF mix s b) tot ∧ Below B w w' := by
  obtain ⟨st, blk, u⟩ := s
  obtain ⟨hu, hb⟩ := hb
  by_cases h : u + 1 = 64
  · obtain rfl : u = 63 := by omega
    refine (push_full hmix B st blk tot b w hG hb).mono ?_
    rintro e w' ⟨v, h1, h2, h3⟩
    refine ⟨v, h1, ?_, h3⟩
    simp only [pushF, if_pos, ShaSt]
    exact ⟨by omega, h2⟩
  · refine (push_room B st blk u tot b w hb (by dsimp only at hu; omega)).mono ?_
    rintro e w' ⟨v, h1, h2, h3⟩
    refine ⟨v, h1, ?_, h3⟩
    simp only [pushF, if_neg h, ShaSt]
    exact ⟨by dsimp only at hu; omega, h2⟩
set_option maxHeartbeats 1000000 in
set_option maxRecDepth 100000 in
theorem new_calls (w : World) (hG : Glob w) :
    Calls Tryz.prog 73 #[] w fun e w' => ∃ B, e = .returned (.pointer (some ⟨B, 0, none⟩)) ∧ B = w.heap.size ∧ ShaSt w' B (shS0, List.replicate 64 0, 0) 0 ∧ Below w.heap.size w w' := by
  obtain ⟨ty0, fr, h0⟩ := hG.s
  have HG := Aside0.mk hG
  have h1 : w.heap[2]? = some (.cells #[.int .u32 1779033703, .int .u32 3144134277, .int .u32 1013904242, .int .u32 2773480762, .int .u32 1359893119, .int .u32 2600822924, .int .u32 528734635, .int .u32 1541459225] ty0 fr) := h0
  have H0 := Aside0.mk h1
  clear hG h0 h1
  have hz : ∀ w : World, (zeroValue 151).run Tryz.prog w = .ok (.agg #[.int .u32 0, .int .u32 0, .int .u32 0, .int .u32 0, .int .u32 0, .int .u32 0, .int .u32 0, .int .u32 0, .int .u8 0, .int .u8 0, .int .u8 0, .int .u8 0, .int .u8 0, .int .u8 0, .int .u8 0, .int .u8 0, .int .u8 0, .int .u8 0, .int .u8 0, .int .u8 0, .int .u8 0, .int .u8 0, .int .u8 0, .int .u8 0, .int .u8 0, .int .u8 0, .int .u8 0, .int .u8 0, .int .u8 0, .int .u8 0, .int .u8 0, .int .u8 0, .int .u8 0, .int .u8 0, .int .u8 0, .int .u8 0, .int .u8 0, .int .u8 0, .int .u8 0, .int .u8 0, .int .u8 0, .int .u8 0, .int .u8 0, .int .u8 0, .int .u8 0, .int .u8 0, .int .u8 0, .int .u8 0, .int .u8 0, .int .u8 0, .int .u8 0, .int .u8 0, .int .u8 0, .int .u8 0, .int .u8 0, .int .u8 0, .int .u8 0, .int .u8 0, .int .u8 0, .int .u8 0, .int .u8 0, .int .u8 0, .int .u8 0, .int .u8 0, .int .u8 0, .int .u8 0, .int .u8 0, .int .u8 0, .int .u8 0, .int .u8 0, .int .u8 0, .int .u8 0, .int .i64 0, .int .u64 0]) w := fun w => by kernel_rfl
  go_enter Tryz.func73, Tryz.ntmps73
  go_wp2_with (first | (refine wpList_load_row rfl 147 _ rfl 2 rfl ty0 #[.int .u32 1779033703, .int .u32 3144134277, .int .u32 1013904242, .int .u32 2773480762, .int .u32 1359893119, .int .u32 2600822924, .int .u32 528734635, .int .u32 1541459225] fr _ H0.out Tryz.underlying147 rfl (by kernel_rfl) ?_) | ((with_reducible refine gd_ 3 rfl ?_); refine bx_ 3 rfl #[.int .u32 1779033703, .int .u32 3144134277, .int .u32 1013904242, .int .u32 2773480762, .int .u32 1359893119, .int .u32 2600822924, .int .u32 528734635, .int .u32 1541459225, .int .u8 0, .int .u8 0, .int .u8 0, .int .u8 0, .int .u8 0, .int .u8 0, .int .u8 0, .int .u8 0, .int .u8 0, .int .u8 0, .int .u8 0, .int .u8 0, .int .u8 0, .int .u8 0, .int .u8 0, .int .u8 0, .int .u8 0, .int .u8 0, .int .u8 0, .int .u8 0, .int .u8 0, .int .u8 0, .int .u8 0, .int .u8 0, .int .u8 0, .int .u8 0, .int .u8 0, .int .u8 0, .int .u8 0, .int .u8 0, .int .u8 0, .int .u8 0, .int .u8 0, .int .u8 0, .int .u8 0, .int .u8 0, .int .u8 0, .int .u8 0, .int .u8 0, .int .u8 0, .int .u8 0, .int .u8 0, .int .u8 0, .int .u8 0, .int .u8 0, .int .u8 0, .int .u8 0, .int .u8 0, .int .u8 0, .int .u8 0, .int .u8 0, .int .u8 0, .int .u8 0, .int .u8 0, .int .u8 0, .int .u8 0, .int .u8 0, .int .u8 0, .int .u8 0, .int .u8 0, .int .u8 0, .int .u8 0, .int .u8 0, .int .u8 0, .int .i64 0, .int .u64 0] 151 ?_; intro b2 hg w5 hbox hb; have HX := Aside0.mk hbox; have HB := Aside0.mk hb; have Hg := Aside0.mk hg; clear hg hb hbox))
  go_ret
  exact ⟨b2, rfl, Hg.out, ⟨by decide, ⟨rfl, rfl, by rw [Hg.out]; exact HG.out.two, HX.out⟩⟩, HB.out⟩
end Go.Proofs.YtmplnpjdbfedbaaGreatDoor.X
namespace Go.Proofs.YtmplnpjdbfedbaaGreatDoor.X
open Go.RowKit Go.Proofs.YtmplnpjdbfedbaaGreatDoorW.PrintWords Go.Proofs.YtmplnpjdbfedbaaGreatDoorW.PrintLast Go.Proofs.YtmplnpjdbfedbaaGreatDoorW.PrintMore Go.Proofs.YtmplnpjdbfedbaaGreatDoor.Sha
set_option linter.unusedVariables false
set_option linter.unusedSimpArgs false
def totN (tot : Int) (n : Nat) : Int := IntKind.u64.wrap (tot + IntKind.u64.wrap (n : Int))
set_option maxHeartbeats 1000000 in
set_option maxRecDepth 100000 in
theorem write_calls {mix : List Int → List Int → List Int} (hmix : MixOk mix) (B : Nat) (s : List Int × List Int × Nat) (tot : Int) (A : Option Addr) (c : Nat) (l : List Int) (w0 w : World) (hG : Glob w) (hb : ShaSt w B s tot)
    (hr : Kd.C (Kd.int .u8) w0 A l.length l) (h0 : Below w0.heap.size w0 w) (hB : w0.heap.size ≤ B) (hlen : l.length < 9223372036854775807) :
    Calls Tryz.prog 74 #[.pointer (some ⟨B, 0, none⟩), .slice A l.length c] w fun e w' => ∃ v, e = .returned v ∧ ShaSt w' B (writeF mix s l) (totN tot l.length) ∧ Below B w w' := by
  obtain ⟨hu, hb⟩ := hb
  have c1 := hb.cT
  have f1 := hb.frozen 73
  have HB := Aside0.mk hb
  have HG := Aside0.mk hG
  have HM := Aside0.mk hmix
  have HR := Aside0.mk hr
  have H0 := Aside0.mk h0
  have HL := Aside0.mk hlen
  have HU := Aside0.mk hu
  have HW := Aside0.mk hB
  obtain ⟨n, hn⟩ : ∃ n, l.length = n := ⟨_, rfl⟩
  rw [hn]
  have HN := Aside0.mk hn
  clear hb hmix hG hr h0 hlen hu hB hn
  go_enter Tryz.func74, Tryz.ntmps74
  go_wp2
  (try simp only [Act.put, List.setIfInBounds_toArray, List.set_cons_zero, List.set_cons_succ])
  go_loopg [18] n (fun kq v18 w' => ∃ i : Nat, i ≤ n ∧ kq + i = n ∧ v18 = .int .i64 i ∧ ShaSt w' B (writeF mix s (l.take i)) (totN tot n) ∧ Below B w w')
  case atStart => exact ⟨0, by omega, by omega, rfl, ⟨HU.out, HB.out.setT _⟩, (Below.refl B w).setCell (Nat.le_refl _) _⟩
  case round =>
    obtain ⟨i, hi, hk, rfl, hs, hl⟩ := hrel
    by_cases h1 : i < n
    · have hbl : Below w0.heap.size w0 wr := H0.out.trans (hl.mono HW.out)
      have hr := Kd.C_below HR.out hbl
      obtain ⟨ad, e1, hx⟩ := Kd.at_int hr (i : Int) (by omega) (by rw [HN.out]; omega)
      cases e1
      simp only [Int.toNat_natCast] at hx
      have e2 : l.take (i + 1) = l.take i ++ [rd l (i : Int)] := by
        rw [List.take_add_one]; simp [rd, List.getD_eq_getElem?_getD, show i < l.length by rw [HN.out]; omega]
      have E2 := Aside0.mk e2
      have Hs := Aside0.mk hs
      have Hl := Aside0.mk hl
      have H1 := Aside0.mk (show (i : Int) < 9223372036854775807 by have := HL.out; rw [HN.out] at this; omega)
      clear hs hl hbl hr e2
      go_wp2_with (go_at_call 92; refine (push_calls HM.out B (writeF mix s (l.take i)) (totN tot n) _ _ (HG.out.below HB.out.two Hl.out) Hs.out).mono ?_; rintro e w2 ⟨v, rfl, hS, hbel⟩; have HS := Aside0.mk hS; have HL2 := Aside0.mk (Hl.out.trans hbel); clear hS hbel)
      go_roundg (gk - 1)
      case measure => omega
      case rel => exact ⟨i + 1, by omega, by omega, by first | rfl | (simp; done) | (have := H1.out; unfold wrap64; simp; omega), by rw [E2.out, writeF_append]; exact HS.out, HL2.out⟩
    · obtain rfl : i = n := by omega
      go_wp2
      refine bodyPost_end (results_none Tryz.results74 _ _ _) rfl ?_
      refine ⟨_, rfl, ?_, hl⟩
      rw [← HN.out, List.take_length] at hs
      rw [HN.out] at hs
      exact hs
end Go.Proofs.YtmplnpjdbfedbaaGreatDoor.X
namespace Go.Proofs.YtmplnpjdbfedbaaGreatDoor.X
open Go.RowKit Go.Proofs.YtmplnpjdbfedbaaGreatDoorW.PrintWords Go.Proofs.YtmplnpjdbfedbaaGreatDoorW.PrintLast Go.Proofs.YtmplnpjdbfedbaaGreatDoorW.PrintMore Go.Proofs.YtmplnpjdbfedbaaGreatDoor.Sha
set_option linter.unusedVariables false
set_option linter.unusedSimpArgs false
def lenB (L : Int) (j : Nat) : Int := L / 2 ^ (56 - 8 * j) % 256
def lenBs (L : Int) (j : Nat) : List Int := (List.range j).map (lenB L)
theorem lenBs_succ (L : Int) (j : Nat) : lenBs L (j + 1) = lenBs L j ++ [lenB L j] := by simp [lenBs, List.range_succ]
def digB (v : Int) : List Int := [v / 16777216 % 256, v / 65536 % 256, v / 256 % 256, v % 256]
def digI (st : List Int) : List Int := st.flatMap digB
theorem digI_succ (st : List Int) (i : Nat) (h : i < st.length) : digI (st.take (i + 1)) = digI (st.take i) ++ digB (st.getD i 0) := by
  have e : st.take (i + 1) = st.take i ++ [st.getD i 0] := by rw [List.take_add_one]; simp [List.getD_eq_getElem?_getD, h]
  rw [e, digI, List.flatMap_append]; simp [digI]
theorem digI_len (st : List Int) : (digI st).length = 4 * st.length := by
  induction st with
  | nil => rfl
  | cons a l ih => simp only [digI, List.flatMap_cons, List.length_append] at *; rw [ih]; simp [digB]; omega
def noughts (u : Nat) : Nat := (119 - u) % 64
theorem rep_succ (j : Nat) : List.replicate (j + 1) (0 : Int) = List.replicate j 0 ++ [0] := by rw [List.replicate_succ']
set_option maxRecDepth 100000 in
theorem idx8 (a0 a1 a2 a3 a4 a5 a6 a7 : Int) (i : Nat) (h : i < 8) : ∀ w : World, (Instr.index 147 (.agg #[.int .u32 a0, .int .u32 a1, .int .u32 a2, .int .u32 a3, .int .u32 a4, .int .u32 a5, .int .u32 a6, .int .u32 a7]) (.int .i64 (i : Int))).run Tryz.prog w = .ok (.int .u32 ([a0, a1, a2, a3, a4, a5, a6, a7].getD i 0)) w := by
  match i, h with
  | 0, _ => exact fun w => by kernel_rfl
  | 1, _ => exact fun w => by kernel_rfl
  | 2, _ => exact fun w => by kernel_rfl
  | 3, _ => exact fun w => by kernel_rfl
  | 4, _ => exact fun w => by kernel_rfl
  | 5, _ => exact fun w => by kernel_rfl
  | 6, _ => exact fun w => by kernel_rfl
  | 7, _ => exact fun w => by kernel_rfl
theorem eight' {l : List Int} (h : l.length = 8) : ∃ a0 a1 a2 a3 a4 a5 a6 a7, l = [a0, a1, a2, a3, a4, a5, a6, a7] := by
  match l, h with
  | [a0, a1, a2, a3, a4, a5, a6, a7], _ => exact ⟨a0, a1, a2, a3, a4, a5, a6, a7, rfl⟩
theorem R_made0 (W : World) (base : Nat) (hb : base ≤ W.heap.size) (ok : Nat → Prop) (h0 : ok W.heap.size) : Kd.R (Kd.int .u8) 5 (W.alloc (.cells (nums .u8 (List.replicate 32 0)).toArray 5)) base ok (.slice (some ⟨W.heap.size, 0, none⟩) 0 32) [] := by
  have h : Kd.R (Kd.int .u8) 5 (W.alloc (.cells (nums .u8 (List.replicate 32 0)).toArray 5)) base ok (.slice (some ⟨W.heap.size, 0, none⟩) 32 32) (List.replicate 32 0) := by
    refine ⟨fun k hk => ?_, nums .u8 (List.replicate 32 0), World.ownsRow_lit (base := base) (e := 5) (size := 1) W (nums .u8 (List.replicate 32 0)).toArray 32 hb (by decide) (by simp [nums]), ?_⟩
    · have : W.heap.size = k := by simpa [Value.ownBlock] using hk
      subst this; exact h0
    · have h := Kd.reps_made (R := (Kd.int .u8).M (W.alloc (.cells (nums .u8 (List.replicate 32 0)).toArray 5)) base (fun k => ok k ∧ some k ≠ (Value.slice (some ⟨W.heap.size, 0, none⟩) 32 32).ownBlock)) (z := .int .u8 0) (z0 := (0 : Int)) (size := 1) rfl (by decide) rfl 32
      rw [show (madeCells (Value.int .u8 0).cells (32 * 1)).toList = nums .u8 (List.replicate 32 0) by kernel_rfl] at h
      exact h
  exact Kd.R_take h (Nat.zero_le _)
theorem up8 {w w5 : World} {B : Nat} {a0 a1 a2 a3 a4 a5 a6 a7 : Int} (h : ∀ i : Nat, i < 8 → w.cell? ⟨B, i, none⟩ = some (.int .u32 ([a0, a1, a2, a3, a4, a5, a6, a7].getD i 0))) (hb : Below w.heap.size w w5) :
    w5.cell? ⟨B, 0, none⟩ = some (.int .u32 a0) ∧ w5.cell? ⟨B, 1, none⟩ = some (.int .u32 a1) ∧ w5.cell? ⟨B, 2, none⟩ = some (.int .u32 a2) ∧ w5.cell? ⟨B, 3, none⟩ = some (.int .u32 a3) ∧ w5.cell? ⟨B, 4, none⟩ = some (.int .u32 a4) ∧ w5.cell? ⟨B, 5, none⟩ = some (.int .u32 a5) ∧ w5.cell? ⟨B, 6, none⟩ = some (.int .u32 a6) ∧ w5.cell? ⟨B, 7, none⟩ = some (.int .u32 a7) :=
  ⟨upc_ hb (h 0 (by omega)), upc_ hb (h 1 (by omega)), upc_ hb (h 2 (by omega)), upc_ hb (h 3 (by omega)), upc_ hb (h 4 (by omega)), upc_ hb (h 5 (by omega)), upc_ hb (h 6 (by omega)), upc_ hb (h 7 (by omega))⟩
theorem mk0_ {ops : Array Oper} {Q : Exit → Act → World → Prop} {rest : List Oper} {o : Oper} {a : Act} {W : World} (N : Tmp) (hd : o.dst = some N) (hg : o.guard = none)
    (hr : (execOp a.eval o).run Tryz.prog W = .ok (.value (.slice (some ⟨W.heap.size, 0, none⟩) 0 32)) (W.alloc (.cells (nums .u8 (List.replicate 32 0)).toArray 5)))
    (h : ∀ v w1, Kd.R (Kd.int .u8) 5 w1 W.heap.size (fun _ => True) v [] → Below W.heap.size W w1 → wpList Tryz.prog ops Q rest (a.put o.dst v) w1) : wpList Tryz.prog ops Q (o :: rest) a W :=
  Kd.event_run hg hr (h _ _ (R_made0 W W.heap.size (Nat.le_refl _) _ trivial) ((Below.refl _ _).alloc (Nat.le_refl _) _))
set_option maxHeartbeats 1000000 in
set_option maxRecDepth 100000 in
theorem sum_calls {mix : List Int → List Int → List Int} (hmix : MixOk mix) (B : Nat) (s : List Int × List Int × Nat) (tot : Int) (w : World) (hG : Glob w) (hb : ShaSt w B s tot) :
    Calls Tryz.prog 75 #[.pointer (some ⟨B, 0, none⟩)] w fun e w' => ∃ v, e = .returned v ∧ Kd.R (Kd.int .u8) 5 w' B (fun _ => True) v (digI (writeF mix s (128 :: (List.replicate (noughts s.2.2) 0 ++ lenBs (IntKind.u64.wrap (tot * 8)) 8))).1) ∧ Below B w w' := by
  have c1 := hb.2.cT
  have f1 := hb.2.frozen 73
  have HB := Aside0.mk hb
  have HG := Aside0.mk hG
  have HM := Aside0.mk hmix
  have H2 := Aside0.mk hb.2.two
  have HU := Aside0.mk hb.1
  have hmk : ∀ w : World, (Instr.makeSlice 22 (.int .i64 0) (.int .i64 32)).run Tryz.prog w = .ok (.slice (some ⟨w.heap.size, 0, none⟩) 0 32) (w.alloc (.cells (nums .u8 (List.replicate 32 0)).toArray 5)) := fun w => by kernel_rfl
  obtain ⟨L, hL⟩ : ∃ L, IntKind.u64.wrap (tot * 8) = L := ⟨_, rfl⟩
  rw [hL]
  clear hb hmix hG
  go_enter Tryz.func75, Tryz.ntmps75
  go_wp2_with (go_at_call 92; refine (push_calls HM.out B s tot _ _ HG.out HB.out).mono ?_; rintro e w2 ⟨v, rfl, hS, hbel⟩; have HS := Aside0.mk hS; have HL2 := Aside0.mk hbel; clear hS hbel)
  (try simp only [Act.put, List.setIfInBounds_toArray, List.set_cons_zero, List.set_cons_succ])
  clear c1 f1
  go_loopg [15] (noughts s.2.2) (fun kq v15 w' => ∃ j : Nat, kq + j = noughts s.2.2 ∧ ShaSt w' B (writeF mix s (128 :: List.replicate j 0)) tot ∧ Below B w w')
  case atStart => exact ⟨0, by omega, HS.out, HL2.out⟩
  case round =>
    clear HS HL2
    obtain ⟨j, hk, hs, hl⟩ := hrel
    have hq := writeF_used mix (128 :: List.replicate j 0) s HU.out
    have hq2 := hs.1
    have c2 := hs.2.cU
    have HQ := Aside0.mk hq
    have Hs := Aside0.mk hs
    have Hl := Aside0.mk hl
    have HK := Aside0.mk hk
    obtain ⟨q, hq3⟩ : ∃ q, (writeF mix s (128 :: List.replicate j 0)).2.2 = q := ⟨_, rfl⟩
    rw [hq3] at c2 hq hq2
    have HQ3 := Aside0.mk hq3
    clear hs hl hq3
    simp only [List.length_cons, List.length_replicate] at hq
    by_cases h56 : q = 56
    · subst h56
      have hj : j = noughts s.2.2 := by have := HU.out; unfold noughts at *; omega
      have HJ := Aside0.mk hj
      clear hq hq2 hj hk
      go_wp2
      (try simp only [Act.put, List.setIfInBounds_toArray, List.set_cons_zero, List.set_cons_succ])
      go_loopg [4] 8 (fun kq v4 w' => ∃ n : Nat, kq + n = 8 ∧ v4 = .int .i64 (56 - 8 * (n : Int)) ∧ ShaSt w' B (writeF mix s (128 :: (List.replicate j 0 ++ lenBs (L) n))) tot ∧ Below B w w')
      case atStart => exact ⟨0, by omega, rfl, by rw [show lenBs (L) 0 = [] from rfl, List.append_nil]; exact Hs.out, Hl.out⟩
      case round =>
        clear Hs Hl HQ HQ3 c2 HK
        obtain ⟨n, hk, rfl, hs, hl⟩ := hrel
        have Hs := Aside0.mk hs
        have Hl := Aside0.mk hl
        clear hs hl
        by_cases h8 : n = 8
        · subst h8
          obtain ⟨st, hst⟩ : ∃ st, (writeF mix s (128 :: (List.replicate j 0 ++ lenBs (L) 8))).1 = st := ⟨_, rfl⟩
          have HJ2 := Aside0.mk hst
          obtain ⟨a0, a1, a2, a3, a4, a5, a6, a7, he⟩ := eight' Hs.out.2.st8
          rw [hst] at he
          have He := Aside0.mk he
          have HA : Aside0 (∀ i : Nat, i < 8 → wr.cell? ⟨B, i, none⟩ = some (.int .u32 ([a0, a1, a2, a3, a4, a5, a6, a7].getD i 0))) := ⟨fun i hi => by have h := Hs.out.2.cSt i hi; rw [hst, he] at h; exact h⟩
          clear hst he
          go_wp2_with (first | ((with_reducible refine gd_ 32 rfl ?_); refine mk0_ 32 rfl rfl ?hr ?_; (case hr => first | (go_simp; done) | (go_simp; rfl)); intro v5 w5 hR hb; have HR5 := Aside0.mk hR; have HB5 := Aside0.mk hb; obtain ⟨x0, x1, x2, x3, x4, x5, x6, x7⟩ := up8 HA.out hb; clear hR hb))
          (try simp only [Act.put, List.setIfInBounds_toArray, List.set_cons_zero, List.set_cons_succ])
          clear x0 x1 x2 x3 x4 x5 x6 x7 HA
          have HBw := Aside0.mk (Hs.out.2.lt)
          go_loopg [5, 37] 8 (fun kq q5 v37 w' => ∃ i : Nat, kq + i = 8 ∧ v37 = .int .i64 i ∧ Kd.R (Kd.int .u8) 5 w' B (fun _ => True) q5 (digI (st.take i)) ∧ B ≤ w'.heap.size ∧ Below B w w')
          case atStart => exact ⟨0, by omega, rfl, Kd.R_lower HR5.out (Nat.le_of_lt HBw.out), Nat.le_trans (Nat.le_of_lt HBw.out) HB5.out.size, Hl.out.trans (HB5.out.mono (Nat.le_of_lt HBw.out))⟩
          case round =>
            clear HR5 HB5 Hs Hl hk
            obtain ⟨i, hk, rfl, hR, hz, hl⟩ := hrel
            have HR := Aside0.mk hR
            have HL := Aside0.mk hl
            have HZ := Aside0.mk hz
            have Hst := Aside0.mk (show st.length = 8 by rw [He.out]; rfl)
            clear hR hl hz
            by_cases h8 : i = 8
            · subst h8
              go_wp2
              go_ret
              refine ⟨_, rfl, ?_, HL.out⟩
              have h := HR.out
              rw [List.take_of_length_le (by rw [Hst.out]; omega)] at h
              rw [← HJ.out, HJ2.out]; exact h
            · have h9 : i < 8 := by omega
              have hix := idx8 a0 a1 a2 a3 a4 a5 a6 a7 i h9
              obtain ⟨x, hx⟩ : ∃ x, [a0, a1, a2, a3, a4, a5, a6, a7].getD i 0 = x := ⟨_, rfl⟩
              rw [hx] at hix
              have E2 : Aside0 (digI (st.take (i + 1)) = digI (st.take i) ++ [x / 16777216 % 256, x / 65536 % 256, x / 256 % 256, x % 256]) := ⟨by rw [digI_succ st i (by rw [Hst.out]; exact h9), He.out, hx]; rfl⟩
              have EL : Aside0 ((digI (st.take i)).length ≤ 28) := ⟨by rw [digI_len, List.length_take, Hst.out]; omega⟩
              obtain ⟨d0, hd0⟩ : ∃ d, digI (st.take i) = d := ⟨_, rfl⟩
              rw [hd0] at HR E2 EL
              clear hx hd0
              go_wp2_with (first | ((with_reducible refine gd_ 52 rfl ?_); refine Kd.R_lit (Kd.int .u8) B 5 ?hg (N := 52) ?hd (xs := ([x / 16777216 % 256, x / 65536 % 256, x / 256 % 256, x % 256] : List Int)) (inner := [.int .u8 (x / 16777216 % 256), .int .u8 (x / 65536 % 256), .int .u8 (x / 256 % 256), .int .u8 (x % 256)]) (ok := fun _ => True) (okp := fun _ => True) ?hr ?hp (fun _ hk => hk) trivial HL.out HZ.out (by simp) ?_; (case hd => rfl); (case hg => rfl); (case hr => first | (go_simp; done) | (go_simp; rfl)); (case hp => exact (Reps.one (show Kd.M (Kd.int .u8) _ _ _ (x / 16777216 % 256) [.int .u8 (x / 16777216 % 256)] from rfl) (Reps.one (show Kd.M (Kd.int .u8) _ _ _ (x / 65536 % 256) [.int .u8 (x / 65536 % 256)] from rfl) (Reps.one (show Kd.M (Kd.int .u8) _ _ _ (x / 256 % 256) [.int .u8 (x / 256 % 256)] from rfl) (Reps.one (show Kd.M (Kd.int .u8) _ _ _ (x % 256) [.int .u8 (x % 256)] from rfl) (Reps.none _ _)))))); intro v6 w6 e6 hb hgr hnew_; obtain ⟨A6, c6, rfl, hc6, hr6⟩ := Kd.R_reads e6; have HR6 := Aside0.mk hr6; have HL6 := Aside0.mk hb; have HZ6 := Aside0.mk (Nat.le_trans HZ.out hgr.size); have HRo := Aside0.mk (Kd.R_grown HR.out hgr (fun k _ => by simp)); clear e6 hb hgr hnew_ hc6 hr6) | ((with_reducible refine gate_builtin (b := .append) (xs := #[.tmp 40, .tmp 52]) rfl ?_); at_builtin; refine Kd.R_append_rows (Kd.int .u8) (w0 := w) B rfl (.tmp 40) (.tmp 52) 22 5 (.int .u8 0) 1 rfl Tryz.underlying22 info5 rfl (by decide) (by omega) u5 d0 [x / 16777216 % 256, x / 65536 % 256, x / 256 % 256, x % 256] _ _ _ (fun _ => True) (fun _ => False) rfl rfl ?aO ?aR (fun _ _ h => h) (fun _ h => h.elim) ?aF ?aB ?aS ?aL ?_; (case aR => exact HR6.out); (case aB => exact HL6.out); (case aF => exact (fun _ _ => trivial)); (case aO => exact HRo.out); (case aS => exact HZ6.out); (case aL => have := EL.out; simp; omega); intro z3 w19 ho hb hg hat; have RO := Aside0.mk ho; have HL7 := Aside0.mk hb; have HZ7 := Aside0.mk (Nat.le_trans HZ6.out hg.size); clear ho hb hg hat))
              go_roundg (gk - 1)
              case measure => omega
              case rel => exact ⟨i + 1, by omega, by first | rfl | (simp; done) | (unfold wrap64; simp; omega), by rw [E2.out]; exact RO.out, HZ7.out, HL7.out⟩
        · have h9 : n < 8 := by omega
          have E2 : Aside0 (128 :: (List.replicate j 0 ++ lenBs (L) (n + 1)) = (128 :: (List.replicate j 0 ++ lenBs (L) n)) ++ [lenB (L) n]) := ⟨by rw [lenBs_succ]; simp⟩
          have g1 : (0 : Int) ≤ 56 - 8 * (n : Int) := by omega
          have g2 : decide ((0 : Int) ≤ 56 - 8 * (n : Int)) = true := decide_eq_true g1
          go_wp2_with (go_at_call 92; refine (push_calls HM.out B (writeF mix s (128 :: (List.replicate j 0 ++ lenBs L n))) tot _ _ (HG.out.below H2.out Hl.out) Hs.out).mono ?_; rintro e w2 ⟨v, rfl, hS, hbel⟩; have HS := Aside0.mk hS; have HL2 := Aside0.mk (Hl.out.trans hbel); clear hS hbel)
          go_roundg (gk - 1)
          case measure => omega
          case rel => exact ⟨n + 1, by omega, by first | rfl | (congr 1; omega), by rw [E2.out, writeF_append]; exact HS.out, HL2.out⟩
    · have hj : j < noughts s.2.2 := by have := HU.out; unfold noughts at *; omega
      have h57 : ((q : Int) == 56) = false := by simp; omega
      have h58 : ((q : Int) != 56) = true := by simp; omega
      have E2 : Aside0 (128 :: List.replicate (j + 1) 0 = (128 :: List.replicate j 0) ++ [(0 : Int)]) := ⟨by rw [rep_succ]; rfl⟩
      clear hq hq2
      go_wp2_with (go_at_call 92; refine (push_calls HM.out B (writeF mix s (128 :: List.replicate j 0)) tot _ _ (HG.out.below H2.out Hl.out) Hs.out).mono ?_; rintro e w2 ⟨v, rfl, hS, hbel⟩; have HS := Aside0.mk hS; have HL2 := Aside0.mk (Hl.out.trans hbel); clear hS hbel)
      go_roundg (gk - 1)
      case measure => have := HK.out; omega
      case rel => exact ⟨j + 1, by have := HK.out; omega, by rw [E2.out, writeF_append]; exact HS.out, HL2.out⟩
end Go.Proofs.YtmplnpjdbfedbaaGreatDoor.X
namespace Go.Proofs.YtmplnpjdbfedbaaGreatDoor.X
open Go.RowKit Go.Proofs.YtmplnpjdbfedbaaGreatDoorW.PrintWords Go.Proofs.YtmplnpjdbfedbaaGreatDoorW.PrintLast Go.Proofs.YtmplnpjdbfedbaaGreatDoorW.PrintMore Go.Proofs.YtmplnpjdbfedbaaGreatDoor.Sha
set_option linter.unusedVariables false
set_option linter.unusedSimpArgs false
def shaF (mix : List Int → List Int → List Int) (l : List Int) (T : Int) : List Int :=
  digI (writeF mix (writeF mix (shS0, List.replicate 64 0, 0) l) (128 :: (List.replicate (noughts (writeF mix (shS0, List.replicate 64 0, 0) l).2.2) 0 ++ lenBs (IntKind.u64.wrap (T * 8)) 8))).1
structure Part where
  A : Option Addr
  c : Nat
  l : List Int
def flatP (ps : List Part) : List Int := ps.flatMap (·.l)
def totP (ps : List Part) : Int := ps.foldl (fun t p => totN t p.l.length) 0
theorem flatP_succ (ps : List Part) (i : Nat) (p : Part) (h : ps[i]? = some p) : flatP (ps.take (i + 1)) = flatP (ps.take i) ++ p.l := by
  rw [List.take_add_one, h]; simp [flatP]
theorem totP_succ (ps : List Part) (i : Nat) (p : Part) (h : ps[i]? = some p) : totP (ps.take (i + 1)) = totN (totP (ps.take i)) p.l.length := by
  rw [List.take_add_one, h]; simp [totP]
set_option maxHeartbeats 1000000 in
set_option maxRecDepth 100000 in
theorem shaOf_calls {mix : List Int → List Int → List Int} (hmix : MixOk mix) (g n c : Nat) (ps : List Part) (w : World) (hG : Glob w) (hn : ps.length = n) (hn9 : n < 1000)
    (hp : ∀ (i : Nat) p, ps[i]? = some p → w.cell? ⟨g, i, none⟩ = some (.slice p.A p.l.length p.c) ∧ Kd.C (Kd.int .u8) w p.A p.l.length p.l ∧ p.l.length < 9223372036854775807) :
    Calls Tryz.prog 40 #[.slice (some ⟨g, 0, none⟩) n c] w fun e w' => ∃ v, e = .returned v ∧ Kd.R (Kd.int .u8) 5 w' w.heap.size (fun _ => True) v (shaF mix (flatP ps) (totP ps)) ∧ Below w.heap.size w w' := by
  have HG := Aside0.mk hG
  have HM := Aside0.mk hmix
  have HP := Aside0.mk hp
  have HN := Aside0.mk hn
  clear hG hmix hp hn
  go_enter Tryz.func40, Tryz.ntmps40
  go_wp2_with (go_at_call 73; refine (new_calls _ HG.out).mono ?_; rintro e w2 ⟨B, rfl, hB, hS, hbel⟩; have HB := Aside0.mk hB; have HS := Aside0.mk hS; have HL := Aside0.mk hbel; clear hB hS hbel)
  (try simp only [Act.put, List.setIfInBounds_toArray, List.set_cons_zero, List.set_cons_succ])
  go_loopg [9] n (fun kq v9 w' => ∃ i : Nat, kq + i = n ∧ v9 = .int .i64 i ∧ ShaSt w' B (writeF mix (shS0, List.replicate 64 0, 0) (flatP (ps.take i))) (totP (ps.take i)) ∧ Below w.heap.size w w')
  case atStart => exact ⟨0, by omega, rfl, HS.out, HL.out⟩
  case round =>
    clear HS HL
    obtain ⟨i, hk, rfl, hs, hl⟩ := hrel
    have Hs := Aside0.mk hs
    have Hl := Aside0.mk hl
    clear hs hl
    by_cases h1 : i < n
    · obtain ⟨p, hpi⟩ : ∃ p, ps[i]? = some p := ⟨_, List.getElem?_eq_getElem (by rw [HN.out]; exact h1)⟩
      obtain ⟨hc, hr, hlen⟩ := HP.out i p hpi
      have x0 := upc_ Hl.out hc
      have E1 := Aside0.mk (flatP_succ ps i p hpi)
      have E2 := Aside0.mk (totP_succ ps i p hpi)
      have HR := Aside0.mk hr
      have HLen := Aside0.mk hlen
      clear hpi hc hr hlen
      go_wp2_with (go_at_call 74; refine (write_calls HM.out B _ _ p.A p.c p.l w _ (HG.out.belowW Hl.out) Hs.out HR.out Hl.out (Nat.le_of_eq HB.out.symm) HLen.out).mono ?_; rintro e w3 ⟨v, rfl, hS, hbel⟩; have HS := Aside0.mk hS; have HL2 := Aside0.mk (Hl.out.trans (hbel.mono (Nat.le_of_eq HB.out.symm))); clear hS hbel)
      go_roundg (gk - 1)
      case measure => omega
      case rel => exact ⟨i + 1, by omega, by first | rfl | (simp; done) | (unfold wrap64; simp; omega), by rw [E1.out, E2.out, writeF_append]; exact HS.out, HL2.out⟩
    · obtain rfl : i = n := by omega
      have E3 : Aside0 (ps.take i = ps) := ⟨List.take_of_length_le (by rw [HN.out]; omega)⟩
      go_wp2_with (go_at_call 75; refine (sum_calls HM.out B _ _ _ (HG.out.belowW Hl.out) Hs.out).mono ?_; rintro e w3 ⟨v, rfl, hR, hbel⟩; have HR := Aside0.mk hR; have HL2 := Aside0.mk (Hl.out.trans (hbel.mono (Nat.le_of_eq HB.out.symm))); clear hR hbel)
      go_ret
      refine ⟨_, rfl, ?_, HL2.out⟩
      have h := HR.out
      rw [E3.out] at h
      exact Kd.R_lower h (Nat.le_of_eq HB.out.symm)
end Go.Proofs.YtmplnpjdbfedbaaGreatDoor.X
namespace Go.Proofs.YtmplnpjdbfedbaaGreatDoor.X
open Go.RowKit Go.Proofs.YtmplnpjdbfedbaaGreatDoorW.PrintWords Go.Proofs.YtmplnpjdbfedbaaGreatDoorW.PrintLast Go.Proofs.YtmplnpjdbfedbaaGreatDoorW.PrintMore
set_option linter.unusedVariables false
set_option linter.unusedSimpArgs false
def rotI (s d a : Int) : Int := bits .or .u32 (IntKind.u32.wrap (a * 2 ^ min s.toNat 32)) (a / 2 ^ min d.toNat 32)
set_option maxHeartbeats 1000000 in
theorem rot_calls (s d a k : Int) (w : World) (hs : bits .and .u64 (IntKind.u64.wrap k) 31 = s ∧ 0 ≤ s ∧ IntKind.u64.wrap (32 - s) = d ∧ 0 ≤ d) :
    Calls Tryz.prog 124 #[.int .u32 a, .int .i64 k] w fun e w' => e = .returned (.int .u32 (rotI s d a)) ∧ w = w' := by
  obtain ⟨h1, h2, h3, h4⟩ := hs
  have h2' := decide_eq_true h2
  have h4' := decide_eq_true h4
  go_enter Tryz.func124, Tryz.ntmps124
  go_wp2
  go_ret
  exact ⟨rfl, rfl⟩
end Go.Proofs.YtmplnpjdbfedbaaGreatDoor.X
namespace Go.Proofs.YtmplnpjdbfedbaaGreatDoor.X
open Go.RowKit Go.Proofs.YtmplnpjdbfedbaaGreatDoorW.PrintWords Go.Proofs.YtmplnpjdbfedbaaGreatDoorW.PrintLast Go.Proofs.YtmplnpjdbfedbaaGreatDoorW.PrintMore Go.Proofs.YtmplnpjdbfedbaaGreatDoor.Sha
set_option linter.unusedVariables false
set_option linter.unusedSimpArgs false
structure WBlk (w : World) (V : Nat) (ws : List Int) : Prop where
  l64 : ws.length = 64
  cells : w.heap[V]? = some (.cells (nums .u32 ws).toArray 177 (0, 0))
variable {w w' : World} {V : Nat} {ws : List Int}
theorem WBlk.at_ (h : WBlk w V ws) (i : Nat) (hi : i < 64) : w.cell? ⟨V, i, none⟩ = some (.int .u32 (ws.getD i 0)) := by
  rw [blk_cell h.cells]; have := h.l64
  simp [nums, hi, this, List.getD_eq_getElem?_getD]
theorem WBlk.frozen (h : WBlk w V ws) (i : Nat) : w.frozen? ⟨V, i, none⟩ = false := blk_frozen h.cells i
theorem WBlk.set (h : WBlk w V ws) (i : Nat) (x : Int) : WBlk (w.setCell ⟨V, i, none⟩ (.int .u32 x)) V (ws.set i x) := by
  refine ⟨by simp [h.l64], ?_⟩
  rw [blk_set h.cells]
  simp [nums, List.map_set]
theorem WBlk.drew (h : WBlk w V ws) : WBlk w.drew V ws := ⟨h.l64, h.cells⟩
theorem WBlk.far {p : Addr} (h : WBlk w V ws) (hp : V ≠ p.block) (v : Value) : WBlk (w.setCell p v) V ws := ⟨h.l64, blk_far h.cells hp v⟩
theorem shFar {w : World} {B : Nat} {st blk : List Int} {u : Nat} {tot : Int} {p : Addr} (h : ShaBlk w B st blk u tot) (hp : B ≠ p.block) (v : Value) : ShaBlk (w.setCell p v) B st blk u tot := ⟨h.st8, h.blk64, h.two, blk_far h.cells hp v⟩
def wd0 (b0 b1 b2 b3 : Int) : Int := bits .or .u32 (bits .or .u32 (bits .or .u32 (b0 % 4294967296 * 16777216 % 4294967296) (b1 % 4294967296 * 65536 % 4294967296)) (b2 % 4294967296 * 256 % 4294967296)) (b3 % 4294967296)
def wd1 (p q x y : Int) : Int := (x + bits .xor .u32 (bits .xor .u32 (rotI 25 7 p) (rotI 14 18 p)) (p / 8) + y + bits .xor .u32 (bits .xor .u32 (rotI 15 17 q) (rotI 13 19 q)) (q / 1024)) % 4294967296
def schI (blk : List Int) : Nat → List Int
  | 0 => []
  | n + 1 => schI blk n ++ [if n < 16 then wd0 (blk.getD (4 * n) 0) (blk.getD (4 * n + 1) 0) (blk.getD (4 * n + 2) 0) (blk.getD (4 * n + 3) 0) else wd1 ((schI blk n).getD (n - 15) 0) ((schI blk n).getD (n - 2) 0) ((schI blk n).getD (n - 16) 0) ((schI blk n).getD (n - 7) 0)]
theorem sch_next {blk ws : List Int} {n : Nat} (h : ws.take n = schI blk n) (hn : n < ws.length) {x : Int} (hx : x = if n < 16 then wd0 (blk.getD (4 * n) 0) (blk.getD (4 * n + 1) 0) (blk.getD (4 * n + 2) 0) (blk.getD (4 * n + 3) 0) else wd1 ((schI blk n).getD (n - 15) 0) ((schI blk n).getD (n - 2) 0) ((schI blk n).getD (n - 16) 0) ((schI blk n).getD (n - 7) 0)) : (ws.set n x).take (n + 1) = schI blk (n + 1) := by
  rw [take_set_succ _ _ _ hn, h, schI, hx]
theorem sch_at {blk ws : List Int} {n : Nat} (h : ws.take n = schI blk n) (j : Nat) (hj : j < n) : ws.getD j 0 = (schI blk n).getD j 0 := by
  rw [← h]; simp [List.getD_eq_getElem?_getD, List.getElem?_take, hj]
theorem belSet {C : Nat} {w w1 : World} (h : Below C w w1) {V : Nat} (i : Nat) (v : Value) (hC : C ≤ V) : Below C w (w1.setCell ⟨V, i, none⟩ v) := h.setCell hC v
theorem eight {l : List Int} (h : l.length = 8) : ∃ a0 a1 a2 a3 a4 a5 a6 a7, l = [a0, a1, a2, a3, a4, a5, a6, a7] := by
  match l, h with
  | [a0, a1, a2, a3, a4, a5, a6, a7], _ => exact ⟨a0, a1, a2, a3, a4, a5, a6, a7, rfl⟩
structure St8 where
  a : Int
  b : Int
  c : Int
  d : Int
  e : Int
  f : Int
  g : Int
  h : Int
def stepI (k w : Int) (q : St8) : St8 :=
  ⟨(q.h + bits .xor .u32 (bits .xor .u32 (rotI 26 6 q.e) (rotI 21 11 q.e)) (rotI 7 25 q.e) + bits .xor .u32 (bits .and .u32 q.e q.f) (bits .and .u32 (bits .xor .u32 IntKind.u32.max q.e) q.g) + k + w + (bits .xor .u32 (bits .xor .u32 (rotI 30 2 q.a) (rotI 19 13 q.a)) (rotI 10 22 q.a) + bits .xor .u32 (bits .xor .u32 (bits .and .u32 q.a q.b) (bits .and .u32 q.a q.c)) (bits .and .u32 q.b q.c))) % 4294967296,
   q.a, q.b, q.c,
   (q.d + (q.h + bits .xor .u32 (bits .xor .u32 (rotI 26 6 q.e) (rotI 21 11 q.e)) (rotI 7 25 q.e) + bits .xor .u32 (bits .and .u32 q.e q.f) (bits .and .u32 (bits .xor .u32 IntKind.u32.max q.e) q.g) + k + w)) % 4294967296,
   q.e, q.f, q.g⟩
def rndI (ws : List Int) : Nat → St8 → St8
  | 0, q => q
  | n + 1, q => stepI (shK0.getD n 0) (ws.getD n 0) (rndI ws n q)
def Fr1 (B V : Nat) (u : Nat → Value) (i : Nat) (ws : List Int) : Act := ⟨#[.pointer (some ⟨B, 0, none⟩), u 1, .pointer (some ⟨V, 0, none⟩), u 3, u 4, u 5, u 6, u 7, u 8, u 9, u 10, u 11, u 12, u 13, u 14, u 15, u 16, u 17, u 18, u 19, u 20, u 21, u 22, u 23, .int .i64 (i : Int), u 25, u 26, u 27, u 28, u 29, u 30, u 31, u 32, u 33, u 34, u 35, u 36, u 37, u 38, u 39, u 40, u 41, u 42, u 43, u 44, u 45, u 46, u 47, u 48, u 49, u 50, u 51, u 52, u 53, u 54, u 55, u 56, u 57, u 58, u 59, u 60, u 61, u 62, u 63, u 64, u 65, u 66, u 67, u 68, u 69, u 70, u 71, u 72, u 73, u 74, u 75, u 76, u 77, u 78, u 79, u 80, u 81, u 82, u 83, u 84, u 85, u 86, u 87, u 88, u 89, u 90, u 91, u 92, u 93, u 94, u 95, u 96, u 97, u 98, u 99, u 100, u 101, u 102, u 103, u 104, u 105, u 106, u 107, u 108, u 109, u 110, u 111, u 112, u 113, u 114, u 115, u 116, u 117, u 118, u 119, u 120, u 121, u 122, u 123, u 124, u 125, u 126, u 127, u 128, u 129, u 130, u 131, u 132, u 133, u 134, u 135, u 136, u 137, u 138, u 139, u 140, u 141, u 142, u 143, u 144, u 145, u 146, u 147, u 148, u 149, u 150, u 151, u 152, u 153, u 154, u 155, u 156, u 157, u 158, u 159, u 160, u 161, u 162, u 163, u 164, u 165, u 166, u 167, u 168, u 169, u 170, u 171, u 172, u 173, u 174, u 175, u 176, u 177, u 178, u 179, u 180, u 181, u 182, u 183, u 184, u 185, u 186, u 187, u 188, u 189, u 190, u 191, u 192, u 193, u 194, u 195, u 196, u 197, u 198, u 199, u 200, u 201, u 202, u 203, u 204, u 205, u 206, u 207, u 208, u 209, u 210, u 211, u 212, u 213, u 214, u 215, u 216, u 217, u 218, u 219, u 220, u 221, u 222, u 223, u 224, u 225, u 226, u 227, u 228, u 229, u 230, u 231, u 232, u 233, u 234, u 235, u 236, u 237, u 238, u 239, u 240, u 241, u 242, u 243], []⟩
def Inv1 (B V : Nat) (Rel : Nat → Nat → List Int → World → Prop) (kq : Nat) (a : Act) (w' : World) : Prop := ∃ u, ∃ (i : Nat) (ws : List Int), Rel kq i ws w' ∧ a = Fr1 B V u i ws
theorem Inv1.mk {B V : Nat} {Rel : Nat → Nat → List Int → World → Prop} {kq : Nat} {L : List Value} {w' : World} (i : Nat) (ws : List Int) (hR : Rel kq i ws w') (hL : (⟨L.toArray, []⟩ : Act) = Fr1 B V (fun n => L.getD n undef) i ws) : Inv1 B V Rel kq ⟨L.toArray, []⟩ w' := ⟨_, i, ws, hR, hL⟩
def Fr2 (B V : Nat) (u : Nat → Value) (m : Nat) (ws : List Int) : Act := ⟨#[.pointer (some ⟨B, 0, none⟩), u 1, .pointer (some ⟨V, 0, none⟩), u 3, .int .i64 ((m : Int) + 16), u 5, u 6, u 7, u 8, u 9, u 10, u 11, u 12, u 13, u 14, u 15, u 16, u 17, u 18, u 19, u 20, u 21, u 22, u 23, u 24, u 25, u 26, u 27, u 28, u 29, u 30, u 31, u 32, u 33, u 34, u 35, u 36, u 37, u 38, u 39, u 40, u 41, u 42, u 43, u 44, u 45, u 46, u 47, u 48, u 49, u 50, u 51, u 52, u 53, u 54, u 55, u 56, u 57, u 58, u 59, u 60, u 61, u 62, u 63, u 64, u 65, u 66, u 67, u 68, u 69, u 70, u 71, u 72, u 73, u 74, u 75, u 76, u 77, u 78, u 79, u 80, u 81, u 82, u 83, u 84, u 85, u 86, u 87, u 88, u 89, u 90, u 91, u 92, u 93, u 94, u 95, u 96, u 97, u 98, u 99, u 100, u 101, u 102, u 103, u 104, u 105, u 106, u 107, u 108, u 109, u 110, u 111, u 112, u 113, u 114, u 115, u 116, u 117, u 118, u 119, u 120, u 121, u 122, u 123, u 124, u 125, u 126, u 127, u 128, u 129, u 130, u 131, u 132, u 133, u 134, u 135, u 136, u 137, u 138, u 139, u 140, u 141, u 142, u 143, u 144, u 145, u 146, u 147, u 148, u 149, u 150, u 151, u 152, u 153, u 154, u 155, u 156, u 157, u 158, u 159, u 160, u 161, u 162, u 163, u 164, u 165, u 166, u 167, u 168, u 169, u 170, u 171, u 172, u 173, u 174, u 175, u 176, u 177, u 178, u 179, u 180, u 181, u 182, u 183, u 184, u 185, u 186, u 187, u 188, u 189, u 190, u 191, u 192, u 193, u 194, u 195, u 196, u 197, u 198, u 199, u 200, u 201, u 202, u 203, u 204, u 205, u 206, u 207, u 208, u 209, u 210, u 211, u 212, u 213, u 214, u 215, u 216, u 217, u 218, u 219, u 220, u 221, u 222, u 223, u 224, u 225, u 226, u 227, u 228, u 229, u 230, u 231, u 232, u 233, u 234, u 235, u 236, u 237, u 238, u 239, u 240, u 241, u 242, u 243], []⟩
def Inv2 (B V : Nat) (Rel : Nat → Nat → List Int → World → Prop) (kq : Nat) (a : Act) (w' : World) : Prop := ∃ u, ∃ (m : Nat) (ws : List Int), Rel kq m ws w' ∧ a = Fr2 B V u m ws
theorem Inv2.mk {B V : Nat} {Rel : Nat → Nat → List Int → World → Prop} {kq : Nat} {L : List Value} {w' : World} (m : Nat) (ws : List Int) (hR : Rel kq m ws w') (hL : (⟨L.toArray, []⟩ : Act) = Fr2 B V (fun n => L.getD n undef) m ws) : Inv2 B V Rel kq ⟨L.toArray, []⟩ w' := ⟨_, m, ws, hR, hL⟩
def Fr3 (B V : Nat) (u : Nat → Value) (q : St8) (i : Nat) : Act := ⟨#[.pointer (some ⟨B, 0, none⟩), u 1, .pointer (some ⟨V, 0, none⟩), u 3, u 4, u 5, u 6, u 7, u 8, .int .u32 q.a, .int .u32 q.b, .int .u32 q.c, .int .u32 q.d, .int .u32 q.e, .int .u32 q.f, .int .u32 q.g, .int .u32 q.h, u 17, u 18, u 19, u 20, u 21, u 22, u 23, u 24, u 25, u 26, u 27, u 28, u 29, u 30, u 31, u 32, u 33, u 34, u 35, u 36, u 37, u 38, u 39, u 40, u 41, u 42, u 43, u 44, u 45, u 46, u 47, u 48, u 49, u 50, u 51, u 52, u 53, u 54, u 55, u 56, u 57, u 58, u 59, u 60, u 61, u 62, u 63, u 64, u 65, u 66, u 67, u 68, u 69, u 70, u 71, u 72, u 73, u 74, u 75, u 76, u 77, u 78, u 79, u 80, u 81, u 82, u 83, u 84, u 85, u 86, u 87, u 88, u 89, u 90, u 91, u 92, u 93, u 94, u 95, u 96, u 97, u 98, u 99, u 100, u 101, u 102, u 103, u 104, u 105, u 106, u 107, u 108, u 109, u 110, u 111, u 112, u 113, u 114, u 115, u 116, u 117, u 118, u 119, u 120, u 121, u 122, u 123, u 124, u 125, u 126, u 127, u 128, u 129, u 130, u 131, u 132, u 133, u 134, u 135, u 136, u 137, u 138, u 139, u 140, u 141, u 142, u 143, u 144, u 145, u 146, u 147, u 148, u 149, u 150, u 151, u 152, u 153, .int .i64 (i : Int), u 155, u 156, u 157, u 158, u 159, u 160, u 161, u 162, u 163, u 164, u 165, u 166, u 167, u 168, u 169, u 170, u 171, u 172, u 173, u 174, u 175, u 176, u 177, u 178, u 179, u 180, u 181, u 182, u 183, u 184, u 185, u 186, u 187, u 188, u 189, u 190, u 191, u 192, u 193, u 194, u 195, u 196, u 197, u 198, u 199, u 200, u 201, u 202, u 203, u 204, u 205, u 206, u 207, u 208, u 209, u 210, u 211, u 212, u 213, u 214, u 215, u 216, u 217, u 218, u 219, u 220, u 221, u 222, u 223, u 224, u 225, u 226, u 227, u 228, u 229, u 230, u 231, u 232, u 233, u 234, u 235, u 236, u 237, u 238, u 239, u 240, u 241, u 242, u 243], []⟩
def Inv3 (B V : Nat) (Rel : Nat → St8 → Nat → World → Prop) (kq : Nat) (a : Act) (w' : World) : Prop := ∃ u, ∃ (q : St8) (i : Nat), Rel kq q i w' ∧ a = Fr3 B V u q i
theorem Inv3.mk {B V : Nat} {Rel : Nat → St8 → Nat → World → Prop} {kq : Nat} {L : List Value} {w' : World} (q : St8) (i : Nat) (hR : Rel kq q i w') (hL : (⟨L.toArray, []⟩ : Act) = Fr3 B V (fun n => L.getD n undef) q i) : Inv3 B V Rel kq ⟨L.toArray, []⟩ w' := ⟨_, q, i, hR, hL⟩
def Fr4 (B V : Nat) (u : Nat → Value) (q : St8) (i : Nat) : Act := ⟨#[.pointer (some ⟨B, 0, none⟩), u 1, .pointer (some ⟨V, 0, none⟩), u 3, u 4, u 5, u 6, u 7, u 8, u 9, u 10, u 11, u 12, u 13, u 14, u 15, u 16, u 17, u 18, u 19, u 20, u 21, u 22, u 23, u 24, u 25, u 26, u 27, u 28, u 29, u 30, u 31, u 32, u 33, u 34, u 35, u 36, u 37, u 38, u 39, u 40, u 41, u 42, u 43, u 44, u 45, u 46, u 47, u 48, u 49, u 50, u 51, u 52, u 53, u 54, u 55, u 56, u 57, u 58, u 59, u 60, u 61, u 62, u 63, u 64, u 65, u 66, u 67, u 68, u 69, u 70, u 71, u 72, u 73, u 74, u 75, u 76, u 77, u 78, u 79, u 80, u 81, u 82, u 83, u 84, u 85, u 86, u 87, u 88, u 89, u 90, u 91, u 92, u 93, u 94, u 95, u 96, u 97, u 98, u 99, u 100, u 101, u 102, u 103, u 104, u 105, u 106, u 107, u 108, u 109, u 110, u 111, u 112, u 113, u 114, u 115, u 116, u 117, u 118, u 119, u 120, u 121, u 122, u 123, u 124, u 125, u 126, u 127, u 128, u 129, u 130, u 131, u 132, u 133, u 134, u 135, u 136, u 137, u 138, u 139, u 140, u 141, u 142, u 143, u 144, u 145, u 146, u 147, u 148, u 149, u 150, u 151, u 152, u 153, u 154, u 155, u 156, u 157, u 158, u 159, u 160, u 161, u 162, u 163, u 164, u 165, u 166, u 167, u 168, u 169, u 170, u 171, u 172, u 173, u 174, u 175, u 176, u 177, u 178, u 179, u 180, u 181, u 182, u 183, u 184, u 185, u 186, u 187, u 188, u 189, u 190, u 191, u 192, u 193, u 194, u 195, u 196, u 197, u 198, u 199, u 200, u 201, u 202, u 203, u 204, u 205, u 206, u 207, u 208, u 209, u 210, u 211, u 212, u 213, u 214, u 215, u 216, u 217, u 218, u 219, u 220, u 221, u 222, u 223, u 224, u 225, u 226, .agg #[.int .u32 q.a, .int .u32 q.b, .int .u32 q.c, .int .u32 q.d, .int .u32 q.e, .int .u32 q.f, .int .u32 q.g, .int .u32 q.h], .int .i64 (i : Int), u 229, u 230, u 231, u 232, u 233, u 234, u 235, u 236, u 237, u 238, u 239, u 240, u 241, u 242, u 243], []⟩
def Inv4 (B V : Nat) (Rel : Nat → St8 → Nat → World → Prop) (kq : Nat) (a : Act) (w' : World) : Prop := ∃ u, ∃ (q : St8) (i : Nat), Rel kq q i w' ∧ a = Fr4 B V u q i
theorem Inv4.mk {B V : Nat} {Rel : Nat → St8 → Nat → World → Prop} {kq : Nat} {L : List Value} {w' : World} (q : St8) (i : Nat) (hR : Rel kq q i w') (hL : (⟨L.toArray, []⟩ : Act) = Fr4 B V (fun n => L.getD n undef) q i) : Inv4 B V Rel kq ⟨L.toArray, []⟩ w' := ⟨_, q, i, hR, hL⟩
theorem wbN {w : World} {V : Nat} {ws : List Int} {n : Nat} (h : WBlk w V ws) : WBlk (w.drewN n) V ws := ⟨h.l64, h.cells⟩
theorem shN {w : World} {B : Nat} {st blk : List Int} {u : Nat} {tot : Int} {n : Nat} (h : ShaBlk w B st blk u tot) : ShaBlk (w.drewN n) B st blk u tot := ⟨h.st8, h.blk64, h.two, h.cells⟩
def outI (st : List Int) (q : St8) : List Int := List.zipWith (fun a b => (a + b) % 4294967296) st [q.a, q.b, q.c, q.d, q.e, q.f, q.g, q.h]
def mixI (st blk : List Int) : List Int := outI st (rndI (schI blk 64) 64 ⟨st.getD 0 0, st.getD 1 0, st.getD 2 0, st.getD 3 0, st.getD 4 0, st.getD 5 0, st.getD 6 0, st.getD 7 0⟩)
theorem part_at (o s : List Int) (i : Nat) (h : i < s.length) (ho : o.length = s.length) : (o.take i ++ s.drop i).getD i 0 = s.getD i 0 := by
  rw [List.getD_eq_getElem?_getD, List.getD_eq_getElem?_getD, List.getElem?_append_right (by simp; omega)]
  simp [show min i o.length = i by omega]
theorem part_set (o s : List Int) (i : Nat) (h : i < s.length) (ho : o.length = s.length) : (o.take i ++ s.drop i).set i (o.getD i 0) = o.take (i + 1) ++ s.drop (i + 1) := by
  apply List.ext_getElem?
  intro j
  by_cases hj : j < i
  · rw [List.getElem?_set_ne (by omega), List.getElem?_append_left (by simp; omega), List.getElem?_append_left (by simp; omega)]
    simp [List.getElem?_take, hj, show j < i + 1 by omega]
  · by_cases e : j = i
    · subst e
      rw [List.getElem?_set_self (by simp; omega), List.getElem?_append_left (by simp; omega)]
      simp [List.getElem?_take, List.getD_eq_getElem?_getD, show j < o.length by omega]
    · rw [List.getElem?_set_ne (by omega), List.getElem?_append_right (by simp; omega), List.getElem?_append_right (by simp; omega)]
      simp only [List.getElem?_drop, List.length_take]
      congr 1; omega
set_option maxHeartbeats 8000000 in
set_option maxRecDepth 100000 in
theorem mix_walk : MixOk mixI := by
  intro B st blk u0 tot w hG hb
  have HB := Aside0.mk hb
  have HG := Aside0.mk hG
  have HBV := Aside0.mk hb.lt
  clear hb hG
  have hz : ∀ w : World, (zeroValue 177).run Tryz.prog w = .ok (.agg (nums .u32 (List.replicate 64 0)).toArray) w := fun w => by kernel_rfl
  have hz8 : ∀ w : World, (zeroValue 147).run Tryz.prog w = .ok (.agg #[.int .u32 0, .int .u32 0, .int .u32 0, .int .u32 0, .int .u32 0, .int .u32 0, .int .u32 0, .int .u32 0]) w := fun w => by kernel_rfl
  go_enter Tryz.func107, Tryz.ntmps107
  go_wp2
  (try simp only [Act.put, List.setIfInBounds_toArray, List.set_cons_zero, List.set_cons_succ])
  refine wp_loop_ghost_k (Inv1 B w.heap.size (fun kq i ws w' => i ≤ 16 ∧ kq + i = 16 ∧ WBlk w' w.heap.size ws ∧ ws.take i = schI blk i ∧ ShaBlk w' B st blk u0 tot ∧ Below B w w')) 16 ?_ ?_
  · exact Inv1.mk 0 (List.replicate 64 0) ⟨by omega, by omega, ⟨by simp, heap_alloc_new _ _⟩, rfl, HB.out.below ((Below.refl w.heap.size w).alloc (Nat.le_refl _) _) HBV.out, (Below.refl B w).alloc (Nat.le_of_lt HBV.out) _⟩ (by kernel_rfl)
  · intro gk _ wr hinv
    obtain ⟨u, i, ws, ⟨hi, hk, hw, hq, hs, hl⟩, ha⟩ := hinv
    subst ha
    unfold Fr1
    intro _ _ _ _
    by_cases h16 : i < 16
    · have c0 := hs.cBlk (4 * i) (by omega)
      have c1 := hs.cBlk (4 * i + 1) (by omega)
      have c2 := hs.cBlk (4 * i + 2) (by omega)
      have c3 := hs.cBlk (4 * i + 3) (by omega)
      have x0 := hw.at_ i (by omega)
      have f0 := hw.frozen i
      obtain ⟨b0, hb0⟩ : ∃ b, blk.getD (4 * i) 0 = b := ⟨_, rfl⟩
      obtain ⟨b1, hb1⟩ : ∃ b, blk.getD (4 * i + 1) 0 = b := ⟨_, rfl⟩
      obtain ⟨b2, hb2⟩ : ∃ b, blk.getD (4 * i + 2) 0 = b := ⟨_, rfl⟩
      obtain ⟨b3, hb3⟩ : ∃ b, blk.getD (4 * i + 3) 0 = b := ⟨_, rfl⟩
      rw [hb0] at c0; rw [hb1] at c1; rw [hb2] at c2; rw [hb3] at c3
      have Hw := Aside0.mk hw
      have Hs := Aside0.mk hs
      have Hl := Aside0.mk hl
      have Hq := Aside0.mk hq
      have Hx : Aside0 (wd0 b0 b1 b2 b3 = if i < 16 then wd0 (blk.getD (4 * i) 0) (blk.getD (4 * i + 1) 0) (blk.getD (4 * i + 2) 0) (blk.getD (4 * i + 3) 0) else wd1 ((schI blk i).getD (i - 15) 0) ((schI blk i).getD (i - 2) 0) ((schI blk i).getD (i - 16) 0) ((schI blk i).getD (i - 7) 0)) := ⟨by rw [if_pos h16, hb0, hb1, hb2, hb3]⟩
      clear hw hs hl hq hb0 hb1 hb2 hb3
      go_wp2
      go_region
      go_wp2
      refine Handed.intro (gk - 1) ?m1 ?_
      case m1 => omega
      go_step
      exact Inv1.mk (i + 1) (ws.set i (wd0 b0 b1 b2 b3)) ⟨by omega, by omega, (Hw.out.set i _).drew, sch_next Hq.out (by rw [Hw.out.l64]; omega) Hx.out, shDrew (shFar Hs.out (by have := HBV.out; show B ≠ w.heap.size; omega) _), (belSet Hl.out i _ (Nat.le_of_lt HBV.out)).drew⟩ (by kernel_rfl)
    · obtain rfl : i = 16 := by omega
      have Hw := Aside0.mk hw
      have Hs := Aside0.mk hs
      have Hl := Aside0.mk hl
      have Hq := Aside0.mk hq
      clear hw hs hl hq
      go_wp2
      (try simp only [Act.put, List.setIfInBounds_toArray, List.set_cons_zero, List.set_cons_succ])
      refine wp_loop_ghost_k (Inv2 B w.heap.size (fun kq m ws w' => m ≤ 48 ∧ kq + m = 48 ∧ WBlk w' w.heap.size ws ∧ ws.take (m + 16) = schI blk (m + 16) ∧ ShaBlk w' B st blk u0 tot ∧ Below B w w')) 48 ?_ ?_
      · exact Inv2.mk 0 ws ⟨by omega, by omega, Hw.out, Hq.out, Hs.out, Hl.out⟩ (by kernel_rfl)
      · clear Hw Hs Hl Hq hk hi h16
        intro gk _ wr hinv
        obtain ⟨u, m, ws, ⟨hm, hk, hw, hq, hs, hl⟩, ha⟩ := hinv
        subst ha
        unfold Fr2
        intro _ _ _ _
        by_cases h48 : m < 48
        · have c0 := hw.at_ m (by omega)
          have c1 := hw.at_ (m + 1) (by omega)
          have c9 := hw.at_ (m + 9) (by omega)
          have c14 := hw.at_ (m + 14) (by omega)
          have x0 := hw.at_ (m + 16) (by omega)
          have f0 := hw.frozen (m + 16)
          obtain ⟨b0, hb0⟩ : ∃ b, ws.getD m 0 = b := ⟨_, rfl⟩
          obtain ⟨b1, hb1⟩ : ∃ b, ws.getD (m + 1) 0 = b := ⟨_, rfl⟩
          obtain ⟨b9, hb9⟩ : ∃ b, ws.getD (m + 9) 0 = b := ⟨_, rfl⟩
          obtain ⟨b14, hb14⟩ : ∃ b, ws.getD (m + 14) 0 = b := ⟨_, rfl⟩
          rw [hb0] at c0; rw [hb1] at c1; rw [hb9] at c9; rw [hb14] at c14
          have Hx : Aside0 (wd1 b1 b14 b0 b9 = if m + 16 < 16 then wd0 (blk.getD (4 * (m + 16)) 0) (blk.getD (4 * (m + 16) + 1) 0) (blk.getD (4 * (m + 16) + 2) 0) (blk.getD (4 * (m + 16) + 3) 0) else wd1 ((schI blk (m + 16)).getD (m + 16 - 15) 0) ((schI blk (m + 16)).getD (m + 16 - 2) 0) ((schI blk (m + 16)).getD (m + 16 - 16) 0) ((schI blk (m + 16)).getD (m + 16 - 7) 0)) := ⟨by
            rw [if_neg (by omega), ← sch_at hq _ (by omega), ← sch_at hq _ (by omega), ← sch_at hq _ (by omega), ← sch_at hq _ (by omega)]
            rw [← hb0, ← hb1, ← hb9, ← hb14]; rfl⟩
          have Hw := Aside0.mk hw
          have Hs := Aside0.mk hs
          have Hl := Aside0.mk hl
          have Hq := Aside0.mk hq
          clear hw hs hl hq hb0 hb1 hb9 hb14
          go_wp2
          go_quiet (fail)
          go_wp2_with (go_at_call 124; first | (with_reducible refine (rot_calls 25 7 _ (-7) _ (by decide)).mono ?_; rintro e w2 ⟨rfl, rfl⟩) | (with_reducible refine (rot_calls 14 18 _ (-18) _ (by decide)).mono ?_; rintro e w2 ⟨rfl, rfl⟩) | (with_reducible refine (rot_calls 15 17 _ (-17) _ (by decide)).mono ?_; rintro e w2 ⟨rfl, rfl⟩) | (with_reducible refine (rot_calls 13 19 _ (-19) _ (by decide)).mono ?_; rintro e w2 ⟨rfl, rfl⟩))
          go_region
          go_wp2
          refine Handed.intro (gk - 1) ?m2 ?_
          case m2 => omega
          go_step
          rw [show (m : Int) + 16 + 1 = ((m + 1 : Nat) : Int) + 16 by omega]
          exact Inv2.mk (m + 1) (ws.set (m + 16) (wd1 b1 b14 b0 b9)) ⟨by omega, by omega, (wbN Hw.out).set (m + 16) _, sch_next Hq.out (by rw [Hw.out.l64]; omega) Hx.out, shFar (p := ⟨w.heap.size, m + 16, none⟩) (shN Hs.out) (by have := HBV.out; show B ≠ w.heap.size; omega) _, belSet (pw_below_drewN Hl.out _) (m + 16) _ (Nat.le_of_lt HBV.out)⟩ (by kernel_rfl)
        · obtain rfl : m = 48 := by omega
          have Hw := Aside0.mk hw
          have Hs := Aside0.mk hs
          have Hl := Aside0.mk hl
          have Hq : Aside0 (ws = schI blk 64) := ⟨by rw [← hq, List.take_of_length_le (by rw [hw.l64]; omega)]⟩
          obtain ⟨a0, a1, a2, a3, a4, a5, a6, a7, he⟩ := eight hs.st8
          have s0 := hs.cSt 0 (by omega)
          have s1 := hs.cSt 1 (by omega)
          have s2 := hs.cSt 2 (by omega)
          have s3 := hs.cSt 3 (by omega)
          have s4 := hs.cSt 4 (by omega)
          have s5 := hs.cSt 5 (by omega)
          have s6 := hs.cSt 6 (by omega)
          have s7 := hs.cSt 7 (by omega)
          rw [he] at s0 s1 s2 s3 s4 s5 s6 s7
          simp only [List.getD_cons_zero, List.getD_cons_succ] at s0 s1 s2 s3 s4 s5 s6 s7
          have He := Aside0.mk he
          clear hw hs hl hq he
          go_wp2
          go_quiet (fail)
          go_wp2
          go_quiet (fail)
          go_wp2
          (try simp only [Act.put, List.setIfInBounds_toArray, List.set_cons_zero, List.set_cons_succ])
          clear s0 s1 s2 s3 s4 s5 s6 s7
          refine wp_loop_ghost_k (Inv3 B w.heap.size (fun kq q i w' => i ≤ 64 ∧ kq + i = 64 ∧ q = rndI ws i ⟨a0, a1, a2, a3, a4, a5, a6, a7⟩ ∧ WBlk w' w.heap.size ws ∧ ShaBlk w' B st blk u0 tot ∧ Below B w w')) 64 ?_ ?_
          · exact Inv3.mk ⟨a0, a1, a2, a3, a4, a5, a6, a7⟩ 0 ⟨by omega, by omega, rfl, wbN (wbN Hw.out), shN (shN Hs.out), pw_below_drewN (pw_below_drewN Hl.out _) _⟩ (by kernel_rfl)
          · clear Hw Hs Hl hk h48 hm
            intro gk _ wr hinv
            obtain ⟨u, q, i, ⟨hi, hk, hq8, hw, hs, hl⟩, ha⟩ := hinv
            subst ha
            unfold Fr3
            intro _ _ _ _
            have Hq8 := Aside0.mk hq8
            clear hq8
            by_cases h64 : i < 64
            · obtain ⟨tk, fk, hgk⟩ := (HG.out.below HB.out.two hl).k
              have ck := (cell_of_row wr 4 i _ _ _ hgk).trans (show (nums .u32 shK0).toArray[i]? = some (.int .u32 (shK0.getD i 0)) by simp [nums, List.getD_eq_getElem?_getD, show shK0.length = 64 from rfl, h64])
              have cw := hw.at_ i (by omega)
              have Hw := Aside0.mk hw
              have Hs := Aside0.mk hs
              have Hl := Aside0.mk hl
              obtain ⟨kk, hkk⟩ : ∃ b, shK0.getD i 0 = b := ⟨_, rfl⟩
              obtain ⟨ww, hww⟩ : ∃ b, ws.getD i 0 = b := ⟨_, rfl⟩
              rw [hkk] at ck; rw [hww] at cw
              have Hn : Aside0 (stepI kk ww q = rndI ws (i + 1) ⟨a0, a1, a2, a3, a4, a5, a6, a7⟩) := ⟨by rw [rndI, hkk, hww, Hq8.out]⟩
              obtain ⟨a, b, c, d, e, f, g, hh⟩ := q
              clear hw hs hl hgk hkk hww
              go_wp2_with (go_at_call 124; first | (with_reducible refine (rot_calls 26 6 _ (-6) _ (by decide)).mono ?_; rintro e w2 ⟨rfl, rfl⟩) | (with_reducible refine (rot_calls 21 11 _ (-11) _ (by decide)).mono ?_; rintro e w2 ⟨rfl, rfl⟩) | (with_reducible refine (rot_calls 7 25 _ (-25) _ (by decide)).mono ?_; rintro e w2 ⟨rfl, rfl⟩) | (with_reducible refine (rot_calls 30 2 _ (-2) _ (by decide)).mono ?_; rintro e w2 ⟨rfl, rfl⟩) | (with_reducible refine (rot_calls 19 13 _ (-13) _ (by decide)).mono ?_; rintro e w2 ⟨rfl, rfl⟩) | (with_reducible refine (rot_calls 10 22 _ (-22) _ (by decide)).mono ?_; rintro e w2 ⟨rfl, rfl⟩))
              go_quiet (fail)
              go_wp2_with (go_at_call 124; first | (with_reducible refine (rot_calls 26 6 _ (-6) _ (by decide)).mono ?_; rintro e w2 ⟨rfl, rfl⟩) | (with_reducible refine (rot_calls 21 11 _ (-11) _ (by decide)).mono ?_; rintro e w2 ⟨rfl, rfl⟩) | (with_reducible refine (rot_calls 7 25 _ (-25) _ (by decide)).mono ?_; rintro e w2 ⟨rfl, rfl⟩) | (with_reducible refine (rot_calls 30 2 _ (-2) _ (by decide)).mono ?_; rintro e w2 ⟨rfl, rfl⟩) | (with_reducible refine (rot_calls 19 13 _ (-13) _ (by decide)).mono ?_; rintro e w2 ⟨rfl, rfl⟩) | (with_reducible refine (rot_calls 10 22 _ (-22) _ (by decide)).mono ?_; rintro e w2 ⟨rfl, rfl⟩))
              refine Handed.intro (gk - 1) ?m3 ?_
              case m3 => omega
              go_step
              exact Inv3.mk (stepI kk ww ⟨a, b, c, d, e, f, g, hh⟩) (i + 1) ⟨by omega, by omega, Hn.out, wbN Hw.out, shN Hs.out, pw_below_drewN Hl.out _⟩ (by kernel_rfl)
            · obtain rfl : i = 64 := by omega
              have Hs := Aside0.mk hs
              have Hl := Aside0.mk hl
              have Hm : Aside0 (outI st q = mixI st blk) := ⟨by rw [Hq8.out, Hq.out, mixI, He.out]; rfl⟩
              have Ho : Aside0 ((outI st q).length = st.length) := ⟨by rw [He.out]; rfl⟩
              have H8 : Aside0 (st.length = 8) := ⟨by rw [He.out]; rfl⟩
              clear Hq8 hw hs hl
              obtain ⟨a, b, c, d, e, f, g, hh⟩ := q
              go_wp2
              (try simp only [Act.put, List.setIfInBounds_toArray, List.set_cons_zero, List.set_cons_succ])
              refine wp_loop_ghost_k (Inv4 B w.heap.size (fun kq q i w' => q = ⟨a, b, c, d, e, f, g, hh⟩ ∧ i ≤ 8 ∧ kq + i = 8 ∧ ShaBlk w' B ((outI st ⟨a, b, c, d, e, f, g, hh⟩).take i ++ st.drop i) blk u0 tot ∧ Below B w w')) 8 ?_ ?_
              · exact Inv4.mk ⟨a, b, c, d, e, f, g, hh⟩ 0 ⟨rfl, by omega, by omega, Hs.out, Hl.out⟩ (by kernel_rfl)
              · clear Hs Hl hk hi h64
                intro gk _ wr hinv
                obtain ⟨u, q, i, ⟨rfl, hi, hk, hs, hl⟩, ha⟩ := hinv
                subst ha
                unfold Fr4
                intro _ _ _ _
                dsimp only
                by_cases h8 : i < 8
                · have c0 := hs.cSt i h8
                  rw [part_at _ _ _ (by rw [H8.out]; exact h8) Ho.out] at c0
                  have f0 := hs.frozen i
                  have hix := idx8 a b c d e f g hh i h8
                  obtain ⟨x, hx⟩ : ∃ x, [a, b, c, d, e, f, g, hh].getD i 0 = x := ⟨_, rfl⟩
                  obtain ⟨y, hy⟩ : ∃ y, st.getD i 0 = y := ⟨_, rfl⟩
                  rw [hx] at hix; rw [hy] at c0
                  have Hx : Aside0 ((outI st ⟨a, b, c, d, e, f, g, hh⟩).getD i 0 = (y + x) % 4294967296) := ⟨by rw [outI, List.getD_eq_getElem?_getD, List.getElem?_zipWith, ← hx, ← hy, List.getD_eq_getElem?_getD, List.getD_eq_getElem?_getD, List.getElem?_eq_getElem (by rw [H8.out]; exact h8), List.getElem?_eq_getElem (by exact h8)]; rfl⟩
                  have Hs := Aside0.mk hs
                  have Hl := Aside0.mk hl
                  clear hs hl hx hy
                  go_wp2
                  go_region
                  go_wp2
                  refine Handed.intro (gk - 1) ?m4 ?_
                  case m4 => omega
                  go_step
                  exact Inv4.mk ⟨a, b, c, d, e, f, g, hh⟩ (i + 1) ⟨rfl, by omega, by omega, by rw [← part_set _ _ _ (by rw [H8.out]; exact h8) Ho.out, Hx.out]; exact shDrew (Hs.out.setSt i h8 _), (belSet Hl.out i _ (Nat.le_refl _)).drew⟩ (by kernel_rfl)
                · obtain rfl : i = 8 := by omega
                  go_wp2
                  refine bodyPost_end (results_none Tryz.results107 _ _ _) rfl ?_
                  refine ⟨_, rfl, ?_, hl⟩
                  rw [List.take_of_length_le (by rw [Ho.out, H8.out]; omega), List.drop_eq_nil_of_le (by rw [H8.out]; omega), List.append_nil, Hm.out] at hs
                  exact hs
end Go.Proofs.YtmplnpjdbfedbaaGreatDoor.X
namespace Go.Proofs.YtmplnpjdbfedbaaGreatDoor.X
open Go.RowKit Go.Proofs.YtmplnpjdbfedbaaGreatDoorW.PrintWords Go.Proofs.YtmplnpjdbfedbaaGreatDoorW.PrintLast Go.Proofs.YtmplnpjdbfedbaaGreatDoorW.PrintMore
attribute [local go_sem] max2_int min2_int max_two min_two max_three min_three max_four min_four
set_option linter.unusedVariables false
set_option linter.unusedSimpArgs false
structure BBlk (w : World) (b : Nat) (l : List Int) : Prop where
  l64 : l.length = 64
  cells : w.heap[b]? = some (.cells (nums .u8 l).toArray 5 (0, 0))
theorem BBlk.at_ {w : World} {b : Nat} {l : List Int} (h : BBlk w b l) (i : Nat) (hi : i < 64) : w.cell? ⟨b, i, none⟩ = some (.int .u8 (l.getD i 0)) := by
  rw [blk_cell h.cells]; have := h.l64
  simp [nums, hi, this, List.getD_eq_getElem?_getD]
theorem BBlk.set {w : World} {b : Nat} {l : List Int} (h : BBlk w b l) (i : Nat) (x : Int) : BBlk (w.setCell ⟨b, i, none⟩ (.int .u8 x)) b (l.set i x) := by
  refine ⟨by simp [h.l64], ?_⟩
  rw [blk_set h.cells]
  simp [nums, List.map_set]
theorem BBlk.far {w : World} {b : Nat} {l : List Int} {p : Addr} (h : BBlk w b l) (hp : b ≠ p.block) (v : Value) : BBlk (w.setCell p v) b l := ⟨h.l64, blk_far h.cells hp v⟩
theorem BBlk.below {w w' : World} {b C : Nat} {l : List Int} (h : BBlk w b l) (hb : Below C w w') (hC : b < C) : BBlk w' b l := ⟨h.l64, (hb.block _ hC).trans h.cells⟩
theorem BBlk.lt {w : World} {b : Nat} {l : List Int} (h : BBlk w b l) : b < w.heap.size := blk_lt h.cells
theorem BBlk.belowW {w w' : World} {b : Nat} {l : List Int} (h : BBlk w b l) (hb : Below w.heap.size w w') : BBlk w' b l := h.below hb h.lt
theorem BBlk.C {w : World} {b : Nat} {l : List Int} (h : BBlk w b l) : Kd.C (Kd.int .u8) w (some ⟨b, 0, none⟩) l.length l := by
  refine Kd.C_of_reads (d := (0 : Int)) (h1 := fun _ => rfl) ⟨rfl, by rw [h.l64]; decide, fun _ => ⟨_, rfl, fun j hj => ?_⟩⟩
  rw [add_plain, h.at_ j (by rw [h.l64] at hj; exact hj)]
section
variable {ops : Array Oper} {Q : Exit → Act → World → Prop} {rest : List Oper} {o : Oper} {a : Act} {W : World}
theorem mk64_ (N : Tmp) (hd : o.dst = some N) (hg : o.guard = none)
    (hr : (execOp a.eval o).run Tryz.prog W = .ok (.value (.slice (some ⟨W.heap.size, 0, none⟩) 64 64)) (W.alloc (.cells (nums .u8 (List.replicate 64 0)).toArray 5)))
    (h : ∀ b w1, b = W.heap.size → BBlk w1 b (List.replicate 64 0) → Below W.heap.size W w1 → wpList Tryz.prog ops Q rest (a.put o.dst (.slice (some ⟨b, 0, none⟩) 64 64)) w1) : wpList Tryz.prog ops Q (o :: rest) a W :=
  Kd.event_run hg hr (h _ _ rfl ⟨by simp, heap_alloc_new _ _⟩ ((Below.refl _ _).alloc (Nat.le_refl _) _))
theorem bs_ (N : Tmp) (cs : Array Value) (n : Nat) (hd : o.dst = some N) (hg : o.guard = none)
    (hr : (execOp a.eval o).run Tryz.prog W = .ok (.value (.slice (some ⟨W.heap.size, 0, none⟩) n n)) (W.alloc (.cells cs 22)))
    (h : ∀ b w1, w1.heap[b]? = some (.cells cs 22 (0, 0)) → Below W.heap.size W w1 → wpList Tryz.prog ops Q rest (a.put o.dst (.slice (some ⟨b, 0, none⟩) n n)) w1) : wpList Tryz.prog ops Q (o :: rest) a W :=
  Kd.event_run hg hr (h _ _ (heap_alloc_new _ _) ((Below.refl _ _).alloc (Nat.le_refl _) _))
end
theorem C_cells {w : World} {A : Option Addr} {xs : List Int} (h : Kd.C (Kd.int .u8) w A xs.length xs) (hn : 0 < xs.length) : ∃ ad, A = some ad ∧ ∀ j v, (nums .u8 xs)[j]? = some v → w.cell? (ad.add j) = some v := by
  obtain ⟨ad, e, _⟩ := Kd.at_int h (0 : Int) (by omega) (by omega)
  refine ⟨ad, e, fun j v hj => ?_⟩
  have hjl : j < xs.length := by
    have := (List.getElem?_eq_some_iff.1 hj).1
    simpa [nums] using this
  obtain ⟨ad', e', hx⟩ := Kd.at_int h (j : Int) (by omega) (by omega)
  rw [e] at e'; obtain rfl := Option.some.inj e'
  rw [Int.toNat_natCast] at hx
  rw [hx, ← hj]
  simp [nums, rd, List.getD_eq_getElem?_getD, hjl]
theorem splice_pad (xs : List Int) (h : xs.length ≤ 64) : splice (nums .u8 (List.replicate 64 0)) 0 (nums .u8 xs) = nums .u8 (xs ++ List.replicate (64 - xs.length) 0) := by
  unfold splice nums
  rw [List.take_zero, List.nil_append, List.map_append, List.map_replicate, List.length_map, Nat.zero_add, List.map_replicate, List.drop_replicate]
def padX (key : List Int) : List Int := if key.length ≤ 64 then key else shaF mixI (flatP [⟨none, 0, key⟩]) (totP [⟨none, 0, key⟩])
def padK (key : List Int) : List Int := padX key ++ List.replicate (64 - (padX key).length) 0
def macIn (key : List Int) : List Int := (padK key).map fun b => bits .xor .u8 b 54
def macOut (key : List Int) : List Int := (padK key).map fun b => bits .xor .u8 b 92
def macF (key list : List Int) : List Int :=
  shaF mixI (macOut key ++ shaF mixI (macIn key ++ list) (totN (totN 0 64) list.length)) (totN (totN 0 64) (shaF mixI (macIn key ++ list) (totN (totN 0 64) list.length)).length)
theorem digI_st (st : List Int) (h : st.length = 8) : (digI st).length = 32 := by rw [digI_len, h]
theorem shaF_len32 (l : List Int) (T : Int) : (shaF mixI l T).length = 32 := by
  unfold shaF
  refine digI_st _ ?_
  have key : ∀ (m : List Int) (s : List Int × List Int × Nat), s.1.length = 8 → (Sha.writeF mixI s m).1.length = 8 := by
    intro m
    induction m with
    | nil => intro s h; exact h
    | cons b m ih =>
      intro s h
      refine ih _ ?_
      unfold Sha.pushF; split
      · simp [mixI, outI, h]
      · exact h
  exact key _ _ (key _ (shS0, List.replicate 64 0, 0) rfl)
theorem padX_len (key : List Int) : (padX key).length ≤ 64 := by
  unfold padX; split
  · assumption
  · rw [shaF_len32]; omega
theorem padK_len (key : List Int) : (padK key).length = 64 := by
  have := padX_len key
  simp [padK]; omega
def impl_ShaMac.f (l0 l1 : List Int) : Option (List Int) := if l0.length ≤ 500 ∧ l1.length ≤ 500 then some (macF l0 l1) else some []
theorem macIn_len (key : List Int) : (macIn key).length = 64 := by simp [macIn, padK_len]
theorem macOut_len (key : List Int) : (macOut key).length = 64 := by simp [macOut, padK_len]
theorem flatP2 (a b : Part) : flatP [a, b] = a.l ++ b.l := by simp [flatP]
theorem totP2 (a b : Part) : totP [a, b] = totN (totN 0 a.l.length) b.l.length := rfl
theorem one_part {p q : Part} {i : Nat} (h : [p][i]? = some q) : i = 0 ∧ p = q := by
  rcases i with _ | i
  · exact ⟨rfl, Option.some.inj h⟩
  · simp at h
theorem two_parts {p q r : Part} {i : Nat} (h : [p, q][i]? = some r) : (i = 0 ∧ p = r) ∨ (i = 1 ∧ q = r) := by
  rcases i with _ | _ | i
  · exact .inl ⟨rfl, Option.some.inj h⟩
  · exact .inr ⟨rfl, Option.some.inj h⟩
  · simp at h
theorem pad_blk {w : World} {bp : Nat} {X : List Int} (h : Hid (w.heap[bp]? = some (.cells (splice (nums .u8 (List.replicate 64 0)) 0 (nums .u8 X)).toArray 5 (0, 0)))) (hX : X.length ≤ 64) : BBlk w bp (X ++ List.replicate (64 - X.length) 0) := by
  have h' : w.heap[bp]? = some (.cells (splice (nums .u8 (List.replicate 64 0)) 0 (nums .u8 X)).toArray 5 (0, 0)) := h
  rw [splice_pad X hX] at h'
  exact ⟨by simp; omega, h'⟩
theorem map_at (f : Int → Int) (l : List Int) (i : Nat) (h : i < l.length) : (l.map f).getD i 0 = f (l.getD i 0) := by
  simp [List.getD_eq_getElem?_getD, h]
set_option maxHeartbeats 4000000 in
set_option maxRecDepth 100000 in
theorem impl_ShaMac.calls (A0 : Option Addr) (c0 : Nat) (l0 : List Int) (A1 : Option Addr) (c1 : Nat) (l1 : List Int) (r : List Int) (w : World) (hr0 : Kd.C (Kd.int .u8) w A0 l0.length l0) (hc0 : l0.length ≤ c0) (hr1 : Kd.C (Kd.int .u8) w A1 l1.length l1) (hc1 : l1.length ≤ c1) (h : impl_ShaMac.f l0 l1 = some r) (hG : Glob w) :
  Calls Tryz.prog 16 #[.slice A0 l0.length c0, .slice A1 l1.length c1] w fun e w' => ∃ v0_ : Value, e = .returned (v0_) ∧ Kd.R (Kd.int .u8) 5 w' w.heap.size (fun _ => True) v0_ r ∧ Below w.heap.size w w' := by
 have HR0 := Aside0.mk hr0; have HR1 := Aside0.mk hr1; have HG := Aside0.mk hG; clear hr0 hr1 hG hc0 hc1
 unfold impl_ShaMac.f at h
 obtain ⟨n, hn⟩ : ∃ n, l0.length = n := ⟨_, rfl⟩; obtain ⟨n1, hn1⟩ : ∃ n1, l1.length = n1 := ⟨_, rfl⟩; have HN := Aside0.mk hn; have HN1 := Aside0.mk hn1
 rw [hn, hn1] at h ⊢
 clear hn hn1
 split at h
 · rename_i hl
   obtain ⟨hl0, hl1⟩ := hl; obtain rfl := Option.some.inj h; clear h; have g0 : ¬ ((500 : Int) < (n : Int)) := (by omega); have g1 : ¬ ((500 : Int) < (n1 : Int)) := (by omega); have HL0 := Aside0.mk hl0; have HL1 := Aside0.mk hl1; obtain ⟨pad, hpad⟩ : ∃ pad, padK l0 = pad := ⟨_, rfl⟩; have HPD := Aside0.mk hpad; clear hpad hl0 hl1; have hmk : ∀ w : World, (Instr.makeSlice 22 (.int .i64 64) (.int .i64 64)).run Tryz.prog w = .ok (.slice (some ⟨w.heap.size, 0, none⟩) 64 64) (w.alloc (.cells (nums .u8 (List.replicate 64 0)).toArray 5)) := fun w => by kernel_rfl
   rcases Nat.lt_or_ge 64 n with h64 | h64
   · have g2 : (64 : Int) < (n : Int) := by omega
     obtain ⟨X, hX⟩ : ∃ X, shaF mixI (flatP [⟨A0, c0, l0⟩]) (totP [⟨A0, c0, l0⟩]) = X := ⟨_, rfl⟩; have HX := Aside0.mk hX; have HX32 := Aside0.mk (show X.length = 32 by rw [← hX]; exact shaF_len32 _ _); have HXp := Aside0.mk (show X ++ List.replicate (64 - X.length) 0 = pad by rw [← HPD.out, padK, padX, if_neg (by rw [HN.out]; omega), ← hX]; rfl); clear hX h64
     go_enter Tryz.func16, Tryz.ntmps16
     go_wp2_with (first | ((with_reducible refine gd_ 18 rfl ?_); refine mk64_ 18 rfl rfl ?hr ?_; (case hr => first | (go_simp; done) | (go_simp; rfl)); intro bp w5 hbp hP hb; have HP0 := Aside0.mk hP; have HB5 := Aside0.mk hb; have Hbp := Aside0.mk (Nat.le_of_eq hbp.symm); clear hP hb hbp) | ((with_reducible refine gd_ 24 rfl ?_); refine bs_ 24 #[.slice A0 n c0] 1 rfl rfl ?hr ?_; (case hr => first | (go_simp; done) | (go_simp; rfl)); intro g6 w6 hg6 hb6; have HC6 := Aside0.mk hg6; have HB6 := Aside0.mk (below_step HB5.out hb6); have HP6 := Aside0.mk (HP0.out.belowW hb6); clear hg6 hb6) | ((with_reducible refine gc_ 40 rfl ?_); refine gl_ (some 25) rfl Tryz.func40 #[.slice (some ⟨g6, 0, none⟩) 1 1] ?_; refine (shaOf_calls mix_walk g6 1 1 [⟨A0, c0, l0⟩] _ (HG.out.belowW HB6.out) rfl (by omega) ?hp).mono ?_; (case hp => intro i p hi; obtain ⟨rfl, rfl⟩ := one_part hi; exact ⟨by rw [HN.out]; exact (cell_of_row _ g6 0 _ _ _ HC6.out).trans rfl, Kd.C_below HR0.out HB6.out, by rw [HN.out]; omega⟩); rintro e w7 ⟨v, rfl, hR, hb7⟩; refine ⟨_, rfl, ?_⟩; rw [HX.out] at hR; obtain ⟨A7, c7, rfl, hc7, hr7⟩ := Kd.R_reads hR; have HR7 := Aside0.mk hr7; have HB7 := Aside0.mk (below_step HB6.out hb7); have HP7 := Aside0.mk (HP6.out.belowW hb7); clear hR hc7 hr7 hb7) | ((with_reducible refine gate_builtin (b := .copy) (xs := #[.tmp 22, .tmp 25]) rfl ?_); refine wpList_copy_splice rfl (.tmp 22) (.tmp 25) 22 22 rfl 5 Tryz.underlying22 (by kernel_rfl) _ _ _ _ _ _ rfl rfl bp 0 (nums .u8 (List.replicate 64 0)) 5 ?hg (nums .u8 X) ?hn ?hpos ?hfit ?h1 w.heap.size w ?hb ?hB ?_; (case hg => exact HP7.out.cells); (case hn => rw [nums_length]; have := HX32.out; have := HN.out; show _ = min _ _; omega); (case hpos => intro hps; rw [nums_length] at hps; exact ⟨rfl, C_cells HR7.out hps⟩); (case hfit => rw [nums_length, nums_length]; have := HX32.out; simp; omega); (case h1 => intro v hv; obtain ⟨x, _, rfl⟩ := List.mem_map.1 hv; rfl); (case hb => exact HB7.out); (case hB => exact Hbp.out); intro w8 hg8 hb8; have HPf := Aside0.mk (pad_blk hg8 (by have := HX32.out; omega)); have HB8 := Aside0.mk hb8; clear hg8 hb8) | ((with_reducible refine gd_ 30 rfl ?_); refine mk64_ 30 rfl rfl ?hr ?_; (case hr => first | (go_simp; done) | (go_simp; rfl)); intro bi w9 hbi hI hb; have HI9 := Aside0.mk hI; have HB9 := Aside0.mk (below_step HB8.out hb); have HP9 := Aside0.mk (HPf.out.belowW hb); have Hpi := Aside0.mk (show bp < bi by rw [hbi]; exact HPf.out.lt); have Hbi := Aside0.mk (show w.heap.size ≤ bi by rw [hbi]; exact HB8.out.size); clear hI hb hbi) | ((with_reducible refine gd_ 31 rfl ?_); refine mk64_ 31 rfl rfl ?hr ?_; (case hr => first | (go_simp; done) | (go_simp; rfl)); intro bo w10 hbo hO hb; have HO10 := Aside0.mk hO; have HB10 := Aside0.mk (below_step HB9.out hb); have HP10 := Aside0.mk (HP9.out.belowW hb); have HI10 := Aside0.mk (HI9.out.belowW hb); have Hio := Aside0.mk (show bi < bo by rw [hbo]; exact HI9.out.lt); clear hO hb hbo))
     rw [HXp.out] at HPf HP9 HP10
     (try simp only [Act.put, List.setIfInBounds_toArray, List.set_cons_zero, List.set_cons_succ])
     (try simp only [Act.put, List.setIfInBounds_toArray, List.set_cons_zero, List.set_cons_succ])
     go_loopg [34] 64 (fun kq v34 w' => ∃ i : Nat, kq + i = 64 ∧ v34 = .int .i64 i ∧ BBlk w' bp pad ∧ BBlk w' bi ((macIn l0).take i ++ (List.replicate 64 (0 : Int)).drop i) ∧ BBlk w' bo ((macOut l0).take i ++ (List.replicate 64 (0 : Int)).drop i) ∧ Below w.heap.size w w')
     case atStart => exact ⟨0, by omega, rfl, HP10.out, HI10.out, HO10.out, HB10.out⟩
     case round =>
       obtain ⟨i, hk, rfl, hP, hI, hO, hL⟩ := hrel; have HP := Aside0.mk hP; have HI := Aside0.mk hI; have HO := Aside0.mk hO; have HL := Aside0.mk hL; have Hpo := Aside0.mk (Nat.lt_trans Hpi.out Hio.out); clear hP hI hO hL
       by_cases h6 : i < 64
       · have x0 := HP.out.at_ i h6
         have x1 := HI.out.at_ i h6; have x2 := HO.out.at_ i h6; have y1 := blk_frozen HI.out.cells i; have y2 := blk_frozen HO.out.cells i; have ne1 : bi ≠ bo := (by have := Hio.out; omega); have ne2 : bo ≠ bi := (by have := Hio.out; omega); obtain ⟨b, hb⟩ : ∃ b, pad.getD i 0 = b := ⟨_, rfl⟩; obtain ⟨b1, hb1⟩ : ∃ b, ((macIn l0).take i ++ (List.replicate 64 (0 : Int)).drop i).getD i 0 = b := ⟨_, rfl⟩; obtain ⟨b2, hb2⟩ : ∃ b, ((macOut l0).take i ++ (List.replicate 64 (0 : Int)).drop i).getD i 0 = b := ⟨_, rfl⟩
         rw [hb] at x0; rw [hb1] at x1; rw [hb2] at x2
         have E1 : Aside0 ((macIn l0).getD i 0 = bits .xor .u8 b 54) := ⟨by rw [macIn, map_at _ _ _ (by rw [padK_len]; exact h6), HPD.out, hb]⟩; have E2 : Aside0 ((macOut l0).getD i 0 = bits .xor .u8 b 92) := ⟨by rw [macOut, map_at _ _ _ (by rw [padK_len]; exact h6), HPD.out, hb]⟩; clear hb hb1 hb2
         go_wp2
         go_roundg (gk - 1)
         case measure => omega
         case rel => exact ⟨i + 1, by omega, by first | rfl | (simp; done) | (unfold wrap64; simp; omega), (HP.out.far (by have := Hpi.out; show bp ≠ bi; omega) _).far (by have := Hpo.out; show bp ≠ bo; omega) _, by rw [← part_set _ _ _ (by simp; omega) (by rw [macIn_len]; simp), E1.out]; exact (HI.out.set i _).far (by show bi ≠ bo; exact ne1) _, by rw [← part_set _ _ _ (by simp; omega) (by rw [macOut_len]; simp), E2.out]; exact (HO.out.far (by show bo ≠ bi; exact ne2) _).set i _, (HL.out.setCell Hbi.out _).setCell (p := ⟨bo, i, none⟩) (Nat.le_trans Hbi.out (Nat.le_of_lt Hio.out)) _⟩
       · obtain rfl : i = 64 := by omega
         rw [List.take_of_length_le (by rw [macIn_len]; omega), List.drop_eq_nil_of_le (by simp), List.append_nil] at HI
         rw [List.take_of_length_le (by rw [macOut_len]; omega), List.drop_eq_nil_of_le (by simp), List.append_nil] at HO
         obtain ⟨Y, hY⟩ : ∃ Y, shaF mixI (flatP [⟨some ⟨bi, 0, none⟩, 64, macIn l0⟩, ⟨A1, c1, l1⟩]) (totP [⟨some ⟨bi, 0, none⟩, 64, macIn l0⟩, ⟨A1, c1, l1⟩]) = Y := ⟨_, rfl⟩; have HY := Aside0.mk hY; have HY32 := Aside0.mk (show Y.length = 32 by rw [← hY]; exact shaF_len32 _ _); have HYm : Aside0 (shaF mixI (flatP [⟨some ⟨bo, 0, none⟩, 64, macOut l0⟩, ⟨none, 0, Y⟩]) (totP [⟨some ⟨bo, 0, none⟩, 64, macOut l0⟩, ⟨none, 0, Y⟩]) = macF l0 l1) := ⟨by rw [flatP2, totP2, ← hY, flatP2, totP2]; dsimp only; rw [macIn_len, macOut_len]; rfl⟩; clear hY
         go_wp2_with (first | ((with_reducible refine gd_ 53 rfl ?_); refine bs_ 53 #[.slice (some ⟨bi, 0, none⟩) 64 64, .slice A1 n1 c1] 2 rfl rfl ?hr ?_; (case hr => first | (go_simp; done) | (go_simp; rfl)); intro ga wa hg6 hb6; have HCa := Aside0.mk hg6; have HBa := Aside0.mk (below_step HL.out hb6); have HIa := Aside0.mk (HI.out.belowW hb6); have HOa := Aside0.mk (HO.out.belowW hb6); clear hg6 hb6) | ((with_reducible refine gc_ 40 rfl ?_); refine gl_ (some 54) rfl Tryz.func40 #[.slice (some ⟨ga, 0, none⟩) 2 2] ?_; refine (shaOf_calls mix_walk ga 2 2 [⟨some ⟨bi, 0, none⟩, 64, macIn l0⟩, ⟨A1, c1, l1⟩] _ (HG.out.belowW HBa.out) rfl (by omega) ?hp).mono ?_; (case hp => intro i p hi; rcases two_parts hi with ⟨rfl, rfl⟩ | ⟨rfl, rfl⟩ <;> first | exact ⟨by rw [macIn_len]; exact (cell_of_row _ ga 0 _ _ _ HCa.out).trans rfl, HIa.out.C, by rw [macIn_len]; omega⟩ | exact ⟨by rw [HN1.out]; exact (cell_of_row _ ga 1 _ _ _ HCa.out).trans rfl, Kd.C_below HR1.out HBa.out, by rw [HN1.out]; have := HL1.out; omega⟩); rintro e wb ⟨v, rfl, hR, hb7⟩; refine ⟨_, rfl, ?_⟩; rw [HY.out] at hR; obtain ⟨A5, c5, rfl, hc7, hr7⟩ := Kd.R_reads hR; have HRb := Aside0.mk hr7; have HBb := Aside0.mk (below_step HBa.out hb7); have HOb := Aside0.mk (HOa.out.belowW hb7); clear hR hc7 hr7 hb7) | ((with_reducible refine gd_ 55 rfl ?_); refine bs_ 55 #[.slice (some ⟨bo, 0, none⟩) 64 64, .slice A5 Y.length c5] 2 rfl rfl ?hr ?_; (case hr => first | (go_simp; done) | (go_simp; rfl)); intro gb wc hg6 hb6; have HCc := Aside0.mk hg6; have HBc := Aside0.mk (below_step HBb.out hb6); have HOc := Aside0.mk (HOb.out.belowW hb6); have HRc := Aside0.mk (Kd.C_below HRb.out hb6); clear hg6 hb6) | ((with_reducible refine gc_ 40 rfl ?_); refine gl_ (some 56) rfl Tryz.func40 #[.slice (some ⟨gb, 0, none⟩) 2 2] ?_; refine (shaOf_calls mix_walk gb 2 2 [⟨some ⟨bo, 0, none⟩, 64, macOut l0⟩, ⟨A5, c5, Y⟩] _ (HG.out.belowW HBc.out) rfl (by omega) ?hp).mono ?_; (case hp => intro i p hi; rcases two_parts hi with ⟨rfl, rfl⟩ | ⟨rfl, rfl⟩ <;> first | exact ⟨by rw [macOut_len]; exact (cell_of_row _ gb 0 _ _ _ HCc.out).trans rfl, HOc.out.C, by rw [macOut_len]; omega⟩ | exact ⟨(cell_of_row _ gb 1 _ _ _ HCc.out).trans rfl, HRc.out, by rw [HY32.out]; omega⟩); rintro e wd ⟨v, rfl, hR, hb7⟩; refine ⟨_, rfl, ?_⟩; have HRd := Aside0.mk (Kd.R_lower hR HBc.out.size); have HBd := Aside0.mk (below_step HBc.out hb7); clear hR hb7))
         go_ret
         refine ⟨_, rfl, ?_, HBd.out⟩; have hz := HYm.out
         rw [flatP2, totP2] at hz
         have hw := HRd.out
         rw [flatP2, totP2] at hw
         rw [← hz]
         exact hw
   · have g2 : ¬ ((64 : Int) < (n : Int)) := by omega
     have HX64 := Aside0.mk (show l0.length ≤ 64 by rw [HN.out]; omega); have HXp := Aside0.mk (show l0 ++ List.replicate (64 - l0.length) 0 = pad by rw [← HPD.out, padK, padX, if_pos (by rw [HN.out]; omega)]); clear h64
     go_enter Tryz.func16, Tryz.ntmps16
     go_wp2_with (first | ((with_reducible refine gd_ 18 rfl ?_); refine mk64_ 18 rfl rfl ?hr ?_; (case hr => first | (go_simp; done) | (go_simp; rfl)); intro bp w5 hbp hP hb; have HP0 := Aside0.mk hP; have HB5 := Aside0.mk hb; have Hbp := Aside0.mk (Nat.le_of_eq hbp.symm); clear hP hb hbp) | ((with_reducible refine gate_builtin (b := .copy) (xs := #[.tmp 27, .tmp 28]) rfl ?_); refine wpList_copy_splice rfl (.tmp 27) (.tmp 28) 22 22 rfl 5 Tryz.underlying22 (by kernel_rfl) _ _ _ _ _ _ rfl rfl bp 0 (nums .u8 (List.replicate 64 0)) 5 ?hg (nums .u8 l0) ?hn ?hpos ?hfit ?h1 w.heap.size w ?hb ?hB ?_; (case hg => exact HP0.out.cells); (case hn => rw [nums_length]; have := HX64.out; have := HN.out; show _ = min _ _; omega); (case hpos => intro hps; rw [nums_length] at hps; exact ⟨rfl, C_cells (Kd.C_below HR0.out HB5.out) hps⟩); (case hfit => rw [nums_length, nums_length]; have := HX64.out; simp; omega); (case h1 => intro v hv; obtain ⟨x, _, rfl⟩ := List.mem_map.1 hv; rfl); (case hb => exact HB5.out); (case hB => exact Hbp.out); intro w8 hg8 hb8; have HPf := Aside0.mk (pad_blk hg8 (by have := HX64.out; omega)); have HB8 := Aside0.mk hb8; clear hg8 hb8) | ((with_reducible refine gd_ 30 rfl ?_); refine mk64_ 30 rfl rfl ?hr ?_; (case hr => first | (go_simp; done) | (go_simp; rfl)); intro bi w9 hbi hI hb; have HI9 := Aside0.mk hI; have HB9 := Aside0.mk (below_step HB8.out hb); have HP9 := Aside0.mk (HPf.out.belowW hb); have Hpi := Aside0.mk (show bp < bi by rw [hbi]; exact HPf.out.lt); have Hbi := Aside0.mk (show w.heap.size ≤ bi by rw [hbi]; exact HB8.out.size); clear hI hb hbi) | ((with_reducible refine gd_ 31 rfl ?_); refine mk64_ 31 rfl rfl ?hr ?_; (case hr => first | (go_simp; done) | (go_simp; rfl)); intro bo w10 hbo hO hb; have HO10 := Aside0.mk hO; have HB10 := Aside0.mk (below_step HB9.out hb); have HP10 := Aside0.mk (HP9.out.belowW hb); have HI10 := Aside0.mk (HI9.out.belowW hb); have Hio := Aside0.mk (show bi < bo by rw [hbo]; exact HI9.out.lt); clear hO hb hbo))
     rw [HXp.out] at HPf HP9 HP10
     (try simp only [Act.put, List.setIfInBounds_toArray, List.set_cons_zero, List.set_cons_succ])
     (try simp only [Act.put, List.setIfInBounds_toArray, List.set_cons_zero, List.set_cons_succ])
     go_loopg [34] 64 (fun kq v34 w' => ∃ i : Nat, kq + i = 64 ∧ v34 = .int .i64 i ∧ BBlk w' bp pad ∧ BBlk w' bi ((macIn l0).take i ++ (List.replicate 64 (0 : Int)).drop i) ∧ BBlk w' bo ((macOut l0).take i ++ (List.replicate 64 (0 : Int)).drop i) ∧ Below w.heap.size w w')
     case atStart => exact ⟨0, by omega, rfl, HP10.out, HI10.out, HO10.out, HB10.out⟩
     case round =>
       obtain ⟨i, hk, rfl, hP, hI, hO, hL⟩ := hrel; have HP := Aside0.mk hP; have HI := Aside0.mk hI; have HO := Aside0.mk hO; have HL := Aside0.mk hL; have Hpo := Aside0.mk (Nat.lt_trans Hpi.out Hio.out); clear hP hI hO hL
       by_cases h6 : i < 64
       · have x0 := HP.out.at_ i h6
         have x1 := HI.out.at_ i h6; have x2 := HO.out.at_ i h6; have y1 := blk_frozen HI.out.cells i; have y2 := blk_frozen HO.out.cells i; have ne1 : bi ≠ bo := (by have := Hio.out; omega); have ne2 : bo ≠ bi := (by have := Hio.out; omega); obtain ⟨b, hb⟩ : ∃ b, pad.getD i 0 = b := ⟨_, rfl⟩; obtain ⟨b1, hb1⟩ : ∃ b, ((macIn l0).take i ++ (List.replicate 64 (0 : Int)).drop i).getD i 0 = b := ⟨_, rfl⟩; obtain ⟨b2, hb2⟩ : ∃ b, ((macOut l0).take i ++ (List.replicate 64 (0 : Int)).drop i).getD i 0 = b := ⟨_, rfl⟩
         rw [hb] at x0; rw [hb1] at x1; rw [hb2] at x2
         have E1 : Aside0 ((macIn l0).getD i 0 = bits .xor .u8 b 54) := ⟨by rw [macIn, map_at _ _ _ (by rw [padK_len]; exact h6), HPD.out, hb]⟩; have E2 : Aside0 ((macOut l0).getD i 0 = bits .xor .u8 b 92) := ⟨by rw [macOut, map_at _ _ _ (by rw [padK_len]; exact h6), HPD.out, hb]⟩; clear hb hb1 hb2
         go_wp2
         go_roundg (gk - 1)
         case measure => omega
         case rel => exact ⟨i + 1, by omega, by first | rfl | (simp; done) | (unfold wrap64; simp; omega), (HP.out.far (by have := Hpi.out; show bp ≠ bi; omega) _).far (by have := Hpo.out; show bp ≠ bo; omega) _, by rw [← part_set _ _ _ (by simp; omega) (by rw [macIn_len]; simp), E1.out]; exact (HI.out.set i _).far (by show bi ≠ bo; exact ne1) _, by rw [← part_set _ _ _ (by simp; omega) (by rw [macOut_len]; simp), E2.out]; exact (HO.out.far (by show bo ≠ bi; exact ne2) _).set i _, (HL.out.setCell Hbi.out _).setCell (p := ⟨bo, i, none⟩) (Nat.le_trans Hbi.out (Nat.le_of_lt Hio.out)) _⟩
       · obtain rfl : i = 64 := by omega
         rw [List.take_of_length_le (by rw [macIn_len]; omega), List.drop_eq_nil_of_le (by simp), List.append_nil] at HI
         rw [List.take_of_length_le (by rw [macOut_len]; omega), List.drop_eq_nil_of_le (by simp), List.append_nil] at HO
         obtain ⟨Y, hY⟩ : ∃ Y, shaF mixI (flatP [⟨some ⟨bi, 0, none⟩, 64, macIn l0⟩, ⟨A1, c1, l1⟩]) (totP [⟨some ⟨bi, 0, none⟩, 64, macIn l0⟩, ⟨A1, c1, l1⟩]) = Y := ⟨_, rfl⟩; have HY := Aside0.mk hY; have HY32 := Aside0.mk (show Y.length = 32 by rw [← hY]; exact shaF_len32 _ _); have HYm : Aside0 (shaF mixI (flatP [⟨some ⟨bo, 0, none⟩, 64, macOut l0⟩, ⟨none, 0, Y⟩]) (totP [⟨some ⟨bo, 0, none⟩, 64, macOut l0⟩, ⟨none, 0, Y⟩]) = macF l0 l1) := ⟨by rw [flatP2, totP2, ← hY, flatP2, totP2]; dsimp only; rw [macIn_len, macOut_len]; rfl⟩; clear hY
         go_wp2_with (first | ((with_reducible refine gd_ 53 rfl ?_); refine bs_ 53 #[.slice (some ⟨bi, 0, none⟩) 64 64, .slice A1 n1 c1] 2 rfl rfl ?hr ?_; (case hr => first | (go_simp; done) | (go_simp; rfl)); intro ga wa hg6 hb6; have HCa := Aside0.mk hg6; have HBa := Aside0.mk (below_step HL.out hb6); have HIa := Aside0.mk (HI.out.belowW hb6); have HOa := Aside0.mk (HO.out.belowW hb6); clear hg6 hb6) | ((with_reducible refine gc_ 40 rfl ?_); refine gl_ (some 54) rfl Tryz.func40 #[.slice (some ⟨ga, 0, none⟩) 2 2] ?_; refine (shaOf_calls mix_walk ga 2 2 [⟨some ⟨bi, 0, none⟩, 64, macIn l0⟩, ⟨A1, c1, l1⟩] _ (HG.out.belowW HBa.out) rfl (by omega) ?hp).mono ?_; (case hp => intro i p hi; rcases two_parts hi with ⟨rfl, rfl⟩ | ⟨rfl, rfl⟩ <;> first | exact ⟨by rw [macIn_len]; exact (cell_of_row _ ga 0 _ _ _ HCa.out).trans rfl, HIa.out.C, by rw [macIn_len]; omega⟩ | exact ⟨by rw [HN1.out]; exact (cell_of_row _ ga 1 _ _ _ HCa.out).trans rfl, Kd.C_below HR1.out HBa.out, by rw [HN1.out]; have := HL1.out; omega⟩); rintro e wb ⟨v, rfl, hR, hb7⟩; refine ⟨_, rfl, ?_⟩; rw [HY.out] at hR; obtain ⟨A5, c5, rfl, hc7, hr7⟩ := Kd.R_reads hR; have HRb := Aside0.mk hr7; have HBb := Aside0.mk (below_step HBa.out hb7); have HOb := Aside0.mk (HOa.out.belowW hb7); clear hR hc7 hr7 hb7) | ((with_reducible refine gd_ 55 rfl ?_); refine bs_ 55 #[.slice (some ⟨bo, 0, none⟩) 64 64, .slice A5 Y.length c5] 2 rfl rfl ?hr ?_; (case hr => first | (go_simp; done) | (go_simp; rfl)); intro gb wc hg6 hb6; have HCc := Aside0.mk hg6; have HBc := Aside0.mk (below_step HBb.out hb6); have HOc := Aside0.mk (HOb.out.belowW hb6); have HRc := Aside0.mk (Kd.C_below HRb.out hb6); clear hg6 hb6) | ((with_reducible refine gc_ 40 rfl ?_); refine gl_ (some 56) rfl Tryz.func40 #[.slice (some ⟨gb, 0, none⟩) 2 2] ?_; refine (shaOf_calls mix_walk gb 2 2 [⟨some ⟨bo, 0, none⟩, 64, macOut l0⟩, ⟨A5, c5, Y⟩] _ (HG.out.belowW HBc.out) rfl (by omega) ?hp).mono ?_; (case hp => intro i p hi; rcases two_parts hi with ⟨rfl, rfl⟩ | ⟨rfl, rfl⟩ <;> first | exact ⟨by rw [macOut_len]; exact (cell_of_row _ gb 0 _ _ _ HCc.out).trans rfl, HOc.out.C, by rw [macOut_len]; omega⟩ | exact ⟨(cell_of_row _ gb 1 _ _ _ HCc.out).trans rfl, HRc.out, by rw [HY32.out]; omega⟩); rintro e wd ⟨v, rfl, hR, hb7⟩; refine ⟨_, rfl, ?_⟩; have HRd := Aside0.mk (Kd.R_lower hR HBc.out.size); have HBd := Aside0.mk (below_step HBc.out hb7); clear hR hb7))
         go_ret
         refine ⟨_, rfl, ?_, HBd.out⟩; have hz := HYm.out
         rw [flatP2, totP2] at hz
         have hw := HRd.out
         rw [flatP2, totP2] at hw
         rw [← hz]
         exact hw
 · rename_i hl
   obtain rfl := Option.some.inj h
   by_cases h0 : 500 < n
   · have g0 : (500 : Int) < (n : Int) := by omega
     go_enter Tryz.func16, Tryz.ntmps16
     go_wp2
     go_ret
     exact ⟨_, rfl, Kd.R_nil _ _ _ _ _, Below.refl _ _⟩
   · have g0 : ¬ ((500 : Int) < (n : Int)) := by omega
     have g1 : (500 : Int) < (n1 : Int) := (by omega)
     go_enter Tryz.func16, Tryz.ntmps16
     go_wp2
     go_ret
     exact ⟨_, rfl, Kd.R_nil _ _ _ _ _, Below.refl _ _⟩
end Go.Proofs.YtmplnpjdbfedbaaGreatDoor.X
namespace Go.Proofs.YtmplnpjdbfedbaaGreatDoor.X
open Go.RowKit Go.Proofs.YtmplnpjdbfedbaaGreatDoorW.PrintWords Go.Proofs.YtmplnpjdbfedbaaGreatDoorW.PrintLast Go.Proofs.YtmplnpjdbfedbaaGreatDoorW.PrintMore
attribute [local go_sem] max2_int min2_int max_two min_two max_three min_three max_four min_four
set_option linter.unusedVariables false
set_option linter.unusedSimpArgs false
section
def strconv_Itoa_47.f (a0 : Int) : Option ByteArray := if -9223372036854775808 ≤ a0 ∧ a0 ≤ 9223372036854775807 then some ⟨(Lib.itoa a0).toArray⟩ else none
theorem strconv_Itoa_47.calls (a0 : Int) (r : ByteArray) (w : World) (h : strconv_Itoa_47.f a0 = some r) (hG : GlobP w) :
  Calls Tryz.prog 47 #[.int .i64 a0] w fun e w' => e = .returned (.string r) ∧ Below w.heap.size w w' := by
 unfold strconv_Itoa_47.f at h
 split at h
 case isFalse => cases h
 rename_i hl
 obtain rfl := Option.some.inj h
 exact itoa_calls a0 w hG hl.1 hl.2
end
section
def formsL : List (ByteArray × Nat) := [(⟨#[]⟩, 0), (⟨#[99, 114, 111, 112]⟩, 4), (⟨#[102, 108, 105, 112, 120]⟩, 0), (⟨#[102, 108, 105, 112, 121]⟩, 0), (⟨#[116, 117, 114, 110]⟩, 0), (⟨#[103, 114, 97, 121]⟩, 0), (⟨#[98, 108, 117, 114]⟩, 0), (⟨#[115, 105, 122, 101]⟩, 2), (⟨#[102, 108, 97, 116]⟩, 3)]
def formW (k : Nat) : ByteArray := (formsL.getD k (⟨#[]⟩, 0)).1
def formN (k : Nat) : Nat := (formsL.getD k (⟨#[]⟩, 0)).2
def numT (n : Int) : ByteArray := (⟨#[46]⟩ : ByteArray) ++ ⟨(Lib.itoa n).toArray⟩
def txtI (word : ByteArray) (ns : List Int) : ByteArray := ns.foldl (fun s n => s ++ numT n) word
def okI (n : Int) : Prop := -9223372036854775808 ≤ n ∧ n ≤ 9223372036854775807
instance (n : Int) : Decidable (okI n) := inferInstanceAs (Decidable (_ ∧ _))
def opTextI (k : Int) (ns : List Int) : Option ByteArray := if 0 ≤ k ∧ k < 9 ∧ ∀ n ∈ ns, okI n then some (txtI (formW k.toNat) (ns.take (formN k.toNat))) else none
def impl_OpText.f (k : Nat) (a0_0 a0_1 a0_2 a0_3 a0_4 : Int) : Option ByteArray := (impl_OpOk.f k a0_0 a0_1 a0_2 a0_3 a0_4).bind fun t => if t = true then opTextI a0_0 [a0_1, a0_2, a0_3, a0_4] else some ⟨#[]⟩
set_option maxHeartbeats 1000000 in
set_option maxRecDepth 100000 in
theorem opNumbers_calls (a0 a1 a2 a3 a4 : Int) (w : World) : Calls Tryz.prog 76 #[.agg #[.int .i64 a0, .int .i64 a1, .int .i64 a2, .int .i64 a3, .int .i64 a4]] w fun e w' => e = .returned (.agg #[.int .i64 a1, .int .i64 a2, .int .i64 a3, .int .i64 a4]) ∧ Below w.heap.size w w' := by
 have hu := Tryz.underlying65; have hz : ∀ w : World, (zeroValue 110).run Tryz.prog w = .ok (.agg #[.int .i64 0, .int .i64 0, .int .i64 0, .int .i64 0]) w := fun w => by kernel_rfl
 go_enter Tryz.func76, Tryz.ntmps76
 go_wp2_with (first | ((with_reducible refine gd_ 1 rfl ?_); refine bx_ 1 rfl #[.int .i64 a0, .int .i64 a1, .int .i64 a2, .int .i64 a3, .int .i64 a4] 65 ?_; intro b2 hg w5 hbox hb; have HX := Aside0.mk hbox; have HB := Aside0.mk hb; clear hb hbox hg) | ((with_reducible refine gd_ 2 rfl ?_); refine bx_ 2 rfl #[.int .i64 0, .int .i64 0, .int .i64 0, .int .i64 0] 110 ?_; intro b3 hg w7 hbox hb; have HX7 := Aside0.mk hbox; obtain ⟨x0, x1, x2, x3, x4⟩ := cc5_ (blk_below HX.out hb); obtain ⟨y0, y1, y2, y3⟩ := cc4_ hbox; obtain ⟨f0, f1, f2, f3⟩ := cf4_ hbox; have HB7 := Aside0.mk (below_step HB.out hb); have HG3 := Aside0.mk (show w.heap.size ≤ b3 by rw [hg]; exact HB.out.size); clear hb hbox hg))
 refine bodyPost_ret (results_cell_row Tryz.results76 _ _ b3 110 #[.int .i64 a1, .int .i64 a2, .int .i64 a3, .int .i64 a4] (0, 0) _ rfl ?hh Tryz.underlying110 rfl (by kernel_rfl)) rfl ⟨rfl, ?bb⟩
 case hh => exact blk_set (blk_set (blk_set (blk_set HX7.out 0 _) 1 _) 2 _) 3 _
 case bb => exact (((HB7.out.setCell (p := ⟨b3, 0, none⟩) HG3.out _).setCell (p := ⟨b3, 1, none⟩) HG3.out _).setCell (p := ⟨b3, 2, none⟩) HG3.out _).setCell (p := ⟨b3, 3, none⟩) HG3.out _
theorem up_cell {w : World} {a : Addr} {v : Value} (h : w.cell? a = some v) : (∀ o1, (w.alloc o1).cell? a = some v) ∧ (∀ o1 o2, ((w.alloc o1).alloc o2).cell? a = some v) := by
 have e : ∀ (w : World) (o : Obj), w.cell? a = some v → (w.alloc o).cell? a = some v := fun w o h => pw_cell_below ((Below.refl _ _).alloc (Nat.le_refl _) o) h
 exact ⟨fun o1 => e _ _ h, fun o1 o2 => e _ _ (e _ _ h)⟩
theorem formN_le (k : Nat) (hk : k < 9) : formN k ≤ 4 := by
 match k, hk with
 | 0, _ => decide
 | 1, _ => decide
 | 2, _ => decide
 | 3, _ => decide
 | 4, _ => decide
 | 5, _ => decide
 | 6, _ => decide
 | 7, _ => decide
 | 8, _ => decide
theorem txtI_snoc (W : ByteArray) (l : List Int) (n : Int) : txtI W (l ++ [n]) = txtI W l ++ numT n := by simp [txtI, List.foldl_append]
theorem num_at {w : World} {g : Nat} {a b c d : Int} {t : TypeId} {fr : Nat × Nat} {i : Nat} (h : w.heap[g]? = some (.cells #[.int .i64 a, .int .i64 b, .int .i64 c, .int .i64 d] t fr)) (hi : i < 4) : w.cell? ⟨g, i, none⟩ = some (.int .i64 ([a, b, c, d].getD i 0)) := by
 rw [cell_of_row _ _ _ _ _ _ h]
 match i, hi with
 | 0, _ => rfl
 | 1, _ => rfl
 | 2, _ => rfl
 | 3, _ => rfl
theorem num_mem {a b c d : Int} {i : Nat} (hi : i < 4) : [a, b, c, d].getD i 0 ∈ [a, b, c, d] := by
 match i, hi with
 | 0, _ => simp
 | 1, _ => simp
 | 2, _ => simp
 | 3, _ => simp
theorem take_getD (l : List Int) (n : Nat) (h : n < l.length) : l.take (n + 1) = l.take n ++ [l.getD n 0] := by
 rw [List.take_add_one, List.getElem?_eq_getElem h]; simp [List.getD_eq_getElem?_getD, List.getElem?_eq_getElem h]
theorem numT_size (n : Int) : (numT n).size = 1 + (Lib.itoa n).length := by unfold numT; rw [ByteArray.size_append]; show 1 + (Lib.itoa n).toArray.size = _; rw [List.size_toArray]
theorem txtI_len (W : ByteArray) (l : List Int) (h : ∀ n ∈ l, okI n) (hW : W.size ≤ 5) (hl : l.length ≤ 4) : (txtI W l).size ≤ 1000 := by
 have : ∀ (l : List Int) (S : ByteArray), (∀ n ∈ l, okI n) → (l.foldl (fun s n => s ++ numT n) S).size ≤ S.size + 22 * l.length := by
  intro l
  induction l with
  | nil => intro S _; simp
  | cons a l ih =>
   intro S h; have h1 := ih (S ++ numT a) (fun n hn => h n (List.mem_cons_of_mem _ hn)); have h2 := h a (List.mem_cons_self ..); have h3 := Lib.itoa_length_le a h2.1 h2.2
   rw [ByteArray.size_append, numT_size] at h1
   simp only [List.foldl_cons, List.length_cons]
   omega
 have := this l W h
 unfold txtI
 omega
theorem formW_len (k : Nat) (hk : k < 9) : (formW k).size ≤ 5 := by
 match k, hk with
 | 0, _ => decide
 | 1, _ => decide
 | 2, _ => decide
 | 3, _ => decide
 | 4, _ => decide
 | 5, _ => decide
 | 6, _ => decide
 | 7, _ => decide
 | 8, _ => decide
theorem form_word {w : World} (h : Glob w) (k : Nat) (hk : k < 9) : w.cell? ⟨1, k * 2, none⟩ = some (.string (formW k)) ∧ w.cell? ⟨1, k * 2 + 1, none⟩ = some (.int .i64 (formN k : Int)) := by
 obtain ⟨⟨t, fr, h1⟩, _⟩ := h
 rw [cell_of_row _ _ _ _ _ _ h1, cell_of_row _ _ _ _ _ _ h1]
 match k, hk with
 | 0, _ => exact ⟨rfl, rfl⟩
 | 1, _ => exact ⟨rfl, rfl⟩
 | 2, _ => exact ⟨rfl, rfl⟩
 | 3, _ => exact ⟨rfl, rfl⟩
 | 4, _ => exact ⟨rfl, rfl⟩
 | 5, _ => exact ⟨rfl, rfl⟩
 | 6, _ => exact ⟨rfl, rfl⟩
 | 7, _ => exact ⟨rfl, rfl⟩
 | 8, _ => exact ⟨rfl, rfl⟩
theorem form_cut (k : Nat) (hk : k < 9) : ∀ (b : Nat) (W : World), (Instr.sliceAt 110 (.pointer (some ⟨b, 0, none⟩)) none (some (.int .i64 (formN k : Int))) none).run Tryz.prog W = .ok (.slice (some ⟨b, 0, none⟩) (formN k) 4) W := by
 intro b W
 match k, hk with
 | 0, _ => (show _ = _; kernel_rfl)
 | 1, _ => (show _ = _; kernel_rfl)
 | 2, _ => (show _ = _; kernel_rfl)
 | 3, _ => (show _ = _; kernel_rfl)
 | 4, _ => (show _ = _; kernel_rfl)
 | 5, _ => (show _ = _; kernel_rfl)
 | 6, _ => (show _ = _; kernel_rfl)
 | 7, _ => (show _ = _; kernel_rfl)
 | 8, _ => (show _ = _; kernel_rfl)
set_option maxHeartbeats 4000000 in
set_option maxRecDepth 100000 in
theorem impl_OpText.calls (k : Nat) (a0_0 a0_1 a0_2 a0_3 a0_4 : Int) (r : ByteArray) (w : World) (h : impl_OpText.f k a0_0 a0_1 a0_2 a0_3 a0_4 = some r) (hG : Glob w) :
  Calls Tryz.prog 45 #[.agg #[.int .i64 a0_0, .int .i64 a0_1, .int .i64 a0_2, .int .i64 a0_3, .int .i64 a0_4]] w fun e w' => e = .returned (.string r) ∧ Below w.heap.size w w' := by
 have HG := Aside0.mk hG; clear hG; obtain ⟨t, ht, h⟩ := Option.bind_eq_some_iff.1 h; have HT := Aside0.mk ht; clear ht; have hu := Tryz.underlying65
 cases t with
 | false =>
  rw [if_neg (by decide)] at h
  obtain rfl := Option.some.inj h
  go_enter Tryz.func45, Tryz.ntmps45
  go_wp2_with (first | ((with_reducible refine gd_ 1 rfl ?_); refine bx_ 1 rfl #[.int .i64 a0_0, .int .i64 a0_1, .int .i64 a0_2, .int .i64 a0_3, .int .i64 a0_4] 65 ?_; intro b2 hg w5 hbox hb; have HX := Aside0.mk hbox; have HB := Aside0.mk hb; obtain ⟨x0, x1, x2, x3, x4⟩ := cc5_ hbox; clear hb hbox hg) | (go_at_call 67; refine (impl_OpOk.calls k a0_0 a0_1 a0_2 a0_3 a0_4 false _ HT.out).mono ?_; rintro e w6 ⟨rfl, hb⟩; have HB6 := Aside0.mk (below_step HB.out hb); clear hb))
  go_ret
  exact ⟨rfl, HB6.out⟩
 | true =>
  rw [if_pos rfl] at h
  unfold opTextI at h
  split at h
  case isFalse => cases h
  rename_i hk
  obtain ⟨hk0, hk9, hns⟩ := hk; obtain rfl := Option.some.inj h; obtain ⟨kd, rfl⟩ := Int.eq_ofNat_of_zero_le hk0; have hkd : kd < 9 := (by omega); have HNS := Aside0.mk hns
  simp only [Int.toNat_natCast]
  clear hk0 hk9 h hns; have hsl := form_cut kd hkd
  go_enter Tryz.func45, Tryz.ntmps45
  go_wp2_with (first | ((with_reducible refine gd_ 1 rfl ?_); refine bx_ 1 rfl #[.int .i64 (kd : Int), .int .i64 a0_1, .int .i64 a0_2, .int .i64 a0_3, .int .i64 a0_4] 65 ?_; intro b2 hg w5 hbox hb; have HX := Aside0.mk hbox; have HB := Aside0.mk hb; obtain ⟨x0, x1, x2, x3, x4⟩ := cc5_ hbox; clear hb hbox hg) | (go_at_call 67; refine (impl_OpOk.calls k (kd : Int) a0_1 a0_2 a0_3 a0_4 true _ HT.out).mono ?_; rintro e w6 ⟨rfl, hb⟩; have HB6 := Aside0.mk (below_step HB.out hb); obtain ⟨y0, y1, y2, y3, y4⟩ := cc5_ (blk_below HX.out hb); have u0 := (up_cell y0).1; have u1 := (up_cell y1).1; have u2 := (up_cell y2).1; have u3 := (up_cell y3).1; have u4 := (up_cell y4).1; obtain ⟨z0, z1⟩ := form_word (HG.out.belowW HB6.out) kd hkd; clear hb) | (go_at_call 76; refine (opNumbers_calls (kd : Int) a0_1 a0_2 a0_3 a0_4 _).mono ?_; rintro e w8 ⟨rfl, hb⟩; have v0 := (up_cell (pw_cell_below hb (v := .string (formW kd)) ((cell_of_row _ w6.heap.size 0 _ _ _ (heap_alloc_new w6 _)).trans rfl))).1; have v1 := (up_cell (pw_cell_below hb (v := .int .i64 (formN kd : Int)) ((cell_of_row _ w6.heap.size 1 _ _ _ (heap_alloc_new w6 _)).trans rfl))).1; have HB8 := Aside0.mk hb; clear hb))
  obtain ⟨g, hg⟩ : ∃ g, w8.heap.size = g := ⟨_, rfl⟩; have HA : Aside0 ((w8.alloc (.cells #[.int .i64 a0_1, .int .i64 a0_2, .int .i64 a0_3, .int .i64 a0_4] 110)).heap[g]? = some (.cells #[.int .i64 a0_1, .int .i64 a0_2, .int .i64 a0_3, .int .i64 a0_4] 110 (0, 0))) := ⟨by rw [← hg]; exact blk_new w8 _⟩; have hba := below_step (HB6.out.alloc HB6.out.size (.cells #[.string (formW kd), .int .i64 (formN kd : Int)] 120)) HB8.out; have HBA := Aside0.mk (hba.alloc hba.size (.cells #[.int .i64 a0_1, .int .i64 a0_2, .int .i64 a0_3, .int .i64 a0_4] 110)); have HGE := Aside0.mk (show w.heap.size ≤ g by rw [← hg]; exact hba.size)
  rw [hg]
  have h4 := formN_le kd hkd; clear hba hg u0 u1 u2 u3 u4 v0 v1 x0 x1 x2 x3 x4 y0 y1 y2 y3 y4
  (try simp only [Act.put, List.setIfInBounds_toArray, List.set_cons_zero, List.set_cons_succ])
  go_loopg [5, 23] (formN kd) (fun kq v5 v23 w' => ∃ i : Nat, kq + i = formN kd ∧ v5 = .string (txtI (formW kd) ([a0_1, a0_2, a0_3, a0_4].take i)) ∧ v23 = .int .i64 i ∧ w'.heap[g]? = some (.cells #[.int .i64 a0_1, .int .i64 a0_2, .int .i64 a0_3, .int .i64 a0_4] 110 (0, 0)) ∧ Below w.heap.size w w')
  case atStart => exact ⟨0, by omega, rfl, rfl, HA.out, HBA.out⟩
  case round =>
   obtain ⟨i, hk, rfl, rfl, hA, hL⟩ := hrel; have HA2 := Aside0.mk hA; have HL := Aside0.mk hL
   by_cases h6 : i < formN kd
   · have x : wr.cell? ⟨g, i, none⟩ = some (.int .i64 ([a0_1, a0_2, a0_3, a0_4].getD i 0)) := num_at hA (by omega)
     have HN := Aside0.mk (HNS.out ([a0_1, a0_2, a0_3, a0_4].getD i 0) (num_mem (by omega))); have HS := Aside0.mk (txtI_len (formW kd) ([a0_1, a0_2, a0_3, a0_4].take i) (fun n hn => HNS.out n (List.mem_of_mem_take hn)) (formW_len kd hkd) (by simp; omega)); obtain ⟨n, hn⟩ : ∃ n, [a0_1, a0_2, a0_3, a0_4].getD i 0 = n := ⟨_, rfl⟩; obtain ⟨tx, htx⟩ : ∃ tx, txtI (formW kd) ([a0_1, a0_2, a0_3, a0_4].take i) = tx := ⟨_, rfl⟩; have HNM := Aside0.mk hn; have HTX := Aside0.mk htx
     rw [hn] at x HN; rw [htx] at HS ⊢
     have l1 : (⟨#[46]⟩ : ByteArray).size + (⟨(Lib.itoa n).toArray⟩ : ByteArray).size ≤ 9223372036854775807 := (by have := Lib.itoa_length_le n HN.out.1 HN.out.2; show 1 + (Lib.itoa n).toArray.size ≤ _; rw [List.size_toArray]; omega); have s1 : ∀ W : World, (Op.stringOp .add ⟨#[46]⟩ ⟨(Lib.itoa n).toArray⟩).run Tryz.prog W = .ok (.string (numT n)) W := fun W => run_string_add_sum W _ _ l1; have s2 : ∀ W : World, (Op.stringOp .add tx (numT n)).run Tryz.prog W = .ok (.string (tx ++ numT n)) W := fun W => run_string_add_sum W _ _ (by have := HS.out; have := Lib.itoa_length_le n HN.out.1 HN.out.2; have : (numT n).size = 1 + (Lib.itoa n).length := numT_size n; omega); clear hn htx l1; clear hA hL
     go_wp2_with (go_at_call 47; refine (itoa_calls _ _ (HG.out.belowW HL.out).toP HN.out.1 HN.out.2).mono ?_; rintro e w9 ⟨rfl, hb⟩; have HB9 := Aside0.mk (below_step HL.out hb); have HA9 := Aside0.mk (blk_below HA2.out hb); clear hb)
     go_roundg (gk - 1)
     case measure => omega
     case rel => exact ⟨i + 1, by omega, by rw [take_getD _ _ (by simp; omega), txtI_snoc, HNM.out, HTX.out], by first | rfl | (simp; done) | (unfold wrap64; simp; omega), HA9.out, HB9.out⟩
   · obtain rfl : i = formN kd := by omega
     clear hA hL
     go_wp2
     go_ret
     exact ⟨rfl, HL.out⟩
end
section
def strings_Join.f (l0 : List ByteArray) (a1 : ByteArray) : Option ByteArray := if l0.length ≤ 140737488355328 ∧ (Lib.join (l0.map (·.data.toList)) a1.data.toList).length ≤ 140737488355328 then some ⟨(Lib.join (l0.map (·.data.toList)) a1.data.toList).toArray⟩ else none
theorem strings_Join.calls (A0 : Option Addr) (c0 : Nat) (l0 : List ByteArray) (a1 : ByteArray) (r : ByteArray) (w : World) (hr0 : Kd.C Kd.string w A0 l0.length l0) (hc0 : l0.length ≤ c0) (h : strings_Join.f l0 a1 = some r) :
  Calls Tryz.prog 46 #[.slice A0 l0.length c0, .string a1] w fun e w' => e = .returned (.string r) ∧ Below w.heap.size w w' := by
 unfold strings_Join.f at h
 split at h
 case isFalse => cases h
 rename_i hl
 obtain rfl := Option.some.inj h
 cases l0 with
 | nil =>
  refine (Tryz.strings_Join_none A0 c0 a1 w).mono ?_
  rintro e w' ⟨rfl, rfl⟩
  exact ⟨rfl, Below.refl _ _⟩
 | cons x l =>
  obtain ⟨ad, rfl, h0⟩ := Kd.at_string hr0 0 (by omega) (by simp)
  obtain ⟨bk, o, sp⟩ := ad
  have hsp : sp = none := by
   cases sp with
   | none => rfl
   | some s =>
    exfalso
    unfold World.cell? at h0
    split at h0
    · simp [Addr.add] at h0
    · cases h0
  subst hsp
  refine Tryz.strings_Join bk o c0 (x :: l) a1 w (fun j y hj => ?_) ?_ hl.1 hc0 hl.2
  · have hlt := (List.getElem?_eq_some_iff.1 hj).1
    obtain ⟨ad, e, hh⟩ := Kd.at_string hr0 (j : Int) (by omega) (by omega)
    obtain rfl := Option.some.inj e
    rw [show ((j : Int).toNat) = j by omega] at hh
    rw [show rdOf ByteArray.empty (x :: l) (j : Int) = y by simp [rdOf, List.getD_eq_getElem?_getD, hj]] at hh
    rw [show (({ block := bk, off := o, spot := none } : Addr).add j) = ⟨bk, o + j, none⟩ by simp [Addr.add]] at hh
    exact hh
  · unfold World.cell? at h0
    split at h0
    · rename_i hh
      exact (Array.getElem?_eq_some_iff.1 hh).1
    · cases h0
end
section
open Go.Proofs.YtmplnpjdbfedbaaGreatDoorW.PrintWords.Aside0 renaming mk → yaa
open Go.Proofs.YtmplnpjdbfedbaaGreatDoorW.PrintWords renaming pw_below_drewN → yab, below_drew1 → yac, below_alloc → yad, below_set → yae
abbrev q20_0 : Array Bool := Array.replicate 12 false
abbrev q20_1 : Array Bool := bl_ 12 1
abbrev q20_2 : Array Bool := bl_ 12 3
abbrev q20_3 : Array Bool := bl_ 12 7
abbrev q20_4 : Array Bool := bl_ 12 15
abbrev q20_5 : Array Bool := bl_ 12 143
abbrev q20_6 : Array Bool := bl_ 12 159
abbrev q20_7 : Array Bool := bl_ 12 191
abbrev q20_8 : Array Bool := bl_ 12 255
abbrev q20_9 : Array Bool := bl_ 12 511
abbrev q20_10 : Array Bool := bl_ 12 1023
abbrev q20_11 : Array Bool := bl_ 12 2047
abbrev q20_12 : Array Bool := bl_ 12 4095
def impl_AskText.l0 : Nat → List ByteArray → List (S65) → Int → Int → List (S65) → ByteArray → Int → Option (ByteArray)
 | 0, _, _, _, _, _, _, _ => none
 | k + 1, x3, x15, x16, x17, x102000, x102001, x102002 => if x17 < x16 then (if 0 ≤ x17 then (if x17 < (x15.length : Int) then ((impl_OpText.f k ((rd_T65 x15 x17).f0) ((rd_T65 x15 x17).f1) ((rd_T65 x15 x17).f2) ((rd_T65 x15 x17).f3) ((rd_T65 x15 x17).f4)).bind fun t108 => (if x3.length < 8796093022208 then (impl_AskText.l0 k (x3 ++ [t108]) x15 x16 (wrap64 (x17 + 1)) x102000 x102001 x102002) else (none))) else (none)) else (none)) else (if (x3.length : Int) > 0 then ((strings_Join.f x3 (⟨#[44]⟩ : ByteArray)).bind fun t112 => (if 1 + t112.size ≤ 9223372036854775807 then (if ((⟨#[47]⟩ : ByteArray) ++ t112).size + 1 ≤ 9223372036854775807 then (if (((⟨#[47]⟩ : ByteArray) ++ t112) ++ (⟨#[47]⟩ : ByteArray)).size + x102001.size ≤ 9223372036854775807 then (if ((((⟨#[47]⟩ : ByteArray) ++ t112) ++ (⟨#[47]⟩ : ByteArray)) ++ x102001).size + 3 ≤ 9223372036854775807 then ((strconv_Itoa_47.f x102002).bind fun t113 => (if (((((⟨#[47]⟩ : ByteArray) ++ t112) ++ (⟨#[47]⟩ : ByteArray)) ++ x102001) ++ (⟨#[63, 101, 61]⟩ : ByteArray)).size + t113.size ≤ 9223372036854775807 then (some ((((((⟨#[47]⟩ : ByteArray) ++ t112) ++ (⟨#[47]⟩ : ByteArray)) ++ x102001) ++ (⟨#[63, 101, 61]⟩ : ByteArray)) ++ t113)) else (none))) else (none)) else (none)) else (none)) else (none))) else (if 1 + 1 ≤ 9223372036854775807 then (if (((⟨#[47]⟩ : ByteArray) ++ (⟨#[45]⟩ : ByteArray)) ++ (⟨#[47]⟩ : ByteArray)).size + x102001.size ≤ 9223372036854775807 then (if ((((⟨#[47]⟩ : ByteArray) ++ (⟨#[45]⟩ : ByteArray)) ++ (⟨#[47]⟩ : ByteArray)) ++ x102001).size + 3 ≤ 9223372036854775807 then ((strconv_Itoa_47.f x102002).bind fun t114 => (if (((((⟨#[47]⟩ : ByteArray) ++ (⟨#[45]⟩ : ByteArray)) ++ (⟨#[47]⟩ : ByteArray)) ++ x102001) ++ (⟨#[63, 101, 61]⟩ : ByteArray)).size + t114.size ≤ 9223372036854775807 then (some ((((((⟨#[47]⟩ : ByteArray) ++ (⟨#[45]⟩ : ByteArray)) ++ (⟨#[47]⟩ : ByteArray)) ++ x102001) ++ (⟨#[63, 101, 61]⟩ : ByteArray)) ++ t114)) else (none))) else (none)) else (none)) else (none)))
def impl_AskText.f (k : Nat) (l0_0 : List (S65)) (a0_1 : ByteArray) (a0_2 : Int) : Option (ByteArray) := (impl_AskOk.f k l0_0 a0_1 a0_2).bind fun t102 => (if t102 = true then (if 0 ≤ (l0_0.length : Int) then (if ((l0_0.length : Int) : Int).toNat ≤ 17592186044416 then (impl_AskText.l0 k (([] : List ByteArray)) l0_0 (l0_0.length : Int) 0 l0_0 a0_1 a0_2) else (none)) else (none)) else (some (⟨#[]⟩ : ByteArray)))
def impl_AskText.T12 : Bool × List (List Nat × List Nat) := (true, [([], []), ([0], [0]), ([1], [1]), ([], []), ([3], [3]), ([2, 4], [2, 4]), ([5], [5]), ([], []), ([7], [7]), ([8], [8]), ([6, 9], [6, 9]), ([10, 9, 0, 1, 2, 3, 4, 5, 6, 7, 8, 9, 10], [10])])
def impl_AskText.B12 : List Nat := [0, 1, 3, 0, 8, 31, 63, 0, 128, 384, 1023, 2047]
theorem impl_AskText.tab12 : rtab .any (opsOf Tryz.f20 12) = impl_AskText.T12 := by kernel_rfl
theorem impl_AskText.bits12 : waitsOk impl_AskText.T12.2 impl_AskText.B12 = true := by kernel_rfl
set_option maxHeartbeats 8000000 in
set_option maxRecDepth 100000 in
theorem impl_AskText.calls (k : Nat) (A0_0 : Option Addr) (c0_0 : Nat) (l0_0 : List (S65)) (a0_1 : ByteArray) (a0_2 : Int) (r : ByteArray) (w : World) (hr0_0 : Kd.C k65 w A0_0 l0_0.length l0_0) (hc0_0 : l0_0.length ≤ c0_0) (h : impl_AskText.f k l0_0 a0_1 a0_2 = some r) (hG : Glob w) :
  Calls Tryz.prog 20 #[.agg #[.slice A0_0 l0_0.length c0_0, .string a0_1, .int .i64 a0_2]] w fun e w' => e = .returned (.string r) ∧ Below w.heap.size w w' := by
 have HG := yaa hG; clear hG; have hu25 := Tryz.underlying25; have hu65 := Tryz.underlying65; have HR0_0 := yaa hr0_0; have HC0_0 := yaa hc0_0; clear hr0_0 hc0_0; have HB := yaa (Below.refl w.heap.size w); have H : ((impl_AskOk.f k l0_0 a0_1 a0_2).bind fun e2 => (if e2 = true then (if 0 ≤ (l0_0.length : Int) then (if ((l0_0.length : Int) : Int).toNat ≤ 17592186044416 then (impl_AskText.l0 k (([] : List ByteArray)) l0_0 (l0_0.length : Int) 0 l0_0 a0_1 a0_2) else (none)) else (none)) else (some (⟨#[]⟩ : ByteArray)))) = some r := h; clear h; obtain ⟨e2, A2, H⟩ := bindA H; (try dsimp only at H)
 by_cases c3 : e2 = true
 rotate_left
 ·
  replace c3 := Bool.eq_false_iff.mpr c3
  subst c3
  rw [if_neg (show ¬ (false = true) by decide)] at H
  obtain rfl := Option.some.inj H
  go_enter Tryz.func20, Tryz.ntmps20
  go_wp2_with (first | ((with_reducible refine gd_ 1 rfl ?_); refine bx_ 1 rfl #[.slice A0_0 l0_0.length c0_0, .string a0_1, .int .i64 a0_2] 25 ?_; intro a6 hg w43 hbox hb; have a3 := yaa (hbox); have b8 := yaa ((by rw [hg]; exact (below_size (upH HB.out)) : w.heap.size ≤ a6)); replace HB := yaa (below_step (upH HB.out) hb); have g2 := b8; clear hb hbox hg; obtain ⟨h7, h8, h9⟩ := cc3_ a3.out; obtain ⟨i0, i1⟩ := cf2_ a3.out; have i2 := blk_frozen a3.out 2) | ((with_reducible refine gc_ 36 rfl ?_); refine gl_ (some 8) rfl Tryz.func36 #[.agg #[.slice A0_0 l0_0.length c0_0, .string a0_1, .int .i64 a0_2]] ?_; (with_reducible refine (impl_AskOk.calls k _ _ l0_0 a0_1 a0_2 false _ ?side1 ?side2 A2.out).mono ?_); (case side1 => repeat (first | exact (Kd.C_below HR0_0.out HB.out) | (with_reducible refine Kd.C_alloc ?_ _) | (with_reducible refine Kd.C_drewN ?_ _) | (with_reducible refine Kd.C_drew ?_))); (case side2 => exact HC0_0.out); rintro e w45 ⟨rfl, hb⟩; refine ⟨_, rfl, ?_⟩; replace a3 := yaa (blk_below (upB a3.out) hb); replace HB := yaa (below_step (by repeat (with_reducible first | exact HB.out | apply yad | apply yab | apply yac | refine yae ?_ (Aside0.out ‹_›))) hb); (try clear hb)))
  go_ret
  exact ⟨by first | rfl | (simp [*, errW_none, errW_some] <;> rfl), by repeat (with_reducible first | exact HB.out | apply yad | apply yab | apply yac | refine yae ?_ (Aside0.out ‹_›))⟩
 subst c3
 rw [if_pos rfl] at H
 by_cases c4 : 0 ≤ (l0_0.length : Int)
 rotate_left
 ·
  rw [if_neg c4] at H
  exact absurd H (by simp)
 rw [if_pos c4] at H
 have i3 := eq_true c4; replace c4 := decide_eq_true c4
 by_cases c5 : ((l0_0.length : Int) : Int).toNat ≤ 17592186044416
 rotate_left
 ·
  rw [if_neg c5] at H
  exact absurd H (by simp)
 rw [if_pos c5] at H
 have i4 := eq_true c5; replace c5 := decide_eq_true c5; obtain ⟨y103, hy103⟩ : ∃ y_ : List ByteArray, y_ = (([] : List ByteArray)) := ⟨_, rfl⟩
 replace H : (impl_AskText.l0 k y103 l0_0 (l0_0.length : Int) 0 l0_0 a0_1 a0_2) = some r := by first | (rw [hy103]; with_reducible exact H) | (have H2_ := (Option.bind_some _ _).symm.trans H; rw [hy103]; with_reducible exact H2_) | (have H2_ := (Option.bind_some _ _).symm.trans H; with_reducible exact H2_) | with_reducible exact H | (rw [hy103]; exact H) | exact H
 have Ny103 := yaa hy103; clear hy103; have H' := yaa H; clear H
 go_enter Tryz.func20, Tryz.ntmps20
 go_wp2_with (first | ((with_reducible refine gd_ 1 rfl ?_); refine bx_ 1 rfl #[.slice A0_0 l0_0.length c0_0, .string a0_1, .int .i64 a0_2] 25 ?_; intro a6 hg w6 hbox hb; have a3 := yaa (hbox); have b8 := yaa ((by rw [hg]; exact (below_size (upH HB.out)) : w.heap.size ≤ a6)); replace HB := yaa (below_step (upH HB.out) hb); have g2 := b8; clear hb hbox hg; obtain ⟨e3, e4, e5⟩ := cc3_ a3.out; obtain ⟨e7, e8⟩ := cf2_ a3.out; have f5 := blk_frozen a3.out 2) | ((with_reducible refine gc_ 36 rfl ?_); refine gl_ (some 8) rfl Tryz.func36 #[.agg #[.slice A0_0 l0_0.length c0_0, .string a0_1, .int .i64 a0_2]] ?_; (with_reducible refine (impl_AskOk.calls k _ _ l0_0 a0_1 a0_2 true _ ?side1 ?side2 A2.out).mono ?_); (case side1 => repeat (first | exact (Kd.C_below HR0_0.out HB.out) | (with_reducible refine Kd.C_alloc ?_ _) | (with_reducible refine Kd.C_drewN ?_ _) | (with_reducible refine Kd.C_drew ?_))); (case side2 => exact HC0_0.out); rintro e w8 ⟨rfl, hb⟩; refine ⟨_, rfl, ?_⟩; replace a3 := yaa (blk_below (upB a3.out) hb); replace HB := yaa (below_step (by repeat (with_reducible first | exact HB.out | apply yad | apply yab | apply yac | refine yae ?_ (Aside0.out ‹_›))) hb); (try clear hb); obtain ⟨f6, f7, f8⟩ := cc3_ a3.out; obtain ⟨f9, g0⟩ := cf2_ a3.out; have g1 := blk_frozen a3.out 2) | ((with_reducible refine gd_ 13 rfl ?_); refine Kd.R_make0 Kd.string _ 9 rfl (N := 13) rfl 58 _ _ rfl (l0_0.length : Int) rfl rfl Tryz.underlying58 (.string ⟨#[]⟩) 16 info9 rfl (by decide) (by omega) (⟨#[]⟩ : ByteArray) (ok := fun _ => True) (okp := fun _ => True) rfl (fun _ hk => hk) trivial (of_decide_eq_true (by assumption)) (Nat.le_trans (Nat.mul_le_mul_right _ (of_decide_eq_true (by assumption) : (l0_0.length : Int).toNat ≤ 17592186044416)) (by omega)) (Below.refl _ _) (Nat.le_refl _) ?_; intro m2 w10 b9 hb hg_ hnew_; clear hg_ hnew_; (first | rw [← Ny103.out] at b9 | (simp only [Int.reduceToNat] at b9; rw [← Ny103.out] at b9)); have e0 := yaa (Kd.R_lower b9 (below_size (by repeat (with_reducible first | exact HB.out | apply yad | apply yab | apply yac | refine yae ?_ (Aside0.out ‹_›))))); replace a3 := yaa (blk_below (upB a3.out) hb); replace HB := yaa (below_step (by repeat (with_reducible first | exact HB.out | apply yad | apply yab | apply yac | refine yae ?_ (Aside0.out ‹_›))) hb); clear hb b9; obtain ⟨d1, d2, d3⟩ := cc3_ a3.out; obtain ⟨d4, d5⟩ := cf2_ a3.out; have d6 := blk_frozen a3.out 2))
 (try simp only [Act.put, List.setIfInBounds_toArray, List.set_cons_zero, List.set_cons_succ])
 go_loopg [3, 17] k (fun kq v3 v17 w' => ∃ (a9 : List ByteArray) (a4 : Int), v17 = .int .i64 a4 ∧ Aside0 (impl_AskText.l0 kq a9 l0_0 (l0_0.length : Int) a4 l0_0 a0_1 a0_2 = some r) ∧ Aside0 (kq ≤ k) ∧ Aside0 (Kd.R Kd.string 9 w' w.heap.size (fun _ => True) v3 a9) ∧ Aside0 (w'.heap[a6]? = some (.cells #[(.slice A0_0 l0_0.length c0_0), .string a0_1, .int .i64 a0_2] 25 (0, 0))) ∧ Aside0 (Below w.heap.size w w'))
 case atStart => exact ⟨(y103), (0), (by first | rfl | (simp; done) | (simp [*]; done)), H', ⟨Nat.le_refl _⟩, ⟨by first | exact e0.out | exact upR e0.out⟩, ⟨by exact upB a3.out⟩, ⟨by repeat (with_reducible first | exact HB.out | apply yad | apply yab | apply yac | refine yae ?_ (Aside0.out ‹_›))⟩⟩
 case round =>
  clear H'; (try clear c2); (try clear p2); (try clear c3); (try clear c4); (try clear i3); (try clear c4b1); (try clear c5); (try clear i4); (try clear c5b1); (try clear d1); (try clear d2); (try clear d3); (try clear e3); (try clear e4); (try clear e5); (try clear f6); (try clear f7); (try clear f8); (try clear d4); (try clear d5); (try clear d6); (try clear e7); (try clear e8); (try clear f5); (try clear f9); (try clear g0); (try clear g1); obtain ⟨a9, a4, rfl, HA, HK1, a5, a3, HB⟩ := hrel
  cases gk with
  | zero => exact absurd HA.out (by simp [impl_AskText.l0])
  | succ k1 =>
   have H := HA.out; clear HA
   simp only [impl_AskText.l0] at H
   by_cases c13 : a4 < (l0_0.length : Int)
   ·
    rw [if_pos c13] at H
    have g3 : decide (a4 < (l0_0.length : Int)) = true := decide_eq_true c13; clear c13
    by_cases c14 : 0 ≤ a4
    rotate_left
    ·
     rw [if_neg c14] at H
     exact absurd H (by simp)
    rw [if_pos c14] at H
    replace c14 := decide_eq_true c14
    by_cases c15 : a4 < (l0_0.length : Int)
    ·
     rw [if_pos c15] at H
     replace c15 := decide_eq_true c15; obtain ⟨d7, A16, H⟩ := bindA H; (try dsimp only at H)
     by_cases c17 : a9.length < 8796093022208
     ·
      rw [if_pos c17] at H
      have LMc17 := yaa c17; clear c17; obtain ⟨y109, hy109⟩ : ∃ y_ : List ByteArray, y_ = (a9 ++ [d7]) := ⟨_, rfl⟩
      replace H : (impl_AskText.l0 k1 y109 l0_0 (l0_0.length : Int) (wrap64 (a4 + 1)) l0_0 a0_1 a0_2) = some r := by first | (rw [hy109]; with_reducible exact H) | (have H2_ := (Option.bind_some _ _).symm.trans H; rw [hy109]; with_reducible exact H2_) | (have H2_ := (Option.bind_some _ _).symm.trans H; with_reducible exact H2_) | with_reducible exact H | (rw [hy109]; exact H) | exact H
      have Ny109 := yaa hy109; clear hy109; have H' := yaa H; clear H; have p106 : 0 ≤ (a4 : Int) := of_decide_eq_true (by assumption); have q106 : a4 < (l0_0.length : Int) := of_decide_eq_true (by assumption); obtain ⟨ad106, i5, b2, b3, b4, b5, b6⟩ := at_T65 HR0_0.out a4 p106 q106
      cases i5
      replace b2 := (upc_ HB.out b2 :); replace b3 := (upc_ HB.out b3 :); replace b4 := (upc_ HB.out b4 :); replace b5 := (upc_ HB.out b5 :); replace b6 := (upc_ HB.out b6 :); replace p106 := eq_true p106; replace q106 := eq_true q106
      go_wp2_with (first | ((with_reducible refine gd_ 5 rfl ?_); refine bx_ 5 rfl #[.int .i64 0, .int .i64 0, .int .i64 0, .int .i64 0, .int .i64 0] 65 ?_; intro b1 hg w18 hbox hb; replace a5 := yaa (Kd.R_below (upR a5.out) hb); have a8 := yaa (hbox); have g4 := yaa ((by rw [hg]; exact (below_size (by repeat (with_reducible first | exact HB.out | apply yad | apply yab | apply yac | refine yae ?_ (Aside0.out ‹_›)))) : w.heap.size ≤ b1)); replace HB := yaa (below_step (by repeat (with_reducible first | exact HB.out | apply yad | apply yab | apply yac | refine yae ?_ (Aside0.out ‹_›))) hb); have j0 := g4; have b0 := yaa ((by rw [hg]; exact Nat.ne_of_lt (blk_lt (upB a3.out)) : a6 ≠ b1)); replace a3 := yaa (blk_below (upB a3.out) hb); have b7 := yaa b0.out.symm; clear hb hbox hg; have j1 := b7.out; have j2 := b0.out; obtain ⟨g7, g8, g9, h0, h1⟩ := cc5_ a8.out; obtain ⟨h2, h3, h4, h5⟩ := cf4_ a8.out; have h6 := blk_frozen a8.out 4) | ((with_reducible refine gc_ 45 rfl ?_); refine gl_ (some 23) rfl Tryz.func45 #[.agg #[.int .i64 ((rd_T65 l0_0 a4).f0), .int .i64 ((rd_T65 l0_0 a4).f1), .int .i64 ((rd_T65 l0_0 a4).f2), .int .i64 ((rd_T65 l0_0 a4).f3), .int .i64 ((rd_T65 l0_0 a4).f4)]] ?_; (with_reducible refine (impl_OpText.calls k1 ((rd_T65 l0_0 a4).f0) ((rd_T65 l0_0 a4).f1) ((rd_T65 l0_0 a4).f2) ((rd_T65 l0_0 a4).f3) ((rd_T65 l0_0 a4).f4) d7 _ A16.out ?sideG).mono ?_); (case sideG => exact Glob.belowW HG.out (by repeat (first | (with_reducible first | exact HB.out | apply yad | apply yab | apply yac | refine yae ?_ (Aside0.out ‹_›)) | exact HB.out | exact Below.refl _ _))); rintro e w21 ⟨rfl, hb⟩; refine ⟨_, rfl, ?_⟩; replace a5 := yaa (Kd.R_below (by (with_reducible repeat (first | apply Kd.R_alloc | apply Kd.R_drewN | apply Kd.R_drew)); exact (Kd.R_mono (Kd.R_far (p := ⟨b1, 4, none⟩) (Kd.R_far (p := ⟨b1, 3, none⟩) (Kd.R_far (p := ⟨b1, 2, none⟩) (Kd.R_far (p := ⟨b1, 1, none⟩) (Kd.R_far (p := ⟨b1, 0, none⟩) (Kd.R_types a5.out a8.out (by decide)) (fun _ hk => hk.2) (.int .i64 ((rd_T65 l0_0 a4).f0))) (fun _ hk => hk.2) (.int .i64 ((rd_T65 l0_0 a4).f1))) (fun _ hk => hk.2) (.int .i64 ((rd_T65 l0_0 a4).f2))) (fun _ hk => hk.2) (.int .i64 ((rd_T65 l0_0 a4).f3))) (fun _ hk => hk.2) (.int .i64 ((rd_T65 l0_0 a4).f4))) (fun _ h_ => h_.1))) hb); replace a3 := yaa (blk_below (g := a6) (o := .cells #[.slice (some ad106) l0_0.length c0_0, .string a0_1, .int .i64 a0_2] 25 (0, 0)) (by repeat (with_reducible first | exact a3.out | refine oneB ?_ | refine blk_far ?_ b0.out _)) hb); replace a8 := yaa (blk_below (g := b1) (o := .cells #[.int .i64 ((rd_T65 l0_0 a4).f0), .int .i64 ((rd_T65 l0_0 a4).f1), .int .i64 ((rd_T65 l0_0 a4).f2), .int .i64 ((rd_T65 l0_0 a4).f3), .int .i64 ((rd_T65 l0_0 a4).f4)] 65 (0, 0)) (by (repeat refine oneB ?_); refine blk_put (cs := #[.int .i64 ((rd_T65 l0_0 a4).f0), .int .i64 ((rd_T65 l0_0 a4).f1), .int .i64 ((rd_T65 l0_0 a4).f2), .int .i64 ((rd_T65 l0_0 a4).f3), .int .i64 0]) ?_ 4 _ rfl; refine blk_put (cs := #[.int .i64 ((rd_T65 l0_0 a4).f0), .int .i64 ((rd_T65 l0_0 a4).f1), .int .i64 ((rd_T65 l0_0 a4).f2), .int .i64 0, .int .i64 0]) ?_ 3 _ rfl; refine blk_put (cs := #[.int .i64 ((rd_T65 l0_0 a4).f0), .int .i64 ((rd_T65 l0_0 a4).f1), .int .i64 0, .int .i64 0, .int .i64 0]) ?_ 2 _ rfl; refine blk_put (cs := #[.int .i64 ((rd_T65 l0_0 a4).f0), .int .i64 0, .int .i64 0, .int .i64 0, .int .i64 0]) ?_ 1 _ rfl; refine blk_put (cs := #[.int .i64 0, .int .i64 0, .int .i64 0, .int .i64 0, .int .i64 0]) ?_ 0 _ rfl; exact upB a8.out) hb); replace HB := yaa (below_step (by repeat (with_reducible first | exact HB.out | apply yad | apply yab | apply yac | refine yae ?_ (Aside0.out ‹_›))) hb); (try clear hb)) | ((with_reducible refine gate_builtin (b := .append) (xs := #[.tmp 21, .tmp 24]) rfl ?_); at_builtin; refine Kd.R_append Kd.string (w0 := w) w.heap.size rfl (.tmp 21) (.tmp 24) 58 9 (.string ⟨#[]⟩) 16 rfl Tryz.underlying58 info9 rfl (by decide) (by omega) u3 a9 d7 [.string d7] (fun _ => True) (fun _ => False) rfl rfl ?aP (fun _ hk => hk.elim) ?aF ?aO ?aB ?aS ?aL ?_; (case aP => exact rfl); (case aB => exact (by repeat (with_reducible first | exact HB.out | apply yad | apply yab | apply yac | refine yae ?_ (Aside0.out ‹_›)))); (case aF => exact (fun _ _ => trivial)); (case aO => exact (upR a5.out)); (case aS => exact (below_size (by repeat (with_reducible first | exact HB.out | apply yad | apply yab | apply yac | refine yae ?_ (Aside0.out ‹_›))))); (case aL => have := LMc17.out; omega); intro m7 w22 ho hb hg hat; rw [← Ny109.out] at ho; replace a3 := yaa (blk_grown (upB a3.out) hg (Kd.R_ne a5.out a3.out (by decide))); replace a8 := yaa (blk_grown (upB a8.out) hg (Kd.R_ne a5.out a8.out (by decide))); replace HB := yaa (hb); have e1 := yaa (ho); clear a5; clear ho hb hg hat))
      go_roundg k1
      case measure => have := HK1.out; omega
      case rel => exact ⟨(y109), (wrap64 (a4 + 1)), (by first | rfl | (simp; done) | (simp [*]; done)), H', ⟨by have := HK1.out; omega⟩, ⟨by first | exact e1.out | exact upR e1.out⟩, ⟨by exact upB a3.out⟩, ⟨by repeat (with_reducible first | exact HB.out | apply yad | apply yab | apply yac | refine yae ?_ (Aside0.out ‹_›))⟩⟩
     rw [if_neg c17] at H
     exact absurd H (by simp)
    rw [if_neg c15] at H
    exact absurd H (by simp)
   rw [if_neg c13] at H
   have g3 : decide (a4 < (l0_0.length : Int)) = false := decide_eq_false c13; clear c13
   by_cases c23 : (a9.length : Int) > 0
   ·
    rw [if_pos c23] at H
    have g5 : decide (0 < (a9.length : Int)) = true := decide_eq_true c23; have g6 : decide (0 < a9.length) = true := decide_eq_true (by omega); clear c23; obtain ⟨a7, A24, H⟩ := bindA H; (try dsimp only at H)
    by_cases c25 : 1 + a7.size ≤ 9223372036854775807
    rotate_left
    ·
     rw [if_neg c25] at H
     exact absurd H (by simp)
    rw [if_pos c25] at H
    have j3 := eq_true c25; have j4 : decide (1 + a7.size ≤ 9223372036854775807) = true := decide_eq_true c25
    try have j5 : (9223372036854775807 < 1 + a7.size) = False := eq_false (Nat.not_lt.2 c25)
    by_cases c26 : ((⟨#[47]⟩ : ByteArray) ++ a7).size + 1 ≤ 9223372036854775807
    rotate_left
    ·
     rw [if_neg c26] at H
     exact absurd H (by simp)
    rw [if_pos c26] at H
    have j6 := eq_true c26; have j7 : decide (((⟨#[47]⟩ : ByteArray) ++ a7).size + 1 ≤ 9223372036854775807) = true := decide_eq_true c26
    try have j8 : (9223372036854775807 < ((⟨#[47]⟩ : ByteArray) ++ a7).size + 1) = False := eq_false (Nat.not_lt.2 c26)
    try (have c0 := c26; simp only [ByteArray.size_append', ByteArray.size_mk', List.size_toArray, List.length_cons, List.length_nil, Nat.zero_add, Nat.reduceAdd] at c0; replace c0 := eq_false (Nat.not_lt.2 c0))
    by_cases c27 : (((⟨#[47]⟩ : ByteArray) ++ a7) ++ (⟨#[47]⟩ : ByteArray)).size + a0_1.size ≤ 9223372036854775807
    rotate_left
    ·
     rw [if_neg c27] at H
     exact absurd H (by simp)
    rw [if_pos c27] at H
    have j9 := eq_true c27; have k0 : decide ((((⟨#[47]⟩ : ByteArray) ++ a7) ++ (⟨#[47]⟩ : ByteArray)).size + a0_1.size ≤ 9223372036854775807) = true := decide_eq_true c27
    try have k2 : (9223372036854775807 < (((⟨#[47]⟩ : ByteArray) ++ a7) ++ (⟨#[47]⟩ : ByteArray)).size + a0_1.size) = False := eq_false (Nat.not_lt.2 c27)
    try (have c1 := c27; simp only [ByteArray.size_append', ByteArray.size_mk', List.size_toArray, List.length_cons, List.length_nil, Nat.zero_add, Nat.reduceAdd] at c1; replace c1 := eq_false (Nat.not_lt.2 c1))
    by_cases c28 : ((((⟨#[47]⟩ : ByteArray) ++ a7) ++ (⟨#[47]⟩ : ByteArray)) ++ a0_1).size + 3 ≤ 9223372036854775807
    rotate_left
    ·
     rw [if_neg c28] at H
     exact absurd H (by simp)
    rw [if_pos c28] at H
    have k3 := eq_true c28; have k4 : decide (((((⟨#[47]⟩ : ByteArray) ++ a7) ++ (⟨#[47]⟩ : ByteArray)) ++ a0_1).size + 3 ≤ 9223372036854775807) = true := decide_eq_true c28
    try have k5 : (9223372036854775807 < ((((⟨#[47]⟩ : ByteArray) ++ a7) ++ (⟨#[47]⟩ : ByteArray)) ++ a0_1).size + 3) = False := eq_false (Nat.not_lt.2 c28)
    try (have c6 := c28; simp only [ByteArray.size_append', ByteArray.size_mk', List.size_toArray, List.length_cons, List.length_nil, Nat.zero_add, Nat.reduceAdd] at c6; replace c6 := eq_false (Nat.not_lt.2 c6))
    obtain ⟨d8, A29, H⟩ := bindA H; (try dsimp only at H)
    by_cases c30 : (((((⟨#[47]⟩ : ByteArray) ++ a7) ++ (⟨#[47]⟩ : ByteArray)) ++ a0_1) ++ (⟨#[63, 101, 61]⟩ : ByteArray)).size + d8.size ≤ 9223372036854775807
    rotate_left
    ·
     rw [if_neg c30] at H
     exact absurd H (by simp)
    rw [if_pos c30] at H
    have k6 := eq_true c30; have k7 : decide ((((((⟨#[47]⟩ : ByteArray) ++ a7) ++ (⟨#[47]⟩ : ByteArray)) ++ a0_1) ++ (⟨#[63, 101, 61]⟩ : ByteArray)).size + d8.size ≤ 9223372036854775807) = true := decide_eq_true c30
    try have k8 : (9223372036854775807 < (((((⟨#[47]⟩ : ByteArray) ++ a7) ++ (⟨#[47]⟩ : ByteArray)) ++ a0_1) ++ (⟨#[63, 101, 61]⟩ : ByteArray)).size + d8.size) = False := eq_false (Nat.not_lt.2 c30)
    try (have c7 := c30; simp only [ByteArray.size_append', ByteArray.size_mk', List.size_toArray, List.length_cons, List.length_nil, Nat.zero_add, Nat.reduceAdd] at c7; replace c7 := eq_false (Nat.not_lt.2 c7))
    obtain rfl := Option.some.inj H; obtain ⟨i6, i7, i8⟩ := Kd.R_slice a5.out; subst i8
    try go_wp2_with (first | ((with_reducible refine gc_ 46 rfl ?_); refine gl_ (some 31) rfl Tryz.func46 #[.slice i6 a9.length i7, .string (⟨#[44]⟩ : ByteArray)] ?_; (with_reducible refine (strings_Join.calls _ _ a9 (⟨#[44]⟩ : ByteArray) a7 _ ?side1 ?side2 A24.out).mono ?_); (case side1 => repeat (first | exact (Kd.R_reads' a5.out).2.2 | (with_reducible refine Kd.C_alloc ?_ _) | (with_reducible refine Kd.C_drewN ?_ _) | (with_reducible refine Kd.C_drew ?_))); (case side2 => exact (Kd.R_reads' a5.out).2.1); rintro e w32 ⟨rfl, hb⟩; refine ⟨_, rfl, ?_⟩; replace a5 := yaa (Kd.R_below (upR a5.out) hb); replace a3 := yaa (blk_below (upB a3.out) hb); replace HB := yaa (below_step (by repeat (with_reducible first | exact HB.out | apply yad | apply yab | apply yac | refine yae ?_ (Aside0.out ‹_›))) hb); (try clear hb)))
    replace a5 := yaa (Kd.R_drew a5.out); replace a3 := yaa (blk_drew a3.out); replace HB := yaa (yac HB.out)
    refine start_ (n := 12) (S := fun w' => w'.cell? ⟨a6, 0, none⟩ = some (.slice A0_0 l0_0.length c0_0) ∧ w'.cell? ⟨a6, 1, none⟩ = some (.string a0_1) ∧ w'.cell? ⟨a6, 2, none⟩ = some (.int .i64 a0_2)) (ds := []) q20_0 (by kernel_rfl) rfl rfl ⟨(blk_cell a3.out 0).trans rfl, (blk_cell a3.out 1).trans rfl, (blk_cell a3.out 2).trans rfl⟩ (fun hHeld => ?_); refine with_tabW impl_AskText.tab12 impl_AskText.bits12 (fun HT_ HW_ => ?_)
    generalize w32.drew = w33 at a5 a3 HB hHeld ⊢
    refine pz_ 0 32 q20_1 HT_ (by kernel_rfl) ?_
    refine pz_ 1 33 q20_2 HT_ (by kernel_rfl) ?_
    refine pz_ 2 34 q20_3 HT_ (by kernel_rfl) ?_
    refine pz_ 3 35 q20_4 HT_ (by kernel_rfl) ?_
    refine pz_ 7 39 q20_5 HT_ (by kernel_rfl) ?_
    refine tz_ 4 36 q20_6 HT_ HW_ (by kernel_rfl) hHeld ?_
    refine pz_ 5 37 q20_7 HT_ (by kernel_rfl) ?_
    refine pz_ 6 38 q20_8 HT_ (by kernel_rfl) ?_
    refine tz_ 8 40 q20_9 HT_ HW_ (by kernel_rfl) hHeld ?_
    refine one_ (i := 9) (N := some 41) q20_10 rfl rfl (one_of HT_.out (by kernel_rfl)) (by decide) (fun K hK => ?_)
    refine goes_ Tryz.func47 (by kernel_rfl) rfl #[.int .i64 a0_2] (by rfl) rfl rfl (by (try simp only [List.map_toArray, List.map_cons, List.map_nil]); first | done | rfl | (simp only [List.length_drop, List.length_take]; rfl)) ?_
    (with_reducible refine (strconv_Itoa_47.calls a0_2 d8 _ A29.out ?sideG).mono ?_); (case sideG => exact GlobP.belowW (Glob.toP HG.out) (by repeat (first | (with_reducible first | exact HB.out | apply yad | apply yab | apply yac | refine yae ?_ (Aside0.out ‹_›)) | exact HB.out | exact Below.refl _ _)))
    rintro e w34 ⟨rfl, hb⟩; refine ⟨_, rfl, ?_⟩; have n0_ := yaa (Kd.R_below (upR a5.out) hb); have n1_ := yaa (blk_below (upB a3.out) hb)
    have n2_ := yaa (below_step (by repeat (with_reducible first | exact HB.out | apply yad | apply yab | apply yac | refine yae ?_ (Aside0.out ‹_›))) hb)
    clear a5; clear a3; clear HB; have a5 := n0_; have a3 := n1_; have HB := n2_; clear n0_ n1_ n2_; (try clear hb); (try clear hb2); (try clear hk); (try clear hi)
    refine hK.out _ _ ⟨(blk_cell a3.out 0).trans rfl, (blk_cell a3.out 1).trans rfl, (blk_cell a3.out 2).trans rfl⟩ (fun hHeld => ?_)
    clear hK K
    refine norm_ (a' := ?_) ?_ ?_
    rotate_left
    ·
     show Act.put _ (some 41) _ = _
     simp only [Act.put, List.setIfInBounds_toArray, List.set_cons_zero, List.set_cons_succ, i64_w, i32_w]
     rfl
    refine pz_ 10 42 q20_11 HT_ (by kernel_rfl) ?_
    refine pz_ 11 2 q20_12 HT_ (by kernel_rfl) ?_
    refine done_ (done_of HT_.out (by kernel_rfl)) ?_
    try go_wp2
    go_ret
    exact ⟨by first | rfl | (simp [*, errW_none, errW_some] <;> rfl), by repeat (with_reducible first | exact HB.out | apply yad | apply yab | apply yac | refine yae ?_ (Aside0.out ‹_›))⟩
   rw [if_neg c23] at H
   have g5 : decide (0 < (a9.length : Int)) = false := decide_eq_false c23; have g6 : decide (0 < a9.length) = false := decide_eq_false (by omega); clear c23
   by_cases c35 : 1 + 1 ≤ 9223372036854775807
   rotate_left
   ·
    rw [if_neg c35] at H
    exact absurd H (by simp)
   rw [if_pos c35] at H
   have k9 := eq_true c35; have l1 : decide (1 + 1 ≤ 9223372036854775807) = true := decide_eq_true c35
   try have l2 : (9223372036854775807 < 1 + 1) = False := eq_false (Nat.not_lt.2 c35)
   by_cases c36 : (((⟨#[47]⟩ : ByteArray) ++ (⟨#[45]⟩ : ByteArray)) ++ (⟨#[47]⟩ : ByteArray)).size + a0_1.size ≤ 9223372036854775807
   rotate_left
   ·
    rw [if_neg c36] at H
    exact absurd H (by simp)
   rw [if_pos c36] at H
   have l3 := eq_true c36; have l4 : decide ((((⟨#[47]⟩ : ByteArray) ++ (⟨#[45]⟩ : ByteArray)) ++ (⟨#[47]⟩ : ByteArray)).size + a0_1.size ≤ 9223372036854775807) = true := decide_eq_true c36
   try have l5 : (9223372036854775807 < (((⟨#[47]⟩ : ByteArray) ++ (⟨#[45]⟩ : ByteArray)) ++ (⟨#[47]⟩ : ByteArray)).size + a0_1.size) = False := eq_false (Nat.not_lt.2 c36)
   try (have c8 := c36; simp only [ByteArray.size_append', ByteArray.size_mk', List.size_toArray, List.length_cons, List.length_nil, Nat.zero_add, Nat.reduceAdd] at c8; replace c8 := eq_false (Nat.not_lt.2 c8))
   by_cases c37 : ((((⟨#[47]⟩ : ByteArray) ++ (⟨#[45]⟩ : ByteArray)) ++ (⟨#[47]⟩ : ByteArray)) ++ a0_1).size + 3 ≤ 9223372036854775807
   rotate_left
   ·
    rw [if_neg c37] at H
    exact absurd H (by simp)
   rw [if_pos c37] at H
   have l6 := eq_true c37; have l7 : decide (((((⟨#[47]⟩ : ByteArray) ++ (⟨#[45]⟩ : ByteArray)) ++ (⟨#[47]⟩ : ByteArray)) ++ a0_1).size + 3 ≤ 9223372036854775807) = true := decide_eq_true c37
   try have l8 : (9223372036854775807 < ((((⟨#[47]⟩ : ByteArray) ++ (⟨#[45]⟩ : ByteArray)) ++ (⟨#[47]⟩ : ByteArray)) ++ a0_1).size + 3) = False := eq_false (Nat.not_lt.2 c37)
   try (have c9 := c37; simp only [ByteArray.size_append', ByteArray.size_mk', List.size_toArray, List.length_cons, List.length_nil, Nat.zero_add, Nat.reduceAdd] at c9; replace c9 := eq_false (Nat.not_lt.2 c9))
   obtain ⟨d9, A38, H⟩ := bindA H; (try dsimp only at H)
   by_cases c39 : (((((⟨#[47]⟩ : ByteArray) ++ (⟨#[45]⟩ : ByteArray)) ++ (⟨#[47]⟩ : ByteArray)) ++ a0_1) ++ (⟨#[63, 101, 61]⟩ : ByteArray)).size + d9.size ≤ 9223372036854775807
   rotate_left
   ·
    rw [if_neg c39] at H
    exact absurd H (by simp)
   rw [if_pos c39] at H
   have l9 := eq_true c39; have m0 : decide ((((((⟨#[47]⟩ : ByteArray) ++ (⟨#[45]⟩ : ByteArray)) ++ (⟨#[47]⟩ : ByteArray)) ++ a0_1) ++ (⟨#[63, 101, 61]⟩ : ByteArray)).size + d9.size ≤ 9223372036854775807) = true := decide_eq_true c39
   try have m1 : (9223372036854775807 < (((((⟨#[47]⟩ : ByteArray) ++ (⟨#[45]⟩ : ByteArray)) ++ (⟨#[47]⟩ : ByteArray)) ++ a0_1) ++ (⟨#[63, 101, 61]⟩ : ByteArray)).size + d9.size) = False := eq_false (Nat.not_lt.2 c39)
   try (have d0 := c39; simp only [ByteArray.size_append', ByteArray.size_mk', List.size_toArray, List.length_cons, List.length_nil, Nat.zero_add, Nat.reduceAdd] at d0; replace d0 := eq_false (Nat.not_lt.2 d0))
   obtain rfl := Option.some.inj H; obtain ⟨m8, m9, i9⟩ := Kd.R_slice a5.out; subst i9
   try go_wp2
   replace a5 := yaa (Kd.R_drew a5.out); replace a3 := yaa (blk_drew a3.out); replace HB := yaa (yac HB.out)
   refine start_ (n := 12) (S := fun w' => w'.cell? ⟨a6, 0, none⟩ = some (.slice A0_0 l0_0.length c0_0) ∧ w'.cell? ⟨a6, 1, none⟩ = some (.string a0_1) ∧ w'.cell? ⟨a6, 2, none⟩ = some (.int .i64 a0_2)) (ds := []) q20_0 (by kernel_rfl) rfl rfl ⟨(blk_cell a3.out 0).trans rfl, (blk_cell a3.out 1).trans rfl, (blk_cell a3.out 2).trans rfl⟩ (fun hHeld => ?_); refine with_tabW impl_AskText.tab12 impl_AskText.bits12 (fun HT_ HW_ => ?_)
   generalize wr.drew = w41 at a5 a3 HB hHeld ⊢
   refine pz_ 0 32 q20_1 HT_ (by kernel_rfl) ?_
   refine pz_ 1 33 q20_2 HT_ (by kernel_rfl) ?_
   refine pz_ 2 34 q20_3 HT_ (by kernel_rfl) ?_
   refine pz_ 3 35 q20_4 HT_ (by kernel_rfl) ?_
   refine pz_ 7 39 q20_5 HT_ (by kernel_rfl) ?_
   refine tz_ 4 36 q20_6 HT_ HW_ (by kernel_rfl) hHeld ?_
   refine pz_ 5 37 q20_7 HT_ (by kernel_rfl) ?_
   refine pz_ 6 38 q20_8 HT_ (by kernel_rfl) ?_
   refine tz_ 8 40 q20_9 HT_ HW_ (by kernel_rfl) hHeld ?_
   refine one_ (i := 9) (N := some 41) q20_10 rfl rfl (one_of HT_.out (by kernel_rfl)) (by decide) (fun K hK => ?_)
   refine goes_ Tryz.func47 (by kernel_rfl) rfl #[.int .i64 a0_2] (by rfl) rfl rfl (by (try simp only [List.map_toArray, List.map_cons, List.map_nil]); first | done | rfl | (simp only [List.length_drop, List.length_take]; rfl)) ?_
   (with_reducible refine (strconv_Itoa_47.calls a0_2 d9 _ A38.out ?sideG).mono ?_); (case sideG => exact GlobP.belowW (Glob.toP HG.out) (by repeat (first | (with_reducible first | exact HB.out | apply yad | apply yab | apply yac | refine yae ?_ (Aside0.out ‹_›)) | exact HB.out | exact Below.refl _ _)))
   rintro e w42 ⟨rfl, hb⟩; refine ⟨_, rfl, ?_⟩; have n0_ := yaa (Kd.R_below (upR a5.out) hb); have n1_ := yaa (blk_below (upB a3.out) hb)
   have n2_ := yaa (below_step (by repeat (with_reducible first | exact HB.out | apply yad | apply yab | apply yac | refine yae ?_ (Aside0.out ‹_›))) hb)
   clear a5; clear a3; clear HB; have a5 := n0_; have a3 := n1_; have HB := n2_; clear n0_ n1_ n2_; (try clear hb); (try clear hb2); (try clear hk); (try clear hi)
   refine hK.out _ _ ⟨(blk_cell a3.out 0).trans rfl, (blk_cell a3.out 1).trans rfl, (blk_cell a3.out 2).trans rfl⟩ (fun hHeld => ?_)
   clear hK K
   refine norm_ (a' := ?_) ?_ ?_
   rotate_left
   ·
    show Act.put _ (some 41) _ = _
    simp only [Act.put, List.setIfInBounds_toArray, List.set_cons_zero, List.set_cons_succ, i64_w, i32_w]
    rfl
   refine pz_ 10 42 q20_11 HT_ (by kernel_rfl) ?_
   refine pz_ 11 2 q20_12 HT_ (by kernel_rfl) ?_
   refine done_ (done_of HT_.out (by kernel_rfl)) ?_
   try go_wp2
   go_ret
   exact ⟨by first | rfl | (simp [*, errW_none, errW_some] <;> rfl), by repeat (with_reducible first | exact HB.out | apply yad | apply yab | apply yac | refine yae ?_ (Aside0.out ‹_›))⟩
end
section
def kindGo (s : ByteArray) : Nat → Nat → Int × Bool
  | 0, _ => (0, false)
  | n + 1, i => if (formW i).toList = s.toList then ((i : Int), true) else kindGo s n (i + 1)
set_option maxHeartbeats 4000000 in
set_option maxRecDepth 100000 in
theorem opKind_calls (s : ByteArray) (w : World) (hG : Glob w) :
    Calls Tryz.prog 65 #[.string s] w fun e w' => e = .returned (.tuple #[.int .i64 (kindGo s 8 1).1, .bool (kindGo s 8 1).2]) ∧ Below w.heap.size w w' := by
  have HG := Aside0.mk hG; clear hG
  obtain ⟨r, hr⟩ : ∃ r, kindGo s 8 1 = r := ⟨_, rfl⟩
  have HR := Aside0.mk hr
  rw [hr]; clear hr
  go_enter Tryz.func65, Tryz.ntmps65
  go_wp2
  go_loopg [4] 8 (fun kq v4 w' => ∃ i : Nat, kq + i = 9 ∧ 1 ≤ i ∧ v4 = .int .i64 i ∧ Aside0 (kindGo s kq i = r) ∧ Aside0 (Below w.heap.size w w'))
  case atStart => exact ⟨1, by omega, by omega, rfl, HR, Aside0.mk (Below.refl _ _)⟩
  case round =>
    clear HR
    obtain ⟨i, hk, h1, rfl, HR, HB⟩ := hrel
    by_cases h9 : i < 9
    · have HG2 := Aside0.mk (HG.out.belowW HB.out)
      obtain ⟨x0, x1⟩ := form_word HG2.out i h9
      obtain ⟨fw, hfw⟩ : ∃ fw, formW i = fw := ⟨_, rfl⟩
      have HFW := Aside0.mk hfw
      rw [hfw] at x0
      clear hfw x1
      have H2 := HR.out
      rw [show gk = (gk - 1) + 1 by omega, kindGo, HFW.out] at H2
      by_cases hc : fw.toList = s.toList
      · rw [if_pos hc] at H2
        have H3 := Aside0.mk H2
        have k0 : (fw.toList == s.toList) = true := beq_iff_eq.mpr hc
        have k1 : decide (fw.toList = s.toList) = true := decide_eq_true hc
        clear H2 hc
        go_wp2
        go_ret2
        refine ⟨?_, HB.out⟩
        rw [← H3.out]; rfl
      · rw [if_neg hc] at H2
        have H3 := Aside0.mk H2
        have k0 : (fw.toList == s.toList) = false := beq_eq_false_iff_ne.mpr hc
        have k1 : decide (fw.toList = s.toList) = false := decide_eq_false hc
        clear H2 hc
        go_wp2
        go_roundg (gk - 1)
        case measure => omega
        case rel => exact ⟨i + 1, by omega, by omega, by first | rfl | (simp; done) | (unfold wrap64; simp; omega), H3, HB⟩
    · have H2 := HR.out
      rw [show gk = 0 by omega, kindGo] at H2
      have H3 := Aside0.mk H2
      clear H2
      go_wp2
      go_ret2
      refine ⟨?_, HB.out⟩
      rw [← H3.out]; rfl
def scanF (k : Nat) : List ByteArray → Bool → Option (List Int × Bool)
  | [], fl => some ([], fl)
  | p :: ps, fl => (impl_numberRead.f k p).bind fun r => (scanF k ps (fl || !r.2)).bind fun x => some (r.1 :: x.1, x.2)
theorem cells2_at {w : World} {B : Nat} {a b : Value} {t : TypeId} (h : w.heap[B]? = some (.cells #[a, b] t (0, 0))) : w.cell? ⟨B, 0, none⟩ = some a ∧ w.cell? ⟨B, 1, none⟩ = some b := ⟨(cell_of_row _ _ _ _ _ _ h).trans rfl, (cell_of_row _ _ _ _ _ _ h).trans rfl⟩
set_option maxHeartbeats 4000000 in
set_option maxRecDepth 100000 in
theorem scanPart_calls (k B : Nat) (rest : ByteArray) (fl : Bool) (s : ByteArray) (n : Int) (ok : Bool) (w : World) (hb : w.heap[B]? = some (.cells #[.string rest, .bool fl] 60 (0, 0))) (h : impl_numberRead.f k s = some (n, ok)) :
    Calls Tryz.prog 34 #[.pointer (some ⟨B, 0, none⟩), .string s, .func (.func 35) #[] #[]] w fun e w' => e = .returned (.int .i64 n) ∧ ∃ m, w' = (w.drewN m).setCell ⟨B, 1, none⟩ (.bool (fl || !ok)) := by
  have H := Aside0.mk h; clear h
  obtain ⟨x0, x1⟩ := cells2_at hb
  have y1 := blk_frozen hb 1
  have hx : ∀ m, (w.drewN m).cell? ⟨B, 1, none⟩ = some (.bool fl) := fun m => x1
  have hy : ∀ m, (w.drewN m).frozen? ⟨B, 1, none⟩ = false := fun m => y1
  clear hb x0
  have henter : ∀ (args : Array Value) (W : World), (callFunc 35 args).run Tryz.prog W = .ok (.enter 35 args) W := fun args W => enters_ Tryz.func35 (by kernel_rfl) rfl args W
  cases fl with
  | true =>
    go_enter Tryz.func34, Tryz.ntmps34
    go_wp2_with (refine (impl_numberRead.calls k s n ok _ H.out).mono ?_; rintro e w2 ⟨rfl, ⟨m, rfl⟩⟩)
    go_ret
    exact ⟨rfl, m, rfl⟩
  | false =>
    go_enter Tryz.func34, Tryz.ntmps34
    go_wp2_with (refine (impl_numberRead.calls k s n ok _ H.out).mono ?_; rintro e w2 ⟨rfl, ⟨m, rfl⟩⟩)
    go_ret
    exact ⟨rfl, m, rfl⟩
def partsB (s sep : ByteArray) : List ByteArray := Lib.splitB sep 0 (Lib.countB s sep) s
theorem partsB_len (s sep : ByteArray) (h1 : 1 ≤ sep.size) : (partsB s sep).length = Lib.countB s sep + 1 := Lib.splitB_all sep h1 0 _ s rfl
theorem partsB_le (s sep : ByteArray) (h1 : 1 ≤ sep.size) : (partsB s sep).length ≤ s.size + 1 := by
  rw [partsB_len s sep h1]
  have := Lib.countB_le sep h1 s.size s (Nat.le_refl _)
  omega
theorem split_calls (s sep : ByteArray) (w : World) (hG : Glob w) (hs : s.size ≤ 1048576) (h1 : 1 ≤ sep.size) :
    Calls Tryz.prog 63 #[.string s, .string sep] w fun e w' => e = .returned (.slice (some ⟨w.heap.size, 0, none⟩) (partsB s sep).length (partsB s sep).length) ∧ w' = w.alloc (.cells ((partsB s sep).map Value.string).toArray 9) := by
  obtain ⟨m, hm⟩ := hG.max
  rw [partsB_len s sep h1]
  exact Tryz.strings_Split s sep m w (by omega) hm h1
theorem partR_at {w : World} {P : Nat} {ps : List ByteArray} {t : TypeId} {fr : Nat × Nat} (h : w.heap[P]? = some (.cells (ps.map Value.string).toArray t fr)) {i : Nat} {p : ByteArray} (hi : ps[i]? = some p) : w.cell? ⟨P, i, none⟩ = some (.string p) := by
  rw [cell_of_row _ _ _ _ _ _ h]
  simp [hi]
set_option maxHeartbeats 4000000 in
set_option maxRecDepth 100000 in
theorem scanInt_calls (k B : Nat) (rest s sep : ByteArray) (ns : List Int) (fl : Bool) (w : World) (hG : Glob w) (hs : s.size ≤ 1048576) (h1 : 1 ≤ sep.size) (hb : w.heap[B]? = some (.cells #[.string rest, .bool false] 60 (0, 0))) (h : scanF k (partsB s sep) false = some (ns, fl)) :
    Calls Tryz.prog 66 #[.pointer (some ⟨B, 0, none⟩), .string s, .string sep, .func (.func 35) #[] #[]] w fun e w' => ∃ v, e = .returned v ∧ Kd.R (Kd.int .i64) 3 w' B (fun j => B < j) v ns ∧ w'.heap[B]? = some (.cells #[.string rest, .bool fl] 60 (0, 0)) ∧ Below B w w' := by
  have hBl := blk_lt hb
  obtain ⟨ps, hps⟩ : ∃ ps, partsB s sep = ps := ⟨_, rfl⟩
  have hple := partsB_le s sep h1
  rw [hps] at h hple
  obtain ⟨P, hP⟩ : ∃ P, w.heap.size = P := ⟨_, rfl⟩
  have HPS := Aside0.mk hps; have HG := Aside0.mk hG; have HS := Aside0.mk hs; have H1 := Aside0.mk h1; have HB := Aside0.mk hb; have H := Aside0.mk h; have HL := Aside0.mk hple; have HPq := Aside0.mk hP; have HBP := Aside0.mk (show B < P by omega)
  clear hps hG hs h1 hb h hple hP hBl
  obtain ⟨n, hn⟩ : ∃ n, ps.length = n := ⟨_, rfl⟩
  have HN := Aside0.mk hn
  have hn2 : (n : Int) ≤ 1048577 := by have := HL.out; have := HS.out; omega
  clear hn
  go_enter Tryz.func66, Tryz.ntmps66
  go_wp2_with (go_at_call 63; refine (split_calls s sep _ HG.out HS.out H1.out).mono ?_; rintro e w2 ⟨rfl, hw2⟩; rw [HPS.out, HN.out, HPq.out]; have HW := Aside0.mk hw2; clear hw2)
  have HP2 : Aside0 (w2.heap[P]? = some (.cells (ps.map Value.string).toArray 9 (0, 0))) := ⟨by rw [HW.out, HPS.out, ← HPq.out]; exact heap_alloc_new _ _⟩
  have HB2 : Aside0 (w2.heap[B]? = some (.cells #[.string rest, .bool false] 60 (0, 0))) := ⟨by rw [HW.out]; exact blk_below HB.out ((Below.refl _ _).alloc (Nat.le_refl _) _)⟩
  have HBel : Aside0 (Below B w w2) := ⟨by rw [HW.out]; exact (Below.refl _ _).alloc (by rw [HPq.out]; exact Nat.le_of_lt HBP.out) _⟩
  clear HW HB
  go_loopg [9, 16] n (fun kq v9 v16 w' => ∃ (i : Nat) (acc ms : List Int) (fi : Bool), kq + i = n ∧ v16 = .int .i64 i ∧ Aside0 (scanF k (ps.drop i) fi = some (ms, fl)) ∧ Aside0 (acc ++ ms = ns) ∧ Aside0 (acc.length = i) ∧ Aside0 (Kd.R (Kd.int .i64) 3 w' B (fun j => B < j ∧ j ≠ P) v9 acc) ∧ Aside0 (w'.heap[B]? = some (.cells #[.string rest, .bool fi] 60 (0, 0))) ∧ Aside0 (w'.heap[P]? = some (.cells (ps.map Value.string).toArray 9 (0, 0))) ∧ Aside0 (Below B w w'))
  case atStart => exact ⟨0, [], ns, false, by omega, rfl, H, Aside0.mk rfl, Aside0.mk rfl, Aside0.mk (Kd.R_nil _ _ _ _ _), HB2, HP2, HBel⟩
  case round =>
    clear H HB2 HP2 HBel
    obtain ⟨i, acc, ms, fi, hk, rfl, H, HA, HAL, HR, HBi, HPi, HBel⟩ := hrel
    by_cases hi : i < n
    · have hi2 : i < ps.length := by rw [HN.out]; exact hi
      obtain ⟨p, hp⟩ : ∃ p, ps[i]? = some p := ⟨_, List.getElem?_eq_getElem hi2⟩
      have hd : ps.drop i = p :: ps.drop (i + 1) := by
        rw [List.drop_eq_getElem_cons hi2]
        congr 1
        rw [List.getElem?_eq_getElem hi2] at hp
        exact Option.some.inj hp
      have x := partR_at HPi.out hp
      have H2 := H.out
      rw [hd, scanF] at H2
      obtain ⟨⟨q, ok⟩, hq, H2⟩ := Option.bind_eq_some_iff.1 H2
      obtain ⟨⟨ms2, fl2⟩, hm, H2⟩ := Option.bind_eq_some_iff.1 H2
      obtain ⟨rfl, rfl⟩ := Prod.mk.inj (Option.some.inj H2)
      have HQ := Aside0.mk hq; have HM := Aside0.mk hm
      clear hi2 hp hd H2 hq hm H
      have hin : (i : Int) < (n : Int) := by omega
      go_wp2_with (first
        | (go_at_call 34; refine (scanPart_calls k B rest fi p q ok _ HBi.out HQ.out).mono ?_; rintro e w3 ⟨rfl, m, hw3⟩; have HW3 := Aside0.mk hw3; have HB3 : Aside0 (w3.heap[B]? = some (.cells #[.string rest, .bool (fi || !ok)] 60 (0, 0))) := ⟨by rw [hw3]; exact blk_set (cs := #[.string rest, .bool fi]) (w := wr.drewN m) HBi.out 1 _⟩; have HP3 : Aside0 (w3.heap[P]? = some (.cells (ps.map Value.string).toArray 9 (0, 0))) := ⟨by rw [hw3]; exact blk_far (w := wr.drewN m) HPi.out (p := ⟨B, 1, none⟩) (by have := HBP.out; show P ≠ B; omega) _⟩; have HR3 : Aside0 (Kd.R (Kd.int .i64) 3 w3 B (fun j => B < j ∧ j ≠ P) u9 acc) := ⟨by rw [hw3]; exact Kd.R_far (p := ⟨B, 1, none⟩) (Kd.R_drewN HR.out m) (fun j hj => by show j ≠ B; omega) _⟩; have HBel3 : Aside0 (Below B w w3) := ⟨by rw [hw3]; exact (pw_below_drewN HBel.out m).setCell (Nat.le_refl _) _⟩; clear hw3 HW3)
        | ((with_reducible refine gate_builtin (b := .append) (xs := #[.tmp 20, .tmp 25]) rfl ?_); at_builtin; refine Kd.R_append (Kd.int .i64) (w0 := w) B rfl (.tmp 20) (.tmp 25) 78 3 (.int .i64 0) 8 rfl Tryz.underlying78 info3 rfl (by decide) (by omega) u9 acc q [.int .i64 q] (fun j => B < j ∧ j ≠ P) (fun _ => False) rfl rfl ?aP (fun _ hk => hk.elim) ?aF ?aO ?aB ?aS ?aL ?_; (case aP => exact rfl); (case aB => exact HBel3.out); (case aF => intro j hj; have := blk_lt HP3.out; have := HBP.out; exact ⟨by omega, by omega⟩); (case aO => exact HR3.out); (case aS => have := blk_lt HB3.out; omega); (case aL => have := HAL.out; omega); intro v1 w4 ho hb hg hat; have HR4 := Aside0.mk ho; have HBel4 := Aside0.mk hb; have hown := HR3.out.1; have HB4 : Aside0 (w4.heap[B]? = some (.cells #[.string rest, .bool (fi || !ok)] 60 (0, 0))) := ⟨(hg.block B (blk_lt HB3.out) (fun h => absurd (hown B h.symm).1 (by omega))).trans HB3.out⟩; have HP4 : Aside0 (w4.heap[P]? = some (.cells (ps.map Value.string).toArray 9 (0, 0))) := ⟨(hg.block P (blk_lt HP3.out) (fun h => absurd rfl (hown P h.symm).2)).trans HP3.out⟩; clear ho hb hg hat hown))
      go_roundg (gk - 1)
      case measure => omega
      case rel => exact ⟨i + 1, acc ++ [q], ms2, fi || !ok, by omega, by first | rfl | (simp; done) | (unfold wrap64; simp; omega), HM, Aside0.mk (by rw [← HA.out, List.append_assoc]; rfl), Aside0.mk (by rw [List.length_append, HAL.out]; rfl), HR4, HB4, HP4, HBel4⟩
    · have hin : ¬ ((i : Int) < (n : Int)) := by omega
      have hlast : ms = [] ∧ fi = fl := by
        have H2 := H.out
        rw [List.drop_of_length_le (by rw [HN.out]; omega), scanF] at H2
        obtain ⟨e1, e2⟩ := Prod.mk.inj (Option.some.inj H2)
        exact ⟨e1.symm, e2⟩
      obtain ⟨rfl, rfl⟩ := hlast
      have e := HA.out
      rw [List.append_nil] at e
      subst e
      go_wp2
      go_ret
      exact ⟨_, rfl, Kd.R_mono HR.out (fun _ h => h.1), HBi.out, HBel.out⟩
end
end Go.Proofs.YtmplnpjdbfedbaaGreatDoor.X
namespace Go.Proofs.YtmplnpjdbfedbaaGreatDoor.X
open Go.RowKit Go.Proofs.YtmplnpjdbfedbaaGreatDoorW.PrintWords Go.Proofs.YtmplnpjdbfedbaaGreatDoorW.PrintLast Go.Proofs.YtmplnpjdbfedbaaGreatDoorW.PrintMore
attribute [local go_sem] max2_int min2_int max_two min_two max_three min_three max_four min_four
set_option linter.unusedVariables false
set_option linter.unusedSimpArgs false
def zR : Int × Int × Int × Int × Int × Bool := (0, 0, 0, 0, 0, false)
def opEnd (k : Nat) (s : ByteArray) (kd a b c d : Int) : Option (Int × Int × Int × Int × Int × Bool) := (impl_OpOk.f k kd a b c d).bind fun t => if t = true then (impl_OpText.f k kd a b c d).bind fun x => if x.toList = s.toList then some (kd, a, b, c, d, true) else some zR else some zR
def pad4 (l : List Int) : List Int := l ++ List.replicate (4 - l.length) 0
def impl_OpRead.f (k : Nat) (a0 : ByteArray) : Option (Int × Int × Int × Int × Int × Bool) := if a0.size ≤ 1048576 then (if (kindGo ⟨(Lib.cut a0.data.toList [46]).1.toArray⟩ 8 1).2 = true then (if (Lib.cut a0.data.toList [46]).2.2 = true then (if (Lib.cut a0.data.toList [46]).2.1.toArray.size ≤ 1048576 then (scanF k (partsB ⟨(Lib.cut a0.data.toList [46]).2.1.toArray⟩ ⟨#[46]⟩) false).bind fun x => if x.2 = true then some zR else if 4 < x.1.length then some zR else opEnd k a0 (kindGo ⟨(Lib.cut a0.data.toList [46]).1.toArray⟩ 8 1).1 ((pad4 x.1).getD 0 0) ((pad4 x.1).getD 1 0) ((pad4 x.1).getD 2 0) ((pad4 x.1).getD 3 0) else none) else opEnd k a0 (kindGo ⟨(Lib.cut a0.data.toList [46]).1.toArray⟩ 8 1).1 0 0 0 0) else some zR) else none
section
variable {w w0 : World} {g b B : Nat} {t : TypeId} {a0 a1 a2 a3 a4 c0 c1 c2 c3 c4 : Value} {cs : Array Value}
theorem blk5 (h : w.heap[g]? = some (.cells #[a0, a1, a2, a3, a4] t (0, 0))) : (((((w.setCell ⟨g, 0, none⟩ c0).setCell ⟨g, 1, none⟩ c1).setCell ⟨g, 2, none⟩ c2).setCell ⟨g, 3, none⟩ c3).setCell ⟨g, 4, none⟩ c4).heap[g]? = some (.cells #[c0, c1, c2, c3, c4] t (0, 0)) :=
 blk_set (blk_set (blk_set (blk_set (blk_set h 0 _) 1 _) 2 _) 3 _) 4 _
theorem far5 (h : w.heap[g]? = some (.cells cs t (0, 0))) (hne : g ≠ b) : (((((w.setCell ⟨b, 0, none⟩ c0).setCell ⟨b, 1, none⟩ c1).setCell ⟨b, 2, none⟩ c2).setCell ⟨b, 3, none⟩ c3).setCell ⟨b, 4, none⟩ c4).heap[g]? = some (.cells cs t (0, 0)) :=
 blk_far (p := ⟨b, 4, none⟩) (blk_far (p := ⟨b, 3, none⟩) (blk_far (p := ⟨b, 2, none⟩) (blk_far (p := ⟨b, 1, none⟩) (blk_far (p := ⟨b, 0, none⟩) h hne _) hne _) hne _) hne _) hne _
theorem below5 (h : Below B w0 w) (hb : B ≤ b) : Below B w0 (((((w.setCell ⟨b, 0, none⟩ c0).setCell ⟨b, 1, none⟩ c1).setCell ⟨b, 2, none⟩ c2).setCell ⟨b, 3, none⟩ c3).setCell ⟨b, 4, none⟩ c4) :=
 ((((h.setCell (p := ⟨b, 0, none⟩) hb _).setCell (p := ⟨b, 1, none⟩) hb _).setCell (p := ⟨b, 2, none⟩) hb _).setCell (p := ⟨b, 3, none⟩) hb _).setCell (p := ⟨b, 4, none⟩) hb _
end
theorem cut_calls (s word rest : ByteArray) (more : Bool) (w : World) (hG : Glob w) (hs : s.size ≤ 1048576) (h1 : (⟨(Lib.cut s.data.toList [46]).1.toArray⟩ : ByteArray) = word) (h2 : (⟨(Lib.cut s.data.toList [46]).2.1.toArray⟩ : ByteArray) = rest) (h3 : (Lib.cut s.data.toList [46]).2.2 = more) :
  Calls Tryz.prog 62 #[.string s, .string ⟨#[46]⟩] w fun e w' => e = .returned (.tuple #[.string word, .string rest, .bool more]) ∧ Below w.heap.size w w' := by
 obtain ⟨m, hm⟩ := hG.max
 refine (Tryz.strings_Cut s ⟨#[46]⟩ m w (by omega) hm).mono ?_
 rintro e w' ⟨rfl, n, rfl⟩
 refine ⟨?_, pw_below_drewN (Below.refl _ _) n⟩
 rw [← h1, ← h2, ← h3]
theorem C_cells64 {w : World} {A : Option Addr} {xs : List Int} (h : Kd.C (Kd.int .i64) w A xs.length xs) (hn : 0 < xs.length) : ∃ ad, A = some ad ∧ ∀ j v, (nums .i64 xs)[j]? = some v → w.cell? (ad.add j) = some v := by
 obtain ⟨ad, e, _⟩ := Kd.at_int h (0 : Int) (by omega) (by omega)
 refine ⟨ad, e, fun j v hj => ?_⟩
 have hjl : j < xs.length := by
  have := (List.getElem?_eq_some_iff.1 hj).1
  simpa [nums] using this
 obtain ⟨ad', e', hx⟩ := Kd.at_int h (j : Int) (by omega) (by omega)
 rw [e] at e'; obtain rfl := Option.some.inj e'
 rw [Int.toNat_natCast] at hx
 rw [hx, ← hj]
 simp [nums, rd, List.getD_eq_getElem?_getD, hjl]
theorem splice4 (xs : List Int) (h : xs.length ≤ 4) : splice (nums .i64 (List.replicate 4 0)) 0 (nums .i64 xs) = nums .i64 (pad4 xs) := by
 unfold splice nums pad4
 rw [List.take_zero, List.nil_append, List.map_append, List.map_replicate, List.length_map, Nat.zero_add, List.map_replicate, List.drop_replicate]
theorem pad4_len (xs : List Int) (h : xs.length ≤ 4) : (pad4 xs).length = 4 := by simp [pad4]; omega
theorem nums_at {w : World} {g : Nat} {l : List Int} {t : TypeId} {fr : Nat × Nat} (h : w.heap[g]? = some (.cells (nums .i64 l).toArray t fr)) (hl : l.length = 4) : w.cell? ⟨g, 0, none⟩ = some (.int .i64 (l.getD 0 0)) ∧ w.cell? ⟨g, 1, none⟩ = some (.int .i64 (l.getD 1 0)) ∧ w.cell? ⟨g, 2, none⟩ = some (.int .i64 (l.getD 2 0)) ∧ w.cell? ⟨g, 3, none⟩ = some (.int .i64 (l.getD 3 0)) := by
 match l, hl with
 | [a, b, c, d], _ => exact ⟨(cell_of_row _ _ _ _ _ _ h).trans rfl, (cell_of_row _ _ _ _ _ _ h).trans rfl, (cell_of_row _ _ _ _ _ _ h).trans rfl, (cell_of_row _ _ _ _ _ _ h).trans rfl⟩
theorem opCut : ∀ (b : Nat) (W : World), (Instr.sliceAt 110 (.pointer (some ⟨b, 0, none⟩)) none none none).run Tryz.prog W = .ok (.slice (some ⟨b, 0, none⟩) 4 4) W := fun b W => (by (show _ = _; kernel_rfl))
theorem tup6 {a b c d e a' b' c' d' e' : Int} {f f' : Bool} (h : some (a, b, c, d, e, f) = some (a', b', c', d', e', f')) : a = a' ∧ b = b' ∧ c = c' ∧ d = d' ∧ e = e' ∧ f = f' := by
 have := Option.some.inj h
 simp only [Prod.mk.injEq] at this
 exact this
set_option maxHeartbeats 8000000 in
set_option maxRecDepth 100000 in
theorem impl_OpRead.calls (k : Nat) (a0 : ByteArray) (r1 : Int) (r2 : Int) (r3 : Int) (r4 : Int) (r5 : Int) (r6 : Bool) (w : World) (h : impl_OpRead.f k a0 = some (r1, r2, r3, r4, r5, r6)) (hG : Glob w) :
  Calls Tryz.prog 32 #[.string a0] w fun e w' => e = .returned (.tuple #[.agg #[.int .i64 r1, .int .i64 r2, .int .i64 r3, .int .i64 r4, .int .i64 r5], .bool r6]) ∧ Below w.heap.size w w' := by
 have HG := Aside0.mk hG; clear hG; have hu := Tryz.underlying65; have hz : ∀ w : World, (zeroValue 65).run Tryz.prog w = .ok (.agg #[.int .i64 0, .int .i64 0, .int .i64 0, .int .i64 0, .int .i64 0]) w := fun w => (by kernel_rfl); have hz4 : ∀ w : World, (zeroValue 110).run Tryz.prog w = .ok (.agg #[.int .i64 0, .int .i64 0, .int .i64 0, .int .i64 0]) w := fun w => (by kernel_rfl); have hzt : ∀ w : World, (zeroValue 60).run Tryz.prog w = .ok (.agg #[.string ⟨#[]⟩, .bool false]) w := fun w => (by kernel_rfl)
 unfold impl_OpRead.f at h
 split at h
 case isFalse => cases h
 rename_i hs
 obtain ⟨word, hword⟩ : ∃ x, (⟨(Lib.cut a0.data.toList [46]).1.toArray⟩ : ByteArray) = x := ⟨_, rfl⟩; obtain ⟨rest, hrest⟩ : ∃ x, (⟨(Lib.cut a0.data.toList [46]).2.1.toArray⟩ : ByteArray) = x := ⟨_, rfl⟩; obtain ⟨more, hmore⟩ : ∃ x, (Lib.cut a0.data.toList [46]).2.2 = x := ⟨_, rfl⟩
 rw [show (Lib.cut a0.data.toList [46]).2.1.toArray.size = (⟨(Lib.cut a0.data.toList [46]).2.1.toArray⟩ : ByteArray).size from rfl, hword, hrest, hmore] at h
 obtain ⟨⟨kd, kn⟩, hkd⟩ : ∃ x, kindGo word 8 1 = x := ⟨_, rfl⟩
 rw [hkd] at h
 have HS := Aside0.mk hs; have HW := Aside0.mk hword; have HRs := Aside0.mk hrest; have HM := Aside0.mk hmore; have HK := Aside0.mk hkd; clear hs hword hrest hmore hkd
 dsimp only at h
 cases kn with
 | false =>
  rw [if_neg (by decide)] at h
  obtain ⟨rfl, rfl, rfl, rfl, rfl, rfl⟩ := tup6 h
  go_enter Tryz.func32, Tryz.ntmps32
  go_wp2_with (first | ((with_reducible refine gd_ 2 rfl ?_); refine bx_ 2 rfl #[.int .i64 0, .int .i64 0, .int .i64 0, .int .i64 0, .int .i64 0] 65 ?_; intro b2 hg w4 hbox hb; have HX2 := Aside0.mk hbox; have HB4 := Aside0.mk hb; have HG2 := Aside0.mk (show w.heap.size ≤ b2 by rw [hg]; exact Nat.le_refl _); have HG4 := Aside0.mk (HG.out.belowW hb); clear hb hbox hg) | (go_at_call 62; refine (cut_calls a0 word rest _ _ HG4.out HS.out HW.out HRs.out HM.out).mono ?_; rintro e w5 ⟨rfl, hb⟩; have HX5 := Aside0.mk (blk_below HX2.out hb); have HB5 := Aside0.mk (below_step HB4.out hb); have HG5 := Aside0.mk (HG4.out.belowW hb); clear hb) | (go_at_call 65; refine (opKind_calls word _ HG5.out).mono ?_; rw [HK.out]; rintro e w6 ⟨rfl, hb⟩; have HX6 := Aside0.mk (blk_below HX5.out hb); obtain ⟨x0, x1, x2, x3, x4⟩ := cc5_ HX6.out; obtain ⟨f0, f1, f2, f3, f4⟩ := cf5_ HX6.out; have HB6 := Aside0.mk (below_step HB5.out hb); have HG6 := Aside0.mk (HG5.out.belowW hb); clear hb))
  refine bodyPost_ret (results_ct rfl _ _ b2 65 #[.int .i64 0, .int .i64 0, .int .i64 0, .int .i64 0, .int .i64 0] (0, 0) _ rfl (blk5 HX6.out) Tryz.underlying65 rfl (by kernel_rfl)) rfl ⟨rfl, below5 HB6.out HG2.out⟩
 | true =>
  rw [if_pos rfl] at h
  cases more with
  | false =>
   rw [if_neg (by decide)] at h
   unfold opEnd at h
   obtain ⟨t, ht, h⟩ := Option.bind_eq_some_iff.1 h; have HOK := Aside0.mk ht; clear ht
   cases t with
   | false =>
    rw [if_neg (by decide)] at h
    obtain ⟨rfl, rfl, rfl, rfl, rfl, rfl⟩ := tup6 h
    go_enter Tryz.func32, Tryz.ntmps32
    go_wp2_with (first | ((with_reducible refine gd_ 2 rfl ?_); refine bx_ 2 rfl #[.int .i64 0, .int .i64 0, .int .i64 0, .int .i64 0, .int .i64 0] 65 ?_; intro b2 hg w4 hbox hb; have HX2 := Aside0.mk hbox; have HB4 := Aside0.mk hb; have HG2 := Aside0.mk (show w.heap.size ≤ b2 by rw [hg]; exact Nat.le_refl _); have HG4 := Aside0.mk (HG.out.belowW hb); clear hb hbox hg) | (go_at_call 62; refine (cut_calls a0 word rest _ _ HG4.out HS.out HW.out HRs.out HM.out).mono ?_; rintro e w5 ⟨rfl, hb⟩; have HX5 := Aside0.mk (blk_below HX2.out hb); have HB5 := Aside0.mk (below_step HB4.out hb); have HG5 := Aside0.mk (HG4.out.belowW hb); clear hb) | (go_at_call 65; refine (opKind_calls word _ HG5.out).mono ?_; rw [HK.out]; rintro e w6 ⟨rfl, hb⟩; have HX6 := Aside0.mk (blk_below HX5.out hb); obtain ⟨x0, x1, x2, x3, x4⟩ := cc5_ HX6.out; obtain ⟨f0, f1, f2, f3, f4⟩ := cf5_ HX6.out; have HB6 := Aside0.mk (below_step HB5.out hb); have HG6 := Aside0.mk (HG5.out.belowW hb); clear hb) | ((with_reducible refine gd_ 9 rfl ?_); refine bx_ 9 rfl #[.int .i64 0, .int .i64 0, .int .i64 0, .int .i64 0] 110 ?_; intro b9 hg w7 hbox hb; have HX7 := Aside0.mk (blk_below HX6.out hb); have HN7 := Aside0.mk hbox; obtain ⟨n0, n1, n2, n3⟩ := cc4_ hbox; have H29 := Aside0.mk (show b2 < b9 by rw [hg]; exact blk_lt HX6.out); have HB7 := Aside0.mk (below_step HB6.out hb); have HG7 := Aside0.mk (HG6.out.belowW hb); clear hb hbox hg x0 x1 x2 x3 x4 f0 f1 f2 f3 f4) | ((with_reducible refine gd_ 12 rfl ?_); refine bx_ 12 rfl #[.int .i64 0, .int .i64 0, .int .i64 0, .int .i64 0, .int .i64 0] 65 ?_; intro b12 hg w13 hbox hb; have HX13 := Aside0.mk (blk_below HX7.out hb); have HN13 := Aside0.mk hbox; obtain ⟨m0, m1, m2, m3, m4⟩ := cc5_ hbox; obtain ⟨q0, q1, q2, q3, q4⟩ := cf5_ hbox; have H212 := Aside0.mk (show b2 < b12 by rw [hg]; exact blk_lt HX7.out); have HB13 := Aside0.mk (below_step HB7.out hb); clear hb hbox hg) | (go_at_call 67; refine (impl_OpOk.calls k kd 0 0 0 0 false _ HOK.out).mono ?_; rintro e w14 ⟨rfl, hb⟩; have HN14 := Aside0.mk (blk_below (o := .cells #[.int .i64 kd, .int .i64 0, .int .i64 0, .int .i64 0, .int .i64 0] 65 (0, 0)) (blk5 HN13.out) hb); have HX14 := Aside0.mk (blk_below (far5 HX13.out (by have := H212.out; omega)) hb); clear m0 m1 m2 m3 m4; obtain ⟨m0, m1, m2, m3, m4⟩ := cc5_ HN14.out; obtain ⟨x0, x1, x2, x3, x4⟩ := cc5_ HX14.out; obtain ⟨f0, f1, f2, f3, f4⟩ := cf5_ HX14.out; have HB14 := Aside0.mk (below_step (below5 HB13.out (by have := HG2.out; have := H212.out; omega)) hb); clear hb q0 q1 q2 q3 q4))
    refine bodyPost_ret (results_ct rfl _ _ b2 65 #[.int .i64 0, .int .i64 0, .int .i64 0, .int .i64 0, .int .i64 0] (0, 0) _ rfl (blk5 HX14.out) Tryz.underlying65 rfl (by kernel_rfl)) rfl ⟨rfl, below5 HB14.out HG2.out⟩
   | true =>
    rw [if_pos rfl] at h
    obtain ⟨tx, htx, h⟩ := Option.bind_eq_some_iff.1 h; have HTX := Aside0.mk htx; clear htx
    by_cases hc : tx.toList = a0.toList
    · rw [if_pos hc] at h
      obtain ⟨rfl, rfl, rfl, rfl, rfl, rfl⟩ := tup6 h; have k0 := beq_iff_eq.mpr hc; have k1 := bne_eq_false_iff_eq.mpr hc; clear hc
      go_enter Tryz.func32, Tryz.ntmps32
      go_wp2_with (first | ((with_reducible refine gd_ 2 rfl ?_); refine bx_ 2 rfl #[.int .i64 0, .int .i64 0, .int .i64 0, .int .i64 0, .int .i64 0] 65 ?_; intro b2 hg w4 hbox hb; have HX2 := Aside0.mk hbox; have HB4 := Aside0.mk hb; have HG2 := Aside0.mk (show w.heap.size ≤ b2 by rw [hg]; exact Nat.le_refl _); have HG4 := Aside0.mk (HG.out.belowW hb); clear hb hbox hg) | (go_at_call 62; refine (cut_calls a0 word rest _ _ HG4.out HS.out HW.out HRs.out HM.out).mono ?_; rintro e w5 ⟨rfl, hb⟩; have HX5 := Aside0.mk (blk_below HX2.out hb); have HB5 := Aside0.mk (below_step HB4.out hb); have HG5 := Aside0.mk (HG4.out.belowW hb); clear hb) | (go_at_call 65; refine (opKind_calls word _ HG5.out).mono ?_; rw [HK.out]; rintro e w6 ⟨rfl, hb⟩; have HX6 := Aside0.mk (blk_below HX5.out hb); obtain ⟨x0, x1, x2, x3, x4⟩ := cc5_ HX6.out; obtain ⟨f0, f1, f2, f3, f4⟩ := cf5_ HX6.out; have HB6 := Aside0.mk (below_step HB5.out hb); have HG6 := Aside0.mk (HG5.out.belowW hb); clear hb) | ((with_reducible refine gd_ 9 rfl ?_); refine bx_ 9 rfl #[.int .i64 0, .int .i64 0, .int .i64 0, .int .i64 0] 110 ?_; intro b9 hg w7 hbox hb; have HX7 := Aside0.mk (blk_below HX6.out hb); have HN7 := Aside0.mk hbox; obtain ⟨n0, n1, n2, n3⟩ := cc4_ hbox; have H29 := Aside0.mk (show b2 < b9 by rw [hg]; exact blk_lt HX6.out); have HB7 := Aside0.mk (below_step HB6.out hb); have HG7 := Aside0.mk (HG6.out.belowW hb); clear hb hbox hg x0 x1 x2 x3 x4 f0 f1 f2 f3 f4) | ((with_reducible refine gd_ 12 rfl ?_); refine bx_ 12 rfl #[.int .i64 0, .int .i64 0, .int .i64 0, .int .i64 0, .int .i64 0] 65 ?_; intro b12 hg w13 hbox hb; have HX13 := Aside0.mk (blk_below HX7.out hb); have HN13 := Aside0.mk hbox; obtain ⟨m0, m1, m2, m3, m4⟩ := cc5_ hbox; obtain ⟨q0, q1, q2, q3, q4⟩ := cf5_ hbox; have H212 := Aside0.mk (show b2 < b12 by rw [hg]; exact blk_lt HX7.out); have HB13 := Aside0.mk (below_step HB7.out hb); clear hb hbox hg) | (go_at_call 67; refine (impl_OpOk.calls k kd 0 0 0 0 true _ HOK.out).mono ?_; rintro e w14 ⟨rfl, hb⟩; have HN14 := Aside0.mk (blk_below (o := .cells #[.int .i64 kd, .int .i64 0, .int .i64 0, .int .i64 0, .int .i64 0] 65 (0, 0)) (blk5 HN13.out) hb); have HX14 := Aside0.mk (blk_below (far5 HX13.out (by have := H212.out; omega)) hb); clear m0 m1 m2 m3 m4; obtain ⟨m0, m1, m2, m3, m4⟩ := cc5_ HN14.out; obtain ⟨x0, x1, x2, x3, x4⟩ := cc5_ HX14.out; obtain ⟨f0, f1, f2, f3, f4⟩ := cf5_ HX14.out; have HB14 := Aside0.mk (below_step (below5 HB13.out (by have := HG2.out; have := H212.out; omega)) hb); clear hb q0 q1 q2 q3 q4) | (go_at_call 45; refine (impl_OpText.calls k kd 0 0 0 0 tx _ HTX.out (HG.out.belowW HB14.out)).mono ?_; rintro e w15 ⟨rfl, hb⟩; have HN15 := Aside0.mk (blk_below HN14.out hb); have HX15 := Aside0.mk (blk_below HX14.out hb); clear m0 m1 m2 m3 m4 x0 x1 x2 x3 x4 f0 f1 f2 f3 f4; obtain ⟨m0, m1, m2, m3, m4⟩ := cc5_ HN15.out; obtain ⟨x0, x1, x2, x3, x4⟩ := cc5_ HX15.out; obtain ⟨f0, f1, f2, f3, f4⟩ := cf5_ HX15.out; have HB15 := Aside0.mk (below_step HB14.out hb); clear hb))
      refine bodyPost_ret (results_ct rfl _ _ b2 65 #[.int .i64 kd, .int .i64 0, .int .i64 0, .int .i64 0, .int .i64 0] (0, 0) _ rfl (blk5 HX15.out) Tryz.underlying65 rfl (by kernel_rfl)) rfl ⟨rfl, below5 HB15.out HG2.out⟩
    · rw [if_neg hc] at h
      obtain ⟨rfl, rfl, rfl, rfl, rfl, rfl⟩ := tup6 h; have k0 := beq_eq_false_iff_ne.mpr hc; have k1 := bne_iff_ne.mpr hc; clear hc
      go_enter Tryz.func32, Tryz.ntmps32
      go_wp2_with (first | ((with_reducible refine gd_ 2 rfl ?_); refine bx_ 2 rfl #[.int .i64 0, .int .i64 0, .int .i64 0, .int .i64 0, .int .i64 0] 65 ?_; intro b2 hg w4 hbox hb; have HX2 := Aside0.mk hbox; have HB4 := Aside0.mk hb; have HG2 := Aside0.mk (show w.heap.size ≤ b2 by rw [hg]; exact Nat.le_refl _); have HG4 := Aside0.mk (HG.out.belowW hb); clear hb hbox hg) | (go_at_call 62; refine (cut_calls a0 word rest _ _ HG4.out HS.out HW.out HRs.out HM.out).mono ?_; rintro e w5 ⟨rfl, hb⟩; have HX5 := Aside0.mk (blk_below HX2.out hb); have HB5 := Aside0.mk (below_step HB4.out hb); have HG5 := Aside0.mk (HG4.out.belowW hb); clear hb) | (go_at_call 65; refine (opKind_calls word _ HG5.out).mono ?_; rw [HK.out]; rintro e w6 ⟨rfl, hb⟩; have HX6 := Aside0.mk (blk_below HX5.out hb); obtain ⟨x0, x1, x2, x3, x4⟩ := cc5_ HX6.out; obtain ⟨f0, f1, f2, f3, f4⟩ := cf5_ HX6.out; have HB6 := Aside0.mk (below_step HB5.out hb); have HG6 := Aside0.mk (HG5.out.belowW hb); clear hb) | ((with_reducible refine gd_ 9 rfl ?_); refine bx_ 9 rfl #[.int .i64 0, .int .i64 0, .int .i64 0, .int .i64 0] 110 ?_; intro b9 hg w7 hbox hb; have HX7 := Aside0.mk (blk_below HX6.out hb); have HN7 := Aside0.mk hbox; obtain ⟨n0, n1, n2, n3⟩ := cc4_ hbox; have H29 := Aside0.mk (show b2 < b9 by rw [hg]; exact blk_lt HX6.out); have HB7 := Aside0.mk (below_step HB6.out hb); have HG7 := Aside0.mk (HG6.out.belowW hb); clear hb hbox hg x0 x1 x2 x3 x4 f0 f1 f2 f3 f4) | ((with_reducible refine gd_ 12 rfl ?_); refine bx_ 12 rfl #[.int .i64 0, .int .i64 0, .int .i64 0, .int .i64 0, .int .i64 0] 65 ?_; intro b12 hg w13 hbox hb; have HX13 := Aside0.mk (blk_below HX7.out hb); have HN13 := Aside0.mk hbox; obtain ⟨m0, m1, m2, m3, m4⟩ := cc5_ hbox; obtain ⟨q0, q1, q2, q3, q4⟩ := cf5_ hbox; have H212 := Aside0.mk (show b2 < b12 by rw [hg]; exact blk_lt HX7.out); have HB13 := Aside0.mk (below_step HB7.out hb); clear hb hbox hg) | (go_at_call 67; refine (impl_OpOk.calls k kd 0 0 0 0 true _ HOK.out).mono ?_; rintro e w14 ⟨rfl, hb⟩; have HN14 := Aside0.mk (blk_below (o := .cells #[.int .i64 kd, .int .i64 0, .int .i64 0, .int .i64 0, .int .i64 0] 65 (0, 0)) (blk5 HN13.out) hb); have HX14 := Aside0.mk (blk_below (far5 HX13.out (by have := H212.out; omega)) hb); clear m0 m1 m2 m3 m4; obtain ⟨m0, m1, m2, m3, m4⟩ := cc5_ HN14.out; obtain ⟨x0, x1, x2, x3, x4⟩ := cc5_ HX14.out; obtain ⟨f0, f1, f2, f3, f4⟩ := cf5_ HX14.out; have HB14 := Aside0.mk (below_step (below5 HB13.out (by have := HG2.out; have := H212.out; omega)) hb); clear hb q0 q1 q2 q3 q4) | (go_at_call 45; refine (impl_OpText.calls k kd 0 0 0 0 tx _ HTX.out (HG.out.belowW HB14.out)).mono ?_; rintro e w15 ⟨rfl, hb⟩; have HN15 := Aside0.mk (blk_below HN14.out hb); have HX15 := Aside0.mk (blk_below HX14.out hb); clear m0 m1 m2 m3 m4 x0 x1 x2 x3 x4 f0 f1 f2 f3 f4; obtain ⟨m0, m1, m2, m3, m4⟩ := cc5_ HN15.out; obtain ⟨x0, x1, x2, x3, x4⟩ := cc5_ HX15.out; obtain ⟨f0, f1, f2, f3, f4⟩ := cf5_ HX15.out; have HB15 := Aside0.mk (below_step HB14.out hb); clear hb))
      refine bodyPost_ret (results_ct rfl _ _ b2 65 #[.int .i64 0, .int .i64 0, .int .i64 0, .int .i64 0, .int .i64 0] (0, 0) _ rfl (blk5 HX15.out) Tryz.underlying65 rfl (by kernel_rfl)) rfl ⟨rfl, below5 HB15.out HG2.out⟩
  | true =>
   rw [if_pos rfl] at h
   split at h
   case isFalse => cases h
   rename_i hrs
   obtain ⟨⟨ns, fl⟩, hsc, h⟩ := Option.bind_eq_some_iff.1 h; have HRS := Aside0.mk hrs; have HSC := Aside0.mk hsc; clear hrs hsc
   dsimp only at h
   cases fl with
   | true =>
    rw [if_pos rfl] at h
    obtain ⟨rfl, rfl, rfl, rfl, rfl, rfl⟩ := tup6 h
    go_enter Tryz.func32, Tryz.ntmps32
    go_wp2_with (first | ((with_reducible refine gd_ 2 rfl ?_); refine bx_ 2 rfl #[.int .i64 0, .int .i64 0, .int .i64 0, .int .i64 0, .int .i64 0] 65 ?_; intro b2 hg w4 hbox hb; have HX2 := Aside0.mk hbox; have HB4 := Aside0.mk hb; have HG2 := Aside0.mk (show w.heap.size ≤ b2 by rw [hg]; exact Nat.le_refl _); have HG4 := Aside0.mk (HG.out.belowW hb); clear hb hbox hg) | (go_at_call 62; refine (cut_calls a0 word rest _ _ HG4.out HS.out HW.out HRs.out HM.out).mono ?_; rintro e w5 ⟨rfl, hb⟩; have HX5 := Aside0.mk (blk_below HX2.out hb); have HB5 := Aside0.mk (below_step HB4.out hb); have HG5 := Aside0.mk (HG4.out.belowW hb); clear hb) | (go_at_call 65; refine (opKind_calls word _ HG5.out).mono ?_; rw [HK.out]; rintro e w6 ⟨rfl, hb⟩; have HX6 := Aside0.mk (blk_below HX5.out hb); obtain ⟨x0, x1, x2, x3, x4⟩ := cc5_ HX6.out; obtain ⟨f0, f1, f2, f3, f4⟩ := cf5_ HX6.out; have HB6 := Aside0.mk (below_step HB5.out hb); have HG6 := Aside0.mk (HG5.out.belowW hb); clear hb) | ((with_reducible refine gd_ 9 rfl ?_); refine bx_ 9 rfl #[.int .i64 0, .int .i64 0, .int .i64 0, .int .i64 0] 110 ?_; intro b9 hg w7 hbox hb; have HX7 := Aside0.mk (blk_below HX6.out hb); have HN7 := Aside0.mk hbox; obtain ⟨n0, n1, n2, n3⟩ := cc4_ hbox; have H29 := Aside0.mk (show b2 < b9 by rw [hg]; exact blk_lt HX6.out); have HB7 := Aside0.mk (below_step HB6.out hb); have HG7 := Aside0.mk (HG6.out.belowW hb); clear hb hbox hg x0 x1 x2 x3 x4 f0 f1 f2 f3 f4) | ((with_reducible refine gd_ 10 rfl ?_); refine bx_ 10 rfl #[.string ⟨#[]⟩, .bool false] 60 ?_; intro b10 hg w8 hbox hb; have HX8 := Aside0.mk (blk_below HX7.out hb); have HN8 := Aside0.mk (blk_below HN7.out hb); have HT8 := Aside0.mk hbox; have H910 := Aside0.mk (show b9 < b10 by rw [hg]; exact blk_lt HN7.out); have HB8 := Aside0.mk (below_step HB7.out hb); have HG8 := Aside0.mk (HG7.out.belowW hb); clear hb hbox hg n0 n1 n2 n3) | (go_at_call 66; refine (scanInt_calls k b10 ⟨#[]⟩ rest ⟨#[46]⟩ ns _ _ HG8.out HRS.out (by decide) HT8.out HSC.out).mono ?_; rintro e w9 ⟨v, rfl, hR, hT, hb⟩; obtain ⟨A9, c9, rfl, hc9, hr9⟩ := Kd.R_reads hR; have HR9 := Aside0.mk hr9; obtain ⟨t0, t1⟩ := cells2_at hT; have HX9 := Aside0.mk ((hb.block b2 (by have := H29.out; have := H910.out; omega)).trans HX8.out); have HN9 := Aside0.mk ((hb.block b9 H910.out).trans HN8.out); have HB9 := Aside0.mk (HB8.out.trans (hb.mono (by have := HG2.out; have := H29.out; have := H910.out; omega))); obtain ⟨n9, hn9⟩ : ∃ n, ns.length = n := ⟨_, rfl⟩; have HL9 := Aside0.mk hn9; rw [hn9]; obtain ⟨x0, x1, x2, x3, x4⟩ := cc5_ HX9.out; obtain ⟨f0, f1, f2, f3, f4⟩ := cf5_ HX9.out; clear hb hR hT hc9 hr9 hn9 t0))
    refine bodyPost_ret (results_ct rfl _ _ b2 65 #[.int .i64 0, .int .i64 0, .int .i64 0, .int .i64 0, .int .i64 0] (0, 0) _ rfl (blk5 HX9.out) Tryz.underlying65 rfl (by kernel_rfl)) rfl ⟨rfl, below5 HB9.out HG2.out⟩
   | false =>
    rw [if_neg (by decide)] at h
    by_cases h4 : 4 < ns.length
    · rw [if_pos h4] at h
      obtain ⟨rfl, rfl, rfl, rfl, rfl, rfl⟩ := tup6 h; have H4 := Aside0.mk h4; clear h4
      go_enter Tryz.func32, Tryz.ntmps32
      go_wp2_with (first | ((with_reducible refine gd_ 2 rfl ?_); refine bx_ 2 rfl #[.int .i64 0, .int .i64 0, .int .i64 0, .int .i64 0, .int .i64 0] 65 ?_; intro b2 hg w4 hbox hb; have HX2 := Aside0.mk hbox; have HB4 := Aside0.mk hb; have HG2 := Aside0.mk (show w.heap.size ≤ b2 by rw [hg]; exact Nat.le_refl _); have HG4 := Aside0.mk (HG.out.belowW hb); clear hb hbox hg) | (go_at_call 62; refine (cut_calls a0 word rest _ _ HG4.out HS.out HW.out HRs.out HM.out).mono ?_; rintro e w5 ⟨rfl, hb⟩; have HX5 := Aside0.mk (blk_below HX2.out hb); have HB5 := Aside0.mk (below_step HB4.out hb); have HG5 := Aside0.mk (HG4.out.belowW hb); clear hb) | (go_at_call 65; refine (opKind_calls word _ HG5.out).mono ?_; rw [HK.out]; rintro e w6 ⟨rfl, hb⟩; have HX6 := Aside0.mk (blk_below HX5.out hb); obtain ⟨x0, x1, x2, x3, x4⟩ := cc5_ HX6.out; obtain ⟨f0, f1, f2, f3, f4⟩ := cf5_ HX6.out; have HB6 := Aside0.mk (below_step HB5.out hb); have HG6 := Aside0.mk (HG5.out.belowW hb); clear hb) | ((with_reducible refine gd_ 9 rfl ?_); refine bx_ 9 rfl #[.int .i64 0, .int .i64 0, .int .i64 0, .int .i64 0] 110 ?_; intro b9 hg w7 hbox hb; have HX7 := Aside0.mk (blk_below HX6.out hb); have HN7 := Aside0.mk hbox; obtain ⟨n0, n1, n2, n3⟩ := cc4_ hbox; have H29 := Aside0.mk (show b2 < b9 by rw [hg]; exact blk_lt HX6.out); have HB7 := Aside0.mk (below_step HB6.out hb); have HG7 := Aside0.mk (HG6.out.belowW hb); clear hb hbox hg x0 x1 x2 x3 x4 f0 f1 f2 f3 f4) | ((with_reducible refine gd_ 10 rfl ?_); refine bx_ 10 rfl #[.string ⟨#[]⟩, .bool false] 60 ?_; intro b10 hg w8 hbox hb; have HX8 := Aside0.mk (blk_below HX7.out hb); have HN8 := Aside0.mk (blk_below HN7.out hb); have HT8 := Aside0.mk hbox; have H910 := Aside0.mk (show b9 < b10 by rw [hg]; exact blk_lt HN7.out); have HB8 := Aside0.mk (below_step HB7.out hb); have HG8 := Aside0.mk (HG7.out.belowW hb); clear hb hbox hg n0 n1 n2 n3) | (go_at_call 66; refine (scanInt_calls k b10 ⟨#[]⟩ rest ⟨#[46]⟩ ns _ _ HG8.out HRS.out (by decide) HT8.out HSC.out).mono ?_; rintro e w9 ⟨v, rfl, hR, hT, hb⟩; obtain ⟨A9, c9, rfl, hc9, hr9⟩ := Kd.R_reads hR; have HR9 := Aside0.mk hr9; obtain ⟨t0, t1⟩ := cells2_at hT; have HX9 := Aside0.mk ((hb.block b2 (by have := H29.out; have := H910.out; omega)).trans HX8.out); have HN9 := Aside0.mk ((hb.block b9 H910.out).trans HN8.out); have HB9 := Aside0.mk (HB8.out.trans (hb.mono (by have := HG2.out; have := H29.out; have := H910.out; omega))); obtain ⟨n9, hn9⟩ : ∃ n, ns.length = n := ⟨_, rfl⟩; have HL9 := Aside0.mk hn9; rw [hn9]; obtain ⟨x0, x1, x2, x3, x4⟩ := cc5_ HX9.out; obtain ⟨f0, f1, f2, f3, f4⟩ := cf5_ HX9.out; have hlen : (4 : Int) < (n9 : Int) := (by have := H4.out; omega);clear hb hR hT hc9 hr9 hn9 t0))
      refine bodyPost_ret (results_ct rfl _ _ b2 65 #[.int .i64 0, .int .i64 0, .int .i64 0, .int .i64 0, .int .i64 0] (0, 0) _ rfl (blk5 HX9.out) Tryz.underlying65 rfl (by kernel_rfl)) rfl ⟨rfl, below5 HB9.out HG2.out⟩
    · rw [if_neg h4] at h
      have H4 := Aside0.mk h4; clear h4; obtain ⟨p0, hp0⟩ : ∃ x, (pad4 ns).getD 0 0 = x := ⟨_, rfl⟩; obtain ⟨p1, hp1⟩ : ∃ x, (pad4 ns).getD 1 0 = x := ⟨_, rfl⟩; obtain ⟨p2, hp2⟩ : ∃ x, (pad4 ns).getD 2 0 = x := ⟨_, rfl⟩; obtain ⟨p3, hp3⟩ : ∃ x, (pad4 ns).getD 3 0 = x := ⟨_, rfl⟩
      rw [hp0, hp1, hp2, hp3] at h
      have P0 := Aside0.mk hp0; have P1 := Aside0.mk hp1; have P2 := Aside0.mk hp2; have P3 := Aside0.mk hp3; clear hp0 hp1 hp2 hp3
      unfold opEnd at h
      have hcut := opCut; obtain ⟨t, ht, h⟩ := Option.bind_eq_some_iff.1 h; have HOK := Aside0.mk ht; clear ht
      cases t with
      | false =>
       rw [if_neg (by decide)] at h
       obtain ⟨rfl, rfl, rfl, rfl, rfl, rfl⟩ := tup6 h
       go_enter Tryz.func32, Tryz.ntmps32
       go_wp2_with (first | ((with_reducible refine gd_ 2 rfl ?_); refine bx_ 2 rfl #[.int .i64 0, .int .i64 0, .int .i64 0, .int .i64 0, .int .i64 0] 65 ?_; intro b2 hg w4 hbox hb; have HX2 := Aside0.mk hbox; have HB4 := Aside0.mk hb; have HG2 := Aside0.mk (show w.heap.size ≤ b2 by rw [hg]; exact Nat.le_refl _); have HG4 := Aside0.mk (HG.out.belowW hb); clear hb hbox hg) | (go_at_call 62; refine (cut_calls a0 word rest _ _ HG4.out HS.out HW.out HRs.out HM.out).mono ?_; rintro e w5 ⟨rfl, hb⟩; have HX5 := Aside0.mk (blk_below HX2.out hb); have HB5 := Aside0.mk (below_step HB4.out hb); have HG5 := Aside0.mk (HG4.out.belowW hb); clear hb) | (go_at_call 65; refine (opKind_calls word _ HG5.out).mono ?_; rw [HK.out]; rintro e w6 ⟨rfl, hb⟩; have HX6 := Aside0.mk (blk_below HX5.out hb); obtain ⟨x0, x1, x2, x3, x4⟩ := cc5_ HX6.out; obtain ⟨f0, f1, f2, f3, f4⟩ := cf5_ HX6.out; have HB6 := Aside0.mk (below_step HB5.out hb); have HG6 := Aside0.mk (HG5.out.belowW hb); clear hb) | ((with_reducible refine gd_ 9 rfl ?_); refine bx_ 9 rfl #[.int .i64 0, .int .i64 0, .int .i64 0, .int .i64 0] 110 ?_; intro b9 hg w7 hbox hb; have HX7 := Aside0.mk (blk_below HX6.out hb); have HN7 := Aside0.mk hbox; obtain ⟨n0, n1, n2, n3⟩ := cc4_ hbox; have H29 := Aside0.mk (show b2 < b9 by rw [hg]; exact blk_lt HX6.out); have HB7 := Aside0.mk (below_step HB6.out hb); have HG7 := Aside0.mk (HG6.out.belowW hb); clear hb hbox hg x0 x1 x2 x3 x4 f0 f1 f2 f3 f4) | ((with_reducible refine gd_ 10 rfl ?_); refine bx_ 10 rfl #[.string ⟨#[]⟩, .bool false] 60 ?_; intro b10 hg w8 hbox hb; have HX8 := Aside0.mk (blk_below HX7.out hb); have HN8 := Aside0.mk (blk_below HN7.out hb); have HT8 := Aside0.mk hbox; have H910 := Aside0.mk (show b9 < b10 by rw [hg]; exact blk_lt HN7.out); have HB8 := Aside0.mk (below_step HB7.out hb); have HG8 := Aside0.mk (HG7.out.belowW hb); clear hb hbox hg n0 n1 n2 n3) | (go_at_call 66; refine (scanInt_calls k b10 ⟨#[]⟩ rest ⟨#[46]⟩ ns _ _ HG8.out HRS.out (by decide) HT8.out HSC.out).mono ?_; rintro e w9 ⟨v, rfl, hR, hT, hb⟩; obtain ⟨A9, c9, rfl, hc9, hr9⟩ := Kd.R_reads hR; have HR9 := Aside0.mk hr9; obtain ⟨t0, t1⟩ := cells2_at hT; have HX9 := Aside0.mk ((hb.block b2 (by have := H29.out; have := H910.out; omega)).trans HX8.out); have HN9 := Aside0.mk ((hb.block b9 H910.out).trans HN8.out); have HB9 := Aside0.mk (HB8.out.trans (hb.mono (by have := HG2.out; have := H29.out; have := H910.out; omega))); obtain ⟨n9, hn9⟩ : ∃ n, ns.length = n := ⟨_, rfl⟩; have HL9 := Aside0.mk hn9; rw [hn9]; obtain ⟨x0, x1, x2, x3, x4⟩ := cc5_ HX9.out; obtain ⟨f0, f1, f2, f3, f4⟩ := cf5_ HX9.out; have hlen : ¬ ((4 : Int) < (n9 : Int)) := (by have := H4.out; omega); have HL4 : Aside0 (n9 ≤ 4) := ⟨by have := H4.out; omega⟩;clear hb hR hT hc9 hr9 hn9 t0) | ((with_reducible refine gate_builtin (b := .copy) (xs := #[.tmp 38, .tmp 39]) rfl ?_); refine wpList_copy_splice rfl (.tmp 38) (.tmp 39) 78 78 rfl 3 Tryz.underlying78 (by kernel_rfl) _ _ _ _ _ _ rfl rfl b9 0 (nums .i64 (List.replicate 4 0)) 110 ?hg (nums .i64 ns) ?hn ?hpos ?hfit ?h1 b9 _ (Below.refl _ _) (Nat.le_refl _) ?_; (case hg => exact HN9.out); (case hn => rw [nums_length]; have := HL9.out; have := HL4.out; show _ = min _ _; omega); (case hpos => intro hps; rw [nums_length] at hps; exact ⟨rfl, C_cells64 HR9.out hps⟩); (case hfit => rw [nums_length, nums_length]; have := HL9.out; have := HL4.out; simp; omega); (case h1 => intro v hv; obtain ⟨x, _, rfl⟩ := List.mem_map.1 hv; rfl); intro w10 hg10 hb10; rw [splice4 ns (by rw [HL9.out]; exact HL4.out)] at hg10; obtain ⟨n0, n1, n2, n3⟩ := nums_at (show w10.heap[b9]? = some (.cells (nums .i64 (pad4 ns)).toArray 110 (0, 0)) from hg10) (pad4_len ns (by rw [HL9.out]; exact HL4.out)); have HX10 := Aside0.mk ((hb10.block b2 H29.out).trans HX9.out); have HB10 := Aside0.mk (HB9.out.trans (hb10.mono (by have := HG2.out; have := H29.out; omega))); rw [P0.out] at n0; rw [P1.out] at n1; rw [P2.out] at n2; rw [P3.out] at n3; clear hg10 hb10 x0 x1 x2 x3 x4 f0 f1 f2 f3 f4) | ((with_reducible refine gd_ 12 rfl ?_); refine bx_ 12 rfl #[.int .i64 0, .int .i64 0, .int .i64 0, .int .i64 0, .int .i64 0] 65 ?_; intro b12 hg w13 hbox hb; have HX13 := Aside0.mk (blk_below HX10.out hb); have HN13 := Aside0.mk hbox; obtain ⟨m0, m1, m2, m3, m4⟩ := cc5_ hbox; obtain ⟨q0, q1, q2, q3, q4⟩ := cf5_ hbox; have H212 := Aside0.mk (show b2 < b12 by rw [hg]; exact blk_lt HX10.out); have HB13 := Aside0.mk (below_step HB10.out hb); clear hb hbox hg) | (go_at_call 67; refine (impl_OpOk.calls k kd p0 p1 p2 p3 false _ HOK.out).mono ?_; rintro e w14 ⟨rfl, hb⟩; have HN14 := Aside0.mk (blk_below (o := .cells #[.int .i64 kd, .int .i64 p0, .int .i64 p1, .int .i64 p2, .int .i64 p3] 65 (0, 0)) (blk5 HN13.out) hb); have HX14 := Aside0.mk (blk_below (far5 HX13.out (by have := H212.out; omega)) hb); clear m0 m1 m2 m3 m4; obtain ⟨m0, m1, m2, m3, m4⟩ := cc5_ HN14.out; obtain ⟨x0, x1, x2, x3, x4⟩ := cc5_ HX14.out; obtain ⟨f0, f1, f2, f3, f4⟩ := cf5_ HX14.out; have HB14 := Aside0.mk (below_step (below5 HB13.out (by have := HG2.out; have := H212.out; omega)) hb); clear hb q0 q1 q2 q3 q4))
       refine bodyPost_ret (results_ct rfl _ _ b2 65 #[.int .i64 0, .int .i64 0, .int .i64 0, .int .i64 0, .int .i64 0] (0, 0) _ rfl (blk5 HX14.out) Tryz.underlying65 rfl (by kernel_rfl)) rfl ⟨rfl, below5 HB14.out HG2.out⟩
      | true =>
       rw [if_pos rfl] at h
       obtain ⟨tx, htx, h⟩ := Option.bind_eq_some_iff.1 h; have HTX := Aside0.mk htx; clear htx
       by_cases hc : tx.toList = a0.toList
       · rw [if_pos hc] at h
         obtain ⟨rfl, rfl, rfl, rfl, rfl, rfl⟩ := tup6 h; have k0 := beq_iff_eq.mpr hc; have k1 := bne_eq_false_iff_eq.mpr hc; clear hc
         go_enter Tryz.func32, Tryz.ntmps32
         go_wp2_with (first | ((with_reducible refine gd_ 2 rfl ?_); refine bx_ 2 rfl #[.int .i64 0, .int .i64 0, .int .i64 0, .int .i64 0, .int .i64 0] 65 ?_; intro b2 hg w4 hbox hb; have HX2 := Aside0.mk hbox; have HB4 := Aside0.mk hb; have HG2 := Aside0.mk (show w.heap.size ≤ b2 by rw [hg]; exact Nat.le_refl _); have HG4 := Aside0.mk (HG.out.belowW hb); clear hb hbox hg) | (go_at_call 62; refine (cut_calls a0 word rest _ _ HG4.out HS.out HW.out HRs.out HM.out).mono ?_; rintro e w5 ⟨rfl, hb⟩; have HX5 := Aside0.mk (blk_below HX2.out hb); have HB5 := Aside0.mk (below_step HB4.out hb); have HG5 := Aside0.mk (HG4.out.belowW hb); clear hb) | (go_at_call 65; refine (opKind_calls word _ HG5.out).mono ?_; rw [HK.out]; rintro e w6 ⟨rfl, hb⟩; have HX6 := Aside0.mk (blk_below HX5.out hb); obtain ⟨x0, x1, x2, x3, x4⟩ := cc5_ HX6.out; obtain ⟨f0, f1, f2, f3, f4⟩ := cf5_ HX6.out; have HB6 := Aside0.mk (below_step HB5.out hb); have HG6 := Aside0.mk (HG5.out.belowW hb); clear hb) | ((with_reducible refine gd_ 9 rfl ?_); refine bx_ 9 rfl #[.int .i64 0, .int .i64 0, .int .i64 0, .int .i64 0] 110 ?_; intro b9 hg w7 hbox hb; have HX7 := Aside0.mk (blk_below HX6.out hb); have HN7 := Aside0.mk hbox; obtain ⟨n0, n1, n2, n3⟩ := cc4_ hbox; have H29 := Aside0.mk (show b2 < b9 by rw [hg]; exact blk_lt HX6.out); have HB7 := Aside0.mk (below_step HB6.out hb); have HG7 := Aside0.mk (HG6.out.belowW hb); clear hb hbox hg x0 x1 x2 x3 x4 f0 f1 f2 f3 f4) | ((with_reducible refine gd_ 10 rfl ?_); refine bx_ 10 rfl #[.string ⟨#[]⟩, .bool false] 60 ?_; intro b10 hg w8 hbox hb; have HX8 := Aside0.mk (blk_below HX7.out hb); have HN8 := Aside0.mk (blk_below HN7.out hb); have HT8 := Aside0.mk hbox; have H910 := Aside0.mk (show b9 < b10 by rw [hg]; exact blk_lt HN7.out); have HB8 := Aside0.mk (below_step HB7.out hb); have HG8 := Aside0.mk (HG7.out.belowW hb); clear hb hbox hg n0 n1 n2 n3) | (go_at_call 66; refine (scanInt_calls k b10 ⟨#[]⟩ rest ⟨#[46]⟩ ns _ _ HG8.out HRS.out (by decide) HT8.out HSC.out).mono ?_; rintro e w9 ⟨v, rfl, hR, hT, hb⟩; obtain ⟨A9, c9, rfl, hc9, hr9⟩ := Kd.R_reads hR; have HR9 := Aside0.mk hr9; obtain ⟨t0, t1⟩ := cells2_at hT; have HX9 := Aside0.mk ((hb.block b2 (by have := H29.out; have := H910.out; omega)).trans HX8.out); have HN9 := Aside0.mk ((hb.block b9 H910.out).trans HN8.out); have HB9 := Aside0.mk (HB8.out.trans (hb.mono (by have := HG2.out; have := H29.out; have := H910.out; omega))); obtain ⟨n9, hn9⟩ : ∃ n, ns.length = n := ⟨_, rfl⟩; have HL9 := Aside0.mk hn9; rw [hn9]; obtain ⟨x0, x1, x2, x3, x4⟩ := cc5_ HX9.out; obtain ⟨f0, f1, f2, f3, f4⟩ := cf5_ HX9.out; have hlen : ¬ ((4 : Int) < (n9 : Int)) := (by have := H4.out; omega); have HL4 : Aside0 (n9 ≤ 4) := ⟨by have := H4.out; omega⟩;clear hb hR hT hc9 hr9 hn9 t0) | ((with_reducible refine gate_builtin (b := .copy) (xs := #[.tmp 38, .tmp 39]) rfl ?_); refine wpList_copy_splice rfl (.tmp 38) (.tmp 39) 78 78 rfl 3 Tryz.underlying78 (by kernel_rfl) _ _ _ _ _ _ rfl rfl b9 0 (nums .i64 (List.replicate 4 0)) 110 ?hg (nums .i64 ns) ?hn ?hpos ?hfit ?h1 b9 _ (Below.refl _ _) (Nat.le_refl _) ?_; (case hg => exact HN9.out); (case hn => rw [nums_length]; have := HL9.out; have := HL4.out; show _ = min _ _; omega); (case hpos => intro hps; rw [nums_length] at hps; exact ⟨rfl, C_cells64 HR9.out hps⟩); (case hfit => rw [nums_length, nums_length]; have := HL9.out; have := HL4.out; simp; omega); (case h1 => intro v hv; obtain ⟨x, _, rfl⟩ := List.mem_map.1 hv; rfl); intro w10 hg10 hb10; rw [splice4 ns (by rw [HL9.out]; exact HL4.out)] at hg10; obtain ⟨n0, n1, n2, n3⟩ := nums_at (show w10.heap[b9]? = some (.cells (nums .i64 (pad4 ns)).toArray 110 (0, 0)) from hg10) (pad4_len ns (by rw [HL9.out]; exact HL4.out)); have HX10 := Aside0.mk ((hb10.block b2 H29.out).trans HX9.out); have HB10 := Aside0.mk (HB9.out.trans (hb10.mono (by have := HG2.out; have := H29.out; omega))); rw [P0.out] at n0; rw [P1.out] at n1; rw [P2.out] at n2; rw [P3.out] at n3; clear hg10 hb10 x0 x1 x2 x3 x4 f0 f1 f2 f3 f4) | ((with_reducible refine gd_ 12 rfl ?_); refine bx_ 12 rfl #[.int .i64 0, .int .i64 0, .int .i64 0, .int .i64 0, .int .i64 0] 65 ?_; intro b12 hg w13 hbox hb; have HX13 := Aside0.mk (blk_below HX10.out hb); have HN13 := Aside0.mk hbox; obtain ⟨m0, m1, m2, m3, m4⟩ := cc5_ hbox; obtain ⟨q0, q1, q2, q3, q4⟩ := cf5_ hbox; have H212 := Aside0.mk (show b2 < b12 by rw [hg]; exact blk_lt HX10.out); have HB13 := Aside0.mk (below_step HB10.out hb); clear hb hbox hg) | (go_at_call 67; refine (impl_OpOk.calls k kd p0 p1 p2 p3 true _ HOK.out).mono ?_; rintro e w14 ⟨rfl, hb⟩; have HN14 := Aside0.mk (blk_below (o := .cells #[.int .i64 kd, .int .i64 p0, .int .i64 p1, .int .i64 p2, .int .i64 p3] 65 (0, 0)) (blk5 HN13.out) hb); have HX14 := Aside0.mk (blk_below (far5 HX13.out (by have := H212.out; omega)) hb); clear m0 m1 m2 m3 m4; obtain ⟨m0, m1, m2, m3, m4⟩ := cc5_ HN14.out; obtain ⟨x0, x1, x2, x3, x4⟩ := cc5_ HX14.out; obtain ⟨f0, f1, f2, f3, f4⟩ := cf5_ HX14.out; have HB14 := Aside0.mk (below_step (below5 HB13.out (by have := HG2.out; have := H212.out; omega)) hb); clear hb q0 q1 q2 q3 q4) | (go_at_call 45; refine (impl_OpText.calls k kd p0 p1 p2 p3 tx _ HTX.out (HG.out.belowW HB14.out)).mono ?_; rintro e w15 ⟨rfl, hb⟩; have HN15 := Aside0.mk (blk_below HN14.out hb); have HX15 := Aside0.mk (blk_below HX14.out hb); clear m0 m1 m2 m3 m4 x0 x1 x2 x3 x4 f0 f1 f2 f3 f4; obtain ⟨m0, m1, m2, m3, m4⟩ := cc5_ HN15.out; obtain ⟨x0, x1, x2, x3, x4⟩ := cc5_ HX15.out; obtain ⟨f0, f1, f2, f3, f4⟩ := cf5_ HX15.out; have HB15 := Aside0.mk (below_step HB14.out hb); clear hb))
         refine bodyPost_ret (results_ct rfl _ _ b2 65 #[.int .i64 kd, .int .i64 p0, .int .i64 p1, .int .i64 p2, .int .i64 p3] (0, 0) _ rfl (blk5 HX15.out) Tryz.underlying65 rfl (by kernel_rfl)) rfl ⟨rfl, below5 HB15.out HG2.out⟩
       · rw [if_neg hc] at h
         obtain ⟨rfl, rfl, rfl, rfl, rfl, rfl⟩ := tup6 h; have k0 := beq_eq_false_iff_ne.mpr hc; have k1 := bne_iff_ne.mpr hc; clear hc
         go_enter Tryz.func32, Tryz.ntmps32
         go_wp2_with (first | ((with_reducible refine gd_ 2 rfl ?_); refine bx_ 2 rfl #[.int .i64 0, .int .i64 0, .int .i64 0, .int .i64 0, .int .i64 0] 65 ?_; intro b2 hg w4 hbox hb; have HX2 := Aside0.mk hbox; have HB4 := Aside0.mk hb; have HG2 := Aside0.mk (show w.heap.size ≤ b2 by rw [hg]; exact Nat.le_refl _); have HG4 := Aside0.mk (HG.out.belowW hb); clear hb hbox hg) | (go_at_call 62; refine (cut_calls a0 word rest _ _ HG4.out HS.out HW.out HRs.out HM.out).mono ?_; rintro e w5 ⟨rfl, hb⟩; have HX5 := Aside0.mk (blk_below HX2.out hb); have HB5 := Aside0.mk (below_step HB4.out hb); have HG5 := Aside0.mk (HG4.out.belowW hb); clear hb) | (go_at_call 65; refine (opKind_calls word _ HG5.out).mono ?_; rw [HK.out]; rintro e w6 ⟨rfl, hb⟩; have HX6 := Aside0.mk (blk_below HX5.out hb); obtain ⟨x0, x1, x2, x3, x4⟩ := cc5_ HX6.out; obtain ⟨f0, f1, f2, f3, f4⟩ := cf5_ HX6.out; have HB6 := Aside0.mk (below_step HB5.out hb); have HG6 := Aside0.mk (HG5.out.belowW hb); clear hb) | ((with_reducible refine gd_ 9 rfl ?_); refine bx_ 9 rfl #[.int .i64 0, .int .i64 0, .int .i64 0, .int .i64 0] 110 ?_; intro b9 hg w7 hbox hb; have HX7 := Aside0.mk (blk_below HX6.out hb); have HN7 := Aside0.mk hbox; obtain ⟨n0, n1, n2, n3⟩ := cc4_ hbox; have H29 := Aside0.mk (show b2 < b9 by rw [hg]; exact blk_lt HX6.out); have HB7 := Aside0.mk (below_step HB6.out hb); have HG7 := Aside0.mk (HG6.out.belowW hb); clear hb hbox hg x0 x1 x2 x3 x4 f0 f1 f2 f3 f4) | ((with_reducible refine gd_ 10 rfl ?_); refine bx_ 10 rfl #[.string ⟨#[]⟩, .bool false] 60 ?_; intro b10 hg w8 hbox hb; have HX8 := Aside0.mk (blk_below HX7.out hb); have HN8 := Aside0.mk (blk_below HN7.out hb); have HT8 := Aside0.mk hbox; have H910 := Aside0.mk (show b9 < b10 by rw [hg]; exact blk_lt HN7.out); have HB8 := Aside0.mk (below_step HB7.out hb); have HG8 := Aside0.mk (HG7.out.belowW hb); clear hb hbox hg n0 n1 n2 n3) | (go_at_call 66; refine (scanInt_calls k b10 ⟨#[]⟩ rest ⟨#[46]⟩ ns _ _ HG8.out HRS.out (by decide) HT8.out HSC.out).mono ?_; rintro e w9 ⟨v, rfl, hR, hT, hb⟩; obtain ⟨A9, c9, rfl, hc9, hr9⟩ := Kd.R_reads hR; have HR9 := Aside0.mk hr9; obtain ⟨t0, t1⟩ := cells2_at hT; have HX9 := Aside0.mk ((hb.block b2 (by have := H29.out; have := H910.out; omega)).trans HX8.out); have HN9 := Aside0.mk ((hb.block b9 H910.out).trans HN8.out); have HB9 := Aside0.mk (HB8.out.trans (hb.mono (by have := HG2.out; have := H29.out; have := H910.out; omega))); obtain ⟨n9, hn9⟩ : ∃ n, ns.length = n := ⟨_, rfl⟩; have HL9 := Aside0.mk hn9; rw [hn9]; obtain ⟨x0, x1, x2, x3, x4⟩ := cc5_ HX9.out; obtain ⟨f0, f1, f2, f3, f4⟩ := cf5_ HX9.out; have hlen : ¬ ((4 : Int) < (n9 : Int)) := (by have := H4.out; omega); have HL4 : Aside0 (n9 ≤ 4) := ⟨by have := H4.out; omega⟩;clear hb hR hT hc9 hr9 hn9 t0) | ((with_reducible refine gate_builtin (b := .copy) (xs := #[.tmp 38, .tmp 39]) rfl ?_); refine wpList_copy_splice rfl (.tmp 38) (.tmp 39) 78 78 rfl 3 Tryz.underlying78 (by kernel_rfl) _ _ _ _ _ _ rfl rfl b9 0 (nums .i64 (List.replicate 4 0)) 110 ?hg (nums .i64 ns) ?hn ?hpos ?hfit ?h1 b9 _ (Below.refl _ _) (Nat.le_refl _) ?_; (case hg => exact HN9.out); (case hn => rw [nums_length]; have := HL9.out; have := HL4.out; show _ = min _ _; omega); (case hpos => intro hps; rw [nums_length] at hps; exact ⟨rfl, C_cells64 HR9.out hps⟩); (case hfit => rw [nums_length, nums_length]; have := HL9.out; have := HL4.out; simp; omega); (case h1 => intro v hv; obtain ⟨x, _, rfl⟩ := List.mem_map.1 hv; rfl); intro w10 hg10 hb10; rw [splice4 ns (by rw [HL9.out]; exact HL4.out)] at hg10; obtain ⟨n0, n1, n2, n3⟩ := nums_at (show w10.heap[b9]? = some (.cells (nums .i64 (pad4 ns)).toArray 110 (0, 0)) from hg10) (pad4_len ns (by rw [HL9.out]; exact HL4.out)); have HX10 := Aside0.mk ((hb10.block b2 H29.out).trans HX9.out); have HB10 := Aside0.mk (HB9.out.trans (hb10.mono (by have := HG2.out; have := H29.out; omega))); rw [P0.out] at n0; rw [P1.out] at n1; rw [P2.out] at n2; rw [P3.out] at n3; clear hg10 hb10 x0 x1 x2 x3 x4 f0 f1 f2 f3 f4) | ((with_reducible refine gd_ 12 rfl ?_); refine bx_ 12 rfl #[.int .i64 0, .int .i64 0, .int .i64 0, .int .i64 0, .int .i64 0] 65 ?_; intro b12 hg w13 hbox hb; have HX13 := Aside0.mk (blk_below HX10.out hb); have HN13 := Aside0.mk hbox; obtain ⟨m0, m1, m2, m3, m4⟩ := cc5_ hbox; obtain ⟨q0, q1, q2, q3, q4⟩ := cf5_ hbox; have H212 := Aside0.mk (show b2 < b12 by rw [hg]; exact blk_lt HX10.out); have HB13 := Aside0.mk (below_step HB10.out hb); clear hb hbox hg) | (go_at_call 67; refine (impl_OpOk.calls k kd p0 p1 p2 p3 true _ HOK.out).mono ?_; rintro e w14 ⟨rfl, hb⟩; have HN14 := Aside0.mk (blk_below (o := .cells #[.int .i64 kd, .int .i64 p0, .int .i64 p1, .int .i64 p2, .int .i64 p3] 65 (0, 0)) (blk5 HN13.out) hb); have HX14 := Aside0.mk (blk_below (far5 HX13.out (by have := H212.out; omega)) hb); clear m0 m1 m2 m3 m4; obtain ⟨m0, m1, m2, m3, m4⟩ := cc5_ HN14.out; obtain ⟨x0, x1, x2, x3, x4⟩ := cc5_ HX14.out; obtain ⟨f0, f1, f2, f3, f4⟩ := cf5_ HX14.out; have HB14 := Aside0.mk (below_step (below5 HB13.out (by have := HG2.out; have := H212.out; omega)) hb); clear hb q0 q1 q2 q3 q4) | (go_at_call 45; refine (impl_OpText.calls k kd p0 p1 p2 p3 tx _ HTX.out (HG.out.belowW HB14.out)).mono ?_; rintro e w15 ⟨rfl, hb⟩; have HN15 := Aside0.mk (blk_below HN14.out hb); have HX15 := Aside0.mk (blk_below HX14.out hb); clear m0 m1 m2 m3 m4 x0 x1 x2 x3 x4 f0 f1 f2 f3 f4; obtain ⟨m0, m1, m2, m3, m4⟩ := cc5_ HN15.out; obtain ⟨x0, x1, x2, x3, x4⟩ := cc5_ HX15.out; obtain ⟨f0, f1, f2, f3, f4⟩ := cf5_ HX15.out; have HB15 := Aside0.mk (below_step HB14.out hb); clear hb))
         refine bodyPost_ret (results_ct rfl _ _ b2 65 #[.int .i64 0, .int .i64 0, .int .i64 0, .int .i64 0, .int .i64 0] (0, 0) _ rfl (blk5 HX15.out) Tryz.underlying65 rfl (by kernel_rfl)) rfl ⟨rfl, below5 HB15.out HG2.out⟩
end Go.Proofs.YtmplnpjdbfedbaaGreatDoor.X
namespace Go.Proofs.YtmplnpjdbfedbaaGreatDoor.X
open Go.RowKit Go.Proofs.YtmplnpjdbfedbaaGreatDoorW.PrintWords Go.Proofs.YtmplnpjdbfedbaaGreatDoorW.PrintLast Go.Proofs.YtmplnpjdbfedbaaGreatDoorW.PrintMore
attribute [local go_sem] max2_int min2_int max_two min_two max_three min_three max_four min_four
set_option linter.unusedVariables false
set_option linter.unusedSimpArgs false
section
def wordF (s p : ByteArray) : ByteArray × Bool := (⟨(Lib.trimPrefix s.data.toList p.data.toList).toArray⟩, Lib.hasPrefix s.data.toList p.data.toList)
def cutF (s p : ByteArray) : ByteArray × ByteArray × Bool := (⟨(Lib.cut s.data.toList p.data.toList).1.toArray⟩, ⟨(Lib.cut s.data.toList p.data.toList).2.1.toArray⟩, (Lib.cut s.data.toList p.data.toList).2.2)
set_option maxHeartbeats 4000000 in
set_option maxRecDepth 100000 in
theorem until_calls (B : Nat) (s p part rest : ByteArray) (ok fl : Bool) (w : World) (hG : Glob w) (hs : s.size ≤ 1048576) (hb : w.heap[B]? = some (.cells #[.string s, .bool fl] 60 (0, 0))) (h : cutF s p = (part, rest, ok)) :
    Calls Tryz.prog 30 #[.pointer (some ⟨B, 0, none⟩), .string p] w fun e w' => e = .returned (.string part) ∧ ∃ m, w' = ((w.drewN m).setCell ⟨B, 0, none⟩ (.string rest)).setCell ⟨B, 1, none⟩ (.bool (fl || !ok)) := by
  obtain ⟨x0, x1⟩ := cells2_at hb
  have y0 := blk_frozen hb 0
  have y1 := blk_frozen hb 1
  have z1 : ∀ m, (w.drewN m).cell? ⟨B, 1, none⟩ = some (.bool fl) := fun m => x1
  have z0 : ∀ m, (w.drewN m).cell? ⟨B, 0, none⟩ = some (.string s) := fun m => x0
  have f0 : ∀ m, (w.drewN m).frozen? ⟨B, 0, none⟩ = false := fun m => y0
  have f1 : ∀ m, (w.drewN m).frozen? ⟨B, 1, none⟩ = false := fun m => y1
  have HC : Aside0 (Calls Tryz.prog 62 #[.string s, .string p] w fun e w' => e = .returned (.tuple #[.string part, .string rest, .bool ok]) ∧ ∃ n, w' = w.drewN n) := ⟨by
    obtain ⟨m, hm⟩ := hG.max
    refine (Tryz.strings_Cut s p m w (by omega) hm).mono ?_
    rintro e w' ⟨rfl, n, rfl⟩
    obtain ⟨e1, e2, e3⟩ : (⟨(Lib.cut s.data.toList p.data.toList).1.toArray⟩ : ByteArray) = part ∧ (⟨(Lib.cut s.data.toList p.data.toList).2.1.toArray⟩ : ByteArray) = rest ∧ (Lib.cut s.data.toList p.data.toList).2.2 = ok := by
      unfold cutF at h
      simp only [Prod.mk.injEq] at h
      exact h
    rw [e1, e2, e3]
    exact ⟨rfl, n, rfl⟩⟩
  clear hG hs h hb
  cases fl with
  | true =>
    go_enter Tryz.func30, Tryz.ntmps30
    go_wp2_with (go_at_call 62; refine HC.out.mono ?_; rintro e w2 ⟨rfl, ⟨m, rfl⟩⟩)
    go_ret
    exact ⟨rfl, m, rfl⟩
  | false =>
    go_enter Tryz.func30, Tryz.ntmps30
    go_wp2_with (go_at_call 62; refine HC.out.mono ?_; rintro e w2 ⟨rfl, ⟨m, rfl⟩⟩)
    go_ret
    exact ⟨rfl, m, rfl⟩
set_option maxHeartbeats 4000000 in
set_option maxRecDepth 100000 in
theorem word_calls (B : Nat) (s p rest : ByteArray) (ok fl : Bool) (w : World) (hb : w.heap[B]? = some (.cells #[.string s, .bool fl] 60 (0, 0))) (h : wordF s p = (rest, ok)) :
    Calls Tryz.prog 29 #[.pointer (some ⟨B, 0, none⟩), .string p] w fun e w' => e = .returned (.tuple #[]) ∧ w' = (w.setCell ⟨B, 0, none⟩ (.string rest)).setCell ⟨B, 1, none⟩ (.bool (fl || !ok)) := by
  obtain ⟨x0, x1⟩ := cells2_at hb
  have y0 := blk_frozen hb 0
  have y1 := blk_frozen hb 1
  have HC : Aside0 (Calls Tryz.prog 61 #[.string s, .string p] w fun e w' => e = .returned (.tuple #[.string rest, .bool ok]) ∧ w' = w) := ⟨by
    refine (Tryz.strings_CutPrefix s p w).mono ?_
    rintro e w' ⟨rfl, hw⟩
    unfold wordF at h
    simp only [Prod.mk.injEq] at h
    rw [h.1, h.2]
    exact ⟨rfl, hw⟩⟩
  clear h hb
  cases fl with
  | true =>
    go_enter Tryz.func29, Tryz.ntmps29
    go_wp2_with (go_at_call 61; refine HC.out.mono ?_; rintro e w2 ⟨rfl, rfl⟩)
    refine bodyPost_end (results_none Tryz.results29 _ _ _) rfl ⟨rfl, rfl⟩
  | false =>
    go_enter Tryz.func29, Tryz.ntmps29
    go_wp2_with (go_at_call 61; refine HC.out.mono ?_; rintro e w2 ⟨rfl, rfl⟩)
    refine bodyPost_end (results_none Tryz.results29 _ _ _) rfl ⟨rfl, rfl⟩
set_option maxHeartbeats 4000000 in
set_option maxRecDepth 100000 in
theorem clone_calls (s : ByteArray) (w : World) (hs : s.size ≤ 1048576) :
    Calls Tryz.prog 33 #[.string s] w fun e w' => e = .returned (.string s) ∧ Below w.heap.size w w' := by
  have HS := Aside0.mk hs; clear hs
  go_enter Tryz.func33, Tryz.ntmps33
  go_wp2_with (go_at_call 68; refine (Tryz.stringslite_Clone s _ (by have := HS.out; omega)).mono ?_; rintro e w2 ⟨rfl, hb⟩; have HB := Aside0.mk hb; clear hb)
  go_ret
  exact ⟨rfl, HB.out⟩
theorem keep5 {w W : World} {g b : Nat} {row : Option Nat} {c0 c1 c2 c3 c4 : Value} (h : KeepBut w W g row) (hb : w.heap.size ≤ b) : KeepBut w (((((W.setCell ⟨b, 0, none⟩ c0).setCell ⟨b, 1, none⟩ c1).setCell ⟨b, 2, none⟩ c2).setCell ⟨b, 3, none⟩ c3).setCell ⟨b, 4, none⟩ c4) g row :=
  keep_far (p := ⟨b, 4, none⟩) (keep_far (p := ⟨b, 3, none⟩) (keep_far (p := ⟨b, 2, none⟩) (keep_far (p := ⟨b, 1, none⟩) (keep_far (p := ⟨b, 0, none⟩) h hb _) hb _) hb _) hb _) hb _
theorem keep_below {w W : World} {g : Nat} (h : Below w.heap.size w W) : KeepBut w W g none := ⟨h.size, fun i hi _ _ => h.block i hi⟩
set_option maxHeartbeats 4000000 in
set_option maxRecDepth 100000 in
theorem scanOp_calls (k B : Nat) (rest : ByteArray) (fl : Bool) (s : ByteArray) (o a b c d : Int) (ok : Bool) (w : World) (hG : Glob w) (hb : w.heap[B]? = some (.cells #[.string rest, .bool fl] 60 (0, 0))) (h : impl_OpRead.f k s = some (o, a, b, c, d, ok)) :
    Calls Tryz.prog 64 #[.pointer (some ⟨B, 0, none⟩), .string s, .func (.func 32) #[] #[]] w fun e w' => e = .returned (.agg #[.int .i64 o, .int .i64 a, .int .i64 b, .int .i64 c, .int .i64 d]) ∧ w'.heap[B]? = some (.cells #[.string rest, .bool (fl || !ok)] 60 (0, 0)) ∧ KeepBut w w' B none ∧ Below B w w' := by
  have hBl := blk_lt hb
  have H := Aside0.mk h; have HG := Aside0.mk hG; have HB := Aside0.mk hb; have HL := Aside0.mk hBl
  have hu := Tryz.underlying65
  have hz : ∀ w : World, (zeroValue 65).run Tryz.prog w = .ok (.agg #[.int .i64 0, .int .i64 0, .int .i64 0, .int .i64 0, .int .i64 0]) w := fun w => by kernel_rfl
  clear h hG hb hBl
  have henter : ∀ (args : Array Value) (W : World), (callFunc 32 args).run Tryz.prog W = .ok (.enter 32 args) W := fun args W => enters_ Tryz.func32 (by kernel_rfl) rfl args W
  go_enter Tryz.func64, Tryz.ntmps64
  go_upto_region 2 with (first
    | ((with_reducible refine gd_ 6 rfl ?_); refine bx_ 6 rfl #[.int .i64 0, .int .i64 0, .int .i64 0, .int .i64 0, .int .i64 0] 65 ?_; intro b6 hg w2 hbox hb; have H6 := Aside0.mk hbox; have HB2 := Aside0.mk hb; have HG6 := Aside0.mk (show w.heap.size ≤ b6 by rw [hg]; exact Nat.le_refl _); clear hb hbox hg)
    | ((with_reducible refine gd_ 7 rfl ?_); refine bx_ 7 rfl #[.int .i64 0, .int .i64 0, .int .i64 0, .int .i64 0, .int .i64 0] 65 ?_; intro b7 hg w4 hbox hb; have H7 := Aside0.mk hbox; have H64 := Aside0.mk (blk_below H63.out hb); have HB4 := Aside0.mk (below_step HB3.out hb); have HG7 := Aside0.mk (show w.heap.size ≤ b7 by rw [hg]; exact HB3.out.size); have N67 := Aside0.mk (show b6 ≠ b7 by rw [hg]; exact Nat.ne_of_lt (blk_lt H63.out)); obtain ⟨x0, x1, x2, x3, x4⟩ := cc5_ hbox; obtain ⟨f0, f1, f2, f3, f4⟩ := cf5_ hbox; clear hb hbox hg)
    | (go_at_call 32; refine (impl_OpRead.calls k s o a b c d ok _ H.out (HG.out.belowW HB2.out)).mono ?_; rintro e w3 ⟨rfl, hb⟩; have H63 := Aside0.mk (blk_below H6.out hb); have HB3 := Aside0.mk (below_step HB2.out hb); clear hb))
  generalize hw5 : (((((w4.setCell ⟨b7, 0, none⟩ (.int .i64 o)).setCell ⟨b7, 1, none⟩ (.int .i64 a)).setCell ⟨b7, 2, none⟩ (.int .i64 b)).setCell ⟨b7, 3, none⟩ (.int .i64 c)).setCell ⟨b7, 4, none⟩ (.int .i64 d)) = w5
  have H75 : Aside0 (w5.heap[b7]? = some (.cells #[.int .i64 o, .int .i64 a, .int .i64 b, .int .i64 c, .int .i64 d] 65 (0, 0))) := ⟨by rw [← hw5]; exact blk5 H7.out⟩
  have H65 : Aside0 (w5.heap[b6]? = some (.cells #[.int .i64 0, .int .i64 0, .int .i64 0, .int .i64 0, .int .i64 0] 65 (0, 0))) := ⟨by rw [← hw5]; exact far5 H64.out N67.out⟩
  have HB5 : Aside0 (Below w.heap.size w w5) := ⟨by rw [← hw5]; exact below5 HB4.out HG7.out⟩
  clear hw5 x0 x1 x2 x3 x4 f0 f1 f2 f3 f4 henter
  have HT5 := Aside0.mk (blk_below HB.out HB5.out)
  obtain ⟨t0, t1⟩ := cells2_at HT5.out
  have u1 := blk_frozen HT5.out 1
  have key : Aside0 (∀ W : World, W = w5.setCell ⟨B, 1, none⟩ (.bool (fl || !ok)) → W.heap[B]? = some (.cells #[.string rest, .bool (fl || !ok)] 60 (0, 0)) ∧ W.heap[b7]? = some (.cells #[.int .i64 o, .int .i64 a, .int .i64 b, .int .i64 c, .int .i64 d] 65 (0, 0)) ∧ W.heap[b6]? = some (.cells #[.int .i64 0, .int .i64 0, .int .i64 0, .int .i64 0, .int .i64 0] 65 (0, 0)) ∧ KeepBut w W B none ∧ Below B w W) := ⟨by
    rintro W rfl
    have nB7 : b7 ≠ B := by have := HG7.out; have := HL.out; omega
    have nB6 : b6 ≠ B := by have := HG6.out; have := HL.out; omega
    exact ⟨blk_set HT5.out 1 _, blk_far (p := ⟨B, 1, none⟩) H75.out nB7 _, blk_far (p := ⟨B, 1, none⟩) H65.out nB6 _, (keep_below HB5.out).set_ 1 _, (HB5.out.mono (Nat.le_of_lt HL.out)).setCell (p := ⟨B, 1, none⟩) (Nat.le_refl _) _⟩⟩
  cases fl <;> (
    go_upto_region 3 with (fail)
    generalize hw6 : w5.setCell ⟨B, 1, none⟩ _ = w6
    obtain ⟨hT6, h76, h66, hK6, hB6⟩ := key.out w6 hw6.symm
    have HT6 := Aside0.mk hT6; have H66 := Aside0.mk h66; have HK6 := Aside0.mk hK6; have HB6 := Aside0.mk hB6
    obtain ⟨x0, x1, x2, x3, x4⟩ := cc5_ h76
    obtain ⟨z0, z1, z2, z3, z4⟩ := cc5_ h66
    obtain ⟨q0, q1, q2, q3, q4⟩ := cf5_ h66
    clear hw6 t0 t1 u1 hT6 h66 h76 hK6 hB6
    go_wp2
    refine bodyPost_ret (results_cell_row Tryz.results64 _ _ b6 65 #[.int .i64 o, .int .i64 a, .int .i64 b, .int .i64 c, .int .i64 d] (0, 0) _ rfl (blk5 H66.out) Tryz.underlying65 rfl (by kernel_rfl)) rfl ⟨rfl, ?_, ?_, ?_⟩
    · exact far5 HT6.out (by have := HG6.out; have := HL.out; omega)
    · exact keep5 HK6.out HG6.out
    · exact below5 HB6.out (Nat.le_of_lt (Nat.lt_of_lt_of_le HL.out HG6.out)))
end
section
def GlobLt (B : Nat) : Prop := 6 ≤ B
theorem Glob.lt {w : World} (h : Glob w) : GlobLt w.heap.size := h.two
theorem GlobLt.mono {B C : Nat} (h : GlobLt B) (hc : B ≤ C) : GlobLt C := Nat.le_trans h hc
theorem Glob.belowB {B : Nat} {w w' : World} (h : Glob w) (hl : GlobLt B) (hb : Below B w w') : Glob w' := h.below hl hb
def scanG (k : Nat) : List ByteArray → Bool → Option (List (S65) × Bool)
  | [], fl => some ([], fl)
  | p :: ps, fl => (impl_OpRead.f k p).bind fun r => (scanG k ps (fl || !r.2.2.2.2.2)).bind fun x => some (⟨r.1, r.2.1, r.2.2.1, r.2.2.2.1, r.2.2.2.2.1⟩ :: x.1, x.2)
set_option maxHeartbeats 4000000 in
set_option maxRecDepth 100000 in
theorem scanOps_calls (k B : Nat) (rest s sep : ByteArray) (f0 : Bool) (ns : List (S65)) (fl : Bool) (w : World) (hG : Glob w) (hGL : GlobLt B) (hs : s.size ≤ 1048576) (h1 : 1 ≤ sep.size) (hb : w.heap[B]? = some (.cells #[.string rest, .bool f0] 60 (0, 0))) (h : scanG k (partsB s sep) f0 = some (ns, fl)) :
    Calls Tryz.prog 31 #[.pointer (some ⟨B, 0, none⟩), .string s, .string sep, .func (.func 32) #[] #[]] w fun e w' => ∃ v, e = .returned v ∧ Kd.R k65 65 w' B (fun j => w.heap.size ≤ j) v ns ∧ w'.heap[B]? = some (.cells #[.string rest, .bool fl] 60 (0, 0)) ∧ KeepBut w w' B none ∧ Below B w w' := by
  have hBl := blk_lt hb
  obtain ⟨ps, hps⟩ : ∃ ps, partsB s sep = ps := ⟨_, rfl⟩
  have hple := partsB_le s sep h1
  rw [hps] at h hple
  obtain ⟨P, hP⟩ : ∃ P, w.heap.size = P := ⟨_, rfl⟩
  have HPS := Aside0.mk hps; have HG := Aside0.mk hG; have HGL := Aside0.mk hGL; have HS := Aside0.mk hs; have H1 := Aside0.mk h1; have HB := Aside0.mk hb; have H := Aside0.mk h; have HL := Aside0.mk hple; have HPq := Aside0.mk hP; have HBP := Aside0.mk (show B < P by omega)
  clear hps hG hGL hs h1 hb h hple hP hBl
  obtain ⟨n, hn⟩ : ∃ n, ps.length = n := ⟨_, rfl⟩
  have HN := Aside0.mk hn
  have hn2 : (n : Int) ≤ 1048577 := by have := HL.out; have := HS.out; omega
  clear hn
  go_enter Tryz.func31, Tryz.ntmps31
  go_wp2_with (go_at_call 63; refine (split_calls s sep _ HG.out HS.out H1.out).mono ?_; rintro e w2 ⟨rfl, hw2⟩; rw [HPS.out, HN.out, HPq.out]; have HW := Aside0.mk hw2; clear hw2)
  have HP2 : Aside0 (w2.heap[P]? = some (.cells (ps.map Value.string).toArray 9 (0, 0))) := ⟨by rw [HW.out, HPS.out, ← HPq.out]; exact heap_alloc_new _ _⟩
  have HB2 : Aside0 (w2.heap[B]? = some (.cells #[.string rest, .bool f0] 60 (0, 0))) := ⟨by rw [HW.out]; exact blk_below HB.out ((Below.refl _ _).alloc (Nat.le_refl _) _)⟩
  have HBel : Aside0 (Below B w w2) := ⟨by rw [HW.out]; exact (Below.refl _ _).alloc (by rw [HPq.out]; exact Nat.le_of_lt HBP.out) _⟩
  have HKp : Aside0 (KeepBut w w2 B none) := ⟨by rw [HW.out]; exact keep_below ((Below.refl _ _).alloc (Nat.le_refl _) _)⟩
  clear HW HB
  go_loopg [9, 16] n (fun kq v9 v16 w' => ∃ (i : Nat) (acc ms : List (S65)) (fi : Bool), kq + i = n ∧ v16 = .int .i64 i ∧ Aside0 (scanG k (ps.drop i) fi = some (ms, fl)) ∧ Aside0 (acc ++ ms = ns) ∧ Aside0 (acc.length = i) ∧ Aside0 (Kd.R k65 65 w' B (fun j => P < j) v9 acc) ∧ Aside0 (w'.heap[B]? = some (.cells #[.string rest, .bool fi] 60 (0, 0))) ∧ Aside0 (w'.heap[P]? = some (.cells (ps.map Value.string).toArray 9 (0, 0))) ∧ Aside0 (Below B w w') ∧ Aside0 (KeepBut w w' B none))
  case atStart => exact ⟨0, [], ns, f0, by omega, rfl, H, Aside0.mk rfl, Aside0.mk rfl, Aside0.mk (Kd.R_nil _ _ _ _ _), HB2, HP2, HBel, HKp⟩
  case round =>
    clear H HB2 HP2 HBel HKp
    obtain ⟨i, acc, ms, fi, hk, rfl, H, HA, HAL, HR, HBi, HPi, HBel, HKp⟩ := hrel
    by_cases hi : i < n
    · have hi2 : i < ps.length := by rw [HN.out]; exact hi
      obtain ⟨p, hp⟩ : ∃ p, ps[i]? = some p := ⟨_, List.getElem?_eq_getElem hi2⟩
      have hd : ps.drop i = p :: ps.drop (i + 1) := by
        rw [List.drop_eq_getElem_cons hi2]
        congr 1
        rw [List.getElem?_eq_getElem hi2] at hp
        exact Option.some.inj hp
      have x := partR_at HPi.out hp
      have H2 := H.out
      rw [hd, scanG] at H2
      obtain ⟨⟨qo, qa, qb, qc, qd, ok⟩, hq, H2⟩ := Option.bind_eq_some_iff.1 H2
      obtain ⟨⟨ms2, fl2⟩, hm, H2⟩ := Option.bind_eq_some_iff.1 H2
      obtain ⟨rfl, rfl⟩ := Prod.mk.inj (Option.some.inj H2)
      have HQ := Aside0.mk hq; have HM := Aside0.mk hm
      clear hi2 hp hd H2 hq hm H
      have hin : (i : Int) < (n : Int) := by omega
      go_wp2_with (first
        | (go_at_call 64; refine (scanOp_calls k B rest fi p qo qa qb qc qd ok _ (HG.out.belowB HGL.out HBel.out) HBi.out HQ.out).mono ?_; rintro e w3 ⟨rfl, hT, hK, hBe⟩; have HB3 := Aside0.mk hT; have HP3 := Aside0.mk ((hK.2 P (blk_lt HPi.out) (by have := HBP.out; omega) (by simp)).trans HPi.out); have HR3 := Aside0.mk (Kd.R_keep HR.out hK (fun j hj => by have := HBP.out; omega)); have HBel3 := Aside0.mk (HBel.out.trans hBe); have HKp3 := Aside0.mk (HKp.out.trans hK (.inl rfl)); clear hT hK hBe)
        | ((with_reducible refine gate_builtin (b := .append) (xs := #[.tmp 20, .tmp 25]) rfl ?_); at_builtin; refine Kd.R_append k65 (w0 := w) B rfl (.tmp 20) (.tmp 25) 23 65 (.agg #[.int .i64 0, .int .i64 0, .int .i64 0, .int .i64 0, .int .i64 0]) 40 rfl Tryz.underlying23 info65 rfl (by decide) (by omega) u9 acc (⟨qo, qa, qb, qc, qd⟩ : S65) [.int .i64 qo, .int .i64 qa, .int .i64 qb, .int .i64 qc, .int .i64 qd] (fun j => P < j) (fun _ => False) rfl rfl ?aP (fun _ hk => hk.elim) ?aF ?aO ?aB ?aS ?aL ?_; (case aP => exact k65_mkM _ _ _ _); (case aB => exact HBel3.out); (case aF => intro j hj; have := blk_lt HP3.out; show P < j; omega); (case aO => exact HR3.out); (case aS => have := blk_lt HB3.out; omega); (case aL => have := HAL.out; omega); intro v1 w4 ho hb hg hat; have HR4 := Aside0.mk ho; have HBel4 := Aside0.mk hb; have hown := HR3.out.1; have HB4 : Aside0 (w4.heap[B]? = some (.cells #[.string rest, .bool (fi || !ok)] 60 (0, 0))) := ⟨(hg.block B (blk_lt HB3.out) (fun h => absurd (hown B h.symm) (by have := HBP.out; omega))).trans HB3.out⟩; have HP4 : Aside0 (w4.heap[P]? = some (.cells (ps.map Value.string).toArray 9 (0, 0))) := ⟨(hg.block P (blk_lt HP3.out) (fun h => absurd (hown P h.symm) (by omega))).trans HP3.out⟩; have HKp4 : Aside0 (KeepBut w w4 B none) := ⟨⟨Nat.le_trans HKp3.out.1 hg.size, fun i hi hne hr => (hg.block i (Nat.lt_of_lt_of_le hi HKp3.out.1) (fun h => absurd (hown i h.symm) (by have := HPq.out; omega))).trans (HKp3.out.2 i hi hne hr)⟩⟩; clear ho hb hg hat hown))
      go_roundg (gk - 1)
      case measure => omega
      case rel => exact ⟨i + 1, acc ++ [⟨qo, qa, qb, qc, qd⟩], ms2, fi || !ok, by omega, by first | rfl | (simp; done) | (unfold wrap64; simp; omega), HM, Aside0.mk (by rw [← HA.out, List.append_assoc]; rfl), Aside0.mk (by rw [List.length_append, HAL.out]; rfl), HR4, HB4, HP4, HBel4, HKp4⟩
    · have hin : ¬ ((i : Int) < (n : Int)) := by omega
      have hlast : ms = [] ∧ fi = fl := by
        have H2 := H.out
        rw [List.drop_of_length_le (by rw [HN.out]; omega), scanG] at H2
        obtain ⟨e1, e2⟩ := Prod.mk.inj (Option.some.inj H2)
        exact ⟨e1.symm, e2⟩
      obtain ⟨rfl, rfl⟩ := hlast
      have e := HA.out
      rw [List.append_nil] at e
      subst e
      go_wp2
      go_ret
      exact ⟨_, rfl, Kd.R_mono HR.out (fun j h => by have := HPq.out; omega), HBi.out, HKp.out, HBel.out⟩
end
end Go.Proofs.YtmplnpjdbfedbaaGreatDoor.X
