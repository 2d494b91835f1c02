/- Lemmas and contracts for the law FnExactOpText, part 3: of the program's functions, and over data alone. Conditions: the listed package-level variables begin as the program's text lays them (tied by the card). -/
import Derived.Shelf.Strings.Builder1
import Derived.Shelf.Strings.Builder2
import Derived.Shelf.Strings.OnBuilder
import Derived.Shelf.Small.Wraps
import Derived.Shelf.Strings.BuilderF
import Derived.Shelf.Strings.BuilderK
import Derived.Shelf.Utf8.RuneCount
import Derived.Shelf.Strings.Builder2Cap
import Derived.Shelf.Strconv.Itoa0
import Derived.Shelf.Strconv.Itoa1
import Derived.Shelf.LaysM
import Derived.Shelf.Strconv.Itoa2
import Derived.Shelf.Strconv.Itoa3
import Derived.Shelf.Strconv.Clone
import Derived.Shelf.Strings.Search1
import Derived.Shelf.Strings.Search2
import Derived.Shelf.Strings.Search3
import Derived.Shelf.Strings.Cut
import Derived.Shelf.Strings.Count
import Derived.Shelf.Strings.Shaped
import Derived.Shelf.Strings.Prefix
import Derived.Shelf.Strings.Split
import Derived.Shelf.Strings.SplitShaped
import Derived.Shelf.Unicode.Decode
import Derived.Shelf.Strings.RuneCount
import Derived.Shelf.Strings.Explode
import Derived.Shelf.Unicode.DecodeSlow
import Derived.Shelf.Unicode.DecodeAny
import Derived.Test.YtiihhjfdgojkeaaDoorProg
import Derived.Test.YtiihhjfdgojkeaaDoorMFnExactOpText2
import Derived.Laws.Rows
import Derived.Lib.AppendIntMem
import Derived.Lib.ItoaLen
import Derived.Laws.Concat
import Derived.Test.YtiihhjfdgojkeaaDoorMFnExactOpText1
import Derived.Test.YtiihhjfdgojkeaaDoorRows
import Derived.Lib.LaidTab
import Derived.LaidMore
import Derived.OpenShut
import Derived.ShutString
import Derived.ChangeOld
import Derived.ChangeSame
import Derived.Below
import Derived.WalkKit
import Derived.ProofKit
import Derived.Stop.Joined
import Derived.OpenVars
import Derived.KernelRfl
namespace Go.Proofs
open Go.Shelf
def Tryd.laysM246_ren : Go.Shelf.Ren := ⟨fun | 246 => 132 | 283 => 142 | 284 => 143 | 285 => 144 | 286 => 145 | 129 => 157 | 317 => 156 | 318 => 158 | 319 => 159 | 320 => 160 | 337 => 164 | 338 => 165 | n => n, fun | 2 => 2 | 3 => 3 | 9 => 9 | 4 => 4 | 171 => 167 | 0 => 0 | 53 => 168 | 37 => 39 | 5 => 5 | 173 => 171 | 212 => 181 | 51 => 182 | 20 => 20 | 213 => 183 | 46 => 163 | 232 => 192 | 233 => 193 | n => n, fun | 17 => 3 | 18 => 6 | 19 => 7 | n => n⟩
def Tryd.laysM243_ren : Go.Shelf.Ren := ⟨fun | 243 => 103 | 246 => 132 | 283 => 142 | 284 => 143 | 285 => 144 | 286 => 145 | 129 => 157 | 317 => 156 | 318 => 158 | 319 => 159 | 320 => 160 | 337 => 164 | 338 => 165 | n => n, fun | 3 => 3 | 9 => 9 | 2 => 2 | 4 => 4 | 171 => 167 | 0 => 0 | 53 => 168 | 37 => 39 | 5 => 5 | 173 => 171 | 212 => 181 | 51 => 182 | 20 => 20 | 213 => 183 | 46 => 163 | 232 => 192 | 233 => 193 | n => n, fun | 17 => 3 | 18 => 6 | 19 => 7 | n => n⟩
def Tryd.laysM171_ren : Go.Shelf.Ren := ⟨fun | 171 => 54 | 243 => 103 | 246 => 132 | 283 => 142 | 284 => 143 | 285 => 144 | 286 => 145 | 129 => 157 | 317 => 156 | 318 => 158 | 319 => 159 | 320 => 160 | 337 => 164 | 338 => 165 | n => n, fun | 3 => 3 | 9 => 9 | 2 => 2 | 4 => 4 | 171 => 167 | 0 => 0 | 53 => 168 | 37 => 39 | 5 => 5 | 173 => 171 | 212 => 181 | 51 => 182 | 20 => 20 | 213 => 183 | 46 => 163 | 232 => 192 | 233 => 193 | n => n, fun | 17 => 3 | 18 => 6 | 19 => 7 | n => n⟩
theorem Tryd.laysM171 : Go.Proofs.LaysM.n171 Tryd.prog Tryd.laysM171_ren := {
  mixed := by kernel_rfl
  f129 := Tryd.func157.trans (congrArg some (by kernel_rfl))
  f171 := Tryd.func54.trans (congrArg some (by kernel_rfl))
  f243 := Tryd.func103.trans (congrArg some (by kernel_rfl))
  f246 := Tryd.func132.trans (congrArg some (by kernel_rfl))
  f283 := Tryd.func142.trans (congrArg some (by kernel_rfl))
  f284 := Tryd.func143.trans (congrArg some (by kernel_rfl))
  f285 := Tryd.func144.trans (congrArg some (by kernel_rfl))
  f286 := Tryd.func145.trans (congrArg some (by kernel_rfl))
  f317 := Tryd.func156.trans (congrArg some (by kernel_rfl))
  f318 := Tryd.func158.trans (congrArg some (by kernel_rfl))
  f319 := Tryd.func159.trans (congrArg some (by kernel_rfl))
  f320 := Tryd.func160.trans (congrArg some (by kernel_rfl))
  f337 := Tryd.func164.trans (congrArg some (by kernel_rfl))
  f338 := Tryd.func165.trans (congrArg some (by kernel_rfl))
  t0 := Tryd.underlying0
  a0 := Tryd.isAgg0
  z0 := Tryd.sizeOf0
  v0 := Tryd.zeroValue0
  t2 := Tryd.underlying2
  a2 := Tryd.isAgg2
  z2 := Tryd.sizeOf2
  v2 := Tryd.zeroValue2
  t3 := Tryd.underlying3
  a3 := Tryd.isAgg3
  z3 := Tryd.sizeOf3
  v3 := Tryd.zeroValue3
  t4 := Tryd.underlying4
  a4 := Tryd.isAgg4
  z4 := Tryd.sizeOf4
  v4 := Tryd.zeroValue4
  t5 := Tryd.underlying5
  a5 := Tryd.isAgg5
  z5 := Tryd.sizeOf5
  v5 := Tryd.zeroValue5
  t9 := Tryd.underlying9
  a9 := Tryd.isAgg9
  z9 := Tryd.sizeOf9
  v9 := Tryd.zeroValue9
  t20 := Tryd.underlying20
  a20 := Tryd.isAgg20
  z20 := Tryd.sizeOf20
  v20 := Tryd.zeroValue20
  t37 := Tryd.underlying39
  a37 := Tryd.isAgg39
  z37 := Tryd.sizeOf39
  v37 := Tryd.zeroValue39
  t46 := Tryd.underlying163
  a46 := Tryd.isAgg163
  z46 := Tryd.sizeOf163
  v46 := Tryd.zeroValue163
  t51 := Tryd.underlying182
  a51 := Tryd.isAgg182
  z51 := Tryd.sizeOf182
  v51 := Tryd.zeroValue182
  t53 := Tryd.underlying168
  a53 := Tryd.isAgg168
  z53 := Tryd.sizeOf168
  v53 := Tryd.zeroValue168
  t171 := Tryd.underlying167
  a171 := Tryd.isAgg167
  z171 := Tryd.sizeOf167
  v171 := Tryd.zeroValue167
  t173 := Tryd.underlying171
  a173 := Tryd.isAgg171
  z173 := Tryd.sizeOf171
  v173 := Tryd.zeroValue171
  t212 := Tryd.underlying181
  a212 := Tryd.isAgg181
  z212 := Tryd.sizeOf181
  v212 := Tryd.zeroValue181
  t213 := Tryd.underlying183
  a213 := Tryd.isAgg183
  z213 := Tryd.sizeOf183
  t232 := Tryd.underlying192
  a232 := Tryd.isAgg192
  z232 := Tryd.sizeOf192
  v232 := Tryd.zeroValue192
  t233 := Tryd.underlying193
  a233 := Tryd.isAgg193
  z233 := Tryd.sizeOf193
  v233 := Tryd.zeroValue193
  g17 := by kernel_rfl
  g18 := by kernel_rfl
  g19 := by kernel_rfl
  i0 := by kernel_rfl
  i2 := by kernel_rfl
  i3 := by kernel_rfl
  i4 := by kernel_rfl
  i5 := by kernel_rfl
  i9 := by kernel_rfl
  i20 := by kernel_rfl
  i37 := by kernel_rfl
  i46 := by kernel_rfl
  i51 := by kernel_rfl
  i53 := by kernel_rfl
  i171 := by kernel_rfl
  i173 := by kernel_rfl
  i212 := by kernel_rfl
  i232 := by kernel_rfl
  i233 := by kernel_rfl
  m17 := by kernel_rfl
  m18 := by kernel_rfl
  m19 := by kernel_rfl }
open Go.RowKit Go.Sort Go.Lib in
/-- strconv.Itoa: "Itoa is equivalent to FormatInt(int64(i), 10).": i's DECIMAL NUMERAL ('Lib.itoa': a '-' where i is negative, then the digits), FOR EVERY int. The world behind the call: the world before it, new blocks behind the heap (the library's 'var a [24]byte'), draws. (LAID: no walk: one application.) -/
theorem Tryd.strconv_Itoa (n : Int) (h0 : -9223372036854775808 ≤ n) (h1 : n ≤ 9223372036854775807) (w : World) (htab : Lib.TabIs Tryd.prog w "internal/strconv.uint64pow10" .u64 Lib.pow10Tab) :
    Calls Tryd.prog 54 #[.int .i64 n] w fun e w' => e = .returned (.string ⟨(Lib.itoa n).toArray⟩) ∧ ∃ k os, w' = grow (w.drewN k) os := Any.strconv_Itoa Tryd.laysM171 n h0 h1 w htab
end Go.Proofs
namespace Go.Proofs.YtiihhjfdgojkeaaDoor.X
open Go.RowKit Go.Proofs.YtiihhjfdgojkeaaDoorW.PrintWords Go.Proofs.YtiihhjfdgojkeaaDoorW.PrintLast Go.Proofs.YtiihhjfdgojkeaaDoorW.PrintMore
set_option linter.unusedVariables false
/-- The operations' words, and how many numbers each has. -/
def formCells : Array Value := #[.string ⟨#[]⟩, .int .i64 0, .string ⟨#[99, 114, 111, 112]⟩, .int .i64 4, .string ⟨#[102, 108, 105, 112, 120]⟩, .int .i64 0, .string ⟨#[102, 108, 105, 112, 121]⟩, .int .i64 0, .string ⟨#[116, 117, 114, 110]⟩, .int .i64 0, .string ⟨#[103, 114, 97, 121]⟩, .int .i64 0, .string ⟨#[98, 108, 117, 114]⟩, .int .i64 0, .string ⟨#[115, 105, 122, 101]⟩, .int .i64 2, .string ⟨#[102, 108, 97, 116]⟩, .int .i64 3]
structure Glob (w : World) : Prop where
  forms : ∃ t fr, w.heap[0]? = some (.cells formCells t fr)
  pow : ∃ t fr, w.heap[3]? = some (.cells (Lib.pow10Tab.map fun z => Value.int .u64 z).toArray t fr)
theorem Glob.size {w : World} (h : Glob w) : 3 < w.heap.size := by obtain ⟨_, ⟨t, fr, hp⟩⟩ := h; exact blk_lt hp
theorem Glob.belowW {w w' : World} (h : Glob w) (hb : Below w.heap.size w w') : Glob w' := by
  have hs := h.size
  obtain ⟨⟨t, fr, h1⟩, ⟨t2, fr2, h2⟩⟩ := h
  exact ⟨⟨t, fr, (hb.block _ (by omega)).trans h1⟩, ⟨t2, fr2, (hb.block _ (by omega)).trans h2⟩⟩
theorem gPow : Tryd.prog.globalNamed "internal/strconv.uint64pow10" = some 3 := by kernel_rfl
theorem Glob.tab {w : World} (h : Glob w) : Lib.TabIs Tryd.prog w "internal/strconv.uint64pow10" .u64 Lib.pow10Tab := by
  obtain ⟨_, ⟨t, fr, hp⟩⟩ := h
  unfold Lib.TabIs World.var?
  rw [gPow, Option.bind_some, hp]
theorem itoa_calls (n : Int) (w : World) (hG : Glob w) (h0 : -9223372036854775808 ≤ n) (h1 : n ≤ 9223372036854775807) :
    Calls Tryd.prog 54 #[.int .i64 n] w fun e w' => e = .returned (.string ⟨(Lib.itoa n).toArray⟩) ∧ Below w.heap.size w w' := by
  refine (Tryd.strconv_Itoa n h0 h1 w hG.tab).mono ?_
  rintro e w' ⟨rfl, k, os, rfl⟩
  exact ⟨rfl, Lib.below_grow _ _ (Nat.le_refl _) _ _⟩
end Go.Proofs.YtiihhjfdgojkeaaDoor.X
namespace Go.Proofs.YtiihhjfdgojkeaaDoor.X
open Go.RowKit Go.Proofs.YtiihhjfdgojkeaaDoorW.PrintWords Go.Proofs.YtiihhjfdgojkeaaDoorW.PrintLast Go.Proofs.YtiihhjfdgojkeaaDoorW.PrintMore
attribute [local go_sem] max2_int min2_int max_two min_two max_three min_three max_four min_four
set_option linter.unusedVariables false
set_option linter.unusedSimpArgs false

section
def formsL : List (ByteArray × Nat) := [(⟨#[]⟩, 0), (⟨#[99, 114, 111, 112]⟩, 4), (⟨#[102, 108, 105, 112, 120]⟩, 0), (⟨#[102, 108, 105, 112, 121]⟩, 0), (⟨#[116, 117, 114, 110]⟩, 0), (⟨#[103, 114, 97, 121]⟩, 0), (⟨#[98, 108, 117, 114]⟩, 0), (⟨#[115, 105, 122, 101]⟩, 2), (⟨#[102, 108, 97, 116]⟩, 3)]
def formW (k : Nat) : ByteArray := (formsL.getD k (⟨#[]⟩, 0)).1
def formN (k : Nat) : Nat := (formsL.getD k (⟨#[]⟩, 0)).2
def numT (n : Int) : ByteArray := (⟨#[46]⟩ : ByteArray) ++ ⟨(Lib.itoa n).toArray⟩
/-- The text of a word, and so many numbers. -/
def txtI (word : ByteArray) (ns : List Int) : ByteArray := ns.foldl (fun s n => s ++ numT n) word
def okI (n : Int) : Prop := -9223372036854775808 ≤ n ∧ n ≤ 9223372036854775807
instance (n : Int) : Decidable (okI n) := inferInstanceAs (Decidable (_ ∧ _))
def opTextI (k : Int) (ns : List Int) : Option ByteArray := if 0 ≤ k ∧ k < 9 ∧ ∀ n ∈ ns, okI n then some (txtI (formW k.toNat) (ns.take (formN k.toNat))) else none
def impl_OpText.f (k : Nat) (a0_0 a0_1 a0_2 a0_3 a0_4 : Int) : Option ByteArray := (impl_OpOk.f k a0_0 a0_1 a0_2 a0_3 a0_4).bind fun t => if t = true then opTextI a0_0 [a0_1, a0_2, a0_3, a0_4] else some ⟨#[]⟩
set_option maxHeartbeats 1000000 in
set_option maxRecDepth 100000 in
theorem opNumbers_calls (a0 a1 a2 a3 a4 : Int) (w : World) : Calls Tryd.prog 53 #[.agg #[.int .i64 a0, .int .i64 a1, .int .i64 a2, .int .i64 a3, .int .i64 a4]] w fun e w' => e = .returned (.agg #[.int .i64 a1, .int .i64 a2, .int .i64 a3, .int .i64 a4]) ∧ Below w.heap.size w w' := by
 have hu := Tryd.underlying25; have hz : ∀ w : World, (zeroValue 79).run Tryd.prog w = .ok (.agg #[.int .i64 0, .int .i64 0, .int .i64 0, .int .i64 0]) w := fun w => by kernel_rfl
 go_enter Tryd.func53, Tryd.ntmps53
 go_wp2_with (first | ((with_reducible refine gd_ 1 rfl ?_); refine bx_ 1 rfl #[.int .i64 a0, .int .i64 a1, .int .i64 a2, .int .i64 a3, .int .i64 a4] 25 ?_; intro b2 hg w5 hbox hb; have HX := Aside0.mk hbox; have HB := Aside0.mk hb; clear hb hbox hg) | ((with_reducible refine gd_ 2 rfl ?_); refine bx_ 2 rfl #[.int .i64 0, .int .i64 0, .int .i64 0, .int .i64 0] 79 ?_; intro b3 hg w7 hbox hb; have HX7 := Aside0.mk hbox; obtain ⟨x0, x1, x2, x3, x4⟩ := cc5_ (blk_below HX.out hb); obtain ⟨y0, y1, y2, y3⟩ := cc4_ hbox; obtain ⟨f0, f1, f2, f3⟩ := cf4_ hbox; have HB7 := Aside0.mk (below_step HB.out hb); have HG3 := Aside0.mk (show w.heap.size ≤ b3 by rw [hg]; exact HB.out.size); clear hb hbox hg))
 refine bodyPost_ret (results_cell_row Tryd.results53 _ _ b3 79 #[.int .i64 a1, .int .i64 a2, .int .i64 a3, .int .i64 a4] (0, 0) _ rfl ?hh Tryd.underlying79 rfl (by kernel_rfl)) rfl ⟨rfl, ?bb⟩
 case hh => exact blk_set (blk_set (blk_set (blk_set HX7.out 0 _) 1 _) 2 _) 3 _
 case bb => exact (((HB7.out.setCell (p := ⟨b3, 0, none⟩) HG3.out _).setCell (p := ⟨b3, 1, none⟩) HG3.out _).setCell (p := ⟨b3, 2, none⟩) HG3.out _).setCell (p := ⟨b3, 3, none⟩) HG3.out _
theorem up_cell {w : World} {a : Addr} {v : Value} (h : w.cell? a = some v) : (∀ o1, (w.alloc o1).cell? a = some v) ∧ (∀ o1 o2, ((w.alloc o1).alloc o2).cell? a = some v) := by
 have e : ∀ (w : World) (o : Obj), w.cell? a = some v → (w.alloc o).cell? a = some v := fun w o h => pw_cell_below ((Below.refl _ _).alloc (Nat.le_refl _) o) h
 exact ⟨fun o1 => e _ _ h, fun o1 o2 => e _ _ (e _ _ h)⟩
theorem formN_le (k : Nat) (hk : k < 9) : formN k ≤ 4 := by
 match k, hk with
 | 0, _ => decide
 | 1, _ => decide
 | 2, _ => decide
 | 3, _ => decide
 | 4, _ => decide
 | 5, _ => decide
 | 6, _ => decide
 | 7, _ => decide
 | 8, _ => decide
theorem txtI_snoc (W : ByteArray) (l : List Int) (n : Int) : txtI W (l ++ [n]) = txtI W l ++ numT n := by simp [txtI, List.foldl_append]
theorem num_at {w : World} {g : Nat} {a b c d : Int} {t : TypeId} {fr : Nat × Nat} {i : Nat} (h : w.heap[g]? = some (.cells #[.int .i64 a, .int .i64 b, .int .i64 c, .int .i64 d] t fr)) (hi : i < 4) : w.cell? ⟨g, i, none⟩ = some (.int .i64 ([a, b, c, d].getD i 0)) := by
 rw [cell_of_row _ _ _ _ _ _ h]
 match i, hi with
 | 0, _ => rfl
 | 1, _ => rfl
 | 2, _ => rfl
 | 3, _ => rfl
theorem num_mem {a b c d : Int} {i : Nat} (hi : i < 4) : [a, b, c, d].getD i 0 ∈ [a, b, c, d] := by
 match i, hi with
 | 0, _ => simp
 | 1, _ => simp
 | 2, _ => simp
 | 3, _ => simp
theorem take_getD (l : List Int) (n : Nat) (h : n < l.length) : l.take (n + 1) = l.take n ++ [l.getD n 0] := by
 rw [List.take_add_one, List.getElem?_eq_getElem h]; simp [List.getD_eq_getElem?_getD, List.getElem?_eq_getElem h]
theorem numT_size (n : Int) : (numT n).size = 1 + (Lib.itoa n).length := by unfold numT; rw [ByteArray.size_append]; show 1 + (Lib.itoa n).toArray.size = _; rw [List.size_toArray]
theorem txtI_len (W : ByteArray) (l : List Int) (h : ∀ n ∈ l, okI n) (hW : W.size ≤ 5) (hl : l.length ≤ 4) : (txtI W l).size ≤ 1000 := by
 have : ∀ (l : List Int) (S : ByteArray), (∀ n ∈ l, okI n) → (l.foldl (fun s n => s ++ numT n) S).size ≤ S.size + 22 * l.length := by
  intro l
  induction l with
  | nil => intro S _; simp
  | cons a l ih =>
   intro S h; have h1 := ih (S ++ numT a) (fun n hn => h n (List.mem_cons_of_mem _ hn)); have h2 := h a (List.mem_cons_self ..); have h3 := Lib.itoa_length_le a h2.1 h2.2
   rw [ByteArray.size_append, numT_size] at h1
   simp only [List.foldl_cons, List.length_cons]
   omega
 have := this l W h
 unfold txtI
 omega
theorem formW_len (k : Nat) (hk : k < 9) : (formW k).size ≤ 5 := by
 match k, hk with
 | 0, _ => decide
 | 1, _ => decide
 | 2, _ => decide
 | 3, _ => decide
 | 4, _ => decide
 | 5, _ => decide
 | 6, _ => decide
 | 7, _ => decide
 | 8, _ => decide
theorem form_word {w : World} (h : Glob w) (k : Nat) (hk : k < 9) : w.cell? ⟨0, k * 2, none⟩ = some (.string (formW k)) ∧ w.cell? ⟨0, k * 2 + 1, none⟩ = some (.int .i64 (formN k : Int)) := by
 obtain ⟨⟨t, fr, h1⟩, _⟩ := h
 rw [cell_of_row _ _ _ _ _ _ h1, cell_of_row _ _ _ _ _ _ h1]
 match k, hk with
 | 0, _ => exact ⟨rfl, rfl⟩
 | 1, _ => exact ⟨rfl, rfl⟩
 | 2, _ => exact ⟨rfl, rfl⟩
 | 3, _ => exact ⟨rfl, rfl⟩
 | 4, _ => exact ⟨rfl, rfl⟩
 | 5, _ => exact ⟨rfl, rfl⟩
 | 6, _ => exact ⟨rfl, rfl⟩
 | 7, _ => exact ⟨rfl, rfl⟩
 | 8, _ => exact ⟨rfl, rfl⟩
theorem form_cut (k : Nat) (hk : k < 9) : ∀ (b : Nat) (W : World), (Instr.sliceAt 79 (.pointer (some ⟨b, 0, none⟩)) none (some (.int .i64 (formN k : Int))) none).run Tryd.prog W = .ok (.slice (some ⟨b, 0, none⟩) (formN k) 4) W := by
 intro b W
 match k, hk with
 | 0, _ => (show _ = _; kernel_rfl)
 | 1, _ => (show _ = _; kernel_rfl)
 | 2, _ => (show _ = _; kernel_rfl)
 | 3, _ => (show _ = _; kernel_rfl)
 | 4, _ => (show _ = _; kernel_rfl)
 | 5, _ => (show _ = _; kernel_rfl)
 | 6, _ => (show _ = _; kernel_rfl)
 | 7, _ => (show _ = _; kernel_rfl)
 | 8, _ => (show _ = _; kernel_rfl)
set_option maxHeartbeats 4000000 in
set_option maxRecDepth 100000 in
theorem impl_OpText.calls (k : Nat) (a0_0 a0_1 a0_2 a0_3 a0_4 : Int) (r : ByteArray) (w : World) (h : impl_OpText.f k a0_0 a0_1 a0_2 a0_3 a0_4 = some r) (hG : Glob w) :
  Calls Tryd.prog 15 #[.agg #[.int .i64 a0_0, .int .i64 a0_1, .int .i64 a0_2, .int .i64 a0_3, .int .i64 a0_4]] w fun e w' => e = .returned (.string r) ∧ Below w.heap.size w w' := by
 have HG := Aside0.mk hG; clear hG; obtain ⟨t, ht, h⟩ := Option.bind_eq_some_iff.1 h; have HT := Aside0.mk ht; clear ht; have hu := Tryd.underlying25
 cases t with
 | false =>
  rw [if_neg (by decide)] at h
  obtain rfl := Option.some.inj h
  go_enter Tryd.func15, Tryd.ntmps15
  go_wp2_with (first | ((with_reducible refine gd_ 1 rfl ?_); refine bx_ 1 rfl #[.int .i64 a0_0, .int .i64 a0_1, .int .i64 a0_2, .int .i64 a0_3, .int .i64 a0_4] 25 ?_; intro b2 hg w5 hbox hb; have HX := Aside0.mk hbox; have HB := Aside0.mk hb; obtain ⟨x0, x1, x2, x3, x4⟩ := cc5_ hbox; clear hb hbox hg) | (go_at_call 34; refine (impl_OpOk.calls k a0_0 a0_1 a0_2 a0_3 a0_4 false _ HT.out).mono ?_; rintro e w6 ⟨rfl, hb⟩; have HB6 := Aside0.mk (below_step HB.out hb); clear hb))
  go_ret
  exact ⟨rfl, HB6.out⟩
 | true =>
  rw [if_pos rfl] at h
  unfold opTextI at h
  split at h
  case isFalse => cases h
  rename_i hk
  obtain ⟨hk0, hk9, hns⟩ := hk; obtain rfl := Option.some.inj h; obtain ⟨kd, rfl⟩ := Int.eq_ofNat_of_zero_le hk0; have hkd : kd < 9 := (by omega); have HNS := Aside0.mk hns
  simp only [Int.toNat_natCast]
  clear hk0 hk9 h hns; have hsl := form_cut kd hkd
  go_enter Tryd.func15, Tryd.ntmps15
  go_wp2_with (first | ((with_reducible refine gd_ 1 rfl ?_); refine bx_ 1 rfl #[.int .i64 (kd : Int), .int .i64 a0_1, .int .i64 a0_2, .int .i64 a0_3, .int .i64 a0_4] 25 ?_; intro b2 hg w5 hbox hb; have HX := Aside0.mk hbox; have HB := Aside0.mk hb; obtain ⟨x0, x1, x2, x3, x4⟩ := cc5_ hbox; clear hb hbox hg) | (go_at_call 34; refine (impl_OpOk.calls k (kd : Int) a0_1 a0_2 a0_3 a0_4 true _ HT.out).mono ?_; rintro e w6 ⟨rfl, hb⟩; have HB6 := Aside0.mk (below_step HB.out hb); obtain ⟨y0, y1, y2, y3, y4⟩ := cc5_ (blk_below HX.out hb); have u0 := (up_cell y0).1; have u1 := (up_cell y1).1; have u2 := (up_cell y2).1; have u3 := (up_cell y3).1; have u4 := (up_cell y4).1; obtain ⟨z0, z1⟩ := form_word (HG.out.belowW HB6.out) kd hkd; clear hb) | (go_at_call 53; refine (opNumbers_calls (kd : Int) a0_1 a0_2 a0_3 a0_4 _).mono ?_; rintro e w8 ⟨rfl, hb⟩; have v0 := (up_cell (pw_cell_below hb (v := .string (formW kd)) ((cell_of_row _ w6.heap.size 0 _ _ _ (heap_alloc_new w6 _)).trans rfl))).1; have v1 := (up_cell (pw_cell_below hb (v := .int .i64 (formN kd : Int)) ((cell_of_row _ w6.heap.size 1 _ _ _ (heap_alloc_new w6 _)).trans rfl))).1; have HB8 := Aside0.mk hb; clear hb))
  obtain ⟨g, hg⟩ : ∃ g, w8.heap.size = g := ⟨_, rfl⟩; have HA : Aside0 ((w8.alloc (.cells #[.int .i64 a0_1, .int .i64 a0_2, .int .i64 a0_3, .int .i64 a0_4] 79)).heap[g]? = some (.cells #[.int .i64 a0_1, .int .i64 a0_2, .int .i64 a0_3, .int .i64 a0_4] 79 (0, 0))) := ⟨by rw [← hg]; exact blk_new w8 _⟩; have hba := below_step (HB6.out.alloc HB6.out.size (.cells #[.string (formW kd), .int .i64 (formN kd : Int)] 77)) HB8.out; have HBA := Aside0.mk (hba.alloc hba.size (.cells #[.int .i64 a0_1, .int .i64 a0_2, .int .i64 a0_3, .int .i64 a0_4] 79)); have HGE := Aside0.mk (show w.heap.size ≤ g by rw [← hg]; exact hba.size)
  rw [hg]
  have h4 := formN_le kd hkd; clear hba hg u0 u1 u2 u3 u4 v0 v1 x0 x1 x2 x3 x4 y0 y1 y2 y3 y4
  (try simp only [Act.put, List.setIfInBounds_toArray, List.set_cons_zero, List.set_cons_succ])
  go_loopg [5, 23] (formN kd) (fun kq v5 v23 w' => ∃ i : Nat, kq + i = formN kd ∧ v5 = .string (txtI (formW kd) ([a0_1, a0_2, a0_3, a0_4].take i)) ∧ v23 = .int .i64 i ∧ w'.heap[g]? = some (.cells #[.int .i64 a0_1, .int .i64 a0_2, .int .i64 a0_3, .int .i64 a0_4] 79 (0, 0)) ∧ Below w.heap.size w w')
  case atStart => exact ⟨0, by omega, rfl, rfl, HA.out, HBA.out⟩
  case round =>
   obtain ⟨i, hk, rfl, rfl, hA, hL⟩ := hrel; have HA2 := Aside0.mk hA; have HL := Aside0.mk hL
   by_cases h6 : i < formN kd
   · have x : wr.cell? ⟨g, i, none⟩ = some (.int .i64 ([a0_1, a0_2, a0_3, a0_4].getD i 0)) := num_at hA (by omega)
     have HN := Aside0.mk (HNS.out ([a0_1, a0_2, a0_3, a0_4].getD i 0) (num_mem (by omega))); have HS := Aside0.mk (txtI_len (formW kd) ([a0_1, a0_2, a0_3, a0_4].take i) (fun n hn => HNS.out n (List.mem_of_mem_take hn)) (formW_len kd hkd) (by simp; omega)); obtain ⟨n, hn⟩ : ∃ n, [a0_1, a0_2, a0_3, a0_4].getD i 0 = n := ⟨_, rfl⟩; obtain ⟨tx, htx⟩ : ∃ tx, txtI (formW kd) ([a0_1, a0_2, a0_3, a0_4].take i) = tx := ⟨_, rfl⟩; have HNM := Aside0.mk hn; have HTX := Aside0.mk htx
     rw [hn] at x HN; rw [htx] at HS ⊢
     have l1 : (⟨#[46]⟩ : ByteArray).size + (⟨(Lib.itoa n).toArray⟩ : ByteArray).size ≤ 9223372036854775807 := (by have := Lib.itoa_length_le n HN.out.1 HN.out.2; show 1 + (Lib.itoa n).toArray.size ≤ _; rw [List.size_toArray]; omega); have s1 : ∀ W : World, (Op.stringOp .add ⟨#[46]⟩ ⟨(Lib.itoa n).toArray⟩).run Tryd.prog W = .ok (.string (numT n)) W := fun W => run_string_add_sum W _ _ l1; have s2 : ∀ W : World, (Op.stringOp .add tx (numT n)).run Tryd.prog W = .ok (.string (tx ++ numT n)) W := fun W => run_string_add_sum W _ _ (by have := HS.out; have := Lib.itoa_length_le n HN.out.1 HN.out.2; have : (numT n).size = 1 + (Lib.itoa n).length := numT_size n; omega); clear hn htx l1; clear hA hL
     go_wp2_with (go_at_call 54; refine (itoa_calls _ _ (HG.out.belowW HL.out) HN.out.1 HN.out.2).mono ?_; rintro e w9 ⟨rfl, hb⟩; have HB9 := Aside0.mk (below_step HL.out hb); have HA9 := Aside0.mk (blk_below HA2.out hb); clear hb)
     go_roundg (gk - 1)
     case measure => omega
     case rel => exact ⟨i + 1, by omega, by rw [take_getD _ _ (by simp; omega), txtI_snoc, HNM.out, HTX.out], by first | rfl | (simp; done) | (unfold wrap64; simp; omega), HA9.out, HB9.out⟩
   · obtain rfl : i = formN kd := by omega
     clear hA hL
     go_wp2
     go_ret
     exact ⟨rfl, HL.out⟩
end
section
def laws_FnExactOpText.f (k : Nat) (a0_0 : Int) (a0_1 : Int) (a0_2 : Int) (a0_3 : Int) (a0_4 : Int) : Option (Bool) := (laws_toOpOp.f a0_0 a0_1 a0_2 a0_3 a0_4).bind fun bt102 => ((spec_OpText.f k bt102.1 bt102.2.1 bt102.2.2.1 bt102.2.2.2.1 bt102.2.2.2.2).bind fun t107 => ((laws_toOpOp.f a0_0 a0_1 a0_2 a0_3 a0_4).bind fun bt108 => ((impl_OpText.f k bt108.1 bt108.2.1 bt108.2.2.1 bt108.2.2.2.1 bt108.2.2.2.2).bind fun t113 => (if t113.toList = t107.toList then (some true) else (some false)))))
set_option maxHeartbeats 8000000 in
set_option maxRecDepth 100000 in
theorem laws_FnExactOpText.calls (k : Nat) (a0_0 : Int) (a0_1 : Int) (a0_2 : Int) (a0_3 : Int) (a0_4 : Int) (r : Bool) (w : World) (h : laws_FnExactOpText.f k a0_0 a0_1 a0_2 a0_3 a0_4 = some r) (hrt : r = true) (hG : Glob w) :
  Calls Tryd.prog 3 #[.agg #[.int .i64 a0_0, .int .i64 a0_1, .int .i64 a0_2, .int .i64 a0_3, .int .i64 a0_4]] w fun e w' => e = .returned (.bool r) ∧ Below w.heap.size w w' := by
 have HG := Aside0.mk hG; clear hG; have hu23 := Tryd.underlying23; have HB := Aside0.mk (Below.refl w.heap.size w); have H : ((laws_toOpOp.f a0_0 a0_1 a0_2 a0_3 a0_4).bind fun a6 => ((spec_OpText.f k a6.1 a6.2.1 a6.2.2.1 a6.2.2.2.1 a6.2.2.2.2).bind fun a8 => ((laws_toOpOp.f a0_0 a0_1 a0_2 a0_3 a0_4).bind fun a7 => ((impl_OpText.f k a7.1 a7.2.1 a7.2.2.1 a7.2.2.2.1 a7.2.2.2.2).bind fun a9 => (if a9.toList = a8.toList then (some true) else (some false)))))) = some r := h; clear h; obtain ⟨⟨b0, b1, b2, b3, b4⟩, A2, H⟩ := bindA H; (try dsimp only at H); obtain ⟨a8, A3, H⟩ := bindA H; (try dsimp only at H); obtain ⟨⟨b5, b6, b7, b8, b9⟩, A4, H⟩ := bindA H; (try dsimp only at H); obtain ⟨a9, A5, H⟩ := bindA H; (try dsimp only at H)
 by_cases c6 : a9.toList = a8.toList
 ·
  rw [if_pos c6] at H
  have d3 := beq_iff_eq.mpr c6; have d4 := bne_eq_false_iff_eq.mpr c6; clear c6; obtain rfl := Option.some.inj H
  go_enter Tryd.func3, Tryd.ntmps3
  go_wp2_with (first | ((with_reducible refine gd_ 1 rfl ?_); refine bx_ 1 rfl #[.int .i64 a0_0, .int .i64 a0_1, .int .i64 a0_2, .int .i64 a0_3, .int .i64 a0_4] 23 ?_; intro c0 hg w7 hbox hb; have a5 := Aside0.mk (hbox); have c1 := Aside0.mk ((by rw [hg]; exact (below_size (upH HB.out)) : w.heap.size ≤ c0)); replace HB := Aside0.mk (below_step (upH HB.out) hb); have e7 := c1; clear hb hbox hg; obtain ⟨d5, d6, d7, d8, d9⟩ := cc5_ a5.out; obtain ⟨e1, e2, e3, e4⟩ := cf4_ a5.out; have e6 := blk_frozen a5.out 4) | ((with_reducible refine gc_ 14 rfl ?_); refine gl_ (some 6) rfl Tryd.func14 #[.agg #[.int .i64 a0_0, .int .i64 a0_1, .int .i64 a0_2, .int .i64 a0_3, .int .i64 a0_4]] ?_; (with_reducible refine (laws_toOpOp.calls a0_0 a0_1 a0_2 a0_3 a0_4 b0 b1 b2 b3 b4 _ A2.out).mono ?_); rintro e w9 ⟨rfl, hb⟩; refine ⟨_, rfl, ?_⟩; replace a5 := Aside0.mk (blk_below (upB a5.out) hb); replace HB := Aside0.mk (below_step (by repeat (with_reducible first | exact HB.out | apply below_alloc | apply pw_below_drewN | apply below_drew1 | refine below_set ?_ (Aside0.out ‹_›))) hb); (try clear hb)) | ((with_reducible refine gc_ 13 rfl ?_); refine gl_ (some 7) rfl Tryd.func13 #[.agg #[.int .i64 b0, .int .i64 b1, .int .i64 b2, .int .i64 b3, .int .i64 b4]] ?_; (with_reducible refine (spec_OpText.calls k b0 b1 b2 b3 b4 a8 _ A3.out).mono ?_); rintro e w10 ⟨rfl, hb⟩; refine ⟨_, rfl, ?_⟩; replace a5 := Aside0.mk (blk_below (upB a5.out) hb); replace HB := Aside0.mk (below_step (by repeat (with_reducible first | exact HB.out | apply below_alloc | apply pw_below_drewN | apply below_drew1 | refine below_set ?_ (Aside0.out ‹_›))) hb); (try clear hb); obtain ⟨c2, c3, c4, c5, c7⟩ := cc5_ a5.out; obtain ⟨c8, c9, d0, d1⟩ := cf4_ a5.out; have d2 := blk_frozen a5.out 4) | ((with_reducible refine gc_ 14 rfl ?_); refine gl_ (some 9) rfl Tryd.func14 #[.agg #[.int .i64 a0_0, .int .i64 a0_1, .int .i64 a0_2, .int .i64 a0_3, .int .i64 a0_4]] ?_; (with_reducible refine (laws_toOpOp.calls a0_0 a0_1 a0_2 a0_3 a0_4 b5 b6 b7 b8 b9 _ A4.out).mono ?_); rintro e w12 ⟨rfl, hb⟩; refine ⟨_, rfl, ?_⟩; replace a5 := Aside0.mk (blk_below (upB a5.out) hb); replace HB := Aside0.mk (below_step (by repeat (with_reducible first | exact HB.out | apply below_alloc | apply pw_below_drewN | apply below_drew1 | refine below_set ?_ (Aside0.out ‹_›))) hb); (try clear hb)) | ((with_reducible refine gc_ 15 rfl ?_); refine gl_ (some 10) rfl Tryd.func15 #[.agg #[.int .i64 b5, .int .i64 b6, .int .i64 b7, .int .i64 b8, .int .i64 b9]] ?_; (with_reducible refine (impl_OpText.calls k b5 b6 b7 b8 b9 a9 _ A5.out ?sideG).mono ?_); (case sideG => exact Glob.belowW HG.out (by repeat (first | (with_reducible first | exact HB.out | apply below_alloc | apply pw_below_drewN | apply below_drew1) | exact HB.out | exact Below.refl _ _))); rintro e w13 ⟨rfl, hb⟩; refine ⟨_, rfl, ?_⟩; replace a5 := Aside0.mk (blk_below (upB a5.out) hb); replace HB := Aside0.mk (below_step (by repeat (with_reducible first | exact HB.out | apply below_alloc | apply pw_below_drewN | apply below_drew1 | refine below_set ?_ (Aside0.out ‹_›))) hb); (try clear hb)))
  go_ret
  exact ⟨by first | rfl | (simp [*, errW_none, errW_some] <;> rfl), by repeat (with_reducible first | exact HB.out | apply below_alloc | apply pw_below_drewN | apply below_drew1 | refine below_set ?_ (Aside0.out ‹_›))⟩
 ·
  rw [if_neg c6] at H
  have d3 := beq_eq_false_iff_ne.mpr c6; have d4 := bne_iff_ne.mpr c6
  rw [hrt] at H
  exact absurd H (by simp)
end
end Go.Proofs.YtiihhjfdgojkeaaDoor.X
namespace Go.Proofs.YtiihhjfdgojkeaaDoor.X
open Go.RowKit Go.Proofs.YtiihhjfdgojkeaaDoorW.PrintWords Go.Proofs.YtiihhjfdgojkeaaDoor.Opn
set_option linter.unusedVariables false
/-- What is to be shown of the law FnExactOpText, over data alone. -/
def laws_FnExactOpText.Pure : Prop := ∀ (a0_0 : Int) (a0_1 : Int) (a0_2 : Int) (a0_3 : Int) (a0_4 : Int), (Lit.int .i64 a0_0).wf = true → (Lit.int .i64 a0_1).wf = true → (Lit.int .i64 a0_2).wf = true → (Lit.int .i64 a0_3).wf = true → (Lit.int .i64 a0_4).wf = true → ∃ k, laws_FnExactOpText.f k a0_0 a0_1 a0_2 a0_3 a0_4 = some true
end Go.Proofs.YtiihhjfdgojkeaaDoor.X
namespace Go.Proofs.YtiihhjfdgojkeaaDoor.Pl
open Go.RowKit Go.Proofs.YtiihhjfdgojkeaaDoorW.PrintWords

/-- From a round on: with a round more. -/
theorem ev_succ {α : Type} {g : Nat → Option α} {r : α} (h : Ev (fun k => g (k + 1)) r) : Ev g r := by
  obtain ⟨K, h⟩ := h
  refine ⟨K + 1, fun n hn => ?_⟩
  obtain ⟨m, rfl⟩ : ∃ m, n = m + 1 := ⟨n - 1, by omega⟩
  exact h m (by omega)

/-- From a number of rounds on, through a step. -/
theorem Ev.at_ {α : Type} {g : Nat → Option α} {r : α} (h : Ev g r) : ∃ K, ∀ k, K ≤ k → g k = some r := h
theorem ev_const {α : Type} {x : Option α} {r : α} (h : x = some r) : Ev (fun _ => x) r := ⟨0, fun _ _ => h⟩

/-! ### What a told function comes to, from some number of rounds on -/
/-- It answers, and the answer is so. -/
def Tot {α : Type} (g : Nat → Option α) (post : α → Prop) : Prop := ∃ r, Ev g r ∧ post r
theorem Tot.ret {α : Type} {post : α → Prop} {r : α} (h : post r) : Tot (fun _ => some r) post := ⟨r, Ev.now r, h⟩
theorem Tot.mono {α : Type} {g : Nat → Option α} {P Q : α → Prop} (h : Tot g P) (hi : ∀ r, P r → Q r) : Tot g Q := by
  obtain ⟨r, h, hp⟩ := h
  exact ⟨r, h, hi r hp⟩
theorem Tot.bind {α β : Type} {g : Nat → Option α} {f : Nat → α → Option β} {P : α → Prop} {Q : β → Prop} (h : Tot g P) (hf : ∀ a, P a → Tot (fun k => f k a) Q) : Tot (fun k => (g k).bind (f k)) Q := by
  obtain ⟨a, h, hp⟩ := h
  obtain ⟨r, h2, hq⟩ := hf a hp
  exact ⟨r, Ev.bind h h2, hq⟩
theorem Tot.some_bind {α β : Type} {f : Nat → α → Option β} {Q : β → Prop} {a : α} (hf : Tot (fun k => f k a) Q) : Tot (fun k => (some a).bind (f k)) Q := hf
theorem Tot.pos {α : Type} {c : Prop} [Decidable c] {f g : Nat → Option α} {Q : α → Prop} (h : c) (h1 : Tot f Q) : Tot (fun k => if c then f k else g k) Q := by simpa [h] using h1
theorem Tot.neg {α : Type} {c : Prop} [Decidable c] {f g : Nat → Option α} {Q : α → Prop} (h : ¬ c) (h1 : Tot g Q) : Tot (fun k => if c then f k else g k) Q := by simpa [h] using h1
theorem Tot.succ {α : Type} {g : Nat → Option α} {Q : α → Prop} (h : Tot (fun k => g (k + 1)) Q) : Tot g Q := by
  obtain ⟨r, h, hp⟩ := h
  exact ⟨r, ev_succ h, hp⟩
theorem Tot.of_eq {α : Type} {x : Option α} {r : α} (h : x = some r) : Tot (fun _ => x) (fun y => y = r) := ⟨r, ev_const h, rfl⟩
theorem Tot.rounds {g : Nat → Option Bool} (h : Tot g (fun b => b = true)) : ∃ k, g k = some true := by
  obtain ⟨r, h, rfl⟩ := h
  exact h.rounds

end Go.Proofs.YtiihhjfdgojkeaaDoor.Pl
namespace Go.Proofs.YtiihhjfdgojkeaaDoor.X
open Go.RowKit Go.Proofs.YtiihhjfdgojkeaaDoorW.PrintWords Go.Proofs.YtiihhjfdgojkeaaDoor.Pl
set_option linter.unusedSimpArgs false

theorem l1In_some (a b c : Int) : spec_l1In.f a b c = some (decide (b ≤ a ∧ a ≤ c)) := by
  unfold spec_l1In.f
  by_cases h : b ≤ a <;> simp [h]
theorem within_some (a b c : Int) : impl_within.f a b c = some (decide (b ≤ a ∧ a ≤ c)) := by
  unfold impl_within.f
  by_cases h : b ≤ a <;> simp [h]
theorem sizeOk_some (a : Int) : impl_sizeOk.f a = some (decide (1 ≤ a ∧ a ≤ 6)) := by
  unfold impl_sizeOk.f
  by_cases h : 1 ≤ a <;> simp [h]
theorem partOk_some (a : Int) : impl_partOk.f a = some (decide (0 ≤ a ∧ a ≤ 255)) := by
  unfold impl_partOk.f
  by_cases h : 0 ≤ a <;> simp [h]

/-- May it be done: by its kind and its four numbers. -/
def opOkB (o a b c d : Int) : Bool :=
  if o = 1 then decide (0 ≤ a ∧ a ≤ 5) && (decide (0 ≤ b ∧ b ≤ 5) && (decide (1 ≤ c ∧ c ≤ 6) && decide (1 ≤ d ∧ d ≤ 6)))
  else if o = 7 then decide (1 ≤ a ∧ a ≤ 6) && (decide (1 ≤ b ∧ b ≤ 6) && (decide (c = 0) && decide (d = 0)))
  else if o = 8 then decide (0 ≤ a ∧ a ≤ 255) && (decide (0 ≤ b ∧ b ≤ 255) && (decide (0 ≤ c ∧ c ≤ 255) && decide (d = 0)))
  else decide (2 ≤ o ∧ o ≤ 6) && (decide (a = 0) && (decide (b = 0) && (decide (c = 0) && decide (d = 0))))

theorem spec_OpOk_some (o a b c d : Int) : spec_OpOk.f o a b c d = some (opOkB o a b c d) := by
  unfold spec_OpOk.f opOkB
  simp only [l1In_some, Option.bind_some]
  by_cases h1 : o = 1
  · simp only [h1, if_true]
    by_cases p : 0 ≤ a ∧ a ≤ 5 <;> by_cases q : 0 ≤ b ∧ b ≤ 5 <;> by_cases r : 1 ≤ c ∧ c ≤ 6 <;> simp [p, q, r]
  · simp only [h1, if_false]
    by_cases h7 : o = 7
    · simp only [h7, if_true]
      by_cases p : 1 ≤ a ∧ a ≤ 6 <;> by_cases q : 1 ≤ b ∧ b ≤ 6 <;> by_cases r : c = 0 <;> simp [p, q, r]; rfl
    · simp only [h7, if_false]
      by_cases h8 : o = 8
      · simp only [h8, if_true]
        by_cases p : 0 ≤ a ∧ a ≤ 255 <;> by_cases q : 0 ≤ b ∧ b ≤ 255 <;> by_cases r : 0 ≤ c ∧ c ≤ 255 <;> simp [p, q, r]; rfl
      · simp only [h8, if_false]
        by_cases p : 2 ≤ o ∧ o ≤ 6 <;> by_cases q : a = 0 <;> by_cases r : b = 0 <;> by_cases s : c = 0 <;> simp [p, q, r, s]; rfl

theorem impl_OpOk_some (k : Nat) (o a b c d : Int) : impl_OpOk.f (k + 1) o a b c d = some (opOkB o a b c d) := by
  unfold impl_OpOk.f opOkB
  simp only [impl_OpOk.j0, within_some, sizeOk_some, partOk_some, Option.bind_some]
  by_cases h1 : o = 1
  · simp only [h1, if_true]
    by_cases p : 0 ≤ a ∧ a ≤ 5 <;> by_cases q : 0 ≤ b ∧ b ≤ 5 <;> by_cases r : 1 ≤ c ∧ c ≤ 6 <;> simp [p, q, r]
  · simp only [h1, if_false]
    by_cases h2 : o = 2
    · subst h2; simp; rfl
    by_cases h3 : o = 3
    · subst h3; simp; rfl
    by_cases h4 : o = 4
    · subst h4; simp; rfl
    by_cases h5 : o = 5
    · subst h5; simp; rfl
    by_cases h6 : o = 6
    · subst h6; simp; rfl
    by_cases h7 : o = 7
    · subst h7
      simp only [show ¬ ((7 : Int) = 2) by decide, show ¬ ((7 : Int) = 3) by decide, show ¬ ((7 : Int) = 4) by decide, show ¬ ((7 : Int) = 5) by decide, if_false, if_true]
      by_cases p : 1 ≤ a ∧ a ≤ 6 <;> by_cases q : 1 ≤ b ∧ b ≤ 6 <;> by_cases r : c = 0 <;> simp [p, q, r]; rfl
    by_cases h8 : o = 8
    · subst h8
      simp only [show ¬ ((8 : Int) = 2) by decide, show ¬ ((8 : Int) = 3) by decide, show ¬ ((8 : Int) = 4) by decide, show ¬ ((8 : Int) = 5) by decide, show ¬ ((8 : Int) = 7) by decide, if_false, if_true]
      by_cases p : 0 ≤ a ∧ a ≤ 255 <;> by_cases q : 0 ≤ b ∧ b ≤ 255 <;> by_cases r : 0 ≤ c ∧ c ≤ 255 <;> simp [p, q, r]; rfl
    have h9 : ¬ (2 ≤ o ∧ o ≤ 6) := by omega
    have h6' : (o == 6) = false := by simpa using h6
    simp [h2, h3, h4, h5, h7, h8, h9, h6']

abbrev Op := S25

end Go.Proofs.YtiihhjfdgojkeaaDoor.X
namespace Go.Proofs.YtiihhjfdgojkeaaDoor.X
open Go.RowKit Go.Proofs.YtiihhjfdgojkeaaDoorW.PrintWords Go.Proofs.YtiihhjfdgojkeaaDoor.Pl
set_option linter.unusedSimpArgs false
set_option linter.unusedVariables false
theorem wr_id {x : Int} (h0 : -9223372036854775808 ≤ x) (h1 : x ≤ 9223372036854775807) : wrap64 x = x := by unfold wrap64; omega
theorem digit_str (d : Nat) (h : d < 10) : strOfNums [(wrap64 (48 + (d : Int))) % 256] = ⟨#[UInt8.ofNat (48 + d)]⟩ := by
  rw [wr_id (by omega) (by omega), show (48 + (d : Int)) % 256 = ((48 + d : Nat) : Int) by omega]
  unfold strOfNums
  rfl
/-- A number's digits, ahead of what stands behind them. -/
theorem plain_tot (n : Nat) : n ≤ 9223372036854775807 → ∀ x3 : ByteArray, x3.size + Lib.nDigits n ≤ 9223372036854775807 → Tot (fun k => spec_l7Plain.l0 k (n : Int) x3) (fun r => r = ⟨(Lib.decDigits n).toArray⟩ ++ x3) := by
  induction n using Nat.strongRecOn with
  | _ n ih =>
    intro hn x3 hx
    refine Tot.succ ?_
    simp only [spec_l7Plain.l0]
    by_cases h : n < 10
    · refine Tot.neg (by omega) (Tot.some_bind ?_)
      rw [digit_str n h]
      rw [Lib.nDigits_small h] at hx
      refine Tot.pos ?_ (Tot.ret ?_)
      · show 1 + x3.size ≤ _
        omega
      · rw [Lib.decDigits_one h]
    · refine Tot.pos (by omega) (Tot.some_bind ?_)
      rw [show Int.tmod (n : Int) 10 = ((n % 10 : Nat) : Int) from (Int.ofNat_tmod n 10).symm, digit_str _ (by omega), show Int.tdiv (n : Int) 10 = ((n / 10 : Nat) : Int) from (Int.ofNat_tdiv n 10).symm, wr_id (by omega) (by omega)]
      rw [Lib.nDigits_big h] at hx
      have hp := Lib.nDigits_pos (n / 10)
      refine Tot.pos ?_ ?_
      · show 1 + x3.size ≤ _
        omega
      · refine Tot.mono (ih (n / 10) (by omega) (by omega) _ ?_) ?_
        · rw [ByteArray.size_append]
          show 1 + x3.size + _ ≤ _
          omega
        · rintro r rfl
          rw [Lib.decDigits.eq_def n, dif_neg h, ← ByteArray.append_assoc]
          congr 1
theorem plainF_tot (n : Nat) (hn : n ≤ 9223372036854775807) : Tot (fun k => spec_l7Plain.f k (n : Int)) (fun r => r = ⟨(Lib.itoa (n : Int)).toArray⟩) := by
  have h := Lib.itoa_length_le (n : Int) (by omega) (by omega)
  rw [Lib.itoa_nonneg, Lib.decDigits_length] at h
  refine Tot.mono (plain_tot n hn ⟨#[]⟩ (by show 0 + _ ≤ _; omega)) ?_
  rintro r rfl
  rw [Lib.itoa_nonneg]
  exact ByteArray.append_empty
theorem rd4 (a b c d : Int) (i : Nat) (hi : i < 4) : rd [a, b, c, d] (i : Int) = [a, b, c, d].getD i 0 := by
  match i, hi with
  | 0, _ => rfl
  | 1, _ => rfl
  | 2, _ => rfl
  | 3, _ => rfl
theorem otext_tot (W : ByteArray) (hW : W.size ≤ 5) (a b c d : Int) (hns : ∀ n ∈ [a, b, c, d], 0 ≤ n ∧ n ≤ 9223372036854775807) (many : Nat) (hm : many ≤ 4) : ∀ e i, i + e = many → Tot (fun k => spec_OpText.l0 k (txtI W ([a, b, c, d].take i)) many [a, b, c, d] i) (fun r => r = txtI W ([a, b, c, d].take many))
  | 0, i, h => by
    obtain rfl : i = many := by omega
    refine Tot.succ ?_
    simp only [spec_OpText.l0]
    exact Tot.neg (by omega) (Tot.ret rfl)
  | e + 1, i, h => by
    have ih := otext_tot W hW a b c d hns many hm e (i + 1) (by omega)
    have hl := txtI_len W ([a, b, c, d].take i) (fun n hn => by have := hns n (List.mem_of_mem_take hn); exact ⟨by omega, this.2⟩) hW (by simp; omega)
    have hn := hns ([a, b, c, d].getD i 0) (num_mem (by omega))
    have e1 : txtI W ([a, b, c, d].take (i + 1)) = txtI W ([a, b, c, d].take i) ++ numT ([a, b, c, d].getD i 0) := by rw [take_getD _ _ (by simp; omega), txtI_snoc]
    rw [e1] at ih
    generalize txtI W ([a, b, c, d].take i) = T at *
    refine Tot.succ ?_
    simp only [spec_OpText.l0, rd4 a b c d i (by omega)]
    obtain ⟨m, hm'⟩ := Int.eq_ofNat_of_zero_le hn.1
    rw [hm'] at ih hn ⊢
    refine Tot.pos (by omega) (Tot.pos (by omega) (Tot.pos (by omega) (Tot.pos (by simp; omega) ?_)))
    refine Tot.bind (plainF_tot m (by omega)) ?_
    rintro _ rfl
    have h20 := Lib.itoa_length_le (m : Int) (by omega) (by omega)
    refine Tot.pos ?_ ?_
    · rw [ByteArray.size_append]
      show _ + 1 + (Lib.itoa (m : Int)).toArray.size ≤ _
      rw [List.size_toArray]
      omega
    · rw [wr_id (by omega) (by omega), ByteArray.append_assoc]
      exact ih
theorem opOk_kind {o a b c d : Int} (h : opOkB o a b c d = true) : 1 ≤ o ∧ o ≤ 8 ∧ ∀ n ∈ [a, b, c, d], 0 ≤ n ∧ n ≤ 255 := by
  unfold opOkB at h
  simp only [List.mem_cons, List.not_mem_nil, or_false, forall_eq_or_imp, forall_eq]
  split at h
  · simp at h; omega
  · split at h
    · simp at h; omega
    · split at h
      · simp at h; omega
      · simp at h; omega
theorem word_some (k : Nat) (h : k < 9) : spec_l7Word.f (k : Int) = some (formW k, (formN k : Int)) := by
  match k, h with
  | 0, _ => rfl
  | 1, _ => rfl
  | 2, _ => rfl
  | 3, _ => rfl
  | 4, _ => rfl
  | 5, _ => rfl
  | 6, _ => rfl
  | 7, _ => rfl
  | 8, _ => rfl
/-- What is done, as text. -/
def opTextF (o a b c d : Int) : ByteArray := if opOkB o a b c d then txtI (formW o.toNat) ([a, b, c, d].take (formN o.toNat)) else ⟨#[]⟩
theorem spec_OpText_tot (o a b c d : Int) : Tot (fun k => spec_OpText.f k o a b c d) (fun r => r = opTextF o a b c d) := by
  unfold spec_OpText.f opTextF
  refine Tot.bind (Tot.of_eq (spec_OpOk_some o a b c d)) ?_
  rintro _ rfl
  cases h : opOkB o a b c d with
  | false => exact Tot.neg (by decide) (Tot.ret rfl)
  | true =>
    obtain ⟨h1, h8, hn⟩ := opOk_kind h
    obtain ⟨k, rfl⟩ := Int.eq_ofNat_of_zero_le (show 0 ≤ o by omega)
    refine Tot.pos rfl ?_
    refine Tot.bind (Tot.of_eq (word_some k (by omega))) ?_
    rintro _ rfl
    exact otext_tot (formW k) (formW_len k (by omega)) a b c d (fun n h => ⟨(hn n h).1, by have := (hn n h).2; omega⟩) (formN k) (formN_le k (by omega)) (formN k) 0 (by omega)
theorem impl_OpText_tot (o a b c d : Int) : Tot (fun k => impl_OpText.f k o a b c d) (fun r => r = opTextF o a b c d) := by
  refine Tot.succ ?_
  unfold impl_OpText.f opTextF
  refine Tot.bind (Tot.succ (Tot.succ (Tot.of_eq (impl_OpOk_some 0 o a b c d)))) ?_
  rintro _ rfl
  cases h : opOkB o a b c d with
  | false => exact Tot.neg (by decide) (Tot.ret rfl)
  | true =>
    obtain ⟨h1, h8, hn⟩ := opOk_kind h
    refine Tot.pos rfl ?_
    unfold opTextI
    rw [if_pos ⟨by omega, by omega, fun n h => ⟨by have := hn n h; omega, by have := hn n h; omega⟩⟩]
    exact Tot.ret rfl
end Go.Proofs.YtiihhjfdgojkeaaDoor.X
namespace Go.Proofs.YtiihhjfdgojkeaaDoor.Pure
open Go.RowKit Go.Proofs.YtiihhjfdgojkeaaDoorW.PrintWords Go.Proofs.YtiihhjfdgojkeaaDoor.Pl Go.Proofs.YtiihhjfdgojkeaaDoor.X
set_option linter.unusedVariables false
theorem FnExactOpText : laws_FnExactOpText.Pure := by
  intro o a b c d _ _ _ _ _
  refine Tot.rounds ?_
  unfold laws_FnExactOpText.f
  refine Tot.bind (Tot.of_eq (show laws_toOpOp.f o a b c d = some (o, a, b, c, d) from rfl)) ?_; rintro _ rfl
  refine Tot.bind (spec_OpText_tot o a b c d) ?_; rintro _ rfl
  refine Tot.bind (Tot.of_eq (show laws_toOpOp.f o a b c d = some (o, a, b, c, d) from rfl)) ?_; rintro _ rfl
  refine Tot.bind (impl_OpText_tot o a b c d) ?_; rintro _ rfl
  exact Tot.pos rfl (Tot.ret rfl)
end Go.Proofs.YtiihhjfdgojkeaaDoor.Pure
namespace Go.Proofs.YtiihhjfdgojkeaaDoor.X
set_option linter.unusedVariables false
set_option linter.unusedSimpArgs false
set_option linter.unusedSectionVars false
open Go.ChangeShapes Go.WideShapes Go.ChangeAt Go.WideMaps Go.WideElems Go.RowKit Go.Proofs.YtiihhjfdgojkeaaDoorW.PrintWords
abbrev laid4 : List (String × DataW Unit) := [("math/bits.deBruijn32tab", Rows.laid_math_bits_deBruijn32tab), ("math/bits.deBruijn64tab", Rows.laid_math_bits_deBruijn64tab), ("internal/strconv.uint64pow10", Rows.laid_internal_strconv_uint64pow10), ("loop.example/easel/impl.opForms", Rows.laid_loop_example_easel_impl_opForms)]
theorem door_met (os : Os) (args : Array Value) : laidMetH Tryd.prog laid4 ((World.doorLaid Tryd.prog 400 os).forCall (fun _ _ => 0) ⟨#[], args, []⟩).memory :=
  laidMetH_of_parts3 (fuel := 8) (laidMet_of_run' 8 (by kernel_rfl) (by kernel_rfl)) (by kernel_rfl) (by kernel_rfl)
theorem gF : Tryd.prog.globalNamed "loop.example/easel/impl.opForms" = some 0 := by kernel_rfl
theorem tF : (Tryd.prog.globals[0]?).map (·.type) = some 78 := by kernel_rfl
theorem tP : (Tryd.prog.globals[3]?).map (·.type) = some 181 := by kernel_rfl
theorem blk_of_var {w : World} {name : String} {g : Nat} {cs : Array Value} (hg : Tryd.prog.globalNamed name = some g) (h : w.var? Tryd.prog name = some cs) : ∃ t fr, w.heap[g]? = some (.cells cs t fr) := by
  unfold World.var? at h
  rw [hg] at h
  simp only [Option.bind_some] at h
  split at h
  · rename_i cs' t fr hh
    obtain rfl := Option.some.inj h
    exact ⟨t, fr, hh⟩
  · cases h
variable {H : Type} {enc : TypeId × Value → H} {P : Program} {w : World} {base : Nat} {sp : Nat → Bool} {held : Bool}
/-- The cells of an array whose elements' cells are told by their data. -/
theorem cells_of_rows {fuel : Nat} {t e : TypeId} {n : Nat} {cs : List Value} {p : List MemPlace} {ds : List (DataW H)} (L : List (List Value))
    (ht : P.underlying t = some (.array n e)) (hct : P.cellsOf t = n * P.cellsOf e) (hL : ∀ (i : Nat) (l : List Value), L[i]? = some l → l.length = P.cellsOf e) (hn : L.length = n)
    (he : ∀ (i : Nat) (m : Nat) (d : DataW H) (l c : List Value) (q : List MemPlace), ds[i]? = some d → L[i]? = some l → DataW.trod enc P w base sp held m e c = some (d, q) → c = l)
    (h : DataW.trod enc P w base sp held fuel t cs = some (.agg ds, p)) : cs = L.flatten := by
  obtain ⟨xs, m, rfl, hx, hl, hlen, hf⟩ := DataW.trod_array ht h
  obtain ⟨hd, -⟩ := Prod.mk.inj hx
  have hds : ds = xs.map (·.1) := by injection hd
  have key : ∀ (i : Nat) (l : List Value), L[i]? = some l → (cs.drop (i * P.cellsOf e)).take (P.cellsOf e) = l := by
    intro i l hi
    have hin : i < n := by have := (List.getElem?_eq_some_iff.1 hi).1; omega
    have h1 := hf i hin
    have hix : i < xs.length := by omega
    rw [List.getElem?_eq_getElem hix] at h1
    refine he i m (xs[i]).1 l _ (xs[i]).2 ?_ hi h1
    rw [hds, List.getElem?_map, List.getElem?_eq_getElem hix]
    rfl
  have gen : ∀ (L : List (List Value)) (cs : List Value), (∀ (i : Nat) (l : List Value), L[i]? = some l → (cs.drop (i * P.cellsOf e)).take (P.cellsOf e) = l) → cs.length = L.length * P.cellsOf e → cs = L.flatten := by
    intro L
    induction L with
    | nil => intro cs _ h; simp at h; simp [h]
    | cons a L ih =>
      intro cs hk hlen
      have h0 := hk 0 a rfl
      rw [Nat.zero_mul, List.drop_zero] at h0
      rw [List.length_cons, Nat.add_mul, Nat.one_mul] at hlen
      have h1 := ih (cs.drop (P.cellsOf e)) (fun i l hi => by
        rw [List.drop_drop, show P.cellsOf e + i * P.cellsOf e = (i + 1) * P.cellsOf e by rw [Nat.add_mul]; omega]
        exact hk (i + 1) l (by simpa using hi)) (by rw [List.length_drop]; omega)
      rw [List.flatten_cons, ← h1, ← h0, List.take_append_drop]
  exact gen L cs key (by rw [hl, hct, hn])
set_option maxRecDepth 100000 in
theorem form_cells {m : Nat} {c : List Value} {s : List UInt8} {n : Int} {q : List MemPlace} (h : DataW.trod enc Tryd.prog w base sp held m 77 c = some (.agg [.lit (.string s), .lit (.int .i64 n)], q)) : c = [.string ⟨s.toArray⟩, .int .i64 n] := by
  obtain ⟨y0, y1, k, hx, hl, h0, h1⟩ := trod_struct2 Tryd.underlying77 h
  have hx := (Prod.mk.inj hx).1
  injection hx with hx
  injection hx with e0 hx
  injection hx with e1 _
  obtain ⟨s', hc0, rfl, _⟩ := DataW.trod_string Tryd.underlying9 h0
  obtain ⟨n', hc1, rfl, _⟩ := DataW.trod_int Tryd.underlying3 h1
  injection e0 with e0; injection e0 with e0
  injection e1 with e1; injection e1 with _ e1
  have hl2 : c.length = 2 := hl.trans (by kernel_rfl)
  match c, hl2 with
  | [a, b], _ =>
    have ha : [a] = [Value.string s'] := hc0
    have hb : [b] = [Value.int .i64 n'] := hc1
    cases ha; cases hb
    subst e1
    rw [e0]
set_option maxRecDepth 100000 in
theorem glob_of {W : World} (h : laidMetH Tryd.prog laid4 W) : Glob W := by
  rw [MakeChecks.laidMetH_plain _ _ _ (by kernel_rfl)] at h
  obtain ⟨ps, ⟨g0, t0, cs0, f0, p0, q0, hg0, ht0, hv0, hd0, ⟨g1, t1, cs1, f1, p1, q1, hg1, ht1, hv1, hd1, ⟨g2, t2, cs2, f2, p2, q2, hg2, ht2, hv2, hd2, ⟨g3, t3, cs3, f3, p3, q3, hg3, ht3, hv3, hd3, _⟩, _⟩, _⟩, _⟩, _, _⟩ := h
  obtain rfl := Option.some.inj (gPow.symm.trans hg2)
  obtain rfl := Option.some.inj (gF.symm.trans hg3)
  obtain rfl := Option.some.inj (tP.symm.trans ht2)
  obtain rfl := Option.some.inj (tF.symm.trans ht3)
  have e2 := Lib.cells_of_tab (zs := Lib.pow10Tab) (k := .u64) Tryd.underlying181 Tryd.underlying168 (by kernel_rfl) (by kernel_rfl) hd2
  obtain ⟨t, fr, hh⟩ := blk_of_var gF hv3
  obtain ⟨t', fr', hh'⟩ := blk_of_var gPow hv2
  have e3 := cells_of_rows [[.string ⟨#[]⟩, .int .i64 0], [.string ⟨#[99, 114, 111, 112]⟩, .int .i64 4], [.string ⟨#[102, 108, 105, 112, 120]⟩, .int .i64 0], [.string ⟨#[102, 108, 105, 112, 121]⟩, .int .i64 0], [.string ⟨#[116, 117, 114, 110]⟩, .int .i64 0], [.string ⟨#[103, 114, 97, 121]⟩, .int .i64 0], [.string ⟨#[98, 108, 117, 114]⟩, .int .i64 0], [.string ⟨#[115, 105, 122, 101]⟩, .int .i64 2], [.string ⟨#[102, 108, 97, 116]⟩, .int .i64 3]] Tryd.underlying78 (by kernel_rfl)
    (fun i l hi => by
      have hm := List.mem_of_getElem? hi
      have : l.length = 2 := by simp only [List.mem_cons, List.not_mem_nil, or_false] at hm; rcases hm with rfl | rfl | rfl | rfl | rfl | rfl | rfl | rfl | rfl <;> rfl
      exact this.trans (by kernel_rfl)) rfl
    (fun i m d l c q hd hl hc => by
      match i, hd, hl with
      | 0, hd, hl => cases hd; cases hl; exact form_cells hc
      | 1, hd, hl => cases hd; cases hl; exact form_cells hc
      | 2, hd, hl => cases hd; cases hl; exact form_cells hc
      | 3, hd, hl => cases hd; cases hl; exact form_cells hc
      | 4, hd, hl => cases hd; cases hl; exact form_cells hc
      | 5, hd, hl => cases hd; cases hl; exact form_cells hc
      | 6, hd, hl => cases hd; cases hl; exact form_cells hc
      | 7, hd, hl => cases hd; cases hl; exact form_cells hc
      | 8, hd, hl => cases hd; cases hl; exact form_cells hc
      | _ + 9, hd, _ => cases hd) hd3
  refine ⟨⟨t, fr, ?_⟩, ⟨t', fr', ?_⟩⟩
  · rw [hh]; congr 2; rw [← Array.toArray_toList (xs := cs3), e3]; rfl
  · rw [hh']; congr 2; rw [← e2]
theorem vars1 {n1 : String} : ∀ {gs : List (DataW H)} {q : List MemPlace}, DataW.TrodVars enc Tryd.prog w sp [n1] gs q → ∃ g1, gs = [g1]
  | [], _, h => h.elim
  | [a], _, _ => ⟨a, rfl⟩
  | _ :: _ :: _, _, h => by obtain ⟨_, _, _, _, _, _, _, _, _, _, h, _⟩ := h; exact h.elim
end Go.Proofs.YtiihhjfdgojkeaaDoor.X
