/- Lemmas and contracts for the law FnAskOps, part 4: of the program's functions, and over data alone. Conditions: the listed package-level variables begin as the program's text lays them (tied by the card). -/
import Derived.Shelf.Strings.Builder1
import Derived.Shelf.Strings.Builder2
import Derived.Shelf.Strings.OnBuilder
import Derived.Shelf.Small.Wraps
import Derived.Shelf.Strings.BuilderF
import Derived.Shelf.Strings.BuilderK
import Derived.Shelf.Utf8.RuneCount
import Derived.Shelf.Strings.Builder2Cap
import Derived.Shelf.Strconv.Itoa0
import Derived.Shelf.Strconv.Itoa1
import Derived.Shelf.LaysM
import Derived.Shelf.Strconv.Itoa2
import Derived.Shelf.Strconv.Itoa3
import Derived.Shelf.Strconv.Clone
import Derived.Shelf.Strings.Search1
import Derived.Shelf.Strings.Search2
import Derived.Shelf.Strings.Search3
import Derived.Shelf.Strings.Cut
import Derived.Shelf.Strings.Count
import Derived.Shelf.Strings.Shaped
import Derived.Shelf.Strings.Prefix
import Derived.Shelf.Strings.Split
import Derived.Shelf.Strings.SplitShaped
import Derived.Shelf.Unicode.Decode
import Derived.Shelf.Strings.RuneCount
import Derived.Shelf.Strings.Explode
import Derived.Shelf.Unicode.DecodeSlow
import Derived.Shelf.Unicode.DecodeAny
import Derived.Test.YtiihhjfdgojkeaaDoorProg
import Derived.Test.YtiihhjfdgojkeaaDoorMFnAskOps2
import Derived.Laws.Rows
import Derived.Lib.AppendIntMem
import Derived.Lib.ItoaLen
import Derived.Laws.Concat
import Derived.Test.YtiihhjfdgojkeaaDoorMFnAskOps1
import Derived.Test.YtiihhjfdgojkeaaDoorMFnAskOps3
import Derived.Test.YtiihhjfdgojkeaaDoorRows
import Derived.Lib.LaidTab
import Derived.LaidMore
import Derived.OpenShut
import Derived.ShutString
import Derived.ChangeOld
import Derived.ChangeSame
import Derived.Below
import Derived.WalkKit
import Derived.ProofKit
import Derived.Stop.Joined
import Derived.OpenVars
import Derived.KernelRfl
namespace Go.Proofs
open Go.Shelf
def Tryd.lays156_ren : Go.Shelf.Ren := ⟨fun | 156 => 58 | 165 => 104 | 166 => 105 | 169 => 106 | 240 => 133 | 241 => 134 | 276 => 146 | 277 => 147 | n => n, fun | 31 => 84 | 9 => 9 | 3 => 3 | 4 => 4 | 0 => 0 | 20 => 20 | 72 => 134 | 76 => 138 | 70 => 132 | 37 => 39 | 75 => 137 | 127 => 161 | 164 => 173 | 5 => 5 | 80 => 140 | n => n, fun | n => n⟩
theorem Tryd.lays156 : Go.Proofs.Lays.n156 Tryd.prog Tryd.lays156_ren := {
  mixed := by kernel_rfl
  f156 := Tryd.func58.trans (congrArg some (by kernel_rfl))
  f165 := Tryd.func104.trans (congrArg some (by kernel_rfl))
  f166 := Tryd.func105.trans (congrArg some (by kernel_rfl))
  f169 := Tryd.func106.trans (congrArg some (by kernel_rfl))
  f240 := Tryd.func133.trans (congrArg some (by kernel_rfl))
  f241 := Tryd.func134.trans (congrArg some (by kernel_rfl))
  f276 := Tryd.func146.trans (congrArg some (by kernel_rfl))
  f277 := Tryd.func147.trans (congrArg some (by kernel_rfl))
  t0 := Tryd.underlying0
  a0 := Tryd.isAgg0
  z0 := Tryd.sizeOf0
  v0 := Tryd.zeroValue0
  t3 := Tryd.underlying3
  a3 := Tryd.isAgg3
  z3 := Tryd.sizeOf3
  v3 := Tryd.zeroValue3
  t4 := Tryd.underlying4
  a4 := Tryd.isAgg4
  z4 := Tryd.sizeOf4
  v4 := Tryd.zeroValue4
  t9 := Tryd.underlying9
  a9 := Tryd.isAgg9
  z9 := Tryd.sizeOf9
  v9 := Tryd.zeroValue9
  t20 := Tryd.underlying20
  a20 := Tryd.isAgg20
  z20 := Tryd.sizeOf20
  v20 := Tryd.zeroValue20
  t31 := Tryd.underlying84
  a31 := Tryd.isAgg84
  z31 := Tryd.sizeOf84
  v31 := Tryd.zeroValue84
  t37 := Tryd.underlying39
  a37 := Tryd.isAgg39
  z37 := Tryd.sizeOf39
  v37 := Tryd.zeroValue39
  t70 := Tryd.underlying132
  a70 := Tryd.isAgg132
  z70 := Tryd.sizeOf132
  v70 := Tryd.zeroValue132
  t72 := Tryd.underlying134
  a72 := Tryd.isAgg134
  z72 := Tryd.sizeOf134
  v72 := Tryd.zeroValue134
  t75 := Tryd.underlying137
  a75 := Tryd.isAgg137
  z75 := Tryd.sizeOf137
  v75 := Tryd.zeroValue137
  t76 := Tryd.underlying138
  a76 := Tryd.isAgg138
  z76 := Tryd.sizeOf138
  v76 := Tryd.zeroValue138
  t127 := Tryd.underlying161
  a127 := Tryd.isAgg161
  z127 := Tryd.sizeOf161
  v127 := Tryd.zeroValue161
  t164 := Tryd.underlying173
  a164 := Tryd.isAgg173
  z164 := Tryd.sizeOf173
  v164 := Tryd.zeroValue173 }
theorem Tryd.Builder_Extra_156 : Builder.Extra Tryd.prog Tryd.lays156_ren := {
  sizeBuilder := by kernel_rfl
  liesBuilder := by kernel_rfl
  t5 := Tryd.underlying5
  a5 := Tryd.isAgg5
  z5 := Tryd.sizeOf5
  v5 := Tryd.zeroValue5
  infoByte := by kernel_rfl
  cellsByte := by kernel_rfl
  sizeByte := by kernel_rfl
  neB5 := by decide }
open Go.RowKit in
/-- No element: the empty string; the world is as it was. (Whatever the slice's address and capacity: a nil slice too.) (LAID: no walk: one application.) -/
theorem Tryd.strings_Join_none (a : Option Addr) (c : Nat) (sep : ByteArray) (w : World) :
    Calls Tryd.prog 58 #[.slice a 0 c, .string sep] w fun e w' => e = .returned (.string ⟨#[]⟩) ∧ w' = w := Any.strings_Join_none Tryd.lays156 Tryd.Builder_Extra_156 a c sep w
open Go.RowKit in
/-- strings.Join: "Join concatenates the elements of its first argument to create a single string. The separator string sep is placed between elements in the resulting string.": HOWEVER MANY ELEMENTS. Below the heap's end the world is as it was. (LAID: no walk: one application.) -/
theorem Tryd.strings_Join (bk o c : Nat) (xs : List ByteArray) (sep : ByteArray) (w : World) (hcells : ∀ (j : Nat) x, xs[j]? = some x → w.cell? ⟨bk, o + j, none⟩ = some (.string x)) (hbk : bk < w.heap.size) (hN : xs.length ≤ 140737488355328) (hcap : xs.length ≤ c) (hlen : (Lib.join (xs.map (·.data.toList)) sep.data.toList).length ≤ 140737488355328) :
    Calls Tryd.prog 58 #[.slice (some ⟨bk, o, none⟩) xs.length c, .string sep] w fun e w' => e = .returned (.string ⟨(Lib.join (xs.map (·.data.toList)) sep.data.toList).toArray⟩) ∧ Below w.heap.size w w' := Any.strings_Join Tryd.lays156 Tryd.Builder_Extra_156 bk o c xs sep w hcells hbk hN hcap hlen
def Tryd.laysM246_ren : Go.Shelf.Ren := ⟨fun | 246 => 132 | 283 => 142 | 284 => 143 | 285 => 144 | 286 => 145 | 129 => 157 | 317 => 156 | 318 => 158 | 319 => 159 | 320 => 160 | 337 => 164 | 338 => 165 | n => n, fun | 2 => 2 | 3 => 3 | 9 => 9 | 4 => 4 | 171 => 167 | 0 => 0 | 53 => 168 | 37 => 39 | 5 => 5 | 173 => 171 | 212 => 181 | 51 => 182 | 20 => 20 | 213 => 183 | 46 => 163 | 232 => 192 | 233 => 193 | n => n, fun | 17 => 3 | 18 => 6 | 19 => 7 | n => n⟩
def Tryd.laysM243_ren : Go.Shelf.Ren := ⟨fun | 243 => 103 | 246 => 132 | 283 => 142 | 284 => 143 | 285 => 144 | 286 => 145 | 129 => 157 | 317 => 156 | 318 => 158 | 319 => 159 | 320 => 160 | 337 => 164 | 338 => 165 | n => n, fun | 3 => 3 | 9 => 9 | 2 => 2 | 4 => 4 | 171 => 167 | 0 => 0 | 53 => 168 | 37 => 39 | 5 => 5 | 173 => 171 | 212 => 181 | 51 => 182 | 20 => 20 | 213 => 183 | 46 => 163 | 232 => 192 | 233 => 193 | n => n, fun | 17 => 3 | 18 => 6 | 19 => 7 | n => n⟩
def Tryd.laysM171_ren : Go.Shelf.Ren := ⟨fun | 171 => 54 | 243 => 103 | 246 => 132 | 283 => 142 | 284 => 143 | 285 => 144 | 286 => 145 | 129 => 157 | 317 => 156 | 318 => 158 | 319 => 159 | 320 => 160 | 337 => 164 | 338 => 165 | n => n, fun | 3 => 3 | 9 => 9 | 2 => 2 | 4 => 4 | 171 => 167 | 0 => 0 | 53 => 168 | 37 => 39 | 5 => 5 | 173 => 171 | 212 => 181 | 51 => 182 | 20 => 20 | 213 => 183 | 46 => 163 | 232 => 192 | 233 => 193 | n => n, fun | 17 => 3 | 18 => 6 | 19 => 7 | n => n⟩
theorem Tryd.laysM171 : Go.Proofs.LaysM.n171 Tryd.prog Tryd.laysM171_ren := {
  mixed := by kernel_rfl
  f129 := Tryd.func157.trans (congrArg some (by kernel_rfl))
  f171 := Tryd.func54.trans (congrArg some (by kernel_rfl))
  f243 := Tryd.func103.trans (congrArg some (by kernel_rfl))
  f246 := Tryd.func132.trans (congrArg some (by kernel_rfl))
  f283 := Tryd.func142.trans (congrArg some (by kernel_rfl))
  f284 := Tryd.func143.trans (congrArg some (by kernel_rfl))
  f285 := Tryd.func144.trans (congrArg some (by kernel_rfl))
  f286 := Tryd.func145.trans (congrArg some (by kernel_rfl))
  f317 := Tryd.func156.trans (congrArg some (by kernel_rfl))
  f318 := Tryd.func158.trans (congrArg some (by kernel_rfl))
  f319 := Tryd.func159.trans (congrArg some (by kernel_rfl))
  f320 := Tryd.func160.trans (congrArg some (by kernel_rfl))
  f337 := Tryd.func164.trans (congrArg some (by kernel_rfl))
  f338 := Tryd.func165.trans (congrArg some (by kernel_rfl))
  t0 := Tryd.underlying0
  a0 := Tryd.isAgg0
  z0 := Tryd.sizeOf0
  v0 := Tryd.zeroValue0
  t2 := Tryd.underlying2
  a2 := Tryd.isAgg2
  z2 := Tryd.sizeOf2
  v2 := Tryd.zeroValue2
  t3 := Tryd.underlying3
  a3 := Tryd.isAgg3
  z3 := Tryd.sizeOf3
  v3 := Tryd.zeroValue3
  t4 := Tryd.underlying4
  a4 := Tryd.isAgg4
  z4 := Tryd.sizeOf4
  v4 := Tryd.zeroValue4
  t5 := Tryd.underlying5
  a5 := Tryd.isAgg5
  z5 := Tryd.sizeOf5
  v5 := Tryd.zeroValue5
  t9 := Tryd.underlying9
  a9 := Tryd.isAgg9
  z9 := Tryd.sizeOf9
  v9 := Tryd.zeroValue9
  t20 := Tryd.underlying20
  a20 := Tryd.isAgg20
  z20 := Tryd.sizeOf20
  v20 := Tryd.zeroValue20
  t37 := Tryd.underlying39
  a37 := Tryd.isAgg39
  z37 := Tryd.sizeOf39
  v37 := Tryd.zeroValue39
  t46 := Tryd.underlying163
  a46 := Tryd.isAgg163
  z46 := Tryd.sizeOf163
  v46 := Tryd.zeroValue163
  t51 := Tryd.underlying182
  a51 := Tryd.isAgg182
  z51 := Tryd.sizeOf182
  v51 := Tryd.zeroValue182
  t53 := Tryd.underlying168
  a53 := Tryd.isAgg168
  z53 := Tryd.sizeOf168
  v53 := Tryd.zeroValue168
  t171 := Tryd.underlying167
  a171 := Tryd.isAgg167
  z171 := Tryd.sizeOf167
  v171 := Tryd.zeroValue167
  t173 := Tryd.underlying171
  a173 := Tryd.isAgg171
  z173 := Tryd.sizeOf171
  v173 := Tryd.zeroValue171
  t212 := Tryd.underlying181
  a212 := Tryd.isAgg181
  z212 := Tryd.sizeOf181
  v212 := Tryd.zeroValue181
  t213 := Tryd.underlying183
  a213 := Tryd.isAgg183
  z213 := Tryd.sizeOf183
  t232 := Tryd.underlying192
  a232 := Tryd.isAgg192
  z232 := Tryd.sizeOf192
  v232 := Tryd.zeroValue192
  t233 := Tryd.underlying193
  a233 := Tryd.isAgg193
  z233 := Tryd.sizeOf193
  v233 := Tryd.zeroValue193
  g17 := by kernel_rfl
  g18 := by kernel_rfl
  g19 := by kernel_rfl
  i0 := by kernel_rfl
  i2 := by kernel_rfl
  i3 := by kernel_rfl
  i4 := by kernel_rfl
  i5 := by kernel_rfl
  i9 := by kernel_rfl
  i20 := by kernel_rfl
  i37 := by kernel_rfl
  i46 := by kernel_rfl
  i51 := by kernel_rfl
  i53 := by kernel_rfl
  i171 := by kernel_rfl
  i173 := by kernel_rfl
  i212 := by kernel_rfl
  i232 := by kernel_rfl
  i233 := by kernel_rfl
  m17 := by kernel_rfl
  m18 := by kernel_rfl
  m19 := by kernel_rfl }
open Go.RowKit Go.Sort Go.Lib in
/-- strconv.Itoa: "Itoa is equivalent to FormatInt(int64(i), 10).": i's DECIMAL NUMERAL ('Lib.itoa': a '-' where i is negative, then the digits), FOR EVERY int. The world behind the call: the world before it, new blocks behind the heap (the library's 'var a [24]byte'), draws. (LAID: no walk: one application.) -/
theorem Tryd.strconv_Itoa (n : Int) (h0 : -9223372036854775808 ≤ n) (h1 : n ≤ 9223372036854775807) (w : World) (htab : Lib.TabIs Tryd.prog w "internal/strconv.uint64pow10" .u64 Lib.pow10Tab) :
    Calls Tryd.prog 54 #[.int .i64 n] w fun e w' => e = .returned (.string ⟨(Lib.itoa n).toArray⟩) ∧ ∃ k os, w' = grow (w.drewN k) os := Any.strconv_Itoa Tryd.laysM171 n h0 h1 w htab
end Go.Proofs
namespace Go.Proofs.YtiihhjfdgojkeaaDoor.X
open Go.RowKit Go.Proofs.YtiihhjfdgojkeaaDoorW.PrintWords Go.Proofs.YtiihhjfdgojkeaaDoorW.PrintLast Go.Proofs.YtiihhjfdgojkeaaDoorW.PrintMore
set_option linter.unusedVariables false
/-- The operations' words, and how many numbers each has. -/
def formCells : Array Value := #[.string ⟨#[]⟩, .int .i64 0, .string ⟨#[99, 114, 111, 112]⟩, .int .i64 4, .string ⟨#[102, 108, 105, 112, 120]⟩, .int .i64 0, .string ⟨#[102, 108, 105, 112, 121]⟩, .int .i64 0, .string ⟨#[116, 117, 114, 110]⟩, .int .i64 0, .string ⟨#[103, 114, 97, 121]⟩, .int .i64 0, .string ⟨#[98, 108, 117, 114]⟩, .int .i64 0, .string ⟨#[115, 105, 122, 101]⟩, .int .i64 2, .string ⟨#[102, 108, 97, 116]⟩, .int .i64 3]
structure Glob (w : World) : Prop where
  forms : ∃ t fr, w.heap[0]? = some (.cells formCells t fr)
  pow : ∃ t fr, w.heap[3]? = some (.cells (Lib.pow10Tab.map fun z => Value.int .u64 z).toArray t fr)
theorem Glob.size {w : World} (h : Glob w) : 3 < w.heap.size := by obtain ⟨_, ⟨t, fr, hp⟩⟩ := h; exact blk_lt hp
theorem Glob.belowW {w w' : World} (h : Glob w) (hb : Below w.heap.size w w') : Glob w' := by
  have hs := h.size
  obtain ⟨⟨t, fr, h1⟩, ⟨t2, fr2, h2⟩⟩ := h
  exact ⟨⟨t, fr, (hb.block _ (by omega)).trans h1⟩, ⟨t2, fr2, (hb.block _ (by omega)).trans h2⟩⟩
theorem gPow : Tryd.prog.globalNamed "internal/strconv.uint64pow10" = some 3 := by kernel_rfl
theorem Glob.tab {w : World} (h : Glob w) : Lib.TabIs Tryd.prog w "internal/strconv.uint64pow10" .u64 Lib.pow10Tab := by
  obtain ⟨_, ⟨t, fr, hp⟩⟩ := h
  unfold Lib.TabIs World.var?
  rw [gPow, Option.bind_some, hp]
theorem itoa_calls (n : Int) (w : World) (hG : Glob w) (h0 : -9223372036854775808 ≤ n) (h1 : n ≤ 9223372036854775807) :
    Calls Tryd.prog 54 #[.int .i64 n] w fun e w' => e = .returned (.string ⟨(Lib.itoa n).toArray⟩) ∧ Below w.heap.size w w' := by
  refine (Tryd.strconv_Itoa n h0 h1 w hG.tab).mono ?_
  rintro e w' ⟨rfl, k, os, rfl⟩
  exact ⟨rfl, Lib.below_grow _ _ (Nat.le_refl _) _ _⟩
end Go.Proofs.YtiihhjfdgojkeaaDoor.X
namespace Go.Proofs.YtiihhjfdgojkeaaDoor.X
open Go.RowKit Go.Proofs.YtiihhjfdgojkeaaDoorW.PrintWords Go.Proofs.YtiihhjfdgojkeaaDoorW.PrintLast Go.Proofs.YtiihhjfdgojkeaaDoorW.PrintMore
attribute [local go_sem] max2_int min2_int max_two min_two max_three min_three max_four min_four
set_option linter.unusedVariables false
set_option linter.unusedSimpArgs false

section
def formsL : List (ByteArray × Nat) := [(⟨#[]⟩, 0), (⟨#[99, 114, 111, 112]⟩, 4), (⟨#[102, 108, 105, 112, 120]⟩, 0), (⟨#[102, 108, 105, 112, 121]⟩, 0), (⟨#[116, 117, 114, 110]⟩, 0), (⟨#[103, 114, 97, 121]⟩, 0), (⟨#[98, 108, 117, 114]⟩, 0), (⟨#[115, 105, 122, 101]⟩, 2), (⟨#[102, 108, 97, 116]⟩, 3)]
def formW (k : Nat) : ByteArray := (formsL.getD k (⟨#[]⟩, 0)).1
def formN (k : Nat) : Nat := (formsL.getD k (⟨#[]⟩, 0)).2
def numT (n : Int) : ByteArray := (⟨#[46]⟩ : ByteArray) ++ ⟨(Lib.itoa n).toArray⟩
/-- The text of a word, and so many numbers. -/
def txtI (word : ByteArray) (ns : List Int) : ByteArray := ns.foldl (fun s n => s ++ numT n) word
def okI (n : Int) : Prop := -9223372036854775808 ≤ n ∧ n ≤ 9223372036854775807
instance (n : Int) : Decidable (okI n) := inferInstanceAs (Decidable (_ ∧ _))
def opTextI (k : Int) (ns : List Int) : Option ByteArray := if 0 ≤ k ∧ k < 9 ∧ ∀ n ∈ ns, okI n then some (txtI (formW k.toNat) (ns.take (formN k.toNat))) else none
def impl_OpText.f (k : Nat) (a0_0 a0_1 a0_2 a0_3 a0_4 : Int) : Option ByteArray := (impl_OpOk.f k a0_0 a0_1 a0_2 a0_3 a0_4).bind fun t => if t = true then opTextI a0_0 [a0_1, a0_2, a0_3, a0_4] else some ⟨#[]⟩
set_option maxHeartbeats 1000000 in
set_option maxRecDepth 100000 in
theorem opNumbers_calls (a0 a1 a2 a3 a4 : Int) (w : World) : Calls Tryd.prog 53 #[.agg #[.int .i64 a0, .int .i64 a1, .int .i64 a2, .int .i64 a3, .int .i64 a4]] w fun e w' => e = .returned (.agg #[.int .i64 a1, .int .i64 a2, .int .i64 a3, .int .i64 a4]) ∧ Below w.heap.size w w' := by
 have hu := Tryd.underlying25; have hz : ∀ w : World, (zeroValue 79).run Tryd.prog w = .ok (.agg #[.int .i64 0, .int .i64 0, .int .i64 0, .int .i64 0]) w := fun w => by kernel_rfl
 go_enter Tryd.func53, Tryd.ntmps53
 go_wp2_with (first | ((with_reducible refine gd_ 1 rfl ?_); refine bx_ 1 rfl #[.int .i64 a0, .int .i64 a1, .int .i64 a2, .int .i64 a3, .int .i64 a4] 25 ?_; intro b2 hg w5 hbox hb; have HX := Aside0.mk hbox; have HB := Aside0.mk hb; clear hb hbox hg) | ((with_reducible refine gd_ 2 rfl ?_); refine bx_ 2 rfl #[.int .i64 0, .int .i64 0, .int .i64 0, .int .i64 0] 79 ?_; intro b3 hg w7 hbox hb; have HX7 := Aside0.mk hbox; obtain ⟨x0, x1, x2, x3, x4⟩ := cc5_ (blk_below HX.out hb); obtain ⟨y0, y1, y2, y3⟩ := cc4_ hbox; obtain ⟨f0, f1, f2, f3⟩ := cf4_ hbox; have HB7 := Aside0.mk (below_step HB.out hb); have HG3 := Aside0.mk (show w.heap.size ≤ b3 by rw [hg]; exact HB.out.size); clear hb hbox hg))
 refine bodyPost_ret (results_cell_row Tryd.results53 _ _ b3 79 #[.int .i64 a1, .int .i64 a2, .int .i64 a3, .int .i64 a4] (0, 0) _ rfl ?hh Tryd.underlying79 rfl (by kernel_rfl)) rfl ⟨rfl, ?bb⟩
 case hh => exact blk_set (blk_set (blk_set (blk_set HX7.out 0 _) 1 _) 2 _) 3 _
 case bb => exact (((HB7.out.setCell (p := ⟨b3, 0, none⟩) HG3.out _).setCell (p := ⟨b3, 1, none⟩) HG3.out _).setCell (p := ⟨b3, 2, none⟩) HG3.out _).setCell (p := ⟨b3, 3, none⟩) HG3.out _
theorem up_cell {w : World} {a : Addr} {v : Value} (h : w.cell? a = some v) : (∀ o1, (w.alloc o1).cell? a = some v) ∧ (∀ o1 o2, ((w.alloc o1).alloc o2).cell? a = some v) := by
 have e : ∀ (w : World) (o : Obj), w.cell? a = some v → (w.alloc o).cell? a = some v := fun w o h => pw_cell_below ((Below.refl _ _).alloc (Nat.le_refl _) o) h
 exact ⟨fun o1 => e _ _ h, fun o1 o2 => e _ _ (e _ _ h)⟩
theorem formN_le (k : Nat) (hk : k < 9) : formN k ≤ 4 := by
 match k, hk with
 | 0, _ => decide
 | 1, _ => decide
 | 2, _ => decide
 | 3, _ => decide
 | 4, _ => decide
 | 5, _ => decide
 | 6, _ => decide
 | 7, _ => decide
 | 8, _ => decide
theorem txtI_snoc (W : ByteArray) (l : List Int) (n : Int) : txtI W (l ++ [n]) = txtI W l ++ numT n := by simp [txtI, List.foldl_append]
theorem num_at {w : World} {g : Nat} {a b c d : Int} {t : TypeId} {fr : Nat × Nat} {i : Nat} (h : w.heap[g]? = some (.cells #[.int .i64 a, .int .i64 b, .int .i64 c, .int .i64 d] t fr)) (hi : i < 4) : w.cell? ⟨g, i, none⟩ = some (.int .i64 ([a, b, c, d].getD i 0)) := by
 rw [cell_of_row _ _ _ _ _ _ h]
 match i, hi with
 | 0, _ => rfl
 | 1, _ => rfl
 | 2, _ => rfl
 | 3, _ => rfl
theorem num_mem {a b c d : Int} {i : Nat} (hi : i < 4) : [a, b, c, d].getD i 0 ∈ [a, b, c, d] := by
 match i, hi with
 | 0, _ => simp
 | 1, _ => simp
 | 2, _ => simp
 | 3, _ => simp
theorem take_getD (l : List Int) (n : Nat) (h : n < l.length) : l.take (n + 1) = l.take n ++ [l.getD n 0] := by
 rw [List.take_add_one, List.getElem?_eq_getElem h]; simp [List.getD_eq_getElem?_getD, List.getElem?_eq_getElem h]
theorem numT_size (n : Int) : (numT n).size = 1 + (Lib.itoa n).length := by unfold numT; rw [ByteArray.size_append]; show 1 + (Lib.itoa n).toArray.size = _; rw [List.size_toArray]
theorem txtI_len (W : ByteArray) (l : List Int) (h : ∀ n ∈ l, okI n) (hW : W.size ≤ 5) (hl : l.length ≤ 4) : (txtI W l).size ≤ 1000 := by
 have : ∀ (l : List Int) (S : ByteArray), (∀ n ∈ l, okI n) → (l.foldl (fun s n => s ++ numT n) S).size ≤ S.size + 22 * l.length := by
  intro l
  induction l with
  | nil => intro S _; simp
  | cons a l ih =>
   intro S h; have h1 := ih (S ++ numT a) (fun n hn => h n (List.mem_cons_of_mem _ hn)); have h2 := h a (List.mem_cons_self ..); have h3 := Lib.itoa_length_le a h2.1 h2.2
   rw [ByteArray.size_append, numT_size] at h1
   simp only [List.foldl_cons, List.length_cons]
   omega
 have := this l W h
 unfold txtI
 omega
theorem formW_len (k : Nat) (hk : k < 9) : (formW k).size ≤ 5 := by
 match k, hk with
 | 0, _ => decide
 | 1, _ => decide
 | 2, _ => decide
 | 3, _ => decide
 | 4, _ => decide
 | 5, _ => decide
 | 6, _ => decide
 | 7, _ => decide
 | 8, _ => decide
theorem form_word {w : World} (h : Glob w) (k : Nat) (hk : k < 9) : w.cell? ⟨0, k * 2, none⟩ = some (.string (formW k)) ∧ w.cell? ⟨0, k * 2 + 1, none⟩ = some (.int .i64 (formN k : Int)) := by
 obtain ⟨⟨t, fr, h1⟩, _⟩ := h
 rw [cell_of_row _ _ _ _ _ _ h1, cell_of_row _ _ _ _ _ _ h1]
 match k, hk with
 | 0, _ => exact ⟨rfl, rfl⟩
 | 1, _ => exact ⟨rfl, rfl⟩
 | 2, _ => exact ⟨rfl, rfl⟩
 | 3, _ => exact ⟨rfl, rfl⟩
 | 4, _ => exact ⟨rfl, rfl⟩
 | 5, _ => exact ⟨rfl, rfl⟩
 | 6, _ => exact ⟨rfl, rfl⟩
 | 7, _ => exact ⟨rfl, rfl⟩
 | 8, _ => exact ⟨rfl, rfl⟩
theorem form_cut (k : Nat) (hk : k < 9) : ∀ (b : Nat) (W : World), (Instr.sliceAt 79 (.pointer (some ⟨b, 0, none⟩)) none (some (.int .i64 (formN k : Int))) none).run Tryd.prog W = .ok (.slice (some ⟨b, 0, none⟩) (formN k) 4) W := by
 intro b W
 match k, hk with
 | 0, _ => (show _ = _; kernel_rfl)
 | 1, _ => (show _ = _; kernel_rfl)
 | 2, _ => (show _ = _; kernel_rfl)
 | 3, _ => (show _ = _; kernel_rfl)
 | 4, _ => (show _ = _; kernel_rfl)
 | 5, _ => (show _ = _; kernel_rfl)
 | 6, _ => (show _ = _; kernel_rfl)
 | 7, _ => (show _ = _; kernel_rfl)
 | 8, _ => (show _ = _; kernel_rfl)
set_option maxHeartbeats 4000000 in
set_option maxRecDepth 100000 in
theorem impl_OpText.calls (k : Nat) (a0_0 a0_1 a0_2 a0_3 a0_4 : Int) (r : ByteArray) (w : World) (h : impl_OpText.f k a0_0 a0_1 a0_2 a0_3 a0_4 = some r) (hG : Glob w) :
  Calls Tryd.prog 15 #[.agg #[.int .i64 a0_0, .int .i64 a0_1, .int .i64 a0_2, .int .i64 a0_3, .int .i64 a0_4]] w fun e w' => e = .returned (.string r) ∧ Below w.heap.size w w' := by
 have HG := Aside0.mk hG; clear hG; obtain ⟨t, ht, h⟩ := Option.bind_eq_some_iff.1 h; have HT := Aside0.mk ht; clear ht; have hu := Tryd.underlying25
 cases t with
 | false =>
  rw [if_neg (by decide)] at h
  obtain rfl := Option.some.inj h
  go_enter Tryd.func15, Tryd.ntmps15
  go_wp2_with (first | ((with_reducible refine gd_ 1 rfl ?_); refine bx_ 1 rfl #[.int .i64 a0_0, .int .i64 a0_1, .int .i64 a0_2, .int .i64 a0_3, .int .i64 a0_4] 25 ?_; intro b2 hg w5 hbox hb; have HX := Aside0.mk hbox; have HB := Aside0.mk hb; obtain ⟨x0, x1, x2, x3, x4⟩ := cc5_ hbox; clear hb hbox hg) | (go_at_call 34; refine (impl_OpOk.calls k a0_0 a0_1 a0_2 a0_3 a0_4 false _ HT.out).mono ?_; rintro e w6 ⟨rfl, hb⟩; have HB6 := Aside0.mk (below_step HB.out hb); clear hb))
  go_ret
  exact ⟨rfl, HB6.out⟩
 | true =>
  rw [if_pos rfl] at h
  unfold opTextI at h
  split at h
  case isFalse => cases h
  rename_i hk
  obtain ⟨hk0, hk9, hns⟩ := hk; obtain rfl := Option.some.inj h; obtain ⟨kd, rfl⟩ := Int.eq_ofNat_of_zero_le hk0; have hkd : kd < 9 := (by omega); have HNS := Aside0.mk hns
  simp only [Int.toNat_natCast]
  clear hk0 hk9 h hns; have hsl := form_cut kd hkd
  go_enter Tryd.func15, Tryd.ntmps15
  go_wp2_with (first | ((with_reducible refine gd_ 1 rfl ?_); refine bx_ 1 rfl #[.int .i64 (kd : Int), .int .i64 a0_1, .int .i64 a0_2, .int .i64 a0_3, .int .i64 a0_4] 25 ?_; intro b2 hg w5 hbox hb; have HX := Aside0.mk hbox; have HB := Aside0.mk hb; obtain ⟨x0, x1, x2, x3, x4⟩ := cc5_ hbox; clear hb hbox hg) | (go_at_call 34; refine (impl_OpOk.calls k (kd : Int) a0_1 a0_2 a0_3 a0_4 true _ HT.out).mono ?_; rintro e w6 ⟨rfl, hb⟩; have HB6 := Aside0.mk (below_step HB.out hb); obtain ⟨y0, y1, y2, y3, y4⟩ := cc5_ (blk_below HX.out hb); have u0 := (up_cell y0).1; have u1 := (up_cell y1).1; have u2 := (up_cell y2).1; have u3 := (up_cell y3).1; have u4 := (up_cell y4).1; obtain ⟨z0, z1⟩ := form_word (HG.out.belowW HB6.out) kd hkd; clear hb) | (go_at_call 53; refine (opNumbers_calls (kd : Int) a0_1 a0_2 a0_3 a0_4 _).mono ?_; rintro e w8 ⟨rfl, hb⟩; have v0 := (up_cell (pw_cell_below hb (v := .string (formW kd)) ((cell_of_row _ w6.heap.size 0 _ _ _ (heap_alloc_new w6 _)).trans rfl))).1; have v1 := (up_cell (pw_cell_below hb (v := .int .i64 (formN kd : Int)) ((cell_of_row _ w6.heap.size 1 _ _ _ (heap_alloc_new w6 _)).trans rfl))).1; have HB8 := Aside0.mk hb; clear hb))
  obtain ⟨g, hg⟩ : ∃ g, w8.heap.size = g := ⟨_, rfl⟩; have HA : Aside0 ((w8.alloc (.cells #[.int .i64 a0_1, .int .i64 a0_2, .int .i64 a0_3, .int .i64 a0_4] 79)).heap[g]? = some (.cells #[.int .i64 a0_1, .int .i64 a0_2, .int .i64 a0_3, .int .i64 a0_4] 79 (0, 0))) := ⟨by rw [← hg]; exact blk_new w8 _⟩; have hba := below_step (HB6.out.alloc HB6.out.size (.cells #[.string (formW kd), .int .i64 (formN kd : Int)] 77)) HB8.out; have HBA := Aside0.mk (hba.alloc hba.size (.cells #[.int .i64 a0_1, .int .i64 a0_2, .int .i64 a0_3, .int .i64 a0_4] 79)); have HGE := Aside0.mk (show w.heap.size ≤ g by rw [← hg]; exact hba.size)
  rw [hg]
  have h4 := formN_le kd hkd; clear hba hg u0 u1 u2 u3 u4 v0 v1 x0 x1 x2 x3 x4 y0 y1 y2 y3 y4
  (try simp only [Act.put, List.setIfInBounds_toArray, List.set_cons_zero, List.set_cons_succ])
  go_loopg [5, 23] (formN kd) (fun kq v5 v23 w' => ∃ i : Nat, kq + i = formN kd ∧ v5 = .string (txtI (formW kd) ([a0_1, a0_2, a0_3, a0_4].take i)) ∧ v23 = .int .i64 i ∧ w'.heap[g]? = some (.cells #[.int .i64 a0_1, .int .i64 a0_2, .int .i64 a0_3, .int .i64 a0_4] 79 (0, 0)) ∧ Below w.heap.size w w')
  case atStart => exact ⟨0, by omega, rfl, rfl, HA.out, HBA.out⟩
  case round =>
   obtain ⟨i, hk, rfl, rfl, hA, hL⟩ := hrel; have HA2 := Aside0.mk hA; have HL := Aside0.mk hL
   by_cases h6 : i < formN kd
   · have x : wr.cell? ⟨g, i, none⟩ = some (.int .i64 ([a0_1, a0_2, a0_3, a0_4].getD i 0)) := num_at hA (by omega)
     have HN := Aside0.mk (HNS.out ([a0_1, a0_2, a0_3, a0_4].getD i 0) (num_mem (by omega))); have HS := Aside0.mk (txtI_len (formW kd) ([a0_1, a0_2, a0_3, a0_4].take i) (fun n hn => HNS.out n (List.mem_of_mem_take hn)) (formW_len kd hkd) (by simp; omega)); obtain ⟨n, hn⟩ : ∃ n, [a0_1, a0_2, a0_3, a0_4].getD i 0 = n := ⟨_, rfl⟩; obtain ⟨tx, htx⟩ : ∃ tx, txtI (formW kd) ([a0_1, a0_2, a0_3, a0_4].take i) = tx := ⟨_, rfl⟩; have HNM := Aside0.mk hn; have HTX := Aside0.mk htx
     rw [hn] at x HN; rw [htx] at HS ⊢
     have l1 : (⟨#[46]⟩ : ByteArray).size + (⟨(Lib.itoa n).toArray⟩ : ByteArray).size ≤ 9223372036854775807 := (by have := Lib.itoa_length_le n HN.out.1 HN.out.2; show 1 + (Lib.itoa n).toArray.size ≤ _; rw [List.size_toArray]; omega); have s1 : ∀ W : World, (Op.stringOp .add ⟨#[46]⟩ ⟨(Lib.itoa n).toArray⟩).run Tryd.prog W = .ok (.string (numT n)) W := fun W => run_string_add_sum W _ _ l1; have s2 : ∀ W : World, (Op.stringOp .add tx (numT n)).run Tryd.prog W = .ok (.string (tx ++ numT n)) W := fun W => run_string_add_sum W _ _ (by have := HS.out; have := Lib.itoa_length_le n HN.out.1 HN.out.2; have : (numT n).size = 1 + (Lib.itoa n).length := numT_size n; omega); clear hn htx l1; clear hA hL
     go_wp2_with (go_at_call 54; refine (itoa_calls _ _ (HG.out.belowW HL.out) HN.out.1 HN.out.2).mono ?_; rintro e w9 ⟨rfl, hb⟩; have HB9 := Aside0.mk (below_step HL.out hb); have HA9 := Aside0.mk (blk_below HA2.out hb); clear hb)
     go_roundg (gk - 1)
     case measure => omega
     case rel => exact ⟨i + 1, by omega, by rw [take_getD _ _ (by simp; omega), txtI_snoc, HNM.out, HTX.out], by first | rfl | (simp; done) | (unfold wrap64; simp; omega), HA9.out, HB9.out⟩
   · obtain rfl : i = formN kd := by omega
     clear hA hL
     go_wp2
     go_ret
     exact ⟨rfl, HL.out⟩
end
end Go.Proofs.YtiihhjfdgojkeaaDoor.X
namespace Go.Proofs.YtiihhjfdgojkeaaDoorW.PrintWords
open Go.RowKit
set_option linter.unusedVariables false
variable {α : Type} {P : Program} {ops : Array Oper} {o : Oper} {a : Act} {Q : Exit → Act → World → Prop} {rest : List Oper}
theorem Kd.R_make0 (d : Kd α) {w0 W : World} (base e : Nat) (hgd : o.guard = none) {N : Tmp} (hd : o.dst = some N) (t : TypeId) (x y : Operand) (ho : o.op = .makeSlice t x y) (n : Int) (hx : a.eval x = .int .i64 0) (hy : a.eval y = .int .i64 n)
    (ht : P.underlying t = some (.slice e)) (z : Value) (bytes : Nat) (hinfo : (P.info? e).map (fun i => (i.zero, i.size, i.bytes)) = some (some z, d.sz, bytes)) (hz : z.cells.size = d.sz) (hs0 : 0 < d.sz) (hb0 : 0 < bytes)
    (z0 : α) {ok okp : Nat → Prop} (hzero : d.M W base okp z0 z.cells.toList) (hok : ∀ k, okp k → ok k) (hfresh : ok W.heap.size) (h0 : 0 ≤ n) (hl : n.toNat * bytes ≤ 281474976710656) (HB : Below base w0 W) (hbase : base ≤ W.heap.size)
    (h : ∀ v1 w1, d.R e w1 base ok v1 [] → Below base w0 w1 → W.grownBy w1 none → (∃ b, v1.ownBlock = some b ∧ W.heap.size ≤ b) → wpList P ops Q rest (a.put o.dst v1) w1) : wpList P ops Q (o :: rest) a W := by
  obtain ⟨m, rfl⟩ := Int.eq_ofNat_of_zero_le h0
  simp only [Int.toNat_natCast] at hl
  obtain ⟨i0, hi, hzz⟩ := Option.map_eq_some_iff.1 hinfo
  simp only [Prod.mk.injEq] at hzz
  obtain ⟨hz0, hz1, hz2⟩ := hzz
  have hm : m ≤ 281474976710656 := Nat.le_trans (Nat.le_mul_of_pos_right _ hb0) hl
  have hr := run_make (P := P) (w := W) t e i0 z ht hi hz0 .i64 .i64 0 (m : Int) (by omega) (by omega)
    (by
      have h3 : ((i0.bytes * m : Nat) : Int) ≤ 281474976710656 := by rw [hz2, Nat.mul_comm]; omega
      rwa [Int.natCast_mul] at h3) (by omega)
  simp only [Int.toNat_natCast] at hr
  rw [hz1] at hr
  have h1 : d.R e (W.alloc (.cells (madeCells z.cells (m * d.sz)) e)) base ok (.slice (some ⟨W.heap.size, 0, none⟩) m m) (List.replicate m z0) := by
    have hrep := Kd.reps_made hz hs0 hzero m
    refine ⟨fun k hk => ?_, (madeCells z.cells (m * d.sz)).toList, ?_, ?_⟩
    · have : W.heap.size = k := by simpa [Value.ownBlock] using hk
      subst this
      exact hfresh
    · have h2 := World.ownsRow_lit (base := base) (e := e) (size := d.sz) W (madeCells z.cells (m * d.sz)) m hbase (by show m ≤ 9223372036854775807; omega) (by simp [size_madeCells])
      simpa using h2
    · refine hrep.imp_ (fun p c hp => d.M_mono (fun k hk => ⟨hok k hk.1, fun he => ?_⟩) (Kd.M_below (d.M_bound hp) (below_alloc (Below.refl _ _) _)))
      have h3 : k = W.heap.size := by simpa [Value.ownBlock] using he
      have := hk.2.2.1
      omega
  have h2 := Kd.R_take h1 (m := 0) (Nat.zero_le _)
  refine Kd.event_run hgd (by simp [execOp, ho, hx, hy, hr]) (h _ _ h2 (HB.alloc hbase _) (World.grownBy_alloc W _ none) ⟨W.heap.size, by simp [Value.ownBlock], Nat.le_refl _⟩)
end Go.Proofs.YtiihhjfdgojkeaaDoorW.PrintWords
namespace Go.Proofs.YtiihhjfdgojkeaaDoor.X
open Go.RowKit Go.Proofs.YtiihhjfdgojkeaaDoorW.PrintWords Go.Proofs.YtiihhjfdgojkeaaDoorW.PrintLast Go.Proofs.YtiihhjfdgojkeaaDoorW.PrintMore
attribute [local go_sem] max2_int min2_int max_two min_two max_three min_three max_four min_four
set_option linter.unusedVariables false
set_option linter.unusedSimpArgs false

section
def strconv_Itoa_54.f (a0 : Int) : Option ByteArray := if -9223372036854775808 ≤ a0 ∧ a0 ≤ 9223372036854775807 then some ⟨(Lib.itoa a0).toArray⟩ else none
theorem strconv_Itoa_54.calls (a0 : Int) (r : ByteArray) (w : World) (h : strconv_Itoa_54.f a0 = some r) (hG : Glob w) :
  Calls Tryd.prog 54 #[.int .i64 a0] w fun e w' => e = .returned (.string r) ∧ Below w.heap.size w w' := by
 unfold strconv_Itoa_54.f at h
 split at h
 case isFalse => cases h
 rename_i hl
 obtain rfl := Option.some.inj h
 exact itoa_calls a0 w hG hl.1 hl.2
end
section
def strings_Join.f (l0 : List ByteArray) (a1 : ByteArray) : Option ByteArray := if l0.length ≤ 140737488355328 ∧ (Lib.join (l0.map (·.data.toList)) a1.data.toList).length ≤ 140737488355328 then some ⟨(Lib.join (l0.map (·.data.toList)) a1.data.toList).toArray⟩ else none
theorem strings_Join.calls (A0 : Option Addr) (c0 : Nat) (l0 : List ByteArray) (a1 : ByteArray) (r : ByteArray) (w : World) (hr0 : Kd.C Kd.string w A0 l0.length l0) (hc0 : l0.length ≤ c0) (h : strings_Join.f l0 a1 = some r) :
  Calls Tryd.prog 58 #[.slice A0 l0.length c0, .string a1] w fun e w' => e = .returned (.string r) ∧ Below w.heap.size w w' := by
 unfold strings_Join.f at h
 split at h
 case isFalse => cases h
 rename_i hl
 obtain rfl := Option.some.inj h
 cases l0 with
 | nil =>
  refine (Tryd.strings_Join_none A0 c0 a1 w).mono ?_
  rintro e w' ⟨rfl, rfl⟩
  exact ⟨rfl, Below.refl _ _⟩
 | cons x l =>
  obtain ⟨ad, rfl, h0⟩ := Kd.at_string hr0 0 (by omega) (by simp)
  obtain ⟨bk, o, sp⟩ := ad
  have hsp : sp = none := by
   cases sp with
   | none => rfl
   | some s =>
    exfalso
    unfold World.cell? at h0
    split at h0
    · simp [Addr.add] at h0
    · cases h0
  subst hsp
  refine Tryd.strings_Join bk o c0 (x :: l) a1 w (fun j y hj => ?_) ?_ hl.1 hc0 hl.2
  · have hlt := (List.getElem?_eq_some_iff.1 hj).1
    obtain ⟨ad, e, hh⟩ := Kd.at_string hr0 (j : Int) (by omega) (by omega)
    obtain rfl := Option.some.inj e
    rw [show ((j : Int).toNat) = j by omega] at hh
    rw [show rdOf ByteArray.empty (x :: l) (j : Int) = y by simp [rdOf, List.getD_eq_getElem?_getD, hj]] at hh
    rw [show (({ block := bk, off := o, spot := none } : Addr).add j) = ⟨bk, o + j, none⟩ by simp [Addr.add]] at hh
    exact hh
  · unfold World.cell? at h0
    split at h0
    · rename_i hh
      exact (Array.getElem?_eq_some_iff.1 hh).1
    · cases h0
end
section
open Go.Proofs.YtiihhjfdgojkeaaDoorW.PrintWords.Aside0 renaming mk → yaa
open Go.Proofs.YtiihhjfdgojkeaaDoorW.PrintWords renaming pw_below_drewN → yab, below_drew1 → yac, below_alloc → yad, below_set → yae

abbrev q19_0 : Array Bool := Array.replicate 12 false
abbrev q19_1 : Array Bool := bl_ 12 1
abbrev q19_2 : Array Bool := bl_ 12 3
abbrev q19_3 : Array Bool := bl_ 12 7
abbrev q19_4 : Array Bool := bl_ 12 15
abbrev q19_5 : Array Bool := bl_ 12 143
abbrev q19_6 : Array Bool := bl_ 12 159
abbrev q19_7 : Array Bool := bl_ 12 191
abbrev q19_8 : Array Bool := bl_ 12 255
abbrev q19_9 : Array Bool := bl_ 12 511
abbrev q19_10 : Array Bool := bl_ 12 1023
abbrev q19_11 : Array Bool := bl_ 12 2047
abbrev q19_12 : Array Bool := bl_ 12 4095
def impl_AskText.l0 : Nat → List ByteArray → List (S25) → Int → Int → List (S25) → ByteArray → Int → Option (ByteArray)
 | 0, _, _, _, _, _, _, _ => none
 | k + 1, x3, x15, x16, x17, x102000, x102001, x102002 => if x17 < x16 then (if 0 ≤ x17 then (if x17 < (x15.length : Int) then ((impl_OpText.f k ((rd_T25 x15 x17).f0) ((rd_T25 x15 x17).f1) ((rd_T25 x15 x17).f2) ((rd_T25 x15 x17).f3) ((rd_T25 x15 x17).f4)).bind fun t108 => (if x3.length < 8796093022208 then (impl_AskText.l0 k (x3 ++ [t108]) x15 x16 (wrap64 (x17 + 1)) x102000 x102001 x102002) else (none))) else (none)) else (none)) else (if (x3.length : Int) > 0 then ((strings_Join.f x3 (⟨#[44]⟩ : ByteArray)).bind fun t112 => (if 1 + t112.size ≤ 9223372036854775807 then (if ((⟨#[47]⟩ : ByteArray) ++ t112).size + 1 ≤ 9223372036854775807 then (if (((⟨#[47]⟩ : ByteArray) ++ t112) ++ (⟨#[47]⟩ : ByteArray)).size + x102001.size ≤ 9223372036854775807 then (if ((((⟨#[47]⟩ : ByteArray) ++ t112) ++ (⟨#[47]⟩ : ByteArray)) ++ x102001).size + 3 ≤ 9223372036854775807 then ((strconv_Itoa_54.f x102002).bind fun t113 => (if (((((⟨#[47]⟩ : ByteArray) ++ t112) ++ (⟨#[47]⟩ : ByteArray)) ++ x102001) ++ (⟨#[63, 101, 61]⟩ : ByteArray)).size + t113.size ≤ 9223372036854775807 then (some ((((((⟨#[47]⟩ : ByteArray) ++ t112) ++ (⟨#[47]⟩ : ByteArray)) ++ x102001) ++ (⟨#[63, 101, 61]⟩ : ByteArray)) ++ t113)) else (none))) else (none)) else (none)) else (none)) else (none))) else (if 1 + 1 ≤ 9223372036854775807 then (if (((⟨#[47]⟩ : ByteArray) ++ (⟨#[45]⟩ : ByteArray)) ++ (⟨#[47]⟩ : ByteArray)).size + x102001.size ≤ 9223372036854775807 then (if ((((⟨#[47]⟩ : ByteArray) ++ (⟨#[45]⟩ : ByteArray)) ++ (⟨#[47]⟩ : ByteArray)) ++ x102001).size + 3 ≤ 9223372036854775807 then ((strconv_Itoa_54.f x102002).bind fun t114 => (if (((((⟨#[47]⟩ : ByteArray) ++ (⟨#[45]⟩ : ByteArray)) ++ (⟨#[47]⟩ : ByteArray)) ++ x102001) ++ (⟨#[63, 101, 61]⟩ : ByteArray)).size + t114.size ≤ 9223372036854775807 then (some ((((((⟨#[47]⟩ : ByteArray) ++ (⟨#[45]⟩ : ByteArray)) ++ (⟨#[47]⟩ : ByteArray)) ++ x102001) ++ (⟨#[63, 101, 61]⟩ : ByteArray)) ++ t114)) else (none))) else (none)) else (none)) else (none)))
def impl_AskText.f (k : Nat) (l0_0 : List (S25)) (a0_1 : ByteArray) (a0_2 : Int) : Option (ByteArray) := (impl_AskOk.f k l0_0 a0_1 a0_2).bind fun t102 => (if t102 = true then (if 0 ≤ (l0_0.length : Int) then (if ((l0_0.length : Int) : Int).toNat ≤ 17592186044416 then (impl_AskText.l0 k (([] : List ByteArray)) l0_0 (l0_0.length : Int) 0 l0_0 a0_1 a0_2) else (none)) else (none)) else (some (⟨#[]⟩ : ByteArray)))
def impl_AskText.T12 : Bool × List (List Nat × List Nat) := (true, [([], []), ([0], [0]), ([1], [1]), ([], []), ([3], [3]), ([2, 4], [2, 4]), ([5], [5]), ([], []), ([7], [7]), ([8], [8]), ([6, 9], [6, 9]), ([10, 9, 0, 1, 2, 3, 4, 5, 6, 7, 8, 9, 10], [10])])
def impl_AskText.B12 : List Nat := [0, 1, 3, 0, 8, 31, 63, 0, 128, 384, 1023, 2047]
theorem impl_AskText.tab12 : rtab .any (opsOf Tryd.f19 12) = impl_AskText.T12 := by kernel_rfl
theorem impl_AskText.bits12 : waitsOk impl_AskText.T12.2 impl_AskText.B12 = true := by kernel_rfl
set_option maxHeartbeats 8000000 in
set_option maxRecDepth 100000 in
theorem impl_AskText.calls (k : Nat) (A0_0 : Option Addr) (c0_0 : Nat) (l0_0 : List (S25)) (a0_1 : ByteArray) (a0_2 : Int) (r : ByteArray) (w : World) (hr0_0 : Kd.C k25 w A0_0 l0_0.length l0_0) (hc0_0 : l0_0.length ≤ c0_0) (h : impl_AskText.f k l0_0 a0_1 a0_2 = some r) (hG : Glob w) :
  Calls Tryd.prog 19 #[.agg #[.slice A0_0 l0_0.length c0_0, .string a0_1, .int .i64 a0_2]] w fun e w' => e = .returned (.string r) ∧ Below w.heap.size w w' := by
 have HG := yaa hG; clear hG; have hu35 := Tryd.underlying35; have hu25 := Tryd.underlying25; have HR0_0 := yaa hr0_0; have HC0_0 := yaa hc0_0; clear hr0_0 hc0_0; have HB := yaa (Below.refl w.heap.size w); have H : ((impl_AskOk.f k l0_0 a0_1 a0_2).bind fun e3 => (if e3 = true then (if 0 ≤ (l0_0.length : Int) then (if ((l0_0.length : Int) : Int).toNat ≤ 17592186044416 then (impl_AskText.l0 k (([] : List ByteArray)) l0_0 (l0_0.length : Int) 0 l0_0 a0_1 a0_2) else (none)) else (none)) else (some (⟨#[]⟩ : ByteArray)))) = some r := h; clear h; obtain ⟨e3, A2, H⟩ := bindA H; (try dsimp only at H)
 by_cases c3 : e3 = true
 ·
  subst c3
  rw [if_pos rfl] at H
  by_cases c4 : 0 ≤ (l0_0.length : Int)
  ·
   rw [if_pos c4] at H
   have i4 := eq_true c4; replace c4 := decide_eq_true c4
   by_cases c5 : ((l0_0.length : Int) : Int).toNat ≤ 17592186044416
   ·
    rw [if_pos c5] at H
    have i5 := eq_true c5; replace c5 := decide_eq_true c5; obtain ⟨y103, hy103⟩ : ∃ y_ : List ByteArray, y_ = (([] : List ByteArray)) := ⟨_, rfl⟩
    replace H : (impl_AskText.l0 k y103 l0_0 (l0_0.length : Int) 0 l0_0 a0_1 a0_2) = some r := by first | (rw [hy103]; with_reducible exact H) | (have H2_ := (Option.bind_some _ _).symm.trans H; rw [hy103]; with_reducible exact H2_) | (have H2_ := (Option.bind_some _ _).symm.trans H; with_reducible exact H2_) | with_reducible exact H | (rw [hy103]; exact H) | exact H
    have Ny103 := yaa hy103; clear hy103; have H' := yaa H; clear H
    go_enter Tryd.func19, Tryd.ntmps19
    go_wp2_with (first | ((with_reducible refine gd_ 1 rfl ?_); refine bx_ 1 rfl #[.slice A0_0 l0_0.length c0_0, .string a0_1, .int .i64 a0_2] 35 ?_; intro a6 hg w6 hbox hb; have a3 := yaa (hbox); have b8 := yaa ((by rw [hg]; exact (below_size (upH HB.out)) : w.heap.size ≤ a6)); replace HB := yaa (below_step (upH HB.out) hb); have g3 := b8; clear hb hbox hg; obtain ⟨e4, e5, e6⟩ := cc3_ a3.out; obtain ⟨e8, e9⟩ := cf2_ a3.out; have f6 := blk_frozen a3.out 2) | ((with_reducible refine gc_ 25 rfl ?_); refine gl_ (some 8) rfl Tryd.func25 #[.agg #[.slice A0_0 l0_0.length c0_0, .string a0_1, .int .i64 a0_2]] ?_; (with_reducible refine (impl_AskOk.calls k _ _ l0_0 a0_1 a0_2 true _ ?side1 ?side2 A2.out).mono ?_); (case side1 => repeat (first | exact (Kd.C_below HR0_0.out HB.out) | (with_reducible refine Kd.C_alloc ?_ _) | (with_reducible refine Kd.C_drewN ?_ _) | (with_reducible refine Kd.C_drew ?_))); (case side2 => exact HC0_0.out); rintro e w8 ⟨rfl, hb⟩; refine ⟨_, rfl, ?_⟩; replace a3 := yaa (blk_below (upB a3.out) hb); replace HB := yaa (below_step (by repeat (with_reducible first | exact HB.out | apply yad | apply yab | apply yac | refine yae ?_ (Aside0.out ‹_›))) hb); (try clear hb); obtain ⟨f7, f8, f9⟩ := cc3_ a3.out; obtain ⟨g0, g1⟩ := cf2_ a3.out; have g2 := blk_frozen a3.out 2) | ((with_reducible refine gd_ 13 rfl ?_); refine Kd.R_make0 Kd.string _ 9 rfl (N := 13) rfl 84 _ _ rfl (l0_0.length : Int) rfl rfl Tryd.underlying84 (.string ⟨#[]⟩) 16 info9 rfl (by decide) (by omega) (⟨#[]⟩ : ByteArray) (ok := fun _ => True) (okp := fun _ => True) rfl (fun _ hk => hk) trivial (of_decide_eq_true (by assumption)) (Nat.le_trans (Nat.mul_le_mul_right _ (of_decide_eq_true (by assumption) : (l0_0.length : Int).toNat ≤ 17592186044416)) (by omega)) (Below.refl _ _) (Nat.le_refl _) ?_; intro m3 w10 b9 hb hg_ hnew_; clear hg_ hnew_; (first | rw [← Ny103.out] at b9 | (simp only [Int.reduceToNat] at b9; rw [← Ny103.out] at b9)); have e1 := yaa (Kd.R_lower b9 (below_size (by repeat (with_reducible first | exact HB.out | apply yad | apply yab | apply yac | refine yae ?_ (Aside0.out ‹_›))))); replace a3 := yaa (blk_below (upB a3.out) hb); replace HB := yaa (below_step (by repeat (with_reducible first | exact HB.out | apply yad | apply yab | apply yac | refine yae ?_ (Aside0.out ‹_›))) hb); clear hb b9; obtain ⟨d2, d3, d4⟩ := cc3_ a3.out; obtain ⟨d5, d6⟩ := cf2_ a3.out; have d7 := blk_frozen a3.out 2))
    (try simp only [Act.put, List.setIfInBounds_toArray, List.set_cons_zero, List.set_cons_succ])
    go_loopg [3, 17] k (fun kq v3 v17 w' => ∃ (a9 : List ByteArray) (a4 : Int), v17 = .int .i64 a4 ∧ Aside0 (impl_AskText.l0 kq a9 l0_0 (l0_0.length : Int) a4 l0_0 a0_1 a0_2 = some r) ∧ Aside0 (kq ≤ k) ∧ Aside0 (Kd.R Kd.string 9 w' w.heap.size (fun _ => True) v3 a9) ∧ Aside0 (w'.heap[a6]? = some (.cells #[(.slice A0_0 l0_0.length c0_0), .string a0_1, .int .i64 a0_2] 35 (0, 0))) ∧ Aside0 (Below w.heap.size w w'))
    case atStart => exact ⟨(y103), (0), (by first | rfl | (simp; done) | (simp [*]; done)), H', ⟨Nat.le_refl _⟩, ⟨by first | exact e1.out | exact upR e1.out⟩, ⟨by exact upB a3.out⟩, ⟨by repeat (with_reducible first | exact HB.out | apply yad | apply yab | apply yac | refine yae ?_ (Aside0.out ‹_›))⟩⟩
    case round =>
     clear H'; (try clear c1); (try clear c2); (try clear p2); (try clear c3); (try clear c4); (try clear i4); (try clear c4b1); (try clear c5); (try clear i5); (try clear c5b1); (try clear d2); (try clear d3); (try clear d4); (try clear e4); (try clear e5); (try clear e6); (try clear f7); (try clear f8); (try clear f9); (try clear d5); (try clear d6); (try clear d7); (try clear e8); (try clear e9); (try clear f6); (try clear g0); (try clear g1); (try clear g2); obtain ⟨a9, a4, rfl, HA, HK1, a5, a3, HB⟩ := hrel
     cases gk with
     | zero => exact absurd HA.out (by simp [impl_AskText.l0])
     | succ k1 =>
      have H := HA.out; clear HA
      simp only [impl_AskText.l0] at H
      by_cases c13 : a4 < (l0_0.length : Int)
      ·
       rw [if_pos c13] at H
       have g4 : decide (a4 < (l0_0.length : Int)) = true := decide_eq_true c13; clear c13
       by_cases c14 : 0 ≤ a4
       ·
        rw [if_pos c14] at H
        replace c14 := decide_eq_true c14
        by_cases c15 : a4 < (l0_0.length : Int)
        ·
         rw [if_pos c15] at H
         replace c15 := decide_eq_true c15; obtain ⟨d8, A16, H⟩ := bindA H; (try dsimp only at H)
         by_cases c17 : a9.length < 8796093022208
         ·
          rw [if_pos c17] at H
          have LMc17 := yaa c17; clear c17; obtain ⟨y109, hy109⟩ : ∃ y_ : List ByteArray, y_ = (a9 ++ [d8]) := ⟨_, rfl⟩
          replace H : (impl_AskText.l0 k1 y109 l0_0 (l0_0.length : Int) (wrap64 (a4 + 1)) l0_0 a0_1 a0_2) = some r := by first | (rw [hy109]; with_reducible exact H) | (have H2_ := (Option.bind_some _ _).symm.trans H; rw [hy109]; with_reducible exact H2_) | (have H2_ := (Option.bind_some _ _).symm.trans H; with_reducible exact H2_) | with_reducible exact H | (rw [hy109]; exact H) | exact H
          have Ny109 := yaa hy109; clear hy109; have H' := yaa H; clear H; have p106 : 0 ≤ (a4 : Int) := of_decide_eq_true (by assumption); have q106 : a4 < (l0_0.length : Int) := of_decide_eq_true (by assumption); obtain ⟨ad106, i6, b2, b3, b4, b5, b6⟩ := at_T25 HR0_0.out a4 p106 q106
          cases i6
          replace b2 := (upc_ HB.out b2 :); replace b3 := (upc_ HB.out b3 :); replace b4 := (upc_ HB.out b4 :); replace b5 := (upc_ HB.out b5 :); replace b6 := (upc_ HB.out b6 :); replace p106 := eq_true p106; replace q106 := eq_true q106
          go_wp2_with (first | ((with_reducible refine gd_ 5 rfl ?_); refine bx_ 5 rfl #[.int .i64 0, .int .i64 0, .int .i64 0, .int .i64 0, .int .i64 0] 25 ?_; intro b1 hg w18 hbox hb; replace a5 := yaa (Kd.R_below (upR a5.out) hb); have a8 := yaa (hbox); have g5 := yaa ((by rw [hg]; exact (below_size (by repeat (with_reducible first | exact HB.out | apply yad | apply yab | apply yac | refine yae ?_ (Aside0.out ‹_›)))) : w.heap.size ≤ b1)); replace HB := yaa (below_step (by repeat (with_reducible first | exact HB.out | apply yad | apply yab | apply yac | refine yae ?_ (Aside0.out ‹_›))) hb); have j1 := g5; have b0 := yaa ((by rw [hg]; exact Nat.ne_of_lt (blk_lt (upB a3.out)) : a6 ≠ b1)); replace a3 := yaa (blk_below (upB a3.out) hb); have b7 := yaa b0.out.symm; clear hb hbox hg; have j2 := b7.out; have j3 := b0.out; obtain ⟨g8, g9, h0, h1, h2⟩ := cc5_ a8.out; obtain ⟨h3, h4, h5, h6⟩ := cf4_ a8.out; have h7 := blk_frozen a8.out 4) | ((with_reducible refine gc_ 15 rfl ?_); refine gl_ (some 23) rfl Tryd.func15 #[.agg #[.int .i64 ((rd_T25 l0_0 a4).f0), .int .i64 ((rd_T25 l0_0 a4).f1), .int .i64 ((rd_T25 l0_0 a4).f2), .int .i64 ((rd_T25 l0_0 a4).f3), .int .i64 ((rd_T25 l0_0 a4).f4)]] ?_; (with_reducible refine (impl_OpText.calls k1 ((rd_T25 l0_0 a4).f0) ((rd_T25 l0_0 a4).f1) ((rd_T25 l0_0 a4).f2) ((rd_T25 l0_0 a4).f3) ((rd_T25 l0_0 a4).f4) d8 _ A16.out ?sideG).mono ?_); (case sideG => exact Glob.belowW HG.out (by repeat (first | (with_reducible first | exact HB.out | apply yad | apply yab | apply yac | refine yae ?_ (Aside0.out ‹_›)) | exact HB.out | exact Below.refl _ _))); rintro e w21 ⟨rfl, hb⟩; refine ⟨_, rfl, ?_⟩; replace a5 := yaa (Kd.R_below (by (with_reducible repeat (first | apply Kd.R_alloc | apply Kd.R_drewN | apply Kd.R_drew)); exact (Kd.R_mono (Kd.R_far (p := ⟨b1, 4, none⟩) (Kd.R_far (p := ⟨b1, 3, none⟩) (Kd.R_far (p := ⟨b1, 2, none⟩) (Kd.R_far (p := ⟨b1, 1, none⟩) (Kd.R_far (p := ⟨b1, 0, none⟩) (Kd.R_types a5.out a8.out (by decide)) (fun _ hk => hk.2) (.int .i64 ((rd_T25 l0_0 a4).f0))) (fun _ hk => hk.2) (.int .i64 ((rd_T25 l0_0 a4).f1))) (fun _ hk => hk.2) (.int .i64 ((rd_T25 l0_0 a4).f2))) (fun _ hk => hk.2) (.int .i64 ((rd_T25 l0_0 a4).f3))) (fun _ hk => hk.2) (.int .i64 ((rd_T25 l0_0 a4).f4))) (fun _ h_ => h_.1))) hb); replace a3 := yaa (blk_below (g := a6) (o := .cells #[.slice (some ad106) l0_0.length c0_0, .string a0_1, .int .i64 a0_2] 35 (0, 0)) (by repeat (with_reducible first | exact a3.out | refine oneB ?_ | refine blk_far ?_ b0.out _)) hb); replace a8 := yaa (blk_below (g := b1) (o := .cells #[.int .i64 ((rd_T25 l0_0 a4).f0), .int .i64 ((rd_T25 l0_0 a4).f1), .int .i64 ((rd_T25 l0_0 a4).f2), .int .i64 ((rd_T25 l0_0 a4).f3), .int .i64 ((rd_T25 l0_0 a4).f4)] 25 (0, 0)) (by (repeat refine oneB ?_); refine blk_put (cs := #[.int .i64 ((rd_T25 l0_0 a4).f0), .int .i64 ((rd_T25 l0_0 a4).f1), .int .i64 ((rd_T25 l0_0 a4).f2), .int .i64 ((rd_T25 l0_0 a4).f3), .int .i64 0]) ?_ 4 _ rfl; refine blk_put (cs := #[.int .i64 ((rd_T25 l0_0 a4).f0), .int .i64 ((rd_T25 l0_0 a4).f1), .int .i64 ((rd_T25 l0_0 a4).f2), .int .i64 0, .int .i64 0]) ?_ 3 _ rfl; refine blk_put (cs := #[.int .i64 ((rd_T25 l0_0 a4).f0), .int .i64 ((rd_T25 l0_0 a4).f1), .int .i64 0, .int .i64 0, .int .i64 0]) ?_ 2 _ rfl; refine blk_put (cs := #[.int .i64 ((rd_T25 l0_0 a4).f0), .int .i64 0, .int .i64 0, .int .i64 0, .int .i64 0]) ?_ 1 _ rfl; refine blk_put (cs := #[.int .i64 0, .int .i64 0, .int .i64 0, .int .i64 0, .int .i64 0]) ?_ 0 _ rfl; exact upB a8.out) hb); replace HB := yaa (below_step (by repeat (with_reducible first | exact HB.out | apply yad | apply yab | apply yac | refine yae ?_ (Aside0.out ‹_›))) hb); (try clear hb)) | ((with_reducible refine gate_builtin (b := .append) (xs := #[.tmp 21, .tmp 24]) rfl ?_); at_builtin; refine Kd.R_append Kd.string (w0 := w) w.heap.size rfl (.tmp 21) (.tmp 24) 84 9 (.string ⟨#[]⟩) 16 rfl Tryd.underlying84 info9 rfl (by decide) (by omega) u3 a9 d8 [.string d8] (fun _ => True) (fun _ => False) rfl rfl ?aP (fun _ hk => hk.elim) ?aF ?aO ?aB ?aS ?aL ?_; (case aP => exact rfl); (case aB => exact (by repeat (with_reducible first | exact HB.out | apply yad | apply yab | apply yac | refine yae ?_ (Aside0.out ‹_›)))); (case aF => exact (fun _ _ => trivial)); (case aO => exact (upR a5.out)); (case aS => exact (below_size (by repeat (with_reducible first | exact HB.out | apply yad | apply yab | apply yac | refine yae ?_ (Aside0.out ‹_›))))); (case aL => have := LMc17.out; omega); intro m8 w22 ho hb hg hat; rw [← Ny109.out] at ho; replace a3 := yaa (blk_grown (upB a3.out) hg (Kd.R_ne a5.out a3.out (by decide))); replace a8 := yaa (blk_grown (upB a8.out) hg (Kd.R_ne a5.out a8.out (by decide))); replace HB := yaa (hb); have e2 := yaa (ho); clear a5; clear ho hb hg hat))
          go_roundg k1
          case measure => have := HK1.out; omega
          case rel => exact ⟨(y109), (wrap64 (a4 + 1)), (by first | rfl | (simp; done) | (simp [*]; done)), H', ⟨by have := HK1.out; omega⟩, ⟨by first | exact e2.out | exact upR e2.out⟩, ⟨by exact upB a3.out⟩, ⟨by repeat (with_reducible first | exact HB.out | apply yad | apply yab | apply yac | refine yae ?_ (Aside0.out ‹_›))⟩⟩
         ·
          rw [if_neg c17] at H
          exact absurd H (by simp)
        ·
         rw [if_neg c15] at H
         exact absurd H (by simp)
       ·
        rw [if_neg c14] at H
        exact absurd H (by simp)
      ·
       rw [if_neg c13] at H
       have g4 : decide (a4 < (l0_0.length : Int)) = false := decide_eq_false c13; clear c13
       by_cases c23 : (a9.length : Int) > 0
       ·
        rw [if_pos c23] at H
        have g6 : decide (0 < (a9.length : Int)) = true := decide_eq_true c23; have g7 : decide (0 < a9.length) = true := decide_eq_true (by omega); clear c23; obtain ⟨a7, A24, H⟩ := bindA H; (try dsimp only at H)
        by_cases c25 : 1 + a7.size ≤ 9223372036854775807
        ·
         rw [if_pos c25] at H
         have j4 := eq_true c25; have j5 : decide (1 + a7.size ≤ 9223372036854775807) = true := decide_eq_true c25
         try have j6 : (9223372036854775807 < 1 + a7.size) = False := eq_false (Nat.not_lt.2 c25)
         by_cases c26 : ((⟨#[47]⟩ : ByteArray) ++ a7).size + 1 ≤ 9223372036854775807
         ·
          rw [if_pos c26] at H
          have j7 := eq_true c26; have j8 : decide (((⟨#[47]⟩ : ByteArray) ++ a7).size + 1 ≤ 9223372036854775807) = true := decide_eq_true c26
          try have j9 : (9223372036854775807 < ((⟨#[47]⟩ : ByteArray) ++ a7).size + 1) = False := eq_false (Nat.not_lt.2 c26)
          try (have c0 := c26; simp only [ByteArray.size_append', ByteArray.size_mk', List.size_toArray, List.length_cons, List.length_nil, Nat.zero_add, Nat.reduceAdd] at c0; replace c0 := eq_false (Nat.not_lt.2 c0))
          by_cases c27 : (((⟨#[47]⟩ : ByteArray) ++ a7) ++ (⟨#[47]⟩ : ByteArray)).size + a0_1.size ≤ 9223372036854775807
          ·
           rw [if_pos c27] at H
           have k0 := eq_true c27; have k2 : decide ((((⟨#[47]⟩ : ByteArray) ++ a7) ++ (⟨#[47]⟩ : ByteArray)).size + a0_1.size ≤ 9223372036854775807) = true := decide_eq_true c27
           try have k3 : (9223372036854775807 < (((⟨#[47]⟩ : ByteArray) ++ a7) ++ (⟨#[47]⟩ : ByteArray)).size + a0_1.size) = False := eq_false (Nat.not_lt.2 c27)
           try (have c6 := c27; simp only [ByteArray.size_append', ByteArray.size_mk', List.size_toArray, List.length_cons, List.length_nil, Nat.zero_add, Nat.reduceAdd] at c6; replace c6 := eq_false (Nat.not_lt.2 c6))
           by_cases c28 : ((((⟨#[47]⟩ : ByteArray) ++ a7) ++ (⟨#[47]⟩ : ByteArray)) ++ a0_1).size + 3 ≤ 9223372036854775807
           ·
            rw [if_pos c28] at H
            have k4 := eq_true c28; have k5 : decide (((((⟨#[47]⟩ : ByteArray) ++ a7) ++ (⟨#[47]⟩ : ByteArray)) ++ a0_1).size + 3 ≤ 9223372036854775807) = true := decide_eq_true c28
            try have k6 : (9223372036854775807 < ((((⟨#[47]⟩ : ByteArray) ++ a7) ++ (⟨#[47]⟩ : ByteArray)) ++ a0_1).size + 3) = False := eq_false (Nat.not_lt.2 c28)
            try (have c7 := c28; simp only [ByteArray.size_append', ByteArray.size_mk', List.size_toArray, List.length_cons, List.length_nil, Nat.zero_add, Nat.reduceAdd] at c7; replace c7 := eq_false (Nat.not_lt.2 c7))
            obtain ⟨d9, A29, H⟩ := bindA H; (try dsimp only at H)
            by_cases c30 : (((((⟨#[47]⟩ : ByteArray) ++ a7) ++ (⟨#[47]⟩ : ByteArray)) ++ a0_1) ++ (⟨#[63, 101, 61]⟩ : ByteArray)).size + d9.size ≤ 9223372036854775807
            ·
             rw [if_pos c30] at H
             have k7 := eq_true c30; have k8 : decide ((((((⟨#[47]⟩ : ByteArray) ++ a7) ++ (⟨#[47]⟩ : ByteArray)) ++ a0_1) ++ (⟨#[63, 101, 61]⟩ : ByteArray)).size + d9.size ≤ 9223372036854775807) = true := decide_eq_true c30
             try have k9 : (9223372036854775807 < (((((⟨#[47]⟩ : ByteArray) ++ a7) ++ (⟨#[47]⟩ : ByteArray)) ++ a0_1) ++ (⟨#[63, 101, 61]⟩ : ByteArray)).size + d9.size) = False := eq_false (Nat.not_lt.2 c30)
             try (have c8 := c30; simp only [ByteArray.size_append', ByteArray.size_mk', List.size_toArray, List.length_cons, List.length_nil, Nat.zero_add, Nat.reduceAdd] at c8; replace c8 := eq_false (Nat.not_lt.2 c8))
             obtain rfl := Option.some.inj H; obtain ⟨i7, i8, i9⟩ := Kd.R_slice a5.out; subst i9
             try go_wp2_with (first | ((with_reducible refine gc_ 58 rfl ?_); refine gl_ (some 31) rfl Tryd.func58 #[.slice i7 a9.length i8, .string (⟨#[44]⟩ : ByteArray)] ?_; (with_reducible refine (strings_Join.calls _ _ a9 (⟨#[44]⟩ : ByteArray) a7 _ ?side1 ?side2 A24.out).mono ?_); (case side1 => repeat (first | exact (Kd.R_reads' a5.out).2.2 | (with_reducible refine Kd.C_alloc ?_ _) | (with_reducible refine Kd.C_drewN ?_ _) | (with_reducible refine Kd.C_drew ?_))); (case side2 => exact (Kd.R_reads' a5.out).2.1); rintro e w32 ⟨rfl, hb⟩; refine ⟨_, rfl, ?_⟩; replace a5 := yaa (Kd.R_below (upR a5.out) hb); replace a3 := yaa (blk_below (upB a3.out) hb); replace HB := yaa (below_step (by repeat (with_reducible first | exact HB.out | apply yad | apply yab | apply yac | refine yae ?_ (Aside0.out ‹_›))) hb); (try clear hb)))
             replace a5 := yaa (Kd.R_drew a5.out); replace a3 := yaa (blk_drew a3.out); replace HB := yaa (yac HB.out)
             refine start_ (n := 12) (S := fun w' => w'.cell? ⟨a6, 0, none⟩ = some (.slice A0_0 l0_0.length c0_0) ∧ w'.cell? ⟨a6, 1, none⟩ = some (.string a0_1) ∧ w'.cell? ⟨a6, 2, none⟩ = some (.int .i64 a0_2)) (ds := []) q19_0 (by kernel_rfl) rfl rfl ⟨(blk_cell a3.out 0).trans rfl, (blk_cell a3.out 1).trans rfl, (blk_cell a3.out 2).trans rfl⟩ (fun hHeld => ?_); refine with_tabW impl_AskText.tab12 impl_AskText.bits12 (fun HT_ HW_ => ?_)
             generalize w32.drew = w33 at a5 a3 HB hHeld ⊢
             refine pz_ 0 32 q19_1 HT_ (by kernel_rfl) ?_
             refine pz_ 1 33 q19_2 HT_ (by kernel_rfl) ?_
             refine pz_ 2 34 q19_3 HT_ (by kernel_rfl) ?_
             refine pz_ 3 35 q19_4 HT_ (by kernel_rfl) ?_
             refine pz_ 7 39 q19_5 HT_ (by kernel_rfl) ?_
             refine tz_ 4 36 q19_6 HT_ HW_ (by kernel_rfl) hHeld ?_
             refine pz_ 5 37 q19_7 HT_ (by kernel_rfl) ?_
             refine pz_ 6 38 q19_8 HT_ (by kernel_rfl) ?_
             refine tz_ 8 40 q19_9 HT_ HW_ (by kernel_rfl) hHeld ?_
             refine one_ (i := 9) (N := some 41) q19_10 rfl rfl (one_of HT_.out (by kernel_rfl)) (by decide) (fun K hK => ?_)
             refine goes_ Tryd.func54 (by kernel_rfl) rfl #[.int .i64 a0_2] (by rfl) rfl rfl (by (try simp only [List.map_toArray, List.map_cons, List.map_nil]); first | done | rfl | (simp only [List.length_drop, List.length_take]; rfl)) ?_
             (with_reducible refine (strconv_Itoa_54.calls a0_2 d9 _ A29.out ?sideG).mono ?_); (case sideG => exact Glob.belowW HG.out (by repeat (first | (with_reducible first | exact HB.out | apply yad | apply yab | apply yac | refine yae ?_ (Aside0.out ‹_›)) | exact HB.out | exact Below.refl _ _)))
             rintro e w34 ⟨rfl, hb⟩; refine ⟨_, rfl, ?_⟩; have n0_ := yaa (Kd.R_below (upR a5.out) hb); have n1_ := yaa (blk_below (upB a3.out) hb)
             have n2_ := yaa (below_step (by repeat (with_reducible first | exact HB.out | apply yad | apply yab | apply yac | refine yae ?_ (Aside0.out ‹_›))) hb)
             clear a5; clear a3; clear HB; have a5 := n0_; have a3 := n1_; have HB := n2_; clear n0_ n1_ n2_; (try clear hb); (try clear hb2); (try clear hk); (try clear hi)
             refine hK.out _ _ ⟨(blk_cell a3.out 0).trans rfl, (blk_cell a3.out 1).trans rfl, (blk_cell a3.out 2).trans rfl⟩ (fun hHeld => ?_)
             clear hK K
             refine norm_ (a' := ?_) ?_ ?_
             rotate_left
             ·
              show Act.put _ (some 41) _ = _
              simp only [Act.put, List.setIfInBounds_toArray, List.set_cons_zero, List.set_cons_succ, i64_w, i32_w]
              rfl
             refine pz_ 10 42 q19_11 HT_ (by kernel_rfl) ?_
             refine pz_ 11 2 q19_12 HT_ (by kernel_rfl) ?_
             refine done_ (done_of HT_.out (by kernel_rfl)) ?_
             try go_wp2
             go_ret
             exact ⟨by first | rfl | (simp [*, errW_none, errW_some] <;> rfl), by repeat (with_reducible first | exact HB.out | apply yad | apply yab | apply yac | refine yae ?_ (Aside0.out ‹_›))⟩
            ·
             rw [if_neg c30] at H
             exact absurd H (by simp)
           ·
            rw [if_neg c28] at H
            exact absurd H (by simp)
          ·
           rw [if_neg c27] at H
           exact absurd H (by simp)
         ·
          rw [if_neg c26] at H
          exact absurd H (by simp)
        ·
         rw [if_neg c25] at H
         exact absurd H (by simp)
       ·
        rw [if_neg c23] at H
        have g6 : decide (0 < (a9.length : Int)) = false := decide_eq_false c23; have g7 : decide (0 < a9.length) = false := decide_eq_false (by omega); clear c23
        by_cases c35 : 1 + 1 ≤ 9223372036854775807
        ·
         rw [if_pos c35] at H
         have l1 := eq_true c35; have l2 : decide (1 + 1 ≤ 9223372036854775807) = true := decide_eq_true c35
         try have l3 : (9223372036854775807 < 1 + 1) = False := eq_false (Nat.not_lt.2 c35)
         by_cases c36 : (((⟨#[47]⟩ : ByteArray) ++ (⟨#[45]⟩ : ByteArray)) ++ (⟨#[47]⟩ : ByteArray)).size + a0_1.size ≤ 9223372036854775807
         ·
          rw [if_pos c36] at H
          have l4 := eq_true c36; have l5 : decide ((((⟨#[47]⟩ : ByteArray) ++ (⟨#[45]⟩ : ByteArray)) ++ (⟨#[47]⟩ : ByteArray)).size + a0_1.size ≤ 9223372036854775807) = true := decide_eq_true c36
          try have l6 : (9223372036854775807 < (((⟨#[47]⟩ : ByteArray) ++ (⟨#[45]⟩ : ByteArray)) ++ (⟨#[47]⟩ : ByteArray)).size + a0_1.size) = False := eq_false (Nat.not_lt.2 c36)
          try (have c9 := c36; simp only [ByteArray.size_append', ByteArray.size_mk', List.size_toArray, List.length_cons, List.length_nil, Nat.zero_add, Nat.reduceAdd] at c9; replace c9 := eq_false (Nat.not_lt.2 c9))
          by_cases c37 : ((((⟨#[47]⟩ : ByteArray) ++ (⟨#[45]⟩ : ByteArray)) ++ (⟨#[47]⟩ : ByteArray)) ++ a0_1).size + 3 ≤ 9223372036854775807
          ·
           rw [if_pos c37] at H
           have l7 := eq_true c37; have l8 : decide (((((⟨#[47]⟩ : ByteArray) ++ (⟨#[45]⟩ : ByteArray)) ++ (⟨#[47]⟩ : ByteArray)) ++ a0_1).size + 3 ≤ 9223372036854775807) = true := decide_eq_true c37
           try have l9 : (9223372036854775807 < ((((⟨#[47]⟩ : ByteArray) ++ (⟨#[45]⟩ : ByteArray)) ++ (⟨#[47]⟩ : ByteArray)) ++ a0_1).size + 3) = False := eq_false (Nat.not_lt.2 c37)
           try (have d0 := c37; simp only [ByteArray.size_append', ByteArray.size_mk', List.size_toArray, List.length_cons, List.length_nil, Nat.zero_add, Nat.reduceAdd] at d0; replace d0 := eq_false (Nat.not_lt.2 d0))
           obtain ⟨e0, A38, H⟩ := bindA H; (try dsimp only at H)
           by_cases c39 : (((((⟨#[47]⟩ : ByteArray) ++ (⟨#[45]⟩ : ByteArray)) ++ (⟨#[47]⟩ : ByteArray)) ++ a0_1) ++ (⟨#[63, 101, 61]⟩ : ByteArray)).size + e0.size ≤ 9223372036854775807
           ·
            rw [if_pos c39] at H
            have m0 := eq_true c39; have m1 : decide ((((((⟨#[47]⟩ : ByteArray) ++ (⟨#[45]⟩ : ByteArray)) ++ (⟨#[47]⟩ : ByteArray)) ++ a0_1) ++ (⟨#[63, 101, 61]⟩ : ByteArray)).size + e0.size ≤ 9223372036854775807) = true := decide_eq_true c39
            try have m2 : (9223372036854775807 < (((((⟨#[47]⟩ : ByteArray) ++ (⟨#[45]⟩ : ByteArray)) ++ (⟨#[47]⟩ : ByteArray)) ++ a0_1) ++ (⟨#[63, 101, 61]⟩ : ByteArray)).size + e0.size) = False := eq_false (Nat.not_lt.2 c39)
            try (have d1 := c39; simp only [ByteArray.size_append', ByteArray.size_mk', List.size_toArray, List.length_cons, List.length_nil, Nat.zero_add, Nat.reduceAdd] at d1; replace d1 := eq_false (Nat.not_lt.2 d1))
            obtain rfl := Option.some.inj H; obtain ⟨m9, n0, j0⟩ := Kd.R_slice a5.out; subst j0
            try go_wp2
            replace a5 := yaa (Kd.R_drew a5.out); replace a3 := yaa (blk_drew a3.out); replace HB := yaa (yac HB.out)
            refine start_ (n := 12) (S := fun w' => w'.cell? ⟨a6, 0, none⟩ = some (.slice A0_0 l0_0.length c0_0) ∧ w'.cell? ⟨a6, 1, none⟩ = some (.string a0_1) ∧ w'.cell? ⟨a6, 2, none⟩ = some (.int .i64 a0_2)) (ds := []) q19_0 (by kernel_rfl) rfl rfl ⟨(blk_cell a3.out 0).trans rfl, (blk_cell a3.out 1).trans rfl, (blk_cell a3.out 2).trans rfl⟩ (fun hHeld => ?_); refine with_tabW impl_AskText.tab12 impl_AskText.bits12 (fun HT_ HW_ => ?_)
            generalize wr.drew = w41 at a5 a3 HB hHeld ⊢
            refine pz_ 0 32 q19_1 HT_ (by kernel_rfl) ?_
            refine pz_ 1 33 q19_2 HT_ (by kernel_rfl) ?_
            refine pz_ 2 34 q19_3 HT_ (by kernel_rfl) ?_
            refine pz_ 3 35 q19_4 HT_ (by kernel_rfl) ?_
            refine pz_ 7 39 q19_5 HT_ (by kernel_rfl) ?_
            refine tz_ 4 36 q19_6 HT_ HW_ (by kernel_rfl) hHeld ?_
            refine pz_ 5 37 q19_7 HT_ (by kernel_rfl) ?_
            refine pz_ 6 38 q19_8 HT_ (by kernel_rfl) ?_
            refine tz_ 8 40 q19_9 HT_ HW_ (by kernel_rfl) hHeld ?_
            refine one_ (i := 9) (N := some 41) q19_10 rfl rfl (one_of HT_.out (by kernel_rfl)) (by decide) (fun K hK => ?_)
            refine goes_ Tryd.func54 (by kernel_rfl) rfl #[.int .i64 a0_2] (by rfl) rfl rfl (by (try simp only [List.map_toArray, List.map_cons, List.map_nil]); first | done | rfl | (simp only [List.length_drop, List.length_take]; rfl)) ?_
            (with_reducible refine (strconv_Itoa_54.calls a0_2 e0 _ A38.out ?sideG).mono ?_); (case sideG => exact Glob.belowW HG.out (by repeat (first | (with_reducible first | exact HB.out | apply yad | apply yab | apply yac | refine yae ?_ (Aside0.out ‹_›)) | exact HB.out | exact Below.refl _ _)))
            rintro e w42 ⟨rfl, hb⟩; refine ⟨_, rfl, ?_⟩; have n0_ := yaa (Kd.R_below (upR a5.out) hb); have n1_ := yaa (blk_below (upB a3.out) hb)
            have n2_ := yaa (below_step (by repeat (with_reducible first | exact HB.out | apply yad | apply yab | apply yac | refine yae ?_ (Aside0.out ‹_›))) hb)
            clear a5; clear a3; clear HB; have a5 := n0_; have a3 := n1_; have HB := n2_; clear n0_ n1_ n2_; (try clear hb); (try clear hb2); (try clear hk); (try clear hi)
            refine hK.out _ _ ⟨(blk_cell a3.out 0).trans rfl, (blk_cell a3.out 1).trans rfl, (blk_cell a3.out 2).trans rfl⟩ (fun hHeld => ?_)
            clear hK K
            refine norm_ (a' := ?_) ?_ ?_
            rotate_left
            ·
             show Act.put _ (some 41) _ = _
             simp only [Act.put, List.setIfInBounds_toArray, List.set_cons_zero, List.set_cons_succ, i64_w, i32_w]
             rfl
            refine pz_ 10 42 q19_11 HT_ (by kernel_rfl) ?_
            refine pz_ 11 2 q19_12 HT_ (by kernel_rfl) ?_
            refine done_ (done_of HT_.out (by kernel_rfl)) ?_
            try go_wp2
            go_ret
            exact ⟨by first | rfl | (simp [*, errW_none, errW_some] <;> rfl), by repeat (with_reducible first | exact HB.out | apply yad | apply yab | apply yac | refine yae ?_ (Aside0.out ‹_›))⟩
           ·
            rw [if_neg c39] at H
            exact absurd H (by simp)
          ·
           rw [if_neg c37] at H
           exact absurd H (by simp)
         ·
          rw [if_neg c36] at H
          exact absurd H (by simp)
        ·
         rw [if_neg c35] at H
         exact absurd H (by simp)
   ·
    rw [if_neg c5] at H
    exact absurd H (by simp)
  ·
   rw [if_neg c4] at H
   exact absurd H (by simp)
 ·
  replace c3 := Bool.eq_false_iff.mpr c3
  subst c3
  rw [if_neg (show ¬ (false = true) by decide)] at H
  obtain rfl := Option.some.inj H
  go_enter Tryd.func19, Tryd.ntmps19
  go_wp2_with (first | ((with_reducible refine gd_ 1 rfl ?_); refine bx_ 1 rfl #[.slice A0_0 l0_0.length c0_0, .string a0_1, .int .i64 a0_2] 35 ?_; intro a6 hg w43 hbox hb; have a3 := yaa (hbox); have b8 := yaa ((by rw [hg]; exact (below_size (upH HB.out)) : w.heap.size ≤ a6)); replace HB := yaa (below_step (upH HB.out) hb); have g3 := b8; clear hb hbox hg; obtain ⟨h8, h9, i0⟩ := cc3_ a3.out; obtain ⟨i1, i2⟩ := cf2_ a3.out; have i3 := blk_frozen a3.out 2) | ((with_reducible refine gc_ 25 rfl ?_); refine gl_ (some 8) rfl Tryd.func25 #[.agg #[.slice A0_0 l0_0.length c0_0, .string a0_1, .int .i64 a0_2]] ?_; (with_reducible refine (impl_AskOk.calls k _ _ l0_0 a0_1 a0_2 false _ ?side1 ?side2 A2.out).mono ?_); (case side1 => repeat (first | exact (Kd.C_below HR0_0.out HB.out) | (with_reducible refine Kd.C_alloc ?_ _) | (with_reducible refine Kd.C_drewN ?_ _) | (with_reducible refine Kd.C_drew ?_))); (case side2 => exact HC0_0.out); rintro e w45 ⟨rfl, hb⟩; refine ⟨_, rfl, ?_⟩; replace a3 := yaa (blk_below (upB a3.out) hb); replace HB := yaa (below_step (by repeat (with_reducible first | exact HB.out | apply yad | apply yab | apply yac | refine yae ?_ (Aside0.out ‹_›))) hb); (try clear hb)))
  go_ret
  exact ⟨by first | rfl | (simp [*, errW_none, errW_some] <;> rfl), by repeat (with_reducible first | exact HB.out | apply yad | apply yab | apply yac | refine yae ?_ (Aside0.out ‹_›))⟩
end
end Go.Proofs.YtiihhjfdgojkeaaDoor.X
namespace Go.Proofs.YtiihhjfdgojkeaaDoor.X
open Go.RowKit Go.Proofs.YtiihhjfdgojkeaaDoorW.PrintWords Go.Proofs.YtiihhjfdgojkeaaDoorW.PrintLast Go.Proofs.YtiihhjfdgojkeaaDoorW.PrintMore
attribute [local go_sem] max2_int min2_int max_two min_two max_three min_three max_four min_four
attribute [-go_sem] Go.ByteArray.size_append'
attribute [-simp] ByteArray.size_append
set_option linter.unusedVariables false
set_option linter.unusedSimpArgs false

open Go.Proofs.YtiihhjfdgojkeaaDoorW.PrintWords.Aside0 renaming mk → yaa
open Go.Proofs.YtiihhjfdgojkeaaDoorW.PrintWords renaming pw_below_drewN → yab, below_alloc → yac, below_drew1 → yad, below_set → yae
open Go.Proofs.YtiihhjfdgojkeaaDoorW.PrintWords.Kd renaming R_reads' → yaf

/-! ### laws_FnAskOps: function 5 -/
def laws_FnAskOps.l0 : Nat → ByteArray → ByteArray → Int → List (S25) → ByteArray → Int → Option (Bool)
 | 0, _, _, _, _, _, _ => none
 | k + 1, x4, x5, x6, x107000, x107001, x107002 => if x6 < (x107000.length : Int) then (if x6 > 0 then (if x5.size + 1 ≤ 9223372036854775807 then (if 0 ≤ x6 then ((impl_OpText.f k ((rd_T25 x107000 x6).f0) ((rd_T25 x107000 x6).f1) ((rd_T25 x107000 x6).f2) ((rd_T25 x107000 x6).f3) ((rd_T25 x107000 x6).f4)).bind fun t112 => (if (x5 ++ (⟨#[44]⟩ : ByteArray)).size + t112.size ≤ 9223372036854775807 then (laws_FnAskOps.l0 k x4 ((x5 ++ (⟨#[44]⟩ : ByteArray)) ++ t112) (wrap64 (x6 + 1)) x107000 x107001 x107002) else (none))) else (none)) else (none)) else (if 0 ≤ x6 then ((impl_OpText.f k ((rd_T25 x107000 x6).f0) ((rd_T25 x107000 x6).f1) ((rd_T25 x107000 x6).f2) ((rd_T25 x107000 x6).f3) ((rd_T25 x107000 x6).f4)).bind fun t114 => (if x5.size + t114.size ≤ 9223372036854775807 then (laws_FnAskOps.l0 k x4 (x5 ++ t114) (wrap64 (x6 + 1)) x107000 x107001 x107002) else (none))) else (none))) else (if (x107000.length : Int) = 0 then (if x5.size + 1 ≤ 9223372036854775807 then (if (x5 ++ (⟨#[45]⟩ : ByteArray)).size + 1 ≤ 9223372036854775807 then (if ((x5 ++ (⟨#[45]⟩ : ByteArray)) ++ (⟨#[47]⟩ : ByteArray)).size + x107001.size ≤ 9223372036854775807 then (if (((x5 ++ (⟨#[45]⟩ : ByteArray)) ++ (⟨#[47]⟩ : ByteArray)) ++ x107001).size + 3 ≤ 9223372036854775807 then (if (x4.size : Int) > (((((x5 ++ (⟨#[45]⟩ : ByteArray)) ++ (⟨#[47]⟩ : ByteArray)) ++ x107001) ++ (⟨#[63, 101, 61]⟩ : ByteArray)).size : Int) then (if 0 ≤ (((((x5 ++ (⟨#[45]⟩ : ByteArray)) ++ (⟨#[47]⟩ : ByteArray)) ++ x107001) ++ (⟨#[63, 101, 61]⟩ : ByteArray)).size : Int) then (if (((((x5 ++ (⟨#[45]⟩ : ByteArray)) ++ (⟨#[47]⟩ : ByteArray)) ++ x107001) ++ (⟨#[63, 101, 61]⟩ : ByteArray)).size : Int) ≤ (x4.size : Int) then (if (x4.extract 0 ((((((x5 ++ (⟨#[45]⟩ : ByteArray)) ++ (⟨#[47]⟩ : ByteArray)) ++ x107001) ++ (⟨#[63, 101, 61]⟩ : ByteArray)).size : Int) : Int).toNat).toList = ((((x5 ++ (⟨#[45]⟩ : ByteArray)) ++ (⟨#[47]⟩ : ByteArray)) ++ x107001) ++ (⟨#[63, 101, 61]⟩ : ByteArray)).toList then (some (decide ((x4.size : Int) ≤ (wrap64 ((((((x5 ++ (⟨#[45]⟩ : ByteArray)) ++ (⟨#[47]⟩ : ByteArray)) ++ x107001) ++ (⟨#[63, 101, 61]⟩ : ByteArray)).size : Int) + 4))))) else (some false)) else (none)) else (none)) else (some false)) else (none)) else (none)) else (none)) else (none)) else (if x5.size + 1 ≤ 9223372036854775807 then (if (x5 ++ (⟨#[47]⟩ : ByteArray)).size + x107001.size ≤ 9223372036854775807 then (if ((x5 ++ (⟨#[47]⟩ : ByteArray)) ++ x107001).size + 3 ≤ 9223372036854775807 then (if (x4.size : Int) > ((((x5 ++ (⟨#[47]⟩ : ByteArray)) ++ x107001) ++ (⟨#[63, 101, 61]⟩ : ByteArray)).size : Int) then (if 0 ≤ ((((x5 ++ (⟨#[47]⟩ : ByteArray)) ++ x107001) ++ (⟨#[63, 101, 61]⟩ : ByteArray)).size : Int) then (if ((((x5 ++ (⟨#[47]⟩ : ByteArray)) ++ x107001) ++ (⟨#[63, 101, 61]⟩ : ByteArray)).size : Int) ≤ (x4.size : Int) then (if (x4.extract 0 (((((x5 ++ (⟨#[47]⟩ : ByteArray)) ++ x107001) ++ (⟨#[63, 101, 61]⟩ : ByteArray)).size : Int) : Int).toNat).toList = (((x5 ++ (⟨#[47]⟩ : ByteArray)) ++ x107001) ++ (⟨#[63, 101, 61]⟩ : ByteArray)).toList then (some (decide ((x4.size : Int) ≤ (wrap64 (((((x5 ++ (⟨#[47]⟩ : ByteArray)) ++ x107001) ++ (⟨#[63, 101, 61]⟩ : ByteArray)).size : Int) + 4))))) else (some false)) else (none)) else (none)) else (some false)) else (none)) else (none)) else (none)))
def laws_FnAskOps.f (k : Nat) (l0 : List Int) : Option (Bool) := if (l0.length : Int) > 1048576 then (some true) else ((spec_DrawAskText.f k l0).bind fun bt101 => ((impl_AskText.f k bt101.1 bt101.2.1 bt101.2.2).bind fun t107 => ((spec_AskText.f k bt101.1 bt101.2.1 bt101.2.2).bind fun t108 => (if t107.toList = t108.toList then ((spec_AskOk.f k bt101.1 bt101.2.1 bt101.2.2).bind fun t109 => (if t109 = true then (laws_FnAskOps.l0 k t107 (⟨#[47]⟩ : ByteArray) 0 bt101.1 bt101.2.1 bt101.2.2) else (if t107.toList = ([] : List UInt8) then ((laws_eaOk.f).bind fun t110 => (some t110)) else (some false)))) else (some false)))))
set_option maxHeartbeats 8000000 in
set_option maxRecDepth 100000 in
theorem laws_FnAskOps.calls (k : Nat) (A0 : Option Addr) (c0 : Nat) (l0 : List Int) (r : Bool) (w : World) (hr0 : Kd.C (Kd.int .u8) w A0 l0.length l0) (hc0 : l0.length ≤ c0) (h : laws_FnAskOps.f k l0 = some r) (hrt : r = true) (hG : Glob w) :
  Calls Tryd.prog 5 #[.slice A0 l0.length c0] w fun e w' => e = .returned (.bool r) ∧ Below w.heap.size w w' := by
 have HG := yaa hG; clear hG; have hu35 := Tryd.underlying35; have hu25 := Tryd.underlying25; have HR0 := yaa hr0; have HC0 := yaa hc0; clear hr0 hc0; have HB := yaa (Below.refl w.heap.size w); have H : (if (l0.length : Int) > 1048576 then (some true) else ((spec_DrawAskText.f k l0).bind fun b1 => ((impl_AskText.f k b1.1 b1.2.1 b1.2.2).bind fun a9 => ((spec_AskText.f k b1.1 b1.2.1 b1.2.2).bind fun b7 => (if a9.toList = b7.toList then ((spec_AskOk.f k b1.1 b1.2.1 b1.2.2).bind fun f7 => (if f7 = true then (laws_FnAskOps.l0 k a9 (⟨#[47]⟩ : ByteArray) 0 b1.1 b1.2.1 b1.2.2) else (if a9.toList = ([] : List UInt8) then ((laws_eaOk.f).bind fun f8 => (some f8)) else (some false)))) else (some false)))))) = some r := h; clear h
 by_cases c2 : (l0.length : Int) > 1048576
 ·
  rw [if_pos c2] at H
  have g0 : decide (1048576 < (l0.length : Int)) = true := decide_eq_true c2; have g1 : decide (1048576 < l0.length) = true := decide_eq_true (by omega); clear c2; obtain rfl := Option.some.inj H
  go_enter Tryd.func5, Tryd.ntmps5
  go_wp2
  go_ret
  exact ⟨by first | rfl | (simp [*, errW_none, errW_some] <;> rfl), upH HB.out⟩
 ·
  rw [if_neg c2] at H
  have g0 : decide (1048576 < (l0.length : Int)) = false := decide_eq_false c2; have g1 : decide (1048576 < l0.length) = false := decide_eq_false (by omega); clear c2; obtain ⟨⟨a3, a2, b0⟩, A3, H⟩ := bindA H; (try dsimp only at H); obtain ⟨a9, A4, H⟩ := bindA H; (try dsimp only at H); obtain ⟨b7, A5, H⟩ := bindA H; (try dsimp only at H)
  by_cases c6 : a9.toList = b7.toList
  ·
   rw [if_pos c6] at H
   have g2 := beq_iff_eq.mpr c6; have g3 := bne_eq_false_iff_eq.mpr c6; clear c6; obtain ⟨f7, A7, H⟩ := bindA H; (try dsimp only at H)
   by_cases c8 : f7 = true
   ·
    subst c8
    rw [if_pos rfl] at H
    have H' := yaa H; clear H
    go_enter Tryd.func5, Tryd.ntmps5
    go_wp2_with (first | ((with_reducible refine gc_ 21 rfl ?_); refine gl_ (some 11) rfl Tryd.func21 #[.slice A0 l0.length c0] ?_; (with_reducible refine (spec_DrawAskText.calls k _ _ l0 a3 a2 b0 _ ?side1 ?side2 A3.out).mono ?_); (case side1 => repeat (first | exact HR0.out | (with_reducible refine Kd.C_alloc ?_ _) | (with_reducible refine Kd.C_drewN ?_ _) | (with_reducible refine Kd.C_drew ?_))); (case side2 => exact HC0.out); rintro e w9 ⟨n6, rfl, ho0, hb⟩; refine ⟨_, rfl, ?_⟩; have a5 := yaa (Kd.R_lower ho0 (below_size (upH HB.out))); replace HB := yaa (below_step (upH HB.out) hb); (try clear hb ho0)) | ((with_reducible refine gd_ 3 rfl ?_); (try (refine gate_guard (by rfl) ?_; dsimp only)); refine bx_ 3 rfl #[.slice none 0 0, .string (⟨#[]⟩ : ByteArray), .int .i64 0] 35 ?_; intro a8 hg w10 hbox hb; replace a5 := yaa (Kd.R_below (upR a5.out) hb); have a1 := yaa (hbox); have b8 := yaa ((by rw [hg]; exact (below_size (upH HB.out)) : w.heap.size ≤ a8)); replace HB := yaa (below_step (upH HB.out) hb); have g4 := b8; clear hb hbox hg; obtain ⟨b3, b2, n7⟩ := Kd.R_slice a5.out; subst n7; obtain ⟨d4, d5, d6⟩ := cc3_ a1.out; obtain ⟨d7, d8⟩ := cf2_ a1.out; have d9 := blk_frozen a1.out 2) | ((with_reducible refine gc_ 19 rfl ?_); refine gl_ (some 13) rfl Tryd.func19 #[.agg #[.slice b3 a3.length b2, .string a2, .int .i64 b0]] ?_; (with_reducible refine (impl_AskText.calls k _ _ a3 a2 b0 a9 _ ?side1 ?side2 A4.out ?sideG).mono ?_); (case sideG => exact Glob.belowW HG.out (by repeat (first | (with_reducible first | exact HB.out | apply yac | apply yab | apply yad | refine yae ?_ (Aside0.out ‹_›)) | exact HB.out | exact Below.refl _ _))); (case side1 => refine (yaf (e := 25) (base := w.heap.size) (ok := fun k_ => True) (n := a3.length) (c := b2) ?_).2.2; exact (by (with_reducible repeat (first | apply Kd.R_alloc | apply Kd.R_drewN | apply Kd.R_drew)); exact (Kd.R_mono (Kd.R_far (p := ⟨a8, 2, none⟩) (Kd.R_far (p := ⟨a8, 1, none⟩) (Kd.R_far (p := ⟨a8, 0, none⟩) (Kd.R_types a5.out a1.out (by decide)) (fun _ hk => hk.2) (.slice b3 a3.length b2)) (fun _ hk => hk.2) (.string a2)) (fun _ hk => hk.2) (.int .i64 b0)) (fun _ h_ => h_.1)))); (case side2 => exact (yaf a5.out).2.1); rintro e w13 ⟨rfl, hb⟩; refine ⟨_, rfl, ?_⟩; replace a5 := yaa (Kd.R_below (by (with_reducible repeat (first | apply Kd.R_alloc | apply Kd.R_drewN | apply Kd.R_drew)); exact (Kd.R_mono (Kd.R_far (p := ⟨a8, 2, none⟩) (Kd.R_far (p := ⟨a8, 1, none⟩) (Kd.R_far (p := ⟨a8, 0, none⟩) (Kd.R_types a5.out a1.out (by decide)) (fun _ hk => hk.2) (.slice b3 a3.length b2)) (fun _ hk => hk.2) (.string a2)) (fun _ hk => hk.2) (.int .i64 b0)) (fun _ h_ => h_.1))) hb); replace a1 := yaa (blk_below (g := a8) (o := .cells #[.slice b3 a3.length b2, .string a2, .int .i64 b0] 35 (0, 0)) (by (repeat refine oneB ?_); refine blk_put (cs := #[.slice b3 a3.length b2, .string a2, .int .i64 0]) ?_ 2 _ rfl; refine blk_put (cs := #[.slice b3 a3.length b2, .string (⟨#[]⟩ : ByteArray), .int .i64 0]) ?_ 1 _ rfl; refine blk_put (cs := #[.slice none 0 0, .string (⟨#[]⟩ : ByteArray), .int .i64 0]) ?_ 0 _ rfl; exact upB a1.out) hb); replace HB := yaa (below_step (by repeat (with_reducible first | exact HB.out | apply yac | apply yab | apply yad | refine yae ?_ (Aside0.out ‹_›))) hb); (try clear hb); obtain ⟨e0, e1, e2⟩ := cc3_ a1.out; obtain ⟨e3, e4⟩ := cf2_ a1.out; have e5 := blk_frozen a1.out 2) | ((with_reducible refine gc_ 17 rfl ?_); refine gl_ (some 16) rfl Tryd.func17 #[.agg #[.slice b3 a3.length b2, .string a2, .int .i64 b0]] ?_; (with_reducible refine (spec_AskText.calls k _ _ a3 a2 b0 b7 _ ?side1 ?side2 A5.out).mono ?_); (case side1 => repeat (first | exact (yaf a5.out).2.2 | (with_reducible refine Kd.C_alloc ?_ _) | (with_reducible refine Kd.C_drewN ?_ _) | (with_reducible refine Kd.C_drew ?_))); (case side2 => exact (yaf a5.out).2.1); rintro e w15 ⟨rfl, hb⟩; refine ⟨_, rfl, ?_⟩; replace a5 := yaa (Kd.R_below (upR a5.out) hb); replace a1 := yaa (blk_below (upB a1.out) hb); replace HB := yaa (below_step (by repeat (with_reducible first | exact HB.out | apply yac | apply yab | apply yad | refine yae ?_ (Aside0.out ‹_›))) hb); (try clear hb); obtain ⟨e6, e7, e8⟩ := cc3_ a1.out; obtain ⟨e9, f5⟩ := cf2_ a1.out; have f6 := blk_frozen a1.out 2) | ((with_reducible refine gc_ 22 rfl ?_); refine gl_ (some 19) rfl Tryd.func22 #[.agg #[.slice b3 a3.length b2, .string a2, .int .i64 b0]] ?_; (with_reducible refine (spec_AskOk.calls k _ _ a3 a2 b0 true _ ?side1 ?side2 A7.out).mono ?_); (case side1 => repeat (first | exact (yaf a5.out).2.2 | (with_reducible refine Kd.C_alloc ?_ _) | (with_reducible refine Kd.C_drewN ?_ _) | (with_reducible refine Kd.C_drew ?_))); (case side2 => exact (yaf a5.out).2.1); rintro e w17 ⟨rfl, hb⟩; refine ⟨_, rfl, ?_⟩; replace a5 := yaa (Kd.R_below (upR a5.out) hb); replace a1 := yaa (blk_below (upB a1.out) hb); replace HB := yaa (below_step (by repeat (with_reducible first | exact HB.out | apply yac | apply yab | apply yad | refine yae ?_ (Aside0.out ‹_›))) hb); (try clear hb)))
    (try simp only [Act.put, List.setIfInBounds_toArray, List.set_cons_zero, List.set_cons_succ])
    go_loopg [5, 6] k (fun kq v5 v6 w' => ∃ (a4 : ByteArray) (a6 : Int), v5 = .string a4 ∧ v6 = .int .i64 a6 ∧ Aside0 (laws_FnAskOps.l0 kq a9 a4 a6 a3 a2 b0 = some r) ∧ Aside0 (kq ≤ k) ∧ Aside0 (Kd.R k25 25 w' w.heap.size (fun _ => True) (.slice b3 a3.length b2) a3) ∧ Aside0 (w'.heap[a8]? = some (.cells #[(.slice b3 a3.length b2), .string a2, .int .i64 b0] 35 (0, 0))) ∧ Aside0 (Below w.heap.size w w'))
    case atStart => exact ⟨((⟨#[47]⟩ : ByteArray)), (0), (by first | rfl | (simp; done) | (simp [*]; done)), (by first | rfl | (simp; done) | (simp [*]; done)), H', ⟨Nat.le_refl _⟩, ⟨by first | exact a5.out | exact upR a5.out⟩, ⟨by exact upB a1.out⟩, ⟨by repeat (with_reducible first | exact HB.out | apply yac | apply yab | apply yad | refine yae ?_ (Aside0.out ‹_›))⟩⟩
    case round =>
     clear H'; (try clear c1); (try clear c2); (try clear g0); (try clear g1); (try clear p2); (try clear c5); (try clear c6); (try clear g2); (try clear g3); (try clear c8); (try clear c17); (try clear d4); (try clear d5); (try clear d6); (try clear e0); (try clear e1); (try clear e2); (try clear e6); (try clear e7); (try clear e8); (try clear d7); (try clear d8); (try clear d9); (try clear e3); (try clear e4); (try clear e5); (try clear e9); (try clear f5); (try clear f6); obtain ⟨a4, a6, rfl, rfl, HA, HK1, a7, a1, HB⟩ := hrel
     cases gk with
     | zero => exact absurd HA.out (by simp [laws_FnAskOps.l0])
     | succ k1 =>
      have H := HA.out; clear HA
      simp only [laws_FnAskOps.l0] at H
      by_cases c18 : a6 < (a3.length : Int)
      ·
       rw [if_pos c18] at H
       have g5 : decide (a6 < (a3.length : Int)) = true := decide_eq_true c18; clear c18
       by_cases c19 : a6 > 0
       ·
        rw [if_pos c19] at H
        have g6 : decide (0 < a6) = true := decide_eq_true c19; clear c19
        by_cases c20 : a4.size + 1 ≤ 9223372036854775807
        ·
         rw [if_pos c20] at H
         have o1 := eq_true c20; have o2 : decide (a4.size + 1 ≤ 9223372036854775807) = true := decide_eq_true c20
         try have o3 : (9223372036854775807 < a4.size + 1) = False := eq_false (Nat.not_lt.2 c20)
         by_cases c21 : 0 ≤ a6
         ·
          rw [if_pos c21] at H
          replace c21 := decide_eq_true c21; obtain ⟨c3, A22, H⟩ := bindA H; (try dsimp only at H)
          by_cases c23 : (a4 ++ (⟨#[44]⟩ : ByteArray)).size + c3.size ≤ 9223372036854775807
          ·
           rw [if_pos c23] at H
           have o4 := eq_true c23; have o5 : decide ((a4 ++ (⟨#[44]⟩ : ByteArray)).size + c3.size ≤ 9223372036854775807) = true := decide_eq_true c23
           try have o6 : (9223372036854775807 < (a4 ++ (⟨#[44]⟩ : ByteArray)).size + c3.size) = False := eq_false (Nat.not_lt.2 c23)
           try (have c4 := c23; simp only [ByteArray.size_append', ByteArray.size_mk', List.size_toArray, List.length_cons, List.length_nil, Nat.zero_add, Nat.reduceAdd] at c4; replace c4 := eq_false (Nat.not_lt.2 c4))
           have H' := yaa H; clear H; obtain ⟨i2, i3, i4⟩ := cc3_ a1.out; obtain ⟨i5, i6, i7⟩ := cf3_ a1.out; have p111 : 0 ≤ (a6 : Int) := of_decide_eq_true (by assumption); have q111 : a6 < (a3.length : Int) := of_decide_eq_true (by assumption); obtain ⟨ad111, n8, i8, i9, j0, j1, j2⟩ := at_T25 (yaf a7.out).2.2 a6 p111 q111
           cases n8
           replace p111 := eq_true p111; replace q111 := eq_true q111
           go_wp2_with (first | ((with_reducible refine gc_ 15 rfl ?_); refine gl_ (some 43) rfl Tryd.func15 #[.agg #[.int .i64 ((rd_T25 a3 a6).f0), .int .i64 ((rd_T25 a3 a6).f1), .int .i64 ((rd_T25 a3 a6).f2), .int .i64 ((rd_T25 a3 a6).f3), .int .i64 ((rd_T25 a3 a6).f4)]] ?_; (with_reducible refine (impl_OpText.calls k1 ((rd_T25 a3 a6).f0) ((rd_T25 a3 a6).f1) ((rd_T25 a3 a6).f2) ((rd_T25 a3 a6).f3) ((rd_T25 a3 a6).f4) c3 _ A22.out ?sideG).mono ?_); (case sideG => exact Glob.belowW HG.out (by repeat (first | (with_reducible first | exact HB.out | apply yac | apply yab | apply yad | refine yae ?_ (Aside0.out ‹_›)) | exact HB.out | exact Below.refl _ _))); rintro e w25 ⟨rfl, hb⟩; refine ⟨_, rfl, ?_⟩; replace a7 := yaa (Kd.R_below (upR a7.out) hb); replace a1 := yaa (blk_below (upB a1.out) hb); replace HB := yaa (below_step (by repeat (with_reducible first | exact HB.out | apply yac | apply yab | apply yad | refine yae ?_ (Aside0.out ‹_›))) hb); (try clear hb)))
           go_roundg k1
           case measure => have := HK1.out; omega
           case rel => exact ⟨((a4 ++ (⟨#[44]⟩ : ByteArray)) ++ c3), (wrap64 (a6 + 1)), (by first | rfl | (simp; done) | (simp [*]; done)), (by first | rfl | (simp; done) | (simp [*]; done)), H', ⟨by have := HK1.out; omega⟩, ⟨by first | exact a7.out | exact upR a7.out⟩, ⟨by exact upB a1.out⟩, ⟨by repeat (with_reducible first | exact HB.out | apply yac | apply yab | apply yad | refine yae ?_ (Aside0.out ‹_›))⟩⟩
          ·
           rw [if_neg c23] at H
           exact absurd H (by simp)
         ·
          rw [if_neg c21] at H
          exact absurd H (by simp)
        ·
         rw [if_neg c20] at H
         exact absurd H (by simp)
       ·
        rw [if_neg c19] at H
        have g6 : decide (0 < a6) = false := decide_eq_false c19; clear c19
        by_cases c26 : 0 ≤ a6
        ·
         rw [if_pos c26] at H
         replace c26 := decide_eq_true c26; obtain ⟨c7, A27, H⟩ := bindA H; (try dsimp only at H)
         by_cases c28 : a4.size + c7.size ≤ 9223372036854775807
         ·
          rw [if_pos c28] at H
          have o7 := eq_true c28; have o8 : decide (a4.size + c7.size ≤ 9223372036854775807) = true := decide_eq_true c28
          try have o9 : (9223372036854775807 < a4.size + c7.size) = False := eq_false (Nat.not_lt.2 c28)
          have H' := yaa H; clear H; obtain ⟨j3, j4, j5⟩ := cc3_ a1.out; obtain ⟨j6, j7, j8⟩ := cf3_ a1.out; have p113 : 0 ≤ (a6 : Int) := of_decide_eq_true (by assumption); have q113 : a6 < (a3.length : Int) := of_decide_eq_true (by assumption); obtain ⟨ad113, n9, j9, k0, k2, k3, k4⟩ := at_T25 (yaf a7.out).2.2 a6 p113 q113
          cases n9
          replace p113 := eq_true p113; replace q113 := eq_true q113
          go_wp2_with (first | ((with_reducible refine gc_ 15 rfl ?_); refine gl_ (some 43) rfl Tryd.func15 #[.agg #[.int .i64 ((rd_T25 a3 a6).f0), .int .i64 ((rd_T25 a3 a6).f1), .int .i64 ((rd_T25 a3 a6).f2), .int .i64 ((rd_T25 a3 a6).f3), .int .i64 ((rd_T25 a3 a6).f4)]] ?_; (with_reducible refine (impl_OpText.calls k1 ((rd_T25 a3 a6).f0) ((rd_T25 a3 a6).f1) ((rd_T25 a3 a6).f2) ((rd_T25 a3 a6).f3) ((rd_T25 a3 a6).f4) c7 _ A27.out ?sideG).mono ?_); (case sideG => exact Glob.belowW HG.out (by repeat (first | (with_reducible first | exact HB.out | apply yac | apply yab | apply yad | refine yae ?_ (Aside0.out ‹_›)) | exact HB.out | exact Below.refl _ _))); rintro e w30 ⟨rfl, hb⟩; refine ⟨_, rfl, ?_⟩; replace a7 := yaa (Kd.R_below (upR a7.out) hb); replace a1 := yaa (blk_below (upB a1.out) hb); replace HB := yaa (below_step (by repeat (with_reducible first | exact HB.out | apply yac | apply yab | apply yad | refine yae ?_ (Aside0.out ‹_›))) hb); (try clear hb)))
          go_roundg k1
          case measure => have := HK1.out; omega
          case rel => exact ⟨(a4 ++ c7), (wrap64 (a6 + 1)), (by first | rfl | (simp; done) | (simp [*]; done)), (by first | rfl | (simp; done) | (simp [*]; done)), H', ⟨by have := HK1.out; omega⟩, ⟨by first | exact a7.out | exact upR a7.out⟩, ⟨by exact upB a1.out⟩, ⟨by repeat (with_reducible first | exact HB.out | apply yac | apply yab | apply yad | refine yae ?_ (Aside0.out ‹_›))⟩⟩
         ·
          rw [if_neg c28] at H
          exact absurd H (by simp)
        ·
         rw [if_neg c26] at H
         exact absurd H (by simp)
      ·
       rw [if_neg c18] at H
       have g5 : decide (a6 < (a3.length : Int)) = false := decide_eq_false c18; clear c18
       by_cases c31 : (a3.length : Int) = 0
       ·
        rw [if_pos c31] at H
        have g7 := beq_iff_eq.mpr c31; have g8 := bne_eq_false_iff_eq.mpr c31; clear c31
        by_cases c32 : a4.size + 1 ≤ 9223372036854775807
        ·
         rw [if_pos c32] at H
         have p0 := eq_true c32; have p1 : decide (a4.size + 1 ≤ 9223372036854775807) = true := decide_eq_true c32
         try have p3 : (9223372036854775807 < a4.size + 1) = False := eq_false (Nat.not_lt.2 c32)
         by_cases c33 : (a4 ++ (⟨#[45]⟩ : ByteArray)).size + 1 ≤ 9223372036854775807
         ·
          rw [if_pos c33] at H
          have p4 := eq_true c33; have p5 : decide ((a4 ++ (⟨#[45]⟩ : ByteArray)).size + 1 ≤ 9223372036854775807) = true := decide_eq_true c33
          try have p6 : (9223372036854775807 < (a4 ++ (⟨#[45]⟩ : ByteArray)).size + 1) = False := eq_false (Nat.not_lt.2 c33)
          try (have c9 := c33; simp only [ByteArray.size_append', ByteArray.size_mk', List.size_toArray, List.length_cons, List.length_nil, Nat.zero_add, Nat.reduceAdd] at c9; replace c9 := eq_false (Nat.not_lt.2 c9))
          by_cases c34 : ((a4 ++ (⟨#[45]⟩ : ByteArray)) ++ (⟨#[47]⟩ : ByteArray)).size + a2.size ≤ 9223372036854775807
          ·
           rw [if_pos c34] at H
           have p7 := eq_true c34; have p8 : decide (((a4 ++ (⟨#[45]⟩ : ByteArray)) ++ (⟨#[47]⟩ : ByteArray)).size + a2.size ≤ 9223372036854775807) = true := decide_eq_true c34
           try have p9 : (9223372036854775807 < ((a4 ++ (⟨#[45]⟩ : ByteArray)) ++ (⟨#[47]⟩ : ByteArray)).size + a2.size) = False := eq_false (Nat.not_lt.2 c34)
           try (have d0 := c34; simp only [ByteArray.size_append', ByteArray.size_mk', List.size_toArray, List.length_cons, List.length_nil, Nat.zero_add, Nat.reduceAdd] at d0; replace d0 := eq_false (Nat.not_lt.2 d0))
           by_cases c35 : (((a4 ++ (⟨#[45]⟩ : ByteArray)) ++ (⟨#[47]⟩ : ByteArray)) ++ a2).size + 3 ≤ 9223372036854775807
           ·
            rw [if_pos c35] at H
            have q0 := eq_true c35; have q1 : decide ((((a4 ++ (⟨#[45]⟩ : ByteArray)) ++ (⟨#[47]⟩ : ByteArray)) ++ a2).size + 3 ≤ 9223372036854775807) = true := decide_eq_true c35
            try have q2 : (9223372036854775807 < (((a4 ++ (⟨#[45]⟩ : ByteArray)) ++ (⟨#[47]⟩ : ByteArray)) ++ a2).size + 3) = False := eq_false (Nat.not_lt.2 c35)
            try (have d1 := c35; simp only [ByteArray.size_append', ByteArray.size_mk', List.size_toArray, List.length_cons, List.length_nil, Nat.zero_add, Nat.reduceAdd] at d1; replace d1 := eq_false (Nat.not_lt.2 d1))
            by_cases c36 : (a9.size : Int) > (((((a4 ++ (⟨#[45]⟩ : ByteArray)) ++ (⟨#[47]⟩ : ByteArray)) ++ a2) ++ (⟨#[63, 101, 61]⟩ : ByteArray)).size : Int)
            ·
             rw [if_pos c36] at H
             have g9 : decide ((((((a4 ++ (⟨#[45]⟩ : ByteArray)) ++ (⟨#[47]⟩ : ByteArray)) ++ a2) ++ (⟨#[63, 101, 61]⟩ : ByteArray)).size : Int) < (a9.size : Int)) = true := decide_eq_true c36; have h0 : decide (((((a4 ++ (⟨#[45]⟩ : ByteArray)) ++ (⟨#[47]⟩ : ByteArray)) ++ a2) ++ (⟨#[63, 101, 61]⟩ : ByteArray)).size < a9.size) = true := decide_eq_true (Int.ofNat_lt.mp c36); clear c36
             by_cases c37 : 0 ≤ (((((a4 ++ (⟨#[45]⟩ : ByteArray)) ++ (⟨#[47]⟩ : ByteArray)) ++ a2) ++ (⟨#[63, 101, 61]⟩ : ByteArray)).size : Int)
             ·
              rw [if_pos c37] at H
              have q3 := eq_true c37; have q4 : decide (0 ≤ (((((a4 ++ (⟨#[45]⟩ : ByteArray)) ++ (⟨#[47]⟩ : ByteArray)) ++ a2) ++ (⟨#[63, 101, 61]⟩ : ByteArray)).size : Int)) = true := decide_eq_true c37
              by_cases c38 : (((((a4 ++ (⟨#[45]⟩ : ByteArray)) ++ (⟨#[47]⟩ : ByteArray)) ++ a2) ++ (⟨#[63, 101, 61]⟩ : ByteArray)).size : Int) ≤ (a9.size : Int)
              ·
               rw [if_pos c38] at H
               have q5 := eq_true c38; have q6 : decide ((((((a4 ++ (⟨#[45]⟩ : ByteArray)) ++ (⟨#[47]⟩ : ByteArray)) ++ a2) ++ (⟨#[63, 101, 61]⟩ : ByteArray)).size : Int) ≤ (a9.size : Int)) = true := decide_eq_true c38
               by_cases c39 : (a9.extract 0 ((((((a4 ++ (⟨#[45]⟩ : ByteArray)) ++ (⟨#[47]⟩ : ByteArray)) ++ a2) ++ (⟨#[63, 101, 61]⟩ : ByteArray)).size : Int) : Int).toNat).toList = ((((a4 ++ (⟨#[45]⟩ : ByteArray)) ++ (⟨#[47]⟩ : ByteArray)) ++ a2) ++ (⟨#[63, 101, 61]⟩ : ByteArray)).toList
               ·
                rw [if_pos c39] at H
                have h2 := beq_iff_eq.mpr c39; have h3 := bne_eq_false_iff_eq.mpr c39
                try (have h4 := c39; simp only [Int.toNat_natCast] at h4)
                clear c39; obtain rfl := Option.some.inj H; obtain ⟨k5, k6, k7⟩ := cc3_ a1.out; obtain ⟨k8, k9, l1⟩ := cf3_ a1.out
                go_wp2
                go_ret
                exact ⟨by first | rfl | (simp [*, errW_none, errW_some] <;> rfl), by repeat (with_reducible first | exact HB.out | apply yac | apply yab | apply yad | refine yae ?_ (Aside0.out ‹_›))⟩
               ·
                rw [if_neg c39] at H
                have h2 := beq_eq_false_iff_ne.mpr c39; have h3 := bne_iff_ne.mpr c39
                rw [hrt] at H
                exact absurd H (by simp)
              ·
               rw [if_neg c38] at H
               exact absurd H (by simp)
             ·
              rw [if_neg c37] at H
              exact absurd H (by simp)
            ·
             rw [if_neg c36] at H
             have g9 : decide ((((((a4 ++ (⟨#[45]⟩ : ByteArray)) ++ (⟨#[47]⟩ : ByteArray)) ++ a2) ++ (⟨#[63, 101, 61]⟩ : ByteArray)).size : Int) < (a9.size : Int)) = false := decide_eq_false c36; have h0 : decide (((((a4 ++ (⟨#[45]⟩ : ByteArray)) ++ (⟨#[47]⟩ : ByteArray)) ++ a2) ++ (⟨#[63, 101, 61]⟩ : ByteArray)).size < a9.size) = false := decide_eq_false (fun h => c36 (Int.ofNat_lt.mpr h)); clear c36
             rw [hrt] at H
             exact absurd H (by simp)
           ·
            rw [if_neg c35] at H
            exact absurd H (by simp)
          ·
           rw [if_neg c34] at H
           exact absurd H (by simp)
         ·
          rw [if_neg c33] at H
          exact absurd H (by simp)
        ·
         rw [if_neg c32] at H
         exact absurd H (by simp)
       ·
        rw [if_neg c31] at H
        have g7 := beq_eq_false_iff_ne.mpr c31; have g8 := bne_iff_ne.mpr c31; have q7 : ¬ (a3 = []) := fun h_ => c31 (by rw [h_]; rfl)
        by_cases c41 : a4.size + 1 ≤ 9223372036854775807
        ·
         rw [if_pos c41] at H
         have q8 := eq_true c41; have q9 : decide (a4.size + 1 ≤ 9223372036854775807) = true := decide_eq_true c41
         try have r0 : (9223372036854775807 < a4.size + 1) = False := eq_false (Nat.not_lt.2 c41)
         by_cases c42 : (a4 ++ (⟨#[47]⟩ : ByteArray)).size + a2.size ≤ 9223372036854775807
         ·
          rw [if_pos c42] at H
          have r1 := eq_true c42; have r2 : decide ((a4 ++ (⟨#[47]⟩ : ByteArray)).size + a2.size ≤ 9223372036854775807) = true := decide_eq_true c42
          try have r3 : (9223372036854775807 < (a4 ++ (⟨#[47]⟩ : ByteArray)).size + a2.size) = False := eq_false (Nat.not_lt.2 c42)
          try (have d2 := c42; simp only [ByteArray.size_append', ByteArray.size_mk', List.size_toArray, List.length_cons, List.length_nil, Nat.zero_add, Nat.reduceAdd] at d2; replace d2 := eq_false (Nat.not_lt.2 d2))
          by_cases c43 : ((a4 ++ (⟨#[47]⟩ : ByteArray)) ++ a2).size + 3 ≤ 9223372036854775807
          ·
           rw [if_pos c43] at H
           have r4 := eq_true c43; have r5 : decide (((a4 ++ (⟨#[47]⟩ : ByteArray)) ++ a2).size + 3 ≤ 9223372036854775807) = true := decide_eq_true c43
           try have r6 : (9223372036854775807 < ((a4 ++ (⟨#[47]⟩ : ByteArray)) ++ a2).size + 3) = False := eq_false (Nat.not_lt.2 c43)
           try (have d3 := c43; simp only [ByteArray.size_append', ByteArray.size_mk', List.size_toArray, List.length_cons, List.length_nil, Nat.zero_add, Nat.reduceAdd] at d3; replace d3 := eq_false (Nat.not_lt.2 d3))
           by_cases c44 : (a9.size : Int) > ((((a4 ++ (⟨#[47]⟩ : ByteArray)) ++ a2) ++ (⟨#[63, 101, 61]⟩ : ByteArray)).size : Int)
           ·
            rw [if_pos c44] at H
            have h5 : decide (((((a4 ++ (⟨#[47]⟩ : ByteArray)) ++ a2) ++ (⟨#[63, 101, 61]⟩ : ByteArray)).size : Int) < (a9.size : Int)) = true := decide_eq_true c44; have h6 : decide ((((a4 ++ (⟨#[47]⟩ : ByteArray)) ++ a2) ++ (⟨#[63, 101, 61]⟩ : ByteArray)).size < a9.size) = true := decide_eq_true (Int.ofNat_lt.mp c44); clear c44
            by_cases c45 : 0 ≤ ((((a4 ++ (⟨#[47]⟩ : ByteArray)) ++ a2) ++ (⟨#[63, 101, 61]⟩ : ByteArray)).size : Int)
            ·
             rw [if_pos c45] at H
             have r7 := eq_true c45; have r8 : decide (0 ≤ ((((a4 ++ (⟨#[47]⟩ : ByteArray)) ++ a2) ++ (⟨#[63, 101, 61]⟩ : ByteArray)).size : Int)) = true := decide_eq_true c45
             by_cases c46 : ((((a4 ++ (⟨#[47]⟩ : ByteArray)) ++ a2) ++ (⟨#[63, 101, 61]⟩ : ByteArray)).size : Int) ≤ (a9.size : Int)
             ·
              rw [if_pos c46] at H
              have r9 := eq_true c46; have s0 : decide (((((a4 ++ (⟨#[47]⟩ : ByteArray)) ++ a2) ++ (⟨#[63, 101, 61]⟩ : ByteArray)).size : Int) ≤ (a9.size : Int)) = true := decide_eq_true c46
              by_cases c47 : (a9.extract 0 (((((a4 ++ (⟨#[47]⟩ : ByteArray)) ++ a2) ++ (⟨#[63, 101, 61]⟩ : ByteArray)).size : Int) : Int).toNat).toList = (((a4 ++ (⟨#[47]⟩ : ByteArray)) ++ a2) ++ (⟨#[63, 101, 61]⟩ : ByteArray)).toList
              ·
               rw [if_pos c47] at H
               have h7 := beq_iff_eq.mpr c47; have h8 := bne_eq_false_iff_eq.mpr c47
               try (have h9 := c47; simp only [Int.toNat_natCast] at h9)
               clear c47; obtain rfl := Option.some.inj H; obtain ⟨l2, l3, l4⟩ := cc3_ a1.out; obtain ⟨l5, l6, l7⟩ := cf3_ a1.out
               go_wp2
               go_ret
               exact ⟨by first | rfl | (simp [*, errW_none, errW_some] <;> rfl), by repeat (with_reducible first | exact HB.out | apply yac | apply yab | apply yad | refine yae ?_ (Aside0.out ‹_›))⟩
              ·
               rw [if_neg c47] at H
               have h7 := beq_eq_false_iff_ne.mpr c47; have h8 := bne_iff_ne.mpr c47
               rw [hrt] at H
               exact absurd H (by simp)
             ·
              rw [if_neg c46] at H
              exact absurd H (by simp)
            ·
             rw [if_neg c45] at H
             exact absurd H (by simp)
           ·
            rw [if_neg c44] at H
            have h5 : decide (((((a4 ++ (⟨#[47]⟩ : ByteArray)) ++ a2) ++ (⟨#[63, 101, 61]⟩ : ByteArray)).size : Int) < (a9.size : Int)) = false := decide_eq_false c44; have h6 : decide ((((a4 ++ (⟨#[47]⟩ : ByteArray)) ++ a2) ++ (⟨#[63, 101, 61]⟩ : ByteArray)).size < a9.size) = false := decide_eq_false (fun h => c44 (Int.ofNat_lt.mpr h)); clear c44
            rw [hrt] at H
            exact absurd H (by simp)
          ·
           rw [if_neg c43] at H
           exact absurd H (by simp)
         ·
          rw [if_neg c42] at H
          exact absurd H (by simp)
        ·
         rw [if_neg c41] at H
         exact absurd H (by simp)
   ·
    replace c8 := Bool.eq_false_iff.mpr c8
    subst c8
    rw [if_neg (show ¬ (false = true) by decide)] at H
    by_cases c49 : a9.toList = ([] : List UInt8)
    ·
     rw [if_pos c49] at H
     have i0 := beq_iff_eq.mpr c49; have i1 := bne_eq_false_iff_eq.mpr c49; clear c49; obtain ⟨f8, A50, H⟩ := bindA H; (try dsimp only at H); obtain rfl := Option.some.inj H
     go_enter Tryd.func5, Tryd.ntmps5
     go_wp2_with (first | ((with_reducible refine gc_ 21 rfl ?_); refine gl_ (some 11) rfl Tryd.func21 #[.slice A0 l0.length c0] ?_; (with_reducible refine (spec_DrawAskText.calls k _ _ l0 a3 a2 b0 _ ?side1 ?side2 A3.out).mono ?_); (case side1 => repeat (first | exact HR0.out | (with_reducible refine Kd.C_alloc ?_ _) | (with_reducible refine Kd.C_drewN ?_ _) | (with_reducible refine Kd.C_drew ?_))); (case side2 => exact HC0.out); rintro e w51 ⟨n6, rfl, ho0, hb⟩; refine ⟨_, rfl, ?_⟩; have a5 := yaa (Kd.R_lower ho0 (below_size (upH HB.out))); replace HB := yaa (below_step (upH HB.out) hb); (try clear hb ho0)) | ((with_reducible refine gd_ 3 rfl ?_); (try (refine gate_guard (by rfl) ?_; dsimp only)); refine bx_ 3 rfl #[.slice none 0 0, .string (⟨#[]⟩ : ByteArray), .int .i64 0] 35 ?_; intro a8 hg w52 hbox hb; replace a5 := yaa (Kd.R_below (upR a5.out) hb); have a1 := yaa (hbox); have b8 := yaa ((by rw [hg]; exact (below_size (upH HB.out)) : w.heap.size ≤ a8)); replace HB := yaa (below_step (upH HB.out) hb); have g4 := b8; clear hb hbox hg; obtain ⟨b6, b5, o0⟩ := Kd.R_slice a5.out; subst o0; obtain ⟨l8, l9, m0⟩ := cc3_ a1.out; obtain ⟨m1, m2⟩ := cf2_ a1.out; have m3 := blk_frozen a1.out 2) | ((with_reducible refine gc_ 19 rfl ?_); refine gl_ (some 13) rfl Tryd.func19 #[.agg #[.slice b6 a3.length b5, .string a2, .int .i64 b0]] ?_; (with_reducible refine (impl_AskText.calls k _ _ a3 a2 b0 a9 _ ?side1 ?side2 A4.out ?sideG).mono ?_); (case sideG => exact Glob.belowW HG.out (by repeat (first | (with_reducible first | exact HB.out | apply yac | apply yab | apply yad | refine yae ?_ (Aside0.out ‹_›)) | exact HB.out | exact Below.refl _ _))); (case side1 => refine (yaf (e := 25) (base := w.heap.size) (ok := fun k_ => True) (n := a3.length) (c := b5) ?_).2.2; exact (by (with_reducible repeat (first | apply Kd.R_alloc | apply Kd.R_drewN | apply Kd.R_drew)); exact (Kd.R_mono (Kd.R_far (p := ⟨a8, 2, none⟩) (Kd.R_far (p := ⟨a8, 1, none⟩) (Kd.R_far (p := ⟨a8, 0, none⟩) (Kd.R_types a5.out a1.out (by decide)) (fun _ hk => hk.2) (.slice b6 a3.length b5)) (fun _ hk => hk.2) (.string a2)) (fun _ hk => hk.2) (.int .i64 b0)) (fun _ h_ => h_.1)))); (case side2 => exact (yaf a5.out).2.1); rintro e w55 ⟨rfl, hb⟩; refine ⟨_, rfl, ?_⟩; replace a5 := yaa (Kd.R_below (by (with_reducible repeat (first | apply Kd.R_alloc | apply Kd.R_drewN | apply Kd.R_drew)); exact (Kd.R_mono (Kd.R_far (p := ⟨a8, 2, none⟩) (Kd.R_far (p := ⟨a8, 1, none⟩) (Kd.R_far (p := ⟨a8, 0, none⟩) (Kd.R_types a5.out a1.out (by decide)) (fun _ hk => hk.2) (.slice b6 a3.length b5)) (fun _ hk => hk.2) (.string a2)) (fun _ hk => hk.2) (.int .i64 b0)) (fun _ h_ => h_.1))) hb); replace a1 := yaa (blk_below (g := a8) (o := .cells #[.slice b6 a3.length b5, .string a2, .int .i64 b0] 35 (0, 0)) (by (repeat refine oneB ?_); refine blk_put (cs := #[.slice b6 a3.length b5, .string a2, .int .i64 0]) ?_ 2 _ rfl; refine blk_put (cs := #[.slice b6 a3.length b5, .string (⟨#[]⟩ : ByteArray), .int .i64 0]) ?_ 1 _ rfl; refine blk_put (cs := #[.slice none 0 0, .string (⟨#[]⟩ : ByteArray), .int .i64 0]) ?_ 0 _ rfl; exact upB a1.out) hb); replace HB := yaa (below_step (by repeat (with_reducible first | exact HB.out | apply yac | apply yab | apply yad | refine yae ?_ (Aside0.out ‹_›))) hb); (try clear hb); obtain ⟨m4, m5, m6⟩ := cc3_ a1.out; obtain ⟨m7, m8⟩ := cf2_ a1.out; have m9 := blk_frozen a1.out 2) | ((with_reducible refine gc_ 17 rfl ?_); refine gl_ (some 16) rfl Tryd.func17 #[.agg #[.slice b6 a3.length b5, .string a2, .int .i64 b0]] ?_; (with_reducible refine (spec_AskText.calls k _ _ a3 a2 b0 b7 _ ?side1 ?side2 A5.out).mono ?_); (case side1 => repeat (first | exact (yaf a5.out).2.2 | (with_reducible refine Kd.C_alloc ?_ _) | (with_reducible refine Kd.C_drewN ?_ _) | (with_reducible refine Kd.C_drew ?_))); (case side2 => exact (yaf a5.out).2.1); rintro e w57 ⟨rfl, hb⟩; refine ⟨_, rfl, ?_⟩; replace a5 := yaa (Kd.R_below (upR a5.out) hb); replace a1 := yaa (blk_below (upB a1.out) hb); replace HB := yaa (below_step (by repeat (with_reducible first | exact HB.out | apply yac | apply yab | apply yad | refine yae ?_ (Aside0.out ‹_›))) hb); (try clear hb); obtain ⟨n0, n1, n2⟩ := cc3_ a1.out; obtain ⟨n3, n4⟩ := cf2_ a1.out; have n5 := blk_frozen a1.out 2) | ((with_reducible refine gc_ 22 rfl ?_); refine gl_ (some 19) rfl Tryd.func22 #[.agg #[.slice b6 a3.length b5, .string a2, .int .i64 b0]] ?_; (with_reducible refine (spec_AskOk.calls k _ _ a3 a2 b0 false _ ?side1 ?side2 A7.out).mono ?_); (case side1 => repeat (first | exact (yaf a5.out).2.2 | (with_reducible refine Kd.C_alloc ?_ _) | (with_reducible refine Kd.C_drewN ?_ _) | (with_reducible refine Kd.C_drew ?_))); (case side2 => exact (yaf a5.out).2.1); rintro e w59 ⟨rfl, hb⟩; refine ⟨_, rfl, ?_⟩; replace a5 := yaa (Kd.R_below (upR a5.out) hb); replace a1 := yaa (blk_below (upB a1.out) hb); replace HB := yaa (below_step (by repeat (with_reducible first | exact HB.out | apply yac | apply yab | apply yad | refine yae ?_ (Aside0.out ‹_›))) hb); (try clear hb)) | (go_at_call 23; (with_reducible refine (laws_eaOk.calls  f8 _ A50.out).mono ?_); rintro e w60 ⟨rfl, hb⟩; replace a5 := yaa (Kd.R_below (upR a5.out) hb); replace a1 := yaa (blk_below (upB a1.out) hb); replace HB := yaa (below_step (by repeat (with_reducible first | exact HB.out | apply yac | apply yab | apply yad | refine yae ?_ (Aside0.out ‹_›))) hb); (try clear hb)))
     go_ret
     exact ⟨by first | rfl | (simp [*, errW_none, errW_some] <;> rfl), by repeat (with_reducible first | exact HB.out | apply yac | apply yab | apply yad | refine yae ?_ (Aside0.out ‹_›))⟩
    ·
     rw [if_neg c49] at H
     have i0 := beq_eq_false_iff_ne.mpr c49; have i1 := bne_iff_ne.mpr c49
     rw [hrt] at H
     exact absurd H (by simp)
  ·
   rw [if_neg c6] at H
   have g2 := beq_eq_false_iff_ne.mpr c6; have g3 := bne_iff_ne.mpr c6
   rw [hrt] at H
   exact absurd H (by simp)

/-- THE ONE PURE STATEMENT of laws_FnAskOps: yours. -/
def laws_FnAskOps.Pure : Prop := ∀ (l0 : List Int), l0.length ≤ maxLen → l0.length * 1 ≤ 140737488351232 → (∀ x ∈ l0, (Lit.int .u8 x).wf = true) → ∃ k, laws_FnAskOps.f k l0 = some true
theorem laws_FnAskOps.walk (P : laws_FnAskOps.Pure) (a0 : Option Addr) (len0 cap0 : Nat) (z0 : List Int) (w : World) (w0 : (a0 = none ∧ len0 = 0 ∧ cap0 = 0 ∧ z0 = []) ∨ ∃ x, a0 = some x ∧ len0 ≤ cap0 ∧ cap0 ≤ maxLen ∧ z0.length = cap0 ∧ (∀ i, i < z0.length → w.cell? (x.add i) = some (.int .u8 (z0.getD i 0))) ∧ ∀ n ∈ z0, (Lit.int .u8 n).wf = true) (y0 : len0 * 1 ≤ 140737488351232) (hG : Glob w) :
  Calls Tryd.prog 5 #[.slice a0 len0 cap0] w fun e w' => e = .returned (.bool true) ∧ Below w.heap.size w w' := by
 obtain ⟨l0, rfl, hr0, hm0, hw0, hc0⟩ := ReadsInt.ofRowC w0; obtain ⟨k, h⟩ := P l0 hm0 y0 hw0
 refine (laws_FnAskOps.calls k _ _ l0 true w (Kd.C_of_reads (d := (0 : Int)) (h1 := fun _ => rfl) hr0) hc0 h rfl hG).mono ?_
 rintro e w' ⟨rfl, hd⟩
 exact ⟨rfl, hd⟩

end Go.Proofs.YtiihhjfdgojkeaaDoor.X
namespace Go.Proofs.YtiihhjfdgojkeaaDoor.Pl
open Go.RowKit Go.Proofs.YtiihhjfdgojkeaaDoorW.PrintWords

theorem wrap_id {x : Int} (h0 : -9223372036854775808 ≤ x) (h1 : x ≤ 9223372036854775807) : wrap64 x = x := by
  unfold wrap64; omega
theorem wrap_succ {i : Nat} (h : i < 9223372036854775807) : wrap64 ((i : Int) + 1) = ((i + 1 : Nat) : Int) := by
  unfold wrap64; omega

/-- From a round on: with a round more. -/
theorem ev_succ {α : Type} {g : Nat → Option α} {r : α} (h : Ev (fun k => g (k + 1)) r) : Ev g r := by
  obtain ⟨K, h⟩ := h
  refine ⟨K + 1, fun n hn => ?_⟩
  obtain ⟨m, rfl⟩ : ∃ m, n = m + 1 := ⟨n - 1, by omega⟩
  exact h m (by omega)

theorem getD_mem {α : Type} (l : List α) (z : α) (i : Nat) (h : i < l.length) : l.getD i z ∈ l := by
  rw [List.getD_eq_getElem?_getD, List.getElem?_eq_getElem h]; exact List.getElem_mem h

/-- A loop that asks something at each place, and stops with a no. -/
theorem ev_allR (n : Nat) (p : Nat → Bool) (b : Bool) (g : Nat → Int → Option Bool)
    (hyes : ∀ i, i < n → p i = true → ∀ r, Ev (fun k => g k ((i + 1 : Nat) : Int)) r → Ev (fun k => g k (i : Int)) r)
    (hno : ∀ i, i < n → p i = false → Ev (fun k => g k (i : Int)) false)
    (hend : Ev (fun k => g k (n : Int)) b) : Ev (fun k => g k 0) ((List.range n).all p && b) := by
  have key : ∀ d i, i + d = n → Ev (fun k => g k (i : Int)) (((List.range' i d).all p) && b) := by
    intro d
    induction d with
    | zero => intro i hi; have : i = n := by omega
              subst this; simpa using hend
    | succ d ih =>
      intro i hi
      have := ih (i + 1) (by omega)
      rw [List.range'_succ, List.all_cons]
      cases hp : p i with
      | true => simpa using hyes i (by omega) hp _ this
      | false => simpa using hno i (by omega) hp
  have := key n 0 (by omega)
  rwa [← List.range_eq_range'] at this

/-- From a number of rounds on, through a step. -/
theorem Ev.at_ {α : Type} {g : Nat → Option α} {r : α} (h : Ev g r) : ∃ K, ∀ k, K ≤ k → g k = some r := h
theorem ev_const {α : Type} {x : Option α} {r : α} (h : x = some r) : Ev (fun _ => x) r := ⟨0, fun _ _ => h⟩

/-! ### What a told function comes to, from some number of rounds on -/
/-- It answers, and the answer is so. -/
def Tot {α : Type} (g : Nat → Option α) (post : α → Prop) : Prop := ∃ r, Ev g r ∧ post r
theorem Tot.ret {α : Type} {post : α → Prop} {r : α} (h : post r) : Tot (fun _ => some r) post := ⟨r, Ev.now r, h⟩
theorem Tot.mono {α : Type} {g : Nat → Option α} {P Q : α → Prop} (h : Tot g P) (hi : ∀ r, P r → Q r) : Tot g Q := by
  obtain ⟨r, h, hp⟩ := h
  exact ⟨r, h, hi r hp⟩
theorem Tot.bind {α β : Type} {g : Nat → Option α} {f : Nat → α → Option β} {P : α → Prop} {Q : β → Prop} (h : Tot g P) (hf : ∀ a, P a → Tot (fun k => f k a) Q) : Tot (fun k => (g k).bind (f k)) Q := by
  obtain ⟨a, h, hp⟩ := h
  obtain ⟨r, h2, hq⟩ := hf a hp
  exact ⟨r, Ev.bind h h2, hq⟩
theorem Tot.some_bind {α β : Type} {f : Nat → α → Option β} {Q : β → Prop} {a : α} (hf : Tot (fun k => f k a) Q) : Tot (fun k => (some a).bind (f k)) Q := hf
theorem Tot.ite {α : Type} {c : Prop} [Decidable c] {f g : Nat → Option α} {Q : α → Prop} (h1 : c → Tot f Q) (h2 : ¬ c → Tot g Q) : Tot (fun k => if c then f k else g k) Q := by
  by_cases h : c
  · simpa [h] using h1 h
  · simpa [h] using h2 h
theorem Tot.pos {α : Type} {c : Prop} [Decidable c] {f g : Nat → Option α} {Q : α → Prop} (h : c) (h1 : Tot f Q) : Tot (fun k => if c then f k else g k) Q := by simpa [h] using h1
theorem Tot.neg {α : Type} {c : Prop} [Decidable c] {f g : Nat → Option α} {Q : α → Prop} (h : ¬ c) (h1 : Tot g Q) : Tot (fun k => if c then f k else g k) Q := by simpa [h] using h1
theorem Tot.succ {α : Type} {g : Nat → Option α} {Q : α → Prop} (h : Tot (fun k => g (k + 1)) Q) : Tot g Q := by
  obtain ⟨r, h, hp⟩ := h
  exact ⟨r, ev_succ h, hp⟩
theorem Tot.of_ev {α : Type} {g : Nat → Option α} {r : α} (h : Ev g r) : Tot g (fun x => x = r) := ⟨r, h, rfl⟩
theorem Tot.of_eq {α : Type} {x : Option α} {r : α} (h : x = some r) : Tot (fun _ => x) (fun y => y = r) := ⟨r, ev_const h, rfl⟩
/-- A loop, or a call of itself: what is smaller comes to its answer. -/
theorem tot_ind {α σ : Type} (g : Nat → σ → Option α) (Inv : σ → Prop) (m : σ → Nat) (post : α → Prop)
    (h : ∀ s, Inv s → (∀ s', Inv s' → m s' < m s → Tot (fun k => g k s') post) → Tot (fun k => g k s) post) : ∀ s, Inv s → Tot (fun k => g k s) post := by
  have key : ∀ d s, m s < d → Inv s → Tot (fun k => g k s) post := by
    intro d
    induction d with
    | zero => intro s h; omega
    | succ d ih => intro s hd hs; exact h s hs (fun s' hs' hm => ih s' (by omega) hs')
  intro s hs
  exact key (m s + 1) s (by omega) hs
theorem Tot.rounds {g : Nat → Option Bool} (h : Tot g (fun b => b = true)) : ∃ k, g k = some true := by
  obtain ⟨r, h, rfl⟩ := h
  exact h.rounds

end Go.Proofs.YtiihhjfdgojkeaaDoor.Pl
namespace Go.Proofs.YtiihhjfdgojkeaaDoor.X
open Go.RowKit Go.Proofs.YtiihhjfdgojkeaaDoorW.PrintWords Go.Proofs.YtiihhjfdgojkeaaDoor.Pl
set_option linter.unusedSimpArgs false

theorem l1In_some (a b c : Int) : spec_l1In.f a b c = some (decide (b ≤ a ∧ a ≤ c)) := by
  unfold spec_l1In.f
  by_cases h : b ≤ a <;> simp [h]
theorem within_some (a b c : Int) : impl_within.f a b c = some (decide (b ≤ a ∧ a ≤ c)) := by
  unfold impl_within.f
  by_cases h : b ≤ a <;> simp [h]
theorem sizeOk_some (a : Int) : impl_sizeOk.f a = some (decide (1 ≤ a ∧ a ≤ 6)) := by
  unfold impl_sizeOk.f
  by_cases h : 1 ≤ a <;> simp [h]
theorem partOk_some (a : Int) : impl_partOk.f a = some (decide (0 ≤ a ∧ a ≤ 255)) := by
  unfold impl_partOk.f
  by_cases h : 0 ≤ a <;> simp [h]

/-- May it be done: by its kind and its four numbers. -/
def opOkB (o a b c d : Int) : Bool :=
  if o = 1 then decide (0 ≤ a ∧ a ≤ 5) && (decide (0 ≤ b ∧ b ≤ 5) && (decide (1 ≤ c ∧ c ≤ 6) && decide (1 ≤ d ∧ d ≤ 6)))
  else if o = 7 then decide (1 ≤ a ∧ a ≤ 6) && (decide (1 ≤ b ∧ b ≤ 6) && (decide (c = 0) && decide (d = 0)))
  else if o = 8 then decide (0 ≤ a ∧ a ≤ 255) && (decide (0 ≤ b ∧ b ≤ 255) && (decide (0 ≤ c ∧ c ≤ 255) && decide (d = 0)))
  else decide (2 ≤ o ∧ o ≤ 6) && (decide (a = 0) && (decide (b = 0) && (decide (c = 0) && decide (d = 0))))

theorem spec_OpOk_some (o a b c d : Int) : spec_OpOk.f o a b c d = some (opOkB o a b c d) := by
  unfold spec_OpOk.f opOkB
  simp only [l1In_some, Option.bind_some]
  by_cases h1 : o = 1
  · simp only [h1, if_true]
    by_cases p : 0 ≤ a ∧ a ≤ 5 <;> by_cases q : 0 ≤ b ∧ b ≤ 5 <;> by_cases r : 1 ≤ c ∧ c ≤ 6 <;> simp [p, q, r]
  · simp only [h1, if_false]
    by_cases h7 : o = 7
    · simp only [h7, if_true]
      by_cases p : 1 ≤ a ∧ a ≤ 6 <;> by_cases q : 1 ≤ b ∧ b ≤ 6 <;> by_cases r : c = 0 <;> simp [p, q, r]; rfl
    · simp only [h7, if_false]
      by_cases h8 : o = 8
      · simp only [h8, if_true]
        by_cases p : 0 ≤ a ∧ a ≤ 255 <;> by_cases q : 0 ≤ b ∧ b ≤ 255 <;> by_cases r : 0 ≤ c ∧ c ≤ 255 <;> simp [p, q, r]; rfl
      · simp only [h8, if_false]
        by_cases p : 2 ≤ o ∧ o ≤ 6 <;> by_cases q : a = 0 <;> by_cases r : b = 0 <;> by_cases s : c = 0 <;> simp [p, q, r, s]; rfl

theorem impl_OpOk_some (k : Nat) (o a b c d : Int) : impl_OpOk.f (k + 1) o a b c d = some (opOkB o a b c d) := by
  unfold impl_OpOk.f opOkB
  simp only [impl_OpOk.j0, within_some, sizeOk_some, partOk_some, Option.bind_some]
  by_cases h1 : o = 1
  · simp only [h1, if_true]
    by_cases p : 0 ≤ a ∧ a ≤ 5 <;> by_cases q : 0 ≤ b ∧ b ≤ 5 <;> by_cases r : 1 ≤ c ∧ c ≤ 6 <;> simp [p, q, r]
  · simp only [h1, if_false]
    by_cases h2 : o = 2
    · subst h2; simp; rfl
    by_cases h3 : o = 3
    · subst h3; simp; rfl
    by_cases h4 : o = 4
    · subst h4; simp; rfl
    by_cases h5 : o = 5
    · subst h5; simp; rfl
    by_cases h6 : o = 6
    · subst h6; simp; rfl
    by_cases h7 : o = 7
    · subst h7
      simp only [show ¬ ((7 : Int) = 2) by decide, show ¬ ((7 : Int) = 3) by decide, show ¬ ((7 : Int) = 4) by decide, show ¬ ((7 : Int) = 5) by decide, if_false, if_true]
      by_cases p : 1 ≤ a ∧ a ≤ 6 <;> by_cases q : 1 ≤ b ∧ b ≤ 6 <;> by_cases r : c = 0 <;> simp [p, q, r]; rfl
    by_cases h8 : o = 8
    · subst h8
      simp only [show ¬ ((8 : Int) = 2) by decide, show ¬ ((8 : Int) = 3) by decide, show ¬ ((8 : Int) = 4) by decide, show ¬ ((8 : Int) = 5) by decide, show ¬ ((8 : Int) = 7) by decide, if_false, if_true]
      by_cases p : 0 ≤ a ∧ a ≤ 255 <;> by_cases q : 0 ≤ b ∧ b ≤ 255 <;> by_cases r : 0 ≤ c ∧ c ≤ 255 <;> simp [p, q, r]; rfl
    have h9 : ¬ (2 ≤ o ∧ o ≤ 6) := by omega
    have h6' : (o == 6) = false := by simpa using h6
    simp [h2, h3, h4, h5, h7, h8, h9, h6']

abbrev Op := S25
def okB (x : Op) : Bool := opOkB x.f0 x.f1 x.f2 x.f3 x.f4
def opAt (l : List Op) (i : Nat) : Op := rd_T25 l (i : Int)
def allOkB (l : List Op) : Bool := decide (l.length ≤ 5) && (List.range l.length).all fun i => okB (opAt l i)

theorem spec_l6All_ev (l : List Op) (hl : l.length ≤ 4611686018427387904) : Ev (fun k => spec_l6All.f k l) (allOkB l) := by
  have := ev_allR l.length (fun i => okB (opAt l i)) (decide ((l.length : Int) ≤ 5)) (fun k i => spec_l6All.l0 k l i) ?_ ?_ ?_
  · have e : allOkB l = ((List.range l.length).all (fun i => okB (opAt l i)) && decide ((l.length : Int) ≤ 5)) := by
      unfold allOkB
      rw [Bool.and_comm]
      congr 1
      simp only [decide_eq_decide]
      omega
    rw [e]
    exact this
  · intro i hi hp r h
    refine Ev.step (fun k => ?_) h
    have e := spec_OpOk_some (rd_T25 l (i : Int)).f0 (rd_T25 l (i : Int)).f1 (rd_T25 l (i : Int)).f2 (rd_T25 l (i : Int)).f3 (rd_T25 l (i : Int)).f4
    simp only [spec_l6All.l0]
    rw [if_pos (by omega), if_pos (by omega), e]
    simp only [Option.bind_some]
    rw [if_pos (show opOkB (rd_T25 l (i : Int)).f0 (rd_T25 l (i : Int)).f1 (rd_T25 l (i : Int)).f2 (rd_T25 l (i : Int)).f3 (rd_T25 l (i : Int)).f4 = true from hp), wrap_succ (by omega)]
  · intro i hi hp
    refine ev_succ ⟨0, fun k _ => ?_⟩
    have e := spec_OpOk_some (rd_T25 l (i : Int)).f0 (rd_T25 l (i : Int)).f1 (rd_T25 l (i : Int)).f2 (rd_T25 l (i : Int)).f3 (rd_T25 l (i : Int)).f4
    simp only [spec_l6All.l0]
    rw [if_pos (by omega), if_pos (by omega), e]
    simp only [Option.bind_some]
    rw [if_neg (show ¬ (opOkB (rd_T25 l (i : Int)).f0 (rd_T25 l (i : Int)).f1 (rd_T25 l (i : Int)).f2 (rd_T25 l (i : Int)).f3 (rd_T25 l (i : Int)).f4 = true) from by have hp2 : opOkB (rd_T25 l (i : Int)).f0 (rd_T25 l (i : Int)).f1 (rd_T25 l (i : Int)).f2 (rd_T25 l (i : Int)).f3 (rd_T25 l (i : Int)).f4 = false := hp; rw [hp2]; decide)]
  · refine ev_succ ⟨0, fun k _ => ?_⟩
    simp only [spec_l6All.l0]
    rw [if_neg (by omega)]

theorem impl_opsOk_ev (l : List Op) (hl : l.length ≤ 4611686018427387904) : Ev (fun k => impl_opsOk.f k l) (allOkB l) := by
  by_cases h5 : l.length ≤ 5
  · have := ev_allR l.length (fun i => okB (opAt l i)) true (fun k i => impl_opsOk.l0 k l (l.length : Int) i) ?_ ?_ ?_
    · have e : allOkB l = ((List.range l.length).all (fun i => okB (opAt l i)) && true) := by
        unfold allOkB
        simp [h5]
      rw [e]
      refine Ev.congr (fun k => ?_) this
      show impl_opsOk.f k l = _
      unfold impl_opsOk.f
      rw [if_neg (by omega)]
    · intro i hi hp r h
      obtain ⟨K, h⟩ := h
      refine ⟨K + 2, fun k hk => ?_⟩
      obtain ⟨k, rfl⟩ : ∃ m, k = m + 2 := ⟨k - 2, by omega⟩
      have e := impl_OpOk_some k (rd_T25 l (i : Int)).f0 (rd_T25 l (i : Int)).f1 (rd_T25 l (i : Int)).f2 (rd_T25 l (i : Int)).f3 (rd_T25 l (i : Int)).f4
      have e2 := h (k + 1) (by omega)
      dsimp only at e2 ⊢
      simp only [impl_opsOk.l0] at e2 ⊢
      rw [if_pos (by omega), if_pos (by omega), if_pos (by omega), e]
      simp only [Option.bind_some]
      rw [if_pos (show opOkB (rd_T25 l (i : Int)).f0 (rd_T25 l (i : Int)).f1 (rd_T25 l (i : Int)).f2 (rd_T25 l (i : Int)).f3 (rd_T25 l (i : Int)).f4 = true from hp), wrap_succ (by omega)]
      exact e2
    · intro i hi hp
      refine ev_succ (ev_succ ⟨0, fun k _ => ?_⟩)
      have e := impl_OpOk_some k (rd_T25 l (i : Int)).f0 (rd_T25 l (i : Int)).f1 (rd_T25 l (i : Int)).f2 (rd_T25 l (i : Int)).f3 (rd_T25 l (i : Int)).f4
      simp only [impl_opsOk.l0]
      rw [if_pos (by omega), if_pos (by omega), if_pos (by omega), e]
      simp only [Option.bind_some]
      rw [if_neg (show ¬ (opOkB (rd_T25 l (i : Int)).f0 (rd_T25 l (i : Int)).f1 (rd_T25 l (i : Int)).f2 (rd_T25 l (i : Int)).f3 (rd_T25 l (i : Int)).f4 = true) from by have hp2 : opOkB (rd_T25 l (i : Int)).f0 (rd_T25 l (i : Int)).f1 (rd_T25 l (i : Int)).f2 (rd_T25 l (i : Int)).f3 (rd_T25 l (i : Int)).f4 = false := hp; rw [hp2]; decide)]
    · refine ev_succ ⟨0, fun k _ => ?_⟩
      simp only [impl_opsOk.l0]
      rw [if_neg (by omega)]
  · have e : allOkB l = false := by
      unfold allOkB
      simp [h5]
    rw [e]
    refine ⟨0, fun k _ => ?_⟩
    show impl_opsOk.f k l = _
    unfold impl_opsOk.f
    rw [if_pos (by omega)]

/-- A letter, or a digit. -/
def signB (c : Int) : Bool := decide (97 ≤ c ∧ c ≤ 122) || decide (48 ≤ c ∧ c ≤ 57)
def nameB (s : ByteArray) : Bool := decide (1 ≤ s.size ∧ s.size ≤ 6) && (List.range s.size).all fun i => signB (bt s (i : Int))

theorem impl_nameOk_ev (s : ByteArray) : Ev (fun k => impl_nameOk.f k s) (nameB s) := by
  by_cases hs : 1 ≤ s.size ∧ s.size ≤ 6
  · have := ev_allR s.size (fun i => signB (bt s (i : Int))) true (fun k i => impl_nameOk.l0 k s (s.size : Int) i) ?_ ?_ ?_
    · have e : nameB s = ((List.range s.size).all (fun i => signB (bt s (i : Int))) && true) := by
        unfold nameB
        simp [hs]
      rw [e]
      refine Ev.step (fun k => ?_) this
      unfold impl_nameOk.f
      rw [if_neg (by omega)]
      simp only [impl_nameOk.j0]
      rw [if_neg (by simp; omega)]
    · intro i hi hp r h
      refine Ev.step (fun k => ?_) h
      simp only [impl_nameOk.l0]
      rw [if_pos (by omega), if_pos (by omega), if_pos (by omega), wrap_succ (by omega)]
      simp only [signB, Bool.or_eq_true, decide_eq_true_eq] at hp
      repeat' split
      all_goals first | rfl | (exfalso; omega)
    · intro i hi hp
      refine ev_succ ⟨0, fun k _ => ?_⟩
      simp only [impl_nameOk.l0]
      rw [if_pos (by omega), if_pos (by omega), if_pos (by omega)]
      simp only [signB, Bool.or_eq_false_iff, decide_eq_false_iff_not] at hp
      repeat' split
      all_goals first | rfl | (exfalso; omega)
    · refine ev_succ ⟨0, fun k _ => ?_⟩
      simp only [impl_nameOk.l0]
      rw [if_neg (by omega)]
  · have e : nameB s = false := by
      unfold nameB
      simp only [hs, decide_false, Bool.false_and]
    rw [e]
    refine ev_succ ⟨0, fun k _ => ?_⟩
    unfold impl_nameOk.f
    simp only [impl_nameOk.j0]
    split
    · rfl
    · rw [if_pos (by simp; omega)]

theorem spec_l7Path_ev (s : ByteArray) : Ev (fun k => spec_l7Path.f k s) (nameB s) := by
  by_cases hs : 1 ≤ s.size ∧ s.size ≤ 6
  · have := ev_allR s.size (fun i => signB (bt s (i : Int))) true (fun k i => spec_l7Path.l0 k s i) ?_ ?_ ?_
    · have e : nameB s = ((List.range s.size).all (fun i => signB (bt s (i : Int))) && true) := by
        unfold nameB
        simp [hs]
      rw [e]
      refine Ev.step (fun k => ?_) this
      unfold spec_l7Path.f
      rw [if_neg (by omega)]
      simp only [spec_l7Path.j0]
      rw [if_neg (by simp; omega)]
    · intro i hi hp r h
      refine Ev.step (fun k => ?_) h
      simp only [spec_l7Path.l0]
      rw [if_pos (by omega), if_pos (by omega), wrap_succ (by omega)]
      simp only [signB, Bool.or_eq_true, decide_eq_true_eq] at hp
      repeat' split
      all_goals first | rfl | (exfalso; omega)
    · intro i hi hp
      refine ev_succ ⟨0, fun k _ => ?_⟩
      simp only [spec_l7Path.l0]
      rw [if_pos (by omega), if_pos (by omega)]
      simp only [signB, Bool.or_eq_false_iff, decide_eq_false_iff_not] at hp
      repeat' split
      all_goals first | rfl | (exfalso; omega)
    · refine ev_succ ⟨0, fun k _ => ?_⟩
      simp only [spec_l7Path.l0]
      rw [if_neg (by omega)]
  · have e : nameB s = false := by
      unfold nameB
      simp only [hs, decide_false, Bool.false_and]
    rw [e]
    refine ev_succ ⟨0, fun k _ => ?_⟩
    unfold spec_l7Path.f
    simp only [spec_l7Path.j0]
    split
    · rfl
    · rw [if_pos (by simp; omega)]

def askB (l : List Op) (s : ByteArray) (n : Int) : Bool := allOkB l && (nameB s && decide (0 ≤ n ∧ n ≤ 9999))
theorem impl_AskOk_ev (l : List Op) (hl : l.length ≤ 4611686018427387904) (s : ByteArray) (n : Int) : Ev (fun k => impl_AskOk.f k l s n) (askB l s n) := by
  obtain ⟨K, h⟩ := impl_opsOk_ev l hl
  obtain ⟨K', h'⟩ := impl_nameOk_ev s
  refine ⟨K + K', fun k hk => ?_⟩
  have e1 := h k (by omega)
  have e2 := h' k (by omega)
  dsimp only at e1 e2 ⊢
  unfold impl_AskOk.f askB
  rw [e1]
  cases allOkB l <;> simp [e2, within_some]
  cases nameB s <;> simp
theorem spec_AskOk_ev (l : List Op) (hl : l.length ≤ 4611686018427387904) (s : ByteArray) (n : Int) : Ev (fun k => spec_AskOk.f k l s n) (askB l s n) := by
  obtain ⟨K, h⟩ := spec_l6All_ev l hl
  obtain ⟨K', h'⟩ := spec_l7Path_ev s
  refine ⟨K + K', fun k hk => ?_⟩
  have e1 := h k (by omega)
  have e2 := h' k (by omega)
  dsimp only at e1 e2 ⊢
  unfold spec_AskOk.f askB
  rw [e1]
  cases allOkB l <;> simp [e2, l1In_some]
  cases nameB s <;> simp
end Go.Proofs.YtiihhjfdgojkeaaDoor.X
namespace Go.Proofs.YtiihhjfdgojkeaaDoor.X
open Go.RowKit Go.Proofs.YtiihhjfdgojkeaaDoorW.PrintWords Go.Proofs.YtiihhjfdgojkeaaDoor.Pl
set_option linter.unusedSimpArgs false
set_option linter.unusedVariables false
theorem wr_id {x : Int} (h0 : -9223372036854775808 ≤ x) (h1 : x ≤ 9223372036854775807) : wrap64 x = x := by unfold wrap64; omega
theorem digit_str (d : Nat) (h : d < 10) : strOfNums [(wrap64 (48 + (d : Int))) % 256] = ⟨#[UInt8.ofNat (48 + d)]⟩ := by
  rw [wr_id (by omega) (by omega), show (48 + (d : Int)) % 256 = ((48 + d : Nat) : Int) by omega]
  unfold strOfNums
  rfl
/-- A number's digits, ahead of what stands behind them. -/
theorem plain_tot (n : Nat) : n ≤ 9223372036854775807 → ∀ x3 : ByteArray, x3.size + Lib.nDigits n ≤ 9223372036854775807 → Tot (fun k => spec_l7Plain.l0 k (n : Int) x3) (fun r => r = ⟨(Lib.decDigits n).toArray⟩ ++ x3) := by
  induction n using Nat.strongRecOn with
  | _ n ih =>
    intro hn x3 hx
    refine Tot.succ ?_
    simp only [spec_l7Plain.l0]
    by_cases h : n < 10
    · refine Tot.neg (by omega) (Tot.some_bind ?_)
      rw [digit_str n h]
      rw [Lib.nDigits_small h] at hx
      refine Tot.pos ?_ (Tot.ret ?_)
      · show 1 + x3.size ≤ _
        omega
      · rw [Lib.decDigits_one h]
    · refine Tot.pos (by omega) (Tot.some_bind ?_)
      rw [show Int.tmod (n : Int) 10 = ((n % 10 : Nat) : Int) from (Int.ofNat_tmod n 10).symm, digit_str _ (by omega), show Int.tdiv (n : Int) 10 = ((n / 10 : Nat) : Int) from (Int.ofNat_tdiv n 10).symm, wr_id (by omega) (by omega)]
      rw [Lib.nDigits_big h] at hx
      have hp := Lib.nDigits_pos (n / 10)
      refine Tot.pos ?_ ?_
      · show 1 + x3.size ≤ _
        omega
      · refine Tot.mono (ih (n / 10) (by omega) (by omega) _ ?_) ?_
        · rw [ByteArray.size_append]
          show 1 + x3.size + _ ≤ _
          omega
        · rintro r rfl
          rw [Lib.decDigits.eq_def n, dif_neg h, ← ByteArray.append_assoc]
          congr 1
theorem plainF_tot (n : Nat) (hn : n ≤ 9223372036854775807) : Tot (fun k => spec_l7Plain.f k (n : Int)) (fun r => r = ⟨(Lib.itoa (n : Int)).toArray⟩) := by
  have h := Lib.itoa_length_le (n : Int) (by omega) (by omega)
  rw [Lib.itoa_nonneg, Lib.decDigits_length] at h
  refine Tot.mono (plain_tot n hn ⟨#[]⟩ (by show 0 + _ ≤ _; omega)) ?_
  rintro r rfl
  rw [Lib.itoa_nonneg]
  exact ByteArray.append_empty
theorem rd4 (a b c d : Int) (i : Nat) (hi : i < 4) : rd [a, b, c, d] (i : Int) = [a, b, c, d].getD i 0 := by
  match i, hi with
  | 0, _ => rfl
  | 1, _ => rfl
  | 2, _ => rfl
  | 3, _ => rfl
theorem otext_tot (W : ByteArray) (hW : W.size ≤ 5) (a b c d : Int) (hns : ∀ n ∈ [a, b, c, d], 0 ≤ n ∧ n ≤ 9223372036854775807) (many : Nat) (hm : many ≤ 4) : ∀ e i, i + e = many → Tot (fun k => spec_OpText.l0 k (txtI W ([a, b, c, d].take i)) many [a, b, c, d] i) (fun r => r = txtI W ([a, b, c, d].take many))
  | 0, i, h => by
    obtain rfl : i = many := by omega
    refine Tot.succ ?_
    simp only [spec_OpText.l0]
    exact Tot.neg (by omega) (Tot.ret rfl)
  | e + 1, i, h => by
    have ih := otext_tot W hW a b c d hns many hm e (i + 1) (by omega)
    have hl := txtI_len W ([a, b, c, d].take i) (fun n hn => by have := hns n (List.mem_of_mem_take hn); exact ⟨by omega, this.2⟩) hW (by simp; omega)
    have hn := hns ([a, b, c, d].getD i 0) (num_mem (by omega))
    have e1 : txtI W ([a, b, c, d].take (i + 1)) = txtI W ([a, b, c, d].take i) ++ numT ([a, b, c, d].getD i 0) := by rw [take_getD _ _ (by simp; omega), txtI_snoc]
    rw [e1] at ih
    generalize txtI W ([a, b, c, d].take i) = T at *
    refine Tot.succ ?_
    simp only [spec_OpText.l0, rd4 a b c d i (by omega)]
    obtain ⟨m, hm'⟩ := Int.eq_ofNat_of_zero_le hn.1
    rw [hm'] at ih hn ⊢
    refine Tot.pos (by omega) (Tot.pos (by omega) (Tot.pos (by omega) (Tot.pos (by simp; omega) ?_)))
    refine Tot.bind (plainF_tot m (by omega)) ?_
    rintro _ rfl
    have h20 := Lib.itoa_length_le (m : Int) (by omega) (by omega)
    refine Tot.pos ?_ ?_
    · rw [ByteArray.size_append]
      show _ + 1 + (Lib.itoa (m : Int)).toArray.size ≤ _
      rw [List.size_toArray]
      omega
    · rw [wr_id (by omega) (by omega), ByteArray.append_assoc]
      exact ih
theorem opOk_kind {o a b c d : Int} (h : opOkB o a b c d = true) : 1 ≤ o ∧ o ≤ 8 ∧ ∀ n ∈ [a, b, c, d], 0 ≤ n ∧ n ≤ 255 := by
  unfold opOkB at h
  simp only [List.mem_cons, List.not_mem_nil, or_false, forall_eq_or_imp, forall_eq]
  split at h
  · simp at h; omega
  · split at h
    · simp at h; omega
    · split at h
      · simp at h; omega
      · simp at h; omega
theorem word_some (k : Nat) (h : k < 9) : spec_l7Word.f (k : Int) = some (formW k, (formN k : Int)) := by
  match k, h with
  | 0, _ => rfl
  | 1, _ => rfl
  | 2, _ => rfl
  | 3, _ => rfl
  | 4, _ => rfl
  | 5, _ => rfl
  | 6, _ => rfl
  | 7, _ => rfl
  | 8, _ => rfl
/-- What is done, as text. -/
def opTextF (o a b c d : Int) : ByteArray := if opOkB o a b c d then txtI (formW o.toNat) ([a, b, c, d].take (formN o.toNat)) else ⟨#[]⟩
theorem spec_OpText_tot (o a b c d : Int) : Tot (fun k => spec_OpText.f k o a b c d) (fun r => r = opTextF o a b c d) := by
  unfold spec_OpText.f opTextF
  refine Tot.bind (Tot.of_eq (spec_OpOk_some o a b c d)) ?_
  rintro _ rfl
  cases h : opOkB o a b c d with
  | false => exact Tot.neg (by decide) (Tot.ret rfl)
  | true =>
    obtain ⟨h1, h8, hn⟩ := opOk_kind h
    obtain ⟨k, rfl⟩ := Int.eq_ofNat_of_zero_le (show 0 ≤ o by omega)
    refine Tot.pos rfl ?_
    refine Tot.bind (Tot.of_eq (word_some k (by omega))) ?_
    rintro _ rfl
    exact otext_tot (formW k) (formW_len k (by omega)) a b c d (fun n h => ⟨(hn n h).1, by have := (hn n h).2; omega⟩) (formN k) (formN_le k (by omega)) (formN k) 0 (by omega)
theorem impl_OpText_tot (o a b c d : Int) : Tot (fun k => impl_OpText.f k o a b c d) (fun r => r = opTextF o a b c d) := by
  refine Tot.succ ?_
  unfold impl_OpText.f opTextF
  refine Tot.bind (Tot.succ (Tot.succ (Tot.of_eq (impl_OpOk_some 0 o a b c d)))) ?_
  rintro _ rfl
  cases h : opOkB o a b c d with
  | false => exact Tot.neg (by decide) (Tot.ret rfl)
  | true =>
    obtain ⟨h1, h8, hn⟩ := opOk_kind h
    refine Tot.pos rfl ?_
    unfold opTextI
    rw [if_pos ⟨by omega, by omega, fun n h => ⟨by have := hn n h; omega, by have := hn n h; omega⟩⟩]
    exact Tot.ret rfl
end Go.Proofs.YtiihhjfdgojkeaaDoor.X
namespace Go.Proofs.YtiihhjfdgojkeaaDoor.X
open Go.RowKit Go.Proofs.YtiihhjfdgojkeaaDoorW.PrintWords Go.Proofs.YtiihhjfdgojkeaaDoor.Pl
set_option linter.unusedSimpArgs false
set_option linter.unusedVariables false
theorem ba_ext {a b : ByteArray} (h : a.data.toList = b.data.toList) : a = b := by
  obtain ⟨a⟩ := a; obtain ⟨b⟩ := b
  exact congrArg ByteArray.mk (Array.toList_inj.1 h)
theorem ba_app (a b : ByteArray) : (a ++ b).data.toList = a.data.toList ++ b.data.toList := by
  rw [ByteArray.data_append, Array.toList_append]
theorem ba_size (a : ByteArray) : a.size = a.data.toList.length := by
  show a.data.size = _
  rw [Array.length_toList]
theorem ba_mk (l : List UInt8) : (⟨l.toArray⟩ : ByteArray).data.toList = l := rfl
def opT (x : Op) : ByteArray := opTextF x.f0 x.f1 x.f2 x.f3 x.f4
def joinT (xs : List ByteArray) : ByteArray := ⟨(Lib.join (xs.map (·.data.toList)) [44]).toArray⟩
theorem joinT_one (x : ByteArray) : joinT [x] = x := ba_ext (by rw [joinT, ba_mk, List.map_cons, List.map_nil, Lib.join_one])
theorem joinT_snoc (xs : List ByteArray) (h : xs ≠ []) (y : ByteArray) : joinT (xs ++ [y]) = (joinT xs ++ ⟨#[44]⟩) ++ y := by
  obtain ⟨x, r, rfl⟩ := List.exists_cons_of_ne_nil h
  apply ba_ext
  rw [ba_app, ba_app, joinT, joinT, ba_mk, ba_mk, List.cons_append, List.map_cons, List.map_cons, Lib.join_cons, Lib.join_cons, List.map_append, List.map_cons, List.map_nil]
  simp [Lib.joinTail]
theorem opT_len (x : Op) : (opT x).size ≤ 1000 := by
  unfold opT opTextF
  split
  · rename_i h
    obtain ⟨h1, h8, hn⟩ := opOk_kind h
    refine txtI_len _ _ (fun n h => ?_) (formW_len _ (by omega)) (by simp; omega)
    have := hn n (List.mem_of_mem_take h)
    exact ⟨by omega, by omega⟩
  · show 0 ≤ _
    omega
theorem joinT_len (xs : List ByteArray) (h : ∀ x ∈ xs, x.size ≤ 1000) : (joinT xs).size ≤ 1001 * xs.length := by
  cases xs with
  | nil => exact Nat.le_refl _
  | cons x r =>
    rw [ba_size, joinT, ba_mk, List.map_cons, Lib.join_cons, List.length_append, Lib.joinTail_length]
    have h0 := h x (List.mem_cons_self ..)
    rw [ba_size] at h0
    have key : ∀ r : List ByteArray, (∀ x ∈ r, x.size ≤ 1000) → Lib.lens (r.map (·.data.toList)) ≤ 1000 * r.length := by
      intro r
      induction r with
      | nil => intro _; exact Nat.le_refl _
      | cons y r ih =>
        intro h
        have h1 := ih (fun z hz => h z (List.mem_cons_of_mem _ hz))
        have h2 := h y (List.mem_cons_self ..)
        rw [ba_size] at h2
        simp only [Lib.lens, List.map_cons, List.sum_cons, List.length_cons] at h1 ⊢
        omega
    have := key r (fun z hz => h z (List.mem_cons_of_mem _ hz))
    simp only [List.length_map, List.length_cons, List.length_nil]
    omega
/-- All that is done, as text. -/
def opsF (l : List Op) : ByteArray := if l.length = 0 then ⟨#[45]⟩ else joinT (l.map opT)
theorem opsF_len (l : List Op) (h : l.length ≤ 5) : (opsF l).size ≤ 5100 := by
  unfold opsF
  split
  · show 1 ≤ _
    omega
  · have := joinT_len (l.map opT) (fun x hx => by obtain ⟨y, _, rfl⟩ := List.mem_map.1 hx; exact opT_len y)
    rw [List.length_map] at this
    omega
theorem take_opT (l : List Op) (i : Nat) (h : i < l.length) : (l.map opT).take (i + 1) = (l.map opT).take i ++ [opT (opAt l i)] := by
  rw [List.take_add_one, List.getElem?_eq_getElem (by simpa using h)]
  simp [opAt, rd_T25, List.getD_eq_getElem?_getD, h]
theorem take_len (l : List Op) (i : Nat) (h : i ≤ l.length) : ((l.map opT).take i).length = i := by simp; omega
theorem take_small (l : List Op) (i : Nat) (h : l.length ≤ 5) : (joinT ((l.map opT).take i)).size ≤ 5005 := by
  have := joinT_len ((l.map opT).take i) (fun x hx => by obtain ⟨y, _, rfl⟩ := List.mem_map.1 (List.mem_of_mem_take hx); exact opT_len y)
  have h2 : ((l.map opT).take i).length ≤ 5 := by simp; omega
  omega
theorem l7Ops_tot (l : List Op) (hl : l.length ≤ 5) : ∀ e i, i + e = l.length → Tot (fun k => spec_l7Ops.l0 k l (joinT ((l.map opT).take i)) i) (fun r => r = joinT (l.map opT))
  | 0, i, h => by
    refine Tot.succ ?_
    simp only [spec_l7Ops.l0]
    refine Tot.neg (by omega) (Tot.ret ?_)
    rw [List.take_of_length_le (by simp; omega)]
  | e + 1, i, h => by
    have ih := l7Ops_tot l hl e (i + 1) (by omega)
    have hs := take_small l i hl
    have ht := opT_len (opAt l i)
    rw [take_opT l i (by omega)] at ih
    refine Tot.succ ?_
    simp only [spec_l7Ops.l0]
    refine Tot.pos (by omega) ?_
    by_cases h0 : i = 0
    · subst h0
      refine Tot.neg (by omega) (Tot.pos (by omega) ?_)
      refine Tot.bind (spec_OpText_tot _ _ _ _ _) ?_
      rintro _ rfl
      have e0 : (⟨#[]⟩ : ByteArray) ++ opT (opAt l 0) = opT (opAt l 0) := ba_ext (by rw [ba_app]; rfl)
      have e1 : joinT ((l.map opT).take 0) = ⟨#[]⟩ := rfl
      rw [List.take_zero, List.nil_append, joinT_one] at ih
      rw [e1]
      refine Tot.pos (by show 0 + (opT (opAt l 0)).size ≤ _; omega) ?_
      rw [wr_id (by omega) (by omega)]
      show Tot (fun k => spec_l7Ops.l0 k l ((⟨#[]⟩ : ByteArray) ++ opT (opAt l 0)) _) _
      rw [e0]
      exact ih
    · have hne : (l.map opT).take i ≠ [] := by
        intro hh
        have := congrArg List.length hh
        rw [take_len l i (by omega)] at this
        exact h0 (by simpa using this)
      rw [joinT_snoc _ hne] at ih
      refine Tot.pos (by omega) (Tot.pos (by omega) (Tot.pos (by omega) ?_))
      refine Tot.bind (spec_OpText_tot _ _ _ _ _) ?_
      rintro _ rfl
      refine Tot.pos ?_ ?_
      · rw [ByteArray.size_append]
        show _ + 1 + (opT (opAt l i)).size ≤ _
        omega
      · rw [wr_id (by omega) (by omega)]
        exact ih
theorem spec_l7Ops_tot (l : List Op) (hl : l.length ≤ 5) : Tot (fun k => spec_l7Ops.f k l) (fun r => r = opsF l) := by
  unfold spec_l7Ops.f opsF
  by_cases h : l.length = 0
  · rw [if_pos h]
    exact Tot.pos (by omega) (Tot.ret rfl)
  · rw [if_neg h]
    exact Tot.neg (by omega) (l7Ops_tot l hl l.length 0 (by omega))
/-- What is asked, as text. -/
def askI (ops path : ByteArray) (till : Int) : ByteArray := (((((⟨#[47]⟩ : ByteArray) ++ ops) ++ (⟨#[47]⟩ : ByteArray)) ++ path) ++ (⟨#[63, 101, 61]⟩ : ByteArray)) ++ ⟨(Lib.itoa till).toArray⟩
def askF (l : List Op) (path : ByteArray) (till : Int) : ByteArray := if askB l path till then askI (opsF l) path till else ⟨#[]⟩
theorem askB_parts {l : List Op} {path : ByteArray} {till : Int} (h : askB l path till = true) : l.length ≤ 5 ∧ (1 ≤ path.size ∧ path.size ≤ 6) ∧ 0 ≤ till ∧ till ≤ 9999 := by
  simp only [askB, allOkB, nameB, Bool.and_eq_true, decide_eq_true_eq] at h
  exact ⟨h.1.1, h.2.1.1, h.2.2.1, h.2.2.2⟩
theorem spec_AskText_tot (l : List Op) (hl : l.length ≤ 4611686018427387904) (path : ByteArray) (till : Int) : Tot (fun k => spec_AskText.f k l path till) (fun r => r = askF l path till) := by
  unfold spec_AskText.f askF
  refine Tot.bind (Tot.of_ev (spec_AskOk_ev l hl path till)) ?_
  rintro _ rfl
  cases h : askB l path till with
  | false => exact Tot.neg (by decide) (Tot.ret rfl)
  | true =>
    obtain ⟨h5, hp, ht0, ht1⟩ := askB_parts h
    obtain ⟨n, rfl⟩ := Int.eq_ofNat_of_zero_le ht0
    have ho := opsF_len l h5
    have hi := Lib.itoa_length_le (n : Int) (by omega) (by omega)
    refine Tot.pos rfl ?_
    refine Tot.bind (spec_l7Ops_tot l h5) ?_
    rintro _ rfl
    refine Tot.pos (by omega) (Tot.pos ?_ (Tot.pos ?_ (Tot.pos ?_ ?_)))
    · rw [ByteArray.size_append]; show 1 + _ + 1 ≤ _; omega
    · rw [ByteArray.size_append, ByteArray.size_append]; show 1 + _ + 1 + _ ≤ _; omega
    · rw [ByteArray.size_append, ByteArray.size_append, ByteArray.size_append]; show 1 + _ + 1 + _ + 3 ≤ _; omega
    · refine Tot.bind (plainF_tot n (by omega)) ?_
      rintro _ rfl
      refine Tot.pos ?_ (Tot.ret rfl)
      rw [ByteArray.size_append, ByteArray.size_append, ByteArray.size_append, ByteArray.size_append]
      show 1 + _ + 1 + _ + 3 + (Lib.itoa (n : Int)).toArray.size ≤ _
      rw [List.size_toArray]
      omega
theorem impl_askLoop_tot (l : List Op) (h5 : l.length ≤ 5) (path : ByteArray) (hp : path.size ≤ 6) (n : Nat) (hn : n ≤ 9999) : ∀ e i, i + e = l.length → Tot (fun k => impl_AskText.l0 k ((l.map opT).take i) l l.length i l path n) (fun r => r = askI (opsF l) path n)
  | 0, i, h => by
    have ho := opsF_len l h5
    have hi := Lib.itoa_length_le (n : Int) (by omega) (by omega)
    have hI : strconv_Itoa_54.f (n : Int) = some ⟨(Lib.itoa (n : Int)).toArray⟩ := by unfold strconv_Itoa_54.f; rw [if_pos ⟨by omega, by omega⟩]
    refine Tot.succ ?_
    simp only [impl_AskText.l0]
    refine Tot.neg (by omega) ?_
    rw [List.take_of_length_le (by simp; omega)]
    by_cases h0 : l.length = 0
    · refine Tot.neg (by rw [List.length_map]; omega) ?_
      have e : opsF l = ⟨#[45]⟩ := by unfold opsF; rw [if_pos h0]
      rw [e]
      refine Tot.pos (by omega) (Tot.pos ?_ (Tot.pos ?_ ?_))
      · rw [ByteArray.size_append]; show 1 + 1 + 1 + _ ≤ _; omega
      · rw [ByteArray.size_append, ByteArray.size_append]; show 1 + 1 + 1 + _ + 3 ≤ _; omega
      · refine Tot.bind (Tot.of_eq hI) ?_
        rintro _ rfl
        refine Tot.pos ?_ (Tot.ret rfl)
        rw [ByteArray.size_append, ByteArray.size_append]
        show 1 + 1 + 1 + _ + 3 + (Lib.itoa (n : Int)).toArray.size ≤ _
        rw [List.size_toArray]
        omega
    · refine Tot.pos (by rw [List.length_map]; omega) ?_
      have e : opsF l = joinT (l.map opT) := by unfold opsF; rw [if_neg h0]
      have hJ : strings_Join.f (l.map opT) ⟨#[44]⟩ = some (opsF l) := by
        have hh := opsF_len l h5
        rw [e, ba_size] at hh
        unfold strings_Join.f
        rw [if_pos ⟨by simp; omega, by have : (Lib.join ((l.map opT).map (·.data.toList)) [44]).length ≤ 5100 := hh; show (Lib.join _ [44]).length ≤ _; omega⟩, e]
        rfl
      refine Tot.bind (Tot.of_eq hJ) ?_
      rintro _ rfl
      refine Tot.pos (by omega) (Tot.pos ?_ (Tot.pos ?_ (Tot.pos ?_ ?_)))
      · rw [ByteArray.size_append]; show 1 + _ + 1 ≤ _; omega
      · rw [ByteArray.size_append, ByteArray.size_append]; show 1 + _ + 1 + _ ≤ _; omega
      · rw [ByteArray.size_append, ByteArray.size_append, ByteArray.size_append]; show 1 + _ + 1 + _ + 3 ≤ _; omega
      · refine Tot.bind (Tot.of_eq hI) ?_
        rintro _ rfl
        refine Tot.pos ?_ (Tot.ret rfl)
        rw [ByteArray.size_append, ByteArray.size_append, ByteArray.size_append, ByteArray.size_append]
        show 1 + _ + 1 + _ + 3 + (Lib.itoa (n : Int)).toArray.size ≤ _
        rw [List.size_toArray]
        omega
  | e + 1, i, h => by
    have ih := impl_askLoop_tot l h5 path hp n hn e (i + 1) (by omega)
    rw [take_opT l i (by omega)] at ih
    refine Tot.succ ?_
    simp only [impl_AskText.l0]
    refine Tot.pos (by omega) (Tot.pos (by omega) (Tot.pos (by omega) ?_))
    refine Tot.bind (impl_OpText_tot _ _ _ _ _) ?_
    rintro _ rfl
    refine Tot.pos (by rw [take_len l i (by omega)]; omega) ?_
    rw [wr_id (by omega) (by omega)]
    exact ih
theorem impl_AskText_tot (l : List Op) (hl : l.length ≤ 4611686018427387904) (path : ByteArray) (till : Int) : Tot (fun k => impl_AskText.f k l path till) (fun r => r = askF l path till) := by
  unfold impl_AskText.f askF
  refine Tot.bind (Tot.of_ev (impl_AskOk_ev l hl path till)) ?_
  rintro _ rfl
  cases h : askB l path till with
  | false => exact Tot.neg (by decide) (Tot.ret rfl)
  | true =>
    obtain ⟨h5, hp, ht0, ht1⟩ := askB_parts h
    obtain ⟨n, rfl⟩ := Int.eq_ofNat_of_zero_le ht0
    refine Tot.pos rfl (Tot.pos (by omega) (Tot.pos (by omega) ?_))
    exact impl_askLoop_tot l h5 path hp.2 n (by omega) l.length 0 (by omega)
end Go.Proofs.YtiihhjfdgojkeaaDoor.X
namespace Go.Proofs.YtiihhjfdgojkeaaDoor.X
open Go.RowKit Go.Proofs.YtiihhjfdgojkeaaDoorW.PrintWords Go.Proofs.YtiihhjfdgojkeaaDoor.Pl
set_option linter.unusedSimpArgs false

theorem bits_xor_nonneg (a b : Int) (ha : 0 ≤ a) (ha' : a < 4611686018427387904) (hb : 0 ≤ b) (hb' : b < 4611686018427387904) : 0 ≤ Go.bits .xor .i64 a b ∧ Go.bits .xor .i64 a b < 4611686018427387904 := by
  obtain ⟨m, rfl⟩ := Int.eq_ofNat_of_zero_le ha
  obtain ⟨n, rfl⟩ := Int.eq_ofNat_of_zero_le hb
  have h1 : m < 2 ^ 62 := by omega
  have h2 : n < 2 ^ 62 := by omega
  have hx : m ^^^ n < 2 ^ 62 := Nat.xor_lt_two_pow h1 h2
  have hm : m % 2 ^ 64 = m := Nat.mod_eq_of_lt (by omega)
  have hn : n % 2 ^ 64 = n := Nat.mod_eq_of_lt (by omega)
  have e : Go.bits .xor .i64 (m : Int) (n : Int) = ((m ^^^ n : Nat) : Int) := by
    have hb : (BitVec.ofNat 64 m ^^^ BitVec.ofNat 64 n).toNat = m ^^^ n := by rw [BitVec.toNat_xor, BitVec.toNat_ofNat, BitVec.toNat_ofNat, hm, hn]
    simp only [Go.bits, IntKind.bits, BitVec.ofInt_natCast]
    rw [IntKind.wrap_i64]
    change (((BitVec.ofNat 64 m ^^^ BitVec.ofNat 64 n).toNat : Int) + 9223372036854775808) % 18446744073709551616 - 9223372036854775808 = _
    rw [hb]
    omega
  rw [e]
  omega

/-- The bytes of a code. -/
def Bytes (l : List Int) : Prop := l.length ≤ 2000 ∧ ∀ y ∈ l, 0 ≤ y ∧ y ≤ 255
theorem bytes_rd {l : List Int} (h : Bytes l) (i : Int) : 0 ≤ rd l i ∧ rd l i ≤ 255 := by
  unfold rd
  by_cases hi : i.toNat < l.length
  · exact h.2 _ (getD_mem l 0 i.toNat hi)
  · rw [List.getD_eq_getElem?_getD, List.getElem?_eq_none (by omega)]
    simp

theorem tmod_bd (a n : Int) (ha : 0 ≤ a) (hn : 0 < n) : 0 ≤ Int.tmod a n ∧ Int.tmod a n < n := by
  rw [Int.tmod_eq_emod_of_nonneg ha]
  exact ⟨Int.emod_nonneg _ (by omega), Int.emod_lt_of_pos _ hn⟩

theorem pick_ev (l : List Int) (hl : Bytes l) (p n : Int) (h0 : 0 ≤ p) (h1 : p ≤ 1000000000000) :
    ∃ r, Ev (fun k => spec_l20Rd_pick.f k l p n) (r, p + 1) ∧ 0 ≤ r ∧ (1 ≤ n → r < n) ∧ (n < 1 → r = 0) := by
  have w1 : wrap64 (p + 1) = p + 1 := wrap_id (by omega) (by omega)
  have w2 : wrap64 (p + 1 - 1) = p := by rw [show p + 1 - 1 = p by omega]; exact wrap_id (by omega) (by omega)
  by_cases hn : n < 1
  · refine ⟨0, ev_succ ⟨0, fun k _ => ?_⟩, by omega, fun h => absurd h (by omega), fun _ => rfl⟩
    simp [spec_l20Rd_pick.f, hn, spec_l20Rd_pick.j0, w1]
  have hne : ¬ (n = 0) := by omega
  by_cases hz : l.length = 0
  · refine ⟨0, ev_succ ⟨0, fun k _ => ?_⟩, by omega, fun h => by omega, fun h => absurd h hn⟩
    simp [spec_l20Rd_pick.f, hn, hz, spec_l20Rd_pick.j0, w1]
  have hz' : ¬ ((l.length : Int) = 0) := by omega
  have hzb : ((l.length : Int) == 0) = false := by simpa using hz
  by_cases hlt : p < (l.length : Int)
  · have hb := bytes_rd hl p
    have w3 : wrap64 (rd l p) = rd l p := wrap_id (by omega) (by omega)
    have ht := tmod_bd (rd l p) n hb.1 (by omega)
    refine ⟨Int.tmod (rd l p) n, ev_succ ⟨0, fun k _ => ?_⟩, ht.1, fun _ => ht.2, fun h => absurd h hn⟩
    simp only [spec_l20Rd_pick.f]
    rw [if_neg hn, hzb, w1]
    simp only [spec_l20Rd_pick.j0]
    rw [if_neg (by decide), w2, if_pos hlt, if_pos h0, if_neg hne, w3]
  · have L0 : (0 : Int) < (l.length : Int) := by omega
    have m1 := tmod_bd p (l.length : Int) h0 L0
    have w4 : wrap64 (p * 7) = p * 7 := wrap_id (by omega) (by omega)
    have w5 : wrap64 (p * 7 + 3) = p * 7 + 3 := wrap_id (by omega) (by omega)
    have m2 := tmod_bd (p * 7 + 3) (l.length : Int) (by omega) L0
    obtain ⟨i1, hi1⟩ : ∃ i, i = Int.tmod p (l.length : Int) := ⟨_, rfl⟩
    obtain ⟨i2, hi2⟩ : ∃ i, i = Int.tmod (p * 7 + 3) (l.length : Int) := ⟨_, rfl⟩
    have b1 := bytes_rd hl i1
    have b2 := bytes_rd hl i2
    obtain ⟨v1, hv1⟩ : ∃ v, v = rd l i1 := ⟨_, rfl⟩
    obtain ⟨v2, hv2⟩ : ∃ v, v = rd l i2 := ⟨_, rfl⟩
    have d1 : 0 ≤ Int.tdiv p (l.length : Int) ∧ Int.tdiv p (l.length : Int) ≤ p := by
      rw [Int.tdiv_eq_ediv_of_nonneg h0]
      exact ⟨Int.ediv_nonneg h0 (by omega), Int.ediv_le_self _ h0⟩
    obtain ⟨q, hq⟩ : ∃ q, q = Int.tdiv p (l.length : Int) := ⟨_, rfl⟩
    rw [← hi1] at m1
    rw [← hi2] at m2
    rw [← hv1] at b1
    rw [← hv2] at b2
    rw [← hq] at d1
    have x1 : wrap64 v1 = v1 := wrap_id (by omega) (by omega)
    have x2 : wrap64 v2 = v2 := wrap_id (by omega) (by omega)
    have x3 : wrap64 (v1 * 131) = v1 * 131 := wrap_id (by omega) (by omega)
    have x4 : wrap64 (v2 * 1117) = v2 * 1117 := wrap_id (by omega) (by omega)
    have x5 : wrap64 (v1 * 131 + v2 * 1117) = v1 * 131 + v2 * 1117 := wrap_id (by omega) (by omega)
    have x6 : wrap64 (p * 29) = p * 29 := wrap_id (by omega) (by omega)
    have x7 : wrap64 (v1 * 131 + v2 * 1117 + p * 29) = v1 * 131 + v2 * 1117 + p * 29 := wrap_id (by omega) (by omega)
    have x8 : wrap64 q = q := wrap_id (by omega) (by omega)
    have x9 : wrap64 (q * 53) = q * 53 := wrap_id (by omega) (by omega)
    have x10 : wrap64 (v1 * 131 + v2 * 1117 + p * 29 + q * 53) = v1 * 131 + v2 * 1117 + p * 29 + q * 53 := wrap_id (by omega) (by omega)
    obtain ⟨s, hs⟩ : ∃ s, s = v1 * 131 + v2 * 1117 + p * 29 + q * 53 := ⟨_, rfl⟩
    have hs0 : 0 ≤ s := by omega
    have hs1 : s ≤ 1000000000000000 := by omega
    have x11 : wrap64 (Int.tdiv s 64) = s / 64 := by
      rw [Int.tdiv_eq_ediv_of_nonneg hs0]
      exact wrap_id (by omega) (by omega)
    have hx := bits_xor_nonneg s (s / 64) hs0 (by omega) (by omega) (by omega)
    have ht := tmod_bd (Go.bits .xor .i64 s (s / 64)) n hx.1 (by omega)
    refine ⟨Int.tmod (Go.bits .xor .i64 s (s / 64)) n, ev_succ ⟨0, fun k _ => ?_⟩, ht.1, fun _ => ht.2, fun h => absurd h hn⟩
    simp only [spec_l20Rd_pick.f]
    rw [if_neg hn, hzb, w1]
    simp only [spec_l20Rd_pick.j0]
    rw [if_neg (by decide), w2, if_neg hlt, if_neg hz', w4, w5, ← hi1, ← hi2, if_pos m1.1, if_pos m1.2, if_pos m2.1, if_pos m2.2, if_neg hne, ← hv1, ← hv2, ← hq]
    simp only [x1, x2, x3, x4, x5, x6, x7, x8, x9, x10]
    rw [← hs, x11]

theorem odd_ev (l : List Int) (hl : Bytes l) (p n : Int) (h0 : 0 ≤ p) (h1 : p ≤ 1000000000000) (hn : n ≤ 1000000) :
    ∃ b q, Ev (fun k => spec_l20Rd_odd.f k l p n) (b, q) ∧ p ≤ q ∧ q ≤ p + 1 ∧ (n ≤ 0 → b = false) := by
  by_cases hn0 : n > 0
  · obtain ⟨r, ⟨K, hr⟩, _, _, _⟩ := pick_ev l hl p n h0 h1
    refine ⟨r == wrap64 (n - 1), p + 1, ⟨K, fun k hk => ?_⟩, by omega, by omega, fun h => absurd h (by omega)⟩
    have := hr k hk
    dsimp only at this
    simp [spec_l20Rd_odd.f, hn0, this]
  · refine ⟨false, p, ⟨0, fun k _ => ?_⟩, by omega, by omega, fun _ => rfl⟩
    simp [spec_l20Rd_odd.f, hn0]

theorem pick_tot {l : List Int} (hl : Bytes l) (p n : Int) (h0 : 0 ≤ p) (h1 : p ≤ 1000000000000) :
    Tot (fun k => spec_l20Rd_pick.f k l p n) (fun x => x.2 = p + 1 ∧ 0 ≤ x.1 ∧ (1 ≤ n → x.1 < n) ∧ (n < 1 → x.1 = 0)) := by
  obtain ⟨r, h, a, b, c⟩ := pick_ev l hl p n h0 h1
  exact ⟨_, h, rfl, a, b, c⟩
theorem odd_tot {l : List Int} (hl : Bytes l) (p n : Int) (h0 : 0 ≤ p) (h1 : p ≤ 1000000000000) (hn : n ≤ 1000000) :
    Tot (fun k => spec_l20Rd_odd.f k l p n) (fun x => p ≤ x.2 ∧ x.2 ≤ p + 1 ∧ (n ≤ 0 → x.1 = false)) := by
  obtain ⟨b, q, h, c⟩ := odd_ev l hl p n h0 h1 hn
  exact ⟨_, h, c⟩
theorem open_some (l : List Int) (hu : ∀ y ∈ l, 0 ≤ y ∧ y ≤ 255) : ∃ b, spec_l20Open.f l = some (b, 0) ∧ Bytes b := by
  unfold spec_l20Open.f
  by_cases h : (l.length : Int) > 2000
  · rw [if_pos h, if_pos (by omega)]
    refine ⟨l.take 2000, rfl, ?_, fun y hy => hu y (List.mem_of_mem_take hy)⟩
    rw [List.length_take]
    omega
  · rw [if_neg h]
    exact ⟨l, rfl, by omega, hu⟩
end Go.Proofs.YtiihhjfdgojkeaaDoor.X
namespace Go.Proofs.YtiihhjfdgojkeaaDoor.X
open Go.RowKit Go.Proofs.YtiihhjfdgojkeaaDoorW.PrintWords Go.Proofs.YtiihhjfdgojkeaaDoor.Pl
set_option linter.unusedSimpArgs false
set_option linter.unusedVariables false

theorem l20Op_j0_tot {l : List Int} (hl : Bytes l) (n p o a b c d : Int) (h0 : 0 ≤ p) (h1 : p ≤ 900000000000) (hn : n ≤ 1000) :
    Tot (fun k => spec_l20Op.j0 k n l p o a b c d) (fun x => p ≤ x.2.2.2.2.2 ∧ x.2.2.2.2.2 ≤ p + 3) := by
  refine Tot.succ ?_
  simp only [spec_l20Op.j0]
  refine Tot.bind (odd_tot hl p n h0 (by omega) (by omega)) ?_
  rintro ⟨b1, p1⟩ ⟨e1, e2, -⟩
  dsimp only at e1 e2 ⊢
  refine Tot.ite ?_ ?_ <;> intro hb
  · refine Tot.bind (pick_tot hl p1 4 (by omega) (by omega)) ?_
    rintro ⟨r2, p2⟩ ⟨e3, e4, e5, -⟩
    dsimp only at e3 e4 e5 ⊢
    refine Tot.ite ?_ ?_ <;> intro h
    all_goals try (refine Tot.ite ?_ ?_ <;> intro h')
    all_goals try (refine Tot.ite ?_ ?_ <;> intro h'')
    all_goals
      refine Tot.some_bind ?_
      refine Tot.bind (pick_tot hl p2 2 (by omega) (by omega)) ?_
      rintro ⟨r3, p3⟩ ⟨e6, e7, e8, -⟩
      dsimp only at e6 e7 e8 ⊢
      refine Tot.pos e7 (Tot.pos ?_ (Tot.ret ?_))
      · simp only [List.length_cons, List.length_nil]; omega
      · dsimp only; omega
  · exact Tot.ret (by dsimp only; omega)

theorem l20Op_tot {l : List Int} (hl : Bytes l) (p n : Int) (h0 : 0 ≤ p) (h1 : p ≤ 800000000000) (hn : n ≤ 1000) :
    Tot (fun k => spec_l20Op.f k l p n) (fun x => p ≤ x.2.2.2.2.2 ∧ x.2.2.2.2.2 ≤ p + 8) := by
  simp only [spec_l20Op.f]
  refine Tot.bind (pick_tot hl p 8 h0 (by omega)) ?_
  rintro ⟨r0, p0⟩ ⟨e1, e2, e3, -⟩
  dsimp only at e1 e2 e3 ⊢
  refine Tot.ite ?_ ?_ <;> intro h
  · refine Tot.bind (pick_tot hl p0 3 (by omega) (by omega)) ?_
    rintro ⟨r4, p4⟩ ⟨e4, -, -, -⟩
    dsimp only at e4 ⊢
    refine Tot.bind (pick_tot hl p4 3 (by omega) (by omega)) ?_
    rintro ⟨r5, p5⟩ ⟨e5, -, -, -⟩
    dsimp only at e5 ⊢
    refine Tot.bind (pick_tot hl p5 4 (by omega) (by omega)) ?_
    rintro ⟨r6, p6⟩ ⟨e6, -, -, -⟩
    dsimp only at e6 ⊢
    refine Tot.bind (pick_tot hl p6 4 (by omega) (by omega)) ?_
    rintro ⟨r7, p7⟩ ⟨e7, -, -, -⟩
    dsimp only at e7 ⊢
    exact (l20Op_j0_tot hl n p7 _ _ _ _ _ (by omega) (by omega) hn).mono (fun x hx => by omega)
  refine Tot.ite ?_ ?_ <;> intro h
  · refine Tot.bind (pick_tot hl p0 6 (by omega) (by omega)) ?_
    rintro ⟨r4, p4⟩ ⟨e4, -, -, -⟩
    dsimp only at e4 ⊢
    refine Tot.bind (pick_tot hl p4 6 (by omega) (by omega)) ?_
    rintro ⟨r5, p5⟩ ⟨e5, -, -, -⟩
    dsimp only at e5 ⊢
    exact (l20Op_j0_tot hl n p5 _ _ _ _ _ (by omega) (by omega) hn).mono (fun x hx => by omega)
  refine Tot.ite ?_ ?_ <;> intro h
  · refine Tot.bind (pick_tot hl p0 256 (by omega) (by omega)) ?_
    rintro ⟨r4, p4⟩ ⟨e4, -, -, -⟩
    dsimp only at e4 ⊢
    refine Tot.bind (pick_tot hl p4 256 (by omega) (by omega)) ?_
    rintro ⟨r5, p5⟩ ⟨e5, -, -, -⟩
    dsimp only at e5 ⊢
    refine Tot.bind (pick_tot hl p5 256 (by omega) (by omega)) ?_
    rintro ⟨r6, p6⟩ ⟨e6, -, -, -⟩
    dsimp only at e6 ⊢
    exact (l20Op_j0_tot hl n p6 _ _ _ _ _ (by omega) (by omega) hn).mono (fun x hx => by omega)
  · exact (l20Op_j0_tot hl n p0 _ _ _ _ _ (by omega) (by omega) hn).mono (fun x hx => by omega)

abbrev DOp := S25
theorem l20Ops_l1_tot {l : List Int} (p : Int) : ∀ s : List DOp, s.length ≤ 100 → Tot (fun k => spec_l20Ops.l1 k s l p) (fun x => x.1.length ≤ 100 ∧ x.2 = p) := by
  refine tot_ind (fun k s => spec_l20Ops.l1 k s l p) (fun s => s.length ≤ 100) (fun s => 6 - s.length) _ ?_
  intro s hs ih
  refine Tot.succ ?_
  simp only [spec_l20Ops.l1]
  refine Tot.ite ?_ ?_ <;> intro h
  · refine Tot.pos (by omega) ?_
    exact ih (s ++ [⟨4, 0, 0, 0, 0⟩]) (by simp; omega) (by simp; omega)
  · exact Tot.ret ⟨hs, rfl⟩
theorem l20Ops_j1_tot {l : List Int} (hl : Bytes l) (n : Int) (s : List DOp) (p : Int) (hs : s.length ≤ 100) (h0 : 0 ≤ p) (h1 : p ≤ 750000000000) (hn : n ≤ 1000) :
    Tot (fun k => spec_l20Ops.j1 k n s l p) (fun x => x.1.length ≤ 100 ∧ p ≤ x.2 ∧ x.2 ≤ p + 1) := by
  refine Tot.succ ?_
  simp only [spec_l20Ops.j1]
  refine Tot.bind (odd_tot hl p n h0 (by omega) (by omega)) ?_
  rintro ⟨b1, p1⟩ ⟨e1, e2, -⟩
  dsimp only at e1 e2 ⊢
  refine Tot.ite ?_ ?_ <;> intro hb
  · exact (l20Ops_l1_tot p1 s hs).mono (fun x hx => ⟨hx.1, by omega, by omega⟩)
  · exact Tot.ret ⟨hs, e1, e2⟩
theorem l20Ops_l0_tot {l : List Int} (hl : Bytes l) (n P : Int) (hP : P ≤ 700000000000) (hn : n ≤ 1000) : ∀ s : List DOp × Int × Int, (0 ≤ s.2.2 ∧ s.2.1 ≤ 5 ∧ s.1.length ≤ 50 - s.2.1.toNat ∧ s.2.2 + 8 * (max s.2.1 0) ≤ P) →
    Tot (fun k => spec_l20Ops.l0 k n s.1 s.2.1 l s.2.2) (fun x => x.1.length ≤ 100 ∧ 0 ≤ x.2 ∧ x.2 ≤ P + 20) := by
  refine tot_ind (fun k (s : List DOp × Int × Int) => spec_l20Ops.l0 k n s.1 s.2.1 l s.2.2) _ (fun s => s.2.1.toNat) _ ?_
  rintro ⟨s, c, p⟩ ⟨i1, i2, i4, i5⟩ ih
  dsimp only at i1 i2 i4 i5 ⊢
  refine Tot.succ ?_
  simp only [spec_l20Ops.l0]
  refine Tot.ite ?_ ?_ <;> intro h
  · refine Tot.bind (l20Op_tot hl p 0 (by omega) (by omega) (by omega)) ?_
    rintro ⟨o, a, b, c', d, q⟩ ⟨e1, e2⟩
    dsimp only at e1 e2 ⊢
    refine Tot.pos (by omega) ?_
    have w : wrap64 (c - 1) = c - 1 := wrap_id (by omega) (by omega)
    rw [w]
    exact ih (s ++ [⟨o, a, b, c', d⟩], c - 1, q) (by dsimp only; rw [List.length_append]; simp only [List.length_cons, List.length_nil]; omega) (by dsimp only; omega)
  · refine Tot.bind (odd_tot hl p n (by omega) (by omega) (by omega)) ?_
    rintro ⟨b1, p1⟩ ⟨e1, e2, -⟩
    dsimp only at e1 e2 ⊢
    refine Tot.ite ?_ ?_ <;> intro hb
    · refine Tot.bind (l20Op_tot hl p1 1 (by omega) (by omega) (by omega)) ?_
      rintro ⟨o, a, b, c', d, q⟩ ⟨e3, e4⟩
      dsimp only at e3 e4 ⊢
      refine Tot.pos (by omega) ?_
      exact (l20Ops_j1_tot hl n _ q (by rw [List.length_append]; simp only [List.length_cons, List.length_nil]; omega) (by omega) (by omega) hn).mono (fun x hx => ⟨hx.1, by omega, by omega⟩)
    · exact (l20Ops_j1_tot hl n s p1 (by omega) (by omega) (by omega) hn).mono (fun x hx => ⟨hx.1, by omega, by omega⟩)
theorem l20Ops_tot {l : List Int} (hl : Bytes l) (p n : Int) (h0 : 0 ≤ p) (h1 : p ≤ 600000000000) (hn : n ≤ 1000) :
    Tot (fun k => spec_l20Ops.f k l p n) (fun x => x.1.length ≤ 100 ∧ 0 ≤ x.2 ∧ x.2 ≤ p + 100) := by
  simp only [spec_l20Ops.f]
  refine Tot.bind (pick_tot hl p 6 h0 (by omega)) ?_
  rintro ⟨r0, p0⟩ ⟨e1, e2, e3, -⟩
  dsimp only at e1 e2 e3 ⊢
  exact (l20Ops_l0_tot hl n (p0 + 50) (by omega) hn ([], r0, p0) (by dsimp only [List.length_nil]; omega)).mono (fun x hx => ⟨hx.1, by omega, by omega⟩)
end Go.Proofs.YtiihhjfdgojkeaaDoor.X
namespace Go.Proofs.YtiihhjfdgojkeaaDoor.X
open Go.RowKit Go.Proofs.YtiihhjfdgojkeaaDoorW.PrintWords Go.Proofs.YtiihhjfdgojkeaaDoor.Pl
set_option linter.unusedSimpArgs false
set_option linter.unusedVariables false
theorem l20Path_tot {l : List Int} (hl : Bytes l) (p : Int) (h0 : 0 ≤ p) (h1 : p ≤ 900000000000) : Tot (fun k => spec_l20Path.f k l p) (fun x => x.2 = p + 1) := by
  simp only [spec_l20Path.f]
  refine Tot.some_bind ?_
  refine Tot.bind (pick_tot hl p 5 h0 (by omega)) ?_
  rintro ⟨r0, p0⟩ ⟨e1, e2, e3, -⟩
  dsimp only at e1 e2 e3 ⊢
  refine Tot.pos e2 (Tot.pos ?_ (Tot.ret e1))
  simp only [List.length_cons, List.length_nil]; omega
theorem l20Ask_tot {l : List Int} (hl : Bytes l) (p n : Int) (h0 : 0 ≤ p) (h1 : p ≤ 500000000000) (hn : n ≤ 1000) :
    Tot (fun k => spec_l20Ask.f k l p n) (fun x => x.1.length ≤ 101 ∧ 0 ≤ x.2.2.2 ∧ x.2.2.2 ≤ p + 200) := by
  simp only [spec_l20Ask.f]
  refine Tot.bind (l20Ops_tot hl p 0 h0 (by omega) (by omega)) ?_
  rintro ⟨ops, p0⟩ ⟨f1, f2, f3⟩
  dsimp only at f1 f2 f3 ⊢
  refine Tot.bind (l20Path_tot hl p0 (by omega) (by omega)) ?_
  rintro ⟨s, p1⟩ f4
  dsimp only at f4 ⊢
  refine Tot.bind (pick_tot hl p1 80 (by omega) (by omega)) ?_
  rintro ⟨r2, p2⟩ ⟨e4, -, -, -⟩
  dsimp only at e4 ⊢
  refine Tot.some_bind ?_
  refine Tot.bind (pick_tot hl p2 2 (by omega) (by omega)) ?_
  rintro ⟨r3, p3⟩ ⟨e5, e6, e7, -⟩
  dsimp only at e5 e6 e7 ⊢
  refine Tot.pos e6 (Tot.pos (by simp only [List.length_cons, List.length_nil]; omega) ?_)
  refine Tot.bind (odd_tot hl p3 n (by omega) (by omega) (by omega)) ?_
  rintro ⟨b4, p4⟩ ⟨e8, e9, -⟩
  dsimp only at e8 e9 ⊢
  refine Tot.ite ?_ ?_ <;> intro hb
  · refine Tot.bind (pick_tot hl p4 3 (by omega) (by omega)) ?_
    rintro ⟨r5, p5⟩ ⟨e10, e11, e12, -⟩
    dsimp only at e10 e11 e12 ⊢
    refine Tot.ite ?_ ?_ <;> intro h
    · refine Tot.some_bind ?_
      refine Tot.bind (pick_tot hl p5 4 (by omega) (by omega)) ?_
      rintro ⟨r6, p6⟩ ⟨g1, g2, g3, -⟩
      dsimp only at g1 g2 g3 ⊢
      exact Tot.pos g2 (Tot.pos (by simp only [List.length_cons, List.length_nil]; omega) (Tot.ret ⟨by dsimp only; omega, by dsimp only; omega, by dsimp only; omega⟩))
    refine Tot.ite ?_ ?_ <;> intro h
    · refine Tot.some_bind ?_
      refine Tot.bind (pick_tot hl p5 2 (by omega) (by omega)) ?_
      rintro ⟨r6, p6⟩ ⟨g1, g2, g3, -⟩
      dsimp only at g1 g2 g3 ⊢
      exact Tot.pos g2 (Tot.pos (by simp only [List.length_cons, List.length_nil]; omega) (Tot.ret ⟨by dsimp only; omega, by dsimp only; omega, by dsimp only; omega⟩))
    · refine Tot.bind (l20Op_tot hl p5 1 (by omega) (by omega) (by omega)) ?_
      rintro ⟨o, a, b, c', d, q⟩ ⟨g1, g2⟩
      dsimp only at g1 g2 ⊢
      exact Tot.pos (by omega) (Tot.ret ⟨by dsimp only; rw [List.length_append]; simp only [List.length_cons, List.length_nil]; omega, by dsimp only; omega, by dsimp only; omega⟩)
  · exact Tot.ret ⟨by dsimp only; omega, by dsimp only; omega, by dsimp only; omega⟩
end Go.Proofs.YtiihhjfdgojkeaaDoor.X
namespace Go.Proofs.YtiihhjfdgojkeaaDoor.Pure
open Go.RowKit Go.Proofs.YtiihhjfdgojkeaaDoorW.PrintWords Go.Proofs.YtiihhjfdgojkeaaDoor.Pl Go.Proofs.YtiihhjfdgojkeaaDoor.X
set_option linter.unusedVariables false
set_option linter.unusedSimpArgs false
theorem ByteOk {n : Int} (h : (Lit.int .u8 n).wf = true) : 0 ≤ n ∧ n ≤ 255 := by
  simp [Lit.wf, IntKind.min, IntKind.max, IntKind.signed, IntKind.bits] at h; omega
theorem itoa4 (n : Nat) (h : n ≤ 9999) : 1 ≤ (Lib.itoa (n : Int)).length ∧ (Lib.itoa (n : Int)).length ≤ 4 := by
  rw [Lib.itoa_nonneg, Lib.decDigits_length]
  refine ⟨Lib.nDigits_pos n, ?_⟩
  by_cases h1 : n < 10
  · rw [Lib.nDigits_small h1]; omega
  rw [Lib.nDigits_big h1]
  by_cases h2 : n / 10 < 10
  · rw [Lib.nDigits_small h2]; omega
  rw [Lib.nDigits_big h2]
  by_cases h3 : n / 10 / 10 < 10
  · rw [Lib.nDigits_small h3]; omega
  rw [Lib.nDigits_big h3, Lib.nDigits_small (by omega)]
  omega
theorem ext_head (a b : ByteArray) : ((a ++ b).extract 0 ((a.size : Int)).toNat).toList = a.toList := by
  congr 1
  apply ba_ext
  rw [Int.toNat_natCast, ba_size, ByteArray.data_extract, Array.toList_extract, ba_app]
  simp
/-- The last words, once the text that is awaited stands. -/
theorem askEnd (W : ByteArray) (n : Nat) (hn : n ≤ 9999) (hW : W.size ≤ 6000) (x4 : ByteArray) (hx : x4 = W ++ ⟨(Lib.itoa (n : Int)).toArray⟩) :
    Tot (fun _ => if (x4.size : Int) > (W.size : Int) then (if 0 ≤ (W.size : Int) then (if (W.size : Int) ≤ (x4.size : Int) then (if (x4.extract 0 ((W.size : Int) : Int).toNat).toList = W.toList then (some (decide ((x4.size : Int) ≤ (wrap64 ((W.size : Int) + 4))))) else (some false)) else none) else none) else (some false)) (fun b => b = true) := by
  have hi := itoa4 n hn
  have hs : x4.size = W.size + (Lib.itoa (n : Int)).length := by
    rw [hx, ByteArray.size_append]
    show _ + (Lib.itoa (n : Int)).toArray.size = _
    rw [List.size_toArray]
  refine Tot.pos (by omega) (Tot.pos (by omega) (Tot.pos (by omega) (Tot.pos ?_ (Tot.ret ?_))))
  · rw [hx, ext_head]
  · rw [wr_id (by omega) (by omega)]
    exact decide_eq_true (by omega)
theorem sl_app (a : ByteArray) (b c : ByteArray) : a ++ b ++ c = a ++ (b ++ c) := ByteArray.append_assoc
theorem askOps_loop (l : List X.Op) (h5 : l.length ≤ 5) (path : ByteArray) (hp : path.size ≤ 6) (n : Nat) (hn : n ≤ 9999) : ∀ e i, i + e = l.length → Tot (fun k => laws_FnAskOps.l0 k (askI (opsF l) path n) (⟨#[47]⟩ ++ joinT ((l.map opT).take i)) i l path n) (fun b => b = true)
  | 0, i, h => by
    have ho := opsF_len l h5
    refine Tot.succ ?_
    simp only [laws_FnAskOps.l0]
    refine Tot.neg (by omega) ?_
    rw [List.take_of_length_le (by simp; omega)]
    by_cases h0 : l.length = 0
    · have e : opsF l = ⟨#[45]⟩ := by unfold opsF; rw [if_pos h0]
      have e2 : (⟨#[47]⟩ : ByteArray) ++ joinT (l.map opT) = ⟨#[47]⟩ := by
        rw [List.length_eq_zero_iff.1 h0]
        exact ba_ext rfl
      rw [e2, e]
      refine Tot.pos (by omega) ?_
      refine Tot.pos (by show 1 + 1 ≤ _; omega) (Tot.pos (by show 2 + 1 ≤ _; omega) (Tot.pos ?_ (Tot.pos ?_ ?_)))
      · rw [ByteArray.size_append]; show 2 + 1 + _ ≤ _; omega
      · rw [ByteArray.size_append, ByteArray.size_append]; show 2 + 1 + _ + 3 ≤ _; omega
      · refine askEnd _ n hn ?_ _ rfl
        rw [ByteArray.size_append, ByteArray.size_append, ByteArray.size_append]; show 2 + 1 + _ + 3 ≤ _; omega
    · have e : opsF l = joinT (l.map opT) := by unfold opsF; rw [if_neg h0]
      rw [← e]
      refine Tot.neg (by omega) ?_
      refine Tot.pos ?_ (Tot.pos ?_ (Tot.pos ?_ ?_))
      · rw [ByteArray.size_append]; show 1 + _ + 1 ≤ _; omega
      · rw [ByteArray.size_append, ByteArray.size_append]; show 1 + _ + 1 + _ ≤ _; omega
      · rw [ByteArray.size_append, ByteArray.size_append, ByteArray.size_append]; show 1 + _ + 1 + _ + 3 ≤ _; omega
      · refine askEnd _ n hn ?_ _ rfl
        rw [ByteArray.size_append, ByteArray.size_append, ByteArray.size_append, ByteArray.size_append]; show 1 + _ + 1 + _ + 3 ≤ _; omega
  | e + 1, i, h => by
    have ih := askOps_loop l h5 path hp n hn e (i + 1) (by omega)
    have hs := take_small l i h5
    have ht := opT_len (X.opAt l i)
    rw [take_opT l i (by omega)] at ih
    refine Tot.succ ?_
    simp only [laws_FnAskOps.l0]
    refine Tot.pos (by omega) ?_
    by_cases h0 : i = 0
    · subst h0
      refine Tot.neg (by omega) (Tot.pos (by omega) ?_)
      refine Tot.bind (impl_OpText_tot _ _ _ _ _) ?_
      rintro _ rfl
      rw [List.take_zero, List.nil_append, joinT_one] at ih
      have e0 : (⟨#[47]⟩ : ByteArray) ++ joinT ((l.map opT).take 0) = ⟨#[47]⟩ := ba_ext rfl
      rw [e0]
      refine Tot.pos (by show 1 + (opT (X.opAt l 0)).size ≤ _; omega) ?_
      rw [wr_id (by omega) (by omega)]
      exact ih
    · have hne : (l.map opT).take i ≠ [] := by
        intro hh
        have := congrArg List.length hh
        rw [take_len l i (by omega)] at this
        exact h0 (by simpa using this)
      rw [joinT_snoc _ hne, ← sl_app, ← sl_app] at ih
      refine Tot.pos (by omega) (Tot.pos ?_ (Tot.pos (by omega) ?_))
      · rw [ByteArray.size_append]; show 1 + _ + 1 ≤ _; omega
      refine Tot.bind (impl_OpText_tot _ _ _ _ _) ?_
      rintro _ rfl
      refine Tot.pos ?_ ?_
      · rw [ByteArray.size_append, ByteArray.size_append]
        show 1 + _ + 1 + (opT (X.opAt l i)).size ≤ _
        omega
      · rw [wr_id (by omega) (by omega)]
        exact ih
theorem FnAskOps : laws_FnAskOps.Pure := by
  intro l0 _ _ hw
  have hu : ∀ y ∈ l0, 0 ≤ y ∧ y ≤ 255 := fun y hy => ByteOk (hw y hy)
  refine Tot.rounds ?_
  unfold laws_FnAskOps.f
  refine Tot.ite (fun _ => Tot.ret rfl) (fun h => ?_)
  unfold spec_DrawAskText.f
  obtain ⟨b, hb, hB⟩ := open_some l0 hu
  refine Tot.bind (P := fun x => x.1.length ≤ 101) ?_ ?_
  · refine Tot.bind (Tot.of_eq hb) ?_; rintro _ rfl
    refine Tot.bind (l20Ask_tot hB 0 5 (by omega) (by omega) (by omega)) ?_
    rintro ⟨x, s, t, q⟩ ⟨e1, _, _⟩
    exact Tot.ret e1
  rintro ⟨l, path, till⟩ hl
  dsimp only at hl ⊢
  refine Tot.bind (impl_AskText_tot l (by omega) path till) ?_; rintro _ rfl
  refine Tot.bind (spec_AskText_tot l (by omega) path till) ?_; rintro _ rfl
  refine Tot.pos rfl ?_
  refine Tot.bind (Tot.of_ev (spec_AskOk_ev l (by omega) path till)) ?_; rintro _ rfl
  unfold askF
  cases hk : askB l path till with
  | false =>
    refine Tot.neg (by decide) (Tot.pos (by rw [if_neg (by decide)]; first | exact Lib.toList_data _ | exact toList_data _ | (simp [ByteArray.toList, ByteArray.toList.loop]; done) | (unfold ByteArray.toList ByteArray.toList.loop; rfl)) ?_)
    exact Tot.bind (Tot.of_eq rfl) (fun x hx => Tot.ret hx)
  | true =>
    obtain ⟨h5, hp, ht0, ht1⟩ := askB_parts hk
    obtain ⟨n, rfl⟩ := Int.eq_ofNat_of_zero_le ht0
    refine Tot.pos rfl ?_
    have := askOps_loop l h5 path hp.2 n (by omega) l.length 0 (by omega)
    have e0 : (⟨#[47]⟩ : ByteArray) ++ joinT ((l.map opT).take 0) = ⟨#[47]⟩ := ba_ext rfl
    rw [e0] at this
    exact this
end Go.Proofs.YtiihhjfdgojkeaaDoor.Pure
namespace Go.Proofs.YtiihhjfdgojkeaaDoor.X
set_option linter.unusedVariables false
set_option linter.unusedSimpArgs false
set_option linter.unusedSectionVars false
open Go.ChangeShapes Go.WideShapes Go.ChangeAt Go.WideMaps Go.WideElems Go.RowKit Go.Proofs.YtiihhjfdgojkeaaDoorW.PrintWords
abbrev laid4 : List (String × DataW Unit) := [("math/bits.deBruijn32tab", Rows.laid_math_bits_deBruijn32tab), ("math/bits.deBruijn64tab", Rows.laid_math_bits_deBruijn64tab), ("internal/strconv.uint64pow10", Rows.laid_internal_strconv_uint64pow10), ("loop.example/easel/impl.opForms", Rows.laid_loop_example_easel_impl_opForms)]
theorem door_met (os : Os) (args : Array Value) : laidMetH Tryd.prog laid4 ((World.doorLaid Tryd.prog 400 os).forCall (fun _ _ => 0) ⟨#[], args, []⟩).memory :=
  laidMetH_of_parts3 (fuel := 8) (laidMet_of_run' 8 (by kernel_rfl) (by kernel_rfl)) (by kernel_rfl) (by kernel_rfl)
theorem gF : Tryd.prog.globalNamed "loop.example/easel/impl.opForms" = some 0 := by kernel_rfl
theorem tF : (Tryd.prog.globals[0]?).map (·.type) = some 78 := by kernel_rfl
theorem tP : (Tryd.prog.globals[3]?).map (·.type) = some 181 := by kernel_rfl
theorem blk_of_var {w : World} {name : String} {g : Nat} {cs : Array Value} (hg : Tryd.prog.globalNamed name = some g) (h : w.var? Tryd.prog name = some cs) : ∃ t fr, w.heap[g]? = some (.cells cs t fr) := by
  unfold World.var? at h
  rw [hg] at h
  simp only [Option.bind_some] at h
  split at h
  · rename_i cs' t fr hh
    obtain rfl := Option.some.inj h
    exact ⟨t, fr, hh⟩
  · cases h
variable {H : Type} {enc : TypeId × Value → H} {P : Program} {w : World} {base : Nat} {sp : Nat → Bool} {held : Bool}
/-- The cells of an array whose elements' cells are told by their data. -/
theorem cells_of_rows {fuel : Nat} {t e : TypeId} {n : Nat} {cs : List Value} {p : List MemPlace} {ds : List (DataW H)} (L : List (List Value))
    (ht : P.underlying t = some (.array n e)) (hct : P.cellsOf t = n * P.cellsOf e) (hL : ∀ (i : Nat) (l : List Value), L[i]? = some l → l.length = P.cellsOf e) (hn : L.length = n)
    (he : ∀ (i : Nat) (m : Nat) (d : DataW H) (l c : List Value) (q : List MemPlace), ds[i]? = some d → L[i]? = some l → DataW.trod enc P w base sp held m e c = some (d, q) → c = l)
    (h : DataW.trod enc P w base sp held fuel t cs = some (.agg ds, p)) : cs = L.flatten := by
  obtain ⟨xs, m, rfl, hx, hl, hlen, hf⟩ := DataW.trod_array ht h
  obtain ⟨hd, -⟩ := Prod.mk.inj hx
  have hds : ds = xs.map (·.1) := by injection hd
  have key : ∀ (i : Nat) (l : List Value), L[i]? = some l → (cs.drop (i * P.cellsOf e)).take (P.cellsOf e) = l := by
    intro i l hi
    have hin : i < n := by have := (List.getElem?_eq_some_iff.1 hi).1; omega
    have h1 := hf i hin
    have hix : i < xs.length := by omega
    rw [List.getElem?_eq_getElem hix] at h1
    refine he i m (xs[i]).1 l _ (xs[i]).2 ?_ hi h1
    rw [hds, List.getElem?_map, List.getElem?_eq_getElem hix]
    rfl
  have gen : ∀ (L : List (List Value)) (cs : List Value), (∀ (i : Nat) (l : List Value), L[i]? = some l → (cs.drop (i * P.cellsOf e)).take (P.cellsOf e) = l) → cs.length = L.length * P.cellsOf e → cs = L.flatten := by
    intro L
    induction L with
    | nil => intro cs _ h; simp at h; simp [h]
    | cons a L ih =>
      intro cs hk hlen
      have h0 := hk 0 a rfl
      rw [Nat.zero_mul, List.drop_zero] at h0
      rw [List.length_cons, Nat.add_mul, Nat.one_mul] at hlen
      have h1 := ih (cs.drop (P.cellsOf e)) (fun i l hi => by
        rw [List.drop_drop, show P.cellsOf e + i * P.cellsOf e = (i + 1) * P.cellsOf e by rw [Nat.add_mul]; omega]
        exact hk (i + 1) l (by simpa using hi)) (by rw [List.length_drop]; omega)
      rw [List.flatten_cons, ← h1, ← h0, List.take_append_drop]
  exact gen L cs key (by rw [hl, hct, hn])
set_option maxRecDepth 100000 in
theorem form_cells {m : Nat} {c : List Value} {s : List UInt8} {n : Int} {q : List MemPlace} (h : DataW.trod enc Tryd.prog w base sp held m 77 c = some (.agg [.lit (.string s), .lit (.int .i64 n)], q)) : c = [.string ⟨s.toArray⟩, .int .i64 n] := by
  obtain ⟨y0, y1, k, hx, hl, h0, h1⟩ := trod_struct2 Tryd.underlying77 h
  have hx := (Prod.mk.inj hx).1
  injection hx with hx
  injection hx with e0 hx
  injection hx with e1 _
  obtain ⟨s', hc0, rfl, _⟩ := DataW.trod_string Tryd.underlying9 h0
  obtain ⟨n', hc1, rfl, _⟩ := DataW.trod_int Tryd.underlying3 h1
  injection e0 with e0; injection e0 with e0
  injection e1 with e1; injection e1 with _ e1
  have hl2 : c.length = 2 := hl.trans (by kernel_rfl)
  match c, hl2 with
  | [a, b], _ =>
    have ha : [a] = [Value.string s'] := hc0
    have hb : [b] = [Value.int .i64 n'] := hc1
    cases ha; cases hb
    subst e1
    rw [e0]
set_option maxRecDepth 100000 in
theorem glob_of {W : World} (h : laidMetH Tryd.prog laid4 W) : Glob W := by
  rw [MakeChecks.laidMetH_plain _ _ _ (by kernel_rfl)] at h
  obtain ⟨ps, ⟨g0, t0, cs0, f0, p0, q0, hg0, ht0, hv0, hd0, ⟨g1, t1, cs1, f1, p1, q1, hg1, ht1, hv1, hd1, ⟨g2, t2, cs2, f2, p2, q2, hg2, ht2, hv2, hd2, ⟨g3, t3, cs3, f3, p3, q3, hg3, ht3, hv3, hd3, _⟩, _⟩, _⟩, _⟩, _, _⟩ := h
  obtain rfl := Option.some.inj (gPow.symm.trans hg2)
  obtain rfl := Option.some.inj (gF.symm.trans hg3)
  obtain rfl := Option.some.inj (tP.symm.trans ht2)
  obtain rfl := Option.some.inj (tF.symm.trans ht3)
  have e2 := Lib.cells_of_tab (zs := Lib.pow10Tab) (k := .u64) Tryd.underlying181 Tryd.underlying168 (by kernel_rfl) (by kernel_rfl) hd2
  obtain ⟨t, fr, hh⟩ := blk_of_var gF hv3
  obtain ⟨t', fr', hh'⟩ := blk_of_var gPow hv2
  have e3 := cells_of_rows [[.string ⟨#[]⟩, .int .i64 0], [.string ⟨#[99, 114, 111, 112]⟩, .int .i64 4], [.string ⟨#[102, 108, 105, 112, 120]⟩, .int .i64 0], [.string ⟨#[102, 108, 105, 112, 121]⟩, .int .i64 0], [.string ⟨#[116, 117, 114, 110]⟩, .int .i64 0], [.string ⟨#[103, 114, 97, 121]⟩, .int .i64 0], [.string ⟨#[98, 108, 117, 114]⟩, .int .i64 0], [.string ⟨#[115, 105, 122, 101]⟩, .int .i64 2], [.string ⟨#[102, 108, 97, 116]⟩, .int .i64 3]] Tryd.underlying78 (by kernel_rfl)
    (fun i l hi => by
      have hm := List.mem_of_getElem? hi
      have : l.length = 2 := by simp only [List.mem_cons, List.not_mem_nil, or_false] at hm; rcases hm with rfl | rfl | rfl | rfl | rfl | rfl | rfl | rfl | rfl <;> rfl
      exact this.trans (by kernel_rfl)) rfl
    (fun i m d l c q hd hl hc => by
      match i, hd, hl with
      | 0, hd, hl => cases hd; cases hl; exact form_cells hc
      | 1, hd, hl => cases hd; cases hl; exact form_cells hc
      | 2, hd, hl => cases hd; cases hl; exact form_cells hc
      | 3, hd, hl => cases hd; cases hl; exact form_cells hc
      | 4, hd, hl => cases hd; cases hl; exact form_cells hc
      | 5, hd, hl => cases hd; cases hl; exact form_cells hc
      | 6, hd, hl => cases hd; cases hl; exact form_cells hc
      | 7, hd, hl => cases hd; cases hl; exact form_cells hc
      | 8, hd, hl => cases hd; cases hl; exact form_cells hc
      | _ + 9, hd, _ => cases hd) hd3
  refine ⟨⟨t, fr, ?_⟩, ⟨t', fr', ?_⟩⟩
  · rw [hh]; congr 2; rw [← Array.toArray_toList (xs := cs3), e3]; rfl
  · rw [hh']; congr 2; rw [← e2]
theorem vars1 {n1 : String} : ∀ {gs : List (DataW H)} {q : List MemPlace}, DataW.TrodVars enc Tryd.prog w sp [n1] gs q → ∃ g1, gs = [g1]
  | [], _, h => h.elim
  | [a], _, _ => ⟨a, rfl⟩
  | _ :: _ :: _, _, h => by obtain ⟨_, _, _, _, _, _, _, _, _, _, h, _⟩ := h; exact h.elim
end Go.Proofs.YtiihhjfdgojkeaaDoor.X
