/- Lemmas and contracts for the law FnExactOpRead, part 3: of the program's functions, and over data alone. Conditions: the listed package-level variables begin as the program's text lays them (tied by the card). -/
import Derived.Shelf.Strings.Builder1
import Derived.Shelf.Strings.Builder2
import Derived.Shelf.Strings.OnBuilder
import Derived.Shelf.Strings.BuilderF
import Derived.Shelf.Strings.BuilderK
import Derived.Shelf.Strings.Builder2Cap
import Derived.Shelf.Strconv.Itoa0
import Derived.Shelf.Strconv.Itoa1
import Derived.Shelf.LaysM
import Derived.Shelf.Strconv.Itoa2
import Derived.Shelf.Strconv.Itoa3
import Derived.Shelf.Strings.Search1
import Derived.Shelf.Strings.Search2
import Derived.Shelf.Strings.Search3
import Derived.Shelf.Strings.Cut
import Derived.Shelf.Strings.Count
import Derived.Shelf.Strings.Shaped
import Derived.Shelf.Strings.Prefix
import Derived.Shelf.Strings.Split
import Derived.Shelf.Strings.SplitShaped
import Derived.Shelf.Unicode.DecodeSlow
import Derived.Shelf.Strings.BuilderCap
import Derived.Test.YtfafjpfigphchaaDoorProg
import Derived.Test.YtfafjpfigphchaaDoorMFnExactOpRead2
import Derived.Laws.Rows
import Derived.Lib.AppendIntMem
import Derived.Lib.ItoaLen
import Derived.Laws.Concat
import Derived.Lib.Split
import Derived.Lib.SplitLaws
import Derived.Laws.CopyOwn
import Derived.Test.YtfafjpfigphchaaDoorMFnExactOpRead1
import Derived.Lib.IndexBytes
import Derived.SizedLaws
import Derived.Handed
import Derived.Shelf.Vars
import Derived.Test.YtfafjpfigphchaaDoorRows
import Derived.Lib.LaidTab
import Derived.LaidMore
import Derived.OpenShut
import Derived.ShutString
import Derived.ChangeOld
import Derived.ChangeSame
import Derived.Below
import Derived.WalkKit
import Derived.ProofKit
import Derived.Stop.Joined
import Derived.OpenVars
import Derived.KernelRfl
import Derived.LaidSub
import Derived.Lay
import Derived.LaidOnce
namespace Go.Proofs
open Go.Shelf
def Tryd.laysM246_ren : Go.Shelf.Ren := ⟨fun | 246 => 79 | 283 => 90 | 284 => 91 | 285 => 92 | 286 => 93 | 129 => 103 | 317 => 102 | 318 => 104 | 319 => 105 | 320 => 106 | 337 => 108 | 338 => 109 | n => n, fun | 2 => 2 | 3 => 3 | 9 => 9 | 4 => 4 | 171 => 111 | 0 => 0 | 53 => 112 | 37 => 28 | 5 => 5 | 173 => 115 | 212 => 127 | 51 => 121 | 20 => 20 | 213 => 128 | 46 => 109 | 232 => 135 | 233 => 136 | n => n, fun | 17 => 2 | 18 => 5 | 19 => 6 | n => n⟩
def Tryd.laysM243_ren : Go.Shelf.Ren := ⟨fun | 243 => 68 | 246 => 79 | 283 => 90 | 284 => 91 | 285 => 92 | 286 => 93 | 129 => 103 | 317 => 102 | 318 => 104 | 319 => 105 | 320 => 106 | 337 => 108 | 338 => 109 | n => n, fun | 3 => 3 | 9 => 9 | 2 => 2 | 4 => 4 | 171 => 111 | 0 => 0 | 53 => 112 | 37 => 28 | 5 => 5 | 173 => 115 | 212 => 127 | 51 => 121 | 20 => 20 | 213 => 128 | 46 => 109 | 232 => 135 | 233 => 136 | n => n, fun | 17 => 2 | 18 => 5 | 19 => 6 | n => n⟩
def Tryd.laysM171_ren : Go.Shelf.Ren := ⟨fun | 171 => 40 | 243 => 68 | 246 => 79 | 283 => 90 | 284 => 91 | 285 => 92 | 286 => 93 | 129 => 103 | 317 => 102 | 318 => 104 | 319 => 105 | 320 => 106 | 337 => 108 | 338 => 109 | n => n, fun | 3 => 3 | 9 => 9 | 2 => 2 | 4 => 4 | 171 => 111 | 0 => 0 | 53 => 112 | 37 => 28 | 5 => 5 | 173 => 115 | 212 => 127 | 51 => 121 | 20 => 20 | 213 => 128 | 46 => 109 | 232 => 135 | 233 => 136 | n => n, fun | 17 => 2 | 18 => 5 | 19 => 6 | n => n⟩
theorem Tryd.laysM171 : Go.Proofs.LaysM.n171 Tryd.prog Tryd.laysM171_ren := {
  mixed := by kernel_rfl
  f129 := Tryd.func103.trans (congrArg some (by kernel_rfl))
  f171 := Tryd.func40.trans (congrArg some (by kernel_rfl))
  f243 := Tryd.func68.trans (congrArg some (by kernel_rfl))
  f246 := Tryd.func79.trans (congrArg some (by kernel_rfl))
  f283 := Tryd.func90.trans (congrArg some (by kernel_rfl))
  f284 := Tryd.func91.trans (congrArg some (by kernel_rfl))
  f285 := Tryd.func92.trans (congrArg some (by kernel_rfl))
  f286 := Tryd.func93.trans (congrArg some (by kernel_rfl))
  f317 := Tryd.func102.trans (congrArg some (by kernel_rfl))
  f318 := Tryd.func104.trans (congrArg some (by kernel_rfl))
  f319 := Tryd.func105.trans (congrArg some (by kernel_rfl))
  f320 := Tryd.func106.trans (congrArg some (by kernel_rfl))
  f337 := Tryd.func108.trans (congrArg some (by kernel_rfl))
  f338 := Tryd.func109.trans (congrArg some (by kernel_rfl))
  t0 := Tryd.underlying0
  a0 := Tryd.isAgg0
  z0 := Tryd.sizeOf0
  v0 := Tryd.zeroValue0
  t2 := Tryd.underlying2
  a2 := Tryd.isAgg2
  z2 := Tryd.sizeOf2
  v2 := Tryd.zeroValue2
  t3 := Tryd.underlying3
  a3 := Tryd.isAgg3
  z3 := Tryd.sizeOf3
  v3 := Tryd.zeroValue3
  t4 := Tryd.underlying4
  a4 := Tryd.isAgg4
  z4 := Tryd.sizeOf4
  v4 := Tryd.zeroValue4
  t5 := Tryd.underlying5
  a5 := Tryd.isAgg5
  z5 := Tryd.sizeOf5
  v5 := Tryd.zeroValue5
  t9 := Tryd.underlying9
  a9 := Tryd.isAgg9
  z9 := Tryd.sizeOf9
  v9 := Tryd.zeroValue9
  t20 := Tryd.underlying20
  a20 := Tryd.isAgg20
  z20 := Tryd.sizeOf20
  v20 := Tryd.zeroValue20
  t37 := Tryd.underlying28
  a37 := Tryd.isAgg28
  z37 := Tryd.sizeOf28
  v37 := Tryd.zeroValue28
  t46 := Tryd.underlying109
  a46 := Tryd.isAgg109
  z46 := Tryd.sizeOf109
  v46 := Tryd.zeroValue109
  t51 := Tryd.underlying121
  a51 := Tryd.isAgg121
  z51 := Tryd.sizeOf121
  v51 := Tryd.zeroValue121
  t53 := Tryd.underlying112
  a53 := Tryd.isAgg112
  z53 := Tryd.sizeOf112
  v53 := Tryd.zeroValue112
  t171 := Tryd.underlying111
  a171 := Tryd.isAgg111
  z171 := Tryd.sizeOf111
  v171 := Tryd.zeroValue111
  t173 := Tryd.underlying115
  a173 := Tryd.isAgg115
  z173 := Tryd.sizeOf115
  v173 := Tryd.zeroValue115
  t212 := Tryd.underlying127
  a212 := Tryd.isAgg127
  z212 := Tryd.sizeOf127
  v212 := Tryd.zeroValue127
  t213 := Tryd.underlying128
  a213 := Tryd.isAgg128
  z213 := Tryd.sizeOf128
  t232 := Tryd.underlying135
  a232 := Tryd.isAgg135
  z232 := Tryd.sizeOf135
  v232 := Tryd.zeroValue135
  t233 := Tryd.underlying136
  a233 := Tryd.isAgg136
  z233 := Tryd.sizeOf136
  v233 := Tryd.zeroValue136
  g17 := by kernel_rfl
  g18 := by kernel_rfl
  g19 := by kernel_rfl
  i0 := by kernel_rfl
  i2 := by kernel_rfl
  i3 := by kernel_rfl
  i4 := by kernel_rfl
  i5 := by kernel_rfl
  i9 := by kernel_rfl
  i20 := by kernel_rfl
  i37 := by kernel_rfl
  i46 := by kernel_rfl
  i51 := by kernel_rfl
  i53 := by kernel_rfl
  i171 := by kernel_rfl
  i173 := by kernel_rfl
  i212 := by kernel_rfl
  i232 := by kernel_rfl
  i233 := by kernel_rfl
  m17 := by kernel_rfl
  m18 := by kernel_rfl
  m19 := by kernel_rfl }
open Go.RowKit Go.Sort Go.Lib in
/-- strconv.Itoa: "Itoa is equivalent to FormatInt(int64(i), 10).": i's DECIMAL NUMERAL ('Lib.itoa': a '-' where i is negative, then the digits), FOR EVERY int. The world behind the call: the world before it, new blocks behind the heap (the library's 'var a [24]byte'), draws. (LAID: no walk: one application.) -/
theorem Tryd.strconv_Itoa (n : Int) (h0 : -9223372036854775808 ≤ n) (h1 : n ≤ 9223372036854775807) (w : World) (htab : Lib.TabIs Tryd.prog w "internal/strconv.uint64pow10" .u64 Lib.pow10Tab) :
    Calls Tryd.prog 40 #[.int .i64 n] w fun e w' => e = .returned (.string ⟨(Lib.itoa n).toArray⟩) ∧ ∃ k os, w' = grow (w.drewN k) os := Any.strconv_Itoa Tryd.laysM171 n h0 h1 w htab
def Tryd.lays219_ren : Go.Shelf.Ren := ⟨fun | 219 => 77 | 217 => 83 | 225 => 84 | 224 => 85 | 267 => 86 | 266 => 97 | 314 => 98 | n => n, fun | 9 => 9 | 3 => 3 | 4 => 4 | 5 => 5 | 46 => 109 | 146 => 122 | 51 => 121 | n => n, fun | 1 => 1 | n => n⟩
def Tryd.lays145_ren : Go.Shelf.Ren := ⟨fun | 145 => 31 | 220 => 65 | 219 => 77 | 217 => 83 | 225 => 84 | 224 => 85 | 267 => 86 | 266 => 97 | 314 => 98 | n => n, fun | 9 => 9 | 4 => 4 | 59 => 49 | 3 => 3 | 5 => 5 | 46 => 109 | 146 => 122 | 51 => 121 | n => n, fun | 1 => 1 | n => n⟩
theorem Tryd.lays145 : Go.Proofs.Lays.n145 Tryd.prog Tryd.lays145_ren := {
  mixed := by kernel_rfl
  f145 := Tryd.func31.trans (congrArg some (by kernel_rfl))
  f217 := Tryd.func83.trans (congrArg some (by kernel_rfl))
  f219 := Tryd.func77.trans (congrArg some (by kernel_rfl))
  f220 := Tryd.func65.trans (congrArg some (by kernel_rfl))
  f224 := Tryd.func85.trans (congrArg some (by kernel_rfl))
  f225 := Tryd.func84.trans (congrArg some (by kernel_rfl))
  f266 := Tryd.func97.trans (congrArg some (by kernel_rfl))
  f267 := Tryd.func86.trans (congrArg some (by kernel_rfl))
  f314 := Tryd.func98.trans (congrArg some (by kernel_rfl))
  t3 := Tryd.underlying3
  a3 := Tryd.isAgg3
  z3 := Tryd.sizeOf3
  v3 := Tryd.zeroValue3
  t4 := Tryd.underlying4
  a4 := Tryd.isAgg4
  z4 := Tryd.sizeOf4
  v4 := Tryd.zeroValue4
  t5 := Tryd.underlying5
  a5 := Tryd.isAgg5
  z5 := Tryd.sizeOf5
  v5 := Tryd.zeroValue5
  t9 := Tryd.underlying9
  a9 := Tryd.isAgg9
  z9 := Tryd.sizeOf9
  v9 := Tryd.zeroValue9
  t46 := Tryd.underlying109
  a46 := Tryd.isAgg109
  z46 := Tryd.sizeOf109
  v46 := Tryd.zeroValue109
  t51 := Tryd.underlying121
  a51 := Tryd.isAgg121
  z51 := Tryd.sizeOf121
  v51 := Tryd.zeroValue121
  t59 := Tryd.underlying49
  a59 := Tryd.isAgg49
  z59 := Tryd.sizeOf49
  v59 := Tryd.zeroValue49
  t146 := Tryd.underlying122
  a146 := Tryd.isAgg122
  z146 := Tryd.sizeOf122
  v146 := Tryd.zeroValue122
  g1 := by kernel_rfl }
open Go.RowKit Go.Lib in
/-- strings.Cut: "Cut slices s around the first instance of sep, returning the text before and after sep. The found result reports whether sep appears in s. If sep does not appear in s, cut returns s, "", false.": IT RETURNS 'Lib.cut s sep'; the world is as it was but for the count of draws. (LAID: no walk: one application.) -/
theorem Tryd.strings_Cut (s sep : ByteArray) (m : Int) (w : World) (hs : s.size < 4294967281) (hm : w.cell? ⟨1, 0, none⟩ = some (.int .i64 m)) :
    Calls Tryd.prog 31 #[.string s, .string sep] w fun e w' => e = .returned (.tuple #[.string ⟨(Lib.cut s.data.toList sep.data.toList).1.toArray⟩, .string ⟨(Lib.cut s.data.toList sep.data.toList).2.1.toArray⟩, .bool (Lib.cut s.data.toList sep.data.toList).2.2]) ∧ ∃ n, w' = w.drewN n := Any.strings_Cut Tryd.lays145 s sep m w hs hm
def Tryd.lays221_ren : Go.Shelf.Ren := ⟨fun | 221 => 78 | 268 => 87 | 138 => 88 | 143 => 89 | 195 => 99 | 197 => 100 | 218 => 101 | 219 => 77 | 260 => 107 | 217 => 83 | 225 => 84 | 224 => 85 | 267 => 86 | 266 => 97 | 314 => 98 | n => n, fun | 9 => 9 | 3 => 3 | 31 => 45 | 4 => 4 | 0 => 0 | 105 => 124 | 21 => 21 | 5 => 5 | 46 => 109 | 119 => 131 | 139 => 134 | 138 => 133 | 146 => 122 | 51 => 121 | n => n, fun | 1 => 1 | 3 => 3 | 4 => 4 | n => n⟩
def Tryd.lays146_ren : Go.Shelf.Ren := ⟨fun | 146 => 66 | 221 => 78 | 268 => 87 | 138 => 88 | 143 => 89 | 195 => 99 | 197 => 100 | 218 => 101 | 219 => 77 | 260 => 107 | 217 => 83 | 225 => 84 | 224 => 85 | 267 => 86 | 266 => 97 | 314 => 98 | n => n, fun | 9 => 9 | 31 => 45 | 3 => 3 | 4 => 4 | 0 => 0 | 105 => 124 | 21 => 21 | 5 => 5 | 46 => 109 | 119 => 131 | 139 => 134 | 138 => 133 | 146 => 122 | 51 => 121 | n => n, fun | 1 => 1 | 3 => 3 | 4 => 4 | n => n⟩
theorem Tryd.lays146 : Go.Proofs.Lays.n146 Tryd.prog Tryd.lays146_ren := {
  mixed := by kernel_rfl
  f138 := Tryd.func88.trans (congrArg some (by kernel_rfl))
  f143 := Tryd.func89.trans (congrArg some (by kernel_rfl))
  f146 := Tryd.func66.trans (congrArg some (by kernel_rfl))
  f195 := Tryd.func99.trans (congrArg some (by kernel_rfl))
  f197 := Tryd.func100.trans (congrArg some (by kernel_rfl))
  f217 := Tryd.func83.trans (congrArg some (by kernel_rfl))
  f218 := Tryd.func101.trans (congrArg some (by kernel_rfl))
  f219 := Tryd.func77.trans (congrArg some (by kernel_rfl))
  f221 := Tryd.func78.trans (congrArg some (by kernel_rfl))
  f224 := Tryd.func85.trans (congrArg some (by kernel_rfl))
  f225 := Tryd.func84.trans (congrArg some (by kernel_rfl))
  f260 := Tryd.func107.trans (congrArg some (by kernel_rfl))
  f266 := Tryd.func97.trans (congrArg some (by kernel_rfl))
  f267 := Tryd.func86.trans (congrArg some (by kernel_rfl))
  f268 := Tryd.func87.trans (congrArg some (by kernel_rfl))
  f314 := Tryd.func98.trans (congrArg some (by kernel_rfl))
  t0 := Tryd.underlying0
  a0 := Tryd.isAgg0
  z0 := Tryd.sizeOf0
  v0 := Tryd.zeroValue0
  t3 := Tryd.underlying3
  a3 := Tryd.isAgg3
  z3 := Tryd.sizeOf3
  v3 := Tryd.zeroValue3
  t4 := Tryd.underlying4
  a4 := Tryd.isAgg4
  z4 := Tryd.sizeOf4
  v4 := Tryd.zeroValue4
  t5 := Tryd.underlying5
  a5 := Tryd.isAgg5
  z5 := Tryd.sizeOf5
  v5 := Tryd.zeroValue5
  t9 := Tryd.underlying9
  a9 := Tryd.isAgg9
  z9 := Tryd.sizeOf9
  v9 := Tryd.zeroValue9
  t21 := Tryd.underlying21
  a21 := Tryd.isAgg21
  z21 := Tryd.sizeOf21
  v21 := Tryd.zeroValue21
  t31 := Tryd.underlying45
  a31 := Tryd.isAgg45
  z31 := Tryd.sizeOf45
  v31 := Tryd.zeroValue45
  t46 := Tryd.underlying109
  a46 := Tryd.isAgg109
  z46 := Tryd.sizeOf109
  v46 := Tryd.zeroValue109
  t51 := Tryd.underlying121
  a51 := Tryd.isAgg121
  z51 := Tryd.sizeOf121
  v51 := Tryd.zeroValue121
  t105 := Tryd.underlying124
  a105 := Tryd.isAgg124
  z105 := Tryd.sizeOf124
  v105 := Tryd.zeroValue124
  t119 := Tryd.underlying131
  a119 := Tryd.isAgg131
  z119 := Tryd.sizeOf131
  t138 := Tryd.underlying133
  a138 := Tryd.isAgg133
  z138 := Tryd.sizeOf133
  v138 := Tryd.zeroValue133
  t139 := Tryd.underlying134
  a139 := Tryd.isAgg134
  z139 := Tryd.sizeOf134
  v139 := Tryd.zeroValue134
  t146 := Tryd.underlying122
  a146 := Tryd.isAgg122
  z146 := Tryd.sizeOf122
  v146 := Tryd.zeroValue122
  g1 := by kernel_rfl
  g3 := by kernel_rfl
  g4 := by kernel_rfl }
open Go.RowKit Go.Lib in
/-- strings.Split. (LAID: no walk: one application.) -/
theorem Tryd.strings_Split (s sep : ByteArray) (m : Int) (w : World) (hs : s.size < 4294967281) (hm : w.cell? ⟨1, 0, none⟩ = some (.int .i64 m)) (h1 : 1 ≤ sep.size) :
    Calls Tryd.prog 66 #[.string s, .string sep] w fun e w' =>
      e = .returned (.slice (some ⟨w.heap.size, 0, none⟩) (Lib.countB s sep + 1) (Lib.countB s sep + 1)) ∧ w' = w.alloc (.cells ((Lib.splitB sep 0 (Lib.countB s sep) s).map Value.string).toArray 9) := Any.strings_Split Tryd.lays146 (by kernel_rfl) s sep m w hs hm h1
end Go.Proofs
namespace Go.Proofs.YtfafjpfigphchaaDoor.X
open Go.RowKit Go.Proofs.YtfafjpfigphchaaDoorW.PrintWords Go.Proofs.YtfafjpfigphchaaDoorW.PrintLast Go.Proofs.YtfafjpfigphchaaDoorW.PrintMore
set_option linter.unusedVariables false
/-- The operations' words, and how many numbers each has. -/
def formCells : Array Value := #[.string ⟨#[]⟩, .int .i64 0, .string ⟨#[99, 114, 111, 112]⟩, .int .i64 4, .string ⟨#[102, 108, 105, 112, 120]⟩, .int .i64 0, .string ⟨#[102, 108, 105, 112, 121]⟩, .int .i64 0, .string ⟨#[116, 117, 114, 110]⟩, .int .i64 0, .string ⟨#[103, 114, 97, 121]⟩, .int .i64 0, .string ⟨#[98, 108, 117, 114]⟩, .int .i64 0, .string ⟨#[115, 105, 122, 101]⟩, .int .i64 2, .string ⟨#[102, 108, 97, 116]⟩, .int .i64 3]
structure Glob (w : World) : Prop where
  forms : ∃ t fr, w.heap[0]? = some (.cells formCells t fr)
  pow : ∃ t fr, w.heap[2]? = some (.cells (Lib.pow10Tab.map fun z => Value.int .u64 z).toArray t fr)
  max : ∃ m, w.cell? ⟨1, 0, none⟩ = some (.int .i64 m)
theorem Glob.belowW {w w' : World} (h : Glob w) (hb : Below w.heap.size w w') : Glob w' := by
  obtain ⟨⟨t, fr, h1⟩, ⟨t2, fr2, h2⟩, ⟨m, h3⟩⟩ := h
  exact ⟨⟨t, fr, (hb.block _ (blk_lt h1)).trans h1⟩, ⟨t2, fr2, (hb.block _ (blk_lt h2)).trans h2⟩, ⟨m, pw_cell_below hb h3⟩⟩
theorem gPow : Tryd.prog.globalNamed "internal/strconv.uint64pow10" = some 2 := by kernel_rfl
theorem Glob.tab {w : World} (h : Glob w) : Lib.TabIs Tryd.prog w "internal/strconv.uint64pow10" .u64 Lib.pow10Tab := by
  obtain ⟨_, ⟨t, fr, hp⟩, _⟩ := h
  unfold Lib.TabIs World.var?
  rw [gPow, Option.bind_some, hp]
/-- The powers of ten alone. -/
structure GlobP (w : World) : Prop where
  pow : ∃ t fr, w.heap[2]? = some (.cells (Lib.pow10Tab.map fun z => Value.int .u64 z).toArray t fr)
theorem GlobP.belowW {w w' : World} (h : GlobP w) (hb : Below w.heap.size w w') : GlobP w' := by
  obtain ⟨⟨t2, fr2, h2⟩⟩ := h
  exact ⟨⟨t2, fr2, (hb.block _ (blk_lt h2)).trans h2⟩⟩
theorem GlobP.tab {w : World} (h : GlobP w) : Lib.TabIs Tryd.prog w "internal/strconv.uint64pow10" .u64 Lib.pow10Tab := by
  obtain ⟨⟨t, fr, hp⟩⟩ := h
  unfold Lib.TabIs World.var?
  rw [gPow, Option.bind_some, hp]
theorem Glob.toP {w : World} (h : Glob w) : GlobP w := ⟨h.pow⟩
theorem itoa_calls (n : Int) (w : World) (hG : GlobP w) (h0 : -9223372036854775808 ≤ n) (h1 : n ≤ 9223372036854775807) :
    Calls Tryd.prog 40 #[.int .i64 n] w fun e w' => e = .returned (.string ⟨(Lib.itoa n).toArray⟩) ∧ Below w.heap.size w w' := by
  refine (Tryd.strconv_Itoa n h0 h1 w hG.tab).mono ?_
  rintro e w' ⟨rfl, k, os, rfl⟩
  exact ⟨rfl, Lib.below_grow _ _ (Nat.le_refl _) _ _⟩
end Go.Proofs.YtfafjpfigphchaaDoor.X
namespace Go.Proofs.YtfafjpfigphchaaDoor.X
open Go.RowKit Go.Proofs.YtfafjpfigphchaaDoorW.PrintWords Go.Proofs.YtfafjpfigphchaaDoorW.PrintLast Go.Proofs.YtfafjpfigphchaaDoorW.PrintMore
attribute [local go_sem] max2_int min2_int max_two min_two max_three min_three max_four min_four
set_option linter.unusedVariables false
set_option linter.unusedSimpArgs false

section
def formsL : List (ByteArray × Nat) := [(⟨#[]⟩, 0), (⟨#[99, 114, 111, 112]⟩, 4), (⟨#[102, 108, 105, 112, 120]⟩, 0), (⟨#[102, 108, 105, 112, 121]⟩, 0), (⟨#[116, 117, 114, 110]⟩, 0), (⟨#[103, 114, 97, 121]⟩, 0), (⟨#[98, 108, 117, 114]⟩, 0), (⟨#[115, 105, 122, 101]⟩, 2), (⟨#[102, 108, 97, 116]⟩, 3)]
def formW (k : Nat) : ByteArray := (formsL.getD k (⟨#[]⟩, 0)).1
def formN (k : Nat) : Nat := (formsL.getD k (⟨#[]⟩, 0)).2
def numT (n : Int) : ByteArray := (⟨#[46]⟩ : ByteArray) ++ ⟨(Lib.itoa n).toArray⟩
/-- The text of a word, and so many numbers. -/
def txtI (word : ByteArray) (ns : List Int) : ByteArray := ns.foldl (fun s n => s ++ numT n) word
def okI (n : Int) : Prop := -9223372036854775808 ≤ n ∧ n ≤ 9223372036854775807
instance (n : Int) : Decidable (okI n) := inferInstanceAs (Decidable (_ ∧ _))
def opTextI (k : Int) (ns : List Int) : Option ByteArray := if 0 ≤ k ∧ k < 9 ∧ ∀ n ∈ ns, okI n then some (txtI (formW k.toNat) (ns.take (formN k.toNat))) else none
def impl_OpText.f (k : Nat) (a0_0 a0_1 a0_2 a0_3 a0_4 : Int) : Option ByteArray := (impl_OpOk.f k a0_0 a0_1 a0_2 a0_3 a0_4).bind fun t => if t = true then opTextI a0_0 [a0_1, a0_2, a0_3, a0_4] else some ⟨#[]⟩
set_option maxHeartbeats 1000000 in
set_option maxRecDepth 100000 in
theorem opNumbers_calls (a0 a1 a2 a3 a4 : Int) (w : World) : Calls Tryd.prog 39 #[.agg #[.int .i64 a0, .int .i64 a1, .int .i64 a2, .int .i64 a3, .int .i64 a4]] w fun e w' => e = .returned (.agg #[.int .i64 a1, .int .i64 a2, .int .i64 a3, .int .i64 a4]) ∧ Below w.heap.size w w' := by
 have hu := Tryd.underlying23; have hz : ∀ w : World, (zeroValue 53).run Tryd.prog w = .ok (.agg #[.int .i64 0, .int .i64 0, .int .i64 0, .int .i64 0]) w := fun w => by kernel_rfl
 go_enter Tryd.func39, Tryd.ntmps39
 go_wp2_with (first | ((with_reducible refine gd_ 1 rfl ?_); refine bx_ 1 rfl #[.int .i64 a0, .int .i64 a1, .int .i64 a2, .int .i64 a3, .int .i64 a4] 23 ?_; intro b2 hg w5 hbox hb; have HX := Aside0.mk hbox; have HB := Aside0.mk hb; clear hb hbox hg) | ((with_reducible refine gd_ 2 rfl ?_); refine bx_ 2 rfl #[.int .i64 0, .int .i64 0, .int .i64 0, .int .i64 0] 53 ?_; intro b3 hg w7 hbox hb; have HX7 := Aside0.mk hbox; obtain ⟨x0, x1, x2, x3, x4⟩ := cc5_ (blk_below HX.out hb); obtain ⟨y0, y1, y2, y3⟩ := cc4_ hbox; obtain ⟨f0, f1, f2, f3⟩ := cf4_ hbox; have HB7 := Aside0.mk (below_step HB.out hb); have HG3 := Aside0.mk (show w.heap.size ≤ b3 by rw [hg]; exact HB.out.size); clear hb hbox hg))
 refine bodyPost_ret (results_cell_row Tryd.results39 _ _ b3 53 #[.int .i64 a1, .int .i64 a2, .int .i64 a3, .int .i64 a4] (0, 0) _ rfl ?hh Tryd.underlying53 rfl (by kernel_rfl)) rfl ⟨rfl, ?bb⟩
 case hh => exact blk_set (blk_set (blk_set (blk_set HX7.out 0 _) 1 _) 2 _) 3 _
 case bb => exact (((HB7.out.setCell (p := ⟨b3, 0, none⟩) HG3.out _).setCell (p := ⟨b3, 1, none⟩) HG3.out _).setCell (p := ⟨b3, 2, none⟩) HG3.out _).setCell (p := ⟨b3, 3, none⟩) HG3.out _
theorem up_cell {w : World} {a : Addr} {v : Value} (h : w.cell? a = some v) : (∀ o1, (w.alloc o1).cell? a = some v) ∧ (∀ o1 o2, ((w.alloc o1).alloc o2).cell? a = some v) := by
 have e : ∀ (w : World) (o : Obj), w.cell? a = some v → (w.alloc o).cell? a = some v := fun w o h => pw_cell_below ((Below.refl _ _).alloc (Nat.le_refl _) o) h
 exact ⟨fun o1 => e _ _ h, fun o1 o2 => e _ _ (e _ _ h)⟩
theorem formN_le (k : Nat) (hk : k < 9) : formN k ≤ 4 := by
 match k, hk with
 | 0, _ => decide
 | 1, _ => decide
 | 2, _ => decide
 | 3, _ => decide
 | 4, _ => decide
 | 5, _ => decide
 | 6, _ => decide
 | 7, _ => decide
 | 8, _ => decide
theorem txtI_snoc (W : ByteArray) (l : List Int) (n : Int) : txtI W (l ++ [n]) = txtI W l ++ numT n := by simp [txtI, List.foldl_append]
theorem num_at {w : World} {g : Nat} {a b c d : Int} {t : TypeId} {fr : Nat × Nat} {i : Nat} (h : w.heap[g]? = some (.cells #[.int .i64 a, .int .i64 b, .int .i64 c, .int .i64 d] t fr)) (hi : i < 4) : w.cell? ⟨g, i, none⟩ = some (.int .i64 ([a, b, c, d].getD i 0)) := by
 rw [cell_of_row _ _ _ _ _ _ h]
 match i, hi with
 | 0, _ => rfl
 | 1, _ => rfl
 | 2, _ => rfl
 | 3, _ => rfl
theorem num_mem {a b c d : Int} {i : Nat} (hi : i < 4) : [a, b, c, d].getD i 0 ∈ [a, b, c, d] := by
 match i, hi with
 | 0, _ => simp
 | 1, _ => simp
 | 2, _ => simp
 | 3, _ => simp
theorem take_getD (l : List Int) (n : Nat) (h : n < l.length) : l.take (n + 1) = l.take n ++ [l.getD n 0] := by
 rw [List.take_add_one, List.getElem?_eq_getElem h]; simp [List.getD_eq_getElem?_getD, List.getElem?_eq_getElem h]
theorem numT_size (n : Int) : (numT n).size = 1 + (Lib.itoa n).length := by unfold numT; rw [ByteArray.size_append]; show 1 + (Lib.itoa n).toArray.size = _; rw [List.size_toArray]
theorem txtI_len (W : ByteArray) (l : List Int) (h : ∀ n ∈ l, okI n) (hW : W.size ≤ 5) (hl : l.length ≤ 4) : (txtI W l).size ≤ 1000 := by
 have : ∀ (l : List Int) (S : ByteArray), (∀ n ∈ l, okI n) → (l.foldl (fun s n => s ++ numT n) S).size ≤ S.size + 22 * l.length := by
  intro l
  induction l with
  | nil => intro S _; simp
  | cons a l ih =>
   intro S h; have h1 := ih (S ++ numT a) (fun n hn => h n (List.mem_cons_of_mem _ hn)); have h2 := h a (List.mem_cons_self ..); have h3 := Lib.itoa_length_le a h2.1 h2.2
   rw [ByteArray.size_append, numT_size] at h1
   simp only [List.foldl_cons, List.length_cons]
   omega
 have := this l W h
 unfold txtI
 omega
theorem formW_len (k : Nat) (hk : k < 9) : (formW k).size ≤ 5 := by
 match k, hk with
 | 0, _ => decide
 | 1, _ => decide
 | 2, _ => decide
 | 3, _ => decide
 | 4, _ => decide
 | 5, _ => decide
 | 6, _ => decide
 | 7, _ => decide
 | 8, _ => decide
theorem form_word {w : World} (h : Glob w) (k : Nat) (hk : k < 9) : w.cell? ⟨0, k * 2, none⟩ = some (.string (formW k)) ∧ w.cell? ⟨0, k * 2 + 1, none⟩ = some (.int .i64 (formN k : Int)) := by
 obtain ⟨⟨t, fr, h1⟩, _⟩ := h
 rw [cell_of_row _ _ _ _ _ _ h1, cell_of_row _ _ _ _ _ _ h1]
 match k, hk with
 | 0, _ => exact ⟨rfl, rfl⟩
 | 1, _ => exact ⟨rfl, rfl⟩
 | 2, _ => exact ⟨rfl, rfl⟩
 | 3, _ => exact ⟨rfl, rfl⟩
 | 4, _ => exact ⟨rfl, rfl⟩
 | 5, _ => exact ⟨rfl, rfl⟩
 | 6, _ => exact ⟨rfl, rfl⟩
 | 7, _ => exact ⟨rfl, rfl⟩
 | 8, _ => exact ⟨rfl, rfl⟩
theorem form_cut (k : Nat) (hk : k < 9) : ∀ (b : Nat) (W : World), (Instr.sliceAt 53 (.pointer (some ⟨b, 0, none⟩)) none (some (.int .i64 (formN k : Int))) none).run Tryd.prog W = .ok (.slice (some ⟨b, 0, none⟩) (formN k) 4) W := by
 intro b W
 match k, hk with
 | 0, _ => (show _ = _; kernel_rfl)
 | 1, _ => (show _ = _; kernel_rfl)
 | 2, _ => (show _ = _; kernel_rfl)
 | 3, _ => (show _ = _; kernel_rfl)
 | 4, _ => (show _ = _; kernel_rfl)
 | 5, _ => (show _ = _; kernel_rfl)
 | 6, _ => (show _ = _; kernel_rfl)
 | 7, _ => (show _ = _; kernel_rfl)
 | 8, _ => (show _ = _; kernel_rfl)
set_option maxHeartbeats 4000000 in
set_option maxRecDepth 100000 in
theorem impl_OpText.calls (k : Nat) (a0_0 a0_1 a0_2 a0_3 a0_4 : Int) (r : ByteArray) (w : World) (h : impl_OpText.f k a0_0 a0_1 a0_2 a0_3 a0_4 = some r) (hG : Glob w) :
  Calls Tryd.prog 12 #[.agg #[.int .i64 a0_0, .int .i64 a0_1, .int .i64 a0_2, .int .i64 a0_3, .int .i64 a0_4]] w fun e w' => e = .returned (.string r) ∧ Below w.heap.size w w' := by
 have HG := Aside0.mk hG; clear hG; obtain ⟨t, ht, h⟩ := Option.bind_eq_some_iff.1 h; have HT := Aside0.mk ht; clear ht; have hu := Tryd.underlying23
 cases t with
 | false =>
  rw [if_neg (by decide)] at h
  obtain rfl := Option.some.inj h
  go_enter Tryd.func12, Tryd.ntmps12
  go_wp2_with (first | ((with_reducible refine gd_ 1 rfl ?_); refine bx_ 1 rfl #[.int .i64 a0_0, .int .i64 a0_1, .int .i64 a0_2, .int .i64 a0_3, .int .i64 a0_4] 23 ?_; intro b2 hg w5 hbox hb; have HX := Aside0.mk hbox; have HB := Aside0.mk hb; obtain ⟨x0, x1, x2, x3, x4⟩ := cc5_ hbox; clear hb hbox hg) | (go_at_call 14; refine (impl_OpOk.calls k a0_0 a0_1 a0_2 a0_3 a0_4 false _ HT.out).mono ?_; rintro e w6 ⟨rfl, hb⟩; have HB6 := Aside0.mk (below_step HB.out hb); clear hb))
  go_ret
  exact ⟨rfl, HB6.out⟩
 | true =>
  rw [if_pos rfl] at h
  unfold opTextI at h
  split at h
  case isFalse => cases h
  rename_i hk
  obtain ⟨hk0, hk9, hns⟩ := hk; obtain rfl := Option.some.inj h; obtain ⟨kd, rfl⟩ := Int.eq_ofNat_of_zero_le hk0; have hkd : kd < 9 := (by omega); have HNS := Aside0.mk hns
  simp only [Int.toNat_natCast]
  clear hk0 hk9 h hns; have hsl := form_cut kd hkd
  go_enter Tryd.func12, Tryd.ntmps12
  go_wp2_with (first | ((with_reducible refine gd_ 1 rfl ?_); refine bx_ 1 rfl #[.int .i64 (kd : Int), .int .i64 a0_1, .int .i64 a0_2, .int .i64 a0_3, .int .i64 a0_4] 23 ?_; intro b2 hg w5 hbox hb; have HX := Aside0.mk hbox; have HB := Aside0.mk hb; obtain ⟨x0, x1, x2, x3, x4⟩ := cc5_ hbox; clear hb hbox hg) | (go_at_call 14; refine (impl_OpOk.calls k (kd : Int) a0_1 a0_2 a0_3 a0_4 true _ HT.out).mono ?_; rintro e w6 ⟨rfl, hb⟩; have HB6 := Aside0.mk (below_step HB.out hb); obtain ⟨y0, y1, y2, y3, y4⟩ := cc5_ (blk_below HX.out hb); have u0 := (up_cell y0).1; have u1 := (up_cell y1).1; have u2 := (up_cell y2).1; have u3 := (up_cell y3).1; have u4 := (up_cell y4).1; obtain ⟨z0, z1⟩ := form_word (HG.out.belowW HB6.out) kd hkd; clear hb) | (go_at_call 39; refine (opNumbers_calls (kd : Int) a0_1 a0_2 a0_3 a0_4 _).mono ?_; rintro e w8 ⟨rfl, hb⟩; have v0 := (up_cell (pw_cell_below hb (v := .string (formW kd)) ((cell_of_row _ w6.heap.size 0 _ _ _ (heap_alloc_new w6 _)).trans rfl))).1; have v1 := (up_cell (pw_cell_below hb (v := .int .i64 (formN kd : Int)) ((cell_of_row _ w6.heap.size 1 _ _ _ (heap_alloc_new w6 _)).trans rfl))).1; have HB8 := Aside0.mk hb; clear hb))
  obtain ⟨g, hg⟩ : ∃ g, w8.heap.size = g := ⟨_, rfl⟩; have HA : Aside0 ((w8.alloc (.cells #[.int .i64 a0_1, .int .i64 a0_2, .int .i64 a0_3, .int .i64 a0_4] 53)).heap[g]? = some (.cells #[.int .i64 a0_1, .int .i64 a0_2, .int .i64 a0_3, .int .i64 a0_4] 53 (0, 0))) := ⟨by rw [← hg]; exact blk_new w8 _⟩; have hba := below_step (HB6.out.alloc HB6.out.size (.cells #[.string (formW kd), .int .i64 (formN kd : Int)] 64)) HB8.out; have HBA := Aside0.mk (hba.alloc hba.size (.cells #[.int .i64 a0_1, .int .i64 a0_2, .int .i64 a0_3, .int .i64 a0_4] 53)); have HGE := Aside0.mk (show w.heap.size ≤ g by rw [← hg]; exact hba.size)
  rw [hg]
  have h4 := formN_le kd hkd; clear hba hg u0 u1 u2 u3 u4 v0 v1 x0 x1 x2 x3 x4 y0 y1 y2 y3 y4
  (try simp only [Act.put, List.setIfInBounds_toArray, List.set_cons_zero, List.set_cons_succ])
  go_loopg [5, 23] (formN kd) (fun kq v5 v23 w' => ∃ i : Nat, kq + i = formN kd ∧ v5 = .string (txtI (formW kd) ([a0_1, a0_2, a0_3, a0_4].take i)) ∧ v23 = .int .i64 i ∧ w'.heap[g]? = some (.cells #[.int .i64 a0_1, .int .i64 a0_2, .int .i64 a0_3, .int .i64 a0_4] 53 (0, 0)) ∧ Below w.heap.size w w')
  case atStart => exact ⟨0, by omega, rfl, rfl, HA.out, HBA.out⟩
  case round =>
   obtain ⟨i, hk, rfl, rfl, hA, hL⟩ := hrel; have HA2 := Aside0.mk hA; have HL := Aside0.mk hL
   by_cases h6 : i < formN kd
   · have x : wr.cell? ⟨g, i, none⟩ = some (.int .i64 ([a0_1, a0_2, a0_3, a0_4].getD i 0)) := num_at hA (by omega)
     have HN := Aside0.mk (HNS.out ([a0_1, a0_2, a0_3, a0_4].getD i 0) (num_mem (by omega))); have HS := Aside0.mk (txtI_len (formW kd) ([a0_1, a0_2, a0_3, a0_4].take i) (fun n hn => HNS.out n (List.mem_of_mem_take hn)) (formW_len kd hkd) (by simp; omega)); obtain ⟨n, hn⟩ : ∃ n, [a0_1, a0_2, a0_3, a0_4].getD i 0 = n := ⟨_, rfl⟩; obtain ⟨tx, htx⟩ : ∃ tx, txtI (formW kd) ([a0_1, a0_2, a0_3, a0_4].take i) = tx := ⟨_, rfl⟩; have HNM := Aside0.mk hn; have HTX := Aside0.mk htx
     rw [hn] at x HN; rw [htx] at HS ⊢
     have l1 : (⟨#[46]⟩ : ByteArray).size + (⟨(Lib.itoa n).toArray⟩ : ByteArray).size ≤ 9223372036854775807 := (by have := Lib.itoa_length_le n HN.out.1 HN.out.2; show 1 + (Lib.itoa n).toArray.size ≤ _; rw [List.size_toArray]; omega); have s1 : ∀ W : World, (Op.stringOp .add ⟨#[46]⟩ ⟨(Lib.itoa n).toArray⟩).run Tryd.prog W = .ok (.string (numT n)) W := fun W => run_string_add_sum W _ _ l1; have s2 : ∀ W : World, (Op.stringOp .add tx (numT n)).run Tryd.prog W = .ok (.string (tx ++ numT n)) W := fun W => run_string_add_sum W _ _ (by have := HS.out; have := Lib.itoa_length_le n HN.out.1 HN.out.2; have : (numT n).size = 1 + (Lib.itoa n).length := numT_size n; omega); clear hn htx l1; clear hA hL
     go_wp2_with (go_at_call 40; refine (itoa_calls _ _ (HG.out.belowW HL.out).toP HN.out.1 HN.out.2).mono ?_; rintro e w9 ⟨rfl, hb⟩; have HB9 := Aside0.mk (below_step HL.out hb); have HA9 := Aside0.mk (blk_below HA2.out hb); clear hb)
     go_roundg (gk - 1)
     case measure => omega
     case rel => exact ⟨i + 1, by omega, by rw [take_getD _ _ (by simp; omega), txtI_snoc, HNM.out, HTX.out], by first | rfl | (simp; done) | (unfold wrap64; simp; omega), HA9.out, HB9.out⟩
   · obtain rfl : i = formN kd := by omega
     clear hA hL
     go_wp2
     go_ret
     exact ⟨rfl, HL.out⟩
end
section
/-- The kind of a word, from i on. -/
def kindGo (s : ByteArray) : Nat → Nat → Int × Bool
  | 0, _ => (0, false)
  | n + 1, i => if (formW i).toList = s.toList then ((i : Int), true) else kindGo s n (i + 1)
set_option maxHeartbeats 4000000 in
set_option maxRecDepth 100000 in
theorem opKind_calls (s : ByteArray) (w : World) (hG : Glob w) :
    Calls Tryd.prog 32 #[.string s] w fun e w' => e = .returned (.tuple #[.int .i64 (kindGo s 8 1).1, .bool (kindGo s 8 1).2]) ∧ Below w.heap.size w w' := by
  have HG := Aside0.mk hG; clear hG
  obtain ⟨r, hr⟩ : ∃ r, kindGo s 8 1 = r := ⟨_, rfl⟩
  have HR := Aside0.mk hr
  rw [hr]; clear hr
  go_enter Tryd.func32, Tryd.ntmps32
  go_wp2
  go_loopg [4] 8 (fun kq v4 w' => ∃ i : Nat, kq + i = 9 ∧ 1 ≤ i ∧ v4 = .int .i64 i ∧ Aside0 (kindGo s kq i = r) ∧ Aside0 (Below w.heap.size w w'))
  case atStart => exact ⟨1, by omega, by omega, rfl, HR, Aside0.mk (Below.refl _ _)⟩
  case round =>
    clear HR
    obtain ⟨i, hk, h1, rfl, HR, HB⟩ := hrel
    by_cases h9 : i < 9
    · have HG2 := Aside0.mk (HG.out.belowW HB.out)
      obtain ⟨x0, x1⟩ := form_word HG2.out i h9
      obtain ⟨fw, hfw⟩ : ∃ fw, formW i = fw := ⟨_, rfl⟩
      have HFW := Aside0.mk hfw
      rw [hfw] at x0
      clear hfw x1
      have H2 := HR.out
      rw [show gk = (gk - 1) + 1 by omega, kindGo, HFW.out] at H2
      by_cases hc : fw.toList = s.toList
      · rw [if_pos hc] at H2
        have H3 := Aside0.mk H2
        have k0 : (fw.toList == s.toList) = true := beq_iff_eq.mpr hc
        have k1 : decide (fw.toList = s.toList) = true := decide_eq_true hc
        clear H2 hc
        go_wp2
        go_ret2
        refine ⟨?_, HB.out⟩
        rw [← H3.out]; rfl
      · rw [if_neg hc] at H2
        have H3 := Aside0.mk H2
        have k0 : (fw.toList == s.toList) = false := beq_eq_false_iff_ne.mpr hc
        have k1 : decide (fw.toList = s.toList) = false := decide_eq_false hc
        clear H2 hc
        go_wp2
        go_roundg (gk - 1)
        case measure => omega
        case rel => exact ⟨i + 1, by omega, by omega, by first | rfl | (simp; done) | (unfold wrap64; simp; omega), H3, HB⟩
    · have H2 := HR.out
      rw [show gk = 0 by omega, kindGo] at H2
      have H3 := Aside0.mk H2
      clear H2
      go_wp2
      go_ret2
      refine ⟨?_, HB.out⟩
      rw [← H3.out]; rfl
/-- Parts that are read, one by one, and whether any failed. -/
def scanF (k : Nat) : List ByteArray → Bool → Option (List Int × Bool)
  | [], fl => some ([], fl)
  | p :: ps, fl => (impl_numberRead.f k p).bind fun r => (scanF k ps (fl || !r.2)).bind fun x => some (r.1 :: x.1, x.2)
theorem cells2_at {w : World} {B : Nat} {a b : Value} {t : TypeId} (h : w.heap[B]? = some (.cells #[a, b] t (0, 0))) : w.cell? ⟨B, 0, none⟩ = some a ∧ w.cell? ⟨B, 1, none⟩ = some b := ⟨(cell_of_row _ _ _ _ _ _ h).trans rfl, (cell_of_row _ _ _ _ _ _ h).trans rfl⟩
set_option maxHeartbeats 4000000 in
set_option maxRecDepth 100000 in
theorem scanPart_calls (k B : Nat) (rest : ByteArray) (fl : Bool) (s : ByteArray) (n : Int) (ok : Bool) (w : World) (hb : w.heap[B]? = some (.cells #[.string rest, .bool fl] 55 (0, 0))) (h : impl_numberRead.f k s = some (n, ok)) :
    Calls Tryd.prog 53 #[.pointer (some ⟨B, 0, none⟩), .string s, .func (.func 34) #[] #[]] w fun e w' => e = .returned (.int .i64 n) ∧ ∃ m, w' = (w.drewN m).setCell ⟨B, 1, none⟩ (.bool (fl || !ok)) := by
  have H := Aside0.mk h; clear h
  obtain ⟨x0, x1⟩ := cells2_at hb
  have y1 := blk_frozen hb 1
  have hx : ∀ m, (w.drewN m).cell? ⟨B, 1, none⟩ = some (.bool fl) := fun m => x1
  have hy : ∀ m, (w.drewN m).frozen? ⟨B, 1, none⟩ = false := fun m => y1
  clear hb x0
  have henter : ∀ (args : Array Value) (W : World), (callFunc 34 args).run Tryd.prog W = .ok (.enter 34 args) W := fun args W => enters_ Tryd.func34 (by kernel_rfl) rfl args W
  cases fl with
  | true =>
    go_enter Tryd.func53, Tryd.ntmps53
    go_wp2_with (refine (impl_numberRead.calls k s n ok _ H.out).mono ?_; rintro e w2 ⟨rfl, ⟨m, rfl⟩⟩)
    go_ret
    exact ⟨rfl, m, rfl⟩
  | false =>
    go_enter Tryd.func53, Tryd.ntmps53
    go_wp2_with (refine (impl_numberRead.calls k s n ok _ H.out).mono ?_; rintro e w2 ⟨rfl, ⟨m, rfl⟩⟩)
    go_ret
    exact ⟨rfl, m, rfl⟩
/-- The parts of a text. -/
def partsB (s sep : ByteArray) : List ByteArray := Lib.splitB sep 0 (Lib.countB s sep) s
theorem partsB_len (s sep : ByteArray) (h1 : 1 ≤ sep.size) : (partsB s sep).length = Lib.countB s sep + 1 := Lib.splitB_all sep h1 0 _ s rfl
theorem partsB_le (s sep : ByteArray) (h1 : 1 ≤ sep.size) : (partsB s sep).length ≤ s.size + 1 := by
  rw [partsB_len s sep h1]
  have := Lib.countB_le sep h1 s.size s (Nat.le_refl _)
  omega
theorem split_calls (s sep : ByteArray) (w : World) (hG : Glob w) (hs : s.size ≤ 1048576) (h1 : 1 ≤ sep.size) :
    Calls Tryd.prog 66 #[.string s, .string sep] w fun e w' => e = .returned (.slice (some ⟨w.heap.size, 0, none⟩) (partsB s sep).length (partsB s sep).length) ∧ w' = w.alloc (.cells ((partsB s sep).map Value.string).toArray 9) := by
  obtain ⟨m, hm⟩ := hG.max
  rw [partsB_len s sep h1]
  exact Tryd.strings_Split s sep m w (by omega) hm h1
theorem part_at {w : World} {P : Nat} {ps : List ByteArray} {t : TypeId} {fr : Nat × Nat} (h : w.heap[P]? = some (.cells (ps.map Value.string).toArray t fr)) {i : Nat} {p : ByteArray} (hi : ps[i]? = some p) : w.cell? ⟨P, i, none⟩ = some (.string p) := by
  rw [cell_of_row _ _ _ _ _ _ h]
  simp [hi]
set_option maxHeartbeats 4000000 in
set_option maxRecDepth 100000 in
theorem scanInt_calls (k B : Nat) (rest s sep : ByteArray) (ns : List Int) (fl : Bool) (w : World) (hG : Glob w) (hs : s.size ≤ 1048576) (h1 : 1 ≤ sep.size) (hb : w.heap[B]? = some (.cells #[.string rest, .bool false] 55 (0, 0))) (h : scanF k (partsB s sep) false = some (ns, fl)) :
    Calls Tryd.prog 33 #[.pointer (some ⟨B, 0, none⟩), .string s, .string sep, .func (.func 34) #[] #[]] w fun e w' => ∃ v, e = .returned v ∧ Kd.R (Kd.int .i64) 3 w' B (fun j => B < j) v ns ∧ w'.heap[B]? = some (.cells #[.string rest, .bool fl] 55 (0, 0)) ∧ Below B w w' := by
  have hBl := blk_lt hb
  obtain ⟨ps, hps⟩ : ∃ ps, partsB s sep = ps := ⟨_, rfl⟩
  have hple := partsB_le s sep h1
  rw [hps] at h hple
  obtain ⟨P, hP⟩ : ∃ P, w.heap.size = P := ⟨_, rfl⟩
  have HPS := Aside0.mk hps; have HG := Aside0.mk hG; have HS := Aside0.mk hs; have H1 := Aside0.mk h1; have HB := Aside0.mk hb; have H := Aside0.mk h; have HL := Aside0.mk hple; have HPq := Aside0.mk hP; have HBP := Aside0.mk (show B < P by omega)
  clear hps hG hs h1 hb h hple hP hBl
  obtain ⟨n, hn⟩ : ∃ n, ps.length = n := ⟨_, rfl⟩
  have HN := Aside0.mk hn
  have hn2 : (n : Int) ≤ 1048577 := by have := HL.out; have := HS.out; omega
  clear hn
  go_enter Tryd.func33, Tryd.ntmps33
  go_wp2_with (go_at_call 66; refine (split_calls s sep _ HG.out HS.out H1.out).mono ?_; rintro e w2 ⟨rfl, hw2⟩; rw [HPS.out, HN.out, HPq.out]; have HW := Aside0.mk hw2; clear hw2)
  have HP2 : Aside0 (w2.heap[P]? = some (.cells (ps.map Value.string).toArray 9 (0, 0))) := ⟨by rw [HW.out, HPS.out, ← HPq.out]; exact heap_alloc_new _ _⟩
  have HB2 : Aside0 (w2.heap[B]? = some (.cells #[.string rest, .bool false] 55 (0, 0))) := ⟨by rw [HW.out]; exact blk_below HB.out ((Below.refl _ _).alloc (Nat.le_refl _) _)⟩
  have HBel : Aside0 (Below B w w2) := ⟨by rw [HW.out]; exact (Below.refl _ _).alloc (by rw [HPq.out]; exact Nat.le_of_lt HBP.out) _⟩
  clear HW HB
  go_loopg [9, 16] n (fun kq v9 v16 w' => ∃ (i : Nat) (acc ms : List Int) (fi : Bool), kq + i = n ∧ v16 = .int .i64 i ∧ Aside0 (scanF k (ps.drop i) fi = some (ms, fl)) ∧ Aside0 (acc ++ ms = ns) ∧ Aside0 (acc.length = i) ∧ Aside0 (Kd.R (Kd.int .i64) 3 w' B (fun j => B < j ∧ j ≠ P) v9 acc) ∧ Aside0 (w'.heap[B]? = some (.cells #[.string rest, .bool fi] 55 (0, 0))) ∧ Aside0 (w'.heap[P]? = some (.cells (ps.map Value.string).toArray 9 (0, 0))) ∧ Aside0 (Below B w w'))
  case atStart => exact ⟨0, [], ns, false, by omega, rfl, H, Aside0.mk rfl, Aside0.mk rfl, Aside0.mk (Kd.R_nil _ _ _ _ _), HB2, HP2, HBel⟩
  case round =>
    clear H HB2 HP2 HBel
    obtain ⟨i, acc, ms, fi, hk, rfl, H, HA, HAL, HR, HBi, HPi, HBel⟩ := hrel
    by_cases hi : i < n
    · have hi2 : i < ps.length := by rw [HN.out]; exact hi
      obtain ⟨p, hp⟩ : ∃ p, ps[i]? = some p := ⟨_, List.getElem?_eq_getElem hi2⟩
      have hd : ps.drop i = p :: ps.drop (i + 1) := by
        rw [List.drop_eq_getElem_cons hi2]
        congr 1
        rw [List.getElem?_eq_getElem hi2] at hp
        exact Option.some.inj hp
      have x := part_at HPi.out hp
      have H2 := H.out
      rw [hd, scanF] at H2
      obtain ⟨⟨q, ok⟩, hq, H2⟩ := Option.bind_eq_some_iff.1 H2
      obtain ⟨⟨ms2, fl2⟩, hm, H2⟩ := Option.bind_eq_some_iff.1 H2
      obtain ⟨rfl, rfl⟩ := Prod.mk.inj (Option.some.inj H2)
      have HQ := Aside0.mk hq; have HM := Aside0.mk hm
      clear hi2 hp hd H2 hq hm H
      have hin : (i : Int) < (n : Int) := by omega
      go_wp2_with (first
        | (go_at_call 53; refine (scanPart_calls k B rest fi p q ok _ HBi.out HQ.out).mono ?_; rintro e w3 ⟨rfl, m, hw3⟩; have HW3 := Aside0.mk hw3; have HB3 : Aside0 (w3.heap[B]? = some (.cells #[.string rest, .bool (fi || !ok)] 55 (0, 0))) := ⟨by rw [hw3]; exact blk_set (cs := #[.string rest, .bool fi]) (w := wr.drewN m) HBi.out 1 _⟩; have HP3 : Aside0 (w3.heap[P]? = some (.cells (ps.map Value.string).toArray 9 (0, 0))) := ⟨by rw [hw3]; exact blk_far (w := wr.drewN m) HPi.out (p := ⟨B, 1, none⟩) (by have := HBP.out; show P ≠ B; omega) _⟩; have HR3 : Aside0 (Kd.R (Kd.int .i64) 3 w3 B (fun j => B < j ∧ j ≠ P) u9 acc) := ⟨by rw [hw3]; exact Kd.R_far (p := ⟨B, 1, none⟩) (Kd.R_drewN HR.out m) (fun j hj => by show j ≠ B; omega) _⟩; have HBel3 : Aside0 (Below B w w3) := ⟨by rw [hw3]; exact (pw_below_drewN HBel.out m).setCell (Nat.le_refl _) _⟩; clear hw3 HW3)
        | ((with_reducible refine gate_builtin (b := .append) (xs := #[.tmp 20, .tmp 25]) rfl ?_); at_builtin; refine Kd.R_append (Kd.int .i64) (w0 := w) B rfl (.tmp 20) (.tmp 25) 47 3 (.int .i64 0) 8 rfl Tryd.underlying47 info3 rfl (by decide) (by omega) u9 acc q [.int .i64 q] (fun j => B < j ∧ j ≠ P) (fun _ => False) rfl rfl ?aP (fun _ hk => hk.elim) ?aF ?aO ?aB ?aS ?aL ?_; (case aP => exact rfl); (case aB => exact HBel3.out); (case aF => intro j hj; have := blk_lt HP3.out; have := HBP.out; exact ⟨by omega, by omega⟩); (case aO => exact HR3.out); (case aS => have := blk_lt HB3.out; omega); (case aL => have := HAL.out; omega); intro v1 w4 ho hb hg hat; have HR4 := Aside0.mk ho; have HBel4 := Aside0.mk hb; have hown := HR3.out.1; have HB4 : Aside0 (w4.heap[B]? = some (.cells #[.string rest, .bool (fi || !ok)] 55 (0, 0))) := ⟨(hg.block B (blk_lt HB3.out) (fun h => absurd (hown B h.symm).1 (by omega))).trans HB3.out⟩; have HP4 : Aside0 (w4.heap[P]? = some (.cells (ps.map Value.string).toArray 9 (0, 0))) := ⟨(hg.block P (blk_lt HP3.out) (fun h => absurd rfl (hown P h.symm).2)).trans HP3.out⟩; clear ho hb hg hat hown))
      go_roundg (gk - 1)
      case measure => omega
      case rel => exact ⟨i + 1, acc ++ [q], ms2, fi || !ok, by omega, by first | rfl | (simp; done) | (unfold wrap64; simp; omega), HM, Aside0.mk (by rw [← HA.out, List.append_assoc]; rfl), Aside0.mk (by rw [List.length_append, HAL.out]; rfl), HR4, HB4, HP4, HBel4⟩
    · have hin : ¬ ((i : Int) < (n : Int)) := by omega
      have hlast : ms = [] ∧ fi = fl := by
        have H2 := H.out
        rw [List.drop_of_length_le (by rw [HN.out]; omega), scanF] at H2
        obtain ⟨e1, e2⟩ := Prod.mk.inj (Option.some.inj H2)
        exact ⟨e1.symm, e2⟩
      obtain ⟨rfl, rfl⟩ := hlast
      have e := HA.out
      rw [List.append_nil] at e
      subst e
      go_wp2
      go_ret
      exact ⟨_, rfl, Kd.R_mono HR.out (fun _ h => h.1), HBi.out, HBel.out⟩
end
end Go.Proofs.YtfafjpfigphchaaDoor.X
namespace Go.Proofs.YtfafjpfigphchaaDoor.X
open Go.RowKit Go.Proofs.YtfafjpfigphchaaDoorW.PrintWords Go.Proofs.YtfafjpfigphchaaDoorW.PrintLast Go.Proofs.YtfafjpfigphchaaDoorW.PrintMore
attribute [local go_sem] max2_int min2_int max_two min_two max_three min_three max_four min_four
set_option linter.unusedVariables false
set_option linter.unusedSimpArgs false

/-! ### impl_OpRead: function 8 -/
def zR : Int × Int × Int × Int × Int × Bool := (0, 0, 0, 0, 0, false)
def opEnd (k : Nat) (s : ByteArray) (kd a b c d : Int) : Option (Int × Int × Int × Int × Int × Bool) := (impl_OpOk.f k kd a b c d).bind fun t => if t = true then (impl_OpText.f k kd a b c d).bind fun x => if x.toList = s.toList then some (kd, a, b, c, d, true) else some zR else some zR
def pad4 (l : List Int) : List Int := l ++ List.replicate (4 - l.length) 0
def impl_OpRead.f (k : Nat) (a0 : ByteArray) : Option (Int × Int × Int × Int × Int × Bool) := if a0.size ≤ 1048576 then (if (kindGo ⟨(Lib.cut a0.data.toList [46]).1.toArray⟩ 8 1).2 = true then (if (Lib.cut a0.data.toList [46]).2.2 = true then (if (Lib.cut a0.data.toList [46]).2.1.toArray.size ≤ 1048576 then (scanF k (partsB ⟨(Lib.cut a0.data.toList [46]).2.1.toArray⟩ ⟨#[46]⟩) false).bind fun x => if x.2 = true then some zR else if 4 < x.1.length then some zR else opEnd k a0 (kindGo ⟨(Lib.cut a0.data.toList [46]).1.toArray⟩ 8 1).1 ((pad4 x.1).getD 0 0) ((pad4 x.1).getD 1 0) ((pad4 x.1).getD 2 0) ((pad4 x.1).getD 3 0) else none) else opEnd k a0 (kindGo ⟨(Lib.cut a0.data.toList [46]).1.toArray⟩ 8 1).1 0 0 0 0) else some zR) else none
section
variable {w w0 : World} {g b B : Nat} {t : TypeId} {a0 a1 a2 a3 a4 c0 c1 c2 c3 c4 : Value} {cs : Array Value}
theorem blk5 (h : w.heap[g]? = some (.cells #[a0, a1, a2, a3, a4] t (0, 0))) : (((((w.setCell ⟨g, 0, none⟩ c0).setCell ⟨g, 1, none⟩ c1).setCell ⟨g, 2, none⟩ c2).setCell ⟨g, 3, none⟩ c3).setCell ⟨g, 4, none⟩ c4).heap[g]? = some (.cells #[c0, c1, c2, c3, c4] t (0, 0)) :=
 blk_set (blk_set (blk_set (blk_set (blk_set h 0 _) 1 _) 2 _) 3 _) 4 _
theorem far5 (h : w.heap[g]? = some (.cells cs t (0, 0))) (hne : g ≠ b) : (((((w.setCell ⟨b, 0, none⟩ c0).setCell ⟨b, 1, none⟩ c1).setCell ⟨b, 2, none⟩ c2).setCell ⟨b, 3, none⟩ c3).setCell ⟨b, 4, none⟩ c4).heap[g]? = some (.cells cs t (0, 0)) :=
 blk_far (p := ⟨b, 4, none⟩) (blk_far (p := ⟨b, 3, none⟩) (blk_far (p := ⟨b, 2, none⟩) (blk_far (p := ⟨b, 1, none⟩) (blk_far (p := ⟨b, 0, none⟩) h hne _) hne _) hne _) hne _) hne _
theorem below5 (h : Below B w0 w) (hb : B ≤ b) : Below B w0 (((((w.setCell ⟨b, 0, none⟩ c0).setCell ⟨b, 1, none⟩ c1).setCell ⟨b, 2, none⟩ c2).setCell ⟨b, 3, none⟩ c3).setCell ⟨b, 4, none⟩ c4) :=
 ((((h.setCell (p := ⟨b, 0, none⟩) hb _).setCell (p := ⟨b, 1, none⟩) hb _).setCell (p := ⟨b, 2, none⟩) hb _).setCell (p := ⟨b, 3, none⟩) hb _).setCell (p := ⟨b, 4, none⟩) hb _
end
theorem cut_calls (s word rest : ByteArray) (more : Bool) (w : World) (hG : Glob w) (hs : s.size ≤ 1048576) (h1 : (⟨(Lib.cut s.data.toList [46]).1.toArray⟩ : ByteArray) = word) (h2 : (⟨(Lib.cut s.data.toList [46]).2.1.toArray⟩ : ByteArray) = rest) (h3 : (Lib.cut s.data.toList [46]).2.2 = more) :
  Calls Tryd.prog 31 #[.string s, .string ⟨#[46]⟩] w fun e w' => e = .returned (.tuple #[.string word, .string rest, .bool more]) ∧ Below w.heap.size w w' := by
 obtain ⟨m, hm⟩ := hG.max
 refine (Tryd.strings_Cut s ⟨#[46]⟩ m w (by omega) hm).mono ?_
 rintro e w' ⟨rfl, n, rfl⟩
 refine ⟨?_, pw_below_drewN (Below.refl _ _) n⟩
 rw [← h1, ← h2, ← h3]
theorem C_cells64 {w : World} {A : Option Addr} {xs : List Int} (h : Kd.C (Kd.int .i64) w A xs.length xs) (hn : 0 < xs.length) : ∃ ad, A = some ad ∧ ∀ j v, (nums .i64 xs)[j]? = some v → w.cell? (ad.add j) = some v := by
 obtain ⟨ad, e, _⟩ := Kd.at_int h (0 : Int) (by omega) (by omega)
 refine ⟨ad, e, fun j v hj => ?_⟩
 have hjl : j < xs.length := by
  have := (List.getElem?_eq_some_iff.1 hj).1
  simpa [nums] using this
 obtain ⟨ad', e', hx⟩ := Kd.at_int h (j : Int) (by omega) (by omega)
 rw [e] at e'; obtain rfl := Option.some.inj e'
 rw [Int.toNat_natCast] at hx
 rw [hx, ← hj]
 simp [nums, rd, List.getD_eq_getElem?_getD, hjl]
theorem splice4 (xs : List Int) (h : xs.length ≤ 4) : splice (nums .i64 (List.replicate 4 0)) 0 (nums .i64 xs) = nums .i64 (pad4 xs) := by
 unfold splice nums pad4
 rw [List.take_zero, List.nil_append, List.map_append, List.map_replicate, List.length_map, Nat.zero_add, List.map_replicate, List.drop_replicate]
theorem pad4_len (xs : List Int) (h : xs.length ≤ 4) : (pad4 xs).length = 4 := by simp [pad4]; omega
theorem nums_at {w : World} {g : Nat} {l : List Int} {t : TypeId} {fr : Nat × Nat} (h : w.heap[g]? = some (.cells (nums .i64 l).toArray t fr)) (hl : l.length = 4) : w.cell? ⟨g, 0, none⟩ = some (.int .i64 (l.getD 0 0)) ∧ w.cell? ⟨g, 1, none⟩ = some (.int .i64 (l.getD 1 0)) ∧ w.cell? ⟨g, 2, none⟩ = some (.int .i64 (l.getD 2 0)) ∧ w.cell? ⟨g, 3, none⟩ = some (.int .i64 (l.getD 3 0)) := by
 match l, hl with
 | [a, b, c, d], _ => exact ⟨(cell_of_row _ _ _ _ _ _ h).trans rfl, (cell_of_row _ _ _ _ _ _ h).trans rfl, (cell_of_row _ _ _ _ _ _ h).trans rfl, (cell_of_row _ _ _ _ _ _ h).trans rfl⟩
theorem opCut : ∀ (b : Nat) (W : World), (Instr.sliceAt 53 (.pointer (some ⟨b, 0, none⟩)) none none none).run Tryd.prog W = .ok (.slice (some ⟨b, 0, none⟩) 4 4) W := fun b W => (by (show _ = _; kernel_rfl))
theorem tup6 {a b c d e a' b' c' d' e' : Int} {f f' : Bool} (h : some (a, b, c, d, e, f) = some (a', b', c', d', e', f')) : a = a' ∧ b = b' ∧ c = c' ∧ d = d' ∧ e = e' ∧ f = f' := by
 have := Option.some.inj h
 simp only [Prod.mk.injEq] at this
 exact this
set_option maxHeartbeats 8000000 in
set_option maxRecDepth 100000 in
theorem impl_OpRead.calls (k : Nat) (a0 : ByteArray) (r1 : Int) (r2 : Int) (r3 : Int) (r4 : Int) (r5 : Int) (r6 : Bool) (w : World) (h : impl_OpRead.f k a0 = some (r1, r2, r3, r4, r5, r6)) (hG : Glob w) :
  Calls Tryd.prog 8 #[.string a0] w fun e w' => e = .returned (.tuple #[.agg #[.int .i64 r1, .int .i64 r2, .int .i64 r3, .int .i64 r4, .int .i64 r5], .bool r6]) ∧ Below w.heap.size w w' := by
 have HG := Aside0.mk hG; clear hG; have hu := Tryd.underlying23; have hz : ∀ w : World, (zeroValue 23).run Tryd.prog w = .ok (.agg #[.int .i64 0, .int .i64 0, .int .i64 0, .int .i64 0, .int .i64 0]) w := fun w => (by kernel_rfl); have hz4 : ∀ w : World, (zeroValue 53).run Tryd.prog w = .ok (.agg #[.int .i64 0, .int .i64 0, .int .i64 0, .int .i64 0]) w := fun w => (by kernel_rfl); have hzt : ∀ w : World, (zeroValue 55).run Tryd.prog w = .ok (.agg #[.string ⟨#[]⟩, .bool false]) w := fun w => (by kernel_rfl)
 unfold impl_OpRead.f at h
 split at h
 case isFalse => cases h
 rename_i hs
 obtain ⟨word, hword⟩ : ∃ x, (⟨(Lib.cut a0.data.toList [46]).1.toArray⟩ : ByteArray) = x := ⟨_, rfl⟩; obtain ⟨rest, hrest⟩ : ∃ x, (⟨(Lib.cut a0.data.toList [46]).2.1.toArray⟩ : ByteArray) = x := ⟨_, rfl⟩; obtain ⟨more, hmore⟩ : ∃ x, (Lib.cut a0.data.toList [46]).2.2 = x := ⟨_, rfl⟩
 rw [show (Lib.cut a0.data.toList [46]).2.1.toArray.size = (⟨(Lib.cut a0.data.toList [46]).2.1.toArray⟩ : ByteArray).size from rfl, hword, hrest, hmore] at h
 obtain ⟨⟨kd, kn⟩, hkd⟩ : ∃ x, kindGo word 8 1 = x := ⟨_, rfl⟩
 rw [hkd] at h
 have HS := Aside0.mk hs; have HW := Aside0.mk hword; have HRs := Aside0.mk hrest; have HM := Aside0.mk hmore; have HK := Aside0.mk hkd; clear hs hword hrest hmore hkd
 dsimp only at h
 cases kn with
 | false =>
  rw [if_neg (by decide)] at h
  obtain ⟨rfl, rfl, rfl, rfl, rfl, rfl⟩ := tup6 h
  go_enter Tryd.func8, Tryd.ntmps8
  go_wp2_with (first | ((with_reducible refine gd_ 2 rfl ?_); refine bx_ 2 rfl #[.int .i64 0, .int .i64 0, .int .i64 0, .int .i64 0, .int .i64 0] 23 ?_; intro b2 hg w4 hbox hb; have HX2 := Aside0.mk hbox; have HB4 := Aside0.mk hb; have HG2 := Aside0.mk (show w.heap.size ≤ b2 by rw [hg]; exact Nat.le_refl _); have HG4 := Aside0.mk (HG.out.belowW hb); clear hb hbox hg) | (go_at_call 31; refine (cut_calls a0 word rest _ _ HG4.out HS.out HW.out HRs.out HM.out).mono ?_; rintro e w5 ⟨rfl, hb⟩; have HX5 := Aside0.mk (blk_below HX2.out hb); have HB5 := Aside0.mk (below_step HB4.out hb); have HG5 := Aside0.mk (HG4.out.belowW hb); clear hb) | (go_at_call 32; refine (opKind_calls word _ HG5.out).mono ?_; rw [HK.out]; rintro e w6 ⟨rfl, hb⟩; have HX6 := Aside0.mk (blk_below HX5.out hb); obtain ⟨x0, x1, x2, x3, x4⟩ := cc5_ HX6.out; obtain ⟨f0, f1, f2, f3, f4⟩ := cf5_ HX6.out; have HB6 := Aside0.mk (below_step HB5.out hb); have HG6 := Aside0.mk (HG5.out.belowW hb); clear hb))
  refine bodyPost_ret (results_ct rfl _ _ b2 23 #[.int .i64 0, .int .i64 0, .int .i64 0, .int .i64 0, .int .i64 0] (0, 0) _ rfl (blk5 HX6.out) Tryd.underlying23 rfl (by kernel_rfl)) rfl ⟨rfl, below5 HB6.out HG2.out⟩
 | true =>
  rw [if_pos rfl] at h
  cases more with
  | false =>
   rw [if_neg (by decide)] at h
   unfold opEnd at h
   obtain ⟨t, ht, h⟩ := Option.bind_eq_some_iff.1 h; have HOK := Aside0.mk ht; clear ht
   cases t with
   | false =>
    rw [if_neg (by decide)] at h
    obtain ⟨rfl, rfl, rfl, rfl, rfl, rfl⟩ := tup6 h
    go_enter Tryd.func8, Tryd.ntmps8
    go_wp2_with (first | ((with_reducible refine gd_ 2 rfl ?_); refine bx_ 2 rfl #[.int .i64 0, .int .i64 0, .int .i64 0, .int .i64 0, .int .i64 0] 23 ?_; intro b2 hg w4 hbox hb; have HX2 := Aside0.mk hbox; have HB4 := Aside0.mk hb; have HG2 := Aside0.mk (show w.heap.size ≤ b2 by rw [hg]; exact Nat.le_refl _); have HG4 := Aside0.mk (HG.out.belowW hb); clear hb hbox hg) | (go_at_call 31; refine (cut_calls a0 word rest _ _ HG4.out HS.out HW.out HRs.out HM.out).mono ?_; rintro e w5 ⟨rfl, hb⟩; have HX5 := Aside0.mk (blk_below HX2.out hb); have HB5 := Aside0.mk (below_step HB4.out hb); have HG5 := Aside0.mk (HG4.out.belowW hb); clear hb) | (go_at_call 32; refine (opKind_calls word _ HG5.out).mono ?_; rw [HK.out]; rintro e w6 ⟨rfl, hb⟩; have HX6 := Aside0.mk (blk_below HX5.out hb); obtain ⟨x0, x1, x2, x3, x4⟩ := cc5_ HX6.out; obtain ⟨f0, f1, f2, f3, f4⟩ := cf5_ HX6.out; have HB6 := Aside0.mk (below_step HB5.out hb); have HG6 := Aside0.mk (HG5.out.belowW hb); clear hb) | ((with_reducible refine gd_ 9 rfl ?_); refine bx_ 9 rfl #[.int .i64 0, .int .i64 0, .int .i64 0, .int .i64 0] 53 ?_; intro b9 hg w7 hbox hb; have HX7 := Aside0.mk (blk_below HX6.out hb); have HN7 := Aside0.mk hbox; obtain ⟨n0, n1, n2, n3⟩ := cc4_ hbox; have H29 := Aside0.mk (show b2 < b9 by rw [hg]; exact blk_lt HX6.out); have HB7 := Aside0.mk (below_step HB6.out hb); have HG7 := Aside0.mk (HG6.out.belowW hb); clear hb hbox hg x0 x1 x2 x3 x4 f0 f1 f2 f3 f4) | ((with_reducible refine gd_ 12 rfl ?_); refine bx_ 12 rfl #[.int .i64 0, .int .i64 0, .int .i64 0, .int .i64 0, .int .i64 0] 23 ?_; intro b12 hg w13 hbox hb; have HX13 := Aside0.mk (blk_below HX7.out hb); have HN13 := Aside0.mk hbox; obtain ⟨m0, m1, m2, m3, m4⟩ := cc5_ hbox; obtain ⟨q0, q1, q2, q3, q4⟩ := cf5_ hbox; have H212 := Aside0.mk (show b2 < b12 by rw [hg]; exact blk_lt HX7.out); have HB13 := Aside0.mk (below_step HB7.out hb); clear hb hbox hg) | (go_at_call 14; refine (impl_OpOk.calls k kd 0 0 0 0 false _ HOK.out).mono ?_; rintro e w14 ⟨rfl, hb⟩; have HN14 := Aside0.mk (blk_below (o := .cells #[.int .i64 kd, .int .i64 0, .int .i64 0, .int .i64 0, .int .i64 0] 23 (0, 0)) (blk5 HN13.out) hb); have HX14 := Aside0.mk (blk_below (far5 HX13.out (by have := H212.out; omega)) hb); clear m0 m1 m2 m3 m4; obtain ⟨m0, m1, m2, m3, m4⟩ := cc5_ HN14.out; obtain ⟨x0, x1, x2, x3, x4⟩ := cc5_ HX14.out; obtain ⟨f0, f1, f2, f3, f4⟩ := cf5_ HX14.out; have HB14 := Aside0.mk (below_step (below5 HB13.out (by have := HG2.out; have := H212.out; omega)) hb); clear hb q0 q1 q2 q3 q4))
    refine bodyPost_ret (results_ct rfl _ _ b2 23 #[.int .i64 0, .int .i64 0, .int .i64 0, .int .i64 0, .int .i64 0] (0, 0) _ rfl (blk5 HX14.out) Tryd.underlying23 rfl (by kernel_rfl)) rfl ⟨rfl, below5 HB14.out HG2.out⟩
   | true =>
    rw [if_pos rfl] at h
    obtain ⟨tx, htx, h⟩ := Option.bind_eq_some_iff.1 h; have HTX := Aside0.mk htx; clear htx
    by_cases hc : tx.toList = a0.toList
    · rw [if_pos hc] at h
      obtain ⟨rfl, rfl, rfl, rfl, rfl, rfl⟩ := tup6 h; have k0 := beq_iff_eq.mpr hc; have k1 := bne_eq_false_iff_eq.mpr hc; clear hc
      go_enter Tryd.func8, Tryd.ntmps8
      go_wp2_with (first | ((with_reducible refine gd_ 2 rfl ?_); refine bx_ 2 rfl #[.int .i64 0, .int .i64 0, .int .i64 0, .int .i64 0, .int .i64 0] 23 ?_; intro b2 hg w4 hbox hb; have HX2 := Aside0.mk hbox; have HB4 := Aside0.mk hb; have HG2 := Aside0.mk (show w.heap.size ≤ b2 by rw [hg]; exact Nat.le_refl _); have HG4 := Aside0.mk (HG.out.belowW hb); clear hb hbox hg) | (go_at_call 31; refine (cut_calls a0 word rest _ _ HG4.out HS.out HW.out HRs.out HM.out).mono ?_; rintro e w5 ⟨rfl, hb⟩; have HX5 := Aside0.mk (blk_below HX2.out hb); have HB5 := Aside0.mk (below_step HB4.out hb); have HG5 := Aside0.mk (HG4.out.belowW hb); clear hb) | (go_at_call 32; refine (opKind_calls word _ HG5.out).mono ?_; rw [HK.out]; rintro e w6 ⟨rfl, hb⟩; have HX6 := Aside0.mk (blk_below HX5.out hb); obtain ⟨x0, x1, x2, x3, x4⟩ := cc5_ HX6.out; obtain ⟨f0, f1, f2, f3, f4⟩ := cf5_ HX6.out; have HB6 := Aside0.mk (below_step HB5.out hb); have HG6 := Aside0.mk (HG5.out.belowW hb); clear hb) | ((with_reducible refine gd_ 9 rfl ?_); refine bx_ 9 rfl #[.int .i64 0, .int .i64 0, .int .i64 0, .int .i64 0] 53 ?_; intro b9 hg w7 hbox hb; have HX7 := Aside0.mk (blk_below HX6.out hb); have HN7 := Aside0.mk hbox; obtain ⟨n0, n1, n2, n3⟩ := cc4_ hbox; have H29 := Aside0.mk (show b2 < b9 by rw [hg]; exact blk_lt HX6.out); have HB7 := Aside0.mk (below_step HB6.out hb); have HG7 := Aside0.mk (HG6.out.belowW hb); clear hb hbox hg x0 x1 x2 x3 x4 f0 f1 f2 f3 f4) | ((with_reducible refine gd_ 12 rfl ?_); refine bx_ 12 rfl #[.int .i64 0, .int .i64 0, .int .i64 0, .int .i64 0, .int .i64 0] 23 ?_; intro b12 hg w13 hbox hb; have HX13 := Aside0.mk (blk_below HX7.out hb); have HN13 := Aside0.mk hbox; obtain ⟨m0, m1, m2, m3, m4⟩ := cc5_ hbox; obtain ⟨q0, q1, q2, q3, q4⟩ := cf5_ hbox; have H212 := Aside0.mk (show b2 < b12 by rw [hg]; exact blk_lt HX7.out); have HB13 := Aside0.mk (below_step HB7.out hb); clear hb hbox hg) | (go_at_call 14; refine (impl_OpOk.calls k kd 0 0 0 0 true _ HOK.out).mono ?_; rintro e w14 ⟨rfl, hb⟩; have HN14 := Aside0.mk (blk_below (o := .cells #[.int .i64 kd, .int .i64 0, .int .i64 0, .int .i64 0, .int .i64 0] 23 (0, 0)) (blk5 HN13.out) hb); have HX14 := Aside0.mk (blk_below (far5 HX13.out (by have := H212.out; omega)) hb); clear m0 m1 m2 m3 m4; obtain ⟨m0, m1, m2, m3, m4⟩ := cc5_ HN14.out; obtain ⟨x0, x1, x2, x3, x4⟩ := cc5_ HX14.out; obtain ⟨f0, f1, f2, f3, f4⟩ := cf5_ HX14.out; have HB14 := Aside0.mk (below_step (below5 HB13.out (by have := HG2.out; have := H212.out; omega)) hb); clear hb q0 q1 q2 q3 q4) | (go_at_call 12; refine (impl_OpText.calls k kd 0 0 0 0 tx _ HTX.out (HG.out.belowW HB14.out)).mono ?_; rintro e w15 ⟨rfl, hb⟩; have HN15 := Aside0.mk (blk_below HN14.out hb); have HX15 := Aside0.mk (blk_below HX14.out hb); clear m0 m1 m2 m3 m4 x0 x1 x2 x3 x4 f0 f1 f2 f3 f4; obtain ⟨m0, m1, m2, m3, m4⟩ := cc5_ HN15.out; obtain ⟨x0, x1, x2, x3, x4⟩ := cc5_ HX15.out; obtain ⟨f0, f1, f2, f3, f4⟩ := cf5_ HX15.out; have HB15 := Aside0.mk (below_step HB14.out hb); clear hb))
      refine bodyPost_ret (results_ct rfl _ _ b2 23 #[.int .i64 kd, .int .i64 0, .int .i64 0, .int .i64 0, .int .i64 0] (0, 0) _ rfl (blk5 HX15.out) Tryd.underlying23 rfl (by kernel_rfl)) rfl ⟨rfl, below5 HB15.out HG2.out⟩
    · rw [if_neg hc] at h
      obtain ⟨rfl, rfl, rfl, rfl, rfl, rfl⟩ := tup6 h; have k0 := beq_eq_false_iff_ne.mpr hc; have k1 := bne_iff_ne.mpr hc; clear hc
      go_enter Tryd.func8, Tryd.ntmps8
      go_wp2_with (first | ((with_reducible refine gd_ 2 rfl ?_); refine bx_ 2 rfl #[.int .i64 0, .int .i64 0, .int .i64 0, .int .i64 0, .int .i64 0] 23 ?_; intro b2 hg w4 hbox hb; have HX2 := Aside0.mk hbox; have HB4 := Aside0.mk hb; have HG2 := Aside0.mk (show w.heap.size ≤ b2 by rw [hg]; exact Nat.le_refl _); have HG4 := Aside0.mk (HG.out.belowW hb); clear hb hbox hg) | (go_at_call 31; refine (cut_calls a0 word rest _ _ HG4.out HS.out HW.out HRs.out HM.out).mono ?_; rintro e w5 ⟨rfl, hb⟩; have HX5 := Aside0.mk (blk_below HX2.out hb); have HB5 := Aside0.mk (below_step HB4.out hb); have HG5 := Aside0.mk (HG4.out.belowW hb); clear hb) | (go_at_call 32; refine (opKind_calls word _ HG5.out).mono ?_; rw [HK.out]; rintro e w6 ⟨rfl, hb⟩; have HX6 := Aside0.mk (blk_below HX5.out hb); obtain ⟨x0, x1, x2, x3, x4⟩ := cc5_ HX6.out; obtain ⟨f0, f1, f2, f3, f4⟩ := cf5_ HX6.out; have HB6 := Aside0.mk (below_step HB5.out hb); have HG6 := Aside0.mk (HG5.out.belowW hb); clear hb) | ((with_reducible refine gd_ 9 rfl ?_); refine bx_ 9 rfl #[.int .i64 0, .int .i64 0, .int .i64 0, .int .i64 0] 53 ?_; intro b9 hg w7 hbox hb; have HX7 := Aside0.mk (blk_below HX6.out hb); have HN7 := Aside0.mk hbox; obtain ⟨n0, n1, n2, n3⟩ := cc4_ hbox; have H29 := Aside0.mk (show b2 < b9 by rw [hg]; exact blk_lt HX6.out); have HB7 := Aside0.mk (below_step HB6.out hb); have HG7 := Aside0.mk (HG6.out.belowW hb); clear hb hbox hg x0 x1 x2 x3 x4 f0 f1 f2 f3 f4) | ((with_reducible refine gd_ 12 rfl ?_); refine bx_ 12 rfl #[.int .i64 0, .int .i64 0, .int .i64 0, .int .i64 0, .int .i64 0] 23 ?_; intro b12 hg w13 hbox hb; have HX13 := Aside0.mk (blk_below HX7.out hb); have HN13 := Aside0.mk hbox; obtain ⟨m0, m1, m2, m3, m4⟩ := cc5_ hbox; obtain ⟨q0, q1, q2, q3, q4⟩ := cf5_ hbox; have H212 := Aside0.mk (show b2 < b12 by rw [hg]; exact blk_lt HX7.out); have HB13 := Aside0.mk (below_step HB7.out hb); clear hb hbox hg) | (go_at_call 14; refine (impl_OpOk.calls k kd 0 0 0 0 true _ HOK.out).mono ?_; rintro e w14 ⟨rfl, hb⟩; have HN14 := Aside0.mk (blk_below (o := .cells #[.int .i64 kd, .int .i64 0, .int .i64 0, .int .i64 0, .int .i64 0] 23 (0, 0)) (blk5 HN13.out) hb); have HX14 := Aside0.mk (blk_below (far5 HX13.out (by have := H212.out; omega)) hb); clear m0 m1 m2 m3 m4; obtain ⟨m0, m1, m2, m3, m4⟩ := cc5_ HN14.out; obtain ⟨x0, x1, x2, x3, x4⟩ := cc5_ HX14.out; obtain ⟨f0, f1, f2, f3, f4⟩ := cf5_ HX14.out; have HB14 := Aside0.mk (below_step (below5 HB13.out (by have := HG2.out; have := H212.out; omega)) hb); clear hb q0 q1 q2 q3 q4) | (go_at_call 12; refine (impl_OpText.calls k kd 0 0 0 0 tx _ HTX.out (HG.out.belowW HB14.out)).mono ?_; rintro e w15 ⟨rfl, hb⟩; have HN15 := Aside0.mk (blk_below HN14.out hb); have HX15 := Aside0.mk (blk_below HX14.out hb); clear m0 m1 m2 m3 m4 x0 x1 x2 x3 x4 f0 f1 f2 f3 f4; obtain ⟨m0, m1, m2, m3, m4⟩ := cc5_ HN15.out; obtain ⟨x0, x1, x2, x3, x4⟩ := cc5_ HX15.out; obtain ⟨f0, f1, f2, f3, f4⟩ := cf5_ HX15.out; have HB15 := Aside0.mk (below_step HB14.out hb); clear hb))
      refine bodyPost_ret (results_ct rfl _ _ b2 23 #[.int .i64 0, .int .i64 0, .int .i64 0, .int .i64 0, .int .i64 0] (0, 0) _ rfl (blk5 HX15.out) Tryd.underlying23 rfl (by kernel_rfl)) rfl ⟨rfl, below5 HB15.out HG2.out⟩
  | true =>
   rw [if_pos rfl] at h
   split at h
   case isFalse => cases h
   rename_i hrs
   obtain ⟨⟨ns, fl⟩, hsc, h⟩ := Option.bind_eq_some_iff.1 h; have HRS := Aside0.mk hrs; have HSC := Aside0.mk hsc; clear hrs hsc
   dsimp only at h
   cases fl with
   | true =>
    rw [if_pos rfl] at h
    obtain ⟨rfl, rfl, rfl, rfl, rfl, rfl⟩ := tup6 h
    go_enter Tryd.func8, Tryd.ntmps8
    go_wp2_with (first | ((with_reducible refine gd_ 2 rfl ?_); refine bx_ 2 rfl #[.int .i64 0, .int .i64 0, .int .i64 0, .int .i64 0, .int .i64 0] 23 ?_; intro b2 hg w4 hbox hb; have HX2 := Aside0.mk hbox; have HB4 := Aside0.mk hb; have HG2 := Aside0.mk (show w.heap.size ≤ b2 by rw [hg]; exact Nat.le_refl _); have HG4 := Aside0.mk (HG.out.belowW hb); clear hb hbox hg) | (go_at_call 31; refine (cut_calls a0 word rest _ _ HG4.out HS.out HW.out HRs.out HM.out).mono ?_; rintro e w5 ⟨rfl, hb⟩; have HX5 := Aside0.mk (blk_below HX2.out hb); have HB5 := Aside0.mk (below_step HB4.out hb); have HG5 := Aside0.mk (HG4.out.belowW hb); clear hb) | (go_at_call 32; refine (opKind_calls word _ HG5.out).mono ?_; rw [HK.out]; rintro e w6 ⟨rfl, hb⟩; have HX6 := Aside0.mk (blk_below HX5.out hb); obtain ⟨x0, x1, x2, x3, x4⟩ := cc5_ HX6.out; obtain ⟨f0, f1, f2, f3, f4⟩ := cf5_ HX6.out; have HB6 := Aside0.mk (below_step HB5.out hb); have HG6 := Aside0.mk (HG5.out.belowW hb); clear hb) | ((with_reducible refine gd_ 9 rfl ?_); refine bx_ 9 rfl #[.int .i64 0, .int .i64 0, .int .i64 0, .int .i64 0] 53 ?_; intro b9 hg w7 hbox hb; have HX7 := Aside0.mk (blk_below HX6.out hb); have HN7 := Aside0.mk hbox; obtain ⟨n0, n1, n2, n3⟩ := cc4_ hbox; have H29 := Aside0.mk (show b2 < b9 by rw [hg]; exact blk_lt HX6.out); have HB7 := Aside0.mk (below_step HB6.out hb); have HG7 := Aside0.mk (HG6.out.belowW hb); clear hb hbox hg x0 x1 x2 x3 x4 f0 f1 f2 f3 f4) | ((with_reducible refine gd_ 10 rfl ?_); refine bx_ 10 rfl #[.string ⟨#[]⟩, .bool false] 55 ?_; intro b10 hg w8 hbox hb; have HX8 := Aside0.mk (blk_below HX7.out hb); have HN8 := Aside0.mk (blk_below HN7.out hb); have HT8 := Aside0.mk hbox; have H910 := Aside0.mk (show b9 < b10 by rw [hg]; exact blk_lt HN7.out); have HB8 := Aside0.mk (below_step HB7.out hb); have HG8 := Aside0.mk (HG7.out.belowW hb); clear hb hbox hg n0 n1 n2 n3) | (go_at_call 33; refine (scanInt_calls k b10 ⟨#[]⟩ rest ⟨#[46]⟩ ns _ _ HG8.out HRS.out (by decide) HT8.out HSC.out).mono ?_; rintro e w9 ⟨v, rfl, hR, hT, hb⟩; obtain ⟨A9, c9, rfl, hc9, hr9⟩ := Kd.R_reads hR; have HR9 := Aside0.mk hr9; obtain ⟨t0, t1⟩ := cells2_at hT; have HX9 := Aside0.mk ((hb.block b2 (by have := H29.out; have := H910.out; omega)).trans HX8.out); have HN9 := Aside0.mk ((hb.block b9 H910.out).trans HN8.out); have HB9 := Aside0.mk (HB8.out.trans (hb.mono (by have := HG2.out; have := H29.out; have := H910.out; omega))); obtain ⟨n9, hn9⟩ : ∃ n, ns.length = n := ⟨_, rfl⟩; have HL9 := Aside0.mk hn9; rw [hn9]; obtain ⟨x0, x1, x2, x3, x4⟩ := cc5_ HX9.out; obtain ⟨f0, f1, f2, f3, f4⟩ := cf5_ HX9.out; clear hb hR hT hc9 hr9 hn9 t0))
    refine bodyPost_ret (results_ct rfl _ _ b2 23 #[.int .i64 0, .int .i64 0, .int .i64 0, .int .i64 0, .int .i64 0] (0, 0) _ rfl (blk5 HX9.out) Tryd.underlying23 rfl (by kernel_rfl)) rfl ⟨rfl, below5 HB9.out HG2.out⟩
   | false =>
    rw [if_neg (by decide)] at h
    by_cases h4 : 4 < ns.length
    · rw [if_pos h4] at h
      obtain ⟨rfl, rfl, rfl, rfl, rfl, rfl⟩ := tup6 h; have H4 := Aside0.mk h4; clear h4
      go_enter Tryd.func8, Tryd.ntmps8
      go_wp2_with (first | ((with_reducible refine gd_ 2 rfl ?_); refine bx_ 2 rfl #[.int .i64 0, .int .i64 0, .int .i64 0, .int .i64 0, .int .i64 0] 23 ?_; intro b2 hg w4 hbox hb; have HX2 := Aside0.mk hbox; have HB4 := Aside0.mk hb; have HG2 := Aside0.mk (show w.heap.size ≤ b2 by rw [hg]; exact Nat.le_refl _); have HG4 := Aside0.mk (HG.out.belowW hb); clear hb hbox hg) | (go_at_call 31; refine (cut_calls a0 word rest _ _ HG4.out HS.out HW.out HRs.out HM.out).mono ?_; rintro e w5 ⟨rfl, hb⟩; have HX5 := Aside0.mk (blk_below HX2.out hb); have HB5 := Aside0.mk (below_step HB4.out hb); have HG5 := Aside0.mk (HG4.out.belowW hb); clear hb) | (go_at_call 32; refine (opKind_calls word _ HG5.out).mono ?_; rw [HK.out]; rintro e w6 ⟨rfl, hb⟩; have HX6 := Aside0.mk (blk_below HX5.out hb); obtain ⟨x0, x1, x2, x3, x4⟩ := cc5_ HX6.out; obtain ⟨f0, f1, f2, f3, f4⟩ := cf5_ HX6.out; have HB6 := Aside0.mk (below_step HB5.out hb); have HG6 := Aside0.mk (HG5.out.belowW hb); clear hb) | ((with_reducible refine gd_ 9 rfl ?_); refine bx_ 9 rfl #[.int .i64 0, .int .i64 0, .int .i64 0, .int .i64 0] 53 ?_; intro b9 hg w7 hbox hb; have HX7 := Aside0.mk (blk_below HX6.out hb); have HN7 := Aside0.mk hbox; obtain ⟨n0, n1, n2, n3⟩ := cc4_ hbox; have H29 := Aside0.mk (show b2 < b9 by rw [hg]; exact blk_lt HX6.out); have HB7 := Aside0.mk (below_step HB6.out hb); have HG7 := Aside0.mk (HG6.out.belowW hb); clear hb hbox hg x0 x1 x2 x3 x4 f0 f1 f2 f3 f4) | ((with_reducible refine gd_ 10 rfl ?_); refine bx_ 10 rfl #[.string ⟨#[]⟩, .bool false] 55 ?_; intro b10 hg w8 hbox hb; have HX8 := Aside0.mk (blk_below HX7.out hb); have HN8 := Aside0.mk (blk_below HN7.out hb); have HT8 := Aside0.mk hbox; have H910 := Aside0.mk (show b9 < b10 by rw [hg]; exact blk_lt HN7.out); have HB8 := Aside0.mk (below_step HB7.out hb); have HG8 := Aside0.mk (HG7.out.belowW hb); clear hb hbox hg n0 n1 n2 n3) | (go_at_call 33; refine (scanInt_calls k b10 ⟨#[]⟩ rest ⟨#[46]⟩ ns _ _ HG8.out HRS.out (by decide) HT8.out HSC.out).mono ?_; rintro e w9 ⟨v, rfl, hR, hT, hb⟩; obtain ⟨A9, c9, rfl, hc9, hr9⟩ := Kd.R_reads hR; have HR9 := Aside0.mk hr9; obtain ⟨t0, t1⟩ := cells2_at hT; have HX9 := Aside0.mk ((hb.block b2 (by have := H29.out; have := H910.out; omega)).trans HX8.out); have HN9 := Aside0.mk ((hb.block b9 H910.out).trans HN8.out); have HB9 := Aside0.mk (HB8.out.trans (hb.mono (by have := HG2.out; have := H29.out; have := H910.out; omega))); obtain ⟨n9, hn9⟩ : ∃ n, ns.length = n := ⟨_, rfl⟩; have HL9 := Aside0.mk hn9; rw [hn9]; obtain ⟨x0, x1, x2, x3, x4⟩ := cc5_ HX9.out; obtain ⟨f0, f1, f2, f3, f4⟩ := cf5_ HX9.out; have hlen : (4 : Int) < (n9 : Int) := (by have := H4.out; omega);clear hb hR hT hc9 hr9 hn9 t0))
      refine bodyPost_ret (results_ct rfl _ _ b2 23 #[.int .i64 0, .int .i64 0, .int .i64 0, .int .i64 0, .int .i64 0] (0, 0) _ rfl (blk5 HX9.out) Tryd.underlying23 rfl (by kernel_rfl)) rfl ⟨rfl, below5 HB9.out HG2.out⟩
    · rw [if_neg h4] at h
      have H4 := Aside0.mk h4; clear h4; obtain ⟨p0, hp0⟩ : ∃ x, (pad4 ns).getD 0 0 = x := ⟨_, rfl⟩; obtain ⟨p1, hp1⟩ : ∃ x, (pad4 ns).getD 1 0 = x := ⟨_, rfl⟩; obtain ⟨p2, hp2⟩ : ∃ x, (pad4 ns).getD 2 0 = x := ⟨_, rfl⟩; obtain ⟨p3, hp3⟩ : ∃ x, (pad4 ns).getD 3 0 = x := ⟨_, rfl⟩
      rw [hp0, hp1, hp2, hp3] at h
      have P0 := Aside0.mk hp0; have P1 := Aside0.mk hp1; have P2 := Aside0.mk hp2; have P3 := Aside0.mk hp3; clear hp0 hp1 hp2 hp3
      unfold opEnd at h
      have hcut := opCut; obtain ⟨t, ht, h⟩ := Option.bind_eq_some_iff.1 h; have HOK := Aside0.mk ht; clear ht
      cases t with
      | false =>
       rw [if_neg (by decide)] at h
       obtain ⟨rfl, rfl, rfl, rfl, rfl, rfl⟩ := tup6 h
       go_enter Tryd.func8, Tryd.ntmps8
       go_wp2_with (first | ((with_reducible refine gd_ 2 rfl ?_); refine bx_ 2 rfl #[.int .i64 0, .int .i64 0, .int .i64 0, .int .i64 0, .int .i64 0] 23 ?_; intro b2 hg w4 hbox hb; have HX2 := Aside0.mk hbox; have HB4 := Aside0.mk hb; have HG2 := Aside0.mk (show w.heap.size ≤ b2 by rw [hg]; exact Nat.le_refl _); have HG4 := Aside0.mk (HG.out.belowW hb); clear hb hbox hg) | (go_at_call 31; refine (cut_calls a0 word rest _ _ HG4.out HS.out HW.out HRs.out HM.out).mono ?_; rintro e w5 ⟨rfl, hb⟩; have HX5 := Aside0.mk (blk_below HX2.out hb); have HB5 := Aside0.mk (below_step HB4.out hb); have HG5 := Aside0.mk (HG4.out.belowW hb); clear hb) | (go_at_call 32; refine (opKind_calls word _ HG5.out).mono ?_; rw [HK.out]; rintro e w6 ⟨rfl, hb⟩; have HX6 := Aside0.mk (blk_below HX5.out hb); obtain ⟨x0, x1, x2, x3, x4⟩ := cc5_ HX6.out; obtain ⟨f0, f1, f2, f3, f4⟩ := cf5_ HX6.out; have HB6 := Aside0.mk (below_step HB5.out hb); have HG6 := Aside0.mk (HG5.out.belowW hb); clear hb) | ((with_reducible refine gd_ 9 rfl ?_); refine bx_ 9 rfl #[.int .i64 0, .int .i64 0, .int .i64 0, .int .i64 0] 53 ?_; intro b9 hg w7 hbox hb; have HX7 := Aside0.mk (blk_below HX6.out hb); have HN7 := Aside0.mk hbox; obtain ⟨n0, n1, n2, n3⟩ := cc4_ hbox; have H29 := Aside0.mk (show b2 < b9 by rw [hg]; exact blk_lt HX6.out); have HB7 := Aside0.mk (below_step HB6.out hb); have HG7 := Aside0.mk (HG6.out.belowW hb); clear hb hbox hg x0 x1 x2 x3 x4 f0 f1 f2 f3 f4) | ((with_reducible refine gd_ 10 rfl ?_); refine bx_ 10 rfl #[.string ⟨#[]⟩, .bool false] 55 ?_; intro b10 hg w8 hbox hb; have HX8 := Aside0.mk (blk_below HX7.out hb); have HN8 := Aside0.mk (blk_below HN7.out hb); have HT8 := Aside0.mk hbox; have H910 := Aside0.mk (show b9 < b10 by rw [hg]; exact blk_lt HN7.out); have HB8 := Aside0.mk (below_step HB7.out hb); have HG8 := Aside0.mk (HG7.out.belowW hb); clear hb hbox hg n0 n1 n2 n3) | (go_at_call 33; refine (scanInt_calls k b10 ⟨#[]⟩ rest ⟨#[46]⟩ ns _ _ HG8.out HRS.out (by decide) HT8.out HSC.out).mono ?_; rintro e w9 ⟨v, rfl, hR, hT, hb⟩; obtain ⟨A9, c9, rfl, hc9, hr9⟩ := Kd.R_reads hR; have HR9 := Aside0.mk hr9; obtain ⟨t0, t1⟩ := cells2_at hT; have HX9 := Aside0.mk ((hb.block b2 (by have := H29.out; have := H910.out; omega)).trans HX8.out); have HN9 := Aside0.mk ((hb.block b9 H910.out).trans HN8.out); have HB9 := Aside0.mk (HB8.out.trans (hb.mono (by have := HG2.out; have := H29.out; have := H910.out; omega))); obtain ⟨n9, hn9⟩ : ∃ n, ns.length = n := ⟨_, rfl⟩; have HL9 := Aside0.mk hn9; rw [hn9]; obtain ⟨x0, x1, x2, x3, x4⟩ := cc5_ HX9.out; obtain ⟨f0, f1, f2, f3, f4⟩ := cf5_ HX9.out; have hlen : ¬ ((4 : Int) < (n9 : Int)) := (by have := H4.out; omega); have HL4 : Aside0 (n9 ≤ 4) := ⟨by have := H4.out; omega⟩;clear hb hR hT hc9 hr9 hn9 t0) | ((with_reducible refine gate_builtin (b := .copy) (xs := #[.tmp 38, .tmp 39]) rfl ?_); refine wpList_copy_splice rfl (.tmp 38) (.tmp 39) 47 47 rfl 3 Tryd.underlying47 (by kernel_rfl) _ _ _ _ _ _ rfl rfl b9 0 (nums .i64 (List.replicate 4 0)) 53 ?hg (nums .i64 ns) ?hn ?hpos ?hfit ?h1 b9 _ (Below.refl _ _) (Nat.le_refl _) ?_; (case hg => exact HN9.out); (case hn => rw [nums_length]; have := HL9.out; have := HL4.out; show _ = min _ _; omega); (case hpos => intro hps; rw [nums_length] at hps; exact ⟨rfl, C_cells64 HR9.out hps⟩); (case hfit => rw [nums_length, nums_length]; have := HL9.out; have := HL4.out; simp; omega); (case h1 => intro v hv; obtain ⟨x, _, rfl⟩ := List.mem_map.1 hv; rfl); intro w10 hg10 hb10; rw [splice4 ns (by rw [HL9.out]; exact HL4.out)] at hg10; obtain ⟨n0, n1, n2, n3⟩ := nums_at (show w10.heap[b9]? = some (.cells (nums .i64 (pad4 ns)).toArray 53 (0, 0)) from hg10) (pad4_len ns (by rw [HL9.out]; exact HL4.out)); have HX10 := Aside0.mk ((hb10.block b2 H29.out).trans HX9.out); have HB10 := Aside0.mk (HB9.out.trans (hb10.mono (by have := HG2.out; have := H29.out; omega))); rw [P0.out] at n0; rw [P1.out] at n1; rw [P2.out] at n2; rw [P3.out] at n3; clear hg10 hb10 x0 x1 x2 x3 x4 f0 f1 f2 f3 f4) | ((with_reducible refine gd_ 12 rfl ?_); refine bx_ 12 rfl #[.int .i64 0, .int .i64 0, .int .i64 0, .int .i64 0, .int .i64 0] 23 ?_; intro b12 hg w13 hbox hb; have HX13 := Aside0.mk (blk_below HX10.out hb); have HN13 := Aside0.mk hbox; obtain ⟨m0, m1, m2, m3, m4⟩ := cc5_ hbox; obtain ⟨q0, q1, q2, q3, q4⟩ := cf5_ hbox; have H212 := Aside0.mk (show b2 < b12 by rw [hg]; exact blk_lt HX10.out); have HB13 := Aside0.mk (below_step HB10.out hb); clear hb hbox hg) | (go_at_call 14; refine (impl_OpOk.calls k kd p0 p1 p2 p3 false _ HOK.out).mono ?_; rintro e w14 ⟨rfl, hb⟩; have HN14 := Aside0.mk (blk_below (o := .cells #[.int .i64 kd, .int .i64 p0, .int .i64 p1, .int .i64 p2, .int .i64 p3] 23 (0, 0)) (blk5 HN13.out) hb); have HX14 := Aside0.mk (blk_below (far5 HX13.out (by have := H212.out; omega)) hb); clear m0 m1 m2 m3 m4; obtain ⟨m0, m1, m2, m3, m4⟩ := cc5_ HN14.out; obtain ⟨x0, x1, x2, x3, x4⟩ := cc5_ HX14.out; obtain ⟨f0, f1, f2, f3, f4⟩ := cf5_ HX14.out; have HB14 := Aside0.mk (below_step (below5 HB13.out (by have := HG2.out; have := H212.out; omega)) hb); clear hb q0 q1 q2 q3 q4))
       refine bodyPost_ret (results_ct rfl _ _ b2 23 #[.int .i64 0, .int .i64 0, .int .i64 0, .int .i64 0, .int .i64 0] (0, 0) _ rfl (blk5 HX14.out) Tryd.underlying23 rfl (by kernel_rfl)) rfl ⟨rfl, below5 HB14.out HG2.out⟩
      | true =>
       rw [if_pos rfl] at h
       obtain ⟨tx, htx, h⟩ := Option.bind_eq_some_iff.1 h; have HTX := Aside0.mk htx; clear htx
       by_cases hc : tx.toList = a0.toList
       · rw [if_pos hc] at h
         obtain ⟨rfl, rfl, rfl, rfl, rfl, rfl⟩ := tup6 h; have k0 := beq_iff_eq.mpr hc; have k1 := bne_eq_false_iff_eq.mpr hc; clear hc
         go_enter Tryd.func8, Tryd.ntmps8
         go_wp2_with (first | ((with_reducible refine gd_ 2 rfl ?_); refine bx_ 2 rfl #[.int .i64 0, .int .i64 0, .int .i64 0, .int .i64 0, .int .i64 0] 23 ?_; intro b2 hg w4 hbox hb; have HX2 := Aside0.mk hbox; have HB4 := Aside0.mk hb; have HG2 := Aside0.mk (show w.heap.size ≤ b2 by rw [hg]; exact Nat.le_refl _); have HG4 := Aside0.mk (HG.out.belowW hb); clear hb hbox hg) | (go_at_call 31; refine (cut_calls a0 word rest _ _ HG4.out HS.out HW.out HRs.out HM.out).mono ?_; rintro e w5 ⟨rfl, hb⟩; have HX5 := Aside0.mk (blk_below HX2.out hb); have HB5 := Aside0.mk (below_step HB4.out hb); have HG5 := Aside0.mk (HG4.out.belowW hb); clear hb) | (go_at_call 32; refine (opKind_calls word _ HG5.out).mono ?_; rw [HK.out]; rintro e w6 ⟨rfl, hb⟩; have HX6 := Aside0.mk (blk_below HX5.out hb); obtain ⟨x0, x1, x2, x3, x4⟩ := cc5_ HX6.out; obtain ⟨f0, f1, f2, f3, f4⟩ := cf5_ HX6.out; have HB6 := Aside0.mk (below_step HB5.out hb); have HG6 := Aside0.mk (HG5.out.belowW hb); clear hb) | ((with_reducible refine gd_ 9 rfl ?_); refine bx_ 9 rfl #[.int .i64 0, .int .i64 0, .int .i64 0, .int .i64 0] 53 ?_; intro b9 hg w7 hbox hb; have HX7 := Aside0.mk (blk_below HX6.out hb); have HN7 := Aside0.mk hbox; obtain ⟨n0, n1, n2, n3⟩ := cc4_ hbox; have H29 := Aside0.mk (show b2 < b9 by rw [hg]; exact blk_lt HX6.out); have HB7 := Aside0.mk (below_step HB6.out hb); have HG7 := Aside0.mk (HG6.out.belowW hb); clear hb hbox hg x0 x1 x2 x3 x4 f0 f1 f2 f3 f4) | ((with_reducible refine gd_ 10 rfl ?_); refine bx_ 10 rfl #[.string ⟨#[]⟩, .bool false] 55 ?_; intro b10 hg w8 hbox hb; have HX8 := Aside0.mk (blk_below HX7.out hb); have HN8 := Aside0.mk (blk_below HN7.out hb); have HT8 := Aside0.mk hbox; have H910 := Aside0.mk (show b9 < b10 by rw [hg]; exact blk_lt HN7.out); have HB8 := Aside0.mk (below_step HB7.out hb); have HG8 := Aside0.mk (HG7.out.belowW hb); clear hb hbox hg n0 n1 n2 n3) | (go_at_call 33; refine (scanInt_calls k b10 ⟨#[]⟩ rest ⟨#[46]⟩ ns _ _ HG8.out HRS.out (by decide) HT8.out HSC.out).mono ?_; rintro e w9 ⟨v, rfl, hR, hT, hb⟩; obtain ⟨A9, c9, rfl, hc9, hr9⟩ := Kd.R_reads hR; have HR9 := Aside0.mk hr9; obtain ⟨t0, t1⟩ := cells2_at hT; have HX9 := Aside0.mk ((hb.block b2 (by have := H29.out; have := H910.out; omega)).trans HX8.out); have HN9 := Aside0.mk ((hb.block b9 H910.out).trans HN8.out); have HB9 := Aside0.mk (HB8.out.trans (hb.mono (by have := HG2.out; have := H29.out; have := H910.out; omega))); obtain ⟨n9, hn9⟩ : ∃ n, ns.length = n := ⟨_, rfl⟩; have HL9 := Aside0.mk hn9; rw [hn9]; obtain ⟨x0, x1, x2, x3, x4⟩ := cc5_ HX9.out; obtain ⟨f0, f1, f2, f3, f4⟩ := cf5_ HX9.out; have hlen : ¬ ((4 : Int) < (n9 : Int)) := (by have := H4.out; omega); have HL4 : Aside0 (n9 ≤ 4) := ⟨by have := H4.out; omega⟩;clear hb hR hT hc9 hr9 hn9 t0) | ((with_reducible refine gate_builtin (b := .copy) (xs := #[.tmp 38, .tmp 39]) rfl ?_); refine wpList_copy_splice rfl (.tmp 38) (.tmp 39) 47 47 rfl 3 Tryd.underlying47 (by kernel_rfl) _ _ _ _ _ _ rfl rfl b9 0 (nums .i64 (List.replicate 4 0)) 53 ?hg (nums .i64 ns) ?hn ?hpos ?hfit ?h1 b9 _ (Below.refl _ _) (Nat.le_refl _) ?_; (case hg => exact HN9.out); (case hn => rw [nums_length]; have := HL9.out; have := HL4.out; show _ = min _ _; omega); (case hpos => intro hps; rw [nums_length] at hps; exact ⟨rfl, C_cells64 HR9.out hps⟩); (case hfit => rw [nums_length, nums_length]; have := HL9.out; have := HL4.out; simp; omega); (case h1 => intro v hv; obtain ⟨x, _, rfl⟩ := List.mem_map.1 hv; rfl); intro w10 hg10 hb10; rw [splice4 ns (by rw [HL9.out]; exact HL4.out)] at hg10; obtain ⟨n0, n1, n2, n3⟩ := nums_at (show w10.heap[b9]? = some (.cells (nums .i64 (pad4 ns)).toArray 53 (0, 0)) from hg10) (pad4_len ns (by rw [HL9.out]; exact HL4.out)); have HX10 := Aside0.mk ((hb10.block b2 H29.out).trans HX9.out); have HB10 := Aside0.mk (HB9.out.trans (hb10.mono (by have := HG2.out; have := H29.out; omega))); rw [P0.out] at n0; rw [P1.out] at n1; rw [P2.out] at n2; rw [P3.out] at n3; clear hg10 hb10 x0 x1 x2 x3 x4 f0 f1 f2 f3 f4) | ((with_reducible refine gd_ 12 rfl ?_); refine bx_ 12 rfl #[.int .i64 0, .int .i64 0, .int .i64 0, .int .i64 0, .int .i64 0] 23 ?_; intro b12 hg w13 hbox hb; have HX13 := Aside0.mk (blk_below HX10.out hb); have HN13 := Aside0.mk hbox; obtain ⟨m0, m1, m2, m3, m4⟩ := cc5_ hbox; obtain ⟨q0, q1, q2, q3, q4⟩ := cf5_ hbox; have H212 := Aside0.mk (show b2 < b12 by rw [hg]; exact blk_lt HX10.out); have HB13 := Aside0.mk (below_step HB10.out hb); clear hb hbox hg) | (go_at_call 14; refine (impl_OpOk.calls k kd p0 p1 p2 p3 true _ HOK.out).mono ?_; rintro e w14 ⟨rfl, hb⟩; have HN14 := Aside0.mk (blk_below (o := .cells #[.int .i64 kd, .int .i64 p0, .int .i64 p1, .int .i64 p2, .int .i64 p3] 23 (0, 0)) (blk5 HN13.out) hb); have HX14 := Aside0.mk (blk_below (far5 HX13.out (by have := H212.out; omega)) hb); clear m0 m1 m2 m3 m4; obtain ⟨m0, m1, m2, m3, m4⟩ := cc5_ HN14.out; obtain ⟨x0, x1, x2, x3, x4⟩ := cc5_ HX14.out; obtain ⟨f0, f1, f2, f3, f4⟩ := cf5_ HX14.out; have HB14 := Aside0.mk (below_step (below5 HB13.out (by have := HG2.out; have := H212.out; omega)) hb); clear hb q0 q1 q2 q3 q4) | (go_at_call 12; refine (impl_OpText.calls k kd p0 p1 p2 p3 tx _ HTX.out (HG.out.belowW HB14.out)).mono ?_; rintro e w15 ⟨rfl, hb⟩; have HN15 := Aside0.mk (blk_below HN14.out hb); have HX15 := Aside0.mk (blk_below HX14.out hb); clear m0 m1 m2 m3 m4 x0 x1 x2 x3 x4 f0 f1 f2 f3 f4; obtain ⟨m0, m1, m2, m3, m4⟩ := cc5_ HN15.out; obtain ⟨x0, x1, x2, x3, x4⟩ := cc5_ HX15.out; obtain ⟨f0, f1, f2, f3, f4⟩ := cf5_ HX15.out; have HB15 := Aside0.mk (below_step HB14.out hb); clear hb))
         refine bodyPost_ret (results_ct rfl _ _ b2 23 #[.int .i64 kd, .int .i64 p0, .int .i64 p1, .int .i64 p2, .int .i64 p3] (0, 0) _ rfl (blk5 HX15.out) Tryd.underlying23 rfl (by kernel_rfl)) rfl ⟨rfl, below5 HB15.out HG2.out⟩
       · rw [if_neg hc] at h
         obtain ⟨rfl, rfl, rfl, rfl, rfl, rfl⟩ := tup6 h; have k0 := beq_eq_false_iff_ne.mpr hc; have k1 := bne_iff_ne.mpr hc; clear hc
         go_enter Tryd.func8, Tryd.ntmps8
         go_wp2_with (first | ((with_reducible refine gd_ 2 rfl ?_); refine bx_ 2 rfl #[.int .i64 0, .int .i64 0, .int .i64 0, .int .i64 0, .int .i64 0] 23 ?_; intro b2 hg w4 hbox hb; have HX2 := Aside0.mk hbox; have HB4 := Aside0.mk hb; have HG2 := Aside0.mk (show w.heap.size ≤ b2 by rw [hg]; exact Nat.le_refl _); have HG4 := Aside0.mk (HG.out.belowW hb); clear hb hbox hg) | (go_at_call 31; refine (cut_calls a0 word rest _ _ HG4.out HS.out HW.out HRs.out HM.out).mono ?_; rintro e w5 ⟨rfl, hb⟩; have HX5 := Aside0.mk (blk_below HX2.out hb); have HB5 := Aside0.mk (below_step HB4.out hb); have HG5 := Aside0.mk (HG4.out.belowW hb); clear hb) | (go_at_call 32; refine (opKind_calls word _ HG5.out).mono ?_; rw [HK.out]; rintro e w6 ⟨rfl, hb⟩; have HX6 := Aside0.mk (blk_below HX5.out hb); obtain ⟨x0, x1, x2, x3, x4⟩ := cc5_ HX6.out; obtain ⟨f0, f1, f2, f3, f4⟩ := cf5_ HX6.out; have HB6 := Aside0.mk (below_step HB5.out hb); have HG6 := Aside0.mk (HG5.out.belowW hb); clear hb) | ((with_reducible refine gd_ 9 rfl ?_); refine bx_ 9 rfl #[.int .i64 0, .int .i64 0, .int .i64 0, .int .i64 0] 53 ?_; intro b9 hg w7 hbox hb; have HX7 := Aside0.mk (blk_below HX6.out hb); have HN7 := Aside0.mk hbox; obtain ⟨n0, n1, n2, n3⟩ := cc4_ hbox; have H29 := Aside0.mk (show b2 < b9 by rw [hg]; exact blk_lt HX6.out); have HB7 := Aside0.mk (below_step HB6.out hb); have HG7 := Aside0.mk (HG6.out.belowW hb); clear hb hbox hg x0 x1 x2 x3 x4 f0 f1 f2 f3 f4) | ((with_reducible refine gd_ 10 rfl ?_); refine bx_ 10 rfl #[.string ⟨#[]⟩, .bool false] 55 ?_; intro b10 hg w8 hbox hb; have HX8 := Aside0.mk (blk_below HX7.out hb); have HN8 := Aside0.mk (blk_below HN7.out hb); have HT8 := Aside0.mk hbox; have H910 := Aside0.mk (show b9 < b10 by rw [hg]; exact blk_lt HN7.out); have HB8 := Aside0.mk (below_step HB7.out hb); have HG8 := Aside0.mk (HG7.out.belowW hb); clear hb hbox hg n0 n1 n2 n3) | (go_at_call 33; refine (scanInt_calls k b10 ⟨#[]⟩ rest ⟨#[46]⟩ ns _ _ HG8.out HRS.out (by decide) HT8.out HSC.out).mono ?_; rintro e w9 ⟨v, rfl, hR, hT, hb⟩; obtain ⟨A9, c9, rfl, hc9, hr9⟩ := Kd.R_reads hR; have HR9 := Aside0.mk hr9; obtain ⟨t0, t1⟩ := cells2_at hT; have HX9 := Aside0.mk ((hb.block b2 (by have := H29.out; have := H910.out; omega)).trans HX8.out); have HN9 := Aside0.mk ((hb.block b9 H910.out).trans HN8.out); have HB9 := Aside0.mk (HB8.out.trans (hb.mono (by have := HG2.out; have := H29.out; have := H910.out; omega))); obtain ⟨n9, hn9⟩ : ∃ n, ns.length = n := ⟨_, rfl⟩; have HL9 := Aside0.mk hn9; rw [hn9]; obtain ⟨x0, x1, x2, x3, x4⟩ := cc5_ HX9.out; obtain ⟨f0, f1, f2, f3, f4⟩ := cf5_ HX9.out; have hlen : ¬ ((4 : Int) < (n9 : Int)) := (by have := H4.out; omega); have HL4 : Aside0 (n9 ≤ 4) := ⟨by have := H4.out; omega⟩;clear hb hR hT hc9 hr9 hn9 t0) | ((with_reducible refine gate_builtin (b := .copy) (xs := #[.tmp 38, .tmp 39]) rfl ?_); refine wpList_copy_splice rfl (.tmp 38) (.tmp 39) 47 47 rfl 3 Tryd.underlying47 (by kernel_rfl) _ _ _ _ _ _ rfl rfl b9 0 (nums .i64 (List.replicate 4 0)) 53 ?hg (nums .i64 ns) ?hn ?hpos ?hfit ?h1 b9 _ (Below.refl _ _) (Nat.le_refl _) ?_; (case hg => exact HN9.out); (case hn => rw [nums_length]; have := HL9.out; have := HL4.out; show _ = min _ _; omega); (case hpos => intro hps; rw [nums_length] at hps; exact ⟨rfl, C_cells64 HR9.out hps⟩); (case hfit => rw [nums_length, nums_length]; have := HL9.out; have := HL4.out; simp; omega); (case h1 => intro v hv; obtain ⟨x, _, rfl⟩ := List.mem_map.1 hv; rfl); intro w10 hg10 hb10; rw [splice4 ns (by rw [HL9.out]; exact HL4.out)] at hg10; obtain ⟨n0, n1, n2, n3⟩ := nums_at (show w10.heap[b9]? = some (.cells (nums .i64 (pad4 ns)).toArray 53 (0, 0)) from hg10) (pad4_len ns (by rw [HL9.out]; exact HL4.out)); have HX10 := Aside0.mk ((hb10.block b2 H29.out).trans HX9.out); have HB10 := Aside0.mk (HB9.out.trans (hb10.mono (by have := HG2.out; have := H29.out; omega))); rw [P0.out] at n0; rw [P1.out] at n1; rw [P2.out] at n2; rw [P3.out] at n3; clear hg10 hb10 x0 x1 x2 x3 x4 f0 f1 f2 f3 f4) | ((with_reducible refine gd_ 12 rfl ?_); refine bx_ 12 rfl #[.int .i64 0, .int .i64 0, .int .i64 0, .int .i64 0, .int .i64 0] 23 ?_; intro b12 hg w13 hbox hb; have HX13 := Aside0.mk (blk_below HX10.out hb); have HN13 := Aside0.mk hbox; obtain ⟨m0, m1, m2, m3, m4⟩ := cc5_ hbox; obtain ⟨q0, q1, q2, q3, q4⟩ := cf5_ hbox; have H212 := Aside0.mk (show b2 < b12 by rw [hg]; exact blk_lt HX10.out); have HB13 := Aside0.mk (below_step HB10.out hb); clear hb hbox hg) | (go_at_call 14; refine (impl_OpOk.calls k kd p0 p1 p2 p3 true _ HOK.out).mono ?_; rintro e w14 ⟨rfl, hb⟩; have HN14 := Aside0.mk (blk_below (o := .cells #[.int .i64 kd, .int .i64 p0, .int .i64 p1, .int .i64 p2, .int .i64 p3] 23 (0, 0)) (blk5 HN13.out) hb); have HX14 := Aside0.mk (blk_below (far5 HX13.out (by have := H212.out; omega)) hb); clear m0 m1 m2 m3 m4; obtain ⟨m0, m1, m2, m3, m4⟩ := cc5_ HN14.out; obtain ⟨x0, x1, x2, x3, x4⟩ := cc5_ HX14.out; obtain ⟨f0, f1, f2, f3, f4⟩ := cf5_ HX14.out; have HB14 := Aside0.mk (below_step (below5 HB13.out (by have := HG2.out; have := H212.out; omega)) hb); clear hb q0 q1 q2 q3 q4) | (go_at_call 12; refine (impl_OpText.calls k kd p0 p1 p2 p3 tx _ HTX.out (HG.out.belowW HB14.out)).mono ?_; rintro e w15 ⟨rfl, hb⟩; have HN15 := Aside0.mk (blk_below HN14.out hb); have HX15 := Aside0.mk (blk_below HX14.out hb); clear m0 m1 m2 m3 m4 x0 x1 x2 x3 x4 f0 f1 f2 f3 f4; obtain ⟨m0, m1, m2, m3, m4⟩ := cc5_ HN15.out; obtain ⟨x0, x1, x2, x3, x4⟩ := cc5_ HX15.out; obtain ⟨f0, f1, f2, f3, f4⟩ := cf5_ HX15.out; have HB15 := Aside0.mk (below_step HB14.out hb); clear hb))
         refine bodyPost_ret (results_ct rfl _ _ b2 23 #[.int .i64 0, .int .i64 0, .int .i64 0, .int .i64 0, .int .i64 0] (0, 0) _ rfl (blk5 HX15.out) Tryd.underlying23 rfl (by kernel_rfl)) rfl ⟨rfl, below5 HB15.out HG2.out⟩

end Go.Proofs.YtfafjpfigphchaaDoor.X
namespace Go.Proofs.YtfafjpfigphchaaDoor.X
open Go.RowKit Go.Proofs.YtfafjpfigphchaaDoorW.PrintWords Go.Proofs.YtfafjpfigphchaaDoorW.PrintLast Go.Proofs.YtfafjpfigphchaaDoorW.PrintMore
attribute [local go_sem] max2_int min2_int max_two min_two max_three min_three max_four min_four
set_option linter.unusedVariables false
set_option linter.unusedSimpArgs false

section
open Go.Proofs.YtfafjpfigphchaaDoorW.PrintWords.Aside0 renaming mk → yaa

def laws_FnExactOpRead.f (k : Nat) (a0 : ByteArray) : Option (Bool) := if (a0.size : Int) > 1048576 then (some true) else ((spec_OpRead.f k a0).bind fun bt101 => ((impl_OpRead.f k a0).bind fun bt108 => ((laws_eqOpOp.f bt108.1 bt108.2.1 bt108.2.2.1 bt108.2.2.2.1 bt108.2.2.2.2.1 bt101.1 bt101.2.1 bt101.2.2.1 bt101.2.2.2.1 bt101.2.2.2.2.1).bind fun t115 => (if t115 = true then (if (bt108.2.2.2.2.2 != bt101.2.2.2.2.2) = true then (some false) else (some true)) else (some false)))))
set_option maxHeartbeats 8000000 in
set_option maxRecDepth 100000 in
theorem laws_FnExactOpRead.calls (k : Nat) (a0 : ByteArray) (r : Bool) (w : World) (h : laws_FnExactOpRead.f k a0 = some r) (hrt : r = true) (hG : Glob w) :
  Calls Tryd.prog 3 #[.string a0] w fun e w' => e = .returned (.bool r) ∧ Below w.heap.size w w' := by
 have HG := yaa hG; clear hG; have hu23 := Tryd.underlying23; have HB := yaa (Below.refl w.heap.size w); have H : (if (a0.size : Int) > 1048576 then (some true) else ((spec_OpRead.f k a0).bind fun a3 => ((impl_OpRead.f k a0).bind fun a4 => ((laws_eqOpOp.f a4.1 a4.2.1 a4.2.2.1 a4.2.2.2.1 a4.2.2.2.2.1 a3.1 a3.2.1 a3.2.2.1 a3.2.2.2.1 a3.2.2.2.2.1).bind fun c1 => (if c1 = true then (if (a4.2.2.2.2.2 != a3.2.2.2.2.2) = true then (some false) else (some true)) else (some false)))))) = some r := h; clear h
 by_cases c2 : (a0.size : Int) > 1048576
 ·
  rw [if_pos c2] at H
  have f8 : decide (1048576 < (a0.size : Int)) = true := decide_eq_true c2; have f9 : decide (1048576 < a0.size) = true := decide_eq_true (by omega); clear c2; obtain rfl := Option.some.inj H
  go_enter Tryd.func3, Tryd.ntmps3
  go_wp2
  go_ret
  exact ⟨by first | rfl | (simp [*, errW_none, errW_some] <;> rfl), upH HB.out⟩
 ·
  rw [if_neg c2] at H
  have f8 : decide (1048576 < (a0.size : Int)) = false := decide_eq_false c2; have f9 : decide (1048576 < a0.size) = false := decide_eq_false (by omega); clear c2; obtain ⟨⟨a5, a8, b0, b4, b7, a6⟩, A3, H⟩ := bindA H; (try dsimp only at H); obtain ⟨⟨a9, b1, b5, b8, c0, a7⟩, A4, H⟩ := bindA H; (try dsimp only at H); obtain ⟨c1, A5, H⟩ := bindA H; (try dsimp only at H)
  by_cases c6 : c1 = true
  ·
   subst c6
   rw [if_pos rfl] at H
   by_cases c7 : (a7 != a6) = true
   ·
    rw [if_pos c7] at H
    have g0 : (a7 != a6) = true := c7
    (try (have g1 : decide (a7 = a6) = false := by simpa using c7))
    (try (have g2 : (a7 == a6) = false := by simpa using c7))
    (try (have g8 : ¬ (a7 = a6) := by simpa using c7))
    clear c7
    rw [hrt] at H
    exact absurd H (by simp)
   ·
    rw [if_neg c7] at H
    have g0 : (a7 != a6) = false := (by simpa using c7)
    (try (have g1 : decide (a7 = a6) = true := by simpa using c7))
    (try (have g2 : (a7 == a6) = true := by simpa using c7))
    clear c7; obtain rfl := Option.some.inj H
    go_enter Tryd.func3, Tryd.ntmps3
    go_wp2_with (first | ((with_reducible refine gc_ 7 rfl ?_); refine gl_ (some 12) rfl Tryd.func7 #[.string a0] ?_; (with_reducible refine (spec_OpRead.calls k a0 a5 a8 b0 b4 b7 a6 _ A3.out).mono ?_); rintro e w8 ⟨rfl, hb⟩; refine ⟨_, rfl, ?_⟩; replace HB := yaa (below_step (upH HB.out) hb); (try clear hb)) | ((with_reducible refine gd_ 3 rfl ?_); refine bx_ 3 rfl #[.int .i64 0, .int .i64 0, .int .i64 0, .int .i64 0, .int .i64 0] 23 ?_; intro b2 hg w9 hbox hb; have a1 := yaa (hbox); have c3 := yaa ((by rw [hg]; exact (below_size (upH HB.out)) : w.heap.size ≤ b2)); replace HB := yaa (below_step (upH HB.out) hb); have g4 := c3; clear hb hbox hg; obtain ⟨c8, c9, d0, d1, d2⟩ := cc5_ a1.out; obtain ⟨d3, d4, d5, d6⟩ := cf4_ a1.out; have d7 := blk_frozen a1.out 4) | ((with_reducible refine gc_ 8 rfl ?_); refine gl_ (some 17) rfl Tryd.func8 #[.string a0] ?_; (with_reducible refine (impl_OpRead.calls k a0 a9 b1 b5 b8 c0 a7 _ A4.out ?sideG).mono ?_); (case sideG => exact Glob.belowW HG.out (by repeat (first | (with_reducible first | exact HB.out | apply below_alloc | apply pw_below_drewN | apply below_drew1 | refine below_set ?_ (Aside0.out ‹_›)) | exact HB.out | exact Below.refl _ _))); rintro e w11 ⟨rfl, hb⟩; refine ⟨_, rfl, ?_⟩; replace a1 := yaa (blk_below (g := b2) (o := .cells #[.int .i64 a5, .int .i64 a8, .int .i64 b0, .int .i64 b4, .int .i64 b7] 23 (0, 0)) (by (repeat refine oneB ?_); refine blk_put (cs := #[.int .i64 a5, .int .i64 a8, .int .i64 b0, .int .i64 b4, .int .i64 0]) ?_ 4 _ rfl; refine blk_put (cs := #[.int .i64 a5, .int .i64 a8, .int .i64 b0, .int .i64 0, .int .i64 0]) ?_ 3 _ rfl; refine blk_put (cs := #[.int .i64 a5, .int .i64 a8, .int .i64 0, .int .i64 0, .int .i64 0]) ?_ 2 _ rfl; refine blk_put (cs := #[.int .i64 a5, .int .i64 0, .int .i64 0, .int .i64 0, .int .i64 0]) ?_ 1 _ rfl; refine blk_put (cs := #[.int .i64 0, .int .i64 0, .int .i64 0, .int .i64 0, .int .i64 0]) ?_ 0 _ rfl; exact upB a1.out) hb); replace HB := yaa (below_step (by repeat (with_reducible first | exact HB.out | apply below_alloc | apply pw_below_drewN | apply below_drew1 | refine below_set ?_ (Aside0.out ‹_›))) hb); (try clear hb)) | ((with_reducible refine gd_ 5 rfl ?_); refine bx_ 5 rfl #[.int .i64 0, .int .i64 0, .int .i64 0, .int .i64 0, .int .i64 0] 23 ?_; intro b9 hg w12 hbox hb; have b3 := yaa (hbox); have c5 := yaa ((by rw [hg]; exact (below_size (by repeat (with_reducible first | exact HB.out | apply below_alloc | apply pw_below_drewN | apply below_drew1 | refine below_set ?_ (Aside0.out ‹_›)))) : w.heap.size ≤ b9)); replace HB := yaa (below_step (by repeat (with_reducible first | exact HB.out | apply below_alloc | apply pw_below_drewN | apply below_drew1 | refine below_set ?_ (Aside0.out ‹_›))) hb); have g5 := c5; have a2 := yaa ((by rw [hg]; exact Nat.ne_of_lt (blk_lt (upB a1.out)) : b2 ≠ b9)); replace a1 := yaa (blk_below (upB a1.out) hb); have b6 := yaa a2.out.symm; clear hb hbox hg; have g6 := b6.out; have g7 := a2.out; obtain ⟨d8, d9, e0, e1, e2⟩ := cc5_ b3.out; obtain ⟨e3, e4, e5, e6, e7⟩ := cf5_ b3.out; obtain ⟨e8, e9, f0, f1, f2⟩ := cc5_ a1.out; obtain ⟨f3, f4, f5, f6⟩ := cf4_ a1.out; have f7 := blk_frozen a1.out 4) | ((with_reducible refine gc_ 9 rfl ?_); refine gl_ (some 22) rfl Tryd.func9 #[.agg #[.int .i64 a9, .int .i64 b1, .int .i64 b5, .int .i64 b8, .int .i64 c0], .agg #[.int .i64 a5, .int .i64 a8, .int .i64 b0, .int .i64 b4, .int .i64 b7]] ?_; (with_reducible refine (laws_eqOpOp.calls a9 b1 b5 b8 c0 a5 a8 b0 b4 b7 true _ A5.out).mono ?_); rintro e w16 ⟨rfl, hb⟩; refine ⟨_, rfl, ?_⟩; replace a1 := yaa (blk_below (g := b2) (o := .cells #[.int .i64 a5, .int .i64 a8, .int .i64 b0, .int .i64 b4, .int .i64 b7] 23 (0, 0)) (by repeat (with_reducible first | exact a1.out | refine oneB ?_ | refine blk_far ?_ a2.out _)) hb); replace b3 := yaa (blk_below (g := b9) (o := .cells #[.int .i64 a9, .int .i64 b1, .int .i64 b5, .int .i64 b8, .int .i64 c0] 23 (0, 0)) (by (repeat refine oneB ?_); refine blk_put (cs := #[.int .i64 a9, .int .i64 b1, .int .i64 b5, .int .i64 b8, .int .i64 0]) ?_ 4 _ rfl; refine blk_put (cs := #[.int .i64 a9, .int .i64 b1, .int .i64 b5, .int .i64 0, .int .i64 0]) ?_ 3 _ rfl; refine blk_put (cs := #[.int .i64 a9, .int .i64 b1, .int .i64 0, .int .i64 0, .int .i64 0]) ?_ 2 _ rfl; refine blk_put (cs := #[.int .i64 a9, .int .i64 0, .int .i64 0, .int .i64 0, .int .i64 0]) ?_ 1 _ rfl; refine blk_put (cs := #[.int .i64 0, .int .i64 0, .int .i64 0, .int .i64 0, .int .i64 0]) ?_ 0 _ rfl; exact upB b3.out) hb); replace HB := yaa (below_step (by repeat (with_reducible first | exact HB.out | apply below_alloc | apply pw_below_drewN | apply below_drew1 | refine below_set ?_ (Aside0.out ‹_›))) hb); (try clear hb)))
    go_ret
    exact ⟨by first | rfl | (simp [*, errW_none, errW_some] <;> rfl), by repeat (with_reducible first | exact HB.out | apply below_alloc | apply pw_below_drewN | apply below_drew1 | refine below_set ?_ (Aside0.out ‹_›))⟩
  ·
   replace c6 := Bool.eq_false_iff.mpr c6
   subst c6
   rw [if_neg (show ¬ (false = true) by decide)] at H
   rw [hrt] at H
   exact absurd H (by simp)

/-- THE ONE PURE STATEMENT of laws_FnExactOpRead: yours. -/
def laws_FnExactOpRead.Pure : Prop := ∀ (a0 : ByteArray), a0.size ≤ 140737488351232 → ∃ k, laws_FnExactOpRead.f k a0 = some true
theorem laws_FnExactOpRead.walk (P : laws_FnExactOpRead.Pure) (a0 : ByteArray) (w : World) (w0 : a0.size ≤ 140737488351232) (hG : Glob w) :
  Calls Tryd.prog 3 #[.string a0] w fun e w' => e = .returned (.bool true) ∧ Below w.heap.size w w' := by
 obtain ⟨k, h⟩ := P a0 w0
 refine (laws_FnExactOpRead.calls k a0 true w h rfl hG).mono ?_
 rintro e w' ⟨rfl, hd⟩
 exact ⟨rfl, hd⟩
end
end Go.Proofs.YtfafjpfigphchaaDoor.X
namespace Go.Proofs.YtfafjpfigphchaaDoor.Pl
open Go.RowKit Go.Proofs.YtfafjpfigphchaaDoorW.PrintWords

/-- From a round on: with a round more. -/
theorem ev_succ {α : Type} {g : Nat → Option α} {r : α} (h : Ev (fun k => g (k + 1)) r) : Ev g r := by
  obtain ⟨K, h⟩ := h
  refine ⟨K + 1, fun n hn => ?_⟩
  obtain ⟨m, rfl⟩ : ∃ m, n = m + 1 := ⟨n - 1, by omega⟩
  exact h m (by omega)

/-- From a number of rounds on, through a step. -/
theorem Ev.at_ {α : Type} {g : Nat → Option α} {r : α} (h : Ev g r) : ∃ K, ∀ k, K ≤ k → g k = some r := h
theorem ev_const {α : Type} {x : Option α} {r : α} (h : x = some r) : Ev (fun _ => x) r := ⟨0, fun _ _ => h⟩

/-! ### What a told function comes to, from some number of rounds on -/
/-- It answers, and the answer is so. -/
def Tot {α : Type} (g : Nat → Option α) (post : α → Prop) : Prop := ∃ r, Ev g r ∧ post r
theorem Tot.ret {α : Type} {post : α → Prop} {r : α} (h : post r) : Tot (fun _ => some r) post := ⟨r, Ev.now r, h⟩
theorem Tot.mono {α : Type} {g : Nat → Option α} {P Q : α → Prop} (h : Tot g P) (hi : ∀ r, P r → Q r) : Tot g Q := by
  obtain ⟨r, h, hp⟩ := h
  exact ⟨r, h, hi r hp⟩
theorem Tot.bind {α β : Type} {g : Nat → Option α} {f : Nat → α → Option β} {P : α → Prop} {Q : β → Prop} (h : Tot g P) (hf : ∀ a, P a → Tot (fun k => f k a) Q) : Tot (fun k => (g k).bind (f k)) Q := by
  obtain ⟨a, h, hp⟩ := h
  obtain ⟨r, h2, hq⟩ := hf a hp
  exact ⟨r, Ev.bind h h2, hq⟩
theorem Tot.some_bind {α β : Type} {f : Nat → α → Option β} {Q : β → Prop} {a : α} (hf : Tot (fun k => f k a) Q) : Tot (fun k => (some a).bind (f k)) Q := hf
theorem Tot.ite {α : Type} {c : Prop} [Decidable c] {f g : Nat → Option α} {Q : α → Prop} (h1 : c → Tot f Q) (h2 : ¬ c → Tot g Q) : Tot (fun k => if c then f k else g k) Q := by
  by_cases h : c
  · simpa [h] using h1 h
  · simpa [h] using h2 h
theorem Tot.pos {α : Type} {c : Prop} [Decidable c] {f g : Nat → Option α} {Q : α → Prop} (h : c) (h1 : Tot f Q) : Tot (fun k => if c then f k else g k) Q := by simpa [h] using h1
theorem Tot.neg {α : Type} {c : Prop} [Decidable c] {f g : Nat → Option α} {Q : α → Prop} (h : ¬ c) (h1 : Tot g Q) : Tot (fun k => if c then f k else g k) Q := by simpa [h] using h1
theorem Tot.succ {α : Type} {g : Nat → Option α} {Q : α → Prop} (h : Tot (fun k => g (k + 1)) Q) : Tot g Q := by
  obtain ⟨r, h, hp⟩ := h
  exact ⟨r, ev_succ h, hp⟩
theorem Tot.of_eq {α : Type} {x : Option α} {r : α} (h : x = some r) : Tot (fun _ => x) (fun y => y = r) := ⟨r, ev_const h, rfl⟩
theorem Tot.ev {α : Type} {g : Nat → Option α} {P : α → Prop} (h : Tot g P) : ∃ r, Ev g r ∧ P r := h
theorem Tot.rounds {g : Nat → Option Bool} (h : Tot g (fun b => b = true)) : ∃ k, g k = some true := by
  obtain ⟨r, h, rfl⟩ := h
  exact h.rounds

end Go.Proofs.YtfafjpfigphchaaDoor.Pl
namespace Go.Proofs.YtfafjpfigphchaaDoor.X
open Go.RowKit Go.Proofs.YtfafjpfigphchaaDoorW.PrintWords Go.Proofs.YtfafjpfigphchaaDoor.Pl
set_option linter.unusedSimpArgs false

theorem l1In_some (a b c : Int) : spec_l1In.f a b c = some (decide (b ≤ a ∧ a ≤ c)) := by
  unfold spec_l1In.f
  by_cases h : b ≤ a <;> simp [h]
theorem within_some (a b c : Int) : impl_within.f a b c = some (decide (b ≤ a ∧ a ≤ c)) := by
  unfold impl_within.f
  by_cases h : b ≤ a <;> simp [h]
theorem sizeOk_some (a : Int) : impl_sizeOk.f a = some (decide (1 ≤ a ∧ a ≤ 6)) := by
  unfold impl_sizeOk.f
  by_cases h : 1 ≤ a <;> simp [h]
theorem partOk_some (a : Int) : impl_partOk.f a = some (decide (0 ≤ a ∧ a ≤ 255)) := by
  unfold impl_partOk.f
  by_cases h : 0 ≤ a <;> simp [h]

/-- May it be done: by its kind and its four numbers. -/
def opOkB (o a b c d : Int) : Bool :=
  if o = 1 then decide (0 ≤ a ∧ a ≤ 5) && (decide (0 ≤ b ∧ b ≤ 5) && (decide (1 ≤ c ∧ c ≤ 6) && decide (1 ≤ d ∧ d ≤ 6)))
  else if o = 7 then decide (1 ≤ a ∧ a ≤ 6) && (decide (1 ≤ b ∧ b ≤ 6) && (decide (c = 0) && decide (d = 0)))
  else if o = 8 then decide (0 ≤ a ∧ a ≤ 255) && (decide (0 ≤ b ∧ b ≤ 255) && (decide (0 ≤ c ∧ c ≤ 255) && decide (d = 0)))
  else decide (2 ≤ o ∧ o ≤ 6) && (decide (a = 0) && (decide (b = 0) && (decide (c = 0) && decide (d = 0))))

theorem spec_OpOk_some (o a b c d : Int) : spec_OpOk.f o a b c d = some (opOkB o a b c d) := by
  unfold spec_OpOk.f opOkB
  simp only [l1In_some, Option.bind_some]
  by_cases h1 : o = 1
  · simp only [h1, if_true]
    by_cases p : 0 ≤ a ∧ a ≤ 5 <;> by_cases q : 0 ≤ b ∧ b ≤ 5 <;> by_cases r : 1 ≤ c ∧ c ≤ 6 <;> simp [p, q, r]
  · simp only [h1, if_false]
    by_cases h7 : o = 7
    · simp only [h7, if_true]
      by_cases p : 1 ≤ a ∧ a ≤ 6 <;> by_cases q : 1 ≤ b ∧ b ≤ 6 <;> by_cases r : c = 0 <;> simp [p, q, r]; rfl
    · simp only [h7, if_false]
      by_cases h8 : o = 8
      · simp only [h8, if_true]
        by_cases p : 0 ≤ a ∧ a ≤ 255 <;> by_cases q : 0 ≤ b ∧ b ≤ 255 <;> by_cases r : 0 ≤ c ∧ c ≤ 255 <;> simp [p, q, r]; rfl
      · simp only [h8, if_false]
        by_cases p : 2 ≤ o ∧ o ≤ 6 <;> by_cases q : a = 0 <;> by_cases r : b = 0 <;> by_cases s : c = 0 <;> simp [p, q, r, s]; rfl

theorem impl_OpOk_some (k : Nat) (o a b c d : Int) : impl_OpOk.f (k + 1) o a b c d = some (opOkB o a b c d) := by
  unfold impl_OpOk.f opOkB
  simp only [impl_OpOk.j0, within_some, sizeOk_some, partOk_some, Option.bind_some]
  by_cases h1 : o = 1
  · simp only [h1, if_true]
    by_cases p : 0 ≤ a ∧ a ≤ 5 <;> by_cases q : 0 ≤ b ∧ b ≤ 5 <;> by_cases r : 1 ≤ c ∧ c ≤ 6 <;> simp [p, q, r]
  · simp only [h1, if_false]
    by_cases h2 : o = 2
    · subst h2; simp; rfl
    by_cases h3 : o = 3
    · subst h3; simp; rfl
    by_cases h4 : o = 4
    · subst h4; simp; rfl
    by_cases h5 : o = 5
    · subst h5; simp; rfl
    by_cases h6 : o = 6
    · subst h6; simp; rfl
    by_cases h7 : o = 7
    · subst h7
      simp only [show ¬ ((7 : Int) = 2) by decide, show ¬ ((7 : Int) = 3) by decide, show ¬ ((7 : Int) = 4) by decide, show ¬ ((7 : Int) = 5) by decide, if_false, if_true]
      by_cases p : 1 ≤ a ∧ a ≤ 6 <;> by_cases q : 1 ≤ b ∧ b ≤ 6 <;> by_cases r : c = 0 <;> simp [p, q, r]; rfl
    by_cases h8 : o = 8
    · subst h8
      simp only [show ¬ ((8 : Int) = 2) by decide, show ¬ ((8 : Int) = 3) by decide, show ¬ ((8 : Int) = 4) by decide, show ¬ ((8 : Int) = 5) by decide, show ¬ ((8 : Int) = 7) by decide, if_false, if_true]
      by_cases p : 0 ≤ a ∧ a ≤ 255 <;> by_cases q : 0 ≤ b ∧ b ≤ 255 <;> by_cases r : 0 ≤ c ∧ c ≤ 255 <;> simp [p, q, r]; rfl
    have h9 : ¬ (2 ≤ o ∧ o ≤ 6) := by omega
    have h6' : (o == 6) = false := by simpa using h6
    simp [h2, h3, h4, h5, h7, h8, h9, h6']

abbrev Op := S23

end Go.Proofs.YtfafjpfigphchaaDoor.X
namespace Go.Proofs.YtfafjpfigphchaaDoor.X
open Go.RowKit Go.Proofs.YtfafjpfigphchaaDoorW.PrintWords Go.Proofs.YtfafjpfigphchaaDoor.Pl
set_option linter.unusedSimpArgs false
set_option linter.unusedVariables false
theorem wr_id {x : Int} (h0 : -9223372036854775808 ≤ x) (h1 : x ≤ 9223372036854775807) : wrap64 x = x := by unfold wrap64; omega
theorem digit_str (d : Nat) (h : d < 10) : strOfNums [(wrap64 (48 + (d : Int))) % 256] = ⟨#[UInt8.ofNat (48 + d)]⟩ := by
  rw [wr_id (by omega) (by omega), show (48 + (d : Int)) % 256 = ((48 + d : Nat) : Int) by omega]
  unfold strOfNums
  rfl
/-- A number's digits, ahead of what stands behind them. -/
theorem plain_tot (n : Nat) : n ≤ 9223372036854775807 → ∀ x3 : ByteArray, x3.size + Lib.nDigits n ≤ 9223372036854775807 → Tot (fun k => spec_l7Plain.l0 k (n : Int) x3) (fun r => r = ⟨(Lib.decDigits n).toArray⟩ ++ x3) := by
  induction n using Nat.strongRecOn with
  | _ n ih =>
    intro hn x3 hx
    refine Tot.succ ?_
    simp only [spec_l7Plain.l0]
    by_cases h : n < 10
    · refine Tot.neg (by omega) (Tot.some_bind ?_)
      rw [digit_str n h]
      rw [Lib.nDigits_small h] at hx
      refine Tot.pos ?_ (Tot.ret ?_)
      · show 1 + x3.size ≤ _
        omega
      · rw [Lib.decDigits_one h]
    · refine Tot.pos (by omega) (Tot.some_bind ?_)
      rw [show Int.tmod (n : Int) 10 = ((n % 10 : Nat) : Int) from (Int.ofNat_tmod n 10).symm, digit_str _ (by omega), show Int.tdiv (n : Int) 10 = ((n / 10 : Nat) : Int) from (Int.ofNat_tdiv n 10).symm, wr_id (by omega) (by omega)]
      rw [Lib.nDigits_big h] at hx
      have hp := Lib.nDigits_pos (n / 10)
      refine Tot.pos ?_ ?_
      · show 1 + x3.size ≤ _
        omega
      · refine Tot.mono (ih (n / 10) (by omega) (by omega) _ ?_) ?_
        · rw [ByteArray.size_append]
          show 1 + x3.size + _ ≤ _
          omega
        · rintro r rfl
          rw [Lib.decDigits.eq_def n, dif_neg h, ← ByteArray.append_assoc]
          congr 1
theorem plainF_tot (n : Nat) (hn : n ≤ 9223372036854775807) : Tot (fun k => spec_l7Plain.f k (n : Int)) (fun r => r = ⟨(Lib.itoa (n : Int)).toArray⟩) := by
  have h := Lib.itoa_length_le (n : Int) (by omega) (by omega)
  rw [Lib.itoa_nonneg, Lib.decDigits_length] at h
  refine Tot.mono (plain_tot n hn ⟨#[]⟩ (by show 0 + _ ≤ _; omega)) ?_
  rintro r rfl
  rw [Lib.itoa_nonneg]
  exact ByteArray.append_empty
theorem rd4 (a b c d : Int) (i : Nat) (hi : i < 4) : rd [a, b, c, d] (i : Int) = [a, b, c, d].getD i 0 := by
  match i, hi with
  | 0, _ => rfl
  | 1, _ => rfl
  | 2, _ => rfl
  | 3, _ => rfl
theorem otext_tot (W : ByteArray) (hW : W.size ≤ 5) (a b c d : Int) (hns : ∀ n ∈ [a, b, c, d], 0 ≤ n ∧ n ≤ 9223372036854775807) (many : Nat) (hm : many ≤ 4) : ∀ e i, i + e = many → Tot (fun k => spec_OpText.l0 k (txtI W ([a, b, c, d].take i)) many [a, b, c, d] i) (fun r => r = txtI W ([a, b, c, d].take many))
  | 0, i, h => by
    obtain rfl : i = many := by omega
    refine Tot.succ ?_
    simp only [spec_OpText.l0]
    exact Tot.neg (by omega) (Tot.ret rfl)
  | e + 1, i, h => by
    have ih := otext_tot W hW a b c d hns many hm e (i + 1) (by omega)
    have hl := txtI_len W ([a, b, c, d].take i) (fun n hn => by have := hns n (List.mem_of_mem_take hn); exact ⟨by omega, this.2⟩) hW (by simp; omega)
    have hn := hns ([a, b, c, d].getD i 0) (num_mem (by omega))
    have e1 : txtI W ([a, b, c, d].take (i + 1)) = txtI W ([a, b, c, d].take i) ++ numT ([a, b, c, d].getD i 0) := by rw [take_getD _ _ (by simp; omega), txtI_snoc]
    rw [e1] at ih
    generalize txtI W ([a, b, c, d].take i) = T at *
    refine Tot.succ ?_
    simp only [spec_OpText.l0, rd4 a b c d i (by omega)]
    obtain ⟨m, hm'⟩ := Int.eq_ofNat_of_zero_le hn.1
    rw [hm'] at ih hn ⊢
    refine Tot.pos (by omega) (Tot.pos (by omega) (Tot.pos (by omega) (Tot.pos (by simp; omega) ?_)))
    refine Tot.bind (plainF_tot m (by omega)) ?_
    rintro _ rfl
    have h20 := Lib.itoa_length_le (m : Int) (by omega) (by omega)
    refine Tot.pos ?_ ?_
    · rw [ByteArray.size_append]
      show _ + 1 + (Lib.itoa (m : Int)).toArray.size ≤ _
      rw [List.size_toArray]
      omega
    · rw [wr_id (by omega) (by omega), ByteArray.append_assoc]
      exact ih
theorem opOk_kind {o a b c d : Int} (h : opOkB o a b c d = true) : 1 ≤ o ∧ o ≤ 8 ∧ ∀ n ∈ [a, b, c, d], 0 ≤ n ∧ n ≤ 255 := by
  unfold opOkB at h
  simp only [List.mem_cons, List.not_mem_nil, or_false, forall_eq_or_imp, forall_eq]
  split at h
  · simp at h; omega
  · split at h
    · simp at h; omega
    · split at h
      · simp at h; omega
      · simp at h; omega
theorem word_some (k : Nat) (h : k < 9) : spec_l7Word.f (k : Int) = some (formW k, (formN k : Int)) := by
  match k, h with
  | 0, _ => rfl
  | 1, _ => rfl
  | 2, _ => rfl
  | 3, _ => rfl
  | 4, _ => rfl
  | 5, _ => rfl
  | 6, _ => rfl
  | 7, _ => rfl
  | 8, _ => rfl
/-- What is done, as text. -/
def opTextF (o a b c d : Int) : ByteArray := if opOkB o a b c d then txtI (formW o.toNat) ([a, b, c, d].take (formN o.toNat)) else ⟨#[]⟩
theorem spec_OpText_tot (o a b c d : Int) : Tot (fun k => spec_OpText.f k o a b c d) (fun r => r = opTextF o a b c d) := by
  unfold spec_OpText.f opTextF
  refine Tot.bind (Tot.of_eq (spec_OpOk_some o a b c d)) ?_
  rintro _ rfl
  cases h : opOkB o a b c d with
  | false => exact Tot.neg (by decide) (Tot.ret rfl)
  | true =>
    obtain ⟨h1, h8, hn⟩ := opOk_kind h
    obtain ⟨k, rfl⟩ := Int.eq_ofNat_of_zero_le (show 0 ≤ o by omega)
    refine Tot.pos rfl ?_
    refine Tot.bind (Tot.of_eq (word_some k (by omega))) ?_
    rintro _ rfl
    exact otext_tot (formW k) (formW_len k (by omega)) a b c d (fun n h => ⟨(hn n h).1, by have := (hn n h).2; omega⟩) (formN k) (formN_le k (by omega)) (formN k) 0 (by omega)
theorem impl_OpText_tot (o a b c d : Int) : Tot (fun k => impl_OpText.f k o a b c d) (fun r => r = opTextF o a b c d) := by
  refine Tot.succ ?_
  unfold impl_OpText.f opTextF
  refine Tot.bind (Tot.succ (Tot.succ (Tot.of_eq (impl_OpOk_some 0 o a b c d)))) ?_
  rintro _ rfl
  cases h : opOkB o a b c d with
  | false => exact Tot.neg (by decide) (Tot.ret rfl)
  | true =>
    obtain ⟨h1, h8, hn⟩ := opOk_kind h
    refine Tot.pos rfl ?_
    unfold opTextI
    rw [if_pos ⟨by omega, by omega, fun n h => ⟨by have := hn n h; omega, by have := hn n h; omega⟩⟩]
    exact Tot.ret rfl
end Go.Proofs.YtfafjpfigphchaaDoor.X
namespace Go.Proofs.YtfafjpfigphchaaDoorW.PrintWords
open Go.RowKit
set_option linter.unusedVariables false
variable {α : Type} {P : Program} {ops : Array Oper} {o : Oper} {a : Act} {Q : Exit → Act → World → Prop} {rest : List Oper}
end Go.Proofs.YtfafjpfigphchaaDoorW.PrintWords
namespace Go.Proofs.YtfafjpfigphchaaDoor.X
open Go.RowKit Go.Proofs.YtfafjpfigphchaaDoorW.PrintWords Go.Proofs.YtfafjpfigphchaaDoorW.PrintLast Go.Proofs.YtfafjpfigphchaaDoorW.PrintMore
attribute [local go_sem] max2_int min2_int max_two min_two max_three min_three max_four min_four
set_option linter.unusedVariables false
set_option linter.unusedSimpArgs false

section

end
section

end
section
open Go.Proofs.YtfafjpfigphchaaDoorW.PrintWords.Aside0 renaming mk → yaa
open Go.Proofs.YtfafjpfigphchaaDoorW.PrintWords renaming pw_below_drewN → yab, below_drew1 → yac, below_alloc → yad, below_set → yae
end
end Go.Proofs.YtfafjpfigphchaaDoor.X
namespace Go.Proofs.YtfafjpfigphchaaDoor.X
open Go.RowKit Go.Proofs.YtfafjpfigphchaaDoorW.PrintWords Go.Proofs.YtfafjpfigphchaaDoor.Pl
set_option linter.unusedSimpArgs false
set_option linter.unusedVariables false
theorem ba_ext {a b : ByteArray} (h : a.data.toList = b.data.toList) : a = b := by
  obtain ⟨a⟩ := a; obtain ⟨b⟩ := b
  exact congrArg ByteArray.mk (Array.toList_inj.1 h)
theorem ba_app (a b : ByteArray) : (a ++ b).data.toList = a.data.toList ++ b.data.toList := by
  rw [ByteArray.data_append, Array.toList_append]
theorem ba_size (a : ByteArray) : a.size = a.data.toList.length := by
  show a.data.size = _
  rw [Array.length_toList]
end Go.Proofs.YtfafjpfigphchaaDoor.X
namespace Go.Proofs.YtfafjpfigphchaaDoor.X
open Go.RowKit Go.Proofs.YtfafjpfigphchaaDoorW.PrintWords Go.Proofs.YtfafjpfigphchaaDoor.Pl
set_option linter.unusedSimpArgs false
set_option linter.unusedVariables false
/-- What stands between the signs. -/
def parts (c : UInt8) : List UInt8 → List (List UInt8)
  | [] => [[]]
  | x :: xs => if x = c then [] :: parts c xs else (match parts c xs with | [] => [[x]] | h :: t => (x :: h) :: t)
theorem parts_none {c : UInt8} : ∀ {a : List UInt8}, c ∉ a → parts c a = [a]
  | [], _ => rfl
  | x :: a, h => by
    simp only [List.mem_cons, not_or] at h
    rw [parts, if_neg (fun e => h.1 e.symm), parts_none h.2]
theorem parts_app {c : UInt8} {b : List UInt8} : ∀ {a : List UInt8}, c ∉ a → parts c (a ++ c :: b) = a :: parts c b
  | [], _ => by rw [List.nil_append, parts, if_pos rfl]
  | x :: a, h => by
    simp only [List.mem_cons, not_or] at h
    rw [List.cons_append, parts, if_neg (fun e => h.1 e.symm), parts_app h.2]
/-- The number that digits say. -/
def numOf (l : List UInt8) : Nat := l.foldl (fun a d => 10 * a + (d.toNat - 48)) 0
theorem numOf_snoc (l : List UInt8) (d : UInt8) : numOf (l ++ [d]) = 10 * numOf l + (d.toNat - 48) := by simp [numOf, List.foldl_append]
theorem dig_toNat (k : Nat) (h : k < 10) : (UInt8.ofNat (48 + k)).toNat = 48 + k := by
  rw [UInt8.toNat_ofNat']; omega
theorem dec_num (n : Nat) : numOf (Lib.decDigits n) = n := by
  induction n using Nat.strongRecOn with
  | _ n ih =>
    rw [Lib.decDigits.eq_def]
    split
    · rename_i h
      show 10 * 0 + ((UInt8.ofNat (48 + n)).toNat - 48) = n
      rw [dig_toNat n h]
      omega
    · rename_i h
      rw [numOf_snoc, ih (n / 10) (by omega), dig_toNat _ (by omega)]
      omega
theorem dec_dig (n : Nat) : ∀ d ∈ Lib.decDigits n, 48 ≤ d.toNat ∧ d.toNat ≤ 57 := by
  induction n using Nat.strongRecOn with
  | _ n ih =>
    intro d hd
    rw [Lib.decDigits.eq_def] at hd
    split at hd
    · rename_i h
      obtain rfl := List.mem_singleton.1 hd
      rw [dig_toNat n h]
      omega
    · rename_i h
      rcases List.mem_append.1 hd with h1 | h1
      · exact ih (n / 10) (by omega) d h1
      · obtain rfl := List.mem_singleton.1 h1
        rw [dig_toNat _ (by omega)]
        omega
theorem itoa_dig (n : Nat) : ∀ d ∈ Lib.itoa (n : Int), 48 ≤ d.toNat ∧ d.toNat ≤ 57 := by rw [Lib.itoa_nonneg]; exact dec_dig n
theorem itoa_no {c : UInt8} (hc : c.toNat < 48 ∨ 57 < c.toNat) (n : Nat) : c ∉ Lib.itoa (n : Int) := fun h => by
  have := itoa_dig n c h
  omega
theorem itoa_inj {m n : Nat} (h : Lib.itoa (m : Int) = Lib.itoa (n : Int)) : m = n := by
  rw [Lib.itoa_nonneg, Lib.itoa_nonneg] at h
  have := congrArg numOf h
  rwa [dec_num, dec_num] at this
/-- An operation's text, sign by sign. -/
def opL (W : List UInt8) (ns : List Int) : List UInt8 := W ++ ns.flatMap fun n => 46 :: Lib.itoa n
theorem txtI_list (W : ByteArray) (ns : List Int) : (txtI W ns).data.toList = opL W.data.toList ns := by
  induction ns generalizing W with
  | nil => simp [opL, txtI]
  | cons n ns ih =>
    show (txtI (W ++ numT n) ns).data.toList = _
    rw [ih, ba_app]
    have e : (numT n).data.toList = 46 :: Lib.itoa n := by
      unfold numT
      rw [ba_app]
      rfl
    rw [e]
    simp [opL]
theorem parts_opL (W : List UInt8) (hW : (46 : UInt8) ∉ W) : ∀ ns : List Int, (∀ n ∈ ns, 0 ≤ n) → parts 46 (opL W ns) = W :: ns.map Lib.itoa := by
  intro ns hns
  have key : ∀ ns : List Int, (∀ n ∈ ns, 0 ≤ n) → ∀ A : List UInt8, (46 : UInt8) ∉ A → parts 46 (A ++ ns.flatMap fun n => 46 :: Lib.itoa n) = A :: ns.map Lib.itoa := by
    intro ns
    induction ns with
    | nil => intro _ A hA; rw [List.flatMap_nil, List.append_nil, parts_none hA]; rfl
    | cons n ns ih =>
      intro h A hA
      obtain ⟨m, rfl⟩ := Int.eq_ofNat_of_zero_le (h n (List.mem_cons_self ..))
      rw [List.flatMap_cons, List.cons_append, parts_app hA, ih (fun x hx => h x (List.mem_cons_of_mem _ hx)) _ (itoa_no (by decide) m)]
      rfl
  exact key ns hns W hW
theorem formW_sign (k : Nat) (h : k < 9) : ∀ c ∈ (formW k).data.toList, 97 ≤ c.toNat ∧ c.toNat ≤ 122 := by
  match k, h with
  | 0, _ => decide
  | 1, _ => decide
  | 2, _ => decide
  | 3, _ => decide
  | 4, _ => decide
  | 5, _ => decide
  | 6, _ => decide
  | 7, _ => decide
  | 8, _ => decide
theorem formW_no {c : UInt8} (hc : c.toNat < 97) (k : Nat) (h : k < 9) : c ∉ (formW k).data.toList := fun hm => by
  have := formW_sign k h c hm
  omega
theorem formW_inj : ∀ a b : Fin 9, (formW a.val).data.toList = (formW b.val).data.toList → a = b := by decide
theorem map_itoa_inj : ∀ {a b : List Int}, (∀ n ∈ a, 0 ≤ n) → (∀ n ∈ b, 0 ≤ n) → a.map Lib.itoa = b.map Lib.itoa → a = b
  | [], [], _, _, _ => rfl
  | [], _ :: _, _, _, h => by cases h
  | _ :: _, [], _, _, h => by cases h
  | x :: a, y :: b, hx, hy, h => by
    simp only [List.map_cons, List.cons.injEq] at h
    obtain ⟨m, rfl⟩ := Int.eq_ofNat_of_zero_le (hx x (List.mem_cons_self ..))
    obtain ⟨n, rfl⟩ := Int.eq_ofNat_of_zero_le (hy y (List.mem_cons_self ..))
    rw [itoa_inj h.1, map_itoa_inj (fun z hz => hx z (List.mem_cons_of_mem _ hz)) (fun z hz => hy z (List.mem_cons_of_mem _ hz)) h.2]
/-- What may be done is of a kind, and beyond its numbers has none. -/
theorem opOk_rest {o a b c d : Int} (h : opOkB o a b c d = true) : ∃ k : Nat, o = k ∧ 1 ≤ k ∧ k < 9 ∧ (∀ n ∈ [a, b, c, d], 0 ≤ n ∧ n ≤ 255) ∧ [a, b, c, d] = [a, b, c, d].take (formN k) ++ List.replicate (4 - formN k) 0 := by
  obtain ⟨h1, h8, hn⟩ := opOk_kind h
  obtain ⟨k, rfl⟩ := Int.eq_ofNat_of_zero_le (show 0 ≤ o by omega)
  refine ⟨k, rfl, by omega, by omega, hn, ?_⟩
  have hk : k = 1 ∨ k = 2 ∨ k = 3 ∨ k = 4 ∨ k = 5 ∨ k = 6 ∨ k = 7 ∨ k = 8 := by omega
  rcases hk with rfl | rfl | rfl | rfl | rfl | rfl | rfl | rfl
  · rfl
  all_goals
    simp [opOkB] at h
    simp [formN, formsL, List.replicate, h]
theorem opTextF_list {o a b c d : Int} (h : opOkB o a b c d = true) : (opTextF o a b c d).data.toList = opL (formW o.toNat).data.toList ([a, b, c, d].take (formN o.toNat)) := by
  unfold opTextF
  rw [if_pos h, txtI_list]
theorem opTextF_inj {o a b c d o' a' b' c' d' : Int} (h : opOkB o a b c d = true) (h' : opOkB o' a' b' c' d' = true) (e : opTextF o a b c d = opTextF o' a' b' c' d') : o = o' ∧ a = a' ∧ b = b' ∧ c = c' ∧ d = d' := by
  obtain ⟨k, rfl, k1, k9, hn, hr⟩ := opOk_rest h
  obtain ⟨k', rfl, k1', k9', hn', hr'⟩ := opOk_rest h'
  have e1 := congrArg (fun x : ByteArray => x.data.toList) e
  (try dsimp only at e1)
  rw [opTextF_list h, opTextF_list h'] at e1
  simp only [Int.toNat_natCast] at e1
  have p1 := parts_opL _ (formW_no (c := 46) (by decide) k k9) ([a, b, c, d].take (formN k)) (fun n h => (hn n (List.mem_of_mem_take h)).1)
  have p2 := parts_opL _ (formW_no (c := 46) (by decide) k' k9') ([a', b', c', d'].take (formN k')) (fun n h => (hn' n (List.mem_of_mem_take h)).1)
  rw [e1, p2] at p1
  simp only [List.cons.injEq] at p1
  have ek : k' = k := congrArg Fin.val (formW_inj ⟨k', k9'⟩ ⟨k, k9⟩ p1.1)
  subst ek
  have en := map_itoa_inj (fun n h => (hn' n (List.mem_of_mem_take h)).1) (fun n h => (hn n (List.mem_of_mem_take h)).1) p1.2
  rw [en, ← hr] at hr'
  simp only [List.cons.injEq, and_true] at hr'
  exact ⟨rfl, hr'.1.symm, hr'.2.1.symm, hr'.2.2.1.symm, hr'.2.2.2.symm⟩
end Go.Proofs.YtfafjpfigphchaaDoor.X
namespace Go.Proofs.YtfafjpfigphchaaDoor.X
open Go.RowKit Go.Proofs.YtfafjpfigphchaaDoorW.PrintWords Go.Proofs.YtfafjpfigphchaaDoor.Pl
set_option linter.unusedSimpArgs false
set_option linter.unusedVariables false
def baOf (l : List UInt8) : ByteArray := ⟨l.toArray⟩
theorem baOf_list (l : List UInt8) : (baOf l).data.toList = l := rfl
theorem baOf_self (s : ByteArray) : baOf s.data.toList = s := ba_ext rfl
theorem toList_ba {a b : ByteArray} : a.toList = b.toList ↔ a = b := by
  rw [Lib.toList_data, Lib.toList_data]
  exact ⟨fun h => ba_ext h, fun h => by rw [h]⟩
theorem bt_nat (s : ByteArray) (i : Nat) (h : i < s.data.toList.length) : bt s (i : Int) = ((s.data.toList[i]).toNat : Int) := by
  have hs : i < s.size := by rw [ba_size]; exact h
  unfold bt
  rw [Int.toNat_natCast, dif_pos hs]
  have e : s[i] = s.data.toList[i] := by
    rw [Array.getElem_toList]
    rfl
  rw [e]
/-! ### Where a sign first stands -/
theorem index_none_ {l : List UInt8} {c : UInt8} (h : c ∉ l) : Lib.index l [c] = -1 := by
  rw [Lib.index_one]
  have hge := Lib.indexByte_ge l c
  rcases Int.lt_or_le (Lib.indexByte l c) 0 with h0 | h0
  · omega
  · obtain ⟨o, ho⟩ := Int.eq_ofNat_of_zero_le h0
    exact absurd (List.mem_of_getElem? (Lib.indexByte_some ho).1) h
theorem index_app {a b : List UInt8} {c : UInt8} (h : c ∉ a) : Lib.index (a ++ c :: b) [c] = (a.length : Int) := by
  rw [Lib.index_one]
  induction a with
  | nil => simp [Lib.indexByte]
  | cons x a ih =>
    simp only [List.mem_cons, not_or] at h
    have ih := ih h.2
    rw [List.cons_append, Lib.indexByte, if_neg (fun e => h.1 (beq_iff_eq.1 e).symm), ih, if_neg (fun e => by have := beq_iff_eq.1 e; omega), List.length_cons]
    omega
theorem split_at {c : UInt8} : ∀ l : List UInt8, c ∉ l ∨ ∃ a b, l = a ++ c :: b ∧ c ∉ a
  | [] => .inl (by simp)
  | x :: l => by
    by_cases hx : x = c
    · exact .inr ⟨[], l, by rw [hx]; rfl, by simp⟩
    · rcases split_at (c := c) l with h | ⟨a, b, rfl, h⟩
      · exact .inl (by simp only [List.mem_cons, not_or]; exact ⟨fun e => hx e.symm, h⟩)
      · exact .inr ⟨x :: a, b, rfl, by simp only [List.mem_cons, not_or]; exact ⟨fun e => hx e.symm, h⟩⟩
theorem cut_none {l : List UInt8} {c : UInt8} (h : c ∉ l) : Lib.cut l [c] = (l, [], false) := by
  unfold Lib.cut
  rw [index_none_ h, if_neg (by omega)]
theorem cut_app {a b : List UInt8} {c : UInt8} (h : c ∉ a) : Lib.cut (a ++ c :: b) [c] = (a, b, true) := by
  unfold Lib.cut
  rw [index_app h, if_pos (by omega), Int.toNat_natCast]
  simp
theorem splitK_parts {c : UInt8} : ∀ (n : Nat) (l : List UInt8), l.length ≤ n → Lib.splitK [c] 0 (Lib.count l [c]) l = parts c l
  | 0, l, h => by
    obtain rfl := List.eq_nil_of_length_eq_zero (Nat.le_zero.1 h)
    rw [Lib.count_miss (index_none_ (by simp))]
    rfl
  | n + 1, l, h => by
    rcases split_at (c := c) l with hn | ⟨a, b, rfl, ha⟩
    · rw [Lib.count_miss (index_none_ hn), parts_none hn]
      rfl
    · rw [List.length_append, List.length_cons] at h
      have e1 : (a ++ c :: b).drop (a.length + [c].length) = b := by simp
      have e2 : (a ++ c :: b).take (a.length + 0) = a := by simp
      rw [Lib.count_hit (by simp) (index_app ha), e1, Nat.add_comm 1, Lib.splitK, index_app ha, if_neg (fun e => by have := beq_iff_eq.1 e; omega), Int.toNat_natCast, e1, e2, splitK_parts n b (by omega), parts_app ha]
theorem partsB_parts (s : ByteArray) (c : UInt8) : partsB s ⟨#[c]⟩ = (parts c s.data.toList).map baOf := by
  have h := Lib.splitB_data ⟨#[c]⟩ 0 (Lib.countB s ⟨#[c]⟩) s
  have h2 := splitK_parts (c := c) s.data.toList.length s.data.toList (Nat.le_refl _)
  have h3 : (partsB s ⟨#[c]⟩).map (·.data.toList) = parts c s.data.toList := h.trans h2
  rw [← h3, List.map_map]
  refine ((List.map_congr_left (g := id) (fun x _ => ?_)).trans (List.map_id _)).symm
  exact baOf_self x
/-! ### The reference cuts the same way -/
def glue (w : List UInt8) : List (List UInt8) → List (List UInt8)
  | [] => [w]
  | h :: t => (w ++ h) :: t
theorem glue_nil {c : UInt8} (l : List UInt8) : glue [] (parts c l) = parts c l := by
  cases l with
  | nil => rfl
  | cons x l =>
    rw [parts]
    split
    · rfl
    · split <;> rfl
theorem parts_len {c : UInt8} : ∀ l : List UInt8, (parts c l).length ≤ l.length + 1 ∧ 1 ≤ (parts c l).length
  | [] => ⟨by simp [parts], by simp [parts]⟩
  | x :: l => by
    have ih := parts_len (c := c) l
    rw [parts]
    split
    · simp only [List.length_cons]; omega
    · split
      · simp
      · rename_i h t e
        rw [e] at ih
        simp only [List.length_cons] at ih ⊢
        omega
theorem l7Cut_loop (s : ByteArray) (c : UInt8) (hs : s.size ≤ 1048576) : ∀ e i, i + e = s.size → ∀ (acc : List ByteArray) (w : List UInt8), acc.length ≤ i → w.length ≤ i → Tot (fun k => spec_l7Cut.l0 k s (c.toNat : Int) acc (baOf w) i) (fun r => r = acc ++ (glue w (parts c (s.data.toList.drop i))).map baOf)
  | 0, i, h, acc, w, ha, hw => by
    refine Tot.succ ?_
    simp only [spec_l7Cut.l0]
    refine Tot.neg (by omega) (Tot.pos (by omega) (Tot.ret ?_))
    rw [List.drop_of_length_le (by rw [← ba_size]; omega)]
    simp [parts, glue]
  | e + 1, i, h, acc, w, ha, hw => by
    have hi : i < s.data.toList.length := by rw [← ba_size]; omega
    have hd := List.drop_eq_getElem_cons hi
    obtain ⟨x, hx⟩ : ∃ x, s.data.toList[i] = x := ⟨_, rfl⟩
    rw [hx] at hd
    have hb : bt s (i : Int) = (x.toNat : Int) := by rw [bt_nat s i hi, hx]
    refine Tot.succ ?_
    simp only [spec_l7Cut.l0]
    refine Tot.pos (by omega) (Tot.pos (by omega) ?_)
    rw [hb, hd, parts]
    by_cases hc : x = c
    · refine Tot.pos (by rw [hc]) (Tot.pos (by omega) ?_)
      rw [wr_id (by omega) (by omega), if_pos hc]
      refine Tot.mono (l7Cut_loop s c hs e (i + 1) (by omega) (acc ++ [baOf w]) [] (by simp; omega) (by simp)) ?_
      rintro r rfl
      rw [glue_nil]
      simp [glue]
    · have hcn : ¬ ((x.toNat : Int) = (c.toNat : Int)) := fun e => hc (UInt8.toNat_inj.1 (by omega))
      have he : s.extract ((i : Int)).toNat (((i + 1 : Nat) : Int)).toNat = baOf [x] := by
        apply ba_ext
        rw [ByteArray.data_extract, Array.toList_extract, Int.toNat_natCast, Int.toNat_natCast, baOf_list]
        have : s.data.toList.extract i (i + 1) = [x] := by
          rw [List.extract_eq_take_drop, hd]
          simp
        exact this
      refine Tot.neg hcn ?_
      rw [wr_id (by omega) (by omega), show ((i : Int) + 1) = ((i + 1 : Nat) : Int) by omega, he]
      refine Tot.pos (by omega) (Tot.pos (by omega) (Tot.pos ?_ ?_))
      · rw [ba_size, ba_size, baOf_list, baOf_list]; simp only [List.length_cons, List.length_nil]; omega
      rw [if_neg hc]
      have hw2 : baOf w ++ baOf [x] = baOf (w ++ [x]) := ba_ext (by rw [ba_app]; rfl)
      rw [hw2]
      refine Tot.mono (l7Cut_loop s c hs e (i + 1) (by omega) acc (w ++ [x]) (by omega) (by simp; omega)) ?_
      rintro r rfl
      cases hp : parts c (s.data.toList.drop (i + 1)) with
      | nil => simp [glue]
      | cons a t => simp [glue]
theorem l7Cut_tot (s : ByteArray) (c : UInt8) (hs : s.size ≤ 1048576) : Tot (fun k => spec_l7Cut.f k s (c.toNat : Int)) (fun r => r = (parts c s.data.toList).map baOf) := by
  unfold spec_l7Cut.f
  refine Tot.mono (l7Cut_loop s c hs s.size 0 (by omega) [] [] (by simp) (by simp)) ?_
  rintro r rfl
  rw [List.drop_zero, glue_nil, List.nil_append]
/-! ### Numbers -/
theorem numOf_le : ∀ l : List UInt8, numOf l ≤ 1000 ^ l.length := by
  have key : ∀ (l : List UInt8) (a n : Nat), a ≤ n → l.foldl (fun a d => 10 * a + (d.toNat - 48)) a ≤ n * 1000 ^ l.length + (1000 ^ l.length - 1) := by
    intro l
    induction l with
    | nil => intro a n h; simp; omega
    | cons d l ih =>
      intro a n h
      have hd := d.toNat_lt
      have := ih (10 * a + (d.toNat - 48)) (10 * n + 207) (by omega)
      rw [List.foldl_cons, List.length_cons, Nat.pow_succ]
      have hp : 1 ≤ 1000 ^ l.length := Nat.one_le_pow _ _ (by omega)
      have h2 : (10 * n + 207) * 1000 ^ l.length = 10 * (n * 1000 ^ l.length) + 207 * 1000 ^ l.length := by rw [Nat.add_mul, Nat.mul_assoc]
      have h3 : n * (1000 ^ l.length * 1000) = 1000 * (n * 1000 ^ l.length) := by rw [← Nat.mul_assoc, Nat.mul_comm]
      have h4 : 0 ≤ n * 1000 ^ l.length := Nat.zero_le _
      generalize n * 1000 ^ l.length = q at *
      generalize 1000 ^ l.length = p at *
      omega
  intro l
  have := key l 0 0 (Nat.le_refl _)
  have hp : 1 ≤ 1000 ^ l.length := Nat.one_le_pow _ _ (by omega)
  unfold numOf
  omega
theorem numOf_lt5 (l : List UInt8) (h : l.length ≤ 5) : numOf l ≤ 1000000000000000 := by
  have h1 := numOf_le l
  have h2 : 1000 ^ l.length ≤ 1000 ^ 5 := Nat.pow_le_pow_right (by omega) h
  have h3 : 1000 ^ 5 = 1000000000000000 := by decide
  omega
theorem take_num (l : List UInt8) (i : Nat) (h : i < l.length) : numOf (l.take (i + 1)) = 10 * numOf (l.take i) + ((l[i]).toNat - 48) := by
  rw [List.take_add_one, List.getElem?_eq_getElem h]
  exact numOf_snoc _ _
theorem numRead_loop (s : ByteArray) (h6 : s.data.toList.length ≤ 6) : ∀ e i, i + e = s.data.toList.length → Tot (fun k => impl_numberRead.l0 k s (numOf (s.data.toList.take i)) (s.data.toList.length : Int) i) (fun r => (∀ d ∈ s.data.toList, 48 ≤ d.toNat ∧ d.toNat ≤ 57) → r = ((numOf s.data.toList : Int), true))
  | 0, i, h => by
    refine Tot.succ ?_
    simp only [impl_numberRead.l0]
    refine Tot.neg (by omega) (Tot.ret (fun _ => ?_))
    rw [List.take_of_length_le (by omega)]
  | e + 1, i, h => by
    have hi : i < s.data.toList.length := by omega
    have hn := numOf_lt5 (s.data.toList.take i) (by rw [List.length_take]; omega)
    refine Tot.succ ?_
    simp only [impl_numberRead.l0]
    refine Tot.pos (by omega) (Tot.pos (by omega) (Tot.pos (by rw [ba_size]; omega) ?_))
    rw [bt_nat s i hi]
    have hm := List.getElem_mem hi
    refine Tot.ite (fun h48 => Tot.ret (fun hd => ?_)) (fun h48 => Tot.ite (fun h57 => Tot.ret (fun hd => ?_)) (fun h57 => ?_))
    · have := hd _ hm; omega
    · have := hd _ hm; omega
    have hd0 := (s.data.toList[i]).toNat_lt
    have ih := numRead_loop s h6 e (i + 1) (by omega)
    have he : wrap64 (wrap64 (10 * (numOf (s.data.toList.take i) : Int)) + ((((s.data.toList[i]).toNat : Int) - 48) % 256)) = (numOf (s.data.toList.take (i + 1)) : Int) := by
      rw [take_num _ _ hi, wr_id (x := 10 * (numOf (s.data.toList.take i) : Int)) (by omega) (by omega), wr_id (by omega) (by omega)]
      omega
    rw [he, wr_id (by omega) (by omega)]
    exact ih
theorem dec_head (n : Nat) (h0 : 0 < n) : (Lib.decDigits n).head? ≠ some 48 := by
  induction n using Nat.strongRecOn with
  | _ n ih =>
    rw [Lib.decDigits.eq_def]
    split
    · rename_i h
      intro e
      have := congrArg UInt8.toNat (Option.some.inj e)
      rw [dig_toNat n h] at this
      have h48 : (48 : UInt8).toNat = 48 := rfl
      omega
    · rename_i h
      have := ih (n / 10) (by omega) (by omega)
      cases hd : Lib.decDigits (n / 10) with
      | nil => have hp := Lib.nDigits_pos (n / 10); rw [← Lib.decDigits_length, hd] at hp; simp at hp
      | cons x l =>
        rw [hd] at this
        simpa using this
theorem itoa_le4 (n : Nat) (h : n ≤ 9999) : 1 ≤ (Lib.itoa (n : Int)).length ∧ (Lib.itoa (n : Int)).length ≤ 4 := by
  rw [Lib.itoa_nonneg, Lib.decDigits_length]
  refine ⟨Lib.nDigits_pos n, ?_⟩
  by_cases h1 : n < 10
  · rw [Lib.nDigits_small h1]; omega
  rw [Lib.nDigits_big h1]
  by_cases h2 : n / 10 < 10
  · rw [Lib.nDigits_small h2]; omega
  rw [Lib.nDigits_big h2]
  by_cases h3 : n / 10 / 10 < 10
  · rw [Lib.nDigits_small h3]; omega
  rw [Lib.nDigits_big h3, Lib.nDigits_small (by omega)]
  omega
theorem numRead_j0 (s : ByteArray) : Tot (fun k => impl_numberRead.j0 k s true) (fun r => r = (0, false)) := Tot.succ (by simp only [impl_numberRead.j0]; exact Tot.pos trivial (Tot.ret rfl))
theorem numRead_j1 (s : ByteArray) (h6 : s.data.toList.length ≤ 6) : Tot (fun k => impl_numberRead.j0 k s false) (fun r => ∀ n : Nat, s.data.toList = Lib.itoa (n : Int) → r = ((n : Int), true)) := by
  refine Tot.succ ?_
  simp only [impl_numberRead.j0]
  refine Tot.neg (by decide) ?_
  have := numRead_loop s h6 s.data.toList.length 0 (by omega)
  rw [ba_size]
  refine Tot.mono this ?_
  intro r hr n e
  have hd := hr (by rw [e]; exact itoa_dig n)
  rw [hd, e, Lib.itoa_nonneg, dec_num]
theorem numRead_tot (s : ByteArray) : Tot (fun k => impl_numberRead.f k s) (fun r => ∀ n : Nat, n ≤ 9999 → s.data.toList = Lib.itoa (n : Int) → r = ((n : Int), true)) := by
  unfold impl_numberRead.f
  have hsz := ba_size s
  refine Tot.ite (fun h0 => ?_) (fun h0 => Tot.ite (fun h6 => ?_) (fun h6 => ?_))
  · refine Tot.mono (numRead_j0 s) (fun r _ n hn e => ?_)
    rw [Lib.toList_data] at h0
    have := (itoa_le4 n hn).1
    rw [← e, h0] at this
    simp at this
  · refine Tot.mono (numRead_j0 s) (fun r _ n hn e => ?_)
    have := (itoa_le4 n hn).2
    rw [← e] at this
    omega
  · have hne : 0 < s.data.toList.length := by
      rw [Lib.toList_data] at h0
      exact List.length_pos_iff.2 h0
    refine Tot.pos (by omega) ?_
    have hj := numRead_j1 s (by omega)
    have hb := bt_nat s 0 hne
    refine Tot.ite (fun h48 => ?_) (fun h48 => Tot.mono hj (fun r hr n _ e => hr n e))
    by_cases h1 : (s.size : Int) > 1
    · rw [show decide ((s.size : Int) > 1) = true from decide_eq_true h1]
      refine Tot.mono (numRead_j0 s) (fun r _ n hn e => ?_)
      exfalso
      have hh : s.data.toList.head? = some 48 := by
        cases hl : s.data.toList with
        | nil => rw [hl] at hne; simp at hne
        | cons x l =>
          have hx : (bt s 0) = (x.toNat : Int) := by
            rw [show (0 : Int) = ((0 : Nat) : Int) from rfl, hb]
            simp [hl]
          rw [hx] at h48
          have : x = 48 := UInt8.toNat_inj.1 (by have h48' : (48 : UInt8).toNat = 48 := rfl; omega)
          rw [this]
          rfl
      rw [e, Lib.itoa_nonneg] at hh
      have hn0 : 0 < n := by
        rcases Nat.eq_zero_or_pos n with h | h
        · subst h
          have : s.data.toList.length = 1 := by rw [e, Lib.itoa_nonneg, Lib.decDigits_length, Lib.nDigits_small (by omega)]
          omega
        · exact h
      exact dec_head n hn0 hh
    · rw [show decide ((s.size : Int) > 1) = false from decide_eq_false h1]
      exact Tot.mono hj (fun r hr n _ e => hr n e)
/-- A text of digits alone is read as its number, by the reference. -/
theorem l7Num_loop (s : ByteArray) (h4 : s.data.toList.length ≤ 4) : ∀ e i, i + e = s.data.toList.length → Tot (fun k => spec_l7Num.l0 k s (numOf (s.data.toList.take i)) i) (fun r => ∀ n : Nat, s.data.toList = Lib.itoa (n : Int) → r = (n : Int))
  | 0, i, h => by
    have hn := numOf_lt5 s.data.toList (by omega)
    refine Tot.succ ?_
    simp only [spec_l7Num.l0]
    refine Tot.neg (by rw [ba_size]; omega) ?_
    rw [List.take_of_length_le (by omega)]
    refine Tot.bind (plainF_tot _ (by omega)) ?_
    rintro _ rfl
    refine Tot.ite (fun _ => Tot.ret (fun n e => ?_)) (fun hh => Tot.ret (fun n e => absurd ?_ hh))
    · rw [e, Lib.itoa_nonneg, dec_num]
    · rw [Lib.toList_data, Lib.toList_data, e]
      rw [show numOf (Lib.itoa (n : Int)) = n by rw [Lib.itoa_nonneg, dec_num]]
  | e + 1, i, h => by
    have hi : i < s.data.toList.length := by omega
    have hn := numOf_lt5 (s.data.toList.take i) (by rw [List.length_take]; omega)
    refine Tot.succ ?_
    simp only [spec_l7Num.l0]
    refine Tot.pos (by rw [ba_size]; omega) (Tot.pos (by omega) ?_)
    rw [bt_nat s i hi]
    have hm := List.getElem_mem hi
    refine Tot.ite (fun h48 => Tot.ret (fun n e => ?_)) (fun h48 => Tot.ite (fun h57 => Tot.ret (fun n e => ?_)) (fun h57 => ?_))
    · have := itoa_dig n _ (by rw [← e]; exact hm); omega
    · have := itoa_dig n _ (by rw [← e]; exact hm); omega
    have hd0 := (s.data.toList[i]).toNat_lt
    have ih := l7Num_loop s h4 e (i + 1) (by omega)
    have he : wrap64 (wrap64 ((numOf (s.data.toList.take i) : Int) * 10) + ((((s.data.toList[i]).toNat : Int) - 48) % 256)) = (numOf (s.data.toList.take (i + 1)) : Int) := by
      rw [take_num _ _ hi, wr_id (x := (numOf (s.data.toList.take i) : Int) * 10) (by omega) (by omega), wr_id (by omega) (by omega)]
      omega
    rw [he, wr_id (by omega) (by omega)]
    exact ih
theorem l7Num_tot (s : ByteArray) : Tot (fun k => spec_l7Num.f k s) (fun r => ∀ n : Nat, n ≤ 9999 → s.data.toList = Lib.itoa (n : Int) → r = (n : Int)) := by
  have hsz := ba_size s
  have t1 : Tot (fun k => spec_l7Num.j0 k s true) (fun r => True) := Tot.succ (by simp only [spec_l7Num.j0]; exact Tot.pos trivial (Tot.ret trivial))
  unfold spec_l7Num.f
  refine Tot.ite (fun h0 => Tot.mono t1 (fun r _ n hn e => ?_)) (fun h0 => ?_)
  · have := (itoa_le4 n hn).1
    rw [← e] at this
    omega
  · by_cases h4 : (s.size : Int) > 4
    · rw [show decide ((s.size : Int) > 4) = true from decide_eq_true h4]
      refine Tot.mono t1 (fun r _ n hn e => ?_)
      have := (itoa_le4 n hn).2
      rw [← e] at this
      omega
    · rw [show decide ((s.size : Int) > 4) = false from decide_eq_false h4]
      refine Tot.succ ?_
      simp only [spec_l7Num.j0]
      refine Tot.neg (by decide) ?_
      exact Tot.mono (l7Num_loop s (by omega) s.data.toList.length 0 (by omega)) (fun r hr n _ e => hr n e)
end Go.Proofs.YtfafjpfigphchaaDoor.X
namespace Go.Proofs.YtfafjpfigphchaaDoor.X
open Go.RowKit Go.Proofs.YtfafjpfigphchaaDoorW.PrintWords Go.Proofs.YtfafjpfigphchaaDoor.Pl
set_option linter.unusedSimpArgs false
set_option linter.unusedVariables false
abbrev OpR := Int × Int × Int × Int × Int × Bool
/-- What is read of a text is what has it. -/
def Said (s : ByteArray) (r : OpR) : Prop := ∃ o a b c d : Int, opOkB o a b c d = true ∧ opTextF o a b c d = s ∧ r = (o, a, b, c, d, true)
theorem opTextF_no {o a b c d : Int} (h : opOkB o a b c d = false) : opTextF o a b c d = ⟨#[]⟩ := by
  unfold opTextF; rw [if_neg (by rw [h]; decide)]
theorem opTextF_ne {o a b c d : Int} (h : opOkB o a b c d = true) : (opTextF o a b c d).data.toList ≠ [] := by
  obtain ⟨k, rfl, k1, k9, hn, _⟩ := opOk_rest h
  rw [opTextF_list h, Int.toNat_natCast]
  have hkk : k = 1 ∨ k = 2 ∨ k = 3 ∨ k = 4 ∨ k = 5 ∨ k = 6 ∨ k = 7 ∨ k = 8 := by omega
  rcases hkk with rfl | rfl | rfl | rfl | rfl | rfl | rfl | rfl <;> simp [opL, formW, formsL]
theorem implOk_tot (kd a b c d : Int) : Tot (fun k => impl_OpOk.f k kd a b c d) (fun t => t = opOkB kd a b c d) :=
  ⟨_, ⟨1, fun k hk => by obtain ⟨j, rfl⟩ : ∃ j, k = j + 1 := ⟨k - 1, by omega⟩; exact impl_OpOk_some j kd a b c d⟩, rfl⟩
theorem opEnd_tot (s : ByteArray) (kd a b c d : Int) : Tot (fun k => opEnd k s kd a b c d) (fun r => (opOkB kd a b c d = true ∧ opTextF kd a b c d = s ∧ r = (kd, a, b, c, d, true)) ∨ (¬ (opOkB kd a b c d = true ∧ opTextF kd a b c d = s) ∧ r = zR)) := by
  unfold opEnd
  refine Tot.bind (implOk_tot kd a b c d) ?_
  rintro _ rfl
  cases h : opOkB kd a b c d with
  | false => exact Tot.neg (by decide) (Tot.ret (.inr ⟨fun hh => absurd hh.1 (by decide), rfl⟩))
  | true =>
    refine Tot.pos rfl ?_
    refine Tot.bind (impl_OpText_tot _ _ _ _ _) ?_
    rintro _ rfl
    refine Tot.ite (fun he => Tot.ret (.inl ⟨rfl, toList_ba.1 he, rfl⟩)) (fun he => Tot.ret (.inr ⟨fun hh => he (toList_ba.2 hh.2), rfl⟩))
theorem scan_tot : ∀ (ps : List ByteArray) (fl : Bool), Tot (fun k => scanF k ps fl) (fun r => r.1.length = ps.length)
  | [], fl => by simp only [scanF]; exact Tot.ret rfl
  | p :: ps, fl => by
    simp only [scanF]
    refine Tot.bind (numRead_tot p) ?_
    intro r _
    refine Tot.bind (scan_tot ps (fl || !r.2)) ?_
    intro x hx
    exact Tot.ret (by simp [hx])
theorem scan_nums : ∀ ns : List Int, (∀ n ∈ ns, 0 ≤ n ∧ n ≤ 9999) → Tot (fun k => scanF k ((ns.map Lib.itoa).map baOf) false) (fun r => r = (ns, false))
  | [], _ => by simp only [List.map_nil, scanF]; exact Tot.ret rfl
  | n :: ns, h => by
    obtain ⟨h0, h1⟩ := h n (List.mem_cons_self ..)
    obtain ⟨m, rfl⟩ := Int.eq_ofNat_of_zero_le h0
    simp only [List.map_cons, scanF]
    refine Tot.bind (numRead_tot _) ?_
    intro r hr
    obtain rfl := hr m (by omega) rfl
    refine Tot.bind (scan_nums ns (fun x hx => h x (List.mem_cons_of_mem _ hx))) ?_
    rintro _ rfl
    exact Tot.ret rfl
theorem kind_word : ∀ k : Fin 9, 1 ≤ k.val → kindGo (formW k.val) 8 1 = ((k.val : Int), true) := by decide +kernel
theorem cut_len (s : ByteArray) : (Lib.cut s.data.toList [46]).2.1.length ≤ s.size := by
  rw [ba_size]
  rcases split_at (c := (46 : UInt8)) s.data.toList with h | ⟨a, b, e, h⟩
  · rw [cut_none h]; simp
  · rw [e, cut_app h]
    simp only [List.length_append, List.length_cons]
    omega
theorem implRead_sound (s : ByteArray) (hs : s.size ≤ 1048576) : Tot (fun k => impl_OpRead.f k s) (fun r => Said s r ∨ r = zR) := by
  have fin : ∀ kd a b c d : Int, Tot (fun k => opEnd k s kd a b c d) (fun r => Said s r ∨ r = zR) := fun kd a b c d => Tot.mono (opEnd_tot s kd a b c d) (fun r h => h.elim (fun h => .inl ⟨kd, a, b, c, d, h⟩) (fun h => .inr h.2))
  unfold impl_OpRead.f
  refine Tot.pos hs (Tot.ite (fun _ => Tot.ite (fun _ => Tot.pos ?_ ?_) (fun _ => fin _ _ _ _ _)) (fun _ => Tot.ret (.inr rfl)))
  · rw [List.size_toArray]; have := cut_len s; omega
  · refine Tot.bind (scan_tot _ _) ?_
    intro x _
    exact Tot.ite (fun _ => Tot.ret (.inr rfl)) (fun _ => Tot.ite (fun _ => Tot.ret (.inr rfl)) (fun _ => fin _ _ _ _ _))
/-- The numbers of an operation, and what its text looks like. -/
theorem op_form {o a b c d : Int} (h : opOkB o a b c d = true) : ∃ k : Nat, o = k ∧ 1 ≤ k ∧ k < 9 ∧ ∃ ns : List Int, (∀ n ∈ ns, 0 ≤ n ∧ n ≤ 255) ∧ ns.length ≤ 4 ∧ [a, b, c, d] = pad4 ns ∧ (opTextF o a b c d).data.toList = opL (formW k).data.toList ns := by
  obtain ⟨k, rfl, k1, k9, hn, hr⟩ := opOk_rest h
  refine ⟨k, rfl, k1, k9, [a, b, c, d].take (formN k), fun n hm => hn n (List.mem_of_mem_take hm), by simp; omega, ?_, opTextF_list h⟩
  have h4 := formN_le k k9
  have hl : ([a, b, c, d].take (formN k)).length = formN k := by rw [List.length_take]; simp; omega
  unfold pad4
  rw [hl]
  exact hr
theorem pad4_get {a b c d : Int} {ns : List Int} (h : [a, b, c, d] = pad4 ns) : (pad4 ns).getD 0 0 = a ∧ (pad4 ns).getD 1 0 = b ∧ (pad4 ns).getD 2 0 = c ∧ (pad4 ns).getD 3 0 = d := by
  rw [← h]
  exact ⟨rfl, rfl, rfl, rfl⟩
theorem end_ok {s : ByteArray} {o a b c d : Int} (h : opOkB o a b c d = true) (e : opTextF o a b c d = s) : Tot (fun k => opEnd k s o a b c d) (fun r => r = (o, a, b, c, d, true)) :=
  Tot.mono (opEnd_tot s o a b c d) (fun r h2 => h2.elim (fun x => x.2.2) (fun x => absurd ⟨h, e⟩ x.1))
theorem implRead_complete (s : ByteArray) (hs : s.size ≤ 1048576) {o a b c d : Int} (h : opOkB o a b c d = true) (e : opTextF o a b c d = s) : Tot (fun k => impl_OpRead.f k s) (fun r => r = (o, a, b, c, d, true)) := by
  obtain ⟨k, rfl, k1, k9, ns, hns, hl, hp, ht⟩ := op_form h
  rw [e] at ht
  have hw := formW_no (c := 46) (by decide) k k9
  have hkd := kind_word ⟨k, k9⟩ k1
  dsimp only at hkd
  have hrs := cut_len s
  unfold impl_OpRead.f
  refine Tot.pos hs ?_
  cases ns with
  | nil =>
    have hc : Lib.cut s.data.toList [46] = ((formW k).data.toList, [], false) := by
      rw [ht]
      have : opL (formW k).data.toList [] = (formW k).data.toList := by simp [opL]
      rw [this]
      exact cut_none hw
    rw [hc]
    dsimp only
    rw [show (⟨(formW k).data.toList.toArray⟩ : ByteArray) = formW k from baOf_self _, hkd]
    refine Tot.pos rfl (Tot.neg (by decide) ?_)
    have e4 := pad4_get hp
    obtain ⟨rfl, rfl, rfl, rfl⟩ : a = 0 ∧ b = 0 ∧ c = 0 ∧ d = 0 := ⟨e4.1.symm, e4.2.1.symm, e4.2.2.1.symm, e4.2.2.2.symm⟩
    exact end_ok h e
  | cons n ms =>
    have hc : Lib.cut s.data.toList [46] = ((formW k).data.toList, Lib.itoa n ++ ms.flatMap (fun n => 46 :: Lib.itoa n), true) := by
      rw [ht]
      have : opL (formW k).data.toList (n :: ms) = (formW k).data.toList ++ 46 :: (Lib.itoa n ++ ms.flatMap (fun n => 46 :: Lib.itoa n)) := by simp [opL]
      rw [this]
      exact cut_app hw
    have hpr : parts 46 (Lib.itoa n ++ ms.flatMap (fun n => 46 :: Lib.itoa n)) = (n :: ms).map Lib.itoa := by
      obtain ⟨m, rfl⟩ := Int.eq_ofNat_of_zero_le (hns n (List.mem_cons_self ..)).1
      exact parts_opL (Lib.itoa (m : Int)) (itoa_no (by decide) m) ms (fun x hx => (hns x (List.mem_cons_of_mem _ hx)).1)
    rw [hc] at hrs ⊢
    dsimp only at hrs ⊢
    rw [show (⟨(formW k).data.toList.toArray⟩ : ByteArray) = formW k from baOf_self _, hkd]
    refine Tot.pos rfl (Tot.pos rfl (Tot.pos (by rw [List.size_toArray]; omega) ?_))
    rw [partsB_parts]
    show Tot (fun k_1 => (scanF k_1 ((parts 46 (Lib.itoa n ++ ms.flatMap (fun n => 46 :: Lib.itoa n))).map baOf) false).bind _) _
    rw [hpr]
    refine Tot.bind (scan_nums (n :: ms) (fun x hx => by have := hns x hx; omega)) ?_
    rintro _ rfl
    refine Tot.neg (fun hh => Bool.false_ne_true hh) (Tot.neg (by dsimp only; omega) ?_)
    dsimp only
    obtain ⟨g0, g1, g2, g3⟩ := pad4_get hp
    rw [g0, g1, g2, g3]
    exact end_ok h e
theorem implRead_tot (s : ByteArray) (hs : s.size ≤ 1048576) : Tot (fun k => impl_OpRead.f k s) (fun r => Said s r ∨ ((∀ r, ¬ Said s r) ∧ r = zR)) := by
  by_cases hx : ∃ r, Said s r
  · obtain ⟨_, o, a, b, c, d, h, e, rfl⟩ := hx
    exact Tot.mono (implRead_complete s hs h e) (fun r hr => .inl ⟨o, a, b, c, d, h, e, hr⟩)
  · exact Tot.mono (implRead_sound s hs) (fun r hr => hr.elim .inl (fun hz => .inr ⟨fun r h => hx ⟨r, h⟩, hz⟩))
/-! ### The reference -/
theorem specL1_tot (s : ByteArray) (a b c d : Int) : ∀ e i : Nat, i + e = 9 → 1 ≤ i → Tot (fun k => spec_OpRead.l1 k s [a, b, c, d] i) (fun r => (∃ o : Nat, i ≤ o ∧ opOkB o a b c d = true ∧ opTextF o a b c d = s ∧ r = ((o : Int), a, b, c, d, true)) ∨ ((∀ o : Nat, i ≤ o → o ≤ 8 → ¬ (opOkB o a b c d = true ∧ opTextF o a b c d = s)) ∧ r = zR))
  | 0, i, h, h1 => by
    refine Tot.succ ?_
    simp only [spec_OpRead.l1]
    exact Tot.neg (by omega) (Tot.ret (.inr ⟨fun o h1 h2 => absurd h1 (by omega), rfl⟩))
  | e + 1, i, h, h1 => by
    have ih := specL1_tot s a b c d e (i + 1) (by omega) (by omega)
    have next : ¬ (opOkB (i : Int) a b c d = true ∧ opTextF (i : Int) a b c d = s) → Tot (fun k => spec_OpRead.l1 k s [a, b, c, d] (wrap64 ((i : Int) + 1))) (fun r => (∃ o : Nat, i ≤ o ∧ opOkB o a b c d = true ∧ opTextF o a b c d = s ∧ r = ((o : Int), a, b, c, d, true)) ∨ ((∀ o : Nat, i ≤ o → o ≤ 8 → ¬ (opOkB o a b c d = true ∧ opTextF o a b c d = s)) ∧ r = zR)) := by
      intro hno
      rw [wr_id (by omega) (by omega)]
      refine Tot.mono ih (fun r hr => hr.elim (fun ⟨o, h1, h2⟩ => .inl ⟨o, by omega, h2⟩) (fun ⟨h1, h2⟩ => .inr ⟨fun o ho h8 => ?_, h2⟩))
      by_cases hoi : o = i
      · subst hoi; exact hno
      · exact h1 o (by omega) h8
    refine Tot.succ ?_
    simp only [spec_OpRead.l1]
    refine Tot.pos (by omega) (Tot.pos (by simp) (Tot.pos (by simp) (Tot.pos (by simp) (Tot.pos (by simp) ?_))))
    rw [show rd [a, b, c, d] 0 = a from rfl, show rd [a, b, c, d] 1 = b from rfl, show rd [a, b, c, d] 2 = c from rfl, show rd [a, b, c, d] 3 = d from rfl]
    refine Tot.bind (spec_OpText_tot _ _ _ _ _) ?_
    rintro _ rfl
    refine Tot.ite (fun he => ?_) (fun he => next (fun hh => he (toList_ba.2 hh.2)))
    have he2 := toList_ba.1 he
    refine Tot.ite (fun h0 => next (fun hh => ?_)) (fun h0 => Tot.ret (.inl ⟨i, Nat.le_refl _, ?_, he2, rfl⟩))
    · rw [Lib.toList_data] at h0
      exact opTextF_ne hh.1 (by rw [hh.2, h0])
    · cases hk : opOkB (i : Int) a b c d with
      | true => rfl
      | false =>
        rw [opTextF_no hk] at he2
        rw [← he2] at h0
        exact absurd (by rw [Lib.toList_data]) h0
theorem specJ1_tot (s : ByteArray) (a b c d : Int) : Tot (fun k => spec_OpRead.j1 k s [a, b, c, d]) (fun r => (∃ o : Nat, 1 ≤ o ∧ opOkB o a b c d = true ∧ opTextF o a b c d = s ∧ r = ((o : Int), a, b, c, d, true)) ∨ ((∀ o : Nat, 1 ≤ o → o ≤ 8 → ¬ (opOkB o a b c d = true ∧ opTextF o a b c d = s)) ∧ r = zR)) := by
  refine Tot.succ ?_
  simp only [spec_OpRead.j1]
  exact specL1_tot s a b c d 8 1 (by omega) (by omega)
theorem four {l : List Int} (h : l.length = 4) : ∃ a b c d, l = [a, b, c, d] := by
  match l, h with
  | [a, b, c, d], _ => exact ⟨a, b, c, d, rfl⟩
theorem specL0_sound (s : ByteArray) (ps : List ByteArray) (hps : ps.length ≤ 1048577) : ∀ e i : Nat, i + e = 5 → 1 ≤ i → ∀ all : List Int, all.length = 4 → Tot (fun k => spec_OpRead.l0 k s ps all i) (fun r => Said s r ∨ r = zR)
  | e, i, h, h1, all, h4 => by
    have fin : Tot (fun k => spec_OpRead.j1 k s all) (fun r => Said s r ∨ r = zR) := by
      obtain ⟨a, b, c, d, rfl⟩ := four h4
      exact Tot.mono (specJ1_tot s a b c d) (fun r hr => hr.elim (fun ⟨o, _, h2⟩ => .inl ⟨o, a, b, c, d, h2⟩) (fun hz => .inr hz.2))
    refine Tot.succ ?_
    simp only [spec_OpRead.l0]
    refine Tot.ite (fun hi => Tot.ite (fun h5 => ?_) (fun h5 => fin)) (fun hi => fin)
    obtain ⟨e, rfl⟩ : ∃ e', e = e' + 1 := ⟨e - 1, by omega⟩
    refine Tot.pos (by omega) ?_
    refine Tot.bind (l7Num_tot _) ?_
    intro v _
    rw [wr_id (x := (i : Int) - 1) (by omega) (by omega), wr_id (by omega) (by omega)]
    exact Tot.pos (by omega) (Tot.pos (by rw [h4]; omega) (specL0_sound s ps hps e (i + 1) (by omega) (by omega) _ (by rw [List.length_set]; exact h4)))
theorem pad_set (ns : List Int) (j : Nat) (h : j < ns.length) (h4 : ns.length ≤ 4) : ((ns.take j ++ List.replicate (4 - j) 0).set j (ns.getD j 0)) = ns.take (j + 1) ++ List.replicate (4 - (j + 1)) 0 := by
  have hl : (ns.take j).length = j := by rw [List.length_take]; omega
  rw [List.set_append_right _ _ (by omega), hl, Nat.sub_self, show 4 - j = (4 - (j + 1)) + 1 by omega, List.replicate_succ, List.set_cons_zero, List.take_add_one, List.getElem?_eq_getElem h, List.append_assoc]
  simp [List.getD_eq_getElem?_getD, h]
theorem specL0_nums (s W : ByteArray) (ns : List Int) (hns : ∀ n ∈ ns, 0 ≤ n ∧ n ≤ 255) (h4 : ns.length ≤ 4) {P : OpR → Prop} (fin : Tot (fun k => spec_OpRead.j1 k s (pad4 ns)) P) : ∀ e j : Nat, j + e = ns.length → Tot (fun k => spec_OpRead.l0 k s (W :: (ns.map Lib.itoa).map baOf) (ns.take j ++ List.replicate (4 - j) 0) ((j : Int) + 1)) P
  | 0, j, h => by
    refine Tot.succ ?_
    simp only [spec_OpRead.l0]
    refine Tot.neg (by simp; omega) ?_
    rw [List.take_of_length_le (by omega), show j = ns.length by omega]
    exact fin
  | e + 1, j, h => by
    have hj : j < ns.length := by omega
    obtain ⟨h0, h255⟩ := hns _ (List.getElem_mem hj)
    obtain ⟨m, hm⟩ := Int.eq_ofNat_of_zero_le h0
    have ih := specL0_nums s W ns hns h4 fin e (j + 1) (by omega)
    have hr : rdOf ByteArray.empty (W :: (ns.map Lib.itoa).map baOf) ((j : Int) + 1) = baOf (Lib.itoa (m : Int)) := by
      rw [← hm]
      have : ((j : Int) + 1).toNat = j + 1 := by omega
      unfold rdOf
      rw [this]
      simp [List.getD_eq_getElem?_getD, hj]
    refine Tot.succ ?_
    simp only [spec_OpRead.l0]
    refine Tot.pos (by simp; omega) (Tot.pos (by omega) (Tot.pos (by omega) ?_))
    rw [hr]
    refine Tot.bind (l7Num_tot _) ?_
    intro v hv
    obtain rfl := hv m (by omega) rfl
    rw [wr_id (x := (j : Int) + 1 - 1) (by omega) (by omega), wr_id (by omega) (by omega)]
    refine Tot.pos (by omega) (Tot.pos ?_ ?_)
    · rw [List.length_append, List.length_take, List.length_replicate]; omega
    · have hs := pad_set ns j hj h4
      have hg : ns.getD j 0 = (m : Int) := by rw [← hm]; simp [List.getD_eq_getElem?_getD, hj]
      rw [hg] at hs
      rw [show ((j : Int) + 1 - 1).toNat = j by omega, hs]
      exact ih
theorem specRead_sound (s : ByteArray) (hs : s.size ≤ 1048576) : Tot (fun k => spec_OpRead.f k s) (fun r => Said s r ∨ r = zR) := by
  unfold spec_OpRead.f
  refine Tot.bind (l7Cut_tot s 46 hs) ?_
  rintro _ rfl
  have hl := (parts_len (c := 46) s.data.toList).1
  rw [← ba_size] at hl
  exact specL0_sound s _ (by rw [List.length_map]; omega) 4 1 (by omega) (by omega) _ rfl
theorem specRead_complete (s : ByteArray) (hs : s.size ≤ 1048576) {o a b c d : Int} (h : opOkB o a b c d = true) (e : opTextF o a b c d = s) : Tot (fun k => spec_OpRead.f k s) (fun r => r = (o, a, b, c, d, true)) := by
  obtain ⟨k, rfl, k1, k9, ns, hns, hl, hp, ht⟩ := op_form h
  rw [e] at ht
  have hpr := parts_opL _ (formW_no (c := 46) (by decide) k k9) ns (fun x hx => (hns x hx).1)
  unfold spec_OpRead.f
  refine Tot.bind (l7Cut_tot s 46 hs) ?_
  rintro _ rfl
  rw [ht, hpr]
  refine specL0_nums s _ ns hns hl ?_ ns.length 0 (by omega)
  rw [← hp]
  refine Tot.mono (specJ1_tot s a b c d) (fun r hr => ?_)
  rcases hr with ⟨o', _, h2, h3, h4⟩ | ⟨h1, _⟩
  · obtain ⟨e0, _⟩ := opTextF_inj h h2 (e.trans h3.symm)
    rw [h4, e0]
  · exact absurd ⟨h, e⟩ (h1 k k1 (by omega))
theorem specRead_tot (s : ByteArray) (hs : s.size ≤ 1048576) : Tot (fun k => spec_OpRead.f k s) (fun r => Said s r ∨ ((∀ r, ¬ Said s r) ∧ r = zR)) := by
  by_cases hx : ∃ r, Said s r
  · obtain ⟨_, o, a, b, c, d, h, e, rfl⟩ := hx
    exact Tot.mono (specRead_complete s hs h e) (fun r hr => .inl ⟨o, a, b, c, d, h, e, hr⟩)
  · exact Tot.mono (specRead_sound s hs) (fun r hr => hr.elim .inl (fun hz => .inr ⟨fun r h => hx ⟨r, h⟩, hz⟩))
theorem said_one {s : ByteArray} {r r' : OpR} (h : Said s r) (h' : Said s r') : r = r' := by
  obtain ⟨o, a, b, c, d, h1, h2, rfl⟩ := h
  obtain ⟨o', a', b', c', d', h1', h2', rfl⟩ := h'
  obtain ⟨rfl, rfl, rfl, rfl, rfl⟩ := opTextF_inj h1 h1' (h2.trans h2'.symm)
  rfl
theorem reads_same {s : ByteArray} {r r' : OpR} (h : Said s r ∨ ((∀ r, ¬ Said s r) ∧ r = zR)) (h' : Said s r' ∨ ((∀ r, ¬ Said s r) ∧ r' = zR)) : r = r' := by
  rcases h with h | ⟨h, rfl⟩ <;> rcases h' with h' | ⟨h', rfl⟩
  · exact said_one h h'
  · exact absurd h (h' _)
  · exact absurd h' (h _)
  · rfl
end Go.Proofs.YtfafjpfigphchaaDoor.X
namespace Go.Proofs.YtfafjpfigphchaaDoor.Pure
open Go.RowKit Go.Proofs.YtfafjpfigphchaaDoorW.PrintWords Go.Proofs.YtfafjpfigphchaaDoor.Pl Go.Proofs.YtfafjpfigphchaaDoor.X
set_option linter.unusedVariables false
set_option linter.unusedSimpArgs false
theorem eqOp_same (a b c d e : Int) : laws_eqOpOp.f a b c d e a b c d e = some true := by simp [laws_eqOpOp.f]
theorem FnExactOpRead : laws_FnExactOpRead.Pure := by
  intro s hs
  refine Tot.rounds ?_
  unfold laws_FnExactOpRead.f
  refine Tot.ite (fun _ => Tot.ret rfl) (fun hn => ?_)
  have h1 : s.size ≤ 1048576 := by omega
  refine Tot.bind (specRead_tot s h1) ?_
  intro r hr
  refine Tot.bind (implRead_tot s h1) ?_
  intro r' hr'
  obtain rfl := reads_same hr hr'
  refine Tot.bind (Tot.of_eq (eqOp_same _ _ _ _ _)) ?_; rintro _ rfl
  refine Tot.pos rfl (Tot.neg (by simp) (Tot.ret rfl))
end Go.Proofs.YtfafjpfigphchaaDoor.Pure
namespace Go.Proofs.YtfafjpfigphchaaDoor.X
set_option linter.unusedVariables false
variable {H : Type} {enc : TypeId × Value → H}
theorem returnsBoth {a : Assume} {C : Checked} {os : Os} {f : FuncId} {fn : Func} {s : ChangeSpec} {conds : List PathCond} {apart fresh handsOn again : Bool} {X : World → Array Value → Prop}
    (hX : ∀ (w w' : World) (args : Array Value), w.heap = w'.heap → X w args → X w' args)
    (own : ownKnob C.prog.godebug = none) (started : os.Started) (noInit : C.prog.inits.idxOf? f = none) (hfn : C.prog.funcs[f]? = some fn)
    (witness : ∃ (w : World) (tape : Tape) (i : Input), w.os = os ∧ (w.forCall tape i).Shaped C.prog ∧ i.vars = [] ∧ Input.okWide C.prog (w.forCall tape i) .any w.heap.size f i ∧
      ((s.pre enc C.prog fn conds apart (w.forCall tape i).memory i.args ∧ X (w.forCall tape i).memory i.args) ∧ sizedMet enc C.prog fn (OpenSpec.ofChange s) apart (w.forCall tape i).memory i.args) ∧ a.holds C.prog (lone (Frame.enter C.prog f i.args .normal) [] (w.forCall tape i)))
    (contract : ∀ (W : World) (base : Nat) (args : Array Value) (ds gs : List (DataW H)) (before : List MemPlace),
      (∀ (j : Nat) t v, fn.params[j]? = some t → args[j]? = some v → Value.okWide C.prog W .any base t v) →
      DataW.Whole enc C.prog fn.params.toList s.vars apart W args.toList ds gs before →
      conds.all (PathCond.test C.prog ⟨fn.params.toList, ds, s.plain.varTypes C.prog, gs⟩) = true →
      (DataW.weightsEach C.prog (fn.params.toList ++ s.plain.varTypes C.prog) (ds ++ gs)).all (· ≤ reachBytes) = true → X W args ∧ W.ShapedOpen C.prog →
      a.holds C.prog (lone (Frame.enter C.prog f args .normal) [] W) →
      Calls C.prog f args W fun e W' => ∃ v, e = .returned v ∧ s.post enc C.prog fn apart fresh handsOn again W args v W') :
    ReturnsInHanded a C os f .any (fun w args => (s.pre enc C.prog fn conds apart w args ∧ X w args) ∧ sizedMet enc C.prog fn (OpenSpec.ofChange s) apart w args) (s.post enc C.prog fn apart fresh handsOn again) := by
  refine returnsInHanded_of_calls own started noInit witness ?_
  intro w tape i _ hsh _ hok hpre hholds
  obtain ⟨_, _, _, fn', hfn', _, _, _, _, hval⟩ := hok
  have e : fn' = fn := Option.some.inj (hfn'.symm.trans hfn)
  subst e
  obtain ⟨⟨⟨ds, gs, before, hw, hc⟩, hx⟩, hz⟩ := hpre
  have hw' := DataW.Whole.of_heap (w' := w.forCall tape i) (by rfl) hw
  refine (contract (w.forCall tape i) w.heap.size i.args ds gs before hval hw' hc (hz.weights hw) ⟨hX _ _ _ (by rfl) hx, hsh⟩ hholds).mono fun e W' ⟨v, he, hp⟩ => ?_
  subst he
  exact ChangeSpec.post_blind hp
end Go.Proofs.YtfafjpfigphchaaDoor.X
namespace Go.Proofs.YtfafjpfigphchaaDoor.X
set_option linter.unusedVariables false
set_option linter.unusedSimpArgs false
set_option linter.unusedSectionVars false
open Go.ChangeShapes Go.WideShapes Go.ChangeAt Go.WideMaps Go.WideElems Go.RowKit Go.Proofs.YtfafjpfigphchaaDoorW.PrintWords
abbrev laid6 : List (String × DataW Unit) := [("math/bits.deBruijn32tab", Rows.laid_math_bits_deBruijn32tab), ("math/bits.deBruijn64tab", Rows.laid_math_bits_deBruijn64tab), ("internal/strconv.uint64pow10", Rows.laid_internal_strconv_uint64pow10), ("unicode/utf8.acceptRanges", Rows.laid_unicode_utf8_acceptRanges), ("loop.example/easel/impl.opForms", Rows.laid_loop_example_easel_impl_opForms), ("unicode/utf8.first", Rows.laid_unicode_utf8_first)]
abbrev laid2 : List (String × DataW Unit) := [("internal/strconv.uint64pow10", Rows.laid_internal_strconv_uint64pow10), ("loop.example/easel/impl.opForms", Rows.laid_loop_example_easel_impl_opForms)]
set_option maxRecDepth 100000 in
theorem door_met (os : Os) (args : Array Value) : laidMetH Tryd.prog laid6 ((World.laidAll Tryd.prog os laid6).forCall (fun _ _ => 0) ⟨#[], args, []⟩).memory := by
  rw [MakeChecks.laidMetH_plain _ _ _ (by kernel_rfl)]
  exact laidMet_laidAll _ (by kernel_rfl) (by kernel_rfl)
theorem gF : Tryd.prog.globalNamed "loop.example/easel/impl.opForms" = some 0 := by kernel_rfl
theorem tF : (Tryd.prog.globals[0]?).map (·.type) = some 65 := by kernel_rfl
theorem tP : (Tryd.prog.globals[2]?).map (·.type) = some 127 := by kernel_rfl
theorem blk_of_var {w : World} {name : String} {g : Nat} {cs : Array Value} (hg : Tryd.prog.globalNamed name = some g) (h : w.var? Tryd.prog name = some cs) : ∃ t fr, w.heap[g]? = some (.cells cs t fr) := by
  unfold World.var? at h
  rw [hg] at h
  simp only [Option.bind_some] at h
  split at h
  · rename_i cs' t fr hh
    obtain rfl := Option.some.inj h
    exact ⟨t, fr, hh⟩
  · cases h
variable {H : Type} {enc : TypeId × Value → H} {P : Program} {w : World} {base : Nat} {sp : Nat → Bool} {held : Bool}
/-- The cells of an array whose elements' cells are told by their data. -/
theorem cells_of_rows {fuel : Nat} {t e : TypeId} {n : Nat} {cs : List Value} {p : List MemPlace} {ds : List (DataW H)} (L : List (List Value))
    (ht : P.underlying t = some (.array n e)) (hct : P.cellsOf t = n * P.cellsOf e) (hL : ∀ (i : Nat) (l : List Value), L[i]? = some l → l.length = P.cellsOf e) (hn : L.length = n)
    (he : ∀ (i : Nat) (m : Nat) (d : DataW H) (l c : List Value) (q : List MemPlace), ds[i]? = some d → L[i]? = some l → DataW.trod enc P w base sp held m e c = some (d, q) → c = l)
    (h : DataW.trod enc P w base sp held fuel t cs = some (.agg ds, p)) : cs = L.flatten := by
  obtain ⟨xs, m, rfl, hx, hl, hlen, hf⟩ := DataW.trod_array ht h
  obtain ⟨hd, -⟩ := Prod.mk.inj hx
  have hds : ds = xs.map (·.1) := by injection hd
  have key : ∀ (i : Nat) (l : List Value), L[i]? = some l → (cs.drop (i * P.cellsOf e)).take (P.cellsOf e) = l := by
    intro i l hi
    have hin : i < n := by have := (List.getElem?_eq_some_iff.1 hi).1; omega
    have h1 := hf i hin
    have hix : i < xs.length := by omega
    rw [List.getElem?_eq_getElem hix] at h1
    refine he i m (xs[i]).1 l _ (xs[i]).2 ?_ hi h1
    rw [hds, List.getElem?_map, List.getElem?_eq_getElem hix]
    rfl
  have gen : ∀ (L : List (List Value)) (cs : List Value), (∀ (i : Nat) (l : List Value), L[i]? = some l → (cs.drop (i * P.cellsOf e)).take (P.cellsOf e) = l) → cs.length = L.length * P.cellsOf e → cs = L.flatten := by
    intro L
    induction L with
    | nil => intro cs _ h; simp at h; simp [h]
    | cons a L ih =>
      intro cs hk hlen
      have h0 := hk 0 a rfl
      rw [Nat.zero_mul, List.drop_zero] at h0
      rw [List.length_cons, Nat.add_mul, Nat.one_mul] at hlen
      have h1 := ih (cs.drop (P.cellsOf e)) (fun i l hi => by
        rw [List.drop_drop, show P.cellsOf e + i * P.cellsOf e = (i + 1) * P.cellsOf e by rw [Nat.add_mul]; omega]
        exact hk (i + 1) l (by simpa using hi)) (by rw [List.length_drop]; omega)
      rw [List.flatten_cons, ← h1, ← h0, List.take_append_drop]
  exact gen L cs key (by rw [hl, hct, hn])
set_option maxRecDepth 100000 in
theorem form_cells {m : Nat} {c : List Value} {s : List UInt8} {n : Int} {q : List MemPlace} (h : DataW.trod enc Tryd.prog w base sp held m 64 c = some (.agg [.lit (.string s), .lit (.int .i64 n)], q)) : c = [.string ⟨s.toArray⟩, .int .i64 n] := by
  obtain ⟨y0, y1, k, hx, hl, h0, h1⟩ := trod_struct2 Tryd.underlying64 h
  have hx := (Prod.mk.inj hx).1
  injection hx with hx
  injection hx with e0 hx
  injection hx with e1 _
  obtain ⟨s', hc0, rfl, _⟩ := DataW.trod_string Tryd.underlying9 h0
  obtain ⟨n', hc1, rfl, _⟩ := DataW.trod_int Tryd.underlying3 h1
  injection e0 with e0; injection e0 with e0
  injection e1 with e1; injection e1 with _ e1
  have hl2 : c.length = 2 := hl.trans (by kernel_rfl)
  match c, hl2 with
  | [a, b], _ =>
    have ha : [a] = [Value.string s'] := hc0
    have hb : [b] = [Value.int .i64 n'] := hc1
    cases ha; cases hb
    subst e1
    rw [e0]
set_option maxRecDepth 100000 in
theorem glob_of {W : World} (hh : laidMetH Tryd.prog laid6 W ∧ W.ShapedOpen Tryd.prog) : Glob W := by
  obtain ⟨h, hsh⟩ := hh
  have h := laidMetH.filter (fun x => x.1 == "internal/strconv.uint64pow10" || x.1 == "loop.example/easel/impl.opForms") h
  rw [show laid6.filter (fun x => x.1 == "internal/strconv.uint64pow10" || x.1 == "loop.example/easel/impl.opForms") = laid2 from rfl] at h
  rw [MakeChecks.laidMetH_plain _ _ _ (by kernel_rfl)] at h
  have hmax := cell_of_shapedOpen_int (P := Tryd.prog) (g := 1) (t := 3) (zero := #[.int .i64 0]) hsh (of_decide_eq_true (by kernel_rfl)) (by kernel_rfl) rfl (by kernel_rfl) (by kernel_rfl) Tryd.underlying3
  obtain ⟨ps, ⟨g2, t2, cs2, f2, p2, q2, hg2, ht2, hv2, hd2, ⟨g3, t3, cs3, f3, p3, q3, hg3, ht3, hv3, hd3, _⟩, _⟩, _, _⟩ := h
  obtain rfl := Option.some.inj (gPow.symm.trans hg2)
  obtain rfl := Option.some.inj (gF.symm.trans hg3)
  obtain rfl := Option.some.inj (tP.symm.trans ht2)
  obtain rfl := Option.some.inj (tF.symm.trans ht3)
  have e2 := Lib.cells_of_tab (zs := Lib.pow10Tab) (k := .u64) Tryd.underlying127 Tryd.underlying112 (by kernel_rfl) (by kernel_rfl) hd2
  obtain ⟨t, fr, hh⟩ := blk_of_var gF hv3
  obtain ⟨t', fr', hh'⟩ := blk_of_var gPow hv2
  have e3 := cells_of_rows [[.string ⟨#[]⟩, .int .i64 0], [.string ⟨#[99, 114, 111, 112]⟩, .int .i64 4], [.string ⟨#[102, 108, 105, 112, 120]⟩, .int .i64 0], [.string ⟨#[102, 108, 105, 112, 121]⟩, .int .i64 0], [.string ⟨#[116, 117, 114, 110]⟩, .int .i64 0], [.string ⟨#[103, 114, 97, 121]⟩, .int .i64 0], [.string ⟨#[98, 108, 117, 114]⟩, .int .i64 0], [.string ⟨#[115, 105, 122, 101]⟩, .int .i64 2], [.string ⟨#[102, 108, 97, 116]⟩, .int .i64 3]] Tryd.underlying65 (by kernel_rfl)
    (fun i l hi => by
      have hm := List.mem_of_getElem? hi
      have : l.length = 2 := by simp only [List.mem_cons, List.not_mem_nil, or_false] at hm; rcases hm with rfl | rfl | rfl | rfl | rfl | rfl | rfl | rfl | rfl <;> rfl
      exact this.trans (by kernel_rfl)) rfl
    (fun i m d l c q hd hl hc => by
      match i, hd, hl with
      | 0, hd, hl => cases hd; cases hl; exact form_cells hc
      | 1, hd, hl => cases hd; cases hl; exact form_cells hc
      | 2, hd, hl => cases hd; cases hl; exact form_cells hc
      | 3, hd, hl => cases hd; cases hl; exact form_cells hc
      | 4, hd, hl => cases hd; cases hl; exact form_cells hc
      | 5, hd, hl => cases hd; cases hl; exact form_cells hc
      | 6, hd, hl => cases hd; cases hl; exact form_cells hc
      | 7, hd, hl => cases hd; cases hl; exact form_cells hc
      | 8, hd, hl => cases hd; cases hl; exact form_cells hc
      | _ + 9, hd, _ => cases hd) hd3
  refine ⟨⟨t, fr, ?_⟩, ⟨t', fr', ?_⟩, hmax⟩
  · rw [hh]; congr 2; rw [← Array.toArray_toList (xs := cs3), e3]; rfl
  · rw [hh']; congr 2; rw [← e2]
theorem vars1 {n1 : String} : ∀ {gs : List (DataW H)} {q : List MemPlace}, DataW.TrodVars enc Tryd.prog w sp [n1] gs q → ∃ g1, gs = [g1]
  | [], _, h => h.elim
  | [a], _, _ => ⟨a, rfl⟩
  | _ :: _ :: _, _, h => by obtain ⟨_, _, _, _, _, _, _, _, _, _, h, _⟩ := h; exact h.elim
end Go.Proofs.YtfafjpfigphchaaDoor.X
