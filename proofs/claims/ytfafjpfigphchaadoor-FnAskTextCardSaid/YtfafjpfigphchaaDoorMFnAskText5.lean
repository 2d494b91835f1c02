/- Lemmas and contracts for the law FnAskText, part 5: of the program's functions, and over data alone. Conditions: the listed package-level variables begin as the program's text lays them (tied by the card). -/
import Derived.Test.YtfafjpfigphchaaDoorMFnAskText1
import Derived.Shelf.Strings.Builder1
import Derived.Shelf.Strings.Builder2
import Derived.Shelf.Strings.OnBuilder
import Derived.Shelf.Strings.BuilderF
import Derived.Shelf.Strings.BuilderK
import Derived.Shelf.Strings.Builder2Cap
import Derived.Shelf.Strconv.Itoa0
import Derived.Shelf.Strconv.Itoa1
import Derived.Shelf.LaysM
import Derived.Shelf.Strconv.Itoa2
import Derived.Shelf.Strconv.Itoa3
import Derived.Shelf.Strings.Search1
import Derived.Shelf.Strings.Search2
import Derived.Shelf.Strings.Search3
import Derived.Shelf.Strings.Cut
import Derived.Shelf.Strings.Count
import Derived.Shelf.Strings.Shaped
import Derived.Shelf.Strings.Prefix
import Derived.Shelf.Strings.Split
import Derived.Shelf.Strings.SplitShaped
import Derived.Shelf.Unicode.DecodeSlow
import Derived.Shelf.Strings.BuilderCap
import Derived.Test.YtfafjpfigphchaaDoorProg
import Derived.Test.YtfafjpfigphchaaDoorMFnAskText2
import Derived.Laws.Rows
import Derived.Lib.AppendIntMem
import Derived.Test.YtfafjpfigphchaaDoorMFnAskText3
import Derived.Lib.ItoaLen
import Derived.Laws.Concat
import Derived.Lib.Split
import Derived.Lib.SplitLaws
import Derived.Shelf.Small.Wraps
import Derived.Shelf.Strconv.Clone
import Derived.Laws.CopyOwn
namespace Go.Proofs.YtfafjpfigphchaaDoorW.PrintWords
open Go.RowKit
set_option linter.unusedVariables false
variable {α : Type} {P : Program} {ops : Array Oper} {o : Oper} {a : Act} {Q : Exit → Act → World → Prop} {rest : List Oper}
theorem Kd.R_make0 (d : Kd α) {w0 W : World} (base e : Nat) (hgd : o.guard = none) {N : Tmp} (hd : o.dst = some N) (t : TypeId) (x y : Operand) (ho : o.op = .makeSlice t x y) (n : Int) (hx : a.eval x = .int .i64 0) (hy : a.eval y = .int .i64 n)
    (ht : P.underlying t = some (.slice e)) (z : Value) (bytes : Nat) (hinfo : (P.info? e).map (fun i => (i.zero, i.size, i.bytes)) = some (some z, d.sz, bytes)) (hz : z.cells.size = d.sz) (hs0 : 0 < d.sz) (hb0 : 0 < bytes)
    (z0 : α) {ok okp : Nat → Prop} (hzero : d.M W base okp z0 z.cells.toList) (hok : ∀ k, okp k → ok k) (hfresh : ok W.heap.size) (h0 : 0 ≤ n) (hl : n.toNat * bytes ≤ 281474976710656) (HB : Below base w0 W) (hbase : base ≤ W.heap.size)
    (h : ∀ v1 w1, d.R e w1 base ok v1 [] → Below base w0 w1 → W.grownBy w1 none → (∃ b, v1.ownBlock = some b ∧ W.heap.size ≤ b) → wpList P ops Q rest (a.put o.dst v1) w1) : wpList P ops Q (o :: rest) a W := by
  obtain ⟨m, rfl⟩ := Int.eq_ofNat_of_zero_le h0
  simp only [Int.toNat_natCast] at hl
  obtain ⟨i0, hi, hzz⟩ := Option.map_eq_some_iff.1 hinfo
  simp only [Prod.mk.injEq] at hzz
  obtain ⟨hz0, hz1, hz2⟩ := hzz
  have hm : m ≤ 281474976710656 := Nat.le_trans (Nat.le_mul_of_pos_right _ hb0) hl
  have hr := run_make (P := P) (w := W) t e i0 z ht hi hz0 .i64 .i64 0 (m : Int) (by omega) (by omega)
    (by
      have h3 : ((i0.bytes * m : Nat) : Int) ≤ 281474976710656 := by rw [hz2, Nat.mul_comm]; omega
      rwa [Int.natCast_mul] at h3) (by omega)
  simp only [Int.toNat_natCast] at hr
  rw [hz1] at hr
  have h1 : d.R e (W.alloc (.cells (madeCells z.cells (m * d.sz)) e)) base ok (.slice (some ⟨W.heap.size, 0, none⟩) m m) (List.replicate m z0) := by
    have hrep := Kd.reps_made hz hs0 hzero m
    refine ⟨fun k hk => ?_, (madeCells z.cells (m * d.sz)).toList, ?_, ?_⟩
    · have : W.heap.size = k := by simpa [Value.ownBlock] using hk
      subst this
      exact hfresh
    · have h2 := World.ownsRow_lit (base := base) (e := e) (size := d.sz) W (madeCells z.cells (m * d.sz)) m hbase (by show m ≤ 9223372036854775807; omega) (by simp [size_madeCells])
      simpa using h2
    · refine hrep.imp_ (fun p c hp => d.M_mono (fun k hk => ⟨hok k hk.1, fun he => ?_⟩) (Kd.M_below (d.M_bound hp) (below_alloc (Below.refl _ _) _)))
      have h3 : k = W.heap.size := by simpa [Value.ownBlock] using he
      have := hk.2.2.1
      omega
  have h2 := Kd.R_take h1 (m := 0) (Nat.zero_le _)
  refine Kd.event_run hgd (by simp [execOp, ho, hx, hy, hr]) (h _ _ h2 (HB.alloc hbase _) (World.grownBy_alloc W _ none) ⟨W.heap.size, by simp [Value.ownBlock], Nat.le_refl _⟩)
end Go.Proofs.YtfafjpfigphchaaDoorW.PrintWords
namespace Go.Proofs
open Go.Shelf
def Tryd.lays156_ren : Go.Shelf.Ren := ⟨fun | 156 => 58 | 165 => 74 | 166 => 75 | 169 => 76 | 240 => 81 | 241 => 82 | 276 => 95 | 277 => 96 | n => n, fun | 31 => 45 | 9 => 9 | 3 => 3 | 4 => 4 | 0 => 0 | 20 => 20 | 72 => 97 | 76 => 101 | 70 => 95 | 37 => 28 | 75 => 100 | 127 => 107 | 164 => 118 | 5 => 5 | 80 => 103 | n => n, fun | n => n⟩
theorem Tryd.lays156 : Go.Proofs.Lays.n156 Tryd.prog Tryd.lays156_ren := {
  mixed := by kernel_rfl
  f156 := Tryd.func58.trans (congrArg some (by kernel_rfl))
  f165 := Tryd.func74.trans (congrArg some (by kernel_rfl))
  f166 := Tryd.func75.trans (congrArg some (by kernel_rfl))
  f169 := Tryd.func76.trans (congrArg some (by kernel_rfl))
  f240 := Tryd.func81.trans (congrArg some (by kernel_rfl))
  f241 := Tryd.func82.trans (congrArg some (by kernel_rfl))
  f276 := Tryd.func95.trans (congrArg some (by kernel_rfl))
  f277 := Tryd.func96.trans (congrArg some (by kernel_rfl))
  t0 := Tryd.underlying0
  a0 := Tryd.isAgg0
  z0 := Tryd.sizeOf0
  v0 := Tryd.zeroValue0
  t3 := Tryd.underlying3
  a3 := Tryd.isAgg3
  z3 := Tryd.sizeOf3
  v3 := Tryd.zeroValue3
  t4 := Tryd.underlying4
  a4 := Tryd.isAgg4
  z4 := Tryd.sizeOf4
  v4 := Tryd.zeroValue4
  t9 := Tryd.underlying9
  a9 := Tryd.isAgg9
  z9 := Tryd.sizeOf9
  v9 := Tryd.zeroValue9
  t20 := Tryd.underlying20
  a20 := Tryd.isAgg20
  z20 := Tryd.sizeOf20
  v20 := Tryd.zeroValue20
  t31 := Tryd.underlying45
  a31 := Tryd.isAgg45
  z31 := Tryd.sizeOf45
  v31 := Tryd.zeroValue45
  t37 := Tryd.underlying28
  a37 := Tryd.isAgg28
  z37 := Tryd.sizeOf28
  v37 := Tryd.zeroValue28
  t70 := Tryd.underlying95
  a70 := Tryd.isAgg95
  z70 := Tryd.sizeOf95
  v70 := Tryd.zeroValue95
  t72 := Tryd.underlying97
  a72 := Tryd.isAgg97
  z72 := Tryd.sizeOf97
  v72 := Tryd.zeroValue97
  t75 := Tryd.underlying100
  a75 := Tryd.isAgg100
  z75 := Tryd.sizeOf100
  v75 := Tryd.zeroValue100
  t76 := Tryd.underlying101
  a76 := Tryd.isAgg101
  z76 := Tryd.sizeOf101
  v76 := Tryd.zeroValue101
  t127 := Tryd.underlying107
  a127 := Tryd.isAgg107
  z127 := Tryd.sizeOf107
  v127 := Tryd.zeroValue107
  t164 := Tryd.underlying118
  a164 := Tryd.isAgg118
  z164 := Tryd.sizeOf118
  v164 := Tryd.zeroValue118 }
theorem Tryd.Builder_Extra_156 : Builder.Extra Tryd.prog Tryd.lays156_ren := {
  sizeBuilder := by kernel_rfl
  liesBuilder := by kernel_rfl
  t5 := Tryd.underlying5
  a5 := Tryd.isAgg5
  z5 := Tryd.sizeOf5
  v5 := Tryd.zeroValue5
  infoByte := by kernel_rfl
  cellsByte := by kernel_rfl
  sizeByte := by kernel_rfl
  neB5 := by decide }
open Go.RowKit in
/-- No element: the empty string; the world is as it was. (Whatever the slice's address and capacity: a nil slice too.) (LAID: no walk: one application.) -/
theorem Tryd.strings_Join_none (a : Option Addr) (c : Nat) (sep : ByteArray) (w : World) :
    Calls Tryd.prog 58 #[.slice a 0 c, .string sep] w fun e w' => e = .returned (.string ⟨#[]⟩) ∧ w' = w := Any.strings_Join_none Tryd.lays156 Tryd.Builder_Extra_156 a c sep w
open Go.RowKit in
/-- strings.Join: "Join concatenates the elements of its first argument to create a single string. The separator string sep is placed between elements in the resulting string.": HOWEVER MANY ELEMENTS. Below the heap's end the world is as it was. (LAID: no walk: one application.) -/
theorem Tryd.strings_Join (bk o c : Nat) (xs : List ByteArray) (sep : ByteArray) (w : World) (hcells : ∀ (j : Nat) x, xs[j]? = some x → w.cell? ⟨bk, o + j, none⟩ = some (.string x)) (hbk : bk < w.heap.size) (hN : xs.length ≤ 140737488355328) (hcap : xs.length ≤ c) (hlen : (Lib.join (xs.map (·.data.toList)) sep.data.toList).length ≤ 140737488355328) :
    Calls Tryd.prog 58 #[.slice (some ⟨bk, o, none⟩) xs.length c, .string sep] w fun e w' => e = .returned (.string ⟨(Lib.join (xs.map (·.data.toList)) sep.data.toList).toArray⟩) ∧ Below w.heap.size w w' := Any.strings_Join Tryd.lays156 Tryd.Builder_Extra_156 bk o c xs sep w hcells hbk hN hcap hlen
def Tryd.laysM246_ren : Go.Shelf.Ren := ⟨fun | 246 => 79 | 283 => 90 | 284 => 91 | 285 => 92 | 286 => 93 | 129 => 103 | 317 => 102 | 318 => 104 | 319 => 105 | 320 => 106 | 337 => 108 | 338 => 109 | n => n, fun | 2 => 2 | 3 => 3 | 9 => 9 | 4 => 4 | 171 => 111 | 0 => 0 | 53 => 112 | 37 => 28 | 5 => 5 | 173 => 115 | 212 => 127 | 51 => 121 | 20 => 20 | 213 => 128 | 46 => 109 | 232 => 135 | 233 => 136 | n => n, fun | 17 => 2 | 18 => 5 | 19 => 6 | n => n⟩
def Tryd.laysM243_ren : Go.Shelf.Ren := ⟨fun | 243 => 68 | 246 => 79 | 283 => 90 | 284 => 91 | 285 => 92 | 286 => 93 | 129 => 103 | 317 => 102 | 318 => 104 | 319 => 105 | 320 => 106 | 337 => 108 | 338 => 109 | n => n, fun | 3 => 3 | 9 => 9 | 2 => 2 | 4 => 4 | 171 => 111 | 0 => 0 | 53 => 112 | 37 => 28 | 5 => 5 | 173 => 115 | 212 => 127 | 51 => 121 | 20 => 20 | 213 => 128 | 46 => 109 | 232 => 135 | 233 => 136 | n => n, fun | 17 => 2 | 18 => 5 | 19 => 6 | n => n⟩
def Tryd.laysM171_ren : Go.Shelf.Ren := ⟨fun | 171 => 40 | 243 => 68 | 246 => 79 | 283 => 90 | 284 => 91 | 285 => 92 | 286 => 93 | 129 => 103 | 317 => 102 | 318 => 104 | 319 => 105 | 320 => 106 | 337 => 108 | 338 => 109 | n => n, fun | 3 => 3 | 9 => 9 | 2 => 2 | 4 => 4 | 171 => 111 | 0 => 0 | 53 => 112 | 37 => 28 | 5 => 5 | 173 => 115 | 212 => 127 | 51 => 121 | 20 => 20 | 213 => 128 | 46 => 109 | 232 => 135 | 233 => 136 | n => n, fun | 17 => 2 | 18 => 5 | 19 => 6 | n => n⟩
theorem Tryd.laysM171 : Go.Proofs.LaysM.n171 Tryd.prog Tryd.laysM171_ren := {
  mixed := by kernel_rfl
  f129 := Tryd.func103.trans (congrArg some (by kernel_rfl))
  f171 := Tryd.func40.trans (congrArg some (by kernel_rfl))
  f243 := Tryd.func68.trans (congrArg some (by kernel_rfl))
  f246 := Tryd.func79.trans (congrArg some (by kernel_rfl))
  f283 := Tryd.func90.trans (congrArg some (by kernel_rfl))
  f284 := Tryd.func91.trans (congrArg some (by kernel_rfl))
  f285 := Tryd.func92.trans (congrArg some (by kernel_rfl))
  f286 := Tryd.func93.trans (congrArg some (by kernel_rfl))
  f317 := Tryd.func102.trans (congrArg some (by kernel_rfl))
  f318 := Tryd.func104.trans (congrArg some (by kernel_rfl))
  f319 := Tryd.func105.trans (congrArg some (by kernel_rfl))
  f320 := Tryd.func106.trans (congrArg some (by kernel_rfl))
  f337 := Tryd.func108.trans (congrArg some (by kernel_rfl))
  f338 := Tryd.func109.trans (congrArg some (by kernel_rfl))
  t0 := Tryd.underlying0
  a0 := Tryd.isAgg0
  z0 := Tryd.sizeOf0
  v0 := Tryd.zeroValue0
  t2 := Tryd.underlying2
  a2 := Tryd.isAgg2
  z2 := Tryd.sizeOf2
  v2 := Tryd.zeroValue2
  t3 := Tryd.underlying3
  a3 := Tryd.isAgg3
  z3 := Tryd.sizeOf3
  v3 := Tryd.zeroValue3
  t4 := Tryd.underlying4
  a4 := Tryd.isAgg4
  z4 := Tryd.sizeOf4
  v4 := Tryd.zeroValue4
  t5 := Tryd.underlying5
  a5 := Tryd.isAgg5
  z5 := Tryd.sizeOf5
  v5 := Tryd.zeroValue5
  t9 := Tryd.underlying9
  a9 := Tryd.isAgg9
  z9 := Tryd.sizeOf9
  v9 := Tryd.zeroValue9
  t20 := Tryd.underlying20
  a20 := Tryd.isAgg20
  z20 := Tryd.sizeOf20
  v20 := Tryd.zeroValue20
  t37 := Tryd.underlying28
  a37 := Tryd.isAgg28
  z37 := Tryd.sizeOf28
  v37 := Tryd.zeroValue28
  t46 := Tryd.underlying109
  a46 := Tryd.isAgg109
  z46 := Tryd.sizeOf109
  v46 := Tryd.zeroValue109
  t51 := Tryd.underlying121
  a51 := Tryd.isAgg121
  z51 := Tryd.sizeOf121
  v51 := Tryd.zeroValue121
  t53 := Tryd.underlying112
  a53 := Tryd.isAgg112
  z53 := Tryd.sizeOf112
  v53 := Tryd.zeroValue112
  t171 := Tryd.underlying111
  a171 := Tryd.isAgg111
  z171 := Tryd.sizeOf111
  v171 := Tryd.zeroValue111
  t173 := Tryd.underlying115
  a173 := Tryd.isAgg115
  z173 := Tryd.sizeOf115
  v173 := Tryd.zeroValue115
  t212 := Tryd.underlying127
  a212 := Tryd.isAgg127
  z212 := Tryd.sizeOf127
  v212 := Tryd.zeroValue127
  t213 := Tryd.underlying128
  a213 := Tryd.isAgg128
  z213 := Tryd.sizeOf128
  t232 := Tryd.underlying135
  a232 := Tryd.isAgg135
  z232 := Tryd.sizeOf135
  v232 := Tryd.zeroValue135
  t233 := Tryd.underlying136
  a233 := Tryd.isAgg136
  z233 := Tryd.sizeOf136
  v233 := Tryd.zeroValue136
  g17 := by kernel_rfl
  g18 := by kernel_rfl
  g19 := by kernel_rfl
  i0 := by kernel_rfl
  i2 := by kernel_rfl
  i3 := by kernel_rfl
  i4 := by kernel_rfl
  i5 := by kernel_rfl
  i9 := by kernel_rfl
  i20 := by kernel_rfl
  i37 := by kernel_rfl
  i46 := by kernel_rfl
  i51 := by kernel_rfl
  i53 := by kernel_rfl
  i171 := by kernel_rfl
  i173 := by kernel_rfl
  i212 := by kernel_rfl
  i232 := by kernel_rfl
  i233 := by kernel_rfl
  m17 := by kernel_rfl
  m18 := by kernel_rfl
  m19 := by kernel_rfl }
open Go.RowKit Go.Sort Go.Lib in
/-- strconv.Itoa: "Itoa is equivalent to FormatInt(int64(i), 10).": i's DECIMAL NUMERAL ('Lib.itoa': a '-' where i is negative, then the digits), FOR EVERY int. The world behind the call: the world before it, new blocks behind the heap (the library's 'var a [24]byte'), draws. (LAID: no walk: one application.) -/
theorem Tryd.strconv_Itoa (n : Int) (h0 : -9223372036854775808 ≤ n) (h1 : n ≤ 9223372036854775807) (w : World) (htab : Lib.TabIs Tryd.prog w "internal/strconv.uint64pow10" .u64 Lib.pow10Tab) :
    Calls Tryd.prog 40 #[.int .i64 n] w fun e w' => e = .returned (.string ⟨(Lib.itoa n).toArray⟩) ∧ ∃ k os, w' = grow (w.drewN k) os := Any.strconv_Itoa Tryd.laysM171 n h0 h1 w htab
def Tryd.lays219_ren : Go.Shelf.Ren := ⟨fun | 219 => 77 | 217 => 83 | 225 => 84 | 224 => 85 | 267 => 86 | 266 => 97 | 314 => 98 | n => n, fun | 9 => 9 | 3 => 3 | 4 => 4 | 5 => 5 | 46 => 109 | 146 => 122 | 51 => 121 | n => n, fun | 1 => 1 | n => n⟩
def Tryd.lays145_ren : Go.Shelf.Ren := ⟨fun | 145 => 31 | 220 => 65 | 219 => 77 | 217 => 83 | 225 => 84 | 224 => 85 | 267 => 86 | 266 => 97 | 314 => 98 | n => n, fun | 9 => 9 | 4 => 4 | 59 => 49 | 3 => 3 | 5 => 5 | 46 => 109 | 146 => 122 | 51 => 121 | n => n, fun | 1 => 1 | n => n⟩
theorem Tryd.lays145 : Go.Proofs.Lays.n145 Tryd.prog Tryd.lays145_ren := {
  mixed := by kernel_rfl
  f145 := Tryd.func31.trans (congrArg some (by kernel_rfl))
  f217 := Tryd.func83.trans (congrArg some (by kernel_rfl))
  f219 := Tryd.func77.trans (congrArg some (by kernel_rfl))
  f220 := Tryd.func65.trans (congrArg some (by kernel_rfl))
  f224 := Tryd.func85.trans (congrArg some (by kernel_rfl))
  f225 := Tryd.func84.trans (congrArg some (by kernel_rfl))
  f266 := Tryd.func97.trans (congrArg some (by kernel_rfl))
  f267 := Tryd.func86.trans (congrArg some (by kernel_rfl))
  f314 := Tryd.func98.trans (congrArg some (by kernel_rfl))
  t3 := Tryd.underlying3
  a3 := Tryd.isAgg3
  z3 := Tryd.sizeOf3
  v3 := Tryd.zeroValue3
  t4 := Tryd.underlying4
  a4 := Tryd.isAgg4
  z4 := Tryd.sizeOf4
  v4 := Tryd.zeroValue4
  t5 := Tryd.underlying5
  a5 := Tryd.isAgg5
  z5 := Tryd.sizeOf5
  v5 := Tryd.zeroValue5
  t9 := Tryd.underlying9
  a9 := Tryd.isAgg9
  z9 := Tryd.sizeOf9
  v9 := Tryd.zeroValue9
  t46 := Tryd.underlying109
  a46 := Tryd.isAgg109
  z46 := Tryd.sizeOf109
  v46 := Tryd.zeroValue109
  t51 := Tryd.underlying121
  a51 := Tryd.isAgg121
  z51 := Tryd.sizeOf121
  v51 := Tryd.zeroValue121
  t59 := Tryd.underlying49
  a59 := Tryd.isAgg49
  z59 := Tryd.sizeOf49
  v59 := Tryd.zeroValue49
  t146 := Tryd.underlying122
  a146 := Tryd.isAgg122
  z146 := Tryd.sizeOf122
  v146 := Tryd.zeroValue122
  g1 := by kernel_rfl }
open Go.RowKit Go.Lib in
/-- strings.Cut: "Cut slices s around the first instance of sep, returning the text before and after sep. The found result reports whether sep appears in s. If sep does not appear in s, cut returns s, "", false.": IT RETURNS 'Lib.cut s sep'; the world is as it was but for the count of draws. (LAID: no walk: one application.) -/
theorem Tryd.strings_Cut (s sep : ByteArray) (m : Int) (w : World) (hs : s.size < 4294967281) (hm : w.cell? ⟨1, 0, none⟩ = some (.int .i64 m)) :
    Calls Tryd.prog 31 #[.string s, .string sep] w fun e w' => e = .returned (.tuple #[.string ⟨(Lib.cut s.data.toList sep.data.toList).1.toArray⟩, .string ⟨(Lib.cut s.data.toList sep.data.toList).2.1.toArray⟩, .bool (Lib.cut s.data.toList sep.data.toList).2.2]) ∧ ∃ n, w' = w.drewN n := Any.strings_Cut Tryd.lays145 s sep m w hs hm
def Tryd.lays221_ren : Go.Shelf.Ren := ⟨fun | 221 => 78 | 268 => 87 | 138 => 88 | 143 => 89 | 195 => 99 | 197 => 100 | 218 => 101 | 219 => 77 | 260 => 107 | 217 => 83 | 225 => 84 | 224 => 85 | 267 => 86 | 266 => 97 | 314 => 98 | n => n, fun | 9 => 9 | 3 => 3 | 31 => 45 | 4 => 4 | 0 => 0 | 105 => 124 | 21 => 21 | 5 => 5 | 46 => 109 | 119 => 131 | 139 => 134 | 138 => 133 | 146 => 122 | 51 => 121 | n => n, fun | 1 => 1 | 3 => 3 | 4 => 4 | n => n⟩
def Tryd.lays146_ren : Go.Shelf.Ren := ⟨fun | 146 => 66 | 221 => 78 | 268 => 87 | 138 => 88 | 143 => 89 | 195 => 99 | 197 => 100 | 218 => 101 | 219 => 77 | 260 => 107 | 217 => 83 | 225 => 84 | 224 => 85 | 267 => 86 | 266 => 97 | 314 => 98 | n => n, fun | 9 => 9 | 31 => 45 | 3 => 3 | 4 => 4 | 0 => 0 | 105 => 124 | 21 => 21 | 5 => 5 | 46 => 109 | 119 => 131 | 139 => 134 | 138 => 133 | 146 => 122 | 51 => 121 | n => n, fun | 1 => 1 | 3 => 3 | 4 => 4 | n => n⟩
theorem Tryd.lays146 : Go.Proofs.Lays.n146 Tryd.prog Tryd.lays146_ren := {
  mixed := by kernel_rfl
  f138 := Tryd.func88.trans (congrArg some (by kernel_rfl))
  f143 := Tryd.func89.trans (congrArg some (by kernel_rfl))
  f146 := Tryd.func66.trans (congrArg some (by kernel_rfl))
  f195 := Tryd.func99.trans (congrArg some (by kernel_rfl))
  f197 := Tryd.func100.trans (congrArg some (by kernel_rfl))
  f217 := Tryd.func83.trans (congrArg some (by kernel_rfl))
  f218 := Tryd.func101.trans (congrArg some (by kernel_rfl))
  f219 := Tryd.func77.trans (congrArg some (by kernel_rfl))
  f221 := Tryd.func78.trans (congrArg some (by kernel_rfl))
  f224 := Tryd.func85.trans (congrArg some (by kernel_rfl))
  f225 := Tryd.func84.trans (congrArg some (by kernel_rfl))
  f260 := Tryd.func107.trans (congrArg some (by kernel_rfl))
  f266 := Tryd.func97.trans (congrArg some (by kernel_rfl))
  f267 := Tryd.func86.trans (congrArg some (by kernel_rfl))
  f268 := Tryd.func87.trans (congrArg some (by kernel_rfl))
  f314 := Tryd.func98.trans (congrArg some (by kernel_rfl))
  t0 := Tryd.underlying0
  a0 := Tryd.isAgg0
  z0 := Tryd.sizeOf0
  v0 := Tryd.zeroValue0
  t3 := Tryd.underlying3
  a3 := Tryd.isAgg3
  z3 := Tryd.sizeOf3
  v3 := Tryd.zeroValue3
  t4 := Tryd.underlying4
  a4 := Tryd.isAgg4
  z4 := Tryd.sizeOf4
  v4 := Tryd.zeroValue4
  t5 := Tryd.underlying5
  a5 := Tryd.isAgg5
  z5 := Tryd.sizeOf5
  v5 := Tryd.zeroValue5
  t9 := Tryd.underlying9
  a9 := Tryd.isAgg9
  z9 := Tryd.sizeOf9
  v9 := Tryd.zeroValue9
  t21 := Tryd.underlying21
  a21 := Tryd.isAgg21
  z21 := Tryd.sizeOf21
  v21 := Tryd.zeroValue21
  t31 := Tryd.underlying45
  a31 := Tryd.isAgg45
  z31 := Tryd.sizeOf45
  v31 := Tryd.zeroValue45
  t46 := Tryd.underlying109
  a46 := Tryd.isAgg109
  z46 := Tryd.sizeOf109
  v46 := Tryd.zeroValue109
  t51 := Tryd.underlying121
  a51 := Tryd.isAgg121
  z51 := Tryd.sizeOf121
  v51 := Tryd.zeroValue121
  t105 := Tryd.underlying124
  a105 := Tryd.isAgg124
  z105 := Tryd.sizeOf124
  v105 := Tryd.zeroValue124
  t119 := Tryd.underlying131
  a119 := Tryd.isAgg131
  z119 := Tryd.sizeOf131
  t138 := Tryd.underlying133
  a138 := Tryd.isAgg133
  z138 := Tryd.sizeOf133
  v138 := Tryd.zeroValue133
  t139 := Tryd.underlying134
  a139 := Tryd.isAgg134
  z139 := Tryd.sizeOf134
  v139 := Tryd.zeroValue134
  t146 := Tryd.underlying122
  a146 := Tryd.isAgg122
  z146 := Tryd.sizeOf122
  v146 := Tryd.zeroValue122
  g1 := by kernel_rfl
  g3 := by kernel_rfl
  g4 := by kernel_rfl }
open Go.RowKit Go.Lib in
/-- strings.Split. (LAID: no walk: one application.) -/
theorem Tryd.strings_Split (s sep : ByteArray) (m : Int) (w : World) (hs : s.size < 4294967281) (hm : w.cell? ⟨1, 0, none⟩ = some (.int .i64 m)) (h1 : 1 ≤ sep.size) :
    Calls Tryd.prog 66 #[.string s, .string sep] w fun e w' =>
      e = .returned (.slice (some ⟨w.heap.size, 0, none⟩) (Lib.countB s sep + 1) (Lib.countB s sep + 1)) ∧ w' = w.alloc (.cells ((Lib.splitB sep 0 (Lib.countB s sep) s).map Value.string).toArray 9) := Any.strings_Split Tryd.lays146 (by kernel_rfl) s sep m w hs hm h1
end Go.Proofs
namespace Go.Proofs.YtfafjpfigphchaaDoor.X
open Go.RowKit Go.Proofs.YtfafjpfigphchaaDoorW.PrintWords Go.Proofs.YtfafjpfigphchaaDoorW.PrintLast Go.Proofs.YtfafjpfigphchaaDoorW.PrintMore
set_option linter.unusedVariables false
/-- The operations' words, and how many numbers each has. -/
def formCells : Array Value := #[.string ⟨#[]⟩, .int .i64 0, .string ⟨#[99, 114, 111, 112]⟩, .int .i64 4, .string ⟨#[102, 108, 105, 112, 120]⟩, .int .i64 0, .string ⟨#[102, 108, 105, 112, 121]⟩, .int .i64 0, .string ⟨#[116, 117, 114, 110]⟩, .int .i64 0, .string ⟨#[103, 114, 97, 121]⟩, .int .i64 0, .string ⟨#[98, 108, 117, 114]⟩, .int .i64 0, .string ⟨#[115, 105, 122, 101]⟩, .int .i64 2, .string ⟨#[102, 108, 97, 116]⟩, .int .i64 3]
structure Glob (w : World) : Prop where
  forms : ∃ t fr, w.heap[0]? = some (.cells formCells t fr)
  pow : ∃ t fr, w.heap[2]? = some (.cells (Lib.pow10Tab.map fun z => Value.int .u64 z).toArray t fr)
  max : ∃ m, w.cell? ⟨1, 0, none⟩ = some (.int .i64 m)
theorem Glob.belowW {w w' : World} (h : Glob w) (hb : Below w.heap.size w w') : Glob w' := by
  obtain ⟨⟨t, fr, h1⟩, ⟨t2, fr2, h2⟩, ⟨m, h3⟩⟩ := h
  exact ⟨⟨t, fr, (hb.block _ (blk_lt h1)).trans h1⟩, ⟨t2, fr2, (hb.block _ (blk_lt h2)).trans h2⟩, ⟨m, pw_cell_below hb h3⟩⟩
theorem gPow : Tryd.prog.globalNamed "internal/strconv.uint64pow10" = some 2 := by kernel_rfl
theorem Glob.tab {w : World} (h : Glob w) : Lib.TabIs Tryd.prog w "internal/strconv.uint64pow10" .u64 Lib.pow10Tab := by
  obtain ⟨_, ⟨t, fr, hp⟩, _⟩ := h
  unfold Lib.TabIs World.var?
  rw [gPow, Option.bind_some, hp]
/-- The powers of ten alone. -/
structure GlobP (w : World) : Prop where
  pow : ∃ t fr, w.heap[2]? = some (.cells (Lib.pow10Tab.map fun z => Value.int .u64 z).toArray t fr)
theorem GlobP.belowW {w w' : World} (h : GlobP w) (hb : Below w.heap.size w w') : GlobP w' := by
  obtain ⟨⟨t2, fr2, h2⟩⟩ := h
  exact ⟨⟨t2, fr2, (hb.block _ (blk_lt h2)).trans h2⟩⟩
theorem GlobP.tab {w : World} (h : GlobP w) : Lib.TabIs Tryd.prog w "internal/strconv.uint64pow10" .u64 Lib.pow10Tab := by
  obtain ⟨⟨t, fr, hp⟩⟩ := h
  unfold Lib.TabIs World.var?
  rw [gPow, Option.bind_some, hp]
theorem Glob.toP {w : World} (h : Glob w) : GlobP w := ⟨h.pow⟩
theorem itoa_calls (n : Int) (w : World) (hG : GlobP w) (h0 : -9223372036854775808 ≤ n) (h1 : n ≤ 9223372036854775807) :
    Calls Tryd.prog 40 #[.int .i64 n] w fun e w' => e = .returned (.string ⟨(Lib.itoa n).toArray⟩) ∧ Below w.heap.size w w' := by
  refine (Tryd.strconv_Itoa n h0 h1 w hG.tab).mono ?_
  rintro e w' ⟨rfl, k, os, rfl⟩
  exact ⟨rfl, Lib.below_grow _ _ (Nat.le_refl _) _ _⟩
end Go.Proofs.YtfafjpfigphchaaDoor.X
namespace Go.Proofs.YtfafjpfigphchaaDoor.X
open Go.RowKit Go.Proofs.YtfafjpfigphchaaDoorW.PrintWords Go.Proofs.YtfafjpfigphchaaDoorW.PrintLast Go.Proofs.YtfafjpfigphchaaDoorW.PrintMore
attribute [local go_sem] max2_int min2_int max_two min_two max_three min_three max_four min_four
set_option linter.unusedVariables false
set_option linter.unusedSimpArgs false

section
def strconv_Itoa_40.f (a0 : Int) : Option ByteArray := if -9223372036854775808 ≤ a0 ∧ a0 ≤ 9223372036854775807 then some ⟨(Lib.itoa a0).toArray⟩ else none
theorem strconv_Itoa_40.calls (a0 : Int) (r : ByteArray) (w : World) (h : strconv_Itoa_40.f a0 = some r) (hG : GlobP w) :
  Calls Tryd.prog 40 #[.int .i64 a0] w fun e w' => e = .returned (.string r) ∧ Below w.heap.size w w' := by
 unfold strconv_Itoa_40.f at h
 split at h
 case isFalse => cases h
 rename_i hl
 obtain rfl := Option.some.inj h
 exact itoa_calls a0 w hG hl.1 hl.2
end
section
def formsL : List (ByteArray × Nat) := [(⟨#[]⟩, 0), (⟨#[99, 114, 111, 112]⟩, 4), (⟨#[102, 108, 105, 112, 120]⟩, 0), (⟨#[102, 108, 105, 112, 121]⟩, 0), (⟨#[116, 117, 114, 110]⟩, 0), (⟨#[103, 114, 97, 121]⟩, 0), (⟨#[98, 108, 117, 114]⟩, 0), (⟨#[115, 105, 122, 101]⟩, 2), (⟨#[102, 108, 97, 116]⟩, 3)]
def formW (k : Nat) : ByteArray := (formsL.getD k (⟨#[]⟩, 0)).1
def formN (k : Nat) : Nat := (formsL.getD k (⟨#[]⟩, 0)).2
def numT (n : Int) : ByteArray := (⟨#[46]⟩ : ByteArray) ++ ⟨(Lib.itoa n).toArray⟩
/-- The text of a word, and so many numbers. -/
def txtI (word : ByteArray) (ns : List Int) : ByteArray := ns.foldl (fun s n => s ++ numT n) word
def okI (n : Int) : Prop := -9223372036854775808 ≤ n ∧ n ≤ 9223372036854775807
instance (n : Int) : Decidable (okI n) := inferInstanceAs (Decidable (_ ∧ _))
def opTextI (k : Int) (ns : List Int) : Option ByteArray := if 0 ≤ k ∧ k < 9 ∧ ∀ n ∈ ns, okI n then some (txtI (formW k.toNat) (ns.take (formN k.toNat))) else none
def impl_OpText.f (k : Nat) (a0_0 a0_1 a0_2 a0_3 a0_4 : Int) : Option ByteArray := (impl_OpOk.f k a0_0 a0_1 a0_2 a0_3 a0_4).bind fun t => if t = true then opTextI a0_0 [a0_1, a0_2, a0_3, a0_4] else some ⟨#[]⟩
set_option maxHeartbeats 1000000 in
set_option maxRecDepth 100000 in
theorem opNumbers_calls (a0 a1 a2 a3 a4 : Int) (w : World) : Calls Tryd.prog 39 #[.agg #[.int .i64 a0, .int .i64 a1, .int .i64 a2, .int .i64 a3, .int .i64 a4]] w fun e w' => e = .returned (.agg #[.int .i64 a1, .int .i64 a2, .int .i64 a3, .int .i64 a4]) ∧ Below w.heap.size w w' := by
 have hu := Tryd.underlying23; have hz : ∀ w : World, (zeroValue 53).run Tryd.prog w = .ok (.agg #[.int .i64 0, .int .i64 0, .int .i64 0, .int .i64 0]) w := fun w => by kernel_rfl
 go_enter Tryd.func39, Tryd.ntmps39
 go_wp2_with (first | ((with_reducible refine gd_ 1 rfl ?_); refine bx_ 1 rfl #[.int .i64 a0, .int .i64 a1, .int .i64 a2, .int .i64 a3, .int .i64 a4] 23 ?_; intro b2 hg w5 hbox hb; have HX := Aside0.mk hbox; have HB := Aside0.mk hb; clear hb hbox hg) | ((with_reducible refine gd_ 2 rfl ?_); refine bx_ 2 rfl #[.int .i64 0, .int .i64 0, .int .i64 0, .int .i64 0] 53 ?_; intro b3 hg w7 hbox hb; have HX7 := Aside0.mk hbox; obtain ⟨x0, x1, x2, x3, x4⟩ := cc5_ (blk_below HX.out hb); obtain ⟨y0, y1, y2, y3⟩ := cc4_ hbox; obtain ⟨f0, f1, f2, f3⟩ := cf4_ hbox; have HB7 := Aside0.mk (below_step HB.out hb); have HG3 := Aside0.mk (show w.heap.size ≤ b3 by rw [hg]; exact HB.out.size); clear hb hbox hg))
 refine bodyPost_ret (results_cell_row Tryd.results39 _ _ b3 53 #[.int .i64 a1, .int .i64 a2, .int .i64 a3, .int .i64 a4] (0, 0) _ rfl ?hh Tryd.underlying53 rfl (by kernel_rfl)) rfl ⟨rfl, ?bb⟩
 case hh => exact blk_set (blk_set (blk_set (blk_set HX7.out 0 _) 1 _) 2 _) 3 _
 case bb => exact (((HB7.out.setCell (p := ⟨b3, 0, none⟩) HG3.out _).setCell (p := ⟨b3, 1, none⟩) HG3.out _).setCell (p := ⟨b3, 2, none⟩) HG3.out _).setCell (p := ⟨b3, 3, none⟩) HG3.out _
theorem up_cell {w : World} {a : Addr} {v : Value} (h : w.cell? a = some v) : (∀ o1, (w.alloc o1).cell? a = some v) ∧ (∀ o1 o2, ((w.alloc o1).alloc o2).cell? a = some v) := by
 have e : ∀ (w : World) (o : Obj), w.cell? a = some v → (w.alloc o).cell? a = some v := fun w o h => pw_cell_below ((Below.refl _ _).alloc (Nat.le_refl _) o) h
 exact ⟨fun o1 => e _ _ h, fun o1 o2 => e _ _ (e _ _ h)⟩
theorem formN_le (k : Nat) (hk : k < 9) : formN k ≤ 4 := by
 match k, hk with
 | 0, _ => decide
 | 1, _ => decide
 | 2, _ => decide
 | 3, _ => decide
 | 4, _ => decide
 | 5, _ => decide
 | 6, _ => decide
 | 7, _ => decide
 | 8, _ => decide
theorem txtI_snoc (W : ByteArray) (l : List Int) (n : Int) : txtI W (l ++ [n]) = txtI W l ++ numT n := by simp [txtI, List.foldl_append]
theorem num_at {w : World} {g : Nat} {a b c d : Int} {t : TypeId} {fr : Nat × Nat} {i : Nat} (h : w.heap[g]? = some (.cells #[.int .i64 a, .int .i64 b, .int .i64 c, .int .i64 d] t fr)) (hi : i < 4) : w.cell? ⟨g, i, none⟩ = some (.int .i64 ([a, b, c, d].getD i 0)) := by
 rw [cell_of_row _ _ _ _ _ _ h]
 match i, hi with
 | 0, _ => rfl
 | 1, _ => rfl
 | 2, _ => rfl
 | 3, _ => rfl
theorem num_mem {a b c d : Int} {i : Nat} (hi : i < 4) : [a, b, c, d].getD i 0 ∈ [a, b, c, d] := by
 match i, hi with
 | 0, _ => simp
 | 1, _ => simp
 | 2, _ => simp
 | 3, _ => simp
theorem take_getD (l : List Int) (n : Nat) (h : n < l.length) : l.take (n + 1) = l.take n ++ [l.getD n 0] := by
 rw [List.take_add_one, List.getElem?_eq_getElem h]; simp [List.getD_eq_getElem?_getD, List.getElem?_eq_getElem h]
theorem numT_size (n : Int) : (numT n).size = 1 + (Lib.itoa n).length := by unfold numT; rw [ByteArray.size_append]; show 1 + (Lib.itoa n).toArray.size = _; rw [List.size_toArray]
theorem txtI_len (W : ByteArray) (l : List Int) (h : ∀ n ∈ l, okI n) (hW : W.size ≤ 5) (hl : l.length ≤ 4) : (txtI W l).size ≤ 1000 := by
 have : ∀ (l : List Int) (S : ByteArray), (∀ n ∈ l, okI n) → (l.foldl (fun s n => s ++ numT n) S).size ≤ S.size + 22 * l.length := by
  intro l
  induction l with
  | nil => intro S _; simp
  | cons a l ih =>
   intro S h; have h1 := ih (S ++ numT a) (fun n hn => h n (List.mem_cons_of_mem _ hn)); have h2 := h a (List.mem_cons_self ..); have h3 := Lib.itoa_length_le a h2.1 h2.2
   rw [ByteArray.size_append, numT_size] at h1
   simp only [List.foldl_cons, List.length_cons]
   omega
 have := this l W h
 unfold txtI
 omega
theorem formW_len (k : Nat) (hk : k < 9) : (formW k).size ≤ 5 := by
 match k, hk with
 | 0, _ => decide
 | 1, _ => decide
 | 2, _ => decide
 | 3, _ => decide
 | 4, _ => decide
 | 5, _ => decide
 | 6, _ => decide
 | 7, _ => decide
 | 8, _ => decide
theorem form_word {w : World} (h : Glob w) (k : Nat) (hk : k < 9) : w.cell? ⟨0, k * 2, none⟩ = some (.string (formW k)) ∧ w.cell? ⟨0, k * 2 + 1, none⟩ = some (.int .i64 (formN k : Int)) := by
 obtain ⟨⟨t, fr, h1⟩, _⟩ := h
 rw [cell_of_row _ _ _ _ _ _ h1, cell_of_row _ _ _ _ _ _ h1]
 match k, hk with
 | 0, _ => exact ⟨rfl, rfl⟩
 | 1, _ => exact ⟨rfl, rfl⟩
 | 2, _ => exact ⟨rfl, rfl⟩
 | 3, _ => exact ⟨rfl, rfl⟩
 | 4, _ => exact ⟨rfl, rfl⟩
 | 5, _ => exact ⟨rfl, rfl⟩
 | 6, _ => exact ⟨rfl, rfl⟩
 | 7, _ => exact ⟨rfl, rfl⟩
 | 8, _ => exact ⟨rfl, rfl⟩
theorem form_cut (k : Nat) (hk : k < 9) : ∀ (b : Nat) (W : World), (Instr.sliceAt 53 (.pointer (some ⟨b, 0, none⟩)) none (some (.int .i64 (formN k : Int))) none).run Tryd.prog W = .ok (.slice (some ⟨b, 0, none⟩) (formN k) 4) W := by
 intro b W
 match k, hk with
 | 0, _ => (show _ = _; kernel_rfl)
 | 1, _ => (show _ = _; kernel_rfl)
 | 2, _ => (show _ = _; kernel_rfl)
 | 3, _ => (show _ = _; kernel_rfl)
 | 4, _ => (show _ = _; kernel_rfl)
 | 5, _ => (show _ = _; kernel_rfl)
 | 6, _ => (show _ = _; kernel_rfl)
 | 7, _ => (show _ = _; kernel_rfl)
 | 8, _ => (show _ = _; kernel_rfl)
set_option maxHeartbeats 4000000 in
set_option maxRecDepth 100000 in
theorem impl_OpText.calls (k : Nat) (a0_0 a0_1 a0_2 a0_3 a0_4 : Int) (r : ByteArray) (w : World) (h : impl_OpText.f k a0_0 a0_1 a0_2 a0_3 a0_4 = some r) (hG : Glob w) :
  Calls Tryd.prog 12 #[.agg #[.int .i64 a0_0, .int .i64 a0_1, .int .i64 a0_2, .int .i64 a0_3, .int .i64 a0_4]] w fun e w' => e = .returned (.string r) ∧ Below w.heap.size w w' := by
 have HG := Aside0.mk hG; clear hG; obtain ⟨t, ht, h⟩ := Option.bind_eq_some_iff.1 h; have HT := Aside0.mk ht; clear ht; have hu := Tryd.underlying23
 cases t with
 | false =>
  rw [if_neg (by decide)] at h
  obtain rfl := Option.some.inj h
  go_enter Tryd.func12, Tryd.ntmps12
  go_wp2_with (first | ((with_reducible refine gd_ 1 rfl ?_); refine bx_ 1 rfl #[.int .i64 a0_0, .int .i64 a0_1, .int .i64 a0_2, .int .i64 a0_3, .int .i64 a0_4] 23 ?_; intro b2 hg w5 hbox hb; have HX := Aside0.mk hbox; have HB := Aside0.mk hb; obtain ⟨x0, x1, x2, x3, x4⟩ := cc5_ hbox; clear hb hbox hg) | (go_at_call 14; refine (impl_OpOk.calls k a0_0 a0_1 a0_2 a0_3 a0_4 false _ HT.out).mono ?_; rintro e w6 ⟨rfl, hb⟩; have HB6 := Aside0.mk (below_step HB.out hb); clear hb))
  go_ret
  exact ⟨rfl, HB6.out⟩
 | true =>
  rw [if_pos rfl] at h
  unfold opTextI at h
  split at h
  case isFalse => cases h
  rename_i hk
  obtain ⟨hk0, hk9, hns⟩ := hk; obtain rfl := Option.some.inj h; obtain ⟨kd, rfl⟩ := Int.eq_ofNat_of_zero_le hk0; have hkd : kd < 9 := (by omega); have HNS := Aside0.mk hns
  simp only [Int.toNat_natCast]
  clear hk0 hk9 h hns; have hsl := form_cut kd hkd
  go_enter Tryd.func12, Tryd.ntmps12
  go_wp2_with (first | ((with_reducible refine gd_ 1 rfl ?_); refine bx_ 1 rfl #[.int .i64 (kd : Int), .int .i64 a0_1, .int .i64 a0_2, .int .i64 a0_3, .int .i64 a0_4] 23 ?_; intro b2 hg w5 hbox hb; have HX := Aside0.mk hbox; have HB := Aside0.mk hb; obtain ⟨x0, x1, x2, x3, x4⟩ := cc5_ hbox; clear hb hbox hg) | (go_at_call 14; refine (impl_OpOk.calls k (kd : Int) a0_1 a0_2 a0_3 a0_4 true _ HT.out).mono ?_; rintro e w6 ⟨rfl, hb⟩; have HB6 := Aside0.mk (below_step HB.out hb); obtain ⟨y0, y1, y2, y3, y4⟩ := cc5_ (blk_below HX.out hb); have u0 := (up_cell y0).1; have u1 := (up_cell y1).1; have u2 := (up_cell y2).1; have u3 := (up_cell y3).1; have u4 := (up_cell y4).1; obtain ⟨z0, z1⟩ := form_word (HG.out.belowW HB6.out) kd hkd; clear hb) | (go_at_call 39; refine (opNumbers_calls (kd : Int) a0_1 a0_2 a0_3 a0_4 _).mono ?_; rintro e w8 ⟨rfl, hb⟩; have v0 := (up_cell (pw_cell_below hb (v := .string (formW kd)) ((cell_of_row _ w6.heap.size 0 _ _ _ (heap_alloc_new w6 _)).trans rfl))).1; have v1 := (up_cell (pw_cell_below hb (v := .int .i64 (formN kd : Int)) ((cell_of_row _ w6.heap.size 1 _ _ _ (heap_alloc_new w6 _)).trans rfl))).1; have HB8 := Aside0.mk hb; clear hb))
  obtain ⟨g, hg⟩ : ∃ g, w8.heap.size = g := ⟨_, rfl⟩; have HA : Aside0 ((w8.alloc (.cells #[.int .i64 a0_1, .int .i64 a0_2, .int .i64 a0_3, .int .i64 a0_4] 53)).heap[g]? = some (.cells #[.int .i64 a0_1, .int .i64 a0_2, .int .i64 a0_3, .int .i64 a0_4] 53 (0, 0))) := ⟨by rw [← hg]; exact blk_new w8 _⟩; have hba := below_step (HB6.out.alloc HB6.out.size (.cells #[.string (formW kd), .int .i64 (formN kd : Int)] 64)) HB8.out; have HBA := Aside0.mk (hba.alloc hba.size (.cells #[.int .i64 a0_1, .int .i64 a0_2, .int .i64 a0_3, .int .i64 a0_4] 53)); have HGE := Aside0.mk (show w.heap.size ≤ g by rw [← hg]; exact hba.size)
  rw [hg]
  have h4 := formN_le kd hkd; clear hba hg u0 u1 u2 u3 u4 v0 v1 x0 x1 x2 x3 x4 y0 y1 y2 y3 y4
  (try simp only [Act.put, List.setIfInBounds_toArray, List.set_cons_zero, List.set_cons_succ])
  go_loopg [5, 23] (formN kd) (fun kq v5 v23 w' => ∃ i : Nat, kq + i = formN kd ∧ v5 = .string (txtI (formW kd) ([a0_1, a0_2, a0_3, a0_4].take i)) ∧ v23 = .int .i64 i ∧ w'.heap[g]? = some (.cells #[.int .i64 a0_1, .int .i64 a0_2, .int .i64 a0_3, .int .i64 a0_4] 53 (0, 0)) ∧ Below w.heap.size w w')
  case atStart => exact ⟨0, by omega, rfl, rfl, HA.out, HBA.out⟩
  case round =>
   obtain ⟨i, hk, rfl, rfl, hA, hL⟩ := hrel; have HA2 := Aside0.mk hA; have HL := Aside0.mk hL
   by_cases h6 : i < formN kd
   · have x : wr.cell? ⟨g, i, none⟩ = some (.int .i64 ([a0_1, a0_2, a0_3, a0_4].getD i 0)) := num_at hA (by omega)
     have HN := Aside0.mk (HNS.out ([a0_1, a0_2, a0_3, a0_4].getD i 0) (num_mem (by omega))); have HS := Aside0.mk (txtI_len (formW kd) ([a0_1, a0_2, a0_3, a0_4].take i) (fun n hn => HNS.out n (List.mem_of_mem_take hn)) (formW_len kd hkd) (by simp; omega)); obtain ⟨n, hn⟩ : ∃ n, [a0_1, a0_2, a0_3, a0_4].getD i 0 = n := ⟨_, rfl⟩; obtain ⟨tx, htx⟩ : ∃ tx, txtI (formW kd) ([a0_1, a0_2, a0_3, a0_4].take i) = tx := ⟨_, rfl⟩; have HNM := Aside0.mk hn; have HTX := Aside0.mk htx
     rw [hn] at x HN; rw [htx] at HS ⊢
     have l1 : (⟨#[46]⟩ : ByteArray).size + (⟨(Lib.itoa n).toArray⟩ : ByteArray).size ≤ 9223372036854775807 := (by have := Lib.itoa_length_le n HN.out.1 HN.out.2; show 1 + (Lib.itoa n).toArray.size ≤ _; rw [List.size_toArray]; omega); have s1 : ∀ W : World, (Op.stringOp .add ⟨#[46]⟩ ⟨(Lib.itoa n).toArray⟩).run Tryd.prog W = .ok (.string (numT n)) W := fun W => run_string_add_sum W _ _ l1; have s2 : ∀ W : World, (Op.stringOp .add tx (numT n)).run Tryd.prog W = .ok (.string (tx ++ numT n)) W := fun W => run_string_add_sum W _ _ (by have := HS.out; have := Lib.itoa_length_le n HN.out.1 HN.out.2; have : (numT n).size = 1 + (Lib.itoa n).length := numT_size n; omega); clear hn htx l1; clear hA hL
     go_wp2_with (go_at_call 40; refine (itoa_calls _ _ (HG.out.belowW HL.out).toP HN.out.1 HN.out.2).mono ?_; rintro e w9 ⟨rfl, hb⟩; have HB9 := Aside0.mk (below_step HL.out hb); have HA9 := Aside0.mk (blk_below HA2.out hb); clear hb)
     go_roundg (gk - 1)
     case measure => omega
     case rel => exact ⟨i + 1, by omega, by rw [take_getD _ _ (by simp; omega), txtI_snoc, HNM.out, HTX.out], by first | rfl | (simp; done) | (unfold wrap64; simp; omega), HA9.out, HB9.out⟩
   · obtain rfl : i = formN kd := by omega
     clear hA hL
     go_wp2
     go_ret
     exact ⟨rfl, HL.out⟩
end
section
def strings_Join.f (l0 : List ByteArray) (a1 : ByteArray) : Option ByteArray := if l0.length ≤ 140737488355328 ∧ (Lib.join (l0.map (·.data.toList)) a1.data.toList).length ≤ 140737488355328 then some ⟨(Lib.join (l0.map (·.data.toList)) a1.data.toList).toArray⟩ else none
theorem strings_Join.calls (A0 : Option Addr) (c0 : Nat) (l0 : List ByteArray) (a1 : ByteArray) (r : ByteArray) (w : World) (hr0 : Kd.C Kd.string w A0 l0.length l0) (hc0 : l0.length ≤ c0) (h : strings_Join.f l0 a1 = some r) :
  Calls Tryd.prog 58 #[.slice A0 l0.length c0, .string a1] w fun e w' => e = .returned (.string r) ∧ Below w.heap.size w w' := by
 unfold strings_Join.f at h
 split at h
 case isFalse => cases h
 rename_i hl
 obtain rfl := Option.some.inj h
 cases l0 with
 | nil =>
  refine (Tryd.strings_Join_none A0 c0 a1 w).mono ?_
  rintro e w' ⟨rfl, rfl⟩
  exact ⟨rfl, Below.refl _ _⟩
 | cons x l =>
  obtain ⟨ad, rfl, h0⟩ := Kd.at_string hr0 0 (by omega) (by simp)
  obtain ⟨bk, o, sp⟩ := ad
  have hsp : sp = none := by
   cases sp with
   | none => rfl
   | some s =>
    exfalso
    unfold World.cell? at h0
    split at h0
    · simp [Addr.add] at h0
    · cases h0
  subst hsp
  refine Tryd.strings_Join bk o c0 (x :: l) a1 w (fun j y hj => ?_) ?_ hl.1 hc0 hl.2
  · have hlt := (List.getElem?_eq_some_iff.1 hj).1
    obtain ⟨ad, e, hh⟩ := Kd.at_string hr0 (j : Int) (by omega) (by omega)
    obtain rfl := Option.some.inj e
    rw [show ((j : Int).toNat) = j by omega] at hh
    rw [show rdOf ByteArray.empty (x :: l) (j : Int) = y by simp [rdOf, List.getD_eq_getElem?_getD, hj]] at hh
    rw [show (({ block := bk, off := o, spot := none } : Addr).add j) = ⟨bk, o + j, none⟩ by simp [Addr.add]] at hh
    exact hh
  · unfold World.cell? at h0
    split at h0
    · rename_i hh
      exact (Array.getElem?_eq_some_iff.1 hh).1
    · cases h0
end
section
open Go.Proofs.YtfafjpfigphchaaDoorW.PrintWords.Aside0 renaming mk → yaa
open Go.Proofs.YtfafjpfigphchaaDoorW.PrintWords renaming pw_below_drewN → yab, below_drew1 → yac, below_alloc → yad, below_set → yae

abbrev q24_0 : Array Bool := Array.replicate 12 false
abbrev q24_1 : Array Bool := bl_ 12 1
abbrev q24_2 : Array Bool := bl_ 12 3
abbrev q24_3 : Array Bool := bl_ 12 7
abbrev q24_4 : Array Bool := bl_ 12 15
abbrev q24_5 : Array Bool := bl_ 12 143
abbrev q24_6 : Array Bool := bl_ 12 159
abbrev q24_7 : Array Bool := bl_ 12 191
abbrev q24_8 : Array Bool := bl_ 12 255
abbrev q24_9 : Array Bool := bl_ 12 511
abbrev q24_10 : Array Bool := bl_ 12 1023
abbrev q24_11 : Array Bool := bl_ 12 2047
abbrev q24_12 : Array Bool := bl_ 12 4095
def impl_AskText.l0 : Nat → List ByteArray → List (S23) → Int → Int → List (S23) → ByteArray → Int → Option (ByteArray)
 | 0, _, _, _, _, _, _, _ => none
 | k + 1, x3, x15, x16, x17, x102000, x102001, x102002 => if x17 < x16 then (if 0 ≤ x17 then (if x17 < (x15.length : Int) then ((impl_OpText.f k ((rd_T23 x15 x17).f0) ((rd_T23 x15 x17).f1) ((rd_T23 x15 x17).f2) ((rd_T23 x15 x17).f3) ((rd_T23 x15 x17).f4)).bind fun t108 => (if x3.length < 8796093022208 then (impl_AskText.l0 k (x3 ++ [t108]) x15 x16 (wrap64 (x17 + 1)) x102000 x102001 x102002) else (none))) else (none)) else (none)) else (if (x3.length : Int) > 0 then ((strings_Join.f x3 (⟨#[44]⟩ : ByteArray)).bind fun t112 => (if 1 + t112.size ≤ 9223372036854775807 then (if ((⟨#[47]⟩ : ByteArray) ++ t112).size + 1 ≤ 9223372036854775807 then (if (((⟨#[47]⟩ : ByteArray) ++ t112) ++ (⟨#[47]⟩ : ByteArray)).size + x102001.size ≤ 9223372036854775807 then (if ((((⟨#[47]⟩ : ByteArray) ++ t112) ++ (⟨#[47]⟩ : ByteArray)) ++ x102001).size + 3 ≤ 9223372036854775807 then ((strconv_Itoa_40.f x102002).bind fun t113 => (if (((((⟨#[47]⟩ : ByteArray) ++ t112) ++ (⟨#[47]⟩ : ByteArray)) ++ x102001) ++ (⟨#[63, 101, 61]⟩ : ByteArray)).size + t113.size ≤ 9223372036854775807 then (some ((((((⟨#[47]⟩ : ByteArray) ++ t112) ++ (⟨#[47]⟩ : ByteArray)) ++ x102001) ++ (⟨#[63, 101, 61]⟩ : ByteArray)) ++ t113)) else (none))) else (none)) else (none)) else (none)) else (none))) else (if 1 + 1 ≤ 9223372036854775807 then (if (((⟨#[47]⟩ : ByteArray) ++ (⟨#[45]⟩ : ByteArray)) ++ (⟨#[47]⟩ : ByteArray)).size + x102001.size ≤ 9223372036854775807 then (if ((((⟨#[47]⟩ : ByteArray) ++ (⟨#[45]⟩ : ByteArray)) ++ (⟨#[47]⟩ : ByteArray)) ++ x102001).size + 3 ≤ 9223372036854775807 then ((strconv_Itoa_40.f x102002).bind fun t114 => (if (((((⟨#[47]⟩ : ByteArray) ++ (⟨#[45]⟩ : ByteArray)) ++ (⟨#[47]⟩ : ByteArray)) ++ x102001) ++ (⟨#[63, 101, 61]⟩ : ByteArray)).size + t114.size ≤ 9223372036854775807 then (some ((((((⟨#[47]⟩ : ByteArray) ++ (⟨#[45]⟩ : ByteArray)) ++ (⟨#[47]⟩ : ByteArray)) ++ x102001) ++ (⟨#[63, 101, 61]⟩ : ByteArray)) ++ t114)) else (none))) else (none)) else (none)) else (none)))
def impl_AskText.f (k : Nat) (l0_0 : List (S23)) (a0_1 : ByteArray) (a0_2 : Int) : Option (ByteArray) := (impl_AskOk.f k l0_0 a0_1 a0_2).bind fun t102 => (if t102 = true then (if 0 ≤ (l0_0.length : Int) then (if ((l0_0.length : Int) : Int).toNat ≤ 17592186044416 then (impl_AskText.l0 k (([] : List ByteArray)) l0_0 (l0_0.length : Int) 0 l0_0 a0_1 a0_2) else (none)) else (none)) else (some (⟨#[]⟩ : ByteArray)))
def impl_AskText.T12 : Bool × List (List Nat × List Nat) := (true, [([], []), ([0], [0]), ([1], [1]), ([], []), ([3], [3]), ([2, 4], [2, 4]), ([5], [5]), ([], []), ([7], [7]), ([8], [8]), ([6, 9], [6, 9]), ([10, 9, 0, 1, 2, 3, 4, 5, 6, 7, 8, 9, 10], [10])])
def impl_AskText.B12 : List Nat := [0, 1, 3, 0, 8, 31, 63, 0, 128, 384, 1023, 2047]
theorem impl_AskText.tab12 : rtab .any (opsOf Tryd.f24 12) = impl_AskText.T12 := by kernel_rfl
theorem impl_AskText.bits12 : waitsOk impl_AskText.T12.2 impl_AskText.B12 = true := by kernel_rfl
set_option maxHeartbeats 8000000 in
set_option maxRecDepth 100000 in
theorem impl_AskText.calls (k : Nat) (A0_0 : Option Addr) (c0_0 : Nat) (l0_0 : List (S23)) (a0_1 : ByteArray) (a0_2 : Int) (r : ByteArray) (w : World) (hr0_0 : Kd.C k23 w A0_0 l0_0.length l0_0) (hc0_0 : l0_0.length ≤ c0_0) (h : impl_AskText.f k l0_0 a0_1 a0_2 = some r) (hG : Glob w) :
  Calls Tryd.prog 24 #[.agg #[.slice A0_0 l0_0.length c0_0, .string a0_1, .int .i64 a0_2]] w fun e w' => e = .returned (.string r) ∧ Below w.heap.size w w' := by
 have HG := yaa hG; clear hG; have hu37 := Tryd.underlying37; have hu23 := Tryd.underlying23; have HR0_0 := yaa hr0_0; have HC0_0 := yaa hc0_0; clear hr0_0 hc0_0; have HB := yaa (Below.refl w.heap.size w); have H : ((impl_AskOk.f k l0_0 a0_1 a0_2).bind fun e2 => (if e2 = true then (if 0 ≤ (l0_0.length : Int) then (if ((l0_0.length : Int) : Int).toNat ≤ 17592186044416 then (impl_AskText.l0 k (([] : List ByteArray)) l0_0 (l0_0.length : Int) 0 l0_0 a0_1 a0_2) else (none)) else (none)) else (some (⟨#[]⟩ : ByteArray)))) = some r := h; clear h; obtain ⟨e2, A2, H⟩ := bindA H; (try dsimp only at H)
 by_cases c3 : e2 = true
 ·
  subst c3
  rw [if_pos rfl] at H
  by_cases c4 : 0 ≤ (l0_0.length : Int)
  ·
   rw [if_pos c4] at H
   have i3 := eq_true c4; replace c4 := decide_eq_true c4
   by_cases c5 : ((l0_0.length : Int) : Int).toNat ≤ 17592186044416
   ·
    rw [if_pos c5] at H
    have i4 := eq_true c5; replace c5 := decide_eq_true c5; obtain ⟨y103, hy103⟩ : ∃ y_ : List ByteArray, y_ = (([] : List ByteArray)) := ⟨_, rfl⟩
    replace H : (impl_AskText.l0 k y103 l0_0 (l0_0.length : Int) 0 l0_0 a0_1 a0_2) = some r := by first | (rw [hy103]; with_reducible exact H) | (have H2_ := (Option.bind_some _ _).symm.trans H; rw [hy103]; with_reducible exact H2_) | (have H2_ := (Option.bind_some _ _).symm.trans H; with_reducible exact H2_) | with_reducible exact H | (rw [hy103]; exact H) | exact H
    have Ny103 := yaa hy103; clear hy103; have H' := yaa H; clear H
    go_enter Tryd.func24, Tryd.ntmps24
    go_wp2_with (first | ((with_reducible refine gd_ 1 rfl ?_); refine bx_ 1 rfl #[.slice A0_0 l0_0.length c0_0, .string a0_1, .int .i64 a0_2] 37 ?_; intro a6 hg w6 hbox hb; have a3 := yaa (hbox); have b8 := yaa ((by rw [hg]; exact (below_size (upH HB.out)) : w.heap.size ≤ a6)); replace HB := yaa (below_step (upH HB.out) hb); have g2 := b8; clear hb hbox hg; obtain ⟨e3, e4, e5⟩ := cc3_ a3.out; obtain ⟨e7, e8⟩ := cf2_ a3.out; have f5 := blk_frozen a3.out 2) | ((with_reducible refine gc_ 27 rfl ?_); refine gl_ (some 8) rfl Tryd.func27 #[.agg #[.slice A0_0 l0_0.length c0_0, .string a0_1, .int .i64 a0_2]] ?_; (with_reducible refine (impl_AskOk.calls k _ _ l0_0 a0_1 a0_2 true _ ?side1 ?side2 A2.out).mono ?_); (case side1 => repeat (first | exact (Kd.C_below HR0_0.out HB.out) | (with_reducible refine Kd.C_alloc ?_ _) | (with_reducible refine Kd.C_drewN ?_ _) | (with_reducible refine Kd.C_drew ?_))); (case side2 => exact HC0_0.out); rintro e w8 ⟨rfl, hb⟩; refine ⟨_, rfl, ?_⟩; replace a3 := yaa (blk_below (upB a3.out) hb); replace HB := yaa (below_step (by repeat (with_reducible first | exact HB.out | apply yad | apply yab | apply yac | refine yae ?_ (Aside0.out ‹_›))) hb); (try clear hb); obtain ⟨f6, f7, f8⟩ := cc3_ a3.out; obtain ⟨f9, g0⟩ := cf2_ a3.out; have g1 := blk_frozen a3.out 2) | ((with_reducible refine gd_ 13 rfl ?_); refine Kd.R_make0 Kd.string _ 9 rfl (N := 13) rfl 45 _ _ rfl (l0_0.length : Int) rfl rfl Tryd.underlying45 (.string ⟨#[]⟩) 16 info9 rfl (by decide) (by omega) (⟨#[]⟩ : ByteArray) (ok := fun _ => True) (okp := fun _ => True) rfl (fun _ hk => hk) trivial (of_decide_eq_true (by assumption)) (Nat.le_trans (Nat.mul_le_mul_right _ (of_decide_eq_true (by assumption) : (l0_0.length : Int).toNat ≤ 17592186044416)) (by omega)) (Below.refl _ _) (Nat.le_refl _) ?_; intro m2 w10 b9 hb hg_ hnew_; clear hg_ hnew_; (first | rw [← Ny103.out] at b9 | (simp only [Int.reduceToNat] at b9; rw [← Ny103.out] at b9)); have e0 := yaa (Kd.R_lower b9 (below_size (by repeat (with_reducible first | exact HB.out | apply yad | apply yab | apply yac | refine yae ?_ (Aside0.out ‹_›))))); replace a3 := yaa (blk_below (upB a3.out) hb); replace HB := yaa (below_step (by repeat (with_reducible first | exact HB.out | apply yad | apply yab | apply yac | refine yae ?_ (Aside0.out ‹_›))) hb); clear hb b9; obtain ⟨d1, d2, d3⟩ := cc3_ a3.out; obtain ⟨d4, d5⟩ := cf2_ a3.out; have d6 := blk_frozen a3.out 2))
    (try simp only [Act.put, List.setIfInBounds_toArray, List.set_cons_zero, List.set_cons_succ])
    go_loopg [3, 17] k (fun kq v3 v17 w' => ∃ (a9 : List ByteArray) (a4 : Int), v17 = .int .i64 a4 ∧ Aside0 (impl_AskText.l0 kq a9 l0_0 (l0_0.length : Int) a4 l0_0 a0_1 a0_2 = some r) ∧ Aside0 (kq ≤ k) ∧ Aside0 (Kd.R Kd.string 9 w' w.heap.size (fun _ => True) v3 a9) ∧ Aside0 (w'.heap[a6]? = some (.cells #[(.slice A0_0 l0_0.length c0_0), .string a0_1, .int .i64 a0_2] 37 (0, 0))) ∧ Aside0 (Below w.heap.size w w'))
    case atStart => exact ⟨(y103), (0), (by first | rfl | (simp; done) | (simp [*]; done)), H', ⟨Nat.le_refl _⟩, ⟨by first | exact e0.out | exact upR e0.out⟩, ⟨by exact upB a3.out⟩, ⟨by repeat (with_reducible first | exact HB.out | apply yad | apply yab | apply yac | refine yae ?_ (Aside0.out ‹_›))⟩⟩
    case round =>
     clear H'; (try clear c2); (try clear p2); (try clear c3); (try clear c4); (try clear i3); (try clear c4b1); (try clear c5); (try clear i4); (try clear c5b1); (try clear d1); (try clear d2); (try clear d3); (try clear e3); (try clear e4); (try clear e5); (try clear f6); (try clear f7); (try clear f8); (try clear d4); (try clear d5); (try clear d6); (try clear e7); (try clear e8); (try clear f5); (try clear f9); (try clear g0); (try clear g1); obtain ⟨a9, a4, rfl, HA, HK1, a5, a3, HB⟩ := hrel
     cases gk with
     | zero => exact absurd HA.out (by simp [impl_AskText.l0])
     | succ k1 =>
      have H := HA.out; clear HA
      simp only [impl_AskText.l0] at H
      by_cases c13 : a4 < (l0_0.length : Int)
      ·
       rw [if_pos c13] at H
       have g3 : decide (a4 < (l0_0.length : Int)) = true := decide_eq_true c13; clear c13
       by_cases c14 : 0 ≤ a4
       ·
        rw [if_pos c14] at H
        replace c14 := decide_eq_true c14
        by_cases c15 : a4 < (l0_0.length : Int)
        ·
         rw [if_pos c15] at H
         replace c15 := decide_eq_true c15; obtain ⟨d7, A16, H⟩ := bindA H; (try dsimp only at H)
         by_cases c17 : a9.length < 8796093022208
         ·
          rw [if_pos c17] at H
          have LMc17 := yaa c17; clear c17; obtain ⟨y109, hy109⟩ : ∃ y_ : List ByteArray, y_ = (a9 ++ [d7]) := ⟨_, rfl⟩
          replace H : (impl_AskText.l0 k1 y109 l0_0 (l0_0.length : Int) (wrap64 (a4 + 1)) l0_0 a0_1 a0_2) = some r := by first | (rw [hy109]; with_reducible exact H) | (have H2_ := (Option.bind_some _ _).symm.trans H; rw [hy109]; with_reducible exact H2_) | (have H2_ := (Option.bind_some _ _).symm.trans H; with_reducible exact H2_) | with_reducible exact H | (rw [hy109]; exact H) | exact H
          have Ny109 := yaa hy109; clear hy109; have H' := yaa H; clear H; have p106 : 0 ≤ (a4 : Int) := of_decide_eq_true (by assumption); have q106 : a4 < (l0_0.length : Int) := of_decide_eq_true (by assumption); obtain ⟨ad106, i5, b2, b3, b4, b5, b6⟩ := at_T23 HR0_0.out a4 p106 q106
          cases i5
          replace b2 := (upc_ HB.out b2 :); replace b3 := (upc_ HB.out b3 :); replace b4 := (upc_ HB.out b4 :); replace b5 := (upc_ HB.out b5 :); replace b6 := (upc_ HB.out b6 :); replace p106 := eq_true p106; replace q106 := eq_true q106
          go_wp2_with (first | ((with_reducible refine gd_ 5 rfl ?_); refine bx_ 5 rfl #[.int .i64 0, .int .i64 0, .int .i64 0, .int .i64 0, .int .i64 0] 23 ?_; intro b1 hg w18 hbox hb; replace a5 := yaa (Kd.R_below (upR a5.out) hb); have a8 := yaa (hbox); have g4 := yaa ((by rw [hg]; exact (below_size (by repeat (with_reducible first | exact HB.out | apply yad | apply yab | apply yac | refine yae ?_ (Aside0.out ‹_›)))) : w.heap.size ≤ b1)); replace HB := yaa (below_step (by repeat (with_reducible first | exact HB.out | apply yad | apply yab | apply yac | refine yae ?_ (Aside0.out ‹_›))) hb); have j0 := g4; have b0 := yaa ((by rw [hg]; exact Nat.ne_of_lt (blk_lt (upB a3.out)) : a6 ≠ b1)); replace a3 := yaa (blk_below (upB a3.out) hb); have b7 := yaa b0.out.symm; clear hb hbox hg; have j1 := b7.out; have j2 := b0.out; obtain ⟨g7, g8, g9, h0, h1⟩ := cc5_ a8.out; obtain ⟨h2, h3, h4, h5⟩ := cf4_ a8.out; have h6 := blk_frozen a8.out 4) | ((with_reducible refine gc_ 12 rfl ?_); refine gl_ (some 23) rfl Tryd.func12 #[.agg #[.int .i64 ((rd_T23 l0_0 a4).f0), .int .i64 ((rd_T23 l0_0 a4).f1), .int .i64 ((rd_T23 l0_0 a4).f2), .int .i64 ((rd_T23 l0_0 a4).f3), .int .i64 ((rd_T23 l0_0 a4).f4)]] ?_; (with_reducible refine (impl_OpText.calls k1 ((rd_T23 l0_0 a4).f0) ((rd_T23 l0_0 a4).f1) ((rd_T23 l0_0 a4).f2) ((rd_T23 l0_0 a4).f3) ((rd_T23 l0_0 a4).f4) d7 _ A16.out ?sideG).mono ?_); (case sideG => exact Glob.belowW HG.out (by repeat (first | (with_reducible first | exact HB.out | apply yad | apply yab | apply yac | refine yae ?_ (Aside0.out ‹_›)) | exact HB.out | exact Below.refl _ _))); rintro e w21 ⟨rfl, hb⟩; refine ⟨_, rfl, ?_⟩; replace a5 := yaa (Kd.R_below (by (with_reducible repeat (first | apply Kd.R_alloc | apply Kd.R_drewN | apply Kd.R_drew)); exact (Kd.R_mono (Kd.R_far (p := ⟨b1, 4, none⟩) (Kd.R_far (p := ⟨b1, 3, none⟩) (Kd.R_far (p := ⟨b1, 2, none⟩) (Kd.R_far (p := ⟨b1, 1, none⟩) (Kd.R_far (p := ⟨b1, 0, none⟩) (Kd.R_types a5.out a8.out (by decide)) (fun _ hk => hk.2) (.int .i64 ((rd_T23 l0_0 a4).f0))) (fun _ hk => hk.2) (.int .i64 ((rd_T23 l0_0 a4).f1))) (fun _ hk => hk.2) (.int .i64 ((rd_T23 l0_0 a4).f2))) (fun _ hk => hk.2) (.int .i64 ((rd_T23 l0_0 a4).f3))) (fun _ hk => hk.2) (.int .i64 ((rd_T23 l0_0 a4).f4))) (fun _ h_ => h_.1))) hb); replace a3 := yaa (blk_below (g := a6) (o := .cells #[.slice (some ad106) l0_0.length c0_0, .string a0_1, .int .i64 a0_2] 37 (0, 0)) (by repeat (with_reducible first | exact a3.out | refine oneB ?_ | refine blk_far ?_ b0.out _)) hb); replace a8 := yaa (blk_below (g := b1) (o := .cells #[.int .i64 ((rd_T23 l0_0 a4).f0), .int .i64 ((rd_T23 l0_0 a4).f1), .int .i64 ((rd_T23 l0_0 a4).f2), .int .i64 ((rd_T23 l0_0 a4).f3), .int .i64 ((rd_T23 l0_0 a4).f4)] 23 (0, 0)) (by (repeat refine oneB ?_); refine blk_put (cs := #[.int .i64 ((rd_T23 l0_0 a4).f0), .int .i64 ((rd_T23 l0_0 a4).f1), .int .i64 ((rd_T23 l0_0 a4).f2), .int .i64 ((rd_T23 l0_0 a4).f3), .int .i64 0]) ?_ 4 _ rfl; refine blk_put (cs := #[.int .i64 ((rd_T23 l0_0 a4).f0), .int .i64 ((rd_T23 l0_0 a4).f1), .int .i64 ((rd_T23 l0_0 a4).f2), .int .i64 0, .int .i64 0]) ?_ 3 _ rfl; refine blk_put (cs := #[.int .i64 ((rd_T23 l0_0 a4).f0), .int .i64 ((rd_T23 l0_0 a4).f1), .int .i64 0, .int .i64 0, .int .i64 0]) ?_ 2 _ rfl; refine blk_put (cs := #[.int .i64 ((rd_T23 l0_0 a4).f0), .int .i64 0, .int .i64 0, .int .i64 0, .int .i64 0]) ?_ 1 _ rfl; refine blk_put (cs := #[.int .i64 0, .int .i64 0, .int .i64 0, .int .i64 0, .int .i64 0]) ?_ 0 _ rfl; exact upB a8.out) hb); replace HB := yaa (below_step (by repeat (with_reducible first | exact HB.out | apply yad | apply yab | apply yac | refine yae ?_ (Aside0.out ‹_›))) hb); (try clear hb)) | ((with_reducible refine gate_builtin (b := .append) (xs := #[.tmp 21, .tmp 24]) rfl ?_); at_builtin; refine Kd.R_append Kd.string (w0 := w) w.heap.size rfl (.tmp 21) (.tmp 24) 45 9 (.string ⟨#[]⟩) 16 rfl Tryd.underlying45 info9 rfl (by decide) (by omega) u3 a9 d7 [.string d7] (fun _ => True) (fun _ => False) rfl rfl ?aP (fun _ hk => hk.elim) ?aF ?aO ?aB ?aS ?aL ?_; (case aP => exact rfl); (case aB => exact (by repeat (with_reducible first | exact HB.out | apply yad | apply yab | apply yac | refine yae ?_ (Aside0.out ‹_›)))); (case aF => exact (fun _ _ => trivial)); (case aO => exact (upR a5.out)); (case aS => exact (below_size (by repeat (with_reducible first | exact HB.out | apply yad | apply yab | apply yac | refine yae ?_ (Aside0.out ‹_›))))); (case aL => have := LMc17.out; omega); intro m7 w22 ho hb hg hat; rw [← Ny109.out] at ho; replace a3 := yaa (blk_grown (upB a3.out) hg (Kd.R_ne a5.out a3.out (by decide))); replace a8 := yaa (blk_grown (upB a8.out) hg (Kd.R_ne a5.out a8.out (by decide))); replace HB := yaa (hb); have e1 := yaa (ho); clear a5; clear ho hb hg hat))
          go_roundg k1
          case measure => have := HK1.out; omega
          case rel => exact ⟨(y109), (wrap64 (a4 + 1)), (by first | rfl | (simp; done) | (simp [*]; done)), H', ⟨by have := HK1.out; omega⟩, ⟨by first | exact e1.out | exact upR e1.out⟩, ⟨by exact upB a3.out⟩, ⟨by repeat (with_reducible first | exact HB.out | apply yad | apply yab | apply yac | refine yae ?_ (Aside0.out ‹_›))⟩⟩
         ·
          rw [if_neg c17] at H
          exact absurd H (by simp)
        ·
         rw [if_neg c15] at H
         exact absurd H (by simp)
       ·
        rw [if_neg c14] at H
        exact absurd H (by simp)
      ·
       rw [if_neg c13] at H
       have g3 : decide (a4 < (l0_0.length : Int)) = false := decide_eq_false c13; clear c13
       by_cases c23 : (a9.length : Int) > 0
       ·
        rw [if_pos c23] at H
        have g5 : decide (0 < (a9.length : Int)) = true := decide_eq_true c23; have g6 : decide (0 < a9.length) = true := decide_eq_true (by omega); clear c23; obtain ⟨a7, A24, H⟩ := bindA H; (try dsimp only at H)
        by_cases c25 : 1 + a7.size ≤ 9223372036854775807
        ·
         rw [if_pos c25] at H
         have j3 := eq_true c25; have j4 : decide (1 + a7.size ≤ 9223372036854775807) = true := decide_eq_true c25
         try have j5 : (9223372036854775807 < 1 + a7.size) = False := eq_false (Nat.not_lt.2 c25)
         by_cases c26 : ((⟨#[47]⟩ : ByteArray) ++ a7).size + 1 ≤ 9223372036854775807
         ·
          rw [if_pos c26] at H
          have j6 := eq_true c26; have j7 : decide (((⟨#[47]⟩ : ByteArray) ++ a7).size + 1 ≤ 9223372036854775807) = true := decide_eq_true c26
          try have j8 : (9223372036854775807 < ((⟨#[47]⟩ : ByteArray) ++ a7).size + 1) = False := eq_false (Nat.not_lt.2 c26)
          try (have c0 := c26; simp only [ByteArray.size_append', ByteArray.size_mk', List.size_toArray, List.length_cons, List.length_nil, Nat.zero_add, Nat.reduceAdd] at c0; replace c0 := eq_false (Nat.not_lt.2 c0))
          by_cases c27 : (((⟨#[47]⟩ : ByteArray) ++ a7) ++ (⟨#[47]⟩ : ByteArray)).size + a0_1.size ≤ 9223372036854775807
          ·
           rw [if_pos c27] at H
           have j9 := eq_true c27; have k0 : decide ((((⟨#[47]⟩ : ByteArray) ++ a7) ++ (⟨#[47]⟩ : ByteArray)).size + a0_1.size ≤ 9223372036854775807) = true := decide_eq_true c27
           try have k2 : (9223372036854775807 < (((⟨#[47]⟩ : ByteArray) ++ a7) ++ (⟨#[47]⟩ : ByteArray)).size + a0_1.size) = False := eq_false (Nat.not_lt.2 c27)
           try (have c1 := c27; simp only [ByteArray.size_append', ByteArray.size_mk', List.size_toArray, List.length_cons, List.length_nil, Nat.zero_add, Nat.reduceAdd] at c1; replace c1 := eq_false (Nat.not_lt.2 c1))
           by_cases c28 : ((((⟨#[47]⟩ : ByteArray) ++ a7) ++ (⟨#[47]⟩ : ByteArray)) ++ a0_1).size + 3 ≤ 9223372036854775807
           ·
            rw [if_pos c28] at H
            have k3 := eq_true c28; have k4 : decide (((((⟨#[47]⟩ : ByteArray) ++ a7) ++ (⟨#[47]⟩ : ByteArray)) ++ a0_1).size + 3 ≤ 9223372036854775807) = true := decide_eq_true c28
            try have k5 : (9223372036854775807 < ((((⟨#[47]⟩ : ByteArray) ++ a7) ++ (⟨#[47]⟩ : ByteArray)) ++ a0_1).size + 3) = False := eq_false (Nat.not_lt.2 c28)
            try (have c6 := c28; simp only [ByteArray.size_append', ByteArray.size_mk', List.size_toArray, List.length_cons, List.length_nil, Nat.zero_add, Nat.reduceAdd] at c6; replace c6 := eq_false (Nat.not_lt.2 c6))
            obtain ⟨d8, A29, H⟩ := bindA H; (try dsimp only at H)
            by_cases c30 : (((((⟨#[47]⟩ : ByteArray) ++ a7) ++ (⟨#[47]⟩ : ByteArray)) ++ a0_1) ++ (⟨#[63, 101, 61]⟩ : ByteArray)).size + d8.size ≤ 9223372036854775807
            ·
             rw [if_pos c30] at H
             have k6 := eq_true c30; have k7 : decide ((((((⟨#[47]⟩ : ByteArray) ++ a7) ++ (⟨#[47]⟩ : ByteArray)) ++ a0_1) ++ (⟨#[63, 101, 61]⟩ : ByteArray)).size + d8.size ≤ 9223372036854775807) = true := decide_eq_true c30
             try have k8 : (9223372036854775807 < (((((⟨#[47]⟩ : ByteArray) ++ a7) ++ (⟨#[47]⟩ : ByteArray)) ++ a0_1) ++ (⟨#[63, 101, 61]⟩ : ByteArray)).size + d8.size) = False := eq_false (Nat.not_lt.2 c30)
             try (have c7 := c30; simp only [ByteArray.size_append', ByteArray.size_mk', List.size_toArray, List.length_cons, List.length_nil, Nat.zero_add, Nat.reduceAdd] at c7; replace c7 := eq_false (Nat.not_lt.2 c7))
             obtain rfl := Option.some.inj H; obtain ⟨i6, i7, i8⟩ := Kd.R_slice a5.out; subst i8
             try go_wp2_with (first | ((with_reducible refine gc_ 58 rfl ?_); refine gl_ (some 31) rfl Tryd.func58 #[.slice i6 a9.length i7, .string (⟨#[44]⟩ : ByteArray)] ?_; (with_reducible refine (strings_Join.calls _ _ a9 (⟨#[44]⟩ : ByteArray) a7 _ ?side1 ?side2 A24.out).mono ?_); (case side1 => repeat (first | exact (Kd.R_reads' a5.out).2.2 | (with_reducible refine Kd.C_alloc ?_ _) | (with_reducible refine Kd.C_drewN ?_ _) | (with_reducible refine Kd.C_drew ?_))); (case side2 => exact (Kd.R_reads' a5.out).2.1); rintro e w32 ⟨rfl, hb⟩; refine ⟨_, rfl, ?_⟩; replace a5 := yaa (Kd.R_below (upR a5.out) hb); replace a3 := yaa (blk_below (upB a3.out) hb); replace HB := yaa (below_step (by repeat (with_reducible first | exact HB.out | apply yad | apply yab | apply yac | refine yae ?_ (Aside0.out ‹_›))) hb); (try clear hb)))
             replace a5 := yaa (Kd.R_drew a5.out); replace a3 := yaa (blk_drew a3.out); replace HB := yaa (yac HB.out)
             refine start_ (n := 12) (S := fun w' => w'.cell? ⟨a6, 0, none⟩ = some (.slice A0_0 l0_0.length c0_0) ∧ w'.cell? ⟨a6, 1, none⟩ = some (.string a0_1) ∧ w'.cell? ⟨a6, 2, none⟩ = some (.int .i64 a0_2)) (ds := []) q24_0 (by kernel_rfl) rfl rfl ⟨(blk_cell a3.out 0).trans rfl, (blk_cell a3.out 1).trans rfl, (blk_cell a3.out 2).trans rfl⟩ (fun hHeld => ?_); refine with_tabW impl_AskText.tab12 impl_AskText.bits12 (fun HT_ HW_ => ?_)
             generalize w32.drew = w33 at a5 a3 HB hHeld ⊢
             refine pz_ 0 32 q24_1 HT_ (by kernel_rfl) ?_
             refine pz_ 1 33 q24_2 HT_ (by kernel_rfl) ?_
             refine pz_ 2 34 q24_3 HT_ (by kernel_rfl) ?_
             refine pz_ 3 35 q24_4 HT_ (by kernel_rfl) ?_
             refine pz_ 7 39 q24_5 HT_ (by kernel_rfl) ?_
             refine tz_ 4 36 q24_6 HT_ HW_ (by kernel_rfl) hHeld ?_
             refine pz_ 5 37 q24_7 HT_ (by kernel_rfl) ?_
             refine pz_ 6 38 q24_8 HT_ (by kernel_rfl) ?_
             refine tz_ 8 40 q24_9 HT_ HW_ (by kernel_rfl) hHeld ?_
             refine one_ (i := 9) (N := some 41) q24_10 rfl rfl (one_of HT_.out (by kernel_rfl)) (by decide) (fun K hK => ?_)
             refine goes_ Tryd.func40 (by kernel_rfl) rfl #[.int .i64 a0_2] (by rfl) rfl rfl (by (try simp only [List.map_toArray, List.map_cons, List.map_nil]); first | done | rfl | (simp only [List.length_drop, List.length_take]; rfl)) ?_
             (with_reducible refine (strconv_Itoa_40.calls a0_2 d8 _ A29.out ?sideG).mono ?_); (case sideG => exact GlobP.belowW (Glob.toP HG.out) (by repeat (first | (with_reducible first | exact HB.out | apply yad | apply yab | apply yac | refine yae ?_ (Aside0.out ‹_›)) | exact HB.out | exact Below.refl _ _)))
             rintro e w34 ⟨rfl, hb⟩; refine ⟨_, rfl, ?_⟩; have n0_ := yaa (Kd.R_below (upR a5.out) hb); have n1_ := yaa (blk_below (upB a3.out) hb)
             have n2_ := yaa (below_step (by repeat (with_reducible first | exact HB.out | apply yad | apply yab | apply yac | refine yae ?_ (Aside0.out ‹_›))) hb)
             clear a5; clear a3; clear HB; have a5 := n0_; have a3 := n1_; have HB := n2_; clear n0_ n1_ n2_; (try clear hb); (try clear hb2); (try clear hk); (try clear hi)
             refine hK.out _ _ ⟨(blk_cell a3.out 0).trans rfl, (blk_cell a3.out 1).trans rfl, (blk_cell a3.out 2).trans rfl⟩ (fun hHeld => ?_)
             clear hK K
             refine norm_ (a' := ?_) ?_ ?_
             rotate_left
             ·
              show Act.put _ (some 41) _ = _
              simp only [Act.put, List.setIfInBounds_toArray, List.set_cons_zero, List.set_cons_succ, i64_w, i32_w]
              rfl
             refine pz_ 10 42 q24_11 HT_ (by kernel_rfl) ?_
             refine pz_ 11 2 q24_12 HT_ (by kernel_rfl) ?_
             refine done_ (done_of HT_.out (by kernel_rfl)) ?_
             try go_wp2
             go_ret
             exact ⟨by first | rfl | (simp [*, errW_none, errW_some] <;> rfl), by repeat (with_reducible first | exact HB.out | apply yad | apply yab | apply yac | refine yae ?_ (Aside0.out ‹_›))⟩
            ·
             rw [if_neg c30] at H
             exact absurd H (by simp)
           ·
            rw [if_neg c28] at H
            exact absurd H (by simp)
          ·
           rw [if_neg c27] at H
           exact absurd H (by simp)
         ·
          rw [if_neg c26] at H
          exact absurd H (by simp)
        ·
         rw [if_neg c25] at H
         exact absurd H (by simp)
       ·
        rw [if_neg c23] at H
        have g5 : decide (0 < (a9.length : Int)) = false := decide_eq_false c23; have g6 : decide (0 < a9.length) = false := decide_eq_false (by omega); clear c23
        by_cases c35 : 1 + 1 ≤ 9223372036854775807
        ·
         rw [if_pos c35] at H
         have k9 := eq_true c35; have l1 : decide (1 + 1 ≤ 9223372036854775807) = true := decide_eq_true c35
         try have l2 : (9223372036854775807 < 1 + 1) = False := eq_false (Nat.not_lt.2 c35)
         by_cases c36 : (((⟨#[47]⟩ : ByteArray) ++ (⟨#[45]⟩ : ByteArray)) ++ (⟨#[47]⟩ : ByteArray)).size + a0_1.size ≤ 9223372036854775807
         ·
          rw [if_pos c36] at H
          have l3 := eq_true c36; have l4 : decide ((((⟨#[47]⟩ : ByteArray) ++ (⟨#[45]⟩ : ByteArray)) ++ (⟨#[47]⟩ : ByteArray)).size + a0_1.size ≤ 9223372036854775807) = true := decide_eq_true c36
          try have l5 : (9223372036854775807 < (((⟨#[47]⟩ : ByteArray) ++ (⟨#[45]⟩ : ByteArray)) ++ (⟨#[47]⟩ : ByteArray)).size + a0_1.size) = False := eq_false (Nat.not_lt.2 c36)
          try (have c8 := c36; simp only [ByteArray.size_append', ByteArray.size_mk', List.size_toArray, List.length_cons, List.length_nil, Nat.zero_add, Nat.reduceAdd] at c8; replace c8 := eq_false (Nat.not_lt.2 c8))
          by_cases c37 : ((((⟨#[47]⟩ : ByteArray) ++ (⟨#[45]⟩ : ByteArray)) ++ (⟨#[47]⟩ : ByteArray)) ++ a0_1).size + 3 ≤ 9223372036854775807
          ·
           rw [if_pos c37] at H
           have l6 := eq_true c37; have l7 : decide (((((⟨#[47]⟩ : ByteArray) ++ (⟨#[45]⟩ : ByteArray)) ++ (⟨#[47]⟩ : ByteArray)) ++ a0_1).size + 3 ≤ 9223372036854775807) = true := decide_eq_true c37
           try have l8 : (9223372036854775807 < ((((⟨#[47]⟩ : ByteArray) ++ (⟨#[45]⟩ : ByteArray)) ++ (⟨#[47]⟩ : ByteArray)) ++ a0_1).size + 3) = False := eq_false (Nat.not_lt.2 c37)
           try (have c9 := c37; simp only [ByteArray.size_append', ByteArray.size_mk', List.size_toArray, List.length_cons, List.length_nil, Nat.zero_add, Nat.reduceAdd] at c9; replace c9 := eq_false (Nat.not_lt.2 c9))
           obtain ⟨d9, A38, H⟩ := bindA H; (try dsimp only at H)
           by_cases c39 : (((((⟨#[47]⟩ : ByteArray) ++ (⟨#[45]⟩ : ByteArray)) ++ (⟨#[47]⟩ : ByteArray)) ++ a0_1) ++ (⟨#[63, 101, 61]⟩ : ByteArray)).size + d9.size ≤ 9223372036854775807
           ·
            rw [if_pos c39] at H
            have l9 := eq_true c39; have m0 : decide ((((((⟨#[47]⟩ : ByteArray) ++ (⟨#[45]⟩ : ByteArray)) ++ (⟨#[47]⟩ : ByteArray)) ++ a0_1) ++ (⟨#[63, 101, 61]⟩ : ByteArray)).size + d9.size ≤ 9223372036854775807) = true := decide_eq_true c39
            try have m1 : (9223372036854775807 < (((((⟨#[47]⟩ : ByteArray) ++ (⟨#[45]⟩ : ByteArray)) ++ (⟨#[47]⟩ : ByteArray)) ++ a0_1) ++ (⟨#[63, 101, 61]⟩ : ByteArray)).size + d9.size) = False := eq_false (Nat.not_lt.2 c39)
            try (have d0 := c39; simp only [ByteArray.size_append', ByteArray.size_mk', List.size_toArray, List.length_cons, List.length_nil, Nat.zero_add, Nat.reduceAdd] at d0; replace d0 := eq_false (Nat.not_lt.2 d0))
            obtain rfl := Option.some.inj H; obtain ⟨m8, m9, i9⟩ := Kd.R_slice a5.out; subst i9
            try go_wp2
            replace a5 := yaa (Kd.R_drew a5.out); replace a3 := yaa (blk_drew a3.out); replace HB := yaa (yac HB.out)
            refine start_ (n := 12) (S := fun w' => w'.cell? ⟨a6, 0, none⟩ = some (.slice A0_0 l0_0.length c0_0) ∧ w'.cell? ⟨a6, 1, none⟩ = some (.string a0_1) ∧ w'.cell? ⟨a6, 2, none⟩ = some (.int .i64 a0_2)) (ds := []) q24_0 (by kernel_rfl) rfl rfl ⟨(blk_cell a3.out 0).trans rfl, (blk_cell a3.out 1).trans rfl, (blk_cell a3.out 2).trans rfl⟩ (fun hHeld => ?_); refine with_tabW impl_AskText.tab12 impl_AskText.bits12 (fun HT_ HW_ => ?_)
            generalize wr.drew = w41 at a5 a3 HB hHeld ⊢
            refine pz_ 0 32 q24_1 HT_ (by kernel_rfl) ?_
            refine pz_ 1 33 q24_2 HT_ (by kernel_rfl) ?_
            refine pz_ 2 34 q24_3 HT_ (by kernel_rfl) ?_
            refine pz_ 3 35 q24_4 HT_ (by kernel_rfl) ?_
            refine pz_ 7 39 q24_5 HT_ (by kernel_rfl) ?_
            refine tz_ 4 36 q24_6 HT_ HW_ (by kernel_rfl) hHeld ?_
            refine pz_ 5 37 q24_7 HT_ (by kernel_rfl) ?_
            refine pz_ 6 38 q24_8 HT_ (by kernel_rfl) ?_
            refine tz_ 8 40 q24_9 HT_ HW_ (by kernel_rfl) hHeld ?_
            refine one_ (i := 9) (N := some 41) q24_10 rfl rfl (one_of HT_.out (by kernel_rfl)) (by decide) (fun K hK => ?_)
            refine goes_ Tryd.func40 (by kernel_rfl) rfl #[.int .i64 a0_2] (by rfl) rfl rfl (by (try simp only [List.map_toArray, List.map_cons, List.map_nil]); first | done | rfl | (simp only [List.length_drop, List.length_take]; rfl)) ?_
            (with_reducible refine (strconv_Itoa_40.calls a0_2 d9 _ A38.out ?sideG).mono ?_); (case sideG => exact GlobP.belowW (Glob.toP HG.out) (by repeat (first | (with_reducible first | exact HB.out | apply yad | apply yab | apply yac | refine yae ?_ (Aside0.out ‹_›)) | exact HB.out | exact Below.refl _ _)))
            rintro e w42 ⟨rfl, hb⟩; refine ⟨_, rfl, ?_⟩; have n0_ := yaa (Kd.R_below (upR a5.out) hb); have n1_ := yaa (blk_below (upB a3.out) hb)
            have n2_ := yaa (below_step (by repeat (with_reducible first | exact HB.out | apply yad | apply yab | apply yac | refine yae ?_ (Aside0.out ‹_›))) hb)
            clear a5; clear a3; clear HB; have a5 := n0_; have a3 := n1_; have HB := n2_; clear n0_ n1_ n2_; (try clear hb); (try clear hb2); (try clear hk); (try clear hi)
            refine hK.out _ _ ⟨(blk_cell a3.out 0).trans rfl, (blk_cell a3.out 1).trans rfl, (blk_cell a3.out 2).trans rfl⟩ (fun hHeld => ?_)
            clear hK K
            refine norm_ (a' := ?_) ?_ ?_
            rotate_left
            ·
             show Act.put _ (some 41) _ = _
             simp only [Act.put, List.setIfInBounds_toArray, List.set_cons_zero, List.set_cons_succ, i64_w, i32_w]
             rfl
            refine pz_ 10 42 q24_11 HT_ (by kernel_rfl) ?_
            refine pz_ 11 2 q24_12 HT_ (by kernel_rfl) ?_
            refine done_ (done_of HT_.out (by kernel_rfl)) ?_
            try go_wp2
            go_ret
            exact ⟨by first | rfl | (simp [*, errW_none, errW_some] <;> rfl), by repeat (with_reducible first | exact HB.out | apply yad | apply yab | apply yac | refine yae ?_ (Aside0.out ‹_›))⟩
           ·
            rw [if_neg c39] at H
            exact absurd H (by simp)
          ·
           rw [if_neg c37] at H
           exact absurd H (by simp)
         ·
          rw [if_neg c36] at H
          exact absurd H (by simp)
        ·
         rw [if_neg c35] at H
         exact absurd H (by simp)
   ·
    rw [if_neg c5] at H
    exact absurd H (by simp)
  ·
   rw [if_neg c4] at H
   exact absurd H (by simp)
 ·
  replace c3 := Bool.eq_false_iff.mpr c3
  subst c3
  rw [if_neg (show ¬ (false = true) by decide)] at H
  obtain rfl := Option.some.inj H
  go_enter Tryd.func24, Tryd.ntmps24
  go_wp2_with (first | ((with_reducible refine gd_ 1 rfl ?_); refine bx_ 1 rfl #[.slice A0_0 l0_0.length c0_0, .string a0_1, .int .i64 a0_2] 37 ?_; intro a6 hg w43 hbox hb; have a3 := yaa (hbox); have b8 := yaa ((by rw [hg]; exact (below_size (upH HB.out)) : w.heap.size ≤ a6)); replace HB := yaa (below_step (upH HB.out) hb); have g2 := b8; clear hb hbox hg; obtain ⟨h7, h8, h9⟩ := cc3_ a3.out; obtain ⟨i0, i1⟩ := cf2_ a3.out; have i2 := blk_frozen a3.out 2) | ((with_reducible refine gc_ 27 rfl ?_); refine gl_ (some 8) rfl Tryd.func27 #[.agg #[.slice A0_0 l0_0.length c0_0, .string a0_1, .int .i64 a0_2]] ?_; (with_reducible refine (impl_AskOk.calls k _ _ l0_0 a0_1 a0_2 false _ ?side1 ?side2 A2.out).mono ?_); (case side1 => repeat (first | exact (Kd.C_below HR0_0.out HB.out) | (with_reducible refine Kd.C_alloc ?_ _) | (with_reducible refine Kd.C_drewN ?_ _) | (with_reducible refine Kd.C_drew ?_))); (case side2 => exact HC0_0.out); rintro e w45 ⟨rfl, hb⟩; refine ⟨_, rfl, ?_⟩; replace a3 := yaa (blk_below (upB a3.out) hb); replace HB := yaa (below_step (by repeat (with_reducible first | exact HB.out | apply yad | apply yab | apply yac | refine yae ?_ (Aside0.out ‹_›))) hb); (try clear hb)))
  go_ret
  exact ⟨by first | rfl | (simp [*, errW_none, errW_some] <;> rfl), by repeat (with_reducible first | exact HB.out | apply yad | apply yab | apply yac | refine yae ?_ (Aside0.out ‹_›))⟩
end
section
/-- The kind of a word, from i on. -/
def kindGo (s : ByteArray) : Nat → Nat → Int × Bool
  | 0, _ => (0, false)
  | n + 1, i => if (formW i).toList = s.toList then ((i : Int), true) else kindGo s n (i + 1)
set_option maxHeartbeats 4000000 in
set_option maxRecDepth 100000 in
theorem opKind_calls (s : ByteArray) (w : World) (hG : Glob w) :
    Calls Tryd.prog 32 #[.string s] w fun e w' => e = .returned (.tuple #[.int .i64 (kindGo s 8 1).1, .bool (kindGo s 8 1).2]) ∧ Below w.heap.size w w' := by
  have HG := Aside0.mk hG; clear hG
  obtain ⟨r, hr⟩ : ∃ r, kindGo s 8 1 = r := ⟨_, rfl⟩
  have HR := Aside0.mk hr
  rw [hr]; clear hr
  go_enter Tryd.func32, Tryd.ntmps32
  go_wp2
  go_loopg [4] 8 (fun kq v4 w' => ∃ i : Nat, kq + i = 9 ∧ 1 ≤ i ∧ v4 = .int .i64 i ∧ Aside0 (kindGo s kq i = r) ∧ Aside0 (Below w.heap.size w w'))
  case atStart => exact ⟨1, by omega, by omega, rfl, HR, Aside0.mk (Below.refl _ _)⟩
  case round =>
    clear HR
    obtain ⟨i, hk, h1, rfl, HR, HB⟩ := hrel
    by_cases h9 : i < 9
    · have HG2 := Aside0.mk (HG.out.belowW HB.out)
      obtain ⟨x0, x1⟩ := form_word HG2.out i h9
      obtain ⟨fw, hfw⟩ : ∃ fw, formW i = fw := ⟨_, rfl⟩
      have HFW := Aside0.mk hfw
      rw [hfw] at x0
      clear hfw x1
      have H2 := HR.out
      rw [show gk = (gk - 1) + 1 by omega, kindGo, HFW.out] at H2
      by_cases hc : fw.toList = s.toList
      · rw [if_pos hc] at H2
        have H3 := Aside0.mk H2
        have k0 : (fw.toList == s.toList) = true := beq_iff_eq.mpr hc
        have k1 : decide (fw.toList = s.toList) = true := decide_eq_true hc
        clear H2 hc
        go_wp2
        go_ret2
        refine ⟨?_, HB.out⟩
        rw [← H3.out]; rfl
      · rw [if_neg hc] at H2
        have H3 := Aside0.mk H2
        have k0 : (fw.toList == s.toList) = false := beq_eq_false_iff_ne.mpr hc
        have k1 : decide (fw.toList = s.toList) = false := decide_eq_false hc
        clear H2 hc
        go_wp2
        go_roundg (gk - 1)
        case measure => omega
        case rel => exact ⟨i + 1, by omega, by omega, by first | rfl | (simp; done) | (unfold wrap64; simp; omega), H3, HB⟩
    · have H2 := HR.out
      rw [show gk = 0 by omega, kindGo] at H2
      have H3 := Aside0.mk H2
      clear H2
      go_wp2
      go_ret2
      refine ⟨?_, HB.out⟩
      rw [← H3.out]; rfl
/-- Parts that are read, one by one, and whether any failed. -/
def scanF (k : Nat) : List ByteArray → Bool → Option (List Int × Bool)
  | [], fl => some ([], fl)
  | p :: ps, fl => (impl_numberRead.f k p).bind fun r => (scanF k ps (fl || !r.2)).bind fun x => some (r.1 :: x.1, x.2)
theorem cells2_at {w : World} {B : Nat} {a b : Value} {t : TypeId} (h : w.heap[B]? = some (.cells #[a, b] t (0, 0))) : w.cell? ⟨B, 0, none⟩ = some a ∧ w.cell? ⟨B, 1, none⟩ = some b := ⟨(cell_of_row _ _ _ _ _ _ h).trans rfl, (cell_of_row _ _ _ _ _ _ h).trans rfl⟩
set_option maxHeartbeats 4000000 in
set_option maxRecDepth 100000 in
theorem scanPart_calls (k B : Nat) (rest : ByteArray) (fl : Bool) (s : ByteArray) (n : Int) (ok : Bool) (w : World) (hb : w.heap[B]? = some (.cells #[.string rest, .bool fl] 55 (0, 0))) (h : impl_numberRead.f k s = some (n, ok)) :
    Calls Tryd.prog 53 #[.pointer (some ⟨B, 0, none⟩), .string s, .func (.func 34) #[] #[]] w fun e w' => e = .returned (.int .i64 n) ∧ ∃ m, w' = (w.drewN m).setCell ⟨B, 1, none⟩ (.bool (fl || !ok)) := by
  have H := Aside0.mk h; clear h
  obtain ⟨x0, x1⟩ := cells2_at hb
  have y1 := blk_frozen hb 1
  have hx : ∀ m, (w.drewN m).cell? ⟨B, 1, none⟩ = some (.bool fl) := fun m => x1
  have hy : ∀ m, (w.drewN m).frozen? ⟨B, 1, none⟩ = false := fun m => y1
  clear hb x0
  have henter : ∀ (args : Array Value) (W : World), (callFunc 34 args).run Tryd.prog W = .ok (.enter 34 args) W := fun args W => enters_ Tryd.func34 (by kernel_rfl) rfl args W
  cases fl with
  | true =>
    go_enter Tryd.func53, Tryd.ntmps53
    go_wp2_with (refine (impl_numberRead.calls k s n ok _ H.out).mono ?_; rintro e w2 ⟨rfl, ⟨m, rfl⟩⟩)
    go_ret
    exact ⟨rfl, m, rfl⟩
  | false =>
    go_enter Tryd.func53, Tryd.ntmps53
    go_wp2_with (refine (impl_numberRead.calls k s n ok _ H.out).mono ?_; rintro e w2 ⟨rfl, ⟨m, rfl⟩⟩)
    go_ret
    exact ⟨rfl, m, rfl⟩
/-- The parts of a text. -/
def partsB (s sep : ByteArray) : List ByteArray := Lib.splitB sep 0 (Lib.countB s sep) s
theorem partsB_len (s sep : ByteArray) (h1 : 1 ≤ sep.size) : (partsB s sep).length = Lib.countB s sep + 1 := Lib.splitB_all sep h1 0 _ s rfl
theorem partsB_le (s sep : ByteArray) (h1 : 1 ≤ sep.size) : (partsB s sep).length ≤ s.size + 1 := by
  rw [partsB_len s sep h1]
  have := Lib.countB_le sep h1 s.size s (Nat.le_refl _)
  omega
theorem split_calls (s sep : ByteArray) (w : World) (hG : Glob w) (hs : s.size ≤ 1048576) (h1 : 1 ≤ sep.size) :
    Calls Tryd.prog 66 #[.string s, .string sep] w fun e w' => e = .returned (.slice (some ⟨w.heap.size, 0, none⟩) (partsB s sep).length (partsB s sep).length) ∧ w' = w.alloc (.cells ((partsB s sep).map Value.string).toArray 9) := by
  obtain ⟨m, hm⟩ := hG.max
  rw [partsB_len s sep h1]
  exact Tryd.strings_Split s sep m w (by omega) hm h1
theorem part_at {w : World} {P : Nat} {ps : List ByteArray} {t : TypeId} {fr : Nat × Nat} (h : w.heap[P]? = some (.cells (ps.map Value.string).toArray t fr)) {i : Nat} {p : ByteArray} (hi : ps[i]? = some p) : w.cell? ⟨P, i, none⟩ = some (.string p) := by
  rw [cell_of_row _ _ _ _ _ _ h]
  simp [hi]
set_option maxHeartbeats 4000000 in
set_option maxRecDepth 100000 in
theorem scanInt_calls (k B : Nat) (rest s sep : ByteArray) (ns : List Int) (fl : Bool) (w : World) (hG : Glob w) (hs : s.size ≤ 1048576) (h1 : 1 ≤ sep.size) (hb : w.heap[B]? = some (.cells #[.string rest, .bool false] 55 (0, 0))) (h : scanF k (partsB s sep) false = some (ns, fl)) :
    Calls Tryd.prog 33 #[.pointer (some ⟨B, 0, none⟩), .string s, .string sep, .func (.func 34) #[] #[]] w fun e w' => ∃ v, e = .returned v ∧ Kd.R (Kd.int .i64) 3 w' B (fun j => B < j) v ns ∧ w'.heap[B]? = some (.cells #[.string rest, .bool fl] 55 (0, 0)) ∧ Below B w w' := by
  have hBl := blk_lt hb
  obtain ⟨ps, hps⟩ : ∃ ps, partsB s sep = ps := ⟨_, rfl⟩
  have hple := partsB_le s sep h1
  rw [hps] at h hple
  obtain ⟨P, hP⟩ : ∃ P, w.heap.size = P := ⟨_, rfl⟩
  have HPS := Aside0.mk hps; have HG := Aside0.mk hG; have HS := Aside0.mk hs; have H1 := Aside0.mk h1; have HB := Aside0.mk hb; have H := Aside0.mk h; have HL := Aside0.mk hple; have HPq := Aside0.mk hP; have HBP := Aside0.mk (show B < P by omega)
  clear hps hG hs h1 hb h hple hP hBl
  obtain ⟨n, hn⟩ : ∃ n, ps.length = n := ⟨_, rfl⟩
  have HN := Aside0.mk hn
  have hn2 : (n : Int) ≤ 1048577 := by have := HL.out; have := HS.out; omega
  clear hn
  go_enter Tryd.func33, Tryd.ntmps33
  go_wp2_with (go_at_call 66; refine (split_calls s sep _ HG.out HS.out H1.out).mono ?_; rintro e w2 ⟨rfl, hw2⟩; rw [HPS.out, HN.out, HPq.out]; have HW := Aside0.mk hw2; clear hw2)
  have HP2 : Aside0 (w2.heap[P]? = some (.cells (ps.map Value.string).toArray 9 (0, 0))) := ⟨by rw [HW.out, HPS.out, ← HPq.out]; exact heap_alloc_new _ _⟩
  have HB2 : Aside0 (w2.heap[B]? = some (.cells #[.string rest, .bool false] 55 (0, 0))) := ⟨by rw [HW.out]; exact blk_below HB.out ((Below.refl _ _).alloc (Nat.le_refl _) _)⟩
  have HBel : Aside0 (Below B w w2) := ⟨by rw [HW.out]; exact (Below.refl _ _).alloc (by rw [HPq.out]; exact Nat.le_of_lt HBP.out) _⟩
  clear HW HB
  go_loopg [9, 16] n (fun kq v9 v16 w' => ∃ (i : Nat) (acc ms : List Int) (fi : Bool), kq + i = n ∧ v16 = .int .i64 i ∧ Aside0 (scanF k (ps.drop i) fi = some (ms, fl)) ∧ Aside0 (acc ++ ms = ns) ∧ Aside0 (acc.length = i) ∧ Aside0 (Kd.R (Kd.int .i64) 3 w' B (fun j => B < j ∧ j ≠ P) v9 acc) ∧ Aside0 (w'.heap[B]? = some (.cells #[.string rest, .bool fi] 55 (0, 0))) ∧ Aside0 (w'.heap[P]? = some (.cells (ps.map Value.string).toArray 9 (0, 0))) ∧ Aside0 (Below B w w'))
  case atStart => exact ⟨0, [], ns, false, by omega, rfl, H, Aside0.mk rfl, Aside0.mk rfl, Aside0.mk (Kd.R_nil _ _ _ _ _), HB2, HP2, HBel⟩
  case round =>
    clear H HB2 HP2 HBel
    obtain ⟨i, acc, ms, fi, hk, rfl, H, HA, HAL, HR, HBi, HPi, HBel⟩ := hrel
    by_cases hi : i < n
    · have hi2 : i < ps.length := by rw [HN.out]; exact hi
      obtain ⟨p, hp⟩ : ∃ p, ps[i]? = some p := ⟨_, List.getElem?_eq_getElem hi2⟩
      have hd : ps.drop i = p :: ps.drop (i + 1) := by
        rw [List.drop_eq_getElem_cons hi2]
        congr 1
        rw [List.getElem?_eq_getElem hi2] at hp
        exact Option.some.inj hp
      have x := part_at HPi.out hp
      have H2 := H.out
      rw [hd, scanF] at H2
      obtain ⟨⟨q, ok⟩, hq, H2⟩ := Option.bind_eq_some_iff.1 H2
      obtain ⟨⟨ms2, fl2⟩, hm, H2⟩ := Option.bind_eq_some_iff.1 H2
      obtain ⟨rfl, rfl⟩ := Prod.mk.inj (Option.some.inj H2)
      have HQ := Aside0.mk hq; have HM := Aside0.mk hm
      clear hi2 hp hd H2 hq hm H
      have hin : (i : Int) < (n : Int) := by omega
      go_wp2_with (first
        | (go_at_call 53; refine (scanPart_calls k B rest fi p q ok _ HBi.out HQ.out).mono ?_; rintro e w3 ⟨rfl, m, hw3⟩; have HW3 := Aside0.mk hw3; have HB3 : Aside0 (w3.heap[B]? = some (.cells #[.string rest, .bool (fi || !ok)] 55 (0, 0))) := ⟨by rw [hw3]; exact blk_set (cs := #[.string rest, .bool fi]) (w := wr.drewN m) HBi.out 1 _⟩; have HP3 : Aside0 (w3.heap[P]? = some (.cells (ps.map Value.string).toArray 9 (0, 0))) := ⟨by rw [hw3]; exact blk_far (w := wr.drewN m) HPi.out (p := ⟨B, 1, none⟩) (by have := HBP.out; show P ≠ B; omega) _⟩; have HR3 : Aside0 (Kd.R (Kd.int .i64) 3 w3 B (fun j => B < j ∧ j ≠ P) u9 acc) := ⟨by rw [hw3]; exact Kd.R_far (p := ⟨B, 1, none⟩) (Kd.R_drewN HR.out m) (fun j hj => by show j ≠ B; omega) _⟩; have HBel3 : Aside0 (Below B w w3) := ⟨by rw [hw3]; exact (pw_below_drewN HBel.out m).setCell (Nat.le_refl _) _⟩; clear hw3 HW3)
        | ((with_reducible refine gate_builtin (b := .append) (xs := #[.tmp 20, .tmp 25]) rfl ?_); at_builtin; refine Kd.R_append (Kd.int .i64) (w0 := w) B rfl (.tmp 20) (.tmp 25) 47 3 (.int .i64 0) 8 rfl Tryd.underlying47 info3 rfl (by decide) (by omega) u9 acc q [.int .i64 q] (fun j => B < j ∧ j ≠ P) (fun _ => False) rfl rfl ?aP (fun _ hk => hk.elim) ?aF ?aO ?aB ?aS ?aL ?_; (case aP => exact rfl); (case aB => exact HBel3.out); (case aF => intro j hj; have := blk_lt HP3.out; have := HBP.out; exact ⟨by omega, by omega⟩); (case aO => exact HR3.out); (case aS => have := blk_lt HB3.out; omega); (case aL => have := HAL.out; omega); intro v1 w4 ho hb hg hat; have HR4 := Aside0.mk ho; have HBel4 := Aside0.mk hb; have hown := HR3.out.1; have HB4 : Aside0 (w4.heap[B]? = some (.cells #[.string rest, .bool (fi || !ok)] 55 (0, 0))) := ⟨(hg.block B (blk_lt HB3.out) (fun h => absurd (hown B h.symm).1 (by omega))).trans HB3.out⟩; have HP4 : Aside0 (w4.heap[P]? = some (.cells (ps.map Value.string).toArray 9 (0, 0))) := ⟨(hg.block P (blk_lt HP3.out) (fun h => absurd rfl (hown P h.symm).2)).trans HP3.out⟩; clear ho hb hg hat hown))
      go_roundg (gk - 1)
      case measure => omega
      case rel => exact ⟨i + 1, acc ++ [q], ms2, fi || !ok, by omega, by first | rfl | (simp; done) | (unfold wrap64; simp; omega), HM, Aside0.mk (by rw [← HA.out, List.append_assoc]; rfl), Aside0.mk (by rw [List.length_append, HAL.out]; rfl), HR4, HB4, HP4, HBel4⟩
    · have hin : ¬ ((i : Int) < (n : Int)) := by omega
      have hlast : ms = [] ∧ fi = fl := by
        have H2 := H.out
        rw [List.drop_of_length_le (by rw [HN.out]; omega), scanF] at H2
        obtain ⟨e1, e2⟩ := Prod.mk.inj (Option.some.inj H2)
        exact ⟨e1.symm, e2⟩
      obtain ⟨rfl, rfl⟩ := hlast
      have e := HA.out
      rw [List.append_nil] at e
      subst e
      go_wp2
      go_ret
      exact ⟨_, rfl, Kd.R_mono HR.out (fun _ h => h.1), HBi.out, HBel.out⟩
end
end Go.Proofs.YtfafjpfigphchaaDoor.X
namespace Go.Proofs
open Go.Shelf
def Tryd.lays103_ren : Go.Shelf.Ren := ⟨fun | 103 => 69 | 210 => 80 | 206 => 94 | n => n, fun | 9 => 9 | 4 => 4 | 24 => 90 | 3 => 3 | n => n, fun | n => n⟩
theorem Tryd.lays103 : Go.Proofs.Lays.n103 Tryd.prog Tryd.lays103_ren := {
  mixed := by kernel_rfl
  f103 := Tryd.func69.trans (congrArg some (by kernel_rfl))
  f206 := Tryd.func94.trans (congrArg some (by kernel_rfl))
  f210 := Tryd.func80.trans (congrArg some (by kernel_rfl))
  t3 := Tryd.underlying3
  a3 := Tryd.isAgg3
  z3 := Tryd.sizeOf3
  v3 := Tryd.zeroValue3
  t4 := Tryd.underlying4
  a4 := Tryd.isAgg4
  z4 := Tryd.sizeOf4
  v4 := Tryd.zeroValue4
  t9 := Tryd.underlying9
  a9 := Tryd.isAgg9
  z9 := Tryd.sizeOf9
  v9 := Tryd.zeroValue9
  t24 := Tryd.underlying90
  a24 := Tryd.isAgg90
  z24 := Tryd.sizeOf90
  v24 := Tryd.zeroValue90 }
open Go.RowKit in
/-- strings.CutPrefix: "CutPrefix returns s without the provided leading prefix string and reports whether it found the prefix. If s doesn't start with prefix, CutPrefix returns s, false. If prefix is the empty string, CutPrefix returns s, true.": IT RETURNS '(Lib.trimPrefix s p, Lib.hasPrefix s p)'; the world is as it was. (LAID: no walk: one application.) -/
theorem Tryd.strings_CutPrefix (s p : ByteArray) (w : World) :
    Calls Tryd.prog 69 #[.string s, .string p] w fun e w' => e = .returned (.tuple #[.string ⟨(Lib.trimPrefix s.data.toList p.data.toList).toArray⟩, .bool (Lib.hasPrefix s.data.toList p.data.toList)]) ∧ w' = w := Any.strings_CutPrefix Tryd.lays103 s p w
def Tryd.laysM316_ren : Go.Shelf.Ren := ⟨fun | 316 => 71 | n => n, fun | 9 => 9 | 3 => 3 | 4 => 4 | 37 => 28 | 0 => 0 | 127 => 107 | 5 => 5 | n => n, fun | n => n⟩
theorem Tryd.laysM316 : Go.Proofs.LaysM.n316 Tryd.prog Tryd.laysM316_ren := {
  mixed := by kernel_rfl
  f316 := Tryd.func71.trans (congrArg some (by kernel_rfl))
  t0 := Tryd.underlying0
  a0 := Tryd.isAgg0
  z0 := Tryd.sizeOf0
  v0 := Tryd.zeroValue0
  t3 := Tryd.underlying3
  a3 := Tryd.isAgg3
  z3 := Tryd.sizeOf3
  v3 := Tryd.zeroValue3
  t4 := Tryd.underlying4
  a4 := Tryd.isAgg4
  z4 := Tryd.sizeOf4
  v4 := Tryd.zeroValue4
  t9 := Tryd.underlying9
  a9 := Tryd.isAgg9
  z9 := Tryd.sizeOf9
  v9 := Tryd.zeroValue9
  t37 := Tryd.underlying28
  a37 := Tryd.isAgg28
  z37 := Tryd.sizeOf28
  v37 := Tryd.zeroValue28
  t127 := Tryd.underlying107
  a127 := Tryd.isAgg107
  z127 := Tryd.sizeOf107
  v127 := Tryd.zeroValue107
  t5 := Tryd.underlying5
  a5 := Tryd.isAgg5
  z5 := Tryd.sizeOf5
  v5 := Tryd.zeroValue5
  i0 := by kernel_rfl
  i3 := by kernel_rfl
  i4 := by kernel_rfl
  i5 := by kernel_rfl
  i9 := by kernel_rfl
  i37 := by kernel_rfl
  i127 := by kernel_rfl }
open Go.RowKit in
/-- internal/stringslite.Clone (what strings.Clone calls): "Clone returns a fresh copy of s.": THE SAME BYTES. Of what was there nothing has turned (a new row is laid, and frozen, where s is not empty). (LAID: no walk: one application.) -/
theorem Tryd.stringslite_Clone (s : ByteArray) (w : World) (hlim : s.size ≤ 281474976710656) :
    Calls Tryd.prog 71 #[.string s] w fun e w' => e = .returned (.string s) ∧ Below w.heap.size w w' := Any.stringslite_Clone Tryd.laysM316 s w hlim
end Go.Proofs
namespace Go.Proofs.YtfafjpfigphchaaDoor.X
open Go.RowKit Go.Proofs.YtfafjpfigphchaaDoorW.PrintWords Go.Proofs.YtfafjpfigphchaaDoorW.PrintLast Go.Proofs.YtfafjpfigphchaaDoorW.PrintMore
attribute [local go_sem] max2_int min2_int max_two min_two max_three min_three max_four min_four
set_option linter.unusedVariables false
set_option linter.unusedSimpArgs false

/-! ### impl_OpRead: function 8 -/
def zR : Int × Int × Int × Int × Int × Bool := (0, 0, 0, 0, 0, false)
def opEnd (k : Nat) (s : ByteArray) (kd a b c d : Int) : Option (Int × Int × Int × Int × Int × Bool) := (impl_OpOk.f k kd a b c d).bind fun t => if t = true then (impl_OpText.f k kd a b c d).bind fun x => if x.toList = s.toList then some (kd, a, b, c, d, true) else some zR else some zR
def pad4 (l : List Int) : List Int := l ++ List.replicate (4 - l.length) 0
def impl_OpRead.f (k : Nat) (a0 : ByteArray) : Option (Int × Int × Int × Int × Int × Bool) := if a0.size ≤ 1048576 then (if (kindGo ⟨(Lib.cut a0.data.toList [46]).1.toArray⟩ 8 1).2 = true then (if (Lib.cut a0.data.toList [46]).2.2 = true then (if (Lib.cut a0.data.toList [46]).2.1.toArray.size ≤ 1048576 then (scanF k (partsB ⟨(Lib.cut a0.data.toList [46]).2.1.toArray⟩ ⟨#[46]⟩) false).bind fun x => if x.2 = true then some zR else if 4 < x.1.length then some zR else opEnd k a0 (kindGo ⟨(Lib.cut a0.data.toList [46]).1.toArray⟩ 8 1).1 ((pad4 x.1).getD 0 0) ((pad4 x.1).getD 1 0) ((pad4 x.1).getD 2 0) ((pad4 x.1).getD 3 0) else none) else opEnd k a0 (kindGo ⟨(Lib.cut a0.data.toList [46]).1.toArray⟩ 8 1).1 0 0 0 0) else some zR) else none
section
variable {w w0 : World} {g b B : Nat} {t : TypeId} {a0 a1 a2 a3 a4 c0 c1 c2 c3 c4 : Value} {cs : Array Value}
theorem blk5 (h : w.heap[g]? = some (.cells #[a0, a1, a2, a3, a4] t (0, 0))) : (((((w.setCell ⟨g, 0, none⟩ c0).setCell ⟨g, 1, none⟩ c1).setCell ⟨g, 2, none⟩ c2).setCell ⟨g, 3, none⟩ c3).setCell ⟨g, 4, none⟩ c4).heap[g]? = some (.cells #[c0, c1, c2, c3, c4] t (0, 0)) :=
 blk_set (blk_set (blk_set (blk_set (blk_set h 0 _) 1 _) 2 _) 3 _) 4 _
theorem far5 (h : w.heap[g]? = some (.cells cs t (0, 0))) (hne : g ≠ b) : (((((w.setCell ⟨b, 0, none⟩ c0).setCell ⟨b, 1, none⟩ c1).setCell ⟨b, 2, none⟩ c2).setCell ⟨b, 3, none⟩ c3).setCell ⟨b, 4, none⟩ c4).heap[g]? = some (.cells cs t (0, 0)) :=
 blk_far (p := ⟨b, 4, none⟩) (blk_far (p := ⟨b, 3, none⟩) (blk_far (p := ⟨b, 2, none⟩) (blk_far (p := ⟨b, 1, none⟩) (blk_far (p := ⟨b, 0, none⟩) h hne _) hne _) hne _) hne _) hne _
theorem below5 (h : Below B w0 w) (hb : B ≤ b) : Below B w0 (((((w.setCell ⟨b, 0, none⟩ c0).setCell ⟨b, 1, none⟩ c1).setCell ⟨b, 2, none⟩ c2).setCell ⟨b, 3, none⟩ c3).setCell ⟨b, 4, none⟩ c4) :=
 ((((h.setCell (p := ⟨b, 0, none⟩) hb _).setCell (p := ⟨b, 1, none⟩) hb _).setCell (p := ⟨b, 2, none⟩) hb _).setCell (p := ⟨b, 3, none⟩) hb _).setCell (p := ⟨b, 4, none⟩) hb _
end
theorem cut_calls (s word rest : ByteArray) (more : Bool) (w : World) (hG : Glob w) (hs : s.size ≤ 1048576) (h1 : (⟨(Lib.cut s.data.toList [46]).1.toArray⟩ : ByteArray) = word) (h2 : (⟨(Lib.cut s.data.toList [46]).2.1.toArray⟩ : ByteArray) = rest) (h3 : (Lib.cut s.data.toList [46]).2.2 = more) :
  Calls Tryd.prog 31 #[.string s, .string ⟨#[46]⟩] w fun e w' => e = .returned (.tuple #[.string word, .string rest, .bool more]) ∧ Below w.heap.size w w' := by
 obtain ⟨m, hm⟩ := hG.max
 refine (Tryd.strings_Cut s ⟨#[46]⟩ m w (by omega) hm).mono ?_
 rintro e w' ⟨rfl, n, rfl⟩
 refine ⟨?_, pw_below_drewN (Below.refl _ _) n⟩
 rw [← h1, ← h2, ← h3]
theorem C_cells64 {w : World} {A : Option Addr} {xs : List Int} (h : Kd.C (Kd.int .i64) w A xs.length xs) (hn : 0 < xs.length) : ∃ ad, A = some ad ∧ ∀ j v, (nums .i64 xs)[j]? = some v → w.cell? (ad.add j) = some v := by
 obtain ⟨ad, e, _⟩ := Kd.at_int h (0 : Int) (by omega) (by omega)
 refine ⟨ad, e, fun j v hj => ?_⟩
 have hjl : j < xs.length := by
  have := (List.getElem?_eq_some_iff.1 hj).1
  simpa [nums] using this
 obtain ⟨ad', e', hx⟩ := Kd.at_int h (j : Int) (by omega) (by omega)
 rw [e] at e'; obtain rfl := Option.some.inj e'
 rw [Int.toNat_natCast] at hx
 rw [hx, ← hj]
 simp [nums, rd, List.getD_eq_getElem?_getD, hjl]
theorem splice4 (xs : List Int) (h : xs.length ≤ 4) : splice (nums .i64 (List.replicate 4 0)) 0 (nums .i64 xs) = nums .i64 (pad4 xs) := by
 unfold splice nums pad4
 rw [List.take_zero, List.nil_append, List.map_append, List.map_replicate, List.length_map, Nat.zero_add, List.map_replicate, List.drop_replicate]
theorem pad4_len (xs : List Int) (h : xs.length ≤ 4) : (pad4 xs).length = 4 := by simp [pad4]; omega
theorem nums_at {w : World} {g : Nat} {l : List Int} {t : TypeId} {fr : Nat × Nat} (h : w.heap[g]? = some (.cells (nums .i64 l).toArray t fr)) (hl : l.length = 4) : w.cell? ⟨g, 0, none⟩ = some (.int .i64 (l.getD 0 0)) ∧ w.cell? ⟨g, 1, none⟩ = some (.int .i64 (l.getD 1 0)) ∧ w.cell? ⟨g, 2, none⟩ = some (.int .i64 (l.getD 2 0)) ∧ w.cell? ⟨g, 3, none⟩ = some (.int .i64 (l.getD 3 0)) := by
 match l, hl with
 | [a, b, c, d], _ => exact ⟨(cell_of_row _ _ _ _ _ _ h).trans rfl, (cell_of_row _ _ _ _ _ _ h).trans rfl, (cell_of_row _ _ _ _ _ _ h).trans rfl, (cell_of_row _ _ _ _ _ _ h).trans rfl⟩
theorem opCut : ∀ (b : Nat) (W : World), (Instr.sliceAt 53 (.pointer (some ⟨b, 0, none⟩)) none none none).run Tryd.prog W = .ok (.slice (some ⟨b, 0, none⟩) 4 4) W := fun b W => (by (show _ = _; kernel_rfl))
theorem tup6 {a b c d e a' b' c' d' e' : Int} {f f' : Bool} (h : some (a, b, c, d, e, f) = some (a', b', c', d', e', f')) : a = a' ∧ b = b' ∧ c = c' ∧ d = d' ∧ e = e' ∧ f = f' := by
 have := Option.some.inj h
 simp only [Prod.mk.injEq] at this
 exact this
set_option maxHeartbeats 8000000 in
set_option maxRecDepth 100000 in
theorem impl_OpRead.calls (k : Nat) (a0 : ByteArray) (r1 : Int) (r2 : Int) (r3 : Int) (r4 : Int) (r5 : Int) (r6 : Bool) (w : World) (h : impl_OpRead.f k a0 = some (r1, r2, r3, r4, r5, r6)) (hG : Glob w) :
  Calls Tryd.prog 8 #[.string a0] w fun e w' => e = .returned (.tuple #[.agg #[.int .i64 r1, .int .i64 r2, .int .i64 r3, .int .i64 r4, .int .i64 r5], .bool r6]) ∧ Below w.heap.size w w' := by
 have HG := Aside0.mk hG; clear hG; have hu := Tryd.underlying23; have hz : ∀ w : World, (zeroValue 23).run Tryd.prog w = .ok (.agg #[.int .i64 0, .int .i64 0, .int .i64 0, .int .i64 0, .int .i64 0]) w := fun w => (by kernel_rfl); have hz4 : ∀ w : World, (zeroValue 53).run Tryd.prog w = .ok (.agg #[.int .i64 0, .int .i64 0, .int .i64 0, .int .i64 0]) w := fun w => (by kernel_rfl); have hzt : ∀ w : World, (zeroValue 55).run Tryd.prog w = .ok (.agg #[.string ⟨#[]⟩, .bool false]) w := fun w => (by kernel_rfl)
 unfold impl_OpRead.f at h
 split at h
 case isFalse => cases h
 rename_i hs
 obtain ⟨word, hword⟩ : ∃ x, (⟨(Lib.cut a0.data.toList [46]).1.toArray⟩ : ByteArray) = x := ⟨_, rfl⟩; obtain ⟨rest, hrest⟩ : ∃ x, (⟨(Lib.cut a0.data.toList [46]).2.1.toArray⟩ : ByteArray) = x := ⟨_, rfl⟩; obtain ⟨more, hmore⟩ : ∃ x, (Lib.cut a0.data.toList [46]).2.2 = x := ⟨_, rfl⟩
 rw [show (Lib.cut a0.data.toList [46]).2.1.toArray.size = (⟨(Lib.cut a0.data.toList [46]).2.1.toArray⟩ : ByteArray).size from rfl, hword, hrest, hmore] at h
 obtain ⟨⟨kd, kn⟩, hkd⟩ : ∃ x, kindGo word 8 1 = x := ⟨_, rfl⟩
 rw [hkd] at h
 have HS := Aside0.mk hs; have HW := Aside0.mk hword; have HRs := Aside0.mk hrest; have HM := Aside0.mk hmore; have HK := Aside0.mk hkd; clear hs hword hrest hmore hkd
 dsimp only at h
 cases kn with
 | false =>
  rw [if_neg (by decide)] at h
  obtain ⟨rfl, rfl, rfl, rfl, rfl, rfl⟩ := tup6 h
  go_enter Tryd.func8, Tryd.ntmps8
  go_wp2_with (first | ((with_reducible refine gd_ 2 rfl ?_); refine bx_ 2 rfl #[.int .i64 0, .int .i64 0, .int .i64 0, .int .i64 0, .int .i64 0] 23 ?_; intro b2 hg w4 hbox hb; have HX2 := Aside0.mk hbox; have HB4 := Aside0.mk hb; have HG2 := Aside0.mk (show w.heap.size ≤ b2 by rw [hg]; exact Nat.le_refl _); have HG4 := Aside0.mk (HG.out.belowW hb); clear hb hbox hg) | (go_at_call 31; refine (cut_calls a0 word rest _ _ HG4.out HS.out HW.out HRs.out HM.out).mono ?_; rintro e w5 ⟨rfl, hb⟩; have HX5 := Aside0.mk (blk_below HX2.out hb); have HB5 := Aside0.mk (below_step HB4.out hb); have HG5 := Aside0.mk (HG4.out.belowW hb); clear hb) | (go_at_call 32; refine (opKind_calls word _ HG5.out).mono ?_; rw [HK.out]; rintro e w6 ⟨rfl, hb⟩; have HX6 := Aside0.mk (blk_below HX5.out hb); obtain ⟨x0, x1, x2, x3, x4⟩ := cc5_ HX6.out; obtain ⟨f0, f1, f2, f3, f4⟩ := cf5_ HX6.out; have HB6 := Aside0.mk (below_step HB5.out hb); have HG6 := Aside0.mk (HG5.out.belowW hb); clear hb))
  refine bodyPost_ret (results_ct rfl _ _ b2 23 #[.int .i64 0, .int .i64 0, .int .i64 0, .int .i64 0, .int .i64 0] (0, 0) _ rfl (blk5 HX6.out) Tryd.underlying23 rfl (by kernel_rfl)) rfl ⟨rfl, below5 HB6.out HG2.out⟩
 | true =>
  rw [if_pos rfl] at h
  cases more with
  | false =>
   rw [if_neg (by decide)] at h
   unfold opEnd at h
   obtain ⟨t, ht, h⟩ := Option.bind_eq_some_iff.1 h; have HOK := Aside0.mk ht; clear ht
   cases t with
   | false =>
    rw [if_neg (by decide)] at h
    obtain ⟨rfl, rfl, rfl, rfl, rfl, rfl⟩ := tup6 h
    go_enter Tryd.func8, Tryd.ntmps8
    go_wp2_with (first | ((with_reducible refine gd_ 2 rfl ?_); refine bx_ 2 rfl #[.int .i64 0, .int .i64 0, .int .i64 0, .int .i64 0, .int .i64 0] 23 ?_; intro b2 hg w4 hbox hb; have HX2 := Aside0.mk hbox; have HB4 := Aside0.mk hb; have HG2 := Aside0.mk (show w.heap.size ≤ b2 by rw [hg]; exact Nat.le_refl _); have HG4 := Aside0.mk (HG.out.belowW hb); clear hb hbox hg) | (go_at_call 31; refine (cut_calls a0 word rest _ _ HG4.out HS.out HW.out HRs.out HM.out).mono ?_; rintro e w5 ⟨rfl, hb⟩; have HX5 := Aside0.mk (blk_below HX2.out hb); have HB5 := Aside0.mk (below_step HB4.out hb); have HG5 := Aside0.mk (HG4.out.belowW hb); clear hb) | (go_at_call 32; refine (opKind_calls word _ HG5.out).mono ?_; rw [HK.out]; rintro e w6 ⟨rfl, hb⟩; have HX6 := Aside0.mk (blk_below HX5.out hb); obtain ⟨x0, x1, x2, x3, x4⟩ := cc5_ HX6.out; obtain ⟨f0, f1, f2, f3, f4⟩ := cf5_ HX6.out; have HB6 := Aside0.mk (below_step HB5.out hb); have HG6 := Aside0.mk (HG5.out.belowW hb); clear hb) | ((with_reducible refine gd_ 9 rfl ?_); refine bx_ 9 rfl #[.int .i64 0, .int .i64 0, .int .i64 0, .int .i64 0] 53 ?_; intro b9 hg w7 hbox hb; have HX7 := Aside0.mk (blk_below HX6.out hb); have HN7 := Aside0.mk hbox; obtain ⟨n0, n1, n2, n3⟩ := cc4_ hbox; have H29 := Aside0.mk (show b2 < b9 by rw [hg]; exact blk_lt HX6.out); have HB7 := Aside0.mk (below_step HB6.out hb); have HG7 := Aside0.mk (HG6.out.belowW hb); clear hb hbox hg x0 x1 x2 x3 x4 f0 f1 f2 f3 f4) | ((with_reducible refine gd_ 12 rfl ?_); refine bx_ 12 rfl #[.int .i64 0, .int .i64 0, .int .i64 0, .int .i64 0, .int .i64 0] 23 ?_; intro b12 hg w13 hbox hb; have HX13 := Aside0.mk (blk_below HX7.out hb); have HN13 := Aside0.mk hbox; obtain ⟨m0, m1, m2, m3, m4⟩ := cc5_ hbox; obtain ⟨q0, q1, q2, q3, q4⟩ := cf5_ hbox; have H212 := Aside0.mk (show b2 < b12 by rw [hg]; exact blk_lt HX7.out); have HB13 := Aside0.mk (below_step HB7.out hb); clear hb hbox hg) | (go_at_call 14; refine (impl_OpOk.calls k kd 0 0 0 0 false _ HOK.out).mono ?_; rintro e w14 ⟨rfl, hb⟩; have HN14 := Aside0.mk (blk_below (o := .cells #[.int .i64 kd, .int .i64 0, .int .i64 0, .int .i64 0, .int .i64 0] 23 (0, 0)) (blk5 HN13.out) hb); have HX14 := Aside0.mk (blk_below (far5 HX13.out (by have := H212.out; omega)) hb); clear m0 m1 m2 m3 m4; obtain ⟨m0, m1, m2, m3, m4⟩ := cc5_ HN14.out; obtain ⟨x0, x1, x2, x3, x4⟩ := cc5_ HX14.out; obtain ⟨f0, f1, f2, f3, f4⟩ := cf5_ HX14.out; have HB14 := Aside0.mk (below_step (below5 HB13.out (by have := HG2.out; have := H212.out; omega)) hb); clear hb q0 q1 q2 q3 q4))
    refine bodyPost_ret (results_ct rfl _ _ b2 23 #[.int .i64 0, .int .i64 0, .int .i64 0, .int .i64 0, .int .i64 0] (0, 0) _ rfl (blk5 HX14.out) Tryd.underlying23 rfl (by kernel_rfl)) rfl ⟨rfl, below5 HB14.out HG2.out⟩
   | true =>
    rw [if_pos rfl] at h
    obtain ⟨tx, htx, h⟩ := Option.bind_eq_some_iff.1 h; have HTX := Aside0.mk htx; clear htx
    by_cases hc : tx.toList = a0.toList
    · rw [if_pos hc] at h
      obtain ⟨rfl, rfl, rfl, rfl, rfl, rfl⟩ := tup6 h; have k0 := beq_iff_eq.mpr hc; have k1 := bne_eq_false_iff_eq.mpr hc; clear hc
      go_enter Tryd.func8, Tryd.ntmps8
      go_wp2_with (first | ((with_reducible refine gd_ 2 rfl ?_); refine bx_ 2 rfl #[.int .i64 0, .int .i64 0, .int .i64 0, .int .i64 0, .int .i64 0] 23 ?_; intro b2 hg w4 hbox hb; have HX2 := Aside0.mk hbox; have HB4 := Aside0.mk hb; have HG2 := Aside0.mk (show w.heap.size ≤ b2 by rw [hg]; exact Nat.le_refl _); have HG4 := Aside0.mk (HG.out.belowW hb); clear hb hbox hg) | (go_at_call 31; refine (cut_calls a0 word rest _ _ HG4.out HS.out HW.out HRs.out HM.out).mono ?_; rintro e w5 ⟨rfl, hb⟩; have HX5 := Aside0.mk (blk_below HX2.out hb); have HB5 := Aside0.mk (below_step HB4.out hb); have HG5 := Aside0.mk (HG4.out.belowW hb); clear hb) | (go_at_call 32; refine (opKind_calls word _ HG5.out).mono ?_; rw [HK.out]; rintro e w6 ⟨rfl, hb⟩; have HX6 := Aside0.mk (blk_below HX5.out hb); obtain ⟨x0, x1, x2, x3, x4⟩ := cc5_ HX6.out; obtain ⟨f0, f1, f2, f3, f4⟩ := cf5_ HX6.out; have HB6 := Aside0.mk (below_step HB5.out hb); have HG6 := Aside0.mk (HG5.out.belowW hb); clear hb) | ((with_reducible refine gd_ 9 rfl ?_); refine bx_ 9 rfl #[.int .i64 0, .int .i64 0, .int .i64 0, .int .i64 0] 53 ?_; intro b9 hg w7 hbox hb; have HX7 := Aside0.mk (blk_below HX6.out hb); have HN7 := Aside0.mk hbox; obtain ⟨n0, n1, n2, n3⟩ := cc4_ hbox; have H29 := Aside0.mk (show b2 < b9 by rw [hg]; exact blk_lt HX6.out); have HB7 := Aside0.mk (below_step HB6.out hb); have HG7 := Aside0.mk (HG6.out.belowW hb); clear hb hbox hg x0 x1 x2 x3 x4 f0 f1 f2 f3 f4) | ((with_reducible refine gd_ 12 rfl ?_); refine bx_ 12 rfl #[.int .i64 0, .int .i64 0, .int .i64 0, .int .i64 0, .int .i64 0] 23 ?_; intro b12 hg w13 hbox hb; have HX13 := Aside0.mk (blk_below HX7.out hb); have HN13 := Aside0.mk hbox; obtain ⟨m0, m1, m2, m3, m4⟩ := cc5_ hbox; obtain ⟨q0, q1, q2, q3, q4⟩ := cf5_ hbox; have H212 := Aside0.mk (show b2 < b12 by rw [hg]; exact blk_lt HX7.out); have HB13 := Aside0.mk (below_step HB7.out hb); clear hb hbox hg) | (go_at_call 14; refine (impl_OpOk.calls k kd 0 0 0 0 true _ HOK.out).mono ?_; rintro e w14 ⟨rfl, hb⟩; have HN14 := Aside0.mk (blk_below (o := .cells #[.int .i64 kd, .int .i64 0, .int .i64 0, .int .i64 0, .int .i64 0] 23 (0, 0)) (blk5 HN13.out) hb); have HX14 := Aside0.mk (blk_below (far5 HX13.out (by have := H212.out; omega)) hb); clear m0 m1 m2 m3 m4; obtain ⟨m0, m1, m2, m3, m4⟩ := cc5_ HN14.out; obtain ⟨x0, x1, x2, x3, x4⟩ := cc5_ HX14.out; obtain ⟨f0, f1, f2, f3, f4⟩ := cf5_ HX14.out; have HB14 := Aside0.mk (below_step (below5 HB13.out (by have := HG2.out; have := H212.out; omega)) hb); clear hb q0 q1 q2 q3 q4) | (go_at_call 12; refine (impl_OpText.calls k kd 0 0 0 0 tx _ HTX.out (HG.out.belowW HB14.out)).mono ?_; rintro e w15 ⟨rfl, hb⟩; have HN15 := Aside0.mk (blk_below HN14.out hb); have HX15 := Aside0.mk (blk_below HX14.out hb); clear m0 m1 m2 m3 m4 x0 x1 x2 x3 x4 f0 f1 f2 f3 f4; obtain ⟨m0, m1, m2, m3, m4⟩ := cc5_ HN15.out; obtain ⟨x0, x1, x2, x3, x4⟩ := cc5_ HX15.out; obtain ⟨f0, f1, f2, f3, f4⟩ := cf5_ HX15.out; have HB15 := Aside0.mk (below_step HB14.out hb); clear hb))
      refine bodyPost_ret (results_ct rfl _ _ b2 23 #[.int .i64 kd, .int .i64 0, .int .i64 0, .int .i64 0, .int .i64 0] (0, 0) _ rfl (blk5 HX15.out) Tryd.underlying23 rfl (by kernel_rfl)) rfl ⟨rfl, below5 HB15.out HG2.out⟩
    · rw [if_neg hc] at h
      obtain ⟨rfl, rfl, rfl, rfl, rfl, rfl⟩ := tup6 h; have k0 := beq_eq_false_iff_ne.mpr hc; have k1 := bne_iff_ne.mpr hc; clear hc
      go_enter Tryd.func8, Tryd.ntmps8
      go_wp2_with (first | ((with_reducible refine gd_ 2 rfl ?_); refine bx_ 2 rfl #[.int .i64 0, .int .i64 0, .int .i64 0, .int .i64 0, .int .i64 0] 23 ?_; intro b2 hg w4 hbox hb; have HX2 := Aside0.mk hbox; have HB4 := Aside0.mk hb; have HG2 := Aside0.mk (show w.heap.size ≤ b2 by rw [hg]; exact Nat.le_refl _); have HG4 := Aside0.mk (HG.out.belowW hb); clear hb hbox hg) | (go_at_call 31; refine (cut_calls a0 word rest _ _ HG4.out HS.out HW.out HRs.out HM.out).mono ?_; rintro e w5 ⟨rfl, hb⟩; have HX5 := Aside0.mk (blk_below HX2.out hb); have HB5 := Aside0.mk (below_step HB4.out hb); have HG5 := Aside0.mk (HG4.out.belowW hb); clear hb) | (go_at_call 32; refine (opKind_calls word _ HG5.out).mono ?_; rw [HK.out]; rintro e w6 ⟨rfl, hb⟩; have HX6 := Aside0.mk (blk_below HX5.out hb); obtain ⟨x0, x1, x2, x3, x4⟩ := cc5_ HX6.out; obtain ⟨f0, f1, f2, f3, f4⟩ := cf5_ HX6.out; have HB6 := Aside0.mk (below_step HB5.out hb); have HG6 := Aside0.mk (HG5.out.belowW hb); clear hb) | ((with_reducible refine gd_ 9 rfl ?_); refine bx_ 9 rfl #[.int .i64 0, .int .i64 0, .int .i64 0, .int .i64 0] 53 ?_; intro b9 hg w7 hbox hb; have HX7 := Aside0.mk (blk_below HX6.out hb); have HN7 := Aside0.mk hbox; obtain ⟨n0, n1, n2, n3⟩ := cc4_ hbox; have H29 := Aside0.mk (show b2 < b9 by rw [hg]; exact blk_lt HX6.out); have HB7 := Aside0.mk (below_step HB6.out hb); have HG7 := Aside0.mk (HG6.out.belowW hb); clear hb hbox hg x0 x1 x2 x3 x4 f0 f1 f2 f3 f4) | ((with_reducible refine gd_ 12 rfl ?_); refine bx_ 12 rfl #[.int .i64 0, .int .i64 0, .int .i64 0, .int .i64 0, .int .i64 0] 23 ?_; intro b12 hg w13 hbox hb; have HX13 := Aside0.mk (blk_below HX7.out hb); have HN13 := Aside0.mk hbox; obtain ⟨m0, m1, m2, m3, m4⟩ := cc5_ hbox; obtain ⟨q0, q1, q2, q3, q4⟩ := cf5_ hbox; have H212 := Aside0.mk (show b2 < b12 by rw [hg]; exact blk_lt HX7.out); have HB13 := Aside0.mk (below_step HB7.out hb); clear hb hbox hg) | (go_at_call 14; refine (impl_OpOk.calls k kd 0 0 0 0 true _ HOK.out).mono ?_; rintro e w14 ⟨rfl, hb⟩; have HN14 := Aside0.mk (blk_below (o := .cells #[.int .i64 kd, .int .i64 0, .int .i64 0, .int .i64 0, .int .i64 0] 23 (0, 0)) (blk5 HN13.out) hb); have HX14 := Aside0.mk (blk_below (far5 HX13.out (by have := H212.out; omega)) hb); clear m0 m1 m2 m3 m4; obtain ⟨m0, m1, m2, m3, m4⟩ := cc5_ HN14.out; obtain ⟨x0, x1, x2, x3, x4⟩ := cc5_ HX14.out; obtain ⟨f0, f1, f2, f3, f4⟩ := cf5_ HX14.out; have HB14 := Aside0.mk (below_step (below5 HB13.out (by have := HG2.out; have := H212.out; omega)) hb); clear hb q0 q1 q2 q3 q4) | (go_at_call 12; refine (impl_OpText.calls k kd 0 0 0 0 tx _ HTX.out (HG.out.belowW HB14.out)).mono ?_; rintro e w15 ⟨rfl, hb⟩; have HN15 := Aside0.mk (blk_below HN14.out hb); have HX15 := Aside0.mk (blk_below HX14.out hb); clear m0 m1 m2 m3 m4 x0 x1 x2 x3 x4 f0 f1 f2 f3 f4; obtain ⟨m0, m1, m2, m3, m4⟩ := cc5_ HN15.out; obtain ⟨x0, x1, x2, x3, x4⟩ := cc5_ HX15.out; obtain ⟨f0, f1, f2, f3, f4⟩ := cf5_ HX15.out; have HB15 := Aside0.mk (below_step HB14.out hb); clear hb))
      refine bodyPost_ret (results_ct rfl _ _ b2 23 #[.int .i64 0, .int .i64 0, .int .i64 0, .int .i64 0, .int .i64 0] (0, 0) _ rfl (blk5 HX15.out) Tryd.underlying23 rfl (by kernel_rfl)) rfl ⟨rfl, below5 HB15.out HG2.out⟩
  | true =>
   rw [if_pos rfl] at h
   split at h
   case isFalse => cases h
   rename_i hrs
   obtain ⟨⟨ns, fl⟩, hsc, h⟩ := Option.bind_eq_some_iff.1 h; have HRS := Aside0.mk hrs; have HSC := Aside0.mk hsc; clear hrs hsc
   dsimp only at h
   cases fl with
   | true =>
    rw [if_pos rfl] at h
    obtain ⟨rfl, rfl, rfl, rfl, rfl, rfl⟩ := tup6 h
    go_enter Tryd.func8, Tryd.ntmps8
    go_wp2_with (first | ((with_reducible refine gd_ 2 rfl ?_); refine bx_ 2 rfl #[.int .i64 0, .int .i64 0, .int .i64 0, .int .i64 0, .int .i64 0] 23 ?_; intro b2 hg w4 hbox hb; have HX2 := Aside0.mk hbox; have HB4 := Aside0.mk hb; have HG2 := Aside0.mk (show w.heap.size ≤ b2 by rw [hg]; exact Nat.le_refl _); have HG4 := Aside0.mk (HG.out.belowW hb); clear hb hbox hg) | (go_at_call 31; refine (cut_calls a0 word rest _ _ HG4.out HS.out HW.out HRs.out HM.out).mono ?_; rintro e w5 ⟨rfl, hb⟩; have HX5 := Aside0.mk (blk_below HX2.out hb); have HB5 := Aside0.mk (below_step HB4.out hb); have HG5 := Aside0.mk (HG4.out.belowW hb); clear hb) | (go_at_call 32; refine (opKind_calls word _ HG5.out).mono ?_; rw [HK.out]; rintro e w6 ⟨rfl, hb⟩; have HX6 := Aside0.mk (blk_below HX5.out hb); obtain ⟨x0, x1, x2, x3, x4⟩ := cc5_ HX6.out; obtain ⟨f0, f1, f2, f3, f4⟩ := cf5_ HX6.out; have HB6 := Aside0.mk (below_step HB5.out hb); have HG6 := Aside0.mk (HG5.out.belowW hb); clear hb) | ((with_reducible refine gd_ 9 rfl ?_); refine bx_ 9 rfl #[.int .i64 0, .int .i64 0, .int .i64 0, .int .i64 0] 53 ?_; intro b9 hg w7 hbox hb; have HX7 := Aside0.mk (blk_below HX6.out hb); have HN7 := Aside0.mk hbox; obtain ⟨n0, n1, n2, n3⟩ := cc4_ hbox; have H29 := Aside0.mk (show b2 < b9 by rw [hg]; exact blk_lt HX6.out); have HB7 := Aside0.mk (below_step HB6.out hb); have HG7 := Aside0.mk (HG6.out.belowW hb); clear hb hbox hg x0 x1 x2 x3 x4 f0 f1 f2 f3 f4) | ((with_reducible refine gd_ 10 rfl ?_); refine bx_ 10 rfl #[.string ⟨#[]⟩, .bool false] 55 ?_; intro b10 hg w8 hbox hb; have HX8 := Aside0.mk (blk_below HX7.out hb); have HN8 := Aside0.mk (blk_below HN7.out hb); have HT8 := Aside0.mk hbox; have H910 := Aside0.mk (show b9 < b10 by rw [hg]; exact blk_lt HN7.out); have HB8 := Aside0.mk (below_step HB7.out hb); have HG8 := Aside0.mk (HG7.out.belowW hb); clear hb hbox hg n0 n1 n2 n3) | (go_at_call 33; refine (scanInt_calls k b10 ⟨#[]⟩ rest ⟨#[46]⟩ ns _ _ HG8.out HRS.out (by decide) HT8.out HSC.out).mono ?_; rintro e w9 ⟨v, rfl, hR, hT, hb⟩; obtain ⟨A9, c9, rfl, hc9, hr9⟩ := Kd.R_reads hR; have HR9 := Aside0.mk hr9; obtain ⟨t0, t1⟩ := cells2_at hT; have HX9 := Aside0.mk ((hb.block b2 (by have := H29.out; have := H910.out; omega)).trans HX8.out); have HN9 := Aside0.mk ((hb.block b9 H910.out).trans HN8.out); have HB9 := Aside0.mk (HB8.out.trans (hb.mono (by have := HG2.out; have := H29.out; have := H910.out; omega))); obtain ⟨n9, hn9⟩ : ∃ n, ns.length = n := ⟨_, rfl⟩; have HL9 := Aside0.mk hn9; rw [hn9]; obtain ⟨x0, x1, x2, x3, x4⟩ := cc5_ HX9.out; obtain ⟨f0, f1, f2, f3, f4⟩ := cf5_ HX9.out; clear hb hR hT hc9 hr9 hn9 t0))
    refine bodyPost_ret (results_ct rfl _ _ b2 23 #[.int .i64 0, .int .i64 0, .int .i64 0, .int .i64 0, .int .i64 0] (0, 0) _ rfl (blk5 HX9.out) Tryd.underlying23 rfl (by kernel_rfl)) rfl ⟨rfl, below5 HB9.out HG2.out⟩
   | false =>
    rw [if_neg (by decide)] at h
    by_cases h4 : 4 < ns.length
    · rw [if_pos h4] at h
      obtain ⟨rfl, rfl, rfl, rfl, rfl, rfl⟩ := tup6 h; have H4 := Aside0.mk h4; clear h4
      go_enter Tryd.func8, Tryd.ntmps8
      go_wp2_with (first | ((with_reducible refine gd_ 2 rfl ?_); refine bx_ 2 rfl #[.int .i64 0, .int .i64 0, .int .i64 0, .int .i64 0, .int .i64 0] 23 ?_; intro b2 hg w4 hbox hb; have HX2 := Aside0.mk hbox; have HB4 := Aside0.mk hb; have HG2 := Aside0.mk (show w.heap.size ≤ b2 by rw [hg]; exact Nat.le_refl _); have HG4 := Aside0.mk (HG.out.belowW hb); clear hb hbox hg) | (go_at_call 31; refine (cut_calls a0 word rest _ _ HG4.out HS.out HW.out HRs.out HM.out).mono ?_; rintro e w5 ⟨rfl, hb⟩; have HX5 := Aside0.mk (blk_below HX2.out hb); have HB5 := Aside0.mk (below_step HB4.out hb); have HG5 := Aside0.mk (HG4.out.belowW hb); clear hb) | (go_at_call 32; refine (opKind_calls word _ HG5.out).mono ?_; rw [HK.out]; rintro e w6 ⟨rfl, hb⟩; have HX6 := Aside0.mk (blk_below HX5.out hb); obtain ⟨x0, x1, x2, x3, x4⟩ := cc5_ HX6.out; obtain ⟨f0, f1, f2, f3, f4⟩ := cf5_ HX6.out; have HB6 := Aside0.mk (below_step HB5.out hb); have HG6 := Aside0.mk (HG5.out.belowW hb); clear hb) | ((with_reducible refine gd_ 9 rfl ?_); refine bx_ 9 rfl #[.int .i64 0, .int .i64 0, .int .i64 0, .int .i64 0] 53 ?_; intro b9 hg w7 hbox hb; have HX7 := Aside0.mk (blk_below HX6.out hb); have HN7 := Aside0.mk hbox; obtain ⟨n0, n1, n2, n3⟩ := cc4_ hbox; have H29 := Aside0.mk (show b2 < b9 by rw [hg]; exact blk_lt HX6.out); have HB7 := Aside0.mk (below_step HB6.out hb); have HG7 := Aside0.mk (HG6.out.belowW hb); clear hb hbox hg x0 x1 x2 x3 x4 f0 f1 f2 f3 f4) | ((with_reducible refine gd_ 10 rfl ?_); refine bx_ 10 rfl #[.string ⟨#[]⟩, .bool false] 55 ?_; intro b10 hg w8 hbox hb; have HX8 := Aside0.mk (blk_below HX7.out hb); have HN8 := Aside0.mk (blk_below HN7.out hb); have HT8 := Aside0.mk hbox; have H910 := Aside0.mk (show b9 < b10 by rw [hg]; exact blk_lt HN7.out); have HB8 := Aside0.mk (below_step HB7.out hb); have HG8 := Aside0.mk (HG7.out.belowW hb); clear hb hbox hg n0 n1 n2 n3) | (go_at_call 33; refine (scanInt_calls k b10 ⟨#[]⟩ rest ⟨#[46]⟩ ns _ _ HG8.out HRS.out (by decide) HT8.out HSC.out).mono ?_; rintro e w9 ⟨v, rfl, hR, hT, hb⟩; obtain ⟨A9, c9, rfl, hc9, hr9⟩ := Kd.R_reads hR; have HR9 := Aside0.mk hr9; obtain ⟨t0, t1⟩ := cells2_at hT; have HX9 := Aside0.mk ((hb.block b2 (by have := H29.out; have := H910.out; omega)).trans HX8.out); have HN9 := Aside0.mk ((hb.block b9 H910.out).trans HN8.out); have HB9 := Aside0.mk (HB8.out.trans (hb.mono (by have := HG2.out; have := H29.out; have := H910.out; omega))); obtain ⟨n9, hn9⟩ : ∃ n, ns.length = n := ⟨_, rfl⟩; have HL9 := Aside0.mk hn9; rw [hn9]; obtain ⟨x0, x1, x2, x3, x4⟩ := cc5_ HX9.out; obtain ⟨f0, f1, f2, f3, f4⟩ := cf5_ HX9.out; have hlen : (4 : Int) < (n9 : Int) := (by have := H4.out; omega);clear hb hR hT hc9 hr9 hn9 t0))
      refine bodyPost_ret (results_ct rfl _ _ b2 23 #[.int .i64 0, .int .i64 0, .int .i64 0, .int .i64 0, .int .i64 0] (0, 0) _ rfl (blk5 HX9.out) Tryd.underlying23 rfl (by kernel_rfl)) rfl ⟨rfl, below5 HB9.out HG2.out⟩
    · rw [if_neg h4] at h
      have H4 := Aside0.mk h4; clear h4; obtain ⟨p0, hp0⟩ : ∃ x, (pad4 ns).getD 0 0 = x := ⟨_, rfl⟩; obtain ⟨p1, hp1⟩ : ∃ x, (pad4 ns).getD 1 0 = x := ⟨_, rfl⟩; obtain ⟨p2, hp2⟩ : ∃ x, (pad4 ns).getD 2 0 = x := ⟨_, rfl⟩; obtain ⟨p3, hp3⟩ : ∃ x, (pad4 ns).getD 3 0 = x := ⟨_, rfl⟩
      rw [hp0, hp1, hp2, hp3] at h
      have P0 := Aside0.mk hp0; have P1 := Aside0.mk hp1; have P2 := Aside0.mk hp2; have P3 := Aside0.mk hp3; clear hp0 hp1 hp2 hp3
      unfold opEnd at h
      have hcut := opCut; obtain ⟨t, ht, h⟩ := Option.bind_eq_some_iff.1 h; have HOK := Aside0.mk ht; clear ht
      cases t with
      | false =>
       rw [if_neg (by decide)] at h
       obtain ⟨rfl, rfl, rfl, rfl, rfl, rfl⟩ := tup6 h
       go_enter Tryd.func8, Tryd.ntmps8
       go_wp2_with (first | ((with_reducible refine gd_ 2 rfl ?_); refine bx_ 2 rfl #[.int .i64 0, .int .i64 0, .int .i64 0, .int .i64 0, .int .i64 0] 23 ?_; intro b2 hg w4 hbox hb; have HX2 := Aside0.mk hbox; have HB4 := Aside0.mk hb; have HG2 := Aside0.mk (show w.heap.size ≤ b2 by rw [hg]; exact Nat.le_refl _); have HG4 := Aside0.mk (HG.out.belowW hb); clear hb hbox hg) | (go_at_call 31; refine (cut_calls a0 word rest _ _ HG4.out HS.out HW.out HRs.out HM.out).mono ?_; rintro e w5 ⟨rfl, hb⟩; have HX5 := Aside0.mk (blk_below HX2.out hb); have HB5 := Aside0.mk (below_step HB4.out hb); have HG5 := Aside0.mk (HG4.out.belowW hb); clear hb) | (go_at_call 32; refine (opKind_calls word _ HG5.out).mono ?_; rw [HK.out]; rintro e w6 ⟨rfl, hb⟩; have HX6 := Aside0.mk (blk_below HX5.out hb); obtain ⟨x0, x1, x2, x3, x4⟩ := cc5_ HX6.out; obtain ⟨f0, f1, f2, f3, f4⟩ := cf5_ HX6.out; have HB6 := Aside0.mk (below_step HB5.out hb); have HG6 := Aside0.mk (HG5.out.belowW hb); clear hb) | ((with_reducible refine gd_ 9 rfl ?_); refine bx_ 9 rfl #[.int .i64 0, .int .i64 0, .int .i64 0, .int .i64 0] 53 ?_; intro b9 hg w7 hbox hb; have HX7 := Aside0.mk (blk_below HX6.out hb); have HN7 := Aside0.mk hbox; obtain ⟨n0, n1, n2, n3⟩ := cc4_ hbox; have H29 := Aside0.mk (show b2 < b9 by rw [hg]; exact blk_lt HX6.out); have HB7 := Aside0.mk (below_step HB6.out hb); have HG7 := Aside0.mk (HG6.out.belowW hb); clear hb hbox hg x0 x1 x2 x3 x4 f0 f1 f2 f3 f4) | ((with_reducible refine gd_ 10 rfl ?_); refine bx_ 10 rfl #[.string ⟨#[]⟩, .bool false] 55 ?_; intro b10 hg w8 hbox hb; have HX8 := Aside0.mk (blk_below HX7.out hb); have HN8 := Aside0.mk (blk_below HN7.out hb); have HT8 := Aside0.mk hbox; have H910 := Aside0.mk (show b9 < b10 by rw [hg]; exact blk_lt HN7.out); have HB8 := Aside0.mk (below_step HB7.out hb); have HG8 := Aside0.mk (HG7.out.belowW hb); clear hb hbox hg n0 n1 n2 n3) | (go_at_call 33; refine (scanInt_calls k b10 ⟨#[]⟩ rest ⟨#[46]⟩ ns _ _ HG8.out HRS.out (by decide) HT8.out HSC.out).mono ?_; rintro e w9 ⟨v, rfl, hR, hT, hb⟩; obtain ⟨A9, c9, rfl, hc9, hr9⟩ := Kd.R_reads hR; have HR9 := Aside0.mk hr9; obtain ⟨t0, t1⟩ := cells2_at hT; have HX9 := Aside0.mk ((hb.block b2 (by have := H29.out; have := H910.out; omega)).trans HX8.out); have HN9 := Aside0.mk ((hb.block b9 H910.out).trans HN8.out); have HB9 := Aside0.mk (HB8.out.trans (hb.mono (by have := HG2.out; have := H29.out; have := H910.out; omega))); obtain ⟨n9, hn9⟩ : ∃ n, ns.length = n := ⟨_, rfl⟩; have HL9 := Aside0.mk hn9; rw [hn9]; obtain ⟨x0, x1, x2, x3, x4⟩ := cc5_ HX9.out; obtain ⟨f0, f1, f2, f3, f4⟩ := cf5_ HX9.out; have hlen : ¬ ((4 : Int) < (n9 : Int)) := (by have := H4.out; omega); have HL4 : Aside0 (n9 ≤ 4) := ⟨by have := H4.out; omega⟩;clear hb hR hT hc9 hr9 hn9 t0) | ((with_reducible refine gate_builtin (b := .copy) (xs := #[.tmp 38, .tmp 39]) rfl ?_); refine wpList_copy_splice rfl (.tmp 38) (.tmp 39) 47 47 rfl 3 Tryd.underlying47 (by kernel_rfl) _ _ _ _ _ _ rfl rfl b9 0 (nums .i64 (List.replicate 4 0)) 53 ?hg (nums .i64 ns) ?hn ?hpos ?hfit ?h1 b9 _ (Below.refl _ _) (Nat.le_refl _) ?_; (case hg => exact HN9.out); (case hn => rw [nums_length]; have := HL9.out; have := HL4.out; show _ = min _ _; omega); (case hpos => intro hps; rw [nums_length] at hps; exact ⟨rfl, C_cells64 HR9.out hps⟩); (case hfit => rw [nums_length, nums_length]; have := HL9.out; have := HL4.out; simp; omega); (case h1 => intro v hv; obtain ⟨x, _, rfl⟩ := List.mem_map.1 hv; rfl); intro w10 hg10 hb10; rw [splice4 ns (by rw [HL9.out]; exact HL4.out)] at hg10; obtain ⟨n0, n1, n2, n3⟩ := nums_at (show w10.heap[b9]? = some (.cells (nums .i64 (pad4 ns)).toArray 53 (0, 0)) from hg10) (pad4_len ns (by rw [HL9.out]; exact HL4.out)); have HX10 := Aside0.mk ((hb10.block b2 H29.out).trans HX9.out); have HB10 := Aside0.mk (HB9.out.trans (hb10.mono (by have := HG2.out; have := H29.out; omega))); rw [P0.out] at n0; rw [P1.out] at n1; rw [P2.out] at n2; rw [P3.out] at n3; clear hg10 hb10 x0 x1 x2 x3 x4 f0 f1 f2 f3 f4) | ((with_reducible refine gd_ 12 rfl ?_); refine bx_ 12 rfl #[.int .i64 0, .int .i64 0, .int .i64 0, .int .i64 0, .int .i64 0] 23 ?_; intro b12 hg w13 hbox hb; have HX13 := Aside0.mk (blk_below HX10.out hb); have HN13 := Aside0.mk hbox; obtain ⟨m0, m1, m2, m3, m4⟩ := cc5_ hbox; obtain ⟨q0, q1, q2, q3, q4⟩ := cf5_ hbox; have H212 := Aside0.mk (show b2 < b12 by rw [hg]; exact blk_lt HX10.out); have HB13 := Aside0.mk (below_step HB10.out hb); clear hb hbox hg) | (go_at_call 14; refine (impl_OpOk.calls k kd p0 p1 p2 p3 false _ HOK.out).mono ?_; rintro e w14 ⟨rfl, hb⟩; have HN14 := Aside0.mk (blk_below (o := .cells #[.int .i64 kd, .int .i64 p0, .int .i64 p1, .int .i64 p2, .int .i64 p3] 23 (0, 0)) (blk5 HN13.out) hb); have HX14 := Aside0.mk (blk_below (far5 HX13.out (by have := H212.out; omega)) hb); clear m0 m1 m2 m3 m4; obtain ⟨m0, m1, m2, m3, m4⟩ := cc5_ HN14.out; obtain ⟨x0, x1, x2, x3, x4⟩ := cc5_ HX14.out; obtain ⟨f0, f1, f2, f3, f4⟩ := cf5_ HX14.out; have HB14 := Aside0.mk (below_step (below5 HB13.out (by have := HG2.out; have := H212.out; omega)) hb); clear hb q0 q1 q2 q3 q4))
       refine bodyPost_ret (results_ct rfl _ _ b2 23 #[.int .i64 0, .int .i64 0, .int .i64 0, .int .i64 0, .int .i64 0] (0, 0) _ rfl (blk5 HX14.out) Tryd.underlying23 rfl (by kernel_rfl)) rfl ⟨rfl, below5 HB14.out HG2.out⟩
      | true =>
       rw [if_pos rfl] at h
       obtain ⟨tx, htx, h⟩ := Option.bind_eq_some_iff.1 h; have HTX := Aside0.mk htx; clear htx
       by_cases hc : tx.toList = a0.toList
       · rw [if_pos hc] at h
         obtain ⟨rfl, rfl, rfl, rfl, rfl, rfl⟩ := tup6 h; have k0 := beq_iff_eq.mpr hc; have k1 := bne_eq_false_iff_eq.mpr hc; clear hc
         go_enter Tryd.func8, Tryd.ntmps8
         go_wp2_with (first | ((with_reducible refine gd_ 2 rfl ?_); refine bx_ 2 rfl #[.int .i64 0, .int .i64 0, .int .i64 0, .int .i64 0, .int .i64 0] 23 ?_; intro b2 hg w4 hbox hb; have HX2 := Aside0.mk hbox; have HB4 := Aside0.mk hb; have HG2 := Aside0.mk (show w.heap.size ≤ b2 by rw [hg]; exact Nat.le_refl _); have HG4 := Aside0.mk (HG.out.belowW hb); clear hb hbox hg) | (go_at_call 31; refine (cut_calls a0 word rest _ _ HG4.out HS.out HW.out HRs.out HM.out).mono ?_; rintro e w5 ⟨rfl, hb⟩; have HX5 := Aside0.mk (blk_below HX2.out hb); have HB5 := Aside0.mk (below_step HB4.out hb); have HG5 := Aside0.mk (HG4.out.belowW hb); clear hb) | (go_at_call 32; refine (opKind_calls word _ HG5.out).mono ?_; rw [HK.out]; rintro e w6 ⟨rfl, hb⟩; have HX6 := Aside0.mk (blk_below HX5.out hb); obtain ⟨x0, x1, x2, x3, x4⟩ := cc5_ HX6.out; obtain ⟨f0, f1, f2, f3, f4⟩ := cf5_ HX6.out; have HB6 := Aside0.mk (below_step HB5.out hb); have HG6 := Aside0.mk (HG5.out.belowW hb); clear hb) | ((with_reducible refine gd_ 9 rfl ?_); refine bx_ 9 rfl #[.int .i64 0, .int .i64 0, .int .i64 0, .int .i64 0] 53 ?_; intro b9 hg w7 hbox hb; have HX7 := Aside0.mk (blk_below HX6.out hb); have HN7 := Aside0.mk hbox; obtain ⟨n0, n1, n2, n3⟩ := cc4_ hbox; have H29 := Aside0.mk (show b2 < b9 by rw [hg]; exact blk_lt HX6.out); have HB7 := Aside0.mk (below_step HB6.out hb); have HG7 := Aside0.mk (HG6.out.belowW hb); clear hb hbox hg x0 x1 x2 x3 x4 f0 f1 f2 f3 f4) | ((with_reducible refine gd_ 10 rfl ?_); refine bx_ 10 rfl #[.string ⟨#[]⟩, .bool false] 55 ?_; intro b10 hg w8 hbox hb; have HX8 := Aside0.mk (blk_below HX7.out hb); have HN8 := Aside0.mk (blk_below HN7.out hb); have HT8 := Aside0.mk hbox; have H910 := Aside0.mk (show b9 < b10 by rw [hg]; exact blk_lt HN7.out); have HB8 := Aside0.mk (below_step HB7.out hb); have HG8 := Aside0.mk (HG7.out.belowW hb); clear hb hbox hg n0 n1 n2 n3) | (go_at_call 33; refine (scanInt_calls k b10 ⟨#[]⟩ rest ⟨#[46]⟩ ns _ _ HG8.out HRS.out (by decide) HT8.out HSC.out).mono ?_; rintro e w9 ⟨v, rfl, hR, hT, hb⟩; obtain ⟨A9, c9, rfl, hc9, hr9⟩ := Kd.R_reads hR; have HR9 := Aside0.mk hr9; obtain ⟨t0, t1⟩ := cells2_at hT; have HX9 := Aside0.mk ((hb.block b2 (by have := H29.out; have := H910.out; omega)).trans HX8.out); have HN9 := Aside0.mk ((hb.block b9 H910.out).trans HN8.out); have HB9 := Aside0.mk (HB8.out.trans (hb.mono (by have := HG2.out; have := H29.out; have := H910.out; omega))); obtain ⟨n9, hn9⟩ : ∃ n, ns.length = n := ⟨_, rfl⟩; have HL9 := Aside0.mk hn9; rw [hn9]; obtain ⟨x0, x1, x2, x3, x4⟩ := cc5_ HX9.out; obtain ⟨f0, f1, f2, f3, f4⟩ := cf5_ HX9.out; have hlen : ¬ ((4 : Int) < (n9 : Int)) := (by have := H4.out; omega); have HL4 : Aside0 (n9 ≤ 4) := ⟨by have := H4.out; omega⟩;clear hb hR hT hc9 hr9 hn9 t0) | ((with_reducible refine gate_builtin (b := .copy) (xs := #[.tmp 38, .tmp 39]) rfl ?_); refine wpList_copy_splice rfl (.tmp 38) (.tmp 39) 47 47 rfl 3 Tryd.underlying47 (by kernel_rfl) _ _ _ _ _ _ rfl rfl b9 0 (nums .i64 (List.replicate 4 0)) 53 ?hg (nums .i64 ns) ?hn ?hpos ?hfit ?h1 b9 _ (Below.refl _ _) (Nat.le_refl _) ?_; (case hg => exact HN9.out); (case hn => rw [nums_length]; have := HL9.out; have := HL4.out; show _ = min _ _; omega); (case hpos => intro hps; rw [nums_length] at hps; exact ⟨rfl, C_cells64 HR9.out hps⟩); (case hfit => rw [nums_length, nums_length]; have := HL9.out; have := HL4.out; simp; omega); (case h1 => intro v hv; obtain ⟨x, _, rfl⟩ := List.mem_map.1 hv; rfl); intro w10 hg10 hb10; rw [splice4 ns (by rw [HL9.out]; exact HL4.out)] at hg10; obtain ⟨n0, n1, n2, n3⟩ := nums_at (show w10.heap[b9]? = some (.cells (nums .i64 (pad4 ns)).toArray 53 (0, 0)) from hg10) (pad4_len ns (by rw [HL9.out]; exact HL4.out)); have HX10 := Aside0.mk ((hb10.block b2 H29.out).trans HX9.out); have HB10 := Aside0.mk (HB9.out.trans (hb10.mono (by have := HG2.out; have := H29.out; omega))); rw [P0.out] at n0; rw [P1.out] at n1; rw [P2.out] at n2; rw [P3.out] at n3; clear hg10 hb10 x0 x1 x2 x3 x4 f0 f1 f2 f3 f4) | ((with_reducible refine gd_ 12 rfl ?_); refine bx_ 12 rfl #[.int .i64 0, .int .i64 0, .int .i64 0, .int .i64 0, .int .i64 0] 23 ?_; intro b12 hg w13 hbox hb; have HX13 := Aside0.mk (blk_below HX10.out hb); have HN13 := Aside0.mk hbox; obtain ⟨m0, m1, m2, m3, m4⟩ := cc5_ hbox; obtain ⟨q0, q1, q2, q3, q4⟩ := cf5_ hbox; have H212 := Aside0.mk (show b2 < b12 by rw [hg]; exact blk_lt HX10.out); have HB13 := Aside0.mk (below_step HB10.out hb); clear hb hbox hg) | (go_at_call 14; refine (impl_OpOk.calls k kd p0 p1 p2 p3 true _ HOK.out).mono ?_; rintro e w14 ⟨rfl, hb⟩; have HN14 := Aside0.mk (blk_below (o := .cells #[.int .i64 kd, .int .i64 p0, .int .i64 p1, .int .i64 p2, .int .i64 p3] 23 (0, 0)) (blk5 HN13.out) hb); have HX14 := Aside0.mk (blk_below (far5 HX13.out (by have := H212.out; omega)) hb); clear m0 m1 m2 m3 m4; obtain ⟨m0, m1, m2, m3, m4⟩ := cc5_ HN14.out; obtain ⟨x0, x1, x2, x3, x4⟩ := cc5_ HX14.out; obtain ⟨f0, f1, f2, f3, f4⟩ := cf5_ HX14.out; have HB14 := Aside0.mk (below_step (below5 HB13.out (by have := HG2.out; have := H212.out; omega)) hb); clear hb q0 q1 q2 q3 q4) | (go_at_call 12; refine (impl_OpText.calls k kd p0 p1 p2 p3 tx _ HTX.out (HG.out.belowW HB14.out)).mono ?_; rintro e w15 ⟨rfl, hb⟩; have HN15 := Aside0.mk (blk_below HN14.out hb); have HX15 := Aside0.mk (blk_below HX14.out hb); clear m0 m1 m2 m3 m4 x0 x1 x2 x3 x4 f0 f1 f2 f3 f4; obtain ⟨m0, m1, m2, m3, m4⟩ := cc5_ HN15.out; obtain ⟨x0, x1, x2, x3, x4⟩ := cc5_ HX15.out; obtain ⟨f0, f1, f2, f3, f4⟩ := cf5_ HX15.out; have HB15 := Aside0.mk (below_step HB14.out hb); clear hb))
         refine bodyPost_ret (results_ct rfl _ _ b2 23 #[.int .i64 kd, .int .i64 p0, .int .i64 p1, .int .i64 p2, .int .i64 p3] (0, 0) _ rfl (blk5 HX15.out) Tryd.underlying23 rfl (by kernel_rfl)) rfl ⟨rfl, below5 HB15.out HG2.out⟩
       · rw [if_neg hc] at h
         obtain ⟨rfl, rfl, rfl, rfl, rfl, rfl⟩ := tup6 h; have k0 := beq_eq_false_iff_ne.mpr hc; have k1 := bne_iff_ne.mpr hc; clear hc
         go_enter Tryd.func8, Tryd.ntmps8
         go_wp2_with (first | ((with_reducible refine gd_ 2 rfl ?_); refine bx_ 2 rfl #[.int .i64 0, .int .i64 0, .int .i64 0, .int .i64 0, .int .i64 0] 23 ?_; intro b2 hg w4 hbox hb; have HX2 := Aside0.mk hbox; have HB4 := Aside0.mk hb; have HG2 := Aside0.mk (show w.heap.size ≤ b2 by rw [hg]; exact Nat.le_refl _); have HG4 := Aside0.mk (HG.out.belowW hb); clear hb hbox hg) | (go_at_call 31; refine (cut_calls a0 word rest _ _ HG4.out HS.out HW.out HRs.out HM.out).mono ?_; rintro e w5 ⟨rfl, hb⟩; have HX5 := Aside0.mk (blk_below HX2.out hb); have HB5 := Aside0.mk (below_step HB4.out hb); have HG5 := Aside0.mk (HG4.out.belowW hb); clear hb) | (go_at_call 32; refine (opKind_calls word _ HG5.out).mono ?_; rw [HK.out]; rintro e w6 ⟨rfl, hb⟩; have HX6 := Aside0.mk (blk_below HX5.out hb); obtain ⟨x0, x1, x2, x3, x4⟩ := cc5_ HX6.out; obtain ⟨f0, f1, f2, f3, f4⟩ := cf5_ HX6.out; have HB6 := Aside0.mk (below_step HB5.out hb); have HG6 := Aside0.mk (HG5.out.belowW hb); clear hb) | ((with_reducible refine gd_ 9 rfl ?_); refine bx_ 9 rfl #[.int .i64 0, .int .i64 0, .int .i64 0, .int .i64 0] 53 ?_; intro b9 hg w7 hbox hb; have HX7 := Aside0.mk (blk_below HX6.out hb); have HN7 := Aside0.mk hbox; obtain ⟨n0, n1, n2, n3⟩ := cc4_ hbox; have H29 := Aside0.mk (show b2 < b9 by rw [hg]; exact blk_lt HX6.out); have HB7 := Aside0.mk (below_step HB6.out hb); have HG7 := Aside0.mk (HG6.out.belowW hb); clear hb hbox hg x0 x1 x2 x3 x4 f0 f1 f2 f3 f4) | ((with_reducible refine gd_ 10 rfl ?_); refine bx_ 10 rfl #[.string ⟨#[]⟩, .bool false] 55 ?_; intro b10 hg w8 hbox hb; have HX8 := Aside0.mk (blk_below HX7.out hb); have HN8 := Aside0.mk (blk_below HN7.out hb); have HT8 := Aside0.mk hbox; have H910 := Aside0.mk (show b9 < b10 by rw [hg]; exact blk_lt HN7.out); have HB8 := Aside0.mk (below_step HB7.out hb); have HG8 := Aside0.mk (HG7.out.belowW hb); clear hb hbox hg n0 n1 n2 n3) | (go_at_call 33; refine (scanInt_calls k b10 ⟨#[]⟩ rest ⟨#[46]⟩ ns _ _ HG8.out HRS.out (by decide) HT8.out HSC.out).mono ?_; rintro e w9 ⟨v, rfl, hR, hT, hb⟩; obtain ⟨A9, c9, rfl, hc9, hr9⟩ := Kd.R_reads hR; have HR9 := Aside0.mk hr9; obtain ⟨t0, t1⟩ := cells2_at hT; have HX9 := Aside0.mk ((hb.block b2 (by have := H29.out; have := H910.out; omega)).trans HX8.out); have HN9 := Aside0.mk ((hb.block b9 H910.out).trans HN8.out); have HB9 := Aside0.mk (HB8.out.trans (hb.mono (by have := HG2.out; have := H29.out; have := H910.out; omega))); obtain ⟨n9, hn9⟩ : ∃ n, ns.length = n := ⟨_, rfl⟩; have HL9 := Aside0.mk hn9; rw [hn9]; obtain ⟨x0, x1, x2, x3, x4⟩ := cc5_ HX9.out; obtain ⟨f0, f1, f2, f3, f4⟩ := cf5_ HX9.out; have hlen : ¬ ((4 : Int) < (n9 : Int)) := (by have := H4.out; omega); have HL4 : Aside0 (n9 ≤ 4) := ⟨by have := H4.out; omega⟩;clear hb hR hT hc9 hr9 hn9 t0) | ((with_reducible refine gate_builtin (b := .copy) (xs := #[.tmp 38, .tmp 39]) rfl ?_); refine wpList_copy_splice rfl (.tmp 38) (.tmp 39) 47 47 rfl 3 Tryd.underlying47 (by kernel_rfl) _ _ _ _ _ _ rfl rfl b9 0 (nums .i64 (List.replicate 4 0)) 53 ?hg (nums .i64 ns) ?hn ?hpos ?hfit ?h1 b9 _ (Below.refl _ _) (Nat.le_refl _) ?_; (case hg => exact HN9.out); (case hn => rw [nums_length]; have := HL9.out; have := HL4.out; show _ = min _ _; omega); (case hpos => intro hps; rw [nums_length] at hps; exact ⟨rfl, C_cells64 HR9.out hps⟩); (case hfit => rw [nums_length, nums_length]; have := HL9.out; have := HL4.out; simp; omega); (case h1 => intro v hv; obtain ⟨x, _, rfl⟩ := List.mem_map.1 hv; rfl); intro w10 hg10 hb10; rw [splice4 ns (by rw [HL9.out]; exact HL4.out)] at hg10; obtain ⟨n0, n1, n2, n3⟩ := nums_at (show w10.heap[b9]? = some (.cells (nums .i64 (pad4 ns)).toArray 53 (0, 0)) from hg10) (pad4_len ns (by rw [HL9.out]; exact HL4.out)); have HX10 := Aside0.mk ((hb10.block b2 H29.out).trans HX9.out); have HB10 := Aside0.mk (HB9.out.trans (hb10.mono (by have := HG2.out; have := H29.out; omega))); rw [P0.out] at n0; rw [P1.out] at n1; rw [P2.out] at n2; rw [P3.out] at n3; clear hg10 hb10 x0 x1 x2 x3 x4 f0 f1 f2 f3 f4) | ((with_reducible refine gd_ 12 rfl ?_); refine bx_ 12 rfl #[.int .i64 0, .int .i64 0, .int .i64 0, .int .i64 0, .int .i64 0] 23 ?_; intro b12 hg w13 hbox hb; have HX13 := Aside0.mk (blk_below HX10.out hb); have HN13 := Aside0.mk hbox; obtain ⟨m0, m1, m2, m3, m4⟩ := cc5_ hbox; obtain ⟨q0, q1, q2, q3, q4⟩ := cf5_ hbox; have H212 := Aside0.mk (show b2 < b12 by rw [hg]; exact blk_lt HX10.out); have HB13 := Aside0.mk (below_step HB10.out hb); clear hb hbox hg) | (go_at_call 14; refine (impl_OpOk.calls k kd p0 p1 p2 p3 true _ HOK.out).mono ?_; rintro e w14 ⟨rfl, hb⟩; have HN14 := Aside0.mk (blk_below (o := .cells #[.int .i64 kd, .int .i64 p0, .int .i64 p1, .int .i64 p2, .int .i64 p3] 23 (0, 0)) (blk5 HN13.out) hb); have HX14 := Aside0.mk (blk_below (far5 HX13.out (by have := H212.out; omega)) hb); clear m0 m1 m2 m3 m4; obtain ⟨m0, m1, m2, m3, m4⟩ := cc5_ HN14.out; obtain ⟨x0, x1, x2, x3, x4⟩ := cc5_ HX14.out; obtain ⟨f0, f1, f2, f3, f4⟩ := cf5_ HX14.out; have HB14 := Aside0.mk (below_step (below5 HB13.out (by have := HG2.out; have := H212.out; omega)) hb); clear hb q0 q1 q2 q3 q4) | (go_at_call 12; refine (impl_OpText.calls k kd p0 p1 p2 p3 tx _ HTX.out (HG.out.belowW HB14.out)).mono ?_; rintro e w15 ⟨rfl, hb⟩; have HN15 := Aside0.mk (blk_below HN14.out hb); have HX15 := Aside0.mk (blk_below HX14.out hb); clear m0 m1 m2 m3 m4 x0 x1 x2 x3 x4 f0 f1 f2 f3 f4; obtain ⟨m0, m1, m2, m3, m4⟩ := cc5_ HN15.out; obtain ⟨x0, x1, x2, x3, x4⟩ := cc5_ HX15.out; obtain ⟨f0, f1, f2, f3, f4⟩ := cf5_ HX15.out; have HB15 := Aside0.mk (below_step HB14.out hb); clear hb))
         refine bodyPost_ret (results_ct rfl _ _ b2 23 #[.int .i64 0, .int .i64 0, .int .i64 0, .int .i64 0, .int .i64 0] (0, 0) _ rfl (blk5 HX15.out) Tryd.underlying23 rfl (by kernel_rfl)) rfl ⟨rfl, below5 HB15.out HG2.out⟩

end Go.Proofs.YtfafjpfigphchaaDoor.X
namespace Go.Proofs.YtfafjpfigphchaaDoor.X
open Go.RowKit Go.Proofs.YtfafjpfigphchaaDoorW.PrintWords Go.Proofs.YtfafjpfigphchaaDoorW.PrintLast Go.Proofs.YtfafjpfigphchaaDoorW.PrintMore
attribute [local go_sem] max2_int min2_int max_two min_two max_three min_three max_four min_four
set_option linter.unusedVariables false
set_option linter.unusedSimpArgs false

section
/-- A text without a word at its beginning, and whether it stood there. -/
def wordF (s p : ByteArray) : ByteArray × Bool := (⟨(Lib.trimPrefix s.data.toList p.data.toList).toArray⟩, Lib.hasPrefix s.data.toList p.data.toList)
def cutF (s p : ByteArray) : ByteArray × ByteArray × Bool := (⟨(Lib.cut s.data.toList p.data.toList).1.toArray⟩, ⟨(Lib.cut s.data.toList p.data.toList).2.1.toArray⟩, (Lib.cut s.data.toList p.data.toList).2.2)
set_option maxHeartbeats 4000000 in
set_option maxRecDepth 100000 in
theorem until_calls (B : Nat) (s p part rest : ByteArray) (ok fl : Bool) (w : World) (hG : Glob w) (hs : s.size ≤ 1048576) (hb : w.heap[B]? = some (.cells #[.string s, .bool fl] 55 (0, 0))) (h : cutF s p = (part, rest, ok)) :
    Calls Tryd.prog 50 #[.pointer (some ⟨B, 0, none⟩), .string p] w fun e w' => e = .returned (.string part) ∧ ∃ m, w' = ((w.drewN m).setCell ⟨B, 0, none⟩ (.string rest)).setCell ⟨B, 1, none⟩ (.bool (fl || !ok)) := by
  obtain ⟨x0, x1⟩ := cells2_at hb
  have y0 := blk_frozen hb 0
  have y1 := blk_frozen hb 1
  have z1 : ∀ m, (w.drewN m).cell? ⟨B, 1, none⟩ = some (.bool fl) := fun m => x1
  have z0 : ∀ m, (w.drewN m).cell? ⟨B, 0, none⟩ = some (.string s) := fun m => x0
  have f0 : ∀ m, (w.drewN m).frozen? ⟨B, 0, none⟩ = false := fun m => y0
  have f1 : ∀ m, (w.drewN m).frozen? ⟨B, 1, none⟩ = false := fun m => y1
  have HC : Aside0 (Calls Tryd.prog 31 #[.string s, .string p] w fun e w' => e = .returned (.tuple #[.string part, .string rest, .bool ok]) ∧ ∃ n, w' = w.drewN n) := ⟨by
    obtain ⟨m, hm⟩ := hG.max
    refine (Tryd.strings_Cut s p m w (by omega) hm).mono ?_
    rintro e w' ⟨rfl, n, rfl⟩
    obtain ⟨e1, e2, e3⟩ : (⟨(Lib.cut s.data.toList p.data.toList).1.toArray⟩ : ByteArray) = part ∧ (⟨(Lib.cut s.data.toList p.data.toList).2.1.toArray⟩ : ByteArray) = rest ∧ (Lib.cut s.data.toList p.data.toList).2.2 = ok := by
      unfold cutF at h
      simp only [Prod.mk.injEq] at h
      exact h
    rw [e1, e2, e3]
    exact ⟨rfl, n, rfl⟩⟩
  clear hG hs h hb
  cases fl with
  | true =>
    go_enter Tryd.func50, Tryd.ntmps50
    go_wp2_with (go_at_call 31; refine HC.out.mono ?_; rintro e w2 ⟨rfl, ⟨m, rfl⟩⟩)
    go_ret
    exact ⟨rfl, m, rfl⟩
  | false =>
    go_enter Tryd.func50, Tryd.ntmps50
    go_wp2_with (go_at_call 31; refine HC.out.mono ?_; rintro e w2 ⟨rfl, ⟨m, rfl⟩⟩)
    go_ret
    exact ⟨rfl, m, rfl⟩
set_option maxHeartbeats 4000000 in
set_option maxRecDepth 100000 in
theorem word_calls (B : Nat) (s p rest : ByteArray) (ok fl : Bool) (w : World) (hb : w.heap[B]? = some (.cells #[.string s, .bool fl] 55 (0, 0))) (h : wordF s p = (rest, ok)) :
    Calls Tryd.prog 49 #[.pointer (some ⟨B, 0, none⟩), .string p] w fun e w' => e = .returned (.tuple #[]) ∧ w' = (w.setCell ⟨B, 0, none⟩ (.string rest)).setCell ⟨B, 1, none⟩ (.bool (fl || !ok)) := by
  obtain ⟨x0, x1⟩ := cells2_at hb
  have y0 := blk_frozen hb 0
  have y1 := blk_frozen hb 1
  have HC : Aside0 (Calls Tryd.prog 69 #[.string s, .string p] w fun e w' => e = .returned (.tuple #[.string rest, .bool ok]) ∧ w' = w) := ⟨by
    refine (Tryd.strings_CutPrefix s p w).mono ?_
    rintro e w' ⟨rfl, hw⟩
    unfold wordF at h
    simp only [Prod.mk.injEq] at h
    rw [h.1, h.2]
    exact ⟨rfl, hw⟩⟩
  clear h hb
  cases fl with
  | true =>
    go_enter Tryd.func49, Tryd.ntmps49
    go_wp2_with (go_at_call 69; refine HC.out.mono ?_; rintro e w2 ⟨rfl, rfl⟩)
    refine bodyPost_end (results_none Tryd.results49 _ _ _) rfl ⟨rfl, rfl⟩
  | false =>
    go_enter Tryd.func49, Tryd.ntmps49
    go_wp2_with (go_at_call 69; refine HC.out.mono ?_; rintro e w2 ⟨rfl, rfl⟩)
    refine bodyPost_end (results_none Tryd.results49 _ _ _) rfl ⟨rfl, rfl⟩
set_option maxHeartbeats 4000000 in
set_option maxRecDepth 100000 in
theorem clone_calls (s : ByteArray) (w : World) (hs : s.size ≤ 1048576) :
    Calls Tryd.prog 52 #[.string s] w fun e w' => e = .returned (.string s) ∧ Below w.heap.size w w' := by
  have HS := Aside0.mk hs; clear hs
  go_enter Tryd.func52, Tryd.ntmps52
  go_wp2_with (go_at_call 71; refine (Tryd.stringslite_Clone s _ (by have := HS.out; omega)).mono ?_; rintro e w2 ⟨rfl, hb⟩; have HB := Aside0.mk hb; clear hb)
  go_ret
  exact ⟨rfl, HB.out⟩
theorem keep5 {w W : World} {g b : Nat} {row : Option Nat} {c0 c1 c2 c3 c4 : Value} (h : KeepBut w W g row) (hb : w.heap.size ≤ b) : KeepBut w (((((W.setCell ⟨b, 0, none⟩ c0).setCell ⟨b, 1, none⟩ c1).setCell ⟨b, 2, none⟩ c2).setCell ⟨b, 3, none⟩ c3).setCell ⟨b, 4, none⟩ c4) g row :=
  keep_far (p := ⟨b, 4, none⟩) (keep_far (p := ⟨b, 3, none⟩) (keep_far (p := ⟨b, 2, none⟩) (keep_far (p := ⟨b, 1, none⟩) (keep_far (p := ⟨b, 0, none⟩) h hb _) hb _) hb _) hb _) hb _
theorem keep_below {w W : World} {g : Nat} (h : Below w.heap.size w W) : KeepBut w W g none := ⟨h.size, fun i hi _ _ => h.block i hi⟩
set_option maxHeartbeats 4000000 in
set_option maxRecDepth 100000 in
theorem scanOp_calls (k B : Nat) (rest : ByteArray) (fl : Bool) (s : ByteArray) (o a b c d : Int) (ok : Bool) (w : World) (hG : Glob w) (hb : w.heap[B]? = some (.cells #[.string rest, .bool fl] 55 (0, 0))) (h : impl_OpRead.f k s = some (o, a, b, c, d, ok)) :
    Calls Tryd.prog 70 #[.pointer (some ⟨B, 0, none⟩), .string s, .func (.func 8) #[] #[]] w fun e w' => e = .returned (.agg #[.int .i64 o, .int .i64 a, .int .i64 b, .int .i64 c, .int .i64 d]) ∧ w'.heap[B]? = some (.cells #[.string rest, .bool (fl || !ok)] 55 (0, 0)) ∧ KeepBut w w' B none ∧ Below B w w' := by
  have hBl := blk_lt hb
  have H := Aside0.mk h; have HG := Aside0.mk hG; have HB := Aside0.mk hb; have HL := Aside0.mk hBl
  have hu := Tryd.underlying23
  have hz : ∀ w : World, (zeroValue 23).run Tryd.prog w = .ok (.agg #[.int .i64 0, .int .i64 0, .int .i64 0, .int .i64 0, .int .i64 0]) w := fun w => by kernel_rfl
  clear h hG hb hBl
  have henter : ∀ (args : Array Value) (W : World), (callFunc 8 args).run Tryd.prog W = .ok (.enter 8 args) W := fun args W => enters_ Tryd.func8 (by kernel_rfl) rfl args W
  go_enter Tryd.func70, Tryd.ntmps70
  go_upto_region 2 with (first
    | ((with_reducible refine gd_ 6 rfl ?_); refine bx_ 6 rfl #[.int .i64 0, .int .i64 0, .int .i64 0, .int .i64 0, .int .i64 0] 23 ?_; intro b6 hg w2 hbox hb; have H6 := Aside0.mk hbox; have HB2 := Aside0.mk hb; have HG6 := Aside0.mk (show w.heap.size ≤ b6 by rw [hg]; exact Nat.le_refl _); clear hb hbox hg)
    | ((with_reducible refine gd_ 7 rfl ?_); refine bx_ 7 rfl #[.int .i64 0, .int .i64 0, .int .i64 0, .int .i64 0, .int .i64 0] 23 ?_; intro b7 hg w4 hbox hb; have H7 := Aside0.mk hbox; have H64 := Aside0.mk (blk_below H63.out hb); have HB4 := Aside0.mk (below_step HB3.out hb); have HG7 := Aside0.mk (show w.heap.size ≤ b7 by rw [hg]; exact HB3.out.size); have N67 := Aside0.mk (show b6 ≠ b7 by rw [hg]; exact Nat.ne_of_lt (blk_lt H63.out)); obtain ⟨x0, x1, x2, x3, x4⟩ := cc5_ hbox; obtain ⟨f0, f1, f2, f3, f4⟩ := cf5_ hbox; clear hb hbox hg)
    | (go_at_call 8; refine (impl_OpRead.calls k s o a b c d ok _ H.out (HG.out.belowW HB2.out)).mono ?_; rintro e w3 ⟨rfl, hb⟩; have H63 := Aside0.mk (blk_below H6.out hb); have HB3 := Aside0.mk (below_step HB2.out hb); clear hb))
  generalize hw5 : (((((w4.setCell ⟨b7, 0, none⟩ (.int .i64 o)).setCell ⟨b7, 1, none⟩ (.int .i64 a)).setCell ⟨b7, 2, none⟩ (.int .i64 b)).setCell ⟨b7, 3, none⟩ (.int .i64 c)).setCell ⟨b7, 4, none⟩ (.int .i64 d)) = w5
  have H75 : Aside0 (w5.heap[b7]? = some (.cells #[.int .i64 o, .int .i64 a, .int .i64 b, .int .i64 c, .int .i64 d] 23 (0, 0))) := ⟨by rw [← hw5]; exact blk5 H7.out⟩
  have H65 : Aside0 (w5.heap[b6]? = some (.cells #[.int .i64 0, .int .i64 0, .int .i64 0, .int .i64 0, .int .i64 0] 23 (0, 0))) := ⟨by rw [← hw5]; exact far5 H64.out N67.out⟩
  have HB5 : Aside0 (Below w.heap.size w w5) := ⟨by rw [← hw5]; exact below5 HB4.out HG7.out⟩
  clear hw5 x0 x1 x2 x3 x4 f0 f1 f2 f3 f4 henter
  have HT5 := Aside0.mk (blk_below HB.out HB5.out)
  obtain ⟨t0, t1⟩ := cells2_at HT5.out
  have u1 := blk_frozen HT5.out 1
  have key : Aside0 (∀ W : World, W = w5.setCell ⟨B, 1, none⟩ (.bool (fl || !ok)) → W.heap[B]? = some (.cells #[.string rest, .bool (fl || !ok)] 55 (0, 0)) ∧ W.heap[b7]? = some (.cells #[.int .i64 o, .int .i64 a, .int .i64 b, .int .i64 c, .int .i64 d] 23 (0, 0)) ∧ W.heap[b6]? = some (.cells #[.int .i64 0, .int .i64 0, .int .i64 0, .int .i64 0, .int .i64 0] 23 (0, 0)) ∧ KeepBut w W B none ∧ Below B w W) := ⟨by
    rintro W rfl
    have nB7 : b7 ≠ B := by have := HG7.out; have := HL.out; omega
    have nB6 : b6 ≠ B := by have := HG6.out; have := HL.out; omega
    exact ⟨blk_set HT5.out 1 _, blk_far (p := ⟨B, 1, none⟩) H75.out nB7 _, blk_far (p := ⟨B, 1, none⟩) H65.out nB6 _, (keep_below HB5.out).set_ 1 _, (HB5.out.mono (Nat.le_of_lt HL.out)).setCell (p := ⟨B, 1, none⟩) (Nat.le_refl _) _⟩⟩
  cases fl <;> (
    go_upto_region 3 with (fail)
    generalize hw6 : w5.setCell ⟨B, 1, none⟩ _ = w6
    obtain ⟨hT6, h76, h66, hK6, hB6⟩ := key.out w6 hw6.symm
    have HT6 := Aside0.mk hT6; have H66 := Aside0.mk h66; have HK6 := Aside0.mk hK6; have HB6 := Aside0.mk hB6
    obtain ⟨x0, x1, x2, x3, x4⟩ := cc5_ h76
    obtain ⟨z0, z1, z2, z3, z4⟩ := cc5_ h66
    obtain ⟨q0, q1, q2, q3, q4⟩ := cf5_ h66
    clear hw6 t0 t1 u1 hT6 h66 h76 hK6 hB6
    go_wp2
    refine bodyPost_ret (results_cell_row Tryd.results70 _ _ b6 23 #[.int .i64 o, .int .i64 a, .int .i64 b, .int .i64 c, .int .i64 d] (0, 0) _ rfl (blk5 H66.out) Tryd.underlying23 rfl (by kernel_rfl)) rfl ⟨rfl, ?_, ?_, ?_⟩
    · exact far5 HT6.out (by have := HG6.out; have := HL.out; omega)
    · exact keep5 HK6.out HG6.out
    · exact below5 HB6.out (Nat.le_of_lt (Nat.lt_of_lt_of_le HL.out HG6.out)))
end
section
/-- The tables lie below. -/
def GlobLt (B : Nat) : Prop := 0 < B ∧ 2 < B ∧ 1 < B
theorem Glob.lt {w : World} (h : Glob w) : GlobLt w.heap.size := by
  obtain ⟨⟨t, fr, h1⟩, ⟨t2, fr2, h2⟩, ⟨m, h3⟩⟩ := h
  exact ⟨blk_lt h1, blk_lt h2, World.block_lt_of_cell? _ _ h3⟩
theorem GlobLt.mono {B C : Nat} (h : GlobLt B) (hc : B ≤ C) : GlobLt C := ⟨Nat.lt_of_lt_of_le h.1 hc, Nat.lt_of_lt_of_le h.2.1 hc, Nat.lt_of_lt_of_le h.2.2 hc⟩
theorem Glob.belowB {B : Nat} {w w' : World} (h : Glob w) (hl : GlobLt B) (hb : Below B w w') : Glob w' := by
  obtain ⟨⟨t, fr, h1⟩, ⟨t2, fr2, h2⟩, ⟨m, h3⟩⟩ := h
  exact ⟨⟨t, fr, (hb.block _ hl.1).trans h1⟩, ⟨t2, fr2, (hb.block _ hl.2.1).trans h2⟩, ⟨m, (hb.cell hl.2.2).trans h3⟩⟩
def scanG (k : Nat) : List ByteArray → Bool → Option (List (S23) × Bool)
  | [], fl => some ([], fl)
  | p :: ps, fl => (impl_OpRead.f k p).bind fun r => (scanG k ps (fl || !r.2.2.2.2.2)).bind fun x => some (⟨r.1, r.2.1, r.2.2.1, r.2.2.2.1, r.2.2.2.2.1⟩ :: x.1, x.2)
set_option maxHeartbeats 4000000 in
set_option maxRecDepth 100000 in
theorem scanOps_calls (k B : Nat) (rest s sep : ByteArray) (f0 : Bool) (ns : List (S23)) (fl : Bool) (w : World) (hG : Glob w) (hGL : GlobLt B) (hs : s.size ≤ 1048576) (h1 : 1 ≤ sep.size) (hb : w.heap[B]? = some (.cells #[.string rest, .bool f0] 55 (0, 0))) (h : scanG k (partsB s sep) f0 = some (ns, fl)) :
    Calls Tryd.prog 51 #[.pointer (some ⟨B, 0, none⟩), .string s, .string sep, .func (.func 8) #[] #[]] w fun e w' => ∃ v, e = .returned v ∧ Kd.R k23 23 w' B (fun j => w.heap.size ≤ j) v ns ∧ w'.heap[B]? = some (.cells #[.string rest, .bool fl] 55 (0, 0)) ∧ KeepBut w w' B none ∧ Below B w w' := by
  have hBl := blk_lt hb
  obtain ⟨ps, hps⟩ : ∃ ps, partsB s sep = ps := ⟨_, rfl⟩
  have hple := partsB_le s sep h1
  rw [hps] at h hple
  obtain ⟨P, hP⟩ : ∃ P, w.heap.size = P := ⟨_, rfl⟩
  have HPS := Aside0.mk hps; have HG := Aside0.mk hG; have HGL := Aside0.mk hGL; have HS := Aside0.mk hs; have H1 := Aside0.mk h1; have HB := Aside0.mk hb; have H := Aside0.mk h; have HL := Aside0.mk hple; have HPq := Aside0.mk hP; have HBP := Aside0.mk (show B < P by omega)
  clear hps hG hGL hs h1 hb h hple hP hBl
  obtain ⟨n, hn⟩ : ∃ n, ps.length = n := ⟨_, rfl⟩
  have HN := Aside0.mk hn
  have hn2 : (n : Int) ≤ 1048577 := by have := HL.out; have := HS.out; omega
  clear hn
  go_enter Tryd.func51, Tryd.ntmps51
  go_wp2_with (go_at_call 66; refine (split_calls s sep _ HG.out HS.out H1.out).mono ?_; rintro e w2 ⟨rfl, hw2⟩; rw [HPS.out, HN.out, HPq.out]; have HW := Aside0.mk hw2; clear hw2)
  have HP2 : Aside0 (w2.heap[P]? = some (.cells (ps.map Value.string).toArray 9 (0, 0))) := ⟨by rw [HW.out, HPS.out, ← HPq.out]; exact heap_alloc_new _ _⟩
  have HB2 : Aside0 (w2.heap[B]? = some (.cells #[.string rest, .bool f0] 55 (0, 0))) := ⟨by rw [HW.out]; exact blk_below HB.out ((Below.refl _ _).alloc (Nat.le_refl _) _)⟩
  have HBel : Aside0 (Below B w w2) := ⟨by rw [HW.out]; exact (Below.refl _ _).alloc (by rw [HPq.out]; exact Nat.le_of_lt HBP.out) _⟩
  have HKp : Aside0 (KeepBut w w2 B none) := ⟨by rw [HW.out]; exact keep_below ((Below.refl _ _).alloc (Nat.le_refl _) _)⟩
  clear HW HB
  go_loopg [9, 16] n (fun kq v9 v16 w' => ∃ (i : Nat) (acc ms : List (S23)) (fi : Bool), kq + i = n ∧ v16 = .int .i64 i ∧ Aside0 (scanG k (ps.drop i) fi = some (ms, fl)) ∧ Aside0 (acc ++ ms = ns) ∧ Aside0 (acc.length = i) ∧ Aside0 (Kd.R k23 23 w' B (fun j => P < j) v9 acc) ∧ Aside0 (w'.heap[B]? = some (.cells #[.string rest, .bool fi] 55 (0, 0))) ∧ Aside0 (w'.heap[P]? = some (.cells (ps.map Value.string).toArray 9 (0, 0))) ∧ Aside0 (Below B w w') ∧ Aside0 (KeepBut w w' B none))
  case atStart => exact ⟨0, [], ns, f0, by omega, rfl, H, Aside0.mk rfl, Aside0.mk rfl, Aside0.mk (Kd.R_nil _ _ _ _ _), HB2, HP2, HBel, HKp⟩
  case round =>
    clear H HB2 HP2 HBel HKp
    obtain ⟨i, acc, ms, fi, hk, rfl, H, HA, HAL, HR, HBi, HPi, HBel, HKp⟩ := hrel
    by_cases hi : i < n
    · have hi2 : i < ps.length := by rw [HN.out]; exact hi
      obtain ⟨p, hp⟩ : ∃ p, ps[i]? = some p := ⟨_, List.getElem?_eq_getElem hi2⟩
      have hd : ps.drop i = p :: ps.drop (i + 1) := by
        rw [List.drop_eq_getElem_cons hi2]
        congr 1
        rw [List.getElem?_eq_getElem hi2] at hp
        exact Option.some.inj hp
      have x := part_at HPi.out hp
      have H2 := H.out
      rw [hd, scanG] at H2
      obtain ⟨⟨qo, qa, qb, qc, qd, ok⟩, hq, H2⟩ := Option.bind_eq_some_iff.1 H2
      obtain ⟨⟨ms2, fl2⟩, hm, H2⟩ := Option.bind_eq_some_iff.1 H2
      obtain ⟨rfl, rfl⟩ := Prod.mk.inj (Option.some.inj H2)
      have HQ := Aside0.mk hq; have HM := Aside0.mk hm
      clear hi2 hp hd H2 hq hm H
      have hin : (i : Int) < (n : Int) := by omega
      go_wp2_with (first
        | (go_at_call 70; refine (scanOp_calls k B rest fi p qo qa qb qc qd ok _ (HG.out.belowB HGL.out HBel.out) HBi.out HQ.out).mono ?_; rintro e w3 ⟨rfl, hT, hK, hBe⟩; have HB3 := Aside0.mk hT; have HP3 := Aside0.mk ((hK.2 P (blk_lt HPi.out) (by have := HBP.out; omega) (by simp)).trans HPi.out); have HR3 := Aside0.mk (Kd.R_keep HR.out hK (fun j hj => by have := HBP.out; omega)); have HBel3 := Aside0.mk (HBel.out.trans hBe); have HKp3 := Aside0.mk (HKp.out.trans hK (.inl rfl)); clear hT hK hBe)
        | ((with_reducible refine gate_builtin (b := .append) (xs := #[.tmp 20, .tmp 25]) rfl ?_); at_builtin; refine Kd.R_append k23 (w0 := w) B rfl (.tmp 20) (.tmp 25) 35 23 (.agg #[.int .i64 0, .int .i64 0, .int .i64 0, .int .i64 0, .int .i64 0]) 40 rfl Tryd.underlying35 info23 rfl (by decide) (by omega) u9 acc (⟨qo, qa, qb, qc, qd⟩ : S23) [.int .i64 qo, .int .i64 qa, .int .i64 qb, .int .i64 qc, .int .i64 qd] (fun j => P < j) (fun _ => False) rfl rfl ?aP (fun _ hk => hk.elim) ?aF ?aO ?aB ?aS ?aL ?_; (case aP => exact k23_mkM _ _ _ _); (case aB => exact HBel3.out); (case aF => intro j hj; have := blk_lt HP3.out; show P < j; omega); (case aO => exact HR3.out); (case aS => have := blk_lt HB3.out; omega); (case aL => have := HAL.out; omega); intro v1 w4 ho hb hg hat; have HR4 := Aside0.mk ho; have HBel4 := Aside0.mk hb; have hown := HR3.out.1; have HB4 : Aside0 (w4.heap[B]? = some (.cells #[.string rest, .bool (fi || !ok)] 55 (0, 0))) := ⟨(hg.block B (blk_lt HB3.out) (fun h => absurd (hown B h.symm) (by have := HBP.out; omega))).trans HB3.out⟩; have HP4 : Aside0 (w4.heap[P]? = some (.cells (ps.map Value.string).toArray 9 (0, 0))) := ⟨(hg.block P (blk_lt HP3.out) (fun h => absurd (hown P h.symm) (by omega))).trans HP3.out⟩; have HKp4 : Aside0 (KeepBut w w4 B none) := ⟨⟨Nat.le_trans HKp3.out.1 hg.size, fun i hi hne hr => (hg.block i (Nat.lt_of_lt_of_le hi HKp3.out.1) (fun h => absurd (hown i h.symm) (by have := HPq.out; omega))).trans (HKp3.out.2 i hi hne hr)⟩⟩; clear ho hb hg hat hown))
      go_roundg (gk - 1)
      case measure => omega
      case rel => exact ⟨i + 1, acc ++ [⟨qo, qa, qb, qc, qd⟩], ms2, fi || !ok, by omega, by first | rfl | (simp; done) | (unfold wrap64; simp; omega), HM, Aside0.mk (by rw [← HA.out, List.append_assoc]; rfl), Aside0.mk (by rw [List.length_append, HAL.out]; rfl), HR4, HB4, HP4, HBel4, HKp4⟩
    · have hin : ¬ ((i : Int) < (n : Int)) := by omega
      have hlast : ms = [] ∧ fi = fl := by
        have H2 := H.out
        rw [List.drop_of_length_le (by rw [HN.out]; omega), scanG] at H2
        obtain ⟨e1, e2⟩ := Prod.mk.inj (Option.some.inj H2)
        exact ⟨e1.symm, e2⟩
      obtain ⟨rfl, rfl⟩ := hlast
      have e := HA.out
      rw [List.append_nil] at e
      subst e
      go_wp2
      go_ret
      exact ⟨_, rfl, Kd.R_mono HR.out (fun j h => by have := HPq.out; omega), HBi.out, HKp.out, HBel.out⟩
end
end Go.Proofs.YtfafjpfigphchaaDoor.X
namespace Go.Proofs.YtfafjpfigphchaaDoor.X
open Go.RowKit Go.Proofs.YtfafjpfigphchaaDoorW.PrintWords Go.Proofs.YtfafjpfigphchaaDoorW.PrintLast Go.Proofs.YtfafjpfigphchaaDoorW.PrintMore
attribute [local go_sem] max2_int min2_int max_two min_two max_three min_three max_four min_four
set_option linter.unusedVariables false
set_option linter.unusedSimpArgs false

/-! ### impl_AskRead: function 18 -/
abbrev AskR := List (S23) × ByteArray × Int × Bool
def zA : AskR := ([], ⟨#[]⟩, 0, false)
def askEnd (k : Nat) (s : ByteArray) (l : List (S23)) (path : ByteArray) (n : Int) : Option AskR := (impl_AskOk.f k l path n).bind fun t => if t = true then (impl_AskText.f k l path n).bind fun x => if x.toList = s.toList then some (l, path, n, true) else some zA else some zA
def askMid (k : Nat) (s ops r1 : ByteArray) (f1 : Bool) : Option AskR := (if ops.toList = [45] then some ([], f1) else scanG k (partsB ops ⟨#[44]⟩) f1).bind fun x => (impl_numberRead.f k (cutF r1 ⟨#[63, 101, 61]⟩).2.1).bind fun y => if ((x.2 || !(cutF r1 ⟨#[63, 101, 61]⟩).2.2) || !y.2) = true then some zA else askEnd k s x.1 (cutF r1 ⟨#[63, 101, 61]⟩).1 y.1
def impl_AskRead.f (k : Nat) (a0 : ByteArray) : Option (List (S23) × ByteArray × Int × Bool) := if 200 < a0.size then some zA else
 if (wordF a0 ⟨#[47]⟩).1.size ≤ 1048576 ∧ (cutF (wordF a0 ⟨#[47]⟩).1 ⟨#[47]⟩).1.size ≤ 1048576 ∧ (cutF (wordF a0 ⟨#[47]⟩).1 ⟨#[47]⟩).2.1.size ≤ 1048576 ∧ (cutF (cutF (wordF a0 ⟨#[47]⟩).1 ⟨#[47]⟩).2.1 ⟨#[63, 101, 61]⟩).1.size ≤ 1048576 then askMid k a0 (cutF (wordF a0 ⟨#[47]⟩).1 ⟨#[47]⟩).1 (cutF (wordF a0 ⟨#[47]⟩).1 ⟨#[47]⟩).2.1 ((false || !(wordF a0 ⟨#[47]⟩).2) || !(cutF (wordF a0 ⟨#[47]⟩).1 ⟨#[47]⟩).2.2) else none
section
variable {w w0 : World} {g b B : Nat} {t : TypeId} {a0 a1 a2 c0 c1 c2 : Value} {cs : Array Value}
theorem blk3 (h : w.heap[g]? = some (.cells #[a0, a1, a2] t (0, 0))) : (((w.setCell ⟨g, 0, none⟩ c0).setCell ⟨g, 1, none⟩ c1).setCell ⟨g, 2, none⟩ c2).heap[g]? = some (.cells #[c0, c1, c2] t (0, 0)) :=
 blk_set (blk_set (blk_set h 0 _) 1 _) 2 _
theorem below3 (h : Below B w0 w) (hb : B ≤ b) : Below B w0 (((w.setCell ⟨b, 0, none⟩ c0).setCell ⟨b, 1, none⟩ c1).setCell ⟨b, 2, none⟩ c2) :=
 ((h.setCell (p := ⟨b, 0, none⟩) hb _).setCell (p := ⟨b, 1, none⟩) hb _).setCell (p := ⟨b, 2, none⟩) hb _
end
theorem tup4 {a a' : List (S23)} {b b' : ByteArray} {c c' : Int} {d d' : Bool} (h : some (a, b, c, d) = some (a', b', c', d')) : a = a' ∧ b = b' ∧ c = c' ∧ d = d' := by
 have := Option.some.inj h
 simp only [Prod.mk.injEq] at this
 exact this
/-- The three blocks of the walk. -/
structure AskW (w W : World) (b2 b4 b6 : Nat) (rest : ByteArray) (fl : Bool) (v : Value) (path : ByteArray) (n : Int) : Prop where
 h2 : W.heap[b2]? = some (.cells #[.slice none 0 0, .string ⟨#[]⟩, .int .i64 0] 37 (0, 0))
 h4 : W.heap[b4]? = some (.cells #[.string rest, .bool fl] 55 (0, 0))
 h6 : W.heap[b6]? = some (.cells #[v, .string path, .int .i64 n] 37 (0, 0))
 l2 : w.heap.size ≤ b2
 l4 : b2 < b4
 l6 : b4 < b6
 bel : Below w.heap.size w W
section
variable {w W W' : World} {b2 b4 b6 : Nat} {rest : ByteArray} {fl : Bool} {v : Value} {path : ByteArray} {n : Int}
theorem AskW.below (h : AskW w W b2 b4 b6 rest fl v path n) (hb : Below W.heap.size W W') : AskW w W' b2 b4 b6 rest fl v path n := ⟨blk_below h.h2 hb, blk_below h.h4 hb, blk_below h.h6 hb, h.l2, h.l4, h.l6, below_step h.bel hb⟩
theorem AskW.set4 (h : AskW w W b2 b4 b6 rest fl v path n) (r' : ByteArray) (f' : Bool) : AskW w ((W.setCell ⟨b4, 0, none⟩ (.string r')).setCell ⟨b4, 1, none⟩ (.bool f')) b2 b4 b6 r' f' v path n := by
 have h1 := h.l2; have h3 := h.l4; have h5 := h.l6
 exact ⟨blk_far (p := ⟨b4, 1, none⟩) (blk_far (p := ⟨b4, 0, none⟩) h.h2 (by show b2 ≠ b4; omega) _) (by show b2 ≠ b4; omega) _, blk_set (blk_set h.h4 0 _) 1 _, blk_far (p := ⟨b4, 1, none⟩) (blk_far (p := ⟨b4, 0, none⟩) h.h6 (by show b6 ≠ b4; omega) _) (by show b6 ≠ b4; omega) _, h.l2, h.l4, h.l6, (h.bel.setCell (p := ⟨b4, 0, none⟩) (by show w.heap.size ≤ b4; omega) _).setCell (p := ⟨b4, 1, none⟩) (by show w.heap.size ≤ b4; omega) _⟩
theorem AskW.flag (h : AskW w W b2 b4 b6 rest fl v path n) (f' : Bool) : AskW w (W.setCell ⟨b4, 1, none⟩ (.bool f')) b2 b4 b6 rest f' v path n := by
 have h1 := h.l2; have h3 := h.l4; have h5 := h.l6
 exact ⟨blk_far (p := ⟨b4, 1, none⟩) h.h2 (by show b2 ≠ b4; omega) _, blk_set h.h4 1 _, blk_far (p := ⟨b4, 1, none⟩) h.h6 (by show b6 ≠ b4; omega) _, h.l2, h.l4, h.l6, h.bel.setCell (p := ⟨b4, 1, none⟩) (by show w.heap.size ≤ b4; omega) _⟩
theorem AskW.set6 (h : AskW w W b2 b4 b6 rest fl v path n) (v' : Value) : AskW w (W.setCell ⟨b6, 0, none⟩ v') b2 b4 b6 rest fl v' path n := by
 have h1 := h.l2; have h3 := h.l4; have h5 := h.l6
 exact ⟨blk_far (p := ⟨b6, 0, none⟩) h.h2 (by show b2 ≠ b6; omega) _, blk_far (p := ⟨b6, 0, none⟩) h.h4 (by show b4 ≠ b6; omega) _, blk_set h.h6 0 _, h.l2, h.l4, h.l6, h.bel.setCell (p := ⟨b6, 0, none⟩) (by show w.heap.size ≤ b6; omega) _⟩
theorem AskW.setP (h : AskW w W b2 b4 b6 rest fl v path n) (p' : ByteArray) : AskW w (W.setCell ⟨b6, 1, none⟩ (.string p')) b2 b4 b6 rest fl v p' n := by
 have h1 := h.l2; have h3 := h.l4; have h5 := h.l6
 exact ⟨blk_far (p := ⟨b6, 1, none⟩) h.h2 (by show b2 ≠ b6; omega) _, blk_far (p := ⟨b6, 1, none⟩) h.h4 (by show b4 ≠ b6; omega) _, blk_set h.h6 1 _, h.l2, h.l4, h.l6, h.bel.setCell (p := ⟨b6, 1, none⟩) (by show w.heap.size ≤ b6; omega) _⟩
theorem AskW.setN (h : AskW w W b2 b4 b6 rest fl v path n) (n' : Int) : AskW w (W.setCell ⟨b6, 2, none⟩ (.int .i64 n')) b2 b4 b6 rest fl v path n' := by
 have h1 := h.l2; have h3 := h.l4; have h5 := h.l6
 exact ⟨blk_far (p := ⟨b6, 2, none⟩) h.h2 (by show b2 ≠ b6; omega) _, blk_far (p := ⟨b6, 2, none⟩) h.h4 (by show b4 ≠ b6; omega) _, blk_set h.h6 2 _, h.l2, h.l4, h.l6, h.bel.setCell (p := ⟨b6, 2, none⟩) (by show w.heap.size ≤ b6; omega) _⟩
end
set_option maxHeartbeats 8000000 in
set_option maxRecDepth 100000 in
theorem impl_AskRead.calls (k : Nat) (a0 : ByteArray) (r1 : List (S23)) (r2 : ByteArray) (r3 : Int) (r4 : Bool) (w : World) (h : impl_AskRead.f k a0 = some (r1, r2, r3, r4)) (hG : Glob w) :
  Calls Tryd.prog 18 #[.string a0] w fun e w' => ∃ v0_ : Value, e = .returned (.tuple #[.agg #[v0_, .string r2, .int .i64 r3], .bool r4]) ∧ Kd.R k23 23 w' w.heap.size (fun _ => True) v0_ r1 ∧ Below w.heap.size w w' := by
 have HG := Aside0.mk hG; clear hG; have hu := Tryd.underlying37; have hz : ∀ w : World, (zeroValue 37).run Tryd.prog w = .ok (.agg #[.slice none 0 0, .string ⟨#[]⟩, .int .i64 0]) w := fun w => (by kernel_rfl); have hzt : ∀ w : World, (zeroValue 55).run Tryd.prog w = .ok (.agg #[.string ⟨#[]⟩, .bool false]) w := fun w => (by kernel_rfl)
 unfold impl_AskRead.f at h
 by_cases h200 : 200 < a0.size
 · rw [if_pos h200] at h
   obtain ⟨rfl, rfl, rfl, rfl⟩ := tup4 h; have g2 : (200 : Int) < (a0.size : Int) := (by omega); clear h h200
   go_enter Tryd.func18, Tryd.ntmps18
   go_wp2_with ((with_reducible refine gd_ 2 rfl ?_); refine bx_ 2 rfl #[.slice none 0 0, .string ⟨#[]⟩, .int .i64 0] 37 ?_; intro b2 hg w1 hbox hb; have HX2 := Aside0.mk hbox; have HB2 := Aside0.mk hb; have HG2 := Aside0.mk (show w.heap.size ≤ b2 by rw [hg]; exact Nat.le_refl _); obtain ⟨x0, x1, x2⟩ := cc3_ hbox; obtain ⟨f0, f1_, f2_⟩ := cf3_ hbox; clear hb hbox hg)
   refine bodyPost_ret (results_ct rfl _ _ b2 37 #[.slice none 0 0, .string ⟨#[]⟩, .int .i64 0] (0, 0) _ rfl (blk3 HX2.out) Tryd.underlying37 rfl (by kernel_rfl)) rfl ⟨_, rfl, Kd.R_nil _ _ _ _ _, below3 HB2.out HG2.out⟩
 · rw [if_neg h200] at h
   have g2 : ¬ ((200 : Int) < (a0.size : Int)) := (by omega)
   split at h
   case isFalse => cases h
   rename_i hs
   obtain ⟨⟨r0, ok0⟩, hw0⟩ : ∃ x, wordF a0 ⟨#[47]⟩ = x := ⟨_, rfl⟩
   rw [hw0] at h hs
   dsimp only at h hs
   obtain ⟨⟨ops, q1, ok1⟩, hc1⟩ : ∃ x, cutF r0 ⟨#[47]⟩ = x := ⟨_, rfl⟩
   rw [hc1] at h hs
   dsimp only at h hs
   obtain ⟨⟨path, q2, ok2⟩, hc2⟩ : ∃ x, cutF q1 ⟨#[63, 101, 61]⟩ = x := ⟨_, rfl⟩
   unfold askMid at h
   rw [hc2] at h hs
   dsimp only at h hs
   obtain ⟨f1, hf1⟩ : ∃ f, ((false || !ok0) || !ok1) = f := ⟨_, rfl⟩
   rw [hf1] at h
   obtain ⟨⟨l, f2⟩, hl, hB⟩ := Option.bind_eq_some_iff.1 h; clear h
   dsimp only at hB
   obtain ⟨⟨n, okn⟩, hn, h⟩ := Option.bind_eq_some_iff.1 hB; clear hB
   dsimp only at h
   have HW0 := Aside0.mk hw0; have HC1 := Aside0.mk hc1; have HC2 := Aside0.mk hc2; have HF1 := Aside0.mk hf1; have HL_ := Aside0.mk hl; have HN := Aside0.mk hn; have S0 := Aside0.mk hs.1; have S1 := Aside0.mk hs.2.1; have S2 := Aside0.mk hs.2.2.1; have S3 := Aside0.mk hs.2.2.2; clear hw0 hc1 hc2 hf1 hl hn hs h200
   go_enter Tryd.func18, Tryd.ntmps18
   go_upto_region 4 with (first | ((with_reducible refine gd_ 2 rfl ?_); refine bx_ 2 rfl #[.slice none 0 0, .string ⟨#[]⟩, .int .i64 0] 37 ?_; intro b2 hg w1 hbox hb; have HX2 := Aside0.mk hbox; have HB2 := Aside0.mk hb; have HG2 := Aside0.mk (show w.heap.size ≤ b2 by rw [hg]; exact Nat.le_refl _); obtain ⟨x0, x1, x2⟩ := cc3_ hbox; obtain ⟨f0, f1_, f2_⟩ := cf3_ hbox; clear hb hbox hg) | ((with_reducible refine gd_ 4 rfl ?_); refine bx_ 4 rfl #[.string ⟨#[]⟩, .bool false] 55 ?_; intro b4 hg w3 hbox hb; have HX3 := Aside0.mk (blk_below HX2.out hb); have HT3 := Aside0.mk hbox; have HB3 := Aside0.mk (below_step HB2.out hb); have H24 := Aside0.mk (show b2 < b4 by rw [hg]; exact blk_lt HX2.out); obtain ⟨y0, y1⟩ := cells2_at hbox; have z0 := blk_frozen hbox 0; have z1 := blk_frozen hbox 1; clear hb hbox hg))
   generalize hw4 : (w3.setCell ⟨b4, 0, none⟩ (.string a0)).setCell ⟨b4, 1, none⟩ (.bool false) = w4
   have A4 : Aside0 (w4.heap[b2]? = some (.cells #[.slice none 0 0, .string ⟨#[]⟩, .int .i64 0] 37 (0, 0)) ∧ w4.heap[b4]? = some (.cells #[.string a0, .bool false] 55 (0, 0)) ∧ Below w.heap.size w w4) := ⟨by rw [← hw4]; exact ⟨blk_far (p := ⟨b4, 1, none⟩) (blk_far (p := ⟨b4, 0, none⟩) HX3.out (show b2 ≠ b4 from Nat.ne_of_lt H24.out) _) (show b2 ≠ b4 from Nat.ne_of_lt H24.out) _, blk_set (blk_set HT3.out 0 _) 1 _, (HB3.out.setCell (p := ⟨b4, 0, none⟩) (Nat.le_trans HG2.out (Nat.le_of_lt H24.out)) _).setCell (p := ⟨b4, 1, none⟩) (Nat.le_trans HG2.out (Nat.le_of_lt H24.out)) _⟩⟩; clear hw4 y0 y1 z0 z1 x0 x1 x2 f0 f1_ f2_
   go_upto_region 5 with (go_at_call 49; refine (word_calls b4 a0 ⟨#[47]⟩ r0 ok0 false _ A4.out.2.1 HW0.out).mono ?_; rintro e w5 ⟨rfl, hw5⟩; have A5 : Aside0 (w5.heap[b2]? = some (.cells #[.slice none 0 0, .string ⟨#[]⟩, .int .i64 0] 37 (0, 0)) ∧ w5.heap[b4]? = some (.cells #[.string r0, .bool (false || !ok0)] 55 (0, 0)) ∧ Below w.heap.size w w5) := ⟨by rw [hw5]; exact ⟨blk_far (p := ⟨b4, 1, none⟩) (blk_far (p := ⟨b4, 0, none⟩) A4.out.1 (show b2 ≠ b4 from Nat.ne_of_lt H24.out) _) (show b2 ≠ b4 from Nat.ne_of_lt H24.out) _, blk_set (blk_set A4.out.2.1 0 _) 1 _, (A4.out.2.2.setCell (p := ⟨b4, 0, none⟩) (Nat.le_trans HG2.out (Nat.le_of_lt H24.out)) _).setCell (p := ⟨b4, 1, none⟩) (Nat.le_trans HG2.out (Nat.le_of_lt H24.out)) _⟩⟩; clear hw5)
   go_upto_region 6 with (go_at_call 50; refine (until_calls b4 r0 ⟨#[47]⟩ ops q1 ok1 (false || !ok0) _ (HG.out.belowW A5.out.2.2) S0.out A5.out.2.1 HC1.out).mono ?_; rintro e w6 ⟨rfl, m, hw6⟩; have A6 : Aside0 (w6.heap[b2]? = some (.cells #[.slice none 0 0, .string ⟨#[]⟩, .int .i64 0] 37 (0, 0)) ∧ w6.heap[b4]? = some (.cells #[.string q1, .bool f1] 55 (0, 0)) ∧ Below w.heap.size w w6) := ⟨by rw [hw6, HF1.out]; exact ⟨blk_far (w := (w5.drewN m).setCell ⟨b4, 0, none⟩ _) (p := ⟨b4, 1, none⟩) (blk_far (w := w5.drewN m) (p := ⟨b4, 0, none⟩) A5.out.1 (show b2 ≠ b4 from Nat.ne_of_lt H24.out) _) (show b2 ≠ b4 from Nat.ne_of_lt H24.out) _, blk_set (blk_set (w := w5.drewN m) A5.out.2.1 0 _) 1 _, ((pw_below_drewN A5.out.2.2 m).setCell (p := ⟨b4, 0, none⟩) (Nat.le_trans HG2.out (Nat.le_of_lt H24.out)) _).setCell (p := ⟨b4, 1, none⟩) (Nat.le_trans HG2.out (Nat.le_of_lt H24.out)) _⟩⟩; clear hw6)
   go_upto_region 7 with ((with_reducible refine gd_ 6 rfl ?_); refine bx_ 6 rfl #[.slice none 0 0, .string ⟨#[]⟩, .int .i64 0] 37 ?_; intro b6 hg w7 hbox hb; have HA7 : Aside0 (AskW w w7 b2 b4 b6 q1 f1 (.slice none 0 0) ⟨#[]⟩ 0) := ⟨⟨blk_below A6.out.1 hb, blk_below A6.out.2.1 hb, hbox, HG2.out, H24.out, (by rw [hg]; exact blk_lt A6.out.2.1), below_step A6.out.2.2 hb⟩⟩; clear hb hbox hg)
   by_cases hops : ops.toList = [45]
   · have hl := HL_.out
     rw [if_pos hops] at hl
     simp only [Option.some.injEq, Prod.mk.injEq] at hl
     obtain ⟨rfl, rfl⟩ := hl; have k5 := beq_iff_eq.mpr hops; have k6 := bne_eq_false_iff_eq.mpr hops; clear hops HL_
     go_upto_region 9 with (fail)
     have HA9 := HA7; have HR9 : Aside0 (Kd.R k23 23 w7 b4 (fun j => b6 < j) (.slice none 0 0) []) := ⟨Kd.R_nil _ _ _ _ _⟩; clear k5 k6
     go_upto_region 10 with (first | (go_at_call 50; refine (until_calls b4 q1 ⟨#[63, 101, 61]⟩ path q2 ok2 f1 _ (HG.out.belowW HA9.out.bel) S2.out HA9.out.h4 HC2.out).mono ?_; rintro e wa ⟨rfl, m, hwa⟩; have HAa : Aside0 (AskW w wa b2 b4 b6 q2 (f1 || !ok2) (.slice none 0 0) ⟨#[]⟩ 0) := ⟨by rw [hwa]; exact (HA9.out.below (pw_below_drewN (Below.refl _ _) m)).set4 _ _⟩; have HRa : Aside0 (Kd.R k23 23 wa b4 (fun j => b6 < j) (.slice none 0 0) []) := ⟨by rw [hwa]; exact Kd.R_far (p := ⟨b4, 1, none⟩) (Kd.R_far (p := ⟨b4, 0, none⟩) (Kd.R_drewN HR9.out m) (fun j hj => by have := HA7.out.l6; show j ≠ b4; omega) _) (fun j hj => by have := HA7.out.l6; show j ≠ b4; omega) _⟩; clear hwa) | (go_at_call 52; refine (clone_calls path _ S3.out).mono ?_; rintro e wb ⟨rfl, hb⟩; have HAb := Aside0.mk (HAa.out.below hb); have HRb := Aside0.mk (Kd.R_below HRa.out hb); obtain ⟨y0, y1, y2⟩ := cc3_ HAb.out.h6; obtain ⟨z0, z1, z2⟩ := cf3_ HAb.out.h6; clear hb))
     generalize hwc : wb.setCell ⟨b6, 1, none⟩ (.string path) = wc
     have HAc : Aside0 (AskW w wc b2 b4 b6 q2 (f1 || !ok2) (.slice none 0 0) path 0) := ⟨by rw [← hwc]; exact HAb.out.setP path⟩; have HRc : Aside0 (Kd.R k23 23 wc b4 (fun j => b6 < j) (.slice none 0 0) []) := ⟨by rw [← hwc]; exact Kd.R_far (p := ⟨b6, 1, none⟩) HRb.out (fun j hj => by show j ≠ b6; omega) _⟩; clear hwc y0 y1 y2 z0 z1 z2; obtain ⟨t0, t1⟩ := cells2_at HAc.out.h4
     go_upto_region 11 with (go_at_call 53; refine (scanPart_calls k b4 q2 (f1 || !ok2) q2 n okn _ HAc.out.h4 HN.out).mono ?_; rintro e wd ⟨rfl, m, hwd⟩; have HAd : Aside0 (AskW w wd b2 b4 b6 q2 ((f1 || !ok2) || !okn) (.slice none 0 0) path 0) := ⟨by rw [hwd]; exact (HAc.out.below (pw_below_drewN (Below.refl _ _) m)).flag _⟩; have HRd : Aside0 (Kd.R k23 23 wd b4 (fun j => b6 < j) (.slice none 0 0) []) := ⟨by rw [hwd]; exact Kd.R_far (p := ⟨b4, 1, none⟩) (Kd.R_drewN HRc.out m) (fun j hj => by have := HA7.out.l6; show j ≠ b4; omega) _⟩; obtain ⟨y0, y1, y2⟩ := cc3_ HAd.out.h6; obtain ⟨z0, z1, z2⟩ := cf3_ HAd.out.h6; clear hwd)
     generalize hwe : wd.setCell ⟨b6, 2, none⟩ (.int .i64 n) = we
     have HAe : Aside0 (AskW w we b2 b4 b6 q2 ((f1 || !ok2) || !okn) (.slice none 0 0) path n) := ⟨by rw [← hwe]; exact HAd.out.setN n⟩; have HRe : Aside0 (Kd.R k23 23 we b4 (fun j => b6 < j) (.slice none 0 0) []) := ⟨by rw [← hwe]; exact Kd.R_far (p := ⟨b6, 2, none⟩) HRd.out (fun j hj => by show j ≠ b6; omega) _⟩; clear hwe y0 y1 y2 z0 z1 z2 t0 t1; obtain ⟨f4, hf4⟩ : ∃ f, ((f1 || !ok2) || !okn) = f := ⟨_, rfl⟩
     rw [hf4] at HAe h
     clear hf4; obtain ⟨t0, t1⟩ := cells2_at HAe.out.h4; obtain ⟨x0, x1, x2⟩ := cc3_ HAe.out.h2; obtain ⟨p0, p1, p2⟩ := cf3_ HAe.out.h2
     cases f4 with
     | true =>
      rw [if_pos rfl] at h
      obtain ⟨rfl, rfl, rfl, rfl⟩ := tup4 h
      go_wp2
      refine bodyPost_ret (results_ct rfl _ _ b2 37 #[.slice none 0 0, .string ⟨#[]⟩, .int .i64 0] (0, 0) _ rfl (blk3 HAe.out.h2) Tryd.underlying37 rfl (by kernel_rfl)) rfl ⟨_, rfl, Kd.R_nil _ _ _ _ _, below3 HAe.out.bel HG2.out⟩
     | false =>
      rw [if_neg (by decide)] at h
      unfold askEnd at h
      obtain ⟨t, ht, h⟩ := Option.bind_eq_some_iff.1 h; have HOK := Aside0.mk ht; clear ht; obtain ⟨y0, y1, y2⟩ := cc3_ HAe.out.h6
      cases t with
      | false =>
       rw [if_neg (by decide)] at h
       obtain ⟨rfl, rfl, rfl, rfl⟩ := tup4 h
       go_wp2_with (go_at_call 27; refine (impl_AskOk.calls k none 0 [] path n false _ (Kd.R_reads' HRe.out).2.2 (Kd.R_reads' HRe.out).2.1 HOK.out).mono ?_; rintro e wf ⟨rfl, hb⟩; have HAf := Aside0.mk (HAe.out.below hb); have HRf := Aside0.mk (Kd.R_below HRe.out hb); clear x0 x1 x2 p0 p1 p2 y0 y1 y2; obtain ⟨y0, y1, y2⟩ := cc3_ HAf.out.h6; obtain ⟨x0, x1, x2⟩ := cc3_ HAf.out.h2; obtain ⟨p0, p1, p2⟩ := cf3_ HAf.out.h2; clear hb)
       refine bodyPost_ret (results_ct rfl _ _ b2 37 #[.slice none 0 0, .string ⟨#[]⟩, .int .i64 0] (0, 0) _ rfl (blk3 HAf.out.h2) Tryd.underlying37 rfl (by kernel_rfl)) rfl ⟨_, rfl, Kd.R_nil _ _ _ _ _, below3 HAf.out.bel HG2.out⟩
      | true =>
       rw [if_pos rfl] at h
       obtain ⟨tx, htx, h⟩ := Option.bind_eq_some_iff.1 h; have HTX := Aside0.mk htx; clear htx
       by_cases hc : tx.toList = a0.toList
       · rw [if_pos hc] at h
         obtain ⟨rfl, rfl, rfl, rfl⟩ := tup4 h; have k0 := beq_iff_eq.mpr hc; have k1 := bne_eq_false_iff_eq.mpr hc; clear hc
         go_wp2_with (first | (go_at_call 27; refine (impl_AskOk.calls k none 0 [] path n true _ (Kd.R_reads' HRe.out).2.2 (Kd.R_reads' HRe.out).2.1 HOK.out).mono ?_; rintro e wf ⟨rfl, hb⟩; have HAf := Aside0.mk (HAe.out.below hb); have HRf := Aside0.mk (Kd.R_below HRe.out hb); clear x0 x1 x2 p0 p1 p2 y0 y1 y2; obtain ⟨y0, y1, y2⟩ := cc3_ HAf.out.h6; obtain ⟨x0, x1, x2⟩ := cc3_ HAf.out.h2; obtain ⟨p0, p1, p2⟩ := cf3_ HAf.out.h2; clear hb) | (go_at_call 24; refine (impl_AskText.calls k none 0 [] path n tx _ (Kd.R_reads' HRf.out).2.2 (Kd.R_reads' HRf.out).2.1 HTX.out (HG.out.belowW HAf.out.bel)).mono ?_; rintro e wg ⟨rfl, hb⟩; have HAg := Aside0.mk (HAf.out.below hb); have HRg := Aside0.mk (Kd.R_below HRf.out hb); clear x0 x1 x2 p0 p1 p2 y0 y1 y2; obtain ⟨y0, y1, y2⟩ := cc3_ HAg.out.h6; obtain ⟨x0, x1, x2⟩ := cc3_ HAg.out.h2; obtain ⟨p0, p1, p2⟩ := cf3_ HAg.out.h2; clear hb))
         refine bodyPost_ret (results_ct rfl _ _ b2 37 #[.slice none 0 0, .string path, .int .i64 n] (0, 0) _ rfl (blk3 HAg.out.h2) Tryd.underlying37 rfl (by kernel_rfl)) rfl ⟨_, rfl, ?_, below3 HAg.out.bel HG2.out⟩
         have far2 : ∀ j, b6 < j → j ≠ b2 := fun j hj => by have := HA7.out.l6; have := H24.out; omega
         exact Kd.R_mono (Kd.R_lower (Kd.R_far (p := ⟨b2, 2, none⟩) (Kd.R_far (p := ⟨b2, 1, none⟩) (Kd.R_far (p := ⟨b2, 0, none⟩) HRg.out far2 _) far2 _) far2 _) (Nat.le_trans HG2.out (Nat.le_of_lt H24.out))) (fun _ _ => trivial)
       · rw [if_neg hc] at h
         obtain ⟨rfl, rfl, rfl, rfl⟩ := tup4 h; have k0 := beq_eq_false_iff_ne.mpr hc; have k1 := bne_iff_ne.mpr hc; clear hc
         go_wp2_with (first | (go_at_call 27; refine (impl_AskOk.calls k none 0 [] path n true _ (Kd.R_reads' HRe.out).2.2 (Kd.R_reads' HRe.out).2.1 HOK.out).mono ?_; rintro e wf ⟨rfl, hb⟩; have HAf := Aside0.mk (HAe.out.below hb); have HRf := Aside0.mk (Kd.R_below HRe.out hb); clear x0 x1 x2 p0 p1 p2 y0 y1 y2; obtain ⟨y0, y1, y2⟩ := cc3_ HAf.out.h6; obtain ⟨x0, x1, x2⟩ := cc3_ HAf.out.h2; obtain ⟨p0, p1, p2⟩ := cf3_ HAf.out.h2; clear hb) | (go_at_call 24; refine (impl_AskText.calls k none 0 [] path n tx _ (Kd.R_reads' HRf.out).2.2 (Kd.R_reads' HRf.out).2.1 HTX.out (HG.out.belowW HAf.out.bel)).mono ?_; rintro e wg ⟨rfl, hb⟩; have HAg := Aside0.mk (HAf.out.below hb); have HRg := Aside0.mk (Kd.R_below HRf.out hb); clear x0 x1 x2 p0 p1 p2 y0 y1 y2; obtain ⟨y0, y1, y2⟩ := cc3_ HAg.out.h6; obtain ⟨x0, x1, x2⟩ := cc3_ HAg.out.h2; obtain ⟨p0, p1, p2⟩ := cf3_ HAg.out.h2; clear hb))
         refine bodyPost_ret (results_ct rfl _ _ b2 37 #[.slice none 0 0, .string ⟨#[]⟩, .int .i64 0] (0, 0) _ rfl (blk3 HAg.out.h2) Tryd.underlying37 rfl (by kernel_rfl)) rfl ⟨_, rfl, Kd.R_nil _ _ _ _ _, below3 HAg.out.bel HG2.out⟩
   · have HL := Aside0.mk ((if_neg hops).symm.trans HL_.out)
     have k5 := beq_eq_false_iff_ne.mpr hops; have k6 := bne_iff_ne.mpr hops; clear hops HL_
     go_upto_region 9 with (go_at_call 51; refine (scanOps_calls k b4 q1 ops ⟨#[44]⟩ f1 l f2 _ (HG.out.belowW HA7.out.bel) (HG.out.lt.mono (Nat.le_trans HG2.out (Nat.le_of_lt H24.out))) S1.out (by decide) HA7.out.h4 HL.out).mono ?_; rintro e w8 ⟨v, rfl, hR, hT, hK, hBe⟩; obtain ⟨A8, c8, rfl, hc8, hr8⟩ := Kd.R_reads hR; have HA8 : Aside0 (AskW w w8 b2 b4 b6 q1 f2 (.slice none 0 0) ⟨#[]⟩ 0) := ⟨⟨(hK.2 b2 (blk_lt HA7.out.h2) (show b2 ≠ b4 from Nat.ne_of_lt H24.out) (by simp)).trans HA7.out.h2, hT, (hK.2 b6 (blk_lt HA7.out.h6) (Nat.ne_of_gt HA7.out.l6) (by simp)).trans HA7.out.h6, HG2.out, H24.out, HA7.out.l6, HA7.out.bel.trans (hBe.mono (Nat.le_trans HG2.out (Nat.le_of_lt H24.out)))⟩⟩; have HR8 : Aside0 (Kd.R k23 23 w8 b4 (fun j => b6 < j) (.slice A8 l.length c8) l) := ⟨Kd.R_mono hR (fun j hj => Nat.lt_of_lt_of_le (blk_lt HA7.out.h6) hj)⟩; obtain ⟨y0, y1, y2⟩ := cc3_ HA8.out.h6; obtain ⟨z0, z1, z2⟩ := cf3_ HA8.out.h6; clear hR hT hK hBe hc8 hr8)
     generalize hw9 : w8.setCell ⟨b6, 0, none⟩ (.slice A8 l.length c8) = w9
     have HA9 : Aside0 (AskW w w9 b2 b4 b6 q1 f2 (.slice A8 l.length c8) ⟨#[]⟩ 0) := ⟨by rw [← hw9]; exact HA8.out.set6 _⟩; have HR9 : Aside0 (Kd.R k23 23 w9 b4 (fun j => b6 < j) (.slice A8 l.length c8) l) := ⟨by rw [← hw9]; exact Kd.R_far (p := ⟨b6, 0, none⟩) HR8.out (fun j hj => by show j ≠ b6; omega) _⟩; clear hw9 y0 y1 y2 z0 z1 z2 k5 k6
     go_upto_region 10 with (first | (go_at_call 50; refine (until_calls b4 q1 ⟨#[63, 101, 61]⟩ path q2 ok2 f2 _ (HG.out.belowW HA9.out.bel) S2.out HA9.out.h4 HC2.out).mono ?_; rintro e wa ⟨rfl, m, hwa⟩; have HAa : Aside0 (AskW w wa b2 b4 b6 q2 (f2 || !ok2) (.slice A8 l.length c8) ⟨#[]⟩ 0) := ⟨by rw [hwa]; exact (HA9.out.below (pw_below_drewN (Below.refl _ _) m)).set4 _ _⟩; have HRa : Aside0 (Kd.R k23 23 wa b4 (fun j => b6 < j) (.slice A8 l.length c8) l) := ⟨by rw [hwa]; exact Kd.R_far (p := ⟨b4, 1, none⟩) (Kd.R_far (p := ⟨b4, 0, none⟩) (Kd.R_drewN HR9.out m) (fun j hj => by have := HA7.out.l6; show j ≠ b4; omega) _) (fun j hj => by have := HA7.out.l6; show j ≠ b4; omega) _⟩; clear hwa) | (go_at_call 52; refine (clone_calls path _ S3.out).mono ?_; rintro e wb ⟨rfl, hb⟩; have HAb := Aside0.mk (HAa.out.below hb); have HRb := Aside0.mk (Kd.R_below HRa.out hb); obtain ⟨y0, y1, y2⟩ := cc3_ HAb.out.h6; obtain ⟨z0, z1, z2⟩ := cf3_ HAb.out.h6; clear hb))
     generalize hwc : wb.setCell ⟨b6, 1, none⟩ (.string path) = wc
     have HAc : Aside0 (AskW w wc b2 b4 b6 q2 (f2 || !ok2) (.slice A8 l.length c8) path 0) := ⟨by rw [← hwc]; exact HAb.out.setP path⟩; have HRc : Aside0 (Kd.R k23 23 wc b4 (fun j => b6 < j) (.slice A8 l.length c8) l) := ⟨by rw [← hwc]; exact Kd.R_far (p := ⟨b6, 1, none⟩) HRb.out (fun j hj => by show j ≠ b6; omega) _⟩; clear hwc y0 y1 y2 z0 z1 z2; obtain ⟨t0, t1⟩ := cells2_at HAc.out.h4
     go_upto_region 11 with (go_at_call 53; refine (scanPart_calls k b4 q2 (f2 || !ok2) q2 n okn _ HAc.out.h4 HN.out).mono ?_; rintro e wd ⟨rfl, m, hwd⟩; have HAd : Aside0 (AskW w wd b2 b4 b6 q2 ((f2 || !ok2) || !okn) (.slice A8 l.length c8) path 0) := ⟨by rw [hwd]; exact (HAc.out.below (pw_below_drewN (Below.refl _ _) m)).flag _⟩; have HRd : Aside0 (Kd.R k23 23 wd b4 (fun j => b6 < j) (.slice A8 l.length c8) l) := ⟨by rw [hwd]; exact Kd.R_far (p := ⟨b4, 1, none⟩) (Kd.R_drewN HRc.out m) (fun j hj => by have := HA7.out.l6; show j ≠ b4; omega) _⟩; obtain ⟨y0, y1, y2⟩ := cc3_ HAd.out.h6; obtain ⟨z0, z1, z2⟩ := cf3_ HAd.out.h6; clear hwd)
     generalize hwe : wd.setCell ⟨b6, 2, none⟩ (.int .i64 n) = we
     have HAe : Aside0 (AskW w we b2 b4 b6 q2 ((f2 || !ok2) || !okn) (.slice A8 l.length c8) path n) := ⟨by rw [← hwe]; exact HAd.out.setN n⟩; have HRe : Aside0 (Kd.R k23 23 we b4 (fun j => b6 < j) (.slice A8 l.length c8) l) := ⟨by rw [← hwe]; exact Kd.R_far (p := ⟨b6, 2, none⟩) HRd.out (fun j hj => by show j ≠ b6; omega) _⟩; clear hwe y0 y1 y2 z0 z1 z2 t0 t1; obtain ⟨f4, hf4⟩ : ∃ f, ((f2 || !ok2) || !okn) = f := ⟨_, rfl⟩
     rw [hf4] at HAe h
     clear hf4; obtain ⟨t0, t1⟩ := cells2_at HAe.out.h4; obtain ⟨x0, x1, x2⟩ := cc3_ HAe.out.h2; obtain ⟨p0, p1, p2⟩ := cf3_ HAe.out.h2
     cases f4 with
     | true =>
      rw [if_pos rfl] at h
      obtain ⟨rfl, rfl, rfl, rfl⟩ := tup4 h
      go_wp2
      refine bodyPost_ret (results_ct rfl _ _ b2 37 #[.slice none 0 0, .string ⟨#[]⟩, .int .i64 0] (0, 0) _ rfl (blk3 HAe.out.h2) Tryd.underlying37 rfl (by kernel_rfl)) rfl ⟨_, rfl, Kd.R_nil _ _ _ _ _, below3 HAe.out.bel HG2.out⟩
     | false =>
      rw [if_neg (by decide)] at h
      unfold askEnd at h
      obtain ⟨t, ht, h⟩ := Option.bind_eq_some_iff.1 h; have HOK := Aside0.mk ht; clear ht; obtain ⟨y0, y1, y2⟩ := cc3_ HAe.out.h6
      cases t with
      | false =>
       rw [if_neg (by decide)] at h
       obtain ⟨rfl, rfl, rfl, rfl⟩ := tup4 h
       go_wp2_with (go_at_call 27; refine (impl_AskOk.calls k A8 c8 l path n false _ (Kd.R_reads' HRe.out).2.2 (Kd.R_reads' HRe.out).2.1 HOK.out).mono ?_; rintro e wf ⟨rfl, hb⟩; have HAf := Aside0.mk (HAe.out.below hb); have HRf := Aside0.mk (Kd.R_below HRe.out hb); clear x0 x1 x2 p0 p1 p2 y0 y1 y2; obtain ⟨y0, y1, y2⟩ := cc3_ HAf.out.h6; obtain ⟨x0, x1, x2⟩ := cc3_ HAf.out.h2; obtain ⟨p0, p1, p2⟩ := cf3_ HAf.out.h2; clear hb)
       refine bodyPost_ret (results_ct rfl _ _ b2 37 #[.slice none 0 0, .string ⟨#[]⟩, .int .i64 0] (0, 0) _ rfl (blk3 HAf.out.h2) Tryd.underlying37 rfl (by kernel_rfl)) rfl ⟨_, rfl, Kd.R_nil _ _ _ _ _, below3 HAf.out.bel HG2.out⟩
      | true =>
       rw [if_pos rfl] at h
       obtain ⟨tx, htx, h⟩ := Option.bind_eq_some_iff.1 h; have HTX := Aside0.mk htx; clear htx
       by_cases hc : tx.toList = a0.toList
       · rw [if_pos hc] at h
         obtain ⟨rfl, rfl, rfl, rfl⟩ := tup4 h; have k0 := beq_iff_eq.mpr hc; have k1 := bne_eq_false_iff_eq.mpr hc; clear hc
         go_wp2_with (first | (go_at_call 27; refine (impl_AskOk.calls k A8 c8 l path n true _ (Kd.R_reads' HRe.out).2.2 (Kd.R_reads' HRe.out).2.1 HOK.out).mono ?_; rintro e wf ⟨rfl, hb⟩; have HAf := Aside0.mk (HAe.out.below hb); have HRf := Aside0.mk (Kd.R_below HRe.out hb); clear x0 x1 x2 p0 p1 p2 y0 y1 y2; obtain ⟨y0, y1, y2⟩ := cc3_ HAf.out.h6; obtain ⟨x0, x1, x2⟩ := cc3_ HAf.out.h2; obtain ⟨p0, p1, p2⟩ := cf3_ HAf.out.h2; clear hb) | (go_at_call 24; refine (impl_AskText.calls k A8 c8 l path n tx _ (Kd.R_reads' HRf.out).2.2 (Kd.R_reads' HRf.out).2.1 HTX.out (HG.out.belowW HAf.out.bel)).mono ?_; rintro e wg ⟨rfl, hb⟩; have HAg := Aside0.mk (HAf.out.below hb); have HRg := Aside0.mk (Kd.R_below HRf.out hb); clear x0 x1 x2 p0 p1 p2 y0 y1 y2; obtain ⟨y0, y1, y2⟩ := cc3_ HAg.out.h6; obtain ⟨x0, x1, x2⟩ := cc3_ HAg.out.h2; obtain ⟨p0, p1, p2⟩ := cf3_ HAg.out.h2; clear hb))
         refine bodyPost_ret (results_ct rfl _ _ b2 37 #[.slice A8 l.length c8, .string path, .int .i64 n] (0, 0) _ rfl (blk3 HAg.out.h2) Tryd.underlying37 rfl (by kernel_rfl)) rfl ⟨_, rfl, ?_, below3 HAg.out.bel HG2.out⟩
         have far2 : ∀ j, b6 < j → j ≠ b2 := fun j hj => by have := HA7.out.l6; have := H24.out; omega
         exact Kd.R_mono (Kd.R_lower (Kd.R_far (p := ⟨b2, 2, none⟩) (Kd.R_far (p := ⟨b2, 1, none⟩) (Kd.R_far (p := ⟨b2, 0, none⟩) HRg.out far2 _) far2 _) far2 _) (Nat.le_trans HG2.out (Nat.le_of_lt H24.out))) (fun _ _ => trivial)
       · rw [if_neg hc] at h
         obtain ⟨rfl, rfl, rfl, rfl⟩ := tup4 h; have k0 := beq_eq_false_iff_ne.mpr hc; have k1 := bne_iff_ne.mpr hc; clear hc
         go_wp2_with (first | (go_at_call 27; refine (impl_AskOk.calls k A8 c8 l path n true _ (Kd.R_reads' HRe.out).2.2 (Kd.R_reads' HRe.out).2.1 HOK.out).mono ?_; rintro e wf ⟨rfl, hb⟩; have HAf := Aside0.mk (HAe.out.below hb); have HRf := Aside0.mk (Kd.R_below HRe.out hb); clear x0 x1 x2 p0 p1 p2 y0 y1 y2; obtain ⟨y0, y1, y2⟩ := cc3_ HAf.out.h6; obtain ⟨x0, x1, x2⟩ := cc3_ HAf.out.h2; obtain ⟨p0, p1, p2⟩ := cf3_ HAf.out.h2; clear hb) | (go_at_call 24; refine (impl_AskText.calls k A8 c8 l path n tx _ (Kd.R_reads' HRf.out).2.2 (Kd.R_reads' HRf.out).2.1 HTX.out (HG.out.belowW HAf.out.bel)).mono ?_; rintro e wg ⟨rfl, hb⟩; have HAg := Aside0.mk (HAf.out.below hb); have HRg := Aside0.mk (Kd.R_below HRf.out hb); clear x0 x1 x2 p0 p1 p2 y0 y1 y2; obtain ⟨y0, y1, y2⟩ := cc3_ HAg.out.h6; obtain ⟨x0, x1, x2⟩ := cc3_ HAg.out.h2; obtain ⟨p0, p1, p2⟩ := cf3_ HAg.out.h2; clear hb))
         refine bodyPost_ret (results_ct rfl _ _ b2 37 #[.slice none 0 0, .string ⟨#[]⟩, .int .i64 0] (0, 0) _ rfl (blk3 HAg.out.h2) Tryd.underlying37 rfl (by kernel_rfl)) rfl ⟨_, rfl, Kd.R_nil _ _ _ _ _, below3 HAg.out.bel HG2.out⟩

end Go.Proofs.YtfafjpfigphchaaDoor.X
