/- Lemmas and contracts for the law FnExactDskText, part 3: of the program's functions, and over data alone. Conditions: the listed package-level variables begin as the program's text lays them (tied by the card). -/
import Derived.Shelf.Strings.Builder1
import Derived.Shelf.Strings.Builder2
import Derived.Shelf.Strings.OnBuilder
import Derived.Shelf.Small.Wraps
import Derived.Shelf.Strings.BuilderF
import Derived.Shelf.Strings.BuilderK
import Derived.Shelf.Utf8.RuneCount
import Derived.Shelf.Strings.Builder2Cap
import Derived.Shelf.Strconv.Itoa0
import Derived.Shelf.Strconv.Itoa1
import Derived.Shelf.LaysM
import Derived.Shelf.Strconv.Itoa2
import Derived.Shelf.Strconv.Itoa3
import Derived.Shelf.Strconv.Clone
import Derived.Shelf.Strings.Search1
import Derived.Shelf.Strings.Search2
import Derived.Shelf.Strings.Search3
import Derived.Shelf.Strings.Cut
import Derived.Shelf.Strings.Count
import Derived.Shelf.Strings.Shaped
import Derived.Shelf.Strings.Prefix
import Derived.Shelf.Strings.Split
import Derived.Shelf.Strings.SplitShaped
import Derived.Shelf.Unicode.Decode
import Derived.Shelf.Strings.RuneCount
import Derived.Shelf.Strings.Explode
import Derived.Shelf.Unicode.DecodeSlow
import Derived.Shelf.Unicode.DecodeAny
import Derived.Test.YtiihhjfdgojkeaaDoorProg
import Derived.Test.YtiihhjfdgojkeaaDoorMFnExactDskText2
import Derived.Laws.Rows
import Derived.Lib.AppendIntMem
import Derived.Test.YtiihhjfdgojkeaaDoorMFnExactDskText1
import Derived.Lib.ItoaLen
import Derived.Laws.Concat
import Derived.Lib.Bytes
import Derived.Test.YtiihhjfdgojkeaaDoorRows
import Derived.Lib.LaidTab
import Derived.LaidMore
import Derived.OpenShut
import Derived.ShutString
import Derived.ChangeOld
import Derived.ChangeSame
import Derived.Below
import Derived.WalkKit
import Derived.ProofKit
import Derived.Stop.Joined
import Derived.OpenVars
import Derived.KernelRfl
namespace Go.Proofs
open Go.Shelf
def Tryd.laysM246_ren : Go.Shelf.Ren := ⟨fun | 246 => 132 | 283 => 142 | 284 => 143 | 285 => 144 | 286 => 145 | 129 => 157 | 317 => 156 | 318 => 158 | 319 => 159 | 320 => 160 | 337 => 164 | 338 => 165 | n => n, fun | 2 => 2 | 3 => 3 | 9 => 9 | 4 => 4 | 171 => 167 | 0 => 0 | 53 => 168 | 37 => 39 | 5 => 5 | 173 => 171 | 212 => 181 | 51 => 182 | 20 => 20 | 213 => 183 | 46 => 163 | 232 => 192 | 233 => 193 | n => n, fun | 17 => 3 | 18 => 6 | 19 => 7 | n => n⟩
def Tryd.laysM243_ren : Go.Shelf.Ren := ⟨fun | 243 => 103 | 246 => 132 | 283 => 142 | 284 => 143 | 285 => 144 | 286 => 145 | 129 => 157 | 317 => 156 | 318 => 158 | 319 => 159 | 320 => 160 | 337 => 164 | 338 => 165 | n => n, fun | 3 => 3 | 9 => 9 | 2 => 2 | 4 => 4 | 171 => 167 | 0 => 0 | 53 => 168 | 37 => 39 | 5 => 5 | 173 => 171 | 212 => 181 | 51 => 182 | 20 => 20 | 213 => 183 | 46 => 163 | 232 => 192 | 233 => 193 | n => n, fun | 17 => 3 | 18 => 6 | 19 => 7 | n => n⟩
def Tryd.laysM171_ren : Go.Shelf.Ren := ⟨fun | 171 => 54 | 243 => 103 | 246 => 132 | 283 => 142 | 284 => 143 | 285 => 144 | 286 => 145 | 129 => 157 | 317 => 156 | 318 => 158 | 319 => 159 | 320 => 160 | 337 => 164 | 338 => 165 | n => n, fun | 3 => 3 | 9 => 9 | 2 => 2 | 4 => 4 | 171 => 167 | 0 => 0 | 53 => 168 | 37 => 39 | 5 => 5 | 173 => 171 | 212 => 181 | 51 => 182 | 20 => 20 | 213 => 183 | 46 => 163 | 232 => 192 | 233 => 193 | n => n, fun | 17 => 3 | 18 => 6 | 19 => 7 | n => n⟩
theorem Tryd.laysM171 : Go.Proofs.LaysM.n171 Tryd.prog Tryd.laysM171_ren := {
  mixed := by kernel_rfl
  f129 := Tryd.func157.trans (congrArg some (by kernel_rfl))
  f171 := Tryd.func54.trans (congrArg some (by kernel_rfl))
  f243 := Tryd.func103.trans (congrArg some (by kernel_rfl))
  f246 := Tryd.func132.trans (congrArg some (by kernel_rfl))
  f283 := Tryd.func142.trans (congrArg some (by kernel_rfl))
  f284 := Tryd.func143.trans (congrArg some (by kernel_rfl))
  f285 := Tryd.func144.trans (congrArg some (by kernel_rfl))
  f286 := Tryd.func145.trans (congrArg some (by kernel_rfl))
  f317 := Tryd.func156.trans (congrArg some (by kernel_rfl))
  f318 := Tryd.func158.trans (congrArg some (by kernel_rfl))
  f319 := Tryd.func159.trans (congrArg some (by kernel_rfl))
  f320 := Tryd.func160.trans (congrArg some (by kernel_rfl))
  f337 := Tryd.func164.trans (congrArg some (by kernel_rfl))
  f338 := Tryd.func165.trans (congrArg some (by kernel_rfl))
  t0 := Tryd.underlying0
  a0 := Tryd.isAgg0
  z0 := Tryd.sizeOf0
  v0 := Tryd.zeroValue0
  t2 := Tryd.underlying2
  a2 := Tryd.isAgg2
  z2 := Tryd.sizeOf2
  v2 := Tryd.zeroValue2
  t3 := Tryd.underlying3
  a3 := Tryd.isAgg3
  z3 := Tryd.sizeOf3
  v3 := Tryd.zeroValue3
  t4 := Tryd.underlying4
  a4 := Tryd.isAgg4
  z4 := Tryd.sizeOf4
  v4 := Tryd.zeroValue4
  t5 := Tryd.underlying5
  a5 := Tryd.isAgg5
  z5 := Tryd.sizeOf5
  v5 := Tryd.zeroValue5
  t9 := Tryd.underlying9
  a9 := Tryd.isAgg9
  z9 := Tryd.sizeOf9
  v9 := Tryd.zeroValue9
  t20 := Tryd.underlying20
  a20 := Tryd.isAgg20
  z20 := Tryd.sizeOf20
  v20 := Tryd.zeroValue20
  t37 := Tryd.underlying39
  a37 := Tryd.isAgg39
  z37 := Tryd.sizeOf39
  v37 := Tryd.zeroValue39
  t46 := Tryd.underlying163
  a46 := Tryd.isAgg163
  z46 := Tryd.sizeOf163
  v46 := Tryd.zeroValue163
  t51 := Tryd.underlying182
  a51 := Tryd.isAgg182
  z51 := Tryd.sizeOf182
  v51 := Tryd.zeroValue182
  t53 := Tryd.underlying168
  a53 := Tryd.isAgg168
  z53 := Tryd.sizeOf168
  v53 := Tryd.zeroValue168
  t171 := Tryd.underlying167
  a171 := Tryd.isAgg167
  z171 := Tryd.sizeOf167
  v171 := Tryd.zeroValue167
  t173 := Tryd.underlying171
  a173 := Tryd.isAgg171
  z173 := Tryd.sizeOf171
  v173 := Tryd.zeroValue171
  t212 := Tryd.underlying181
  a212 := Tryd.isAgg181
  z212 := Tryd.sizeOf181
  v212 := Tryd.zeroValue181
  t213 := Tryd.underlying183
  a213 := Tryd.isAgg183
  z213 := Tryd.sizeOf183
  t232 := Tryd.underlying192
  a232 := Tryd.isAgg192
  z232 := Tryd.sizeOf192
  v232 := Tryd.zeroValue192
  t233 := Tryd.underlying193
  a233 := Tryd.isAgg193
  z233 := Tryd.sizeOf193
  v233 := Tryd.zeroValue193
  g17 := by kernel_rfl
  g18 := by kernel_rfl
  g19 := by kernel_rfl
  i0 := by kernel_rfl
  i2 := by kernel_rfl
  i3 := by kernel_rfl
  i4 := by kernel_rfl
  i5 := by kernel_rfl
  i9 := by kernel_rfl
  i20 := by kernel_rfl
  i37 := by kernel_rfl
  i46 := by kernel_rfl
  i51 := by kernel_rfl
  i53 := by kernel_rfl
  i171 := by kernel_rfl
  i173 := by kernel_rfl
  i212 := by kernel_rfl
  i232 := by kernel_rfl
  i233 := by kernel_rfl
  m17 := by kernel_rfl
  m18 := by kernel_rfl
  m19 := by kernel_rfl }
open Go.RowKit Go.Sort Go.Lib in
/-- strconv.Itoa: "Itoa is equivalent to FormatInt(int64(i), 10).": i's DECIMAL NUMERAL ('Lib.itoa': a '-' where i is negative, then the digits), FOR EVERY int. The world behind the call: the world before it, new blocks behind the heap (the library's 'var a [24]byte'), draws. (LAID: no walk: one application.) -/
theorem Tryd.strconv_Itoa (n : Int) (h0 : -9223372036854775808 ≤ n) (h1 : n ≤ 9223372036854775807) (w : World) (htab : Lib.TabIs Tryd.prog w "internal/strconv.uint64pow10" .u64 Lib.pow10Tab) :
    Calls Tryd.prog 54 #[.int .i64 n] w fun e w' => e = .returned (.string ⟨(Lib.itoa n).toArray⟩) ∧ ∃ k os, w' = grow (w.drewN k) os := Any.strconv_Itoa Tryd.laysM171 n h0 h1 w htab
end Go.Proofs
namespace Go.Proofs.YtiihhjfdgojkeaaDoor.X
open Go.RowKit Go.Proofs.YtiihhjfdgojkeaaDoorW.PrintWords Go.Proofs.YtiihhjfdgojkeaaDoorW.PrintLast Go.Proofs.YtiihhjfdgojkeaaDoorW.PrintMore
set_option linter.unusedVariables false
/-- The operations' words, and how many numbers each has. -/
def formCells : Array Value := #[.string ⟨#[]⟩, .int .i64 0, .string ⟨#[99, 114, 111, 112]⟩, .int .i64 4, .string ⟨#[102, 108, 105, 112, 120]⟩, .int .i64 0, .string ⟨#[102, 108, 105, 112, 121]⟩, .int .i64 0, .string ⟨#[116, 117, 114, 110]⟩, .int .i64 0, .string ⟨#[103, 114, 97, 121]⟩, .int .i64 0, .string ⟨#[98, 108, 117, 114]⟩, .int .i64 0, .string ⟨#[115, 105, 122, 101]⟩, .int .i64 2, .string ⟨#[102, 108, 97, 116]⟩, .int .i64 3]
structure Glob (w : World) : Prop where
  forms : ∃ t fr, w.heap[0]? = some (.cells formCells t fr)
  pow : ∃ t fr, w.heap[3]? = some (.cells (Lib.pow10Tab.map fun z => Value.int .u64 z).toArray t fr)
theorem Glob.size {w : World} (h : Glob w) : 3 < w.heap.size := by obtain ⟨_, ⟨t, fr, hp⟩⟩ := h; exact blk_lt hp
theorem Glob.belowW {w w' : World} (h : Glob w) (hb : Below w.heap.size w w') : Glob w' := by
  have hs := h.size
  obtain ⟨⟨t, fr, h1⟩, ⟨t2, fr2, h2⟩⟩ := h
  exact ⟨⟨t, fr, (hb.block _ (by omega)).trans h1⟩, ⟨t2, fr2, (hb.block _ (by omega)).trans h2⟩⟩
theorem gPow : Tryd.prog.globalNamed "internal/strconv.uint64pow10" = some 3 := by kernel_rfl
theorem Glob.tab {w : World} (h : Glob w) : Lib.TabIs Tryd.prog w "internal/strconv.uint64pow10" .u64 Lib.pow10Tab := by
  obtain ⟨_, ⟨t, fr, hp⟩⟩ := h
  unfold Lib.TabIs World.var?
  rw [gPow, Option.bind_some, hp]
/-- The powers of ten alone. -/
structure GlobP (w : World) : Prop where
  pow : ∃ t fr, w.heap[3]? = some (.cells (Lib.pow10Tab.map fun z => Value.int .u64 z).toArray t fr)
theorem GlobP.belowW {w w' : World} (h : GlobP w) (hb : Below w.heap.size w w') : GlobP w' := by
  obtain ⟨⟨t2, fr2, h2⟩⟩ := h
  exact ⟨⟨t2, fr2, (hb.block _ (blk_lt h2)).trans h2⟩⟩
theorem GlobP.tab {w : World} (h : GlobP w) : Lib.TabIs Tryd.prog w "internal/strconv.uint64pow10" .u64 Lib.pow10Tab := by
  obtain ⟨⟨t, fr, hp⟩⟩ := h
  unfold Lib.TabIs World.var?
  rw [gPow, Option.bind_some, hp]
theorem Glob.toP {w : World} (h : Glob w) : GlobP w := ⟨h.pow⟩
/-- The forms of the lines. -/
def dskCells : Array Value := #[.string ⟨#[116, 105, 109, 101]⟩, .int .i64 4, .bool false, .bool false, .bool false, .bool false, .bool true, .string ⟨#[97, 115, 107]⟩, .int .i64 1, .bool true, .bool false, .bool true, .bool false, .bool false, .string ⟨#[114, 101, 112, 108, 121]⟩, .int .i64 2, .bool true, .bool true, .bool false, .bool true, .bool false, .string ⟨#[102, 97, 105, 108]⟩, .int .i64 3, .bool true, .bool true, .bool false, .bool false, .bool false]
structure GlobD (w : World) : Prop where
  dsk : ∃ t fr, w.heap[1]? = some (.cells dskCells t fr)
  pow : ∃ t fr, w.heap[3]? = some (.cells (Lib.pow10Tab.map fun z => Value.int .u64 z).toArray t fr)
theorem GlobD.toP {w : World} (h : GlobD w) : GlobP w := ⟨h.pow⟩
theorem GlobD.belowW {w w' : World} (h : GlobD w) (hb : Below w.heap.size w w') : GlobD w' := by
  obtain ⟨⟨t, fr, h1⟩, ⟨t2, fr2, h2⟩⟩ := h
  exact ⟨⟨t, fr, (hb.block _ (blk_lt h1)).trans h1⟩, ⟨t2, fr2, (hb.block _ (blk_lt h2)).trans h2⟩⟩
theorem itoa_calls (n : Int) (w : World) (hG : GlobP w) (h0 : -9223372036854775808 ≤ n) (h1 : n ≤ 9223372036854775807) :
    Calls Tryd.prog 54 #[.int .i64 n] w fun e w' => e = .returned (.string ⟨(Lib.itoa n).toArray⟩) ∧ Below w.heap.size w w' := by
  refine (Tryd.strconv_Itoa n h0 h1 w hG.tab).mono ?_
  rintro e w' ⟨rfl, k, os, rfl⟩
  exact ⟨rfl, Lib.below_grow _ _ (Nat.le_refl _) _ _⟩
end Go.Proofs.YtiihhjfdgojkeaaDoor.X
namespace Go.Proofs.YtiihhjfdgojkeaaDoor.X
open Go.RowKit Go.Proofs.YtiihhjfdgojkeaaDoorW.PrintWords Go.Proofs.YtiihhjfdgojkeaaDoorW.PrintLast Go.Proofs.YtiihhjfdgojkeaaDoorW.PrintMore
attribute [local go_sem] max2_int min2_int max_two min_two max_three min_three max_four min_four
set_option linter.unusedVariables false
set_option linter.unusedSimpArgs false

section
def strconv_Itoa_54.f (a0 : Int) : Option ByteArray := if -9223372036854775808 ≤ a0 ∧ a0 ≤ 9223372036854775807 then some ⟨(Lib.itoa a0).toArray⟩ else none
theorem strconv_Itoa_54.calls (a0 : Int) (r : ByteArray) (w : World) (h : strconv_Itoa_54.f a0 = some r) (hG : GlobP w) :
  Calls Tryd.prog 54 #[.int .i64 a0] w fun e w' => e = .returned (.string r) ∧ Below w.heap.size w w' := by
 unfold strconv_Itoa_54.f at h
 split at h
 case isFalse => cases h
 rename_i hl
 obtain rfl := Option.some.inj h
 exact itoa_calls a0 w hG hl.1 hl.2
end
end Go.Proofs.YtiihhjfdgojkeaaDoor.X
namespace Go.Proofs.YtiihhjfdgojkeaaDoorW.PrintWords
open Go.RowKit
set_option linter.unusedVariables false
variable {α : Type} {P : Program} {ops : Array Oper} {o : Oper} {a : Act} {Q : Exit → Act → World → Prop} {rest : List Oper}
theorem Kd.R_make0 (d : Kd α) {w0 W : World} (base e : Nat) (hgd : o.guard = none) {N : Tmp} (hd : o.dst = some N) (t : TypeId) (x y : Operand) (ho : o.op = .makeSlice t x y) (n : Int) (hx : a.eval x = .int .i64 0) (hy : a.eval y = .int .i64 n)
    (ht : P.underlying t = some (.slice e)) (z : Value) (bytes : Nat) (hinfo : (P.info? e).map (fun i => (i.zero, i.size, i.bytes)) = some (some z, d.sz, bytes)) (hz : z.cells.size = d.sz) (hs0 : 0 < d.sz) (hb0 : 0 < bytes)
    (z0 : α) {ok okp : Nat → Prop} (hzero : d.M W base okp z0 z.cells.toList) (hok : ∀ k, okp k → ok k) (hfresh : ok W.heap.size) (h0 : 0 ≤ n) (hl : n.toNat * bytes ≤ 281474976710656) (HB : Below base w0 W) (hbase : base ≤ W.heap.size)
    (h : ∀ v1 w1, d.R e w1 base ok v1 [] → Below base w0 w1 → W.grownBy w1 none → (∃ b, v1.ownBlock = some b ∧ W.heap.size ≤ b) → wpList P ops Q rest (a.put o.dst v1) w1) : wpList P ops Q (o :: rest) a W := by
  obtain ⟨m, rfl⟩ := Int.eq_ofNat_of_zero_le h0
  simp only [Int.toNat_natCast] at hl
  obtain ⟨i0, hi, hzz⟩ := Option.map_eq_some_iff.1 hinfo
  simp only [Prod.mk.injEq] at hzz
  obtain ⟨hz0, hz1, hz2⟩ := hzz
  have hm : m ≤ 281474976710656 := Nat.le_trans (Nat.le_mul_of_pos_right _ hb0) hl
  have hr := run_make (P := P) (w := W) t e i0 z ht hi hz0 .i64 .i64 0 (m : Int) (by omega) (by omega)
    (by
      have h3 : ((i0.bytes * m : Nat) : Int) ≤ 281474976710656 := by rw [hz2, Nat.mul_comm]; omega
      rwa [Int.natCast_mul] at h3) (by omega)
  simp only [Int.toNat_natCast] at hr
  rw [hz1] at hr
  have h1 : d.R e (W.alloc (.cells (madeCells z.cells (m * d.sz)) e)) base ok (.slice (some ⟨W.heap.size, 0, none⟩) m m) (List.replicate m z0) := by
    have hrep := Kd.reps_made hz hs0 hzero m
    refine ⟨fun k hk => ?_, (madeCells z.cells (m * d.sz)).toList, ?_, ?_⟩
    · have : W.heap.size = k := by simpa [Value.ownBlock] using hk
      subst this
      exact hfresh
    · have h2 := World.ownsRow_lit (base := base) (e := e) (size := d.sz) W (madeCells z.cells (m * d.sz)) m hbase (by show m ≤ 9223372036854775807; omega) (by simp [size_madeCells])
      simpa using h2
    · refine hrep.imp_ (fun p c hp => d.M_mono (fun k hk => ⟨hok k hk.1, fun he => ?_⟩) (Kd.M_below (d.M_bound hp) (below_alloc (Below.refl _ _) _)))
      have h3 : k = W.heap.size := by simpa [Value.ownBlock] using he
      have := hk.2.2.1
      omega
  have h2 := Kd.R_take h1 (m := 0) (Nat.zero_le _)
  refine Kd.event_run hgd (by simp [execOp, ho, hx, hy, hr]) (h _ _ h2 (HB.alloc hbase _) (World.grownBy_alloc W _ none) ⟨W.heap.size, by simp [Value.ownBlock], Nat.le_refl _⟩)
end Go.Proofs.YtiihhjfdgojkeaaDoorW.PrintWords
namespace Go.Proofs.YtiihhjfdgojkeaaDoor.X
open Go.RowKit Go.Proofs.YtiihhjfdgojkeaaDoorW.PrintWords Go.Proofs.YtiihhjfdgojkeaaDoorW.PrintLast Go.Proofs.YtiihhjfdgojkeaaDoorW.PrintMore
attribute [local go_sem] max2_int min2_int max_two min_two max_three min_three max_four min_four
set_option linter.unusedVariables false
set_option linter.unusedSimpArgs false

section
open Go.Proofs.YtiihhjfdgojkeaaDoorW.PrintWords.Aside0 renaming mk → yaa

abbrev q125_0 : Array Bool := Array.replicate 10 false
abbrev q125_1 : Array Bool := #[true, false, false, false, false, false, false, false, false, false]
abbrev q125_2 : Array Bool := #[true, true, false, false, false, false, false, false, false, false]
abbrev q125_3 : Array Bool := #[true, true, true, false, false, false, false, false, false, false]
abbrev q125_4 : Array Bool := #[true, true, true, false, true, false, false, false, false, false]
abbrev q125_5 : Array Bool := #[true, true, true, false, true, true, false, false, false, false]
abbrev q125_6 : Array Bool := #[true, true, true, true, true, true, false, false, false, false]
abbrev q125_7 : Array Bool := #[true, true, true, true, true, true, true, false, false, false]
abbrev q125_8 : Array Bool := #[true, true, true, true, true, true, true, true, false, false]
abbrev q125_9 : Array Bool := #[true, true, true, true, true, true, true, true, true, false]
abbrev q125_10 : Array Bool := #[true, true, true, true, true, true, true, true, true, true]
def impl_HexText.l0 : Nat → List Int → List Int → Int → Int → Option (ByteArray)
 | 0, _, _, _, _ => none
 | k + 1, x3, x10, x11, x12 => if x12 < x11 then (if 0 ≤ x12 then (if x12 < (x10.length : Int) then (if 0 ≤ ((rd x10 x12) / 16) then (if ((rd x10 x12) / 16) < 16 then (if 0 ≤ (Go.bits .and .u8 (rd x10 x12) 15) then (if (Go.bits .and .u8 (rd x10 x12) 15) < 16 then ((some (([bt (⟨#[48, 49, 50, 51, 52, 53, 54, 55, 56, 57, 97, 98, 99, 100, 101, 102]⟩ : ByteArray) ((rd x10 x12) / 16), bt (⟨#[48, 49, 50, 51, 52, 53, 54, 55, 56, 57, 97, 98, 99, 100, 101, 102]⟩ : ByteArray) (Go.bits .and .u8 (rd x10 x12) 15)] : List Int) : List Int)).bind fun y105 => (if x3.length + y105.length < 140737488355328 then (impl_HexText.l0 k (x3 ++ y105) x10 x11 (wrap64 (x12 + 1))) else (none))) else (none)) else (none)) else (none)) else (none)) else (none)) else (none)) else (some (strOfNums x3))
def impl_HexText.f (k : Nat) (l0 : List Int) : Option (ByteArray) := if 0 ≤ (wrap64 (2 * (l0.length : Int))) then (if (wrap64 (2 * (l0.length : Int)) : Int).toNat ≤ 281474976710656 then (impl_HexText.l0 k (([] : List Int)) l0 (l0.length : Int) 0) else (none)) else (none)
def impl_HexText.T5 : Bool × List (List Nat × List Nat) := (true, [([], []), ([], []), ([1], [1]), ([2], [2]), ([], []), ([4], [4]), ([5], [5]), ([3, 6], [3, 6]), ([0, 7], [0, 7]), ([8, 8, 0, 1, 2, 3, 4, 5, 6, 7, 8], [0, 8])])
def impl_HexText.B5 : List Nat := [0, 0, 2, 6, 0, 16, 48, 126, 255, 511]
theorem impl_HexText.tab5 : rtab .any (opsOf Tryd.f125 5) = impl_HexText.T5 := by kernel_rfl
theorem impl_HexText.bits5 : waitsOk impl_HexText.T5.2 impl_HexText.B5 = true := by kernel_rfl
set_option maxHeartbeats 8000000 in
set_option maxRecDepth 100000 in
theorem impl_HexText.calls (k : Nat) (A0 : Option Addr) (c0 : Nat) (l0 : List Int) (r : ByteArray) (w : World) (hr0 : Kd.C (Kd.int .u8) w A0 l0.length l0) (hc0 : l0.length ≤ c0) (h : impl_HexText.f k l0 = some r) :
  Calls Tryd.prog 125 #[.slice A0 l0.length c0] w fun e w' => e = .returned (.string r) ∧ Below w.heap.size w w' := by
 have HR0 := yaa hr0; have HC0 := yaa hc0; clear hr0 hc0; have HB := yaa (Below.refl w.heap.size w); have H : (if 0 ≤ (wrap64 (2 * (l0.length : Int))) then (if (wrap64 (2 * (l0.length : Int)) : Int).toNat ≤ 281474976710656 then (impl_HexText.l0 k (([] : List Int)) l0 (l0.length : Int) 0) else (none)) else (none)) = some r := h; clear h; obtain ⟨ji2, hji2⟩ : ∃ j_ : Int, (wrap64 (2 * (l0.length : Int))) = j_ := ⟨_, rfl⟩
 replace H : (if 0 ≤ (ji2) then (if (ji2 : Int).toNat ≤ 281474976710656 then (impl_HexText.l0 k (([] : List Int)) l0 (l0.length : Int) 0) else (none)) else (none)) = some r := by first | (rw [hji2] at H; exact H) | (simp only [hji2] at H ⊢; exact H)
 have hji2w : (IntKind.i64.wrap (2 * (l0.length : Int))) = ji2 := (i64_w _).trans hji2
 by_cases c3 : 0 ≤ (ji2)
 ·
  rw [if_pos c3] at H
  have b0 := eq_true c3; replace c3 := decide_eq_true c3
  by_cases c4 : (ji2 : Int).toNat ≤ 281474976710656
  ·
   rw [if_pos c4] at H
   have b1 := eq_true c4; replace c4 := decide_eq_true c4; obtain ⟨y101, hy101⟩ : ∃ y_ : List Int, y_ = (([] : List Int)) := ⟨_, rfl⟩
   replace H : (impl_HexText.l0 k y101 l0 (l0.length : Int) 0) = some r := by first | (rw [hy101]; with_reducible exact H) | (have H2_ := (Option.bind_some _ _).symm.trans H; rw [hy101]; with_reducible exact H2_) | (have H2_ := (Option.bind_some _ _).symm.trans H; with_reducible exact H2_) | with_reducible exact H | (rw [hy101]; exact H) | exact H
   have Ny101 := yaa hy101; clear hy101; have H' := yaa H; clear H
   go_enter Tryd.func125, Tryd.ntmps125
   go_wp2_with (first | ((with_reducible refine gd_ 9 rfl ?_); refine Kd.R_make0 (Kd.int .u8) _ 5 rfl (N := 9) rfl 39 _ _ rfl ji2 rfl rfl Tryd.underlying39 (.int .u8 0) 1 info5 rfl (by decide) (by omega) 0 (ok := fun _ => True) (okp := fun _ => True) rfl (fun _ hk => hk) trivial (of_decide_eq_true (by assumption)) (Nat.le_trans (Nat.mul_le_mul_right _ (of_decide_eq_true (by assumption) : ji2.toNat ≤ 281474976710656)) (by omega)) (Below.refl _ _) (Nat.le_refl _) ?_; intro b6 w5 ho6 hb hg_ hnew_; clear hg_ hnew_; (first | rw [← Ny101.out] at ho6 | (simp only [Int.reduceToNat] at ho6; rw [← Ny101.out] at ho6)); have a7 := yaa (Kd.R_lower ho6 (below_size (upH HB.out))); replace HB := yaa (below_step (upH HB.out) hb); clear hb ho6))
   (try simp only [Act.put, List.setIfInBounds_toArray, List.set_cons_zero, List.set_cons_succ])
   go_loopg [3, 12] k (fun kq v3 v12 w' => ∃ (a2 : List Int) (a1 : Int), v12 = .int .i64 a1 ∧ Aside0 (impl_HexText.l0 kq a2 l0 (l0.length : Int) a1 = some r) ∧ Aside0 (kq ≤ k) ∧ Aside0 (Kd.R (Kd.int .u8) 5 w' w.heap.size (fun _ => True) v3 a2) ∧ Aside0 (Below w.heap.size w w'))
   case atStart => exact ⟨(y101), (0), (by first | rfl | (simp; done) | (simp [*]; done)), H', ⟨Nat.le_refl _⟩, ⟨by first | exact a7.out | exact upR a7.out⟩, ⟨upH HB.out⟩⟩
   case round =>
    clear H'; (try clear c1); (try clear p2); (try clear c3); (try clear b0); (try clear c3b1); (try clear c4); (try clear b1); (try clear c4b1); (try clear p6); obtain ⟨a2, a1, rfl, HA, HK1, a3, HB⟩ := hrel
    cases gk with
    | zero => exact absurd HA.out (by simp [impl_HexText.l0])
    | succ k1 =>
     have H := HA.out; clear HA
     simp only [impl_HexText.l0] at H
     by_cases c7 : a1 < (l0.length : Int)
     ·
      rw [if_pos c7] at H
      have b2 : decide (a1 < (l0.length : Int)) = true := decide_eq_true c7; clear c7
      by_cases c8 : 0 ≤ a1
      ·
       rw [if_pos c8] at H
       replace c8 := decide_eq_true c8
       by_cases c9 : a1 < (l0.length : Int)
       ·
        rw [if_pos c9] at H
        replace c9 := decide_eq_true c9; obtain ⟨ji10, hji10⟩ : ∃ j_ : Int, ((rd l0 a1) / 16) = j_ := ⟨_, rfl⟩
        replace H : (if 0 ≤ (ji10) then (if (ji10) < 16 then (if 0 ≤ (Go.bits .and .u8 (rd l0 a1) 15) then (if (Go.bits .and .u8 (rd l0 a1) 15) < 16 then ((some (([bt (⟨#[48, 49, 50, 51, 52, 53, 54, 55, 56, 57, 97, 98, 99, 100, 101, 102]⟩ : ByteArray) (ji10), bt (⟨#[48, 49, 50, 51, 52, 53, 54, 55, 56, 57, 97, 98, 99, 100, 101, 102]⟩ : ByteArray) (Go.bits .and .u8 (rd l0 a1) 15)] : List Int) : List Int)).bind fun y105 => (if a2.length + y105.length < 140737488355328 then (impl_HexText.l0 k1 (a2 ++ y105) l0 (l0.length : Int) (wrap64 (a1 + 1))) else (none))) else (none)) else (none)) else (none)) else (none)) = some r := by first | (rw [hji10] at H; exact H) | (simp only [hji10] at H ⊢; exact H)
        by_cases c11 : 0 ≤ (ji10)
        ·
         rw [if_pos c11] at H
         replace c11 := decide_eq_true c11
         by_cases c12 : (ji10) < 16
         ·
          rw [if_pos c12] at H
          replace c12 := decide_eq_true c12
          by_cases c14 : 0 ≤ (Go.bits .and .u8 (rd l0 a1) 15)
          ·
           rw [if_pos c14] at H
           replace c14 := decide_eq_true c14
           by_cases c15 : (Go.bits .and .u8 (rd l0 a1) 15) < 16
           ·
            rw [if_pos c15] at H
            replace c15 := decide_eq_true c15; obtain ⟨y105, hy105⟩ : ∃ y_ : List Int, y_ = (([bt (⟨#[48, 49, 50, 51, 52, 53, 54, 55, 56, 57, 97, 98, 99, 100, 101, 102]⟩ : ByteArray) (ji10), bt (⟨#[48, 49, 50, 51, 52, 53, 54, 55, 56, 57, 97, 98, 99, 100, 101, 102]⟩ : ByteArray) (Go.bits .and .u8 (rd l0 a1) 15)] : List Int)) := ⟨_, rfl⟩
            replace H : (if a2.length + y105.length < 140737488355328 then (impl_HexText.l0 k1 (a2 ++ y105) l0 (l0.length : Int) (wrap64 (a1 + 1))) else (none)) = some r := by first | (rw [hy105]; with_reducible exact H) | (have H2_ := (Option.bind_some _ _).symm.trans H; rw [hy105]; with_reducible exact H2_) | (have H2_ := (Option.bind_some _ _).symm.trans H; with_reducible exact H2_) | with_reducible exact H | (rw [hy105]; exact H) | exact H
            have Ny105 := yaa hy105; clear hy105
            by_cases c17 : a2.length + y105.length < 140737488355328
            ·
             rw [if_pos c17] at H
             have LMc17 := yaa c17; clear c17; obtain ⟨y108, hy108⟩ : ∃ y_ : List Int, y_ = (a2 ++ y105) := ⟨_, rfl⟩
             replace H : (impl_HexText.l0 k1 y108 l0 (l0.length : Int) (wrap64 (a1 + 1))) = some r := by first | (rw [hy108]; with_reducible exact H) | (have H2_ := (Option.bind_some _ _).symm.trans H; rw [hy108]; with_reducible exact H2_) | (have H2_ := (Option.bind_some _ _).symm.trans H; with_reducible exact H2_) | with_reducible exact H | (rw [hy108]; exact H) | exact H
             have Ny108 := yaa hy108; clear hy108; have H' := yaa H; clear H; have p104 : 0 ≤ (a1 : Int) := of_decide_eq_true (by assumption); have q104 : a1 < (l0.length : Int) := of_decide_eq_true (by assumption); obtain ⟨ad104, b3, a5⟩ := Kd.at_int HR0.out a1 p104 q104
             cases b3
             replace a5 := (upc_ HB.out a5 :); replace p104 := eq_true p104; replace q104 := eq_true q104
             try go_wp2
             replace a3 := yaa (Kd.R_drew a3.out); replace HB := yaa (below_drew1 HB.out); have p13 : 0 ≤ ((ji10) : Int) := of_decide_eq_true (by assumption); have q13 : (ji10) < (16 : Int) := of_decide_eq_true (by assumption); have b9 := bt_at (⟨#[48, 49, 50, 51, 52, 53, 54, 55, 56, 57, 97, 98, 99, 100, 101, 102]⟩ : ByteArray) (ji10); replace p13 := eq_true p13; replace q13 := eq_true q13; have p16 : 0 ≤ ((Go.bits .and .u8 (rd l0 a1) 15) : Int) := of_decide_eq_true (by assumption); have q16 : (Go.bits .and .u8 (rd l0 a1) 15) < (16 : Int) := of_decide_eq_true (by assumption); have c2 := bt_at (⟨#[48, 49, 50, 51, 52, 53, 54, 55, 56, 57, 97, 98, 99, 100, 101, 102]⟩ : ByteArray) (Go.bits .and .u8 (rd l0 a1) 15); replace p16 := eq_true p16; replace q16 := eq_true q16
             refine start_ (n := 10) (S := fun w' => True) (ds := []) q125_0 (by kernel_rfl) rfl rfl trivial (fun hHeld => ?_); refine with_tabW impl_HexText.tab5 impl_HexText.bits5 (fun HT_ HW_ => ?_)
             generalize wr.drew = w18 at a3 HB hHeld ⊢
             refine pz_ 0 16 q125_1 HT_ (by kernel_rfl) ?_
             refine pz_ 1 17 q125_2 HT_ (by kernel_rfl) ?_
             refine pz_ 2 18 q125_3 HT_ (by kernel_rfl) ?_
             refine pz_ 4 20 q125_4 HT_ (by kernel_rfl) ?_
             refine pz_ 5 21 q125_5 HT_ (by kernel_rfl) ?_
             refine take_ (i := 3) (N := some 19) (v := ?_) (a' := ?_) q125_6 rfl rfl (take_ofW HT_.out HW_.out (by kernel_rfl)) (fun _ _ _ h => h) (Or.inl ⟨by rfl, ?_⟩) hHeld ?_ ?_
             rotate_left
             ·
              intro w' _
              go_simp
              with_reducible rfl
             rotate_left
             ·
              simp only [Act.put, List.setIfInBounds_toArray, List.set_cons_zero, List.set_cons_succ, i64_w, i32_w]
              rfl
             refine take_ (i := 6) (N := some 22) (v := ?_) (a' := ?_) q125_7 rfl rfl (take_ofW HT_.out HW_.out (by kernel_rfl)) (fun _ _ _ h => h) (Or.inl ⟨by rfl, ?_⟩) hHeld ?_ ?_
             rotate_left
             ·
              intro w' _
              go_simp
              with_reducible rfl
             rotate_left
             ·
              simp only [Act.put, List.setIfInBounds_toArray, List.set_cons_zero, List.set_cons_succ, i64_w, i32_w]
              rfl
             refine one_ (i := 7) (N := some 23) q125_8 rfl rfl (one_of HT_.out (by kernel_rfl)) (by decide) (fun K hK => ?_)
             refine Kd.R_lit_step (Kd.int .u8) _ 5 ?hg (N := 23) ?hd (xs := ([bt (⟨#[48, 49, 50, 51, 52, 53, 54, 55, 56, 57, 97, 98, 99, 100, 101, 102]⟩ : ByteArray) (ji10), bt (⟨#[48, 49, 50, 51, 52, 53, 54, 55, 56, 57, 97, 98, 99, 100, 101, 102]⟩ : ByteArray) (Go.bits .and .u8 (rd l0 a1) 15)] : List Int)) (inner := [.int .u8 (bt (⟨#[48, 49, 50, 51, 52, 53, 54, 55, 56, 57, 97, 98, 99, 100, 101, 102]⟩ : ByteArray) (ji10)), .int .u8 (bt (⟨#[48, 49, 50, 51, 52, 53, 54, 55, 56, 57, 97, 98, 99, 100, 101, 102]⟩ : ByteArray) (Go.bits .and .u8 (rd l0 a1) 15))]) (ok := fun _ => True) (okp := fun _ => True) ?hr ?hp (fun _ hk => hk) trivial (Below.refl _ _) (Nat.le_refl _) (by simp) ?_; (case hd => rfl); (case hg => rfl); (case hr => first | (go_simp; done) | (go_simp; rfl)); (case hp => exact (Reps.one (show Kd.M (Kd.int .u8) _ _ _ (bt (⟨#[48, 49, 50, 51, 52, 53, 54, 55, 56, 57, 97, 98, 99, 100, 101, 102]⟩ : ByteArray) (ji10)) [.int .u8 (bt (⟨#[48, 49, 50, 51, 52, 53, 54, 55, 56, 57, 97, 98, 99, 100, 101, 102]⟩ : ByteArray) (ji10))] from rfl) (Reps.one (show Kd.M (Kd.int .u8) _ _ _ (bt (⟨#[48, 49, 50, 51, 52, 53, 54, 55, 56, 57, 97, 98, 99, 100, 101, 102]⟩ : ByteArray) (Go.bits .and .u8 (rd l0 a1) 15)) [.int .u8 (bt (⟨#[48, 49, 50, 51, 52, 53, 54, 55, 56, 57, 97, 98, 99, 100, 101, 102]⟩ : ByteArray) (Go.bits .and .u8 (rd l0 a1) 15))] from rfl) (Reps.none _ _))))
             intro c5 w19 a6 hb hg_ hnew_; clear hg_ hnew_
             (first | rw [← Ny105.out] at a6 | (simp only [Int.reduceToNat] at a6; rw [← Ny105.out] at a6))
             have a4 := yaa (Kd.R_lower (Kd.R_new' a6 (Kd.R_lt (upR a3.out))) (below_size (upH HB.out))); replace a3 := yaa (Kd.R_elder' (upR a3.out) (Kd.R_base a6) hb); replace HB := yaa (below_step (upH HB.out) hb); clear hb a6; obtain ⟨b4, b5, a8⟩ := Kd.R_slice a4.out
             (first | subst a8 | (injection a8 with f1_ f2_ f3_; have f4_ := f1_.symm; have f5_ := f3_.symm; clear f1_ f2_ f3_; subst f4_; subst f5_))
             refine hK.out _ _ trivial (fun hHeld => ?_)
             clear hK K
             refine norm_ (a' := ?_) ?_ ?_
             rotate_left
             ·
              show Act.put _ (some 23) _ = _
              simp only [Act.put, List.setIfInBounds_toArray, List.set_cons_zero, List.set_cons_succ, i64_w, i32_w]
              rfl
             refine one_ (i := 8) (N := some 24) q125_9 rfl rfl (one_of HT_.out (by kernel_rfl)) (by decide) (fun K hK => ?_)
             refine Kd.R_append_rows_step (Kd.int .u8) (w0 := w) w.heap.size (by rfl) (.tmp 16) (.tmp 23) 39 5 (.int .u8 0) 1 rfl Tryd.underlying39 info5 rfl (by decide) (by omega) u3 a2 y105 _ _ _ (fun k_ => some k_ ≠ (.slice b4 y105.length b5 : Value).ownBlock) (fun _ => False) rfl rfl ?aO ?aR (fun _ _ h => h) (fun _ h => h.elim) ?aF ?aB ?aS ?aL ?_
             (case aR => repeat (first | exact (Kd.R_reads' a4.out).2.2 | (with_reducible refine Kd.C_alloc ?_ _) | (with_reducible refine Kd.C_drewN ?_ _) | (with_reducible refine Kd.C_drew ?_)))
             (case aB => exact (upH HB.out))
             (case aF => exact (fun k_ hk => Kd.fresh' (Kd.R_lt (upR a4.out)) k_ hk))
             (case aO => exact (by (with_reducible repeat (first | apply Kd.R_alloc | apply Kd.R_drewN | apply Kd.R_drew)); exact Kd.R_mono a3.out (fun _ hk => by first | exact hk.2 | exact True.intro)))
             (case aS => exact (below_size (upH HB.out)))
             (case aL => have := LMc17.out; omega)
             intro c6 w21 ho hb hg hat
             rw [← Ny108.out] at ho
             replace a4 := yaa (Kd.R_after (ok := (fun _ => True)) (upR a4.out) hg hat); replace HB := yaa (hb); have a9 := yaa (ho); clear a3; clear ho hb hg hat
             refine hK.out _ _ trivial (fun hHeld => ?_)
             clear hK K
             refine norm_ (a' := ?_) ?_ ?_
             rotate_left
             ·
              show Act.put _ (some 24) _ = _
              simp only [Act.put, List.setIfInBounds_toArray, List.set_cons_zero, List.set_cons_succ, i64_w, i32_w]
              rfl
             refine pz_ 9 3 q125_10 HT_ (by kernel_rfl) ?_
             refine done_ (done_of HT_.out (by kernel_rfl)) ?_
             try go_wp2
             go_roundg k1
             case measure => have := HK1.out; omega
             case rel => exact ⟨(y108), (wrap64 (a1 + 1)), (by first | rfl | (simp; done) | (simp [*]; done)), H', ⟨by have := HK1.out; omega⟩, ⟨by (with_reducible repeat (first | apply Kd.R_alloc | apply Kd.R_drewN | apply Kd.R_drew)); exact Kd.R_mono a9.out (fun _ hk => trivial)⟩, ⟨upH HB.out⟩⟩
            ·
             rw [if_neg c17] at H
             exact absurd H (by simp)
           ·
            rw [if_neg c15] at H
            exact absurd H (by simp)
          ·
           rw [if_neg c14] at H
           exact absurd H (by simp)
         ·
          rw [if_neg c12] at H
          exact absurd H (by simp)
        ·
         rw [if_neg c11] at H
         exact absurd H (by simp)
       ·
        rw [if_neg c9] at H
        exact absurd H (by simp)
      ·
       rw [if_neg c8] at H
       exact absurd H (by simp)
     ·
      rw [if_neg c7] at H
      have b2 : decide (a1 < (l0.length : Int)) = false := decide_eq_false c7; clear c7; obtain rfl := Option.some.inj H; have hcv23 := own_string (P := Tryd.prog) Tryd.underlying39 Tryd.underlying5 Tryd.underlying9 (Kd.own_of_R a3.out)
      go_wp2
      go_ret
      exact ⟨by first | rfl | (simp [errW_none, errW_some] <;> rfl) | (simp only [← hji2]; first | rfl | (simp [errW_none, errW_some] <;> rfl)) | (simp [*, errW_none, errW_some] <;> rfl), upH HB.out⟩
  ·
   rw [if_neg c4] at H
   exact absurd H (by simp)
 ·
  rw [if_neg c3] at H
  exact absurd H (by simp)
end
section
open Go.Proofs.YtiihhjfdgojkeaaDoorW.PrintWords renaming pw_below_drewN → yaa, below_alloc → yac, below_drew1 → yad, below_set → yae
open Go.Proofs.YtiihhjfdgojkeaaDoorW.PrintWords.Aside0 renaming mk → yab

mutual
def impl_dskForm_write.j0 : Nat → ByteArray → ByteArray → Int → Bool → Bool → Bool → Bool → Bool → Int → Int → ByteArray → Int → List Int → Int → Option (ByteArray)
 | 0, _, _, _, _, _, _, _, _, _, _, _, _, _, _ => none
 | k + 1, x5, x102000, x102001, x102002, x102003, x102004, x102005, x102006, x103000, x103001, x103002, x103003, x103004, x103005 => if x102003 = true then ((strconv_Itoa_54.f x103003).bind fun t104 => (if 1 + t104.size ≤ 9223372036854775807 then (if x5.size + ((⟨#[32]⟩ : ByteArray) ++ t104).size ≤ 9223372036854775807 then (impl_dskForm_write.j1 k (x5 ++ ((⟨#[32]⟩ : ByteArray) ++ t104)) x102000 x102001 x102002 x102003 x102004 x102005 x102006 x103000 x103001 x103002 x103003 x103004 x103005) else (none)) else (none))) else (impl_dskForm_write.j1 k x5 x102000 x102001 x102002 x102003 x102004 x102005 x102006 x103000 x103001 x103002 x103003 x103004 x103005)
def impl_dskForm_write.j1 : Nat → ByteArray → ByteArray → Int → Bool → Bool → Bool → Bool → Bool → Int → Int → ByteArray → Int → List Int → Int → Option (ByteArray)
 | 0, _, _, _, _, _, _, _, _, _, _, _, _, _, _ => none
 | k + 1, x5, x102000, x102001, x102002, x102003, x102004, x102005, x102006, x103000, x103001, x103002, x103003, x103004, x103005 => if x102004 = true then (if 1 + x103002.size ≤ 9223372036854775807 then (if x5.size + ((⟨#[32]⟩ : ByteArray) ++ x103002).size ≤ 9223372036854775807 then (impl_dskForm_write.j2 k (x5 ++ ((⟨#[32]⟩ : ByteArray) ++ x103002)) x102000 x102001 x102002 x102003 x102004 x102005 x102006 x103000 x103001 x103002 x103003 x103004 x103005) else (none)) else (none)) else (impl_dskForm_write.j2 k x5 x102000 x102001 x102002 x102003 x102004 x102005 x102006 x103000 x103001 x103002 x103003 x103004 x103005)
def impl_dskForm_write.j2 : Nat → ByteArray → ByteArray → Int → Bool → Bool → Bool → Bool → Bool → Int → Int → ByteArray → Int → List Int → Int → Option (ByteArray)
 | 0, _, _, _, _, _, _, _, _, _, _, _, _, _, _ => none
 | k + 1, x5, x102000, x102001, x102002, x102003, x102004, x102005, x102006, x103000, x103001, x103002, x103003, x103004, x103005 => if x102005 = true then ((impl_HexText.f k x103004).bind fun t105 => (if 1 + t105.size ≤ 9223372036854775807 then (if x5.size + ((⟨#[32]⟩ : ByteArray) ++ t105).size ≤ 9223372036854775807 then (if x102006 = true then ((strconv_Itoa_54.f x103005).bind fun t106 => (if 1 + t106.size ≤ 9223372036854775807 then (if (x5 ++ ((⟨#[32]⟩ : ByteArray) ++ t105)).size + ((⟨#[32]⟩ : ByteArray) ++ t106).size ≤ 9223372036854775807 then (some ((x5 ++ ((⟨#[32]⟩ : ByteArray) ++ t105)) ++ ((⟨#[32]⟩ : ByteArray) ++ t106))) else (none)) else (none))) else (some (x5 ++ ((⟨#[32]⟩ : ByteArray) ++ t105)))) else (none)) else (none))) else (if x102006 = true then ((strconv_Itoa_54.f x103005).bind fun t107 => (if 1 + t107.size ≤ 9223372036854775807 then (if x5.size + ((⟨#[32]⟩ : ByteArray) ++ t107).size ≤ 9223372036854775807 then (some (x5 ++ ((⟨#[32]⟩ : ByteArray) ++ t107))) else (none)) else (none))) else (some x5))
end
def impl_dskForm_write.f (k : Nat) (a0_0 : ByteArray) (a0_1 : Int) (a0_2 : Bool) (a0_3 : Bool) (a0_4 : Bool) (a0_5 : Bool) (a0_6 : Bool) (a1_0 : Int) (a1_1 : Int) (a1_2 : ByteArray) (a1_3 : Int) (l1_4 : List Int) (a1_5 : Int) : Option (ByteArray) := if a0_2 = true then ((strconv_Itoa_54.f a1_0).bind fun t103 => (if 1 + t103.size ≤ 9223372036854775807 then (if a0_0.size + ((⟨#[32]⟩ : ByteArray) ++ t103).size ≤ 9223372036854775807 then (impl_dskForm_write.j0 k (a0_0 ++ ((⟨#[32]⟩ : ByteArray) ++ t103)) a0_0 a0_1 a0_2 a0_3 a0_4 a0_5 a0_6 a1_0 a1_1 a1_2 a1_3 l1_4 a1_5) else (none)) else (none))) else (impl_dskForm_write.j0 k a0_0 a0_0 a0_1 a0_2 a0_3 a0_4 a0_5 a0_6 a1_0 a1_1 a1_2 a1_3 l1_4 a1_5)
set_option maxHeartbeats 8000000 in
set_option maxRecDepth 100000 in
theorem impl_dskForm_write.calls (k : Nat) (a0_0 : ByteArray) (a0_1 : Int) (a0_2 : Bool) (a0_3 : Bool) (a0_4 : Bool) (a0_5 : Bool) (a0_6 : Bool) (a1_0 : Int) (a1_1 : Int) (a1_2 : ByteArray) (a1_3 : Int) (A1_4 : Option Addr) (c1_4 : Nat) (l1_4 : List Int) (a1_5 : Int) (r : ByteArray) (w : World) (hr1_4 : Kd.C (Kd.int .u8) w A1_4 l1_4.length l1_4) (hc1_4 : l1_4.length ≤ c1_4) (h : impl_dskForm_write.f k a0_0 a0_1 a0_2 a0_3 a0_4 a0_5 a0_6 a1_0 a1_1 a1_2 a1_3 l1_4 a1_5 = some r) (hG : GlobP w) :
  Calls Tryd.prog 95 #[.agg #[.string a0_0, .int .i64 a0_1, .bool a0_2, .bool a0_3, .bool a0_4, .bool a0_5, .bool a0_6], .agg #[.int .i64 a1_0, .int .i64 a1_1, .string a1_2, .int .i64 a1_3, .slice A1_4 l1_4.length c1_4, .int .i64 a1_5]] w fun e w' => e = .returned (.string r) ∧ Below w.heap.size w w' := by
 have HG := yab hG; clear hG; have hu122 := Tryd.underlying122; have hu65 := Tryd.underlying65; have HR1_4 := yab hr1_4; have HC1_4 := yab hc1_4; clear hr1_4 hc1_4; have HB := yab (Below.refl w.heap.size w); have H : (if a0_2 = true then ((strconv_Itoa_54.f a1_0).bind fun b6 => (if 1 + b6.size ≤ 9223372036854775807 then (if a0_0.size + ((⟨#[32]⟩ : ByteArray) ++ b6).size ≤ 9223372036854775807 then (impl_dskForm_write.j0 k (a0_0 ++ ((⟨#[32]⟩ : ByteArray) ++ b6)) a0_0 a0_1 a0_2 a0_3 a0_4 a0_5 a0_6 a1_0 a1_1 a1_2 a1_3 l1_4 a1_5) else (none)) else (none))) else (impl_dskForm_write.j0 k a0_0 a0_0 a0_1 a0_2 a0_3 a0_4 a0_5 a0_6 a1_0 a1_1 a1_2 a1_3 l1_4 a1_5)) = some r := h; clear h; have HC3 := yab H; clear H
 go_enter Tryd.func95, Tryd.ntmps95
 go_upto_if 9 with (first | ((with_reducible refine gd_ 2 rfl ?_); refine bx_ 2 rfl #[.string a0_0, .int .i64 a0_1, .bool a0_2, .bool a0_3, .bool a0_4, .bool a0_5, .bool a0_6] 122 ?_; intro d7 hg w4 hbox hb; have b0 := yab (hbox); have n4 := yab ((by rw [hg]; exact (below_size (upH HB.out)) : w.heap.size ≤ d7)); replace HB := yab (below_step (upH HB.out) hb); have D1 := n4; clear hb hbox hg) | ((with_reducible refine gd_ 3 rfl ?_); refine bx_ 3 rfl #[.int .i64 a1_0, .int .i64 a1_1, .string a1_2, .int .i64 a1_3, .slice A1_4 l1_4.length c1_4, .int .i64 a1_5] 65 ?_; intro d8 hg w5 hbox hb; have b1 := yab (hbox); have n5 := yab ((by rw [hg]; exact (below_size (by repeat (with_reducible first | exact HB.out | apply yac | apply yaa | apply yad | refine yae ?_ (Aside0.out ‹_›)))) : w.heap.size ≤ d8)); replace HB := yab (below_step (by repeat (with_reducible first | exact HB.out | apply yac | apply yaa | apply yad | refine yae ?_ (Aside0.out ‹_›))) hb); have D2 := n5; have b2 := yab ((by rw [hg]; exact Nat.ne_of_lt (blk_lt (upB b0.out)) : d7 ≠ d8)); replace b0 := yab (blk_below (upB b0.out) hb); have b3 := yab b2.out.symm; clear hb hbox hg; have G9 := b2.out; have H0 := b3.out; obtain ⟨e2, e3, e4, e5, e6, e7, e8⟩ := cc7_ b0.out; obtain ⟨e9, f0, f1, f2, f3, f4⟩ := cf6_ b0.out; have f6 := blk_frozen b0.out 6))
 (try simp only [Act.put, List.setIfInBounds_toArray, List.set_cons_zero, List.set_cons_succ])
 go_cut [5] (fun v5 wc => ∃ (kq : Nat) (e0 : ByteArray), v5 = .string e0 ∧ Aside0 (impl_dskForm_write.j0 kq e0 a0_0 a0_1 a0_2 a0_3 a0_4 a0_5 a0_6 a1_0 a1_1 a1_2 a1_3 l1_4 a1_5 = some r) ∧ Aside0 (kq ≤ k) ∧ Aside0 (wc.heap[d7]? = some (.cells #[.string a0_0, .int .i64 a0_1, .bool a0_2, .bool a0_3, .bool a0_4, .bool a0_5, .bool a0_6] 122 (0, 0))) ∧ Aside0 (wc.heap[d8]? = some (.cells #[.int .i64 a1_0, .int .i64 a1_1, .string a1_2, .int .i64 a1_3, (.slice A1_4 l1_4.length c1_4), .int .i64 a1_5] 65 (0, 0))) ∧ Aside0 (Below w.heap.size w wc))
 case first =>
  have H := HC3.out; clear HC3
  by_cases c8 : a0_2 = true
  ·
   subst c8
   rw [if_pos rfl] at H
   obtain ⟨b6, A9, H⟩ := bindA H; (try dsimp only at H)
   by_cases c10 : 1 + b6.size ≤ 9223372036854775807
   ·
    rw [if_pos c10] at H
    have i7 := eq_true c10; have i8 : decide (1 + b6.size ≤ 9223372036854775807) = true := decide_eq_true c10
    try have i9 : (9223372036854775807 < 1 + b6.size) = False := eq_false (Nat.not_lt.2 c10)
    by_cases c11 : a0_0.size + ((⟨#[32]⟩ : ByteArray) ++ b6).size ≤ 9223372036854775807
    ·
     rw [if_pos c11] at H
     have j3 := eq_true c11; have j4 : decide (a0_0.size + ((⟨#[32]⟩ : ByteArray) ++ b6).size ≤ 9223372036854775807) = true := decide_eq_true c11
     try have j5 : (9223372036854775807 < a0_0.size + ((⟨#[32]⟩ : ByteArray) ++ b6).size) = False := eq_false (Nat.not_lt.2 c11)
     try (have j6 := c11; simp only [ByteArray.size_append', ByteArray.size_mk', List.size_toArray, List.length_cons, List.length_nil, Nat.zero_add, Nat.reduceAdd] at j6; replace j6 := eq_false (Nat.not_lt.2 j6))
     have H' := yab H; clear H; have D3 := b3.out; have D4 := b2.out; obtain ⟨b8, b9, c0, c4, c7, d0⟩ := cc6_ b1.out; obtain ⟨d1, d2, d3, d4, d5, d6⟩ := cf6_ b1.out
     go_wp2_with (first | ((with_reducible refine gc_ 54 rfl ?_); refine gl_ (some 13) rfl Tryd.func54 #[.int .i64 a1_0] ?_; (with_reducible refine (strconv_Itoa_54.calls a1_0 b6 _ A9.out ?sideG).mono ?_); (case sideG => exact GlobP.belowW HG.out (by repeat (first | (with_reducible first | exact HB.out | apply yac | apply yaa | apply yad | refine yae ?_ (Aside0.out ‹_›)) | exact HB.out | exact Below.refl _ _))); rintro e w14 ⟨rfl, hb⟩; refine ⟨_, rfl, ?_⟩; replace b0 := yab (blk_below (upB b0.out) hb); replace b1 := yab (blk_below (upB b1.out) hb); replace HB := yab (below_step (by repeat (with_reducible first | exact HB.out | apply yac | apply yaa | apply yad | refine yae ?_ (Aside0.out ‹_›))) hb); (try clear hb)))
     go_meet
     case rel => exact ⟨_, (a0_0 ++ ((⟨#[32]⟩ : ByteArray) ++ b6)), (by first | rfl | (simp; done) | (simp [*]; done)), H', ⟨by first | omega | exact Nat.le_refl _⟩, ⟨by exact upB b0.out⟩, ⟨by exact upB b1.out⟩, ⟨by repeat (with_reducible first | exact HB.out | apply yac | apply yaa | apply yad | refine yae ?_ (Aside0.out ‹_›))⟩⟩
    ·
     rw [if_neg c11] at H
     exact absurd H (by simp)
   ·
    rw [if_neg c10] at H
    exact absurd H (by simp)
  ·
   replace c8 := Bool.eq_false_iff.mpr c8
   subst c8
   rw [if_neg (show ¬ (false = true) by decide)] at H
   have H' := yab H; clear H
   go_wp2
   go_meet
   case rel => exact ⟨_, (a0_0), (by first | rfl | (simp; done) | (simp [*]; done)), H', ⟨by first | omega | exact Nat.le_refl _⟩, ⟨by exact upB b0.out⟩, ⟨by exact upB b1.out⟩, ⟨by repeat (with_reducible first | exact HB.out | apply yac | apply yaa | apply yad | refine yae ?_ (Aside0.out ‹_›))⟩⟩
 case rest =>
  clear HC3; (try clear c1); (try clear p2); (try clear c5); (try clear c6); (try clear c8); (try clear c9); (try clear c10); (try clear i7); (try clear i8); (try clear i9); (try clear c11); (try clear j3); (try clear j4); (try clear j5); (try clear c12); (try clear b8); (try clear b9); (try clear c0); (try clear c4); (try clear c7); (try clear d0); (try clear e2); (try clear e3); (try clear e4); (try clear e5); (try clear e6); (try clear e7); (try clear e8); (try clear d1); (try clear d2); (try clear d3); (try clear d4); (try clear d5); (try clear d6); (try clear e9); (try clear f0); (try clear f1); (try clear f2); (try clear f3); (try clear f4); (try clear f6); obtain ⟨kq, e0, rfl, HA, HJ2, b0, b1, HB⟩ := hcut
  cases kq with
  | zero => exact absurd HA.out (by simp [impl_dskForm_write.j0])
  | succ kj2 =>
   have H := HA.out; clear HA
   simp only [impl_dskForm_write.j0] at H
   have HC15 := yab H; clear H; have D5 := b2.out; have D6 := b3.out; obtain ⟨f9, g0, g1, g2, g3, g4, g5⟩ := cc7_ b0.out; obtain ⟨g6, g7, g8, g9, h0, h1, h2⟩ := cf7_ b0.out
   go_upto_if 17 with (fail)
   go_cut [5] (fun v5 wc => ∃ (kq : Nat) (b5 : ByteArray), v5 = .string b5 ∧ Aside0 (impl_dskForm_write.j1 kq b5 a0_0 a0_1 a0_2 a0_3 a0_4 a0_5 a0_6 a1_0 a1_1 a1_2 a1_3 l1_4 a1_5 = some r) ∧ Aside0 (kq ≤ kj2) ∧ Aside0 (wc.heap[d7]? = some (.cells #[.string a0_0, .int .i64 a0_1, .bool a0_2, .bool a0_3, .bool a0_4, .bool a0_5, .bool a0_6] 122 (0, 0))) ∧ Aside0 (wc.heap[d8]? = some (.cells #[.int .i64 a1_0, .int .i64 a1_1, .string a1_2, .int .i64 a1_3, (.slice A1_4 l1_4.length c1_4), .int .i64 a1_5] 65 (0, 0))) ∧ Aside0 (Below w.heap.size w wc))
   case first =>
    have H := HC15.out; clear HC15
    by_cases c18 : a0_3 = true
    ·
     subst c18
     rw [if_pos rfl] at H
     obtain ⟨e1, A19, H⟩ := bindA H; (try dsimp only at H)
     by_cases c20 : 1 + e1.size ≤ 9223372036854775807
     ·
      rw [if_pos c20] at H
      have m8 := eq_true c20; have m9 : decide (1 + e1.size ≤ 9223372036854775807) = true := decide_eq_true c20
      try have n0 : (9223372036854775807 < 1 + e1.size) = False := eq_false (Nat.not_lt.2 c20)
      by_cases c21 : e0.size + ((⟨#[32]⟩ : ByteArray) ++ e1).size ≤ 9223372036854775807
      ·
       rw [if_pos c21] at H
       have n1 := eq_true c21; have n2 : decide (e0.size + ((⟨#[32]⟩ : ByteArray) ++ e1).size ≤ 9223372036854775807) = true := decide_eq_true c21
       try have n3 : (9223372036854775807 < e0.size + ((⟨#[32]⟩ : ByteArray) ++ e1).size) = False := eq_false (Nat.not_lt.2 c21)
       try (have j7 := c21; simp only [ByteArray.size_append', ByteArray.size_mk', List.size_toArray, List.length_cons, List.length_nil, Nat.zero_add, Nat.reduceAdd] at j7; replace j7 := eq_false (Nat.not_lt.2 j7))
       have H' := yab H; clear H; have D7 := b3.out; have D8 := b2.out; obtain ⟨h3, h4, h5, h6, h7, h8⟩ := cc6_ b1.out; obtain ⟨h9, i0, i1, i2, i3, i4⟩ := cf6_ b1.out
       go_wp2_with (first | ((with_reducible refine gc_ 54 rfl ?_); refine gl_ (some 22) rfl Tryd.func54 #[.int .i64 a1_3] ?_; (with_reducible refine (strconv_Itoa_54.calls a1_3 e1 _ A19.out ?sideG).mono ?_); (case sideG => exact GlobP.belowW HG.out (by repeat (first | (with_reducible first | exact HB.out | apply yac | apply yaa | apply yad | refine yae ?_ (Aside0.out ‹_›)) | exact HB.out | exact Below.refl _ _))); rintro e w24 ⟨rfl, hb⟩; refine ⟨_, rfl, ?_⟩; replace b0 := yab (blk_below (upB b0.out) hb); replace b1 := yab (blk_below (upB b1.out) hb); replace HB := yab (below_step (by repeat (with_reducible first | exact HB.out | apply yac | apply yaa | apply yad | refine yae ?_ (Aside0.out ‹_›))) hb); (try clear hb)))
       go_meet
       case rel => exact ⟨_, (e0 ++ ((⟨#[32]⟩ : ByteArray) ++ e1)), (by first | rfl | (simp; done) | (simp [*]; done)), H', ⟨by have := HJ2.out; first | omega | exact Nat.le_refl _⟩, ⟨by exact upB b0.out⟩, ⟨by exact upB b1.out⟩, ⟨by repeat (with_reducible first | exact HB.out | apply yac | apply yaa | apply yad | refine yae ?_ (Aside0.out ‹_›))⟩⟩
      ·
       rw [if_neg c21] at H
       exact absurd H (by simp)
     ·
      rw [if_neg c20] at H
      exact absurd H (by simp)
    ·
     replace c18 := Bool.eq_false_iff.mpr c18
     subst c18
     rw [if_neg (show ¬ (false = true) by decide)] at H
     have H' := yab H; clear H
     go_wp2
     go_meet
     case rel => exact ⟨_, (e0), (by first | rfl | (simp; done) | (simp [*]; done)), H', ⟨by have := HJ2.out; first | omega | exact Nat.le_refl _⟩, ⟨by exact upB b0.out⟩, ⟨by exact upB b1.out⟩, ⟨by repeat (with_reducible first | exact HB.out | apply yac | apply yaa | apply yad | refine yae ?_ (Aside0.out ‹_›))⟩⟩
   case rest =>
    clear HC15; (try clear c1); (try clear c2); (try clear p2); (try clear c5); (try clear c6); (try clear c8); (try clear c9); (try clear c10); (try clear i7); (try clear i8); (try clear i9); (try clear c11); (try clear j3); (try clear j4); (try clear j5); (try clear c12); (try clear c16); (try clear c18); (try clear c20); (try clear m8); (try clear m9); (try clear n0); (try clear c21); (try clear n1); (try clear n2); (try clear n3); (try clear c22); (try clear b8); (try clear b9); (try clear c0); (try clear c4); (try clear c7); (try clear d0); (try clear f9); (try clear g0); (try clear g1); (try clear g2); (try clear g3); (try clear g4); (try clear g5); (try clear h3); (try clear h4); (try clear h5); (try clear h6); (try clear h7); (try clear h8); (try clear e2); (try clear e3); (try clear e4); (try clear e5); (try clear e6); (try clear e7); (try clear e8); (try clear d1); (try clear d2); (try clear d3); (try clear d4); (try clear d5); (try clear d6); (try clear g6); (try clear g7); (try clear g8); (try clear g9); (try clear h0); (try clear h1); (try clear h2); (try clear h9); (try clear i0); (try clear i1); (try clear i2); (try clear i3); (try clear i4); (try clear e9); (try clear f0); (try clear f1); (try clear f2); (try clear f3); (try clear f4); (try clear f6); (try clear p2); obtain ⟨kq, b5, rfl, HA, HJ14, b0, b1, HB⟩ := hcut
    cases kq with
    | zero => exact absurd HA.out (by simp [impl_dskForm_write.j1])
    | succ kj14 =>
     have H := HA.out; clear HA
     simp only [impl_dskForm_write.j1] at H
     have HC25 := yab H; clear H; have D9 := b2.out; have E0 := b3.out; obtain ⟨k2, k3, k4, k5, k6, k7, k8⟩ := cc7_ b0.out; obtain ⟨k9, l0, l1, l2, l3, l4, l5⟩ := cf7_ b0.out
     go_upto_if 26 with (fail)
     go_cut [5] (fun v5 wc => ∃ (kq : Nat) (b4 : ByteArray), v5 = .string b4 ∧ Aside0 (impl_dskForm_write.j2 kq b4 a0_0 a0_1 a0_2 a0_3 a0_4 a0_5 a0_6 a1_0 a1_1 a1_2 a1_3 l1_4 a1_5 = some r) ∧ Aside0 (kq ≤ kj14) ∧ Aside0 (wc.heap[d7]? = some (.cells #[.string a0_0, .int .i64 a0_1, .bool a0_2, .bool a0_3, .bool a0_4, .bool a0_5, .bool a0_6] 122 (0, 0))) ∧ Aside0 (wc.heap[d8]? = some (.cells #[.int .i64 a1_0, .int .i64 a1_1, .string a1_2, .int .i64 a1_3, (.slice A1_4 l1_4.length c1_4), .int .i64 a1_5] 65 (0, 0))) ∧ Aside0 (Below w.heap.size w wc))
     case first =>
      have H := HC25.out; clear HC25
      by_cases c28 : a0_4 = true
      ·
       subst c28
       rw [if_pos rfl] at H
       by_cases c29 : 1 + a1_2.size ≤ 9223372036854775807
       ·
        rw [if_pos c29] at H
        have n6 := eq_true c29; have n7 : decide (1 + a1_2.size ≤ 9223372036854775807) = true := decide_eq_true c29
        try have n8 : (9223372036854775807 < 1 + a1_2.size) = False := eq_false (Nat.not_lt.2 c29)
        by_cases c30 : b5.size + ((⟨#[32]⟩ : ByteArray) ++ a1_2).size ≤ 9223372036854775807
        ·
         rw [if_pos c30] at H
         have n9 := eq_true c30; have o0 : decide (b5.size + ((⟨#[32]⟩ : ByteArray) ++ a1_2).size ≤ 9223372036854775807) = true := decide_eq_true c30
         try have o1 : (9223372036854775807 < b5.size + ((⟨#[32]⟩ : ByteArray) ++ a1_2).size) = False := eq_false (Nat.not_lt.2 c30)
         try (have j8 := c30; simp only [ByteArray.size_append', ByteArray.size_mk', List.size_toArray, List.length_cons, List.length_nil, Nat.zero_add, Nat.reduceAdd] at j8; replace j8 := eq_false (Nat.not_lt.2 j8))
         have H' := yab H; clear H; have E1 := b3.out; have E2 := b2.out; obtain ⟨l6, l7, l8, l9, m0, m1⟩ := cc6_ b1.out; obtain ⟨m2, m3, m4, m5, m6, m7⟩ := cf6_ b1.out
         go_wp2
         go_meet
         case rel => exact ⟨_, (b5 ++ ((⟨#[32]⟩ : ByteArray) ++ a1_2)), (by first | rfl | (simp; done) | (simp [*]; done)), H', ⟨by have := HJ2.out; have := HJ14.out; first | omega | exact Nat.le_refl _⟩, ⟨by exact upB b0.out⟩, ⟨by exact upB b1.out⟩, ⟨by repeat (with_reducible first | exact HB.out | apply yac | apply yaa | apply yad | refine yae ?_ (Aside0.out ‹_›))⟩⟩
        ·
         rw [if_neg c30] at H
         exact absurd H (by simp)
       ·
        rw [if_neg c29] at H
        exact absurd H (by simp)
      ·
       replace c28 := Bool.eq_false_iff.mpr c28
       subst c28
       rw [if_neg (show ¬ (false = true) by decide)] at H
       have H' := yab H; clear H
       go_wp2
       go_meet
       case rel => exact ⟨_, (b5), (by first | rfl | (simp; done) | (simp [*]; done)), H', ⟨by have := HJ2.out; have := HJ14.out; first | omega | exact Nat.le_refl _⟩, ⟨by exact upB b0.out⟩, ⟨by exact upB b1.out⟩, ⟨by repeat (with_reducible first | exact HB.out | apply yac | apply yaa | apply yad | refine yae ?_ (Aside0.out ‹_›))⟩⟩
     case rest =>
      clear HC25; (try clear c1); (try clear c2); (try clear p2); (try clear c3); (try clear c5); (try clear c6); (try clear c8); (try clear c9); (try clear c10); (try clear i7); (try clear i8); (try clear i9); (try clear c11); (try clear j3); (try clear j4); (try clear j5); (try clear c12); (try clear c16); (try clear c18); (try clear c20); (try clear m8); (try clear m9); (try clear n0); (try clear c21); (try clear n1); (try clear n2); (try clear n3); (try clear c22); (try clear c26); (try clear c28); (try clear c29); (try clear n6); (try clear n7); (try clear n8); (try clear c30); (try clear n9); (try clear o0); (try clear o1); (try clear c31); (try clear b8); (try clear b9); (try clear c0); (try clear c4); (try clear c7); (try clear d0); (try clear f9); (try clear g0); (try clear g1); (try clear g2); (try clear g3); (try clear g4); (try clear g5); (try clear h3); (try clear h4); (try clear h5); (try clear h6); (try clear h7); (try clear h8); (try clear k2); (try clear k3); (try clear k4); (try clear k5); (try clear k6); (try clear k7); (try clear k8); (try clear l6); (try clear l7); (try clear l8); (try clear l9); (try clear m0); (try clear m1); (try clear e2); (try clear e3); (try clear e4); (try clear e5); (try clear e6); (try clear e7); (try clear e8); (try clear d1); (try clear d2); (try clear d3); (try clear d4); (try clear d5); (try clear d6); (try clear g6); (try clear g7); (try clear g8); (try clear g9); (try clear h0); (try clear h1); (try clear h2); (try clear h9); (try clear i0); (try clear i1); (try clear i2); (try clear i3); (try clear i4); (try clear k9); (try clear l0); (try clear l1); (try clear l2); (try clear l3); (try clear l4); (try clear l5); (try clear m2); (try clear m3); (try clear m4); (try clear m5); (try clear m6); (try clear m7); (try clear e9); (try clear f0); (try clear f1); (try clear f2); (try clear f3); (try clear f4); (try clear f6); (try clear p2); obtain ⟨kq, b4, rfl, HA, HJ24, b0, b1, HB⟩ := hcut
      cases kq with
      | zero => exact absurd HA.out (by simp [impl_dskForm_write.j2])
      | succ kj24 =>
       have H := HA.out; clear HA
       simp only [impl_dskForm_write.j2] at H
       by_cases c33 : a0_5 = true
       ·
        subst c33
        rw [if_pos rfl] at H
        obtain ⟨b7, A34, H⟩ := bindA H; (try dsimp only at H)
        by_cases c35 : 1 + b7.size ≤ 9223372036854775807
        ·
         rw [if_pos c35] at H
         have E3 := eq_true c35; have E4 : decide (1 + b7.size ≤ 9223372036854775807) = true := decide_eq_true c35
         try have E5 : (9223372036854775807 < 1 + b7.size) = False := eq_false (Nat.not_lt.2 c35)
         by_cases c36 : b4.size + ((⟨#[32]⟩ : ByteArray) ++ b7).size ≤ 9223372036854775807
         ·
          rw [if_pos c36] at H
          have E6 := eq_true c36; have E7 : decide (b4.size + ((⟨#[32]⟩ : ByteArray) ++ b7).size ≤ 9223372036854775807) = true := decide_eq_true c36
          try have E8 : (9223372036854775807 < b4.size + ((⟨#[32]⟩ : ByteArray) ++ b7).size) = False := eq_false (Nat.not_lt.2 c36)
          try (have j9 := c36; simp only [ByteArray.size_append', ByteArray.size_mk', List.size_toArray, List.length_cons, List.length_nil, Nat.zero_add, Nat.reduceAdd] at j9; replace j9 := eq_false (Nat.not_lt.2 j9))
          by_cases c37 : a0_6 = true
          ·
           subst c37
           rw [if_pos rfl] at H
           obtain ⟨f7, A38, H⟩ := bindA H; (try dsimp only at H)
           by_cases c39 : 1 + f7.size ≤ 9223372036854775807
           ·
            rw [if_pos c39] at H
            have E9 := eq_true c39; have F0 : decide (1 + f7.size ≤ 9223372036854775807) = true := decide_eq_true c39
            try have F1 : (9223372036854775807 < 1 + f7.size) = False := eq_false (Nat.not_lt.2 c39)
            by_cases c40 : (b4 ++ ((⟨#[32]⟩ : ByteArray) ++ b7)).size + ((⟨#[32]⟩ : ByteArray) ++ f7).size ≤ 9223372036854775807
            ·
             rw [if_pos c40] at H
             have F2 := eq_true c40; have F3 : decide ((b4 ++ ((⟨#[32]⟩ : ByteArray) ++ b7)).size + ((⟨#[32]⟩ : ByteArray) ++ f7).size ≤ 9223372036854775807) = true := decide_eq_true c40
             try have F4 : (9223372036854775807 < (b4 ++ ((⟨#[32]⟩ : ByteArray) ++ b7)).size + ((⟨#[32]⟩ : ByteArray) ++ f7).size) = False := eq_false (Nat.not_lt.2 c40)
             try (have k0 := c40; simp only [ByteArray.size_append', ByteArray.size_mk', List.size_toArray, List.length_cons, List.length_nil, Nat.zero_add, Nat.reduceAdd] at k0; replace k0 := eq_false (Nat.not_lt.2 k0))
             obtain rfl := Option.some.inj H; have F5 := b2.out; have F6 := b3.out; obtain ⟨o2, o3, o4, o5, o6, o7, o8⟩ := cc7_ b0.out; obtain ⟨o9, p0, p1, p3, p4, p5, p6⟩ := cf7_ b0.out; obtain ⟨p7, p8, p9, q0, q1, q2⟩ := cc6_ b1.out; obtain ⟨q3, q4, q5, q6, q7, q8⟩ := cf6_ b1.out
             go_wp2_with (first | ((with_reducible refine gc_ 125 rfl ?_); refine gl_ (some 39) rfl Tryd.func125 #[.slice A1_4 l1_4.length c1_4] ?_; (with_reducible refine (impl_HexText.calls kj24 _ _ l1_4 b7 _ ?side1 ?side2 A34.out).mono ?_); (case side1 => repeat (first | exact (Kd.C_below HR1_4.out HB.out) | (with_reducible refine Kd.C_alloc ?_ _) | (with_reducible refine Kd.C_drewN ?_ _) | (with_reducible refine Kd.C_drew ?_))); (case side2 => exact HC1_4.out); rintro e w44 ⟨rfl, hb⟩; refine ⟨_, rfl, ?_⟩; replace b0 := yab (blk_below (upB b0.out) hb); replace b1 := yab (blk_below (upB b1.out) hb); replace HB := yab (below_step (by repeat (with_reducible first | exact HB.out | apply yac | apply yaa | apply yad | refine yae ?_ (Aside0.out ‹_›))) hb); (try clear hb); obtain ⟨q9, r0, r1, r2, r3, r4, r5⟩ := cc7_ b0.out; obtain ⟨r6, r7, r8, r9, s0, s1, s2⟩ := cf7_ b0.out; obtain ⟨s3, s4, s5, s6, s7, s8⟩ := cc6_ b1.out; obtain ⟨s9, t0, t1, t2, t3⟩ := cf5_ b1.out; have t4 := blk_frozen b1.out 5) | ((with_reducible refine gc_ 54 rfl ?_); refine gl_ (some 48) rfl Tryd.func54 #[.int .i64 a1_5] ?_; (with_reducible refine (strconv_Itoa_54.calls a1_5 f7 _ A38.out ?sideG).mono ?_); (case sideG => exact GlobP.belowW HG.out (by repeat (first | (with_reducible first | exact HB.out | apply yac | apply yaa | apply yad | refine yae ?_ (Aside0.out ‹_›)) | exact HB.out | exact Below.refl _ _))); rintro e w47 ⟨rfl, hb⟩; refine ⟨_, rfl, ?_⟩; replace b0 := yab (blk_below (upB b0.out) hb); replace b1 := yab (blk_below (upB b1.out) hb); replace HB := yab (below_step (by repeat (with_reducible first | exact HB.out | apply yac | apply yaa | apply yad | refine yae ?_ (Aside0.out ‹_›))) hb); (try clear hb)))
             go_ret
             exact ⟨by first | rfl | (simp [*, errW_none, errW_some] <;> rfl), by repeat (with_reducible first | exact HB.out | apply yac | apply yaa | apply yad | refine yae ?_ (Aside0.out ‹_›))⟩
            ·
             rw [if_neg c40] at H
             exact absurd H (by simp)
           ·
            rw [if_neg c39] at H
            exact absurd H (by simp)
          ·
           replace c37 := Bool.eq_false_iff.mpr c37
           subst c37
           rw [if_neg (show ¬ (false = true) by decide)] at H
           obtain rfl := Option.some.inj H; have F7 := b2.out; have F8 := b3.out; obtain ⟨t5, t6, t7, t8, t9, u0, u1⟩ := cc7_ b0.out; obtain ⟨u2, u3, u4, u5, u6, u7, u9⟩ := cf7_ b0.out; obtain ⟨v0, v1, v2, v3, v4, v6⟩ := cc6_ b1.out; obtain ⟨v7, v8, v9, w0, w1, w2⟩ := cf6_ b1.out
           go_wp2_with (first | ((with_reducible refine gc_ 125 rfl ?_); refine gl_ (some 39) rfl Tryd.func125 #[.slice A1_4 l1_4.length c1_4] ?_; (with_reducible refine (impl_HexText.calls kj24 _ _ l1_4 b7 _ ?side1 ?side2 A34.out).mono ?_); (case side1 => repeat (first | exact (Kd.C_below HR1_4.out HB.out) | (with_reducible refine Kd.C_alloc ?_ _) | (with_reducible refine Kd.C_drewN ?_ _) | (with_reducible refine Kd.C_drew ?_))); (case side2 => exact HC1_4.out); rintro e w51 ⟨rfl, hb⟩; refine ⟨_, rfl, ?_⟩; replace b0 := yab (blk_below (upB b0.out) hb); replace b1 := yab (blk_below (upB b1.out) hb); replace HB := yab (below_step (by repeat (with_reducible first | exact HB.out | apply yac | apply yaa | apply yad | refine yae ?_ (Aside0.out ‹_›))) hb); (try clear hb); obtain ⟨w3, w6, w7, w8, w9, x0, x1⟩ := cc7_ b0.out; obtain ⟨x2, x3, x4, x6, x7, x8⟩ := cf6_ b0.out; have x9 := blk_frozen b0.out 6))
           go_ret
           exact ⟨by first | rfl | (simp [*, errW_none, errW_some] <;> rfl), by repeat (with_reducible first | exact HB.out | apply yac | apply yaa | apply yad | refine yae ?_ (Aside0.out ‹_›))⟩
         ·
          rw [if_neg c36] at H
          exact absurd H (by simp)
        ·
         rw [if_neg c35] at H
         exact absurd H (by simp)
       ·
        replace c33 := Bool.eq_false_iff.mpr c33
        subst c33
        rw [if_neg (show ¬ (false = true) by decide)] at H
        by_cases c53 : a0_6 = true
        ·
         subst c53
         rw [if_pos rfl] at H
         obtain ⟨f8, A54, H⟩ := bindA H; (try dsimp only at H)
         by_cases c55 : 1 + f8.size ≤ 9223372036854775807
         ·
          rw [if_pos c55] at H
          have F9 := eq_true c55; have G0 : decide (1 + f8.size ≤ 9223372036854775807) = true := decide_eq_true c55
          try have G1 : (9223372036854775807 < 1 + f8.size) = False := eq_false (Nat.not_lt.2 c55)
          by_cases c56 : b4.size + ((⟨#[32]⟩ : ByteArray) ++ f8).size ≤ 9223372036854775807
          ·
           rw [if_pos c56] at H
           have G2 := eq_true c56; have G3 : decide (b4.size + ((⟨#[32]⟩ : ByteArray) ++ f8).size ≤ 9223372036854775807) = true := decide_eq_true c56
           try have G4 : (9223372036854775807 < b4.size + ((⟨#[32]⟩ : ByteArray) ++ f8).size) = False := eq_false (Nat.not_lt.2 c56)
           try (have k1 := c56; simp only [ByteArray.size_append', ByteArray.size_mk', List.size_toArray, List.length_cons, List.length_nil, Nat.zero_add, Nat.reduceAdd] at k1; replace k1 := eq_false (Nat.not_lt.2 k1))
           obtain rfl := Option.some.inj H; have G5 := b2.out; have G6 := b3.out; obtain ⟨z0, z1, z2, z3, z4, z5, z6⟩ := cc7_ b0.out; obtain ⟨z7, z8, z9, A0, A1, A2, A3⟩ := cf7_ b0.out; obtain ⟨A4, A5, A6, A7, A8, B0⟩ := cc6_ b1.out; obtain ⟨B1, B2, B3, B4, B5, B6⟩ := cf6_ b1.out
           go_wp2_with (first | ((with_reducible refine gc_ 54 rfl ?_); refine gl_ (some 48) rfl Tryd.func54 #[.int .i64 a1_5] ?_; (with_reducible refine (strconv_Itoa_54.calls a1_5 f8 _ A54.out ?sideG).mono ?_); (case sideG => exact GlobP.belowW HG.out (by repeat (first | (with_reducible first | exact HB.out | apply yac | apply yaa | apply yad | refine yae ?_ (Aside0.out ‹_›)) | exact HB.out | exact Below.refl _ _))); rintro e w60 ⟨rfl, hb⟩; refine ⟨_, rfl, ?_⟩; replace b0 := yab (blk_below (upB b0.out) hb); replace b1 := yab (blk_below (upB b1.out) hb); replace HB := yab (below_step (by repeat (with_reducible first | exact HB.out | apply yac | apply yaa | apply yad | refine yae ?_ (Aside0.out ‹_›))) hb); (try clear hb)))
           go_ret
           exact ⟨by first | rfl | (simp [*, errW_none, errW_some] <;> rfl), by repeat (with_reducible first | exact HB.out | apply yac | apply yaa | apply yad | refine yae ?_ (Aside0.out ‹_›))⟩
          ·
           rw [if_neg c56] at H
           exact absurd H (by simp)
         ·
          rw [if_neg c55] at H
          exact absurd H (by simp)
        ·
         replace c53 := Bool.eq_false_iff.mpr c53
         subst c53
         rw [if_neg (show ¬ (false = true) by decide)] at H
         obtain rfl := Option.some.inj H; have G7 := b2.out; have G8 := b3.out; obtain ⟨B7, B8, B9, C0, C1, C2, C3⟩ := cc7_ b0.out; obtain ⟨C4, C5, C6, C7, C8, C9, D0⟩ := cf7_ b0.out
         go_wp2
         go_ret
         exact ⟨by first | rfl | (simp [*, errW_none, errW_some] <;> rfl), by repeat (with_reducible first | exact HB.out | apply yac | apply yaa | apply yad | refine yae ?_ (Aside0.out ‹_›))⟩
end
section
def dskFits (i : Nat) (who kind : Int) (text : ByteArray) (id : Int) (data : List Int) (at_ : Int) : Option Bool := match i with
 | 0 => impl_dskForm_fits.f (⟨#[116, 105, 109, 101]⟩ : ByteArray) 4 false false false false true who kind text id data at_
 | 1 => impl_dskForm_fits.f (⟨#[97, 115, 107]⟩ : ByteArray) 1 true false true false false who kind text id data at_
 | 2 => impl_dskForm_fits.f (⟨#[114, 101, 112, 108, 121]⟩ : ByteArray) 2 true true false true false who kind text id data at_
 | _ => impl_dskForm_fits.f (⟨#[102, 97, 105, 108]⟩ : ByteArray) 3 true true false false false who kind text id data at_
def dskWrite (k i : Nat) (who kind : Int) (text : ByteArray) (id : Int) (data : List Int) (at_ : Int) : Option ByteArray := match i with
 | 0 => impl_dskForm_write.f k (⟨#[116, 105, 109, 101]⟩ : ByteArray) 4 false false false false true who kind text id data at_
 | 1 => impl_dskForm_write.f k (⟨#[97, 115, 107]⟩ : ByteArray) 1 true false true false false who kind text id data at_
 | 2 => impl_dskForm_write.f k (⟨#[114, 101, 112, 108, 121]⟩ : ByteArray) 2 true true false true false who kind text id data at_
 | _ => impl_dskForm_write.f k (⟨#[102, 97, 105, 108]⟩ : ByteArray) 3 true true false false false who kind text id data at_
def dskGo (k : Nat) (who kind : Int) (text : ByteArray) (id : Int) (data : List Int) (at_ : Int) : Nat → Nat → Option ByteArray
 | 0, _ => some ⟨#[]⟩
 | n + 1, i => (dskFits i who kind text id data at_).bind fun b => if b = true then dskWrite k i who kind text id data at_ else dskGo k who kind text id data at_ n (i + 1)
def impl_DskText.f (k : Nat) (a0_0 a0_1 : Int) (a0_2 : ByteArray) (a0_3 : Int) (l0_4 : List Int) (a0_5 : Int) : Option ByteArray := dskGo k a0_0 a0_1 a0_2 a0_3 l0_4 a0_5 4 0
theorem up_cell' {w : World} {a : Addr} {v : Value} (h : w.cell? a = some v) : ∀ o1, (w.alloc o1).cell? a = some v := fun o => pw_cell_below ((Below.refl _ _).alloc (Nat.le_refl _) o) h
set_option maxHeartbeats 8000000 in
set_option maxRecDepth 100000 in
theorem impl_DskText.calls (k : Nat) (a0_0 a0_1 : Int) (a0_2 : ByteArray) (a0_3 : Int) (A0_4 : Option Addr) (c0_4 : Nat) (l0_4 : List Int) (a0_5 : Int) (r : ByteArray) (w : World) (hr0_4 : Kd.C (Kd.int .u8) w A0_4 l0_4.length l0_4) (hc0_4 : l0_4.length ≤ c0_4) (h : impl_DskText.f k a0_0 a0_1 a0_2 a0_3 l0_4 a0_5 = some r) (hG : GlobD w) :
  Calls Tryd.prog 45 #[.agg #[.int .i64 a0_0, .int .i64 a0_1, .string a0_2, .int .i64 a0_3, .slice A0_4 l0_4.length c0_4, .int .i64 a0_5]] w fun e w' => e = .returned (.string r) ∧ Below w.heap.size w w' := by
 have HG := Aside0.mk hG; have HR := Aside0.mk hr0_4; have HC := Aside0.mk hc0_4; have H := Aside0.mk h; clear hG hr0_4 hc0_4 h
 go_enter Tryd.func45, Tryd.ntmps45
 go_wp2_with (first | ((with_reducible refine gd_ 1 rfl ?_); refine bx_ 1 rfl #[.int .i64 a0_0, .int .i64 a0_1, .string a0_2, .int .i64 a0_3, .slice A0_4 l0_4.length c0_4, .int .i64 a0_5] 65 ?_; intro b2 hg w5 hbox hb; have HX := Aside0.mk hbox; have HB := Aside0.mk hb; have HG5 := Aside0.mk (HG.out.belowW hb); obtain ⟨⟨tD, frD, hD⟩, _⟩ := HG5.out; have HDK : Aside0 (w5.heap[1]? = some (.cells #[.string ⟨#[116, 105, 109, 101]⟩, .int .i64 4, .bool false, .bool false, .bool false, .bool false, .bool true, .string ⟨#[97, 115, 107]⟩, .int .i64 1, .bool true, .bool false, .bool true, .bool false, .bool false, .string ⟨#[114, 101, 112, 108, 121]⟩, .int .i64 2, .bool true, .bool true, .bool false, .bool true, .bool false, .string ⟨#[102, 97, 105, 108]⟩, .int .i64 3, .bool true, .bool true, .bool false, .bool false, .bool false] tD frD)) := ⟨hD⟩; clear hb hbox hg hD) | ((with_reducible refine gd_ 5 rfl ?_); refine wpList_load_row rfl 123 (.global 1) rfl 1 (by rfl) tD _ frD _ HDK.out Tryd.underlying123 rfl (by kernel_rfl) ?_))
 clear HG5
 (try simp only [Act.put, List.setIfInBounds_toArray, List.set_cons_zero, List.set_cons_succ])
 go_loopg [6] 4 (fun kq v6 w' => ∃ i : Nat, kq + i = 4 ∧ v6 = .int .i64 i ∧ Aside0 (dskGo k a0_0 a0_1 a0_2 a0_3 l0_4 a0_5 kq i = some r) ∧ Aside0 (w'.heap[b2]? = some (.cells #[.int .i64 a0_0, .int .i64 a0_1, .string a0_2, .int .i64 a0_3, .slice A0_4 l0_4.length c0_4, .int .i64 a0_5] 65 (0, 0))) ∧ Aside0 (Below w.heap.size w w'))
 case atStart => exact ⟨0, by omega, rfl, H, HX, HB⟩
 case round =>
  clear HX HB H; obtain ⟨i, hk, rfl, H, HX, HB⟩ := hrel; obtain ⟨x0, x1, x2, x3, x4, x5⟩ := cc6_ HX.out; have X0 := up_cell' x0; have X1 := up_cell' x1; have X2 := up_cell' x2; have X3 := up_cell' x3; have X4 := up_cell' x4; have X5 := up_cell' x5
  by_cases h4 : i < 4
  · have hi : i = 0 ∨ i = 1 ∨ i = 2 ∨ i = 3 := by omega
    rcases hi with rfl | rfl | rfl | rfl
    ·
     have hix : ∀ W : World, (Instr.index 123 (.agg #[.string ⟨#[116, 105, 109, 101]⟩, .int .i64 4, .bool false, .bool false, .bool false, .bool false, .bool true, .string ⟨#[97, 115, 107]⟩, .int .i64 1, .bool true, .bool false, .bool true, .bool false, .bool false, .string ⟨#[114, 101, 112, 108, 121]⟩, .int .i64 2, .bool true, .bool true, .bool false, .bool true, .bool false, .string ⟨#[102, 97, 105, 108]⟩, .int .i64 3, .bool true, .bool true, .bool false, .bool false, .bool false]) (.int .i64 0)).run Tryd.prog W = .ok (.agg #[.string ⟨#[116, 105, 109, 101]⟩, .int .i64 4, .bool false, .bool false, .bool false, .bool false, .bool true]) W := fun W => (by kernel_rfl); have H2 := H.out
     rw [show gk = 4 by omega] at H2
     obtain ⟨b, hb0, H2⟩ := Option.bind_eq_some_iff.1 H2; have HF := Aside0.mk (show impl_dskForm_fits.f (⟨#[116, 105, 109, 101]⟩ : ByteArray) 4 false false false false true a0_0 a0_1 a0_2 a0_3 l0_4 a0_5 = some b from hb0); clear H hb0
     cases b with
     | false =>
      have H3 := Aside0.mk ((if_neg (by decide)).symm.trans H2); clear H2
      go_wp2_with (go_at_call 94; refine (impl_dskForm_fits.calls (⟨#[116, 105, 109, 101]⟩ : ByteArray) 4 false false false false true a0_0 a0_1 a0_2 a0_3 A0_4 c0_4 l0_4 a0_5 false _ (Kd.C_below HR.out (HB.out.alloc HB.out.size _)) HC.out HF.out).mono ?_; rintro e w9 ⟨rfl, hb⟩; have HB9 := Aside0.mk (below_step (HB.out.alloc HB.out.size _) hb); have HX9 := Aside0.mk (blk_below (g := b2) (o := .cells #[.int .i64 a0_0, .int .i64 a0_1, .string a0_2, .int .i64 a0_3, .slice A0_4 l0_4.length c0_4, .int .i64 a0_5] 65 (0, 0)) (blk_below HX.out ((Below.refl _ _).alloc (Nat.le_refl _) _)) hb); clear hb)
      go_roundg (gk - 1)
      case measure => omega
      case rel => exact ⟨1, by omega, by first | rfl | (simp; done) | (unfold wrap64; simp; omega), by rw [show gk - 1 = 3 by omega]; exact H3, HX9, HB9⟩
     | true =>
      have H3 := Aside0.mk (show impl_dskForm_write.f k (⟨#[116, 105, 109, 101]⟩ : ByteArray) 4 false false false false true a0_0 a0_1 a0_2 a0_3 l0_4 a0_5 = some r from (if_pos rfl).symm.trans H2); clear H2
      go_wp2_with (first | (go_at_call 94; refine (impl_dskForm_fits.calls (⟨#[116, 105, 109, 101]⟩ : ByteArray) 4 false false false false true a0_0 a0_1 a0_2 a0_3 A0_4 c0_4 l0_4 a0_5 true _ (Kd.C_below HR.out (HB.out.alloc HB.out.size _)) HC.out HF.out).mono ?_; rintro e w9 ⟨rfl, hb⟩; have n0 := pw_cell_below hb (v := (.string ⟨#[116, 105, 109, 101]⟩)) ((cell_of_row _ wr.heap.size 0 _ _ _ (heap_alloc_new wr _)).trans rfl); have n1 := pw_cell_below hb (v := (.int .i64 4)) ((cell_of_row _ wr.heap.size 1 _ _ _ (heap_alloc_new wr _)).trans rfl); have n2 := pw_cell_below hb (v := (.bool false)) ((cell_of_row _ wr.heap.size 2 _ _ _ (heap_alloc_new wr _)).trans rfl); have n3 := pw_cell_below hb (v := (.bool false)) ((cell_of_row _ wr.heap.size 3 _ _ _ (heap_alloc_new wr _)).trans rfl); have n4 := pw_cell_below hb (v := (.bool false)) ((cell_of_row _ wr.heap.size 4 _ _ _ (heap_alloc_new wr _)).trans rfl); have n5 := pw_cell_below hb (v := (.bool false)) ((cell_of_row _ wr.heap.size 5 _ _ _ (heap_alloc_new wr _)).trans rfl); have n6 := pw_cell_below hb (v := (.bool true)) ((cell_of_row _ wr.heap.size 6 _ _ _ (heap_alloc_new wr _)).trans rfl); have m0 := pw_cell_below hb (X0 _); have m1 := pw_cell_below hb (X1 _); have m2 := pw_cell_below hb (X2 _); have m3 := pw_cell_below hb (X3 _); have m4 := pw_cell_below hb (X4 _); have m5 := pw_cell_below hb (X5 _); have HB9 := Aside0.mk (below_step (HB.out.alloc HB.out.size _) hb); clear hb) | (go_at_call 95; refine (impl_dskForm_write.calls k (⟨#[116, 105, 109, 101]⟩ : ByteArray) 4 false false false false true a0_0 a0_1 a0_2 a0_3 A0_4 c0_4 l0_4 a0_5 r _ (Kd.C_below HR.out HB9.out) HC.out H3.out (HG.out.toP.belowW HB9.out)).mono ?_; rintro e w10 ⟨rfl, hb⟩; have HB10 := Aside0.mk (below_step HB9.out hb); clear hb))
      go_ret
      exact ⟨rfl, HB10.out⟩
    ·
     have hix : ∀ W : World, (Instr.index 123 (.agg #[.string ⟨#[116, 105, 109, 101]⟩, .int .i64 4, .bool false, .bool false, .bool false, .bool false, .bool true, .string ⟨#[97, 115, 107]⟩, .int .i64 1, .bool true, .bool false, .bool true, .bool false, .bool false, .string ⟨#[114, 101, 112, 108, 121]⟩, .int .i64 2, .bool true, .bool true, .bool false, .bool true, .bool false, .string ⟨#[102, 97, 105, 108]⟩, .int .i64 3, .bool true, .bool true, .bool false, .bool false, .bool false]) (.int .i64 1)).run Tryd.prog W = .ok (.agg #[.string ⟨#[97, 115, 107]⟩, .int .i64 1, .bool true, .bool false, .bool true, .bool false, .bool false]) W := fun W => (by kernel_rfl); have H2 := H.out
     rw [show gk = 3 by omega] at H2
     obtain ⟨b, hb0, H2⟩ := Option.bind_eq_some_iff.1 H2; have HF := Aside0.mk (show impl_dskForm_fits.f (⟨#[97, 115, 107]⟩ : ByteArray) 1 true false true false false a0_0 a0_1 a0_2 a0_3 l0_4 a0_5 = some b from hb0); clear H hb0
     cases b with
     | false =>
      have H3 := Aside0.mk ((if_neg (by decide)).symm.trans H2); clear H2
      go_wp2_with (go_at_call 94; refine (impl_dskForm_fits.calls (⟨#[97, 115, 107]⟩ : ByteArray) 1 true false true false false a0_0 a0_1 a0_2 a0_3 A0_4 c0_4 l0_4 a0_5 false _ (Kd.C_below HR.out (HB.out.alloc HB.out.size _)) HC.out HF.out).mono ?_; rintro e w9 ⟨rfl, hb⟩; have HB9 := Aside0.mk (below_step (HB.out.alloc HB.out.size _) hb); have HX9 := Aside0.mk (blk_below (g := b2) (o := .cells #[.int .i64 a0_0, .int .i64 a0_1, .string a0_2, .int .i64 a0_3, .slice A0_4 l0_4.length c0_4, .int .i64 a0_5] 65 (0, 0)) (blk_below HX.out ((Below.refl _ _).alloc (Nat.le_refl _) _)) hb); clear hb)
      go_roundg (gk - 1)
      case measure => omega
      case rel => exact ⟨2, by omega, by first | rfl | (simp; done) | (unfold wrap64; simp; omega), by rw [show gk - 1 = 2 by omega]; exact H3, HX9, HB9⟩
     | true =>
      have H3 := Aside0.mk (show impl_dskForm_write.f k (⟨#[97, 115, 107]⟩ : ByteArray) 1 true false true false false a0_0 a0_1 a0_2 a0_3 l0_4 a0_5 = some r from (if_pos rfl).symm.trans H2); clear H2
      go_wp2_with (first | (go_at_call 94; refine (impl_dskForm_fits.calls (⟨#[97, 115, 107]⟩ : ByteArray) 1 true false true false false a0_0 a0_1 a0_2 a0_3 A0_4 c0_4 l0_4 a0_5 true _ (Kd.C_below HR.out (HB.out.alloc HB.out.size _)) HC.out HF.out).mono ?_; rintro e w9 ⟨rfl, hb⟩; have n0 := pw_cell_below hb (v := (.string ⟨#[97, 115, 107]⟩)) ((cell_of_row _ wr.heap.size 0 _ _ _ (heap_alloc_new wr _)).trans rfl); have n1 := pw_cell_below hb (v := (.int .i64 1)) ((cell_of_row _ wr.heap.size 1 _ _ _ (heap_alloc_new wr _)).trans rfl); have n2 := pw_cell_below hb (v := (.bool true)) ((cell_of_row _ wr.heap.size 2 _ _ _ (heap_alloc_new wr _)).trans rfl); have n3 := pw_cell_below hb (v := (.bool false)) ((cell_of_row _ wr.heap.size 3 _ _ _ (heap_alloc_new wr _)).trans rfl); have n4 := pw_cell_below hb (v := (.bool true)) ((cell_of_row _ wr.heap.size 4 _ _ _ (heap_alloc_new wr _)).trans rfl); have n5 := pw_cell_below hb (v := (.bool false)) ((cell_of_row _ wr.heap.size 5 _ _ _ (heap_alloc_new wr _)).trans rfl); have n6 := pw_cell_below hb (v := (.bool false)) ((cell_of_row _ wr.heap.size 6 _ _ _ (heap_alloc_new wr _)).trans rfl); have m0 := pw_cell_below hb (X0 _); have m1 := pw_cell_below hb (X1 _); have m2 := pw_cell_below hb (X2 _); have m3 := pw_cell_below hb (X3 _); have m4 := pw_cell_below hb (X4 _); have m5 := pw_cell_below hb (X5 _); have HB9 := Aside0.mk (below_step (HB.out.alloc HB.out.size _) hb); clear hb) | (go_at_call 95; refine (impl_dskForm_write.calls k (⟨#[97, 115, 107]⟩ : ByteArray) 1 true false true false false a0_0 a0_1 a0_2 a0_3 A0_4 c0_4 l0_4 a0_5 r _ (Kd.C_below HR.out HB9.out) HC.out H3.out (HG.out.toP.belowW HB9.out)).mono ?_; rintro e w10 ⟨rfl, hb⟩; have HB10 := Aside0.mk (below_step HB9.out hb); clear hb))
      go_ret
      exact ⟨rfl, HB10.out⟩
    ·
     have hix : ∀ W : World, (Instr.index 123 (.agg #[.string ⟨#[116, 105, 109, 101]⟩, .int .i64 4, .bool false, .bool false, .bool false, .bool false, .bool true, .string ⟨#[97, 115, 107]⟩, .int .i64 1, .bool true, .bool false, .bool true, .bool false, .bool false, .string ⟨#[114, 101, 112, 108, 121]⟩, .int .i64 2, .bool true, .bool true, .bool false, .bool true, .bool false, .string ⟨#[102, 97, 105, 108]⟩, .int .i64 3, .bool true, .bool true, .bool false, .bool false, .bool false]) (.int .i64 2)).run Tryd.prog W = .ok (.agg #[.string ⟨#[114, 101, 112, 108, 121]⟩, .int .i64 2, .bool true, .bool true, .bool false, .bool true, .bool false]) W := fun W => (by kernel_rfl); have H2 := H.out
     rw [show gk = 2 by omega] at H2
     obtain ⟨b, hb0, H2⟩ := Option.bind_eq_some_iff.1 H2; have HF := Aside0.mk (show impl_dskForm_fits.f (⟨#[114, 101, 112, 108, 121]⟩ : ByteArray) 2 true true false true false a0_0 a0_1 a0_2 a0_3 l0_4 a0_5 = some b from hb0); clear H hb0
     cases b with
     | false =>
      have H3 := Aside0.mk ((if_neg (by decide)).symm.trans H2); clear H2
      go_wp2_with (go_at_call 94; refine (impl_dskForm_fits.calls (⟨#[114, 101, 112, 108, 121]⟩ : ByteArray) 2 true true false true false a0_0 a0_1 a0_2 a0_3 A0_4 c0_4 l0_4 a0_5 false _ (Kd.C_below HR.out (HB.out.alloc HB.out.size _)) HC.out HF.out).mono ?_; rintro e w9 ⟨rfl, hb⟩; have HB9 := Aside0.mk (below_step (HB.out.alloc HB.out.size _) hb); have HX9 := Aside0.mk (blk_below (g := b2) (o := .cells #[.int .i64 a0_0, .int .i64 a0_1, .string a0_2, .int .i64 a0_3, .slice A0_4 l0_4.length c0_4, .int .i64 a0_5] 65 (0, 0)) (blk_below HX.out ((Below.refl _ _).alloc (Nat.le_refl _) _)) hb); clear hb)
      go_roundg (gk - 1)
      case measure => omega
      case rel => exact ⟨3, by omega, by first | rfl | (simp; done) | (unfold wrap64; simp; omega), by rw [show gk - 1 = 1 by omega]; exact H3, HX9, HB9⟩
     | true =>
      have H3 := Aside0.mk (show impl_dskForm_write.f k (⟨#[114, 101, 112, 108, 121]⟩ : ByteArray) 2 true true false true false a0_0 a0_1 a0_2 a0_3 l0_4 a0_5 = some r from (if_pos rfl).symm.trans H2); clear H2
      go_wp2_with (first | (go_at_call 94; refine (impl_dskForm_fits.calls (⟨#[114, 101, 112, 108, 121]⟩ : ByteArray) 2 true true false true false a0_0 a0_1 a0_2 a0_3 A0_4 c0_4 l0_4 a0_5 true _ (Kd.C_below HR.out (HB.out.alloc HB.out.size _)) HC.out HF.out).mono ?_; rintro e w9 ⟨rfl, hb⟩; have n0 := pw_cell_below hb (v := (.string ⟨#[114, 101, 112, 108, 121]⟩)) ((cell_of_row _ wr.heap.size 0 _ _ _ (heap_alloc_new wr _)).trans rfl); have n1 := pw_cell_below hb (v := (.int .i64 2)) ((cell_of_row _ wr.heap.size 1 _ _ _ (heap_alloc_new wr _)).trans rfl); have n2 := pw_cell_below hb (v := (.bool true)) ((cell_of_row _ wr.heap.size 2 _ _ _ (heap_alloc_new wr _)).trans rfl); have n3 := pw_cell_below hb (v := (.bool true)) ((cell_of_row _ wr.heap.size 3 _ _ _ (heap_alloc_new wr _)).trans rfl); have n4 := pw_cell_below hb (v := (.bool false)) ((cell_of_row _ wr.heap.size 4 _ _ _ (heap_alloc_new wr _)).trans rfl); have n5 := pw_cell_below hb (v := (.bool true)) ((cell_of_row _ wr.heap.size 5 _ _ _ (heap_alloc_new wr _)).trans rfl); have n6 := pw_cell_below hb (v := (.bool false)) ((cell_of_row _ wr.heap.size 6 _ _ _ (heap_alloc_new wr _)).trans rfl); have m0 := pw_cell_below hb (X0 _); have m1 := pw_cell_below hb (X1 _); have m2 := pw_cell_below hb (X2 _); have m3 := pw_cell_below hb (X3 _); have m4 := pw_cell_below hb (X4 _); have m5 := pw_cell_below hb (X5 _); have HB9 := Aside0.mk (below_step (HB.out.alloc HB.out.size _) hb); clear hb) | (go_at_call 95; refine (impl_dskForm_write.calls k (⟨#[114, 101, 112, 108, 121]⟩ : ByteArray) 2 true true false true false a0_0 a0_1 a0_2 a0_3 A0_4 c0_4 l0_4 a0_5 r _ (Kd.C_below HR.out HB9.out) HC.out H3.out (HG.out.toP.belowW HB9.out)).mono ?_; rintro e w10 ⟨rfl, hb⟩; have HB10 := Aside0.mk (below_step HB9.out hb); clear hb))
      go_ret
      exact ⟨rfl, HB10.out⟩
    ·
     have hix : ∀ W : World, (Instr.index 123 (.agg #[.string ⟨#[116, 105, 109, 101]⟩, .int .i64 4, .bool false, .bool false, .bool false, .bool false, .bool true, .string ⟨#[97, 115, 107]⟩, .int .i64 1, .bool true, .bool false, .bool true, .bool false, .bool false, .string ⟨#[114, 101, 112, 108, 121]⟩, .int .i64 2, .bool true, .bool true, .bool false, .bool true, .bool false, .string ⟨#[102, 97, 105, 108]⟩, .int .i64 3, .bool true, .bool true, .bool false, .bool false, .bool false]) (.int .i64 3)).run Tryd.prog W = .ok (.agg #[.string ⟨#[102, 97, 105, 108]⟩, .int .i64 3, .bool true, .bool true, .bool false, .bool false, .bool false]) W := fun W => (by kernel_rfl); have H2 := H.out
     rw [show gk = 1 by omega] at H2
     obtain ⟨b, hb0, H2⟩ := Option.bind_eq_some_iff.1 H2; have HF := Aside0.mk (show impl_dskForm_fits.f (⟨#[102, 97, 105, 108]⟩ : ByteArray) 3 true true false false false a0_0 a0_1 a0_2 a0_3 l0_4 a0_5 = some b from hb0); clear H hb0
     cases b with
     | false =>
      have H3 := Aside0.mk ((if_neg (by decide)).symm.trans H2); clear H2
      go_wp2_with (go_at_call 94; refine (impl_dskForm_fits.calls (⟨#[102, 97, 105, 108]⟩ : ByteArray) 3 true true false false false a0_0 a0_1 a0_2 a0_3 A0_4 c0_4 l0_4 a0_5 false _ (Kd.C_below HR.out (HB.out.alloc HB.out.size _)) HC.out HF.out).mono ?_; rintro e w9 ⟨rfl, hb⟩; have HB9 := Aside0.mk (below_step (HB.out.alloc HB.out.size _) hb); have HX9 := Aside0.mk (blk_below (g := b2) (o := .cells #[.int .i64 a0_0, .int .i64 a0_1, .string a0_2, .int .i64 a0_3, .slice A0_4 l0_4.length c0_4, .int .i64 a0_5] 65 (0, 0)) (blk_below HX.out ((Below.refl _ _).alloc (Nat.le_refl _) _)) hb); clear hb)
      go_roundg (gk - 1)
      case measure => omega
      case rel => exact ⟨4, by omega, by first | rfl | (simp; done) | (unfold wrap64; simp; omega), by rw [show gk - 1 = 0 by omega]; exact H3, HX9, HB9⟩
     | true =>
      have H3 := Aside0.mk (show impl_dskForm_write.f k (⟨#[102, 97, 105, 108]⟩ : ByteArray) 3 true true false false false a0_0 a0_1 a0_2 a0_3 l0_4 a0_5 = some r from (if_pos rfl).symm.trans H2); clear H2
      go_wp2_with (first | (go_at_call 94; refine (impl_dskForm_fits.calls (⟨#[102, 97, 105, 108]⟩ : ByteArray) 3 true true false false false a0_0 a0_1 a0_2 a0_3 A0_4 c0_4 l0_4 a0_5 true _ (Kd.C_below HR.out (HB.out.alloc HB.out.size _)) HC.out HF.out).mono ?_; rintro e w9 ⟨rfl, hb⟩; have n0 := pw_cell_below hb (v := (.string ⟨#[102, 97, 105, 108]⟩)) ((cell_of_row _ wr.heap.size 0 _ _ _ (heap_alloc_new wr _)).trans rfl); have n1 := pw_cell_below hb (v := (.int .i64 3)) ((cell_of_row _ wr.heap.size 1 _ _ _ (heap_alloc_new wr _)).trans rfl); have n2 := pw_cell_below hb (v := (.bool true)) ((cell_of_row _ wr.heap.size 2 _ _ _ (heap_alloc_new wr _)).trans rfl); have n3 := pw_cell_below hb (v := (.bool true)) ((cell_of_row _ wr.heap.size 3 _ _ _ (heap_alloc_new wr _)).trans rfl); have n4 := pw_cell_below hb (v := (.bool false)) ((cell_of_row _ wr.heap.size 4 _ _ _ (heap_alloc_new wr _)).trans rfl); have n5 := pw_cell_below hb (v := (.bool false)) ((cell_of_row _ wr.heap.size 5 _ _ _ (heap_alloc_new wr _)).trans rfl); have n6 := pw_cell_below hb (v := (.bool false)) ((cell_of_row _ wr.heap.size 6 _ _ _ (heap_alloc_new wr _)).trans rfl); have m0 := pw_cell_below hb (X0 _); have m1 := pw_cell_below hb (X1 _); have m2 := pw_cell_below hb (X2 _); have m3 := pw_cell_below hb (X3 _); have m4 := pw_cell_below hb (X4 _); have m5 := pw_cell_below hb (X5 _); have HB9 := Aside0.mk (below_step (HB.out.alloc HB.out.size _) hb); clear hb) | (go_at_call 95; refine (impl_dskForm_write.calls k (⟨#[102, 97, 105, 108]⟩ : ByteArray) 3 true true false false false a0_0 a0_1 a0_2 a0_3 A0_4 c0_4 l0_4 a0_5 r _ (Kd.C_below HR.out HB9.out) HC.out H3.out (HG.out.toP.belowW HB9.out)).mono ?_; rintro e w10 ⟨rfl, hb⟩; have HB10 := Aside0.mk (below_step HB9.out hb); clear hb))
      go_ret
      exact ⟨rfl, HB10.out⟩
  · obtain rfl : i = 4 := by omega
    have H2 := H.out
    rw [show gk = 0 by omega] at H2
    obtain rfl := Option.some.inj H2
    go_wp2
    go_ret
    exact ⟨rfl, HB.out⟩
end
section
open Go.Proofs.YtiihhjfdgojkeaaDoorW.PrintWords.Aside0 renaming mk → yaa
open Go.Proofs.YtiihhjfdgojkeaaDoorW.PrintWords renaming blk_cell → yab, pw_below_drewN → yac, below_drew1 → yad, below_alloc → yae

def laws_FnExactDskText.f (k : Nat) (a0_0 : Int) (a0_1 : Int) (a0_2 : ByteArray) (a0_3 : Int) (l0_4 : List Int) (a0_5 : Int) : Option (Bool) := (laws_szHouEvent.f a0_0 a0_1 a0_2 a0_3 l0_4 a0_5 1048576).bind fun t102 => (if t102 < 0 then (some true) else ((laws_toHouEvent.f k a0_0 a0_1 a0_2 a0_3 l0_4 a0_5).bind fun bt103 => ((spec_DskText.f k bt103.1 bt103.2.1 bt103.2.2.1 bt103.2.2.2.1 bt103.2.2.2.2.1 bt103.2.2.2.2.2).bind fun t111 => ((laws_toHouEvent.f k a0_0 a0_1 a0_2 a0_3 l0_4 a0_5).bind fun bt112 => ((impl_DskText.f k bt112.1 bt112.2.1 bt112.2.2.1 bt112.2.2.2.1 bt112.2.2.2.2.1 bt112.2.2.2.2.2).bind fun t121 => (if t121.toList = t111.toList then ((laws_toHouEvent.f k a0_0 a0_1 a0_2 a0_3 l0_4 a0_5).bind fun bt122 => ((laws_eqHouEvent.f k bt112.1 bt112.2.1 bt112.2.2.1 bt112.2.2.2.1 bt112.2.2.2.2.1 bt112.2.2.2.2.2 bt122.1 bt122.2.1 bt122.2.2.1 bt122.2.2.2.1 bt122.2.2.2.2.1 bt122.2.2.2.2.2).bind fun t130 => (if t130 = true then (some true) else (some false)))) else (some false)))))))
set_option maxHeartbeats 8000000 in
set_option maxRecDepth 100000 in
theorem laws_FnExactDskText.calls (k : Nat) (a0_0 : Int) (a0_1 : Int) (a0_2 : ByteArray) (a0_3 : Int) (A0_4 : Option Addr) (c0_4 : Nat) (l0_4 : List Int) (a0_5 : Int) (r : Bool) (w : World) (hr0_4 : Kd.C (Kd.int .u8) w A0_4 l0_4.length l0_4) (hc0_4 : l0_4.length ≤ c0_4) (h : laws_FnExactDskText.f k a0_0 a0_1 a0_2 a0_3 l0_4 a0_5 = some r) (hrt : r = true) (hG : GlobD w) :
  Calls Tryd.prog 11 #[.agg #[.int .i64 a0_0, .int .i64 a0_1, .string a0_2, .int .i64 a0_3, .slice A0_4 l0_4.length c0_4, .int .i64 a0_5]] w fun e w' => e = .returned (.bool r) ∧ Below w.heap.size w w' := by
 have HG := yaa hG; clear hG; have hu60 := Tryd.underlying60; have hu65 := Tryd.underlying65; have HR0_4 := yaa hr0_4; have HC0_4 := yaa hc0_4; clear hr0_4 hc0_4; have HB := yaa (Below.refl w.heap.size w); have H : ((laws_szHouEvent.f a0_0 a0_1 a0_2 a0_3 l0_4 a0_5 1048576).bind fun c6 => (if c6 < 0 then (some true) else ((laws_toHouEvent.f k a0_0 a0_1 a0_2 a0_3 l0_4 a0_5).bind fun c0 => ((spec_DskText.f k c0.1 c0.2.1 c0.2.2.1 c0.2.2.2.1 c0.2.2.2.2.1 c0.2.2.2.2.2).bind fun c9 => ((laws_toHouEvent.f k a0_0 a0_1 a0_2 a0_3 l0_4 a0_5).bind fun b1 => ((impl_DskText.f k b1.1 b1.2.1 b1.2.2.1 b1.2.2.2.1 b1.2.2.2.2.1 b1.2.2.2.2.2).bind fun d0 => (if d0.toList = c9.toList then ((laws_toHouEvent.f k a0_0 a0_1 a0_2 a0_3 l0_4 a0_5).bind fun c1 => ((laws_eqHouEvent.f k b1.1 b1.2.1 b1.2.2.1 b1.2.2.2.1 b1.2.2.2.2.1 b1.2.2.2.2.2 c1.1 c1.2.1 c1.2.2.1 c1.2.2.2.1 c1.2.2.2.2.1 c1.2.2.2.2.2).bind fun d3 => (if d3 = true then (some true) else (some false)))) else (some false)))))))) = some r := h; clear h; obtain ⟨c6, A2, H⟩ := bindA H; (try dsimp only at H)
 by_cases c3 : c6 < 0
 ·
  rw [if_pos c3] at H
  have k1 : decide (c6 < 0) = true := decide_eq_true c3; clear c3; obtain rfl := Option.some.inj H
  go_enter Tryd.func11, Tryd.ntmps11
  go_wp2_with (first | ((with_reducible refine gd_ 1 rfl ?_); refine bx_ 1 rfl #[.int .i64 a0_0, .int .i64 a0_1, .string a0_2, .int .i64 a0_3, .slice A0_4 l0_4.length c0_4, .int .i64 a0_5] 60 ?_; intro b2 hg w4 hbox hb; have a6 := yaa (hbox); have c8 := yaa ((by rw [hg]; exact (below_size (upH HB.out)) : w.heap.size ≤ b2)); replace HB := yaa (below_step (upH HB.out) hb); have e6 := c8; clear hb hbox hg; obtain ⟨k2, k3, k4, k5, k6, k7⟩ := cc6_ a6.out; obtain ⟨k8, k9, l0, l1, l2⟩ := cf5_ a6.out; have l3 := blk_frozen a6.out 5) | ((with_reducible refine gc_ 42 rfl ?_); refine gl_ (some 9) rfl Tryd.func42 #[.agg #[.int .i64 a0_0, .int .i64 a0_1, .string a0_2, .int .i64 a0_3, .slice A0_4 l0_4.length c0_4, .int .i64 a0_5], .int .i64 1048576] ?_; (with_reducible refine (laws_szHouEvent.calls a0_0 a0_1 a0_2 a0_3 _ _ l0_4 a0_5 1048576 c6 _ ?side1 ?side2 A2.out).mono ?_); (case side1 => repeat (first | exact (Kd.C_below HR0_4.out HB.out) | (with_reducible refine Kd.C_alloc ?_ _) | (with_reducible refine Kd.C_drewN ?_ _) | (with_reducible refine Kd.C_drew ?_))); (case side2 => exact HC0_4.out); rintro e w6 ⟨rfl, hb⟩; refine ⟨_, rfl, ?_⟩; replace a6 := yaa (blk_below (upB a6.out) hb); replace HB := yaa (below_step (by repeat (with_reducible first | exact HB.out | apply yae | apply yac | apply yad | refine below_set ?_ (Aside0.out ‹_›))) hb); (try clear hb)))
  go_ret
  exact ⟨by first | rfl | (simp [*, errW_none, errW_some] <;> rfl), by repeat (with_reducible first | exact HB.out | apply yae | apply yac | apply yad | refine below_set ?_ (Aside0.out ‹_›))⟩
 ·
  rw [if_neg c3] at H
  have k1 : decide (c6 < 0) = false := decide_eq_false c3; clear c3; obtain ⟨⟨d5, d6, d7, d8, d2, d9⟩, A7, H⟩ := bindA H; (try dsimp only at H); obtain ⟨c9, A8, H⟩ := bindA H; (try dsimp only at H); obtain ⟨⟨b3, b4, b5, b7, b8, b9⟩, A9, H⟩ := bindA H; (try dsimp only at H); obtain ⟨d0, A10, H⟩ := bindA H; (try dsimp only at H)
  by_cases c11 : d0.toList = c9.toList
  ·
   rw [if_pos c11] at H
   have e7 := beq_iff_eq.mpr c11; have e8 := bne_eq_false_iff_eq.mpr c11; clear c11; obtain ⟨⟨e0, e1, e2, e3, e4, e5⟩, A12, H⟩ := bindA H; (try dsimp only at H); obtain ⟨d3, A13, H⟩ := bindA H; (try dsimp only at H)
   by_cases c14 : d3 = true
   ·
    subst c14
    rw [if_pos rfl] at H
    obtain rfl := Option.some.inj H
    go_enter Tryd.func11, Tryd.ntmps11
    try go_wp2_with (first | ((with_reducible refine gd_ 1 rfl ?_); refine bx_ 1 rfl #[.int .i64 a0_0, .int .i64 a0_1, .string a0_2, .int .i64 a0_3, .slice A0_4 l0_4.length c0_4, .int .i64 a0_5] 60 ?_; intro b2 hg w15 hbox hb; have a6 := yaa (hbox); have c8 := yaa ((by rw [hg]; exact (below_size (upH HB.out)) : w.heap.size ≤ b2)); replace HB := yaa (below_step (upH HB.out) hb); have e6 := c8; clear hb hbox hg; obtain ⟨f3, f4, f5, f6, f7, f8⟩ := cc6_ a6.out; obtain ⟨f9, g0, g1, g2, g3⟩ := cf5_ a6.out; have g4 := blk_frozen a6.out 5) | ((with_reducible refine gc_ 42 rfl ?_); refine gl_ (some 9) rfl Tryd.func42 #[.agg #[.int .i64 a0_0, .int .i64 a0_1, .string a0_2, .int .i64 a0_3, .slice A0_4 l0_4.length c0_4, .int .i64 a0_5], .int .i64 1048576] ?_; (with_reducible refine (laws_szHouEvent.calls a0_0 a0_1 a0_2 a0_3 _ _ l0_4 a0_5 1048576 c6 _ ?side1 ?side2 A2.out).mono ?_); (case side1 => repeat (first | exact (Kd.C_below HR0_4.out HB.out) | (with_reducible refine Kd.C_alloc ?_ _) | (with_reducible refine Kd.C_drewN ?_ _) | (with_reducible refine Kd.C_drew ?_))); (case side2 => exact HC0_4.out); rintro e w17 ⟨rfl, hb⟩; refine ⟨_, rfl, ?_⟩; replace a6 := yaa (blk_below (upB a6.out) hb); replace HB := yaa (below_step (by repeat (with_reducible first | exact HB.out | apply yae | apply yac | apply yad | refine below_set ?_ (Aside0.out ‹_›))) hb); (try clear hb); obtain ⟨g5, g6, g7, g8, g9, h0⟩ := cc6_ a6.out; obtain ⟨h1, h2, h3, h4, h5⟩ := cf5_ a6.out; have h6 := blk_frozen a6.out 5) | ((with_reducible refine gc_ 44 rfl ?_); refine gl_ (some 13) rfl Tryd.func44 #[.agg #[.int .i64 a0_0, .int .i64 a0_1, .string a0_2, .int .i64 a0_3, .slice A0_4 l0_4.length c0_4, .int .i64 a0_5]] ?_; (with_reducible refine (laws_toHouEvent.calls k a0_0 a0_1 a0_2 a0_3 _ _ l0_4 a0_5 d5 d6 d7 d8 d2 d9 _ ?side1 ?side2 A7.out).mono ?_); (case side1 => repeat (first | exact (Kd.C_below HR0_4.out HB.out) | (with_reducible refine Kd.C_alloc ?_ _) | (with_reducible refine Kd.C_drewN ?_ _) | (with_reducible refine Kd.C_drew ?_))); (case side2 => exact HC0_4.out); rintro e w19 ⟨m1, rfl, ho0, hb⟩; refine ⟨_, rfl, ?_⟩; have a9 := yaa (Kd.R_lower ho0 (below_size (by repeat (with_reducible first | exact HB.out | apply yae | apply yac | apply yad | refine below_set ?_ (Aside0.out ‹_›))))); replace a6 := yaa (blk_below (upB a6.out) hb); replace HB := yaa (below_step (by repeat (with_reducible first | exact HB.out | apply yae | apply yac | apply yad | refine below_set ?_ (Aside0.out ‹_›))) hb); (try clear hb ho0); obtain ⟨e9, f0, l4⟩ := Kd.R_slice a9.out; subst l4) | ((with_reducible refine gc_ 43 rfl ?_); refine gl_ (some 14) rfl Tryd.func43 #[.agg #[.int .i64 d5, .int .i64 d6, .string d7, .int .i64 d8, .slice e9 d2.length f0, .int .i64 d9]] ?_; (with_reducible refine (spec_DskText.calls k d5 d6 d7 d8 _ _ d2 d9 c9 _ ?side1 ?side2 A8.out).mono ?_); (case side1 => repeat (first | exact (Kd.R_reads' a9.out).2.2 | (with_reducible refine Kd.C_alloc ?_ _) | (with_reducible refine Kd.C_drewN ?_ _) | (with_reducible refine Kd.C_drew ?_))); (case side2 => exact (Kd.R_reads' a9.out).2.1); rintro e w21 ⟨rfl, hb⟩; refine ⟨_, rfl, ?_⟩; replace a9 := yaa (Kd.R_below (upR a9.out) hb); replace a6 := yaa (blk_below (upB a6.out) hb); replace HB := yaa (below_step (by repeat (with_reducible first | exact HB.out | apply yae | apply yac | apply yad | refine below_set ?_ (Aside0.out ‹_›))) hb); (try clear hb); obtain ⟨h7, h8, h9, i0, i1, i2⟩ := cc6_ a6.out; obtain ⟨i3, i4, i5, i6, i7⟩ := cf5_ a6.out; have i8 := blk_frozen a6.out 5) | ((with_reducible refine gc_ 44 rfl ?_); refine gl_ (some 16) rfl Tryd.func44 #[.agg #[.int .i64 a0_0, .int .i64 a0_1, .string a0_2, .int .i64 a0_3, .slice A0_4 l0_4.length c0_4, .int .i64 a0_5]] ?_; (with_reducible refine (laws_toHouEvent.calls k a0_0 a0_1 a0_2 a0_3 _ _ l0_4 a0_5 b3 b4 b5 b7 b8 b9 _ ?side1 ?side2 A9.out).mono ?_); (case side1 => repeat (first | exact (Kd.C_below HR0_4.out HB.out) | (with_reducible refine Kd.C_alloc ?_ _) | (with_reducible refine Kd.C_drewN ?_ _) | (with_reducible refine Kd.C_drew ?_))); (case side2 => exact HC0_4.out); rintro e w23 ⟨m2, rfl, ho0, hb⟩; refine ⟨_, rfl, ?_⟩; have b0 := yaa (Kd.R_lower (Kd.R_new' ho0 (Kd.R_lt (upR a9.out))) (below_size (by repeat (with_reducible first | exact HB.out | apply yae | apply yac | apply yad | refine below_set ?_ (Aside0.out ‹_›))))); replace a9 := yaa (Kd.R_elder' (upR a9.out) (Kd.R_base ho0) hb); replace a6 := yaa (blk_below (upB a6.out) hb); replace HB := yaa (below_step (by repeat (with_reducible first | exact HB.out | apply yae | apply yac | apply yad | refine below_set ?_ (Aside0.out ‹_›))) hb); (try clear hb ho0)) | ((with_reducible refine gd_ 5 rfl ?_); refine bx_ 5 rfl #[.int .i64 0, .int .i64 0, .string (⟨#[]⟩ : ByteArray), .int .i64 0, .slice none 0 0, .int .i64 0] 65 ?_; intro a8 hg w24 hbox hb; replace a9 := yaa (Kd.R_below (upR a9.out) hb); replace b0 := yaa (Kd.R_below (upR b0.out) hb); have a7 := yaa (hbox); have f1 := yaa ((by rw [hg]; exact (below_size (by repeat (with_reducible first | exact HB.out | apply yae | apply yac | apply yad | refine below_set ?_ (Aside0.out ‹_›)))) : w.heap.size ≤ a8)); replace HB := yaa (below_step (by repeat (with_reducible first | exact HB.out | apply yae | apply yac | apply yad | refine below_set ?_ (Aside0.out ‹_›))) hb); have l8 := f1; have b6 := yaa ((by rw [hg]; exact Nat.ne_of_lt (blk_lt (upB a6.out)) : b2 ≠ a8)); replace a6 := yaa (blk_below (upB a6.out) hb); have c7 := yaa b6.out.symm; clear hb hbox hg; have l9 := c7.out; have m0 := b6.out; obtain ⟨i9, j0, j1, j2, j3, j4⟩ := cc6_ a7.out; obtain ⟨j5, j6, j7, j8, j9, k0⟩ := cf6_ a7.out; obtain ⟨c5, c4, l5⟩ := Kd.R_slice b0.out; subst l5) | ((with_reducible refine gc_ 45 rfl ?_); refine gl_ (some 18) rfl Tryd.func45 #[.agg #[.int .i64 b3, .int .i64 b4, .string b5, .int .i64 b7, .slice c5 b8.length c4, .int .i64 b9]] ?_; (with_reducible refine (impl_DskText.calls k b3 b4 b5 b7 _ _ b8 b9 d0 _ ?side1 ?side2 A10.out ?sideG).mono ?_); (case sideG => exact GlobD.belowW HG.out (by repeat (first | (with_reducible first | exact HB.out | apply yae | apply yac | apply yad | refine below_set ?_ (Aside0.out ‹_›)) | exact HB.out | exact Below.refl _ _))); (case side1 => refine (Kd.R_reads' (e := 5) (base := w.heap.size) (ok := fun k_ => (True ∧ some k_ ≠ (.slice e9 d2.length f0 : Value).ownBlock)) (n := b8.length) (c := c4) ?_).2.2; exact (by (with_reducible repeat (first | apply Kd.R_alloc | apply Kd.R_drewN | apply Kd.R_drew)); exact (Kd.R_mono (Kd.R_far (p := ⟨a8, 5, none⟩) (Kd.R_far (p := ⟨a8, 4, none⟩) (Kd.R_far (p := ⟨a8, 3, none⟩) (Kd.R_far (p := ⟨a8, 2, none⟩) (Kd.R_far (p := ⟨a8, 1, none⟩) (Kd.R_far (p := ⟨a8, 0, none⟩) (Kd.R_types b0.out a7.out (by decide)) (fun _ hk => hk.2) (.int .i64 b3)) (fun _ hk => hk.2) (.int .i64 b4)) (fun _ hk => hk.2) (.string b5)) (fun _ hk => hk.2) (.int .i64 b7)) (fun _ hk => hk.2) (.slice c5 b8.length c4)) (fun _ hk => hk.2) (.int .i64 b9)) (fun _ h_ => h_.1)))); (case side2 => exact (Kd.R_reads' b0.out).2.1); rintro e w28 ⟨rfl, hb⟩; refine ⟨_, rfl, ?_⟩; replace a9 := yaa (Kd.R_below (by (with_reducible repeat (first | apply Kd.R_alloc | apply Kd.R_drewN | apply Kd.R_drew)); exact (Kd.R_mono (Kd.R_far (p := ⟨a8, 5, none⟩) (Kd.R_far (p := ⟨a8, 4, none⟩) (Kd.R_far (p := ⟨a8, 3, none⟩) (Kd.R_far (p := ⟨a8, 2, none⟩) (Kd.R_far (p := ⟨a8, 1, none⟩) (Kd.R_far (p := ⟨a8, 0, none⟩) (Kd.R_types a9.out a7.out (by decide)) (fun _ hk => hk.2) (.int .i64 b3)) (fun _ hk => hk.2) (.int .i64 b4)) (fun _ hk => hk.2) (.string b5)) (fun _ hk => hk.2) (.int .i64 b7)) (fun _ hk => hk.2) (.slice c5 b8.length c4)) (fun _ hk => hk.2) (.int .i64 b9)) (fun _ h_ => h_.1))) hb); replace b0 := yaa (Kd.R_below (by (with_reducible repeat (first | apply Kd.R_alloc | apply Kd.R_drewN | apply Kd.R_drew)); exact (Kd.R_mono (Kd.R_far (p := ⟨a8, 5, none⟩) (Kd.R_far (p := ⟨a8, 4, none⟩) (Kd.R_far (p := ⟨a8, 3, none⟩) (Kd.R_far (p := ⟨a8, 2, none⟩) (Kd.R_far (p := ⟨a8, 1, none⟩) (Kd.R_far (p := ⟨a8, 0, none⟩) (Kd.R_types b0.out a7.out (by decide)) (fun _ hk => hk.2) (.int .i64 b3)) (fun _ hk => hk.2) (.int .i64 b4)) (fun _ hk => hk.2) (.string b5)) (fun _ hk => hk.2) (.int .i64 b7)) (fun _ hk => hk.2) (.slice c5 b8.length c4)) (fun _ hk => hk.2) (.int .i64 b9)) (fun _ h_ => h_.1))) hb); replace a6 := yaa (blk_below (g := b2) (o := .cells #[.int .i64 a0_0, .int .i64 a0_1, .string a0_2, .int .i64 a0_3, .slice A0_4 l0_4.length c0_4, .int .i64 a0_5] 60 (0, 0)) (by repeat (with_reducible first | exact a6.out | refine oneB ?_ | refine blk_far ?_ b6.out _)) hb); replace a7 := yaa (blk_below (g := a8) (o := .cells #[.int .i64 b3, .int .i64 b4, .string b5, .int .i64 b7, .slice c5 b8.length c4, .int .i64 b9] 65 (0, 0)) (by (repeat refine oneB ?_); refine blk_put (cs := #[.int .i64 b3, .int .i64 b4, .string b5, .int .i64 b7, .slice c5 b8.length c4, .int .i64 0]) ?_ 5 _ rfl; refine blk_put (cs := #[.int .i64 b3, .int .i64 b4, .string b5, .int .i64 b7, .slice none 0 0, .int .i64 0]) ?_ 4 _ rfl; refine blk_put (cs := #[.int .i64 b3, .int .i64 b4, .string b5, .int .i64 0, .slice none 0 0, .int .i64 0]) ?_ 3 _ rfl; refine blk_put (cs := #[.int .i64 b3, .int .i64 b4, .string (⟨#[]⟩ : ByteArray), .int .i64 0, .slice none 0 0, .int .i64 0]) ?_ 2 _ rfl; refine blk_put (cs := #[.int .i64 b3, .int .i64 0, .string (⟨#[]⟩ : ByteArray), .int .i64 0, .slice none 0 0, .int .i64 0]) ?_ 1 _ rfl; refine blk_put (cs := #[.int .i64 0, .int .i64 0, .string (⟨#[]⟩ : ByteArray), .int .i64 0, .slice none 0 0, .int .i64 0]) ?_ 0 _ rfl; exact upB a7.out) hb); replace HB := yaa (below_step (by repeat (with_reducible first | exact HB.out | apply yae | apply yac | apply yad | refine below_set ?_ (Aside0.out ‹_›))) hb); (try clear hb)))
    replace a9 := yaa (Kd.R_drew a9.out); replace b0 := yaa (Kd.R_drew b0.out); replace a6 := yaa (blk_drew a6.out); replace a7 := yaa (blk_drew a7.out); replace HB := yaa (yad HB.out)
    refine start_ (n := 5) (S := fun w' => w'.cell? ⟨a8, 0, none⟩ = some (.int .i64 b3) ∧ w'.cell? ⟨a8, 1, none⟩ = some (.int .i64 b4) ∧ w'.cell? ⟨a8, 2, none⟩ = some (.string b5) ∧ w'.cell? ⟨a8, 3, none⟩ = some (.int .i64 b7) ∧ w'.cell? ⟨a8, 4, none⟩ = some (.slice c5 b8.length c4) ∧ w'.cell? ⟨a8, 5, none⟩ = some (.int .i64 b9) ∧ w'.cell? ⟨b2, 0, none⟩ = some (.int .i64 a0_0) ∧ w'.cell? ⟨b2, 1, none⟩ = some (.int .i64 a0_1) ∧ w'.cell? ⟨b2, 2, none⟩ = some (.string a0_2) ∧ w'.cell? ⟨b2, 3, none⟩ = some (.int .i64 a0_3) ∧ w'.cell? ⟨b2, 4, none⟩ = some (.slice A0_4 l0_4.length c0_4) ∧ w'.cell? ⟨b2, 5, none⟩ = some (.int .i64 a0_5)) (ds := []) #[false, false, false, false, false] (by kernel_rfl) rfl rfl ⟨(yab a7.out 0).trans rfl, (yab a7.out 1).trans rfl, (yab a7.out 2).trans rfl, (yab a7.out 3).trans rfl, (yab a7.out 4).trans rfl, (yab a7.out 5).trans rfl, (yab a6.out 0).trans rfl, (yab a6.out 1).trans rfl, (yab a6.out 2).trans rfl, (yab a6.out 3).trans rfl, (yab a6.out 4).trans rfl, (yab a6.out 5).trans rfl⟩ (fun hHeld => ?_)
    generalize w28.drew = w29 at a9 b0 a6 a7 HB hHeld ⊢
    refine take_ (i := 0) (N := some 22) (v := ?_) (a' := ?_) #[true, false, false, false, false] rfl rfl (by kernel_rfl) (fun _ _ _ h => h) (Or.inl ⟨by rfl, ?_⟩) hHeld ?_ ?_
    rotate_left
    ·
     rintro w' ⟨s0, s1, s2, s3, s4, s5, s6, s7, s8, s9, s10, s11⟩
     go_simp
     with_reducible rfl
    rotate_left
    ·
     simp only [Act.put, List.setIfInBounds_toArray, List.set_cons_zero, List.set_cons_succ, i64_w, i32_w]
     rfl
    refine take_ (i := 1) (N := some 23) (v := ?_) (a' := ?_) #[true, true, false, false, false] rfl rfl (by kernel_rfl) (fun _ _ _ h => h) (Or.inl ⟨by rfl, ?_⟩) hHeld ?_ ?_
    rotate_left
    ·
     rintro w' ⟨s0, s1, s2, s3, s4, s5, s6, s7, s8, s9, s10, s11⟩
     go_simp
     with_reducible rfl
    rotate_left
    ·
     simp only [Act.put, List.setIfInBounds_toArray, List.set_cons_zero, List.set_cons_succ, i64_w, i32_w]
     rfl
    refine one_ (i := 2) (N := some 24) #[true, true, true, false, false] rfl rfl (by kernel_rfl) (by decide) (fun K hK => ?_)
    refine goes_ Tryd.func44 (by kernel_rfl) rfl #[.agg #[.int .i64 a0_0, .int .i64 a0_1, .string a0_2, .int .i64 a0_3, .slice A0_4 l0_4.length c0_4, .int .i64 a0_5]] (by rfl) rfl rfl (by (try simp only [List.map_toArray, List.map_cons, List.map_nil]); first | done | rfl | (simp only [List.length_drop, List.length_take]; rfl)) ?_
    with_reducible refine (laws_toHouEvent.calls k a0_0 a0_1 a0_2 a0_3 _ _ l0_4 a0_5 e0 e1 e2 e3 e4 e5 _ ?side1 ?side2 A12.out).mono ?_
    (case side1 => repeat (first | exact (Kd.C_below HR0_4.out HB.out) | (with_reducible refine Kd.C_alloc ?_ _) | (with_reducible refine Kd.C_drewN ?_ _) | (with_reducible refine Kd.C_drew ?_)))
    (case side2 => exact HC0_4.out)
    rintro e w30 ⟨m4, rfl, ho0, hb⟩; refine ⟨_, rfl, ?_⟩; have n0_ := yaa (Kd.R_elder' (upR a9.out) (Kd.R_base ho0) hb); have n1_ := yaa (Kd.R_elder' (upR b0.out) (Kd.R_base ho0) hb)
    have n2_ := yaa (Kd.R_lower (Kd.R_new' (Kd.R_new' ho0 (Kd.R_lt (upR a9.out))) (Kd.R_lt (upR b0.out))) (below_size (by repeat (with_reducible first | exact HB.out | apply yae | apply yac | apply yad | refine below_set ?_ (Aside0.out ‹_›)))))
    have n3_ := yaa (blk_below (upB a6.out) hb); have n4_ := yaa (blk_below (upB a7.out) hb)
    have n5_ := yaa (below_step (by repeat (with_reducible first | exact HB.out | apply yae | apply yac | apply yad | refine below_set ?_ (Aside0.out ‹_›))) hb)
    clear a9; clear b0; clear a6; clear a7; clear HB; have a9 := n0_; have b0 := n1_; have c2 := n2_; have a6 := n3_; have a7 := n4_; have HB := n5_; clear n0_ n1_ n2_ n3_ n4_ n5_; (try clear hb); (try clear hb2); (try clear hk); (try clear hi); (try clear ho0); obtain ⟨l6, l7, f2⟩ := Kd.R_slice c2.out
    (first | subst f2 | (injection f2 with f1_ f2_ f3_; have f4_ := f1_.symm; have f5_ := f3_.symm; clear f1_ f2_ f3_; subst f4_; subst f5_))
    refine hK.out _ _ ⟨(yab a7.out 0).trans rfl, (yab a7.out 1).trans rfl, (yab a7.out 2).trans rfl, (yab a7.out 3).trans rfl, (yab a7.out 4).trans rfl, (yab a7.out 5).trans rfl, (yab a6.out 0).trans rfl, (yab a6.out 1).trans rfl, (yab a6.out 2).trans rfl, (yab a6.out 3).trans rfl, (yab a6.out 4).trans rfl, (yab a6.out 5).trans rfl⟩ (fun hHeld => ?_)
    clear hK K
    refine norm_ (a' := ?_) ?_ ?_
    rotate_left
    ·
     show Act.put _ (some 24) _ = _
     simp only [Act.put, List.setIfInBounds_toArray, List.set_cons_zero, List.set_cons_succ, i64_w, i32_w]
     rfl
    refine one_ (i := 3) (N := some 25) #[true, true, true, true, false] rfl rfl (by kernel_rfl) (by decide) (fun K hK => ?_)
    refine goes_ Tryd.func46 (by kernel_rfl) rfl #[.agg #[.int .i64 b3, .int .i64 b4, .string b5, .int .i64 b7, .slice c5 b8.length c4, .int .i64 b9], .agg #[.int .i64 e0, .int .i64 e1, .string e2, .int .i64 e3, .slice l6 e4.length l7, .int .i64 e5]] (by rfl) rfl rfl (by (try simp only [List.map_toArray, List.map_cons, List.map_nil]); first | done | rfl | (simp only [List.length_drop, List.length_take]; rfl)) ?_
    with_reducible refine (laws_eqHouEvent.calls k b3 b4 b5 b7 _ _ b8 b9 e0 e1 e2 e3 _ _ e4 e5 true _ ?side1 ?side2 ?side3 ?side4 A13.out).mono ?_
    (case side1 => repeat (first | exact (Kd.R_reads' b0.out).2.2 | (with_reducible refine Kd.C_alloc ?_ _) | (with_reducible refine Kd.C_drewN ?_ _) | (with_reducible refine Kd.C_drew ?_)))
    (case side2 => exact (Kd.R_reads' b0.out).2.1)
    (case side3 => repeat (first | exact (Kd.R_reads' c2.out).2.2 | (with_reducible refine Kd.C_alloc ?_ _) | (with_reducible refine Kd.C_drewN ?_ _) | (with_reducible refine Kd.C_drew ?_)))
    (case side4 => exact (Kd.R_reads' c2.out).2.1)
    rintro e w32 ⟨rfl, hb⟩; refine ⟨_, rfl, ?_⟩; have n0_ := yaa (Kd.R_below (upR a9.out) hb); have n1_ := yaa (Kd.R_below (upR b0.out) hb); have n2_ := yaa (Kd.R_below (upR c2.out) hb); have n3_ := yaa (blk_below (upB a6.out) hb); have n4_ := yaa (blk_below (upB a7.out) hb)
    have n5_ := yaa (below_step (by repeat (with_reducible first | exact HB.out | apply yae | apply yac | apply yad | refine below_set ?_ (Aside0.out ‹_›))) hb)
    clear a9; clear b0; clear c2; clear a6; clear a7; clear HB; have a9 := n0_; have b0 := n1_; have c2 := n2_; have a6 := n3_; have a7 := n4_; have HB := n5_; clear n0_ n1_ n2_ n3_ n4_ n5_; (try clear hb); (try clear hb2); (try clear hk); (try clear hi)
    refine hK.out _ _ ⟨(yab a7.out 0).trans rfl, (yab a7.out 1).trans rfl, (yab a7.out 2).trans rfl, (yab a7.out 3).trans rfl, (yab a7.out 4).trans rfl, (yab a7.out 5).trans rfl, (yab a6.out 0).trans rfl, (yab a6.out 1).trans rfl, (yab a6.out 2).trans rfl, (yab a6.out 3).trans rfl, (yab a6.out 4).trans rfl, (yab a6.out 5).trans rfl⟩ (fun hHeld => ?_)
    clear hK K
    refine norm_ (a' := ?_) ?_ ?_
    rotate_left
    ·
     show Act.put _ (some 25) _ = _
     simp only [Act.put, List.setIfInBounds_toArray, List.set_cons_zero, List.set_cons_succ, i64_w, i32_w]
     rfl
    refine pure_ (i := 4) (N := some 26) (v := ?_) (a' := ?_) #[true, true, true, true, true] rfl rfl (by kernel_rfl) (fun _ _ _ h => h) (Or.inl ⟨by rfl, ?_⟩) ?_ ?_
    rotate_left
    ·
     intro w'
     go_simp
     with_reducible rfl
    rotate_left
    ·
     simp only [Act.put, List.setIfInBounds_toArray, List.set_cons_zero, List.set_cons_succ, i64_w, i32_w]
     rfl
    refine done_ (by kernel_rfl) ?_
    try go_wp2
    go_ret
    exact ⟨by first | rfl | (simp [*, errW_none, errW_some] <;> rfl), by repeat (with_reducible first | exact HB.out | apply yae | apply yac | apply yad | refine below_set ?_ (Aside0.out ‹_›))⟩
   ·
    replace c14 := Bool.eq_false_iff.mpr c14
    subst c14
    rw [if_neg (show ¬ (false = true) by decide)] at H
    rw [hrt] at H
    exact absurd H (by simp)
  ·
   rw [if_neg c11] at H
   have e7 := beq_eq_false_iff_ne.mpr c11; have e8 := bne_iff_ne.mpr c11
   rw [hrt] at H
   exact absurd H (by simp)
end
end Go.Proofs.YtiihhjfdgojkeaaDoor.X
namespace Go.Proofs.YtiihhjfdgojkeaaDoor.X
open Go.RowKit Go.Proofs.YtiihhjfdgojkeaaDoorW.PrintWords Go.Proofs.YtiihhjfdgojkeaaDoor.Opn
set_option linter.unusedVariables false
/-- What is to be shown of the law FnExactDskText, over data alone. -/
def laws_FnExactDskText.Pure : Prop := ∀ (a0_0 : Int) (a0_1 : Int) (a0_2 : ByteArray) (a0_3 : Int) (l0_4 : List Int) (a0_5 : Int), (Lit.int .i64 a0_0).wf = true → (Lit.int .i64 a0_1).wf = true → a0_2.size ≤ maxLen → (Lit.int .i64 a0_3).wf = true → l0_4.length ≤ maxLen → (∀ y ∈ l0_4, (Lit.int .u8 y).wf = true) → (Lit.int .i64 a0_5).wf = true → ∃ k, laws_FnExactDskText.f k a0_0 a0_1 a0_2 a0_3 l0_4 a0_5 = some true
end Go.Proofs.YtiihhjfdgojkeaaDoor.X
namespace Go.Proofs.YtiihhjfdgojkeaaDoor.Pl
open Go.RowKit Go.Proofs.YtiihhjfdgojkeaaDoorW.PrintWords

theorem wrap_id {x : Int} (h0 : -9223372036854775808 ≤ x) (h1 : x ≤ 9223372036854775807) : wrap64 x = x := by
  unfold wrap64; omega
theorem wrap_succ {i : Nat} (h : i < 9223372036854775807) : wrap64 ((i : Int) + 1) = ((i + 1 : Nat) : Int) := by
  unfold wrap64; omega

/-- From a round on: with a round more. -/
theorem ev_succ {α : Type} {g : Nat → Option α} {r : α} (h : Ev (fun k => g (k + 1)) r) : Ev g r := by
  obtain ⟨K, h⟩ := h
  refine ⟨K + 1, fun n hn => ?_⟩
  obtain ⟨m, rfl⟩ : ∃ m, n = m + 1 := ⟨n - 1, by omega⟩
  exact h m (by omega)

/-- A loop whose counter goes up to n: at each round it answers, or goes on. -/
theorem ev_up {α σ : Type} (n : Nat) (g : Nat → Int → σ → Option α) (Inv : Nat → σ → Prop) (post : α → Prop)
    (hstep : ∀ i s, i < n → Inv i s → (∃ s', Inv (i + 1) s' ∧ ∀ r, Ev (fun k => g k ((i + 1 : Nat) : Int) s') r → Ev (fun k => g k (i : Int) s) r) ∨ ∃ r, Ev (fun k => g k (i : Int) s) r ∧ post r)
    (hend : ∀ s, Inv n s → ∃ r, Ev (fun k => g k (n : Int) s) r ∧ post r) :
    ∀ i s, i ≤ n → Inv i s → ∃ r, Ev (fun k => g k (i : Int) s) r ∧ post r := by
  have key : ∀ d i s, i + d = n → Inv i s → ∃ r, Ev (fun k => g k (i : Int) s) r ∧ post r := by
    intro d
    induction d with
    | zero => intro i s hi hs; have : i = n := by omega
              subst this; exact hend s hs
    | succ d ih =>
      intro i s hi hs
      rcases hstep i s (by omega) hs with ⟨s', hs', hr⟩ | h
      · obtain ⟨r, h, hp⟩ := ih (i + 1) s' (by omega) hs'
        exact ⟨r, hr r h, hp⟩
      · exact h
  intro i s hi hs
  exact key (n - i) i s (by omega) hs

theorem rd_nat (l : List Int) (i : Nat) : rd l (i : Int) = l.getD i 0 := rfl
theorem set_take_next {α : Type} (l m : List α) (d : α) (i : Nat) (h : i < l.length) (hm : m.length = l.length) (ht : m.take i = l.take i) : (m.set i (l.getD i d)).take (i + 1) = l.take (i + 1) := by
  rw [List.take_succ_eq_append_getElem (by simpa [hm] using h), List.take_succ_eq_append_getElem h, List.take_set_of_le (Nat.le_refl i), ht]
  simp [List.getD_eq_getElem?_getD, h]

/-- A loop that fills a new row, element by element. -/
theorem ev_map {α β : Type} (c : α → β) (za : α) (zb : β) (l : List α) (g : Nat → Int → List β → Option (List β)) (hl : l.length ≤ 1048576)
    (hstep : ∀ i s, i < l.length → s.length = l.length → ∀ r, Ev (fun k => g k ((i + 1 : Nat) : Int) (s.set i (c (l.getD i za)))) r → Ev (fun k => g k (i : Int) s) r)
    (hend : ∀ k s, s.length = l.length → g (k + 1) (l.length : Int) s = some s) : Ev (fun k => g k 0 (List.replicate l.length zb)) (l.map c) := by
  obtain ⟨r, h, rfl⟩ := ev_up (α := List β) l.length (fun k i s => g k i s) (fun i s => s.length = l.length ∧ s.take i = (l.map c).take i) (fun r => r = l.map c) (by
    rintro i s hi ⟨h1, h2⟩
    refine Or.inl ⟨s.set i (c (l.getD i za)), ⟨by simpa using h1, ?_⟩, hstep i s hi h1⟩
    have := set_take_next (l.map c) s (c za) i (by simpa using hi) (by simpa using h1) h2
    have e : (l.map c).getD i (c za) = c (l.getD i za) := by
      simp [List.getD_eq_getElem?_getD, List.getElem?_eq_getElem hi]
    rw [e] at this
    exact this) (by
    rintro s ⟨h1, h2⟩
    refine ⟨l.map c, ev_succ ⟨0, fun k _ => ?_⟩, rfl⟩
    rw [List.take_of_length_le (by omega), List.take_of_length_le (by simp)] at h2
    show g (k + 1) (l.length : Int) s = _
    rw [hend k s h1, h2]) 0 (List.replicate l.length zb) (by omega) ⟨by simp, by simp⟩
  exact h

/-- A loop that says yes at its end, if it goes on at each round. -/
theorem ev_all (n : Nat) (g : Nat → Int → Option Bool) (hstep : ∀ i, i < n → Ev (fun k => g k ((i + 1 : Nat) : Int)) true → Ev (fun k => g k (i : Int)) true) (hend : ∀ k, g (k + 1) (n : Int) = some true) : Ev (fun k => g k 0) true := by
  have : ∀ d j, j + d = n → Ev (fun k => g k (j : Int)) true := by
    intro d
    induction d with
    | zero => intro j hj; have : j = n := by omega
              subst this; exact ev_succ ⟨0, fun k _ => hend k⟩
    | succ d ih => intro j hj; exact hstep j (by omega) (ih (j + 1) (by omega))
  exact this n 0 (by omega)

/-- From a number of rounds on, through a step. -/
theorem Ev.at_ {α : Type} {g : Nat → Option α} {r : α} (h : Ev g r) : ∃ K, ∀ k, K ≤ k → g k = some r := h
theorem ev_const {α : Type} {x : Option α} {r : α} (h : x = some r) : Ev (fun _ => x) r := ⟨0, fun _ _ => h⟩

/-! ### What a told function comes to, from some number of rounds on -/
/-- It answers, and the answer is so. -/
def Tot {α : Type} (g : Nat → Option α) (post : α → Prop) : Prop := ∃ r, Ev g r ∧ post r
theorem Tot.ret {α : Type} {post : α → Prop} {r : α} (h : post r) : Tot (fun _ => some r) post := ⟨r, Ev.now r, h⟩
theorem Tot.mono {α : Type} {g : Nat → Option α} {P Q : α → Prop} (h : Tot g P) (hi : ∀ r, P r → Q r) : Tot g Q := by
  obtain ⟨r, h, hp⟩ := h
  exact ⟨r, h, hi r hp⟩
theorem Tot.bind {α β : Type} {g : Nat → Option α} {f : Nat → α → Option β} {P : α → Prop} {Q : β → Prop} (h : Tot g P) (hf : ∀ a, P a → Tot (fun k => f k a) Q) : Tot (fun k => (g k).bind (f k)) Q := by
  obtain ⟨a, h, hp⟩ := h
  obtain ⟨r, h2, hq⟩ := hf a hp
  exact ⟨r, Ev.bind h h2, hq⟩
theorem Tot.some_bind {α β : Type} {f : Nat → α → Option β} {Q : β → Prop} {a : α} (hf : Tot (fun k => f k a) Q) : Tot (fun k => (some a).bind (f k)) Q := hf
theorem Tot.ite {α : Type} {c : Prop} [Decidable c] {f g : Nat → Option α} {Q : α → Prop} (h1 : c → Tot f Q) (h2 : ¬ c → Tot g Q) : Tot (fun k => if c then f k else g k) Q := by
  by_cases h : c
  · simpa [h] using h1 h
  · simpa [h] using h2 h
theorem Tot.pos {α : Type} {c : Prop} [Decidable c] {f g : Nat → Option α} {Q : α → Prop} (h : c) (h1 : Tot f Q) : Tot (fun k => if c then f k else g k) Q := by simpa [h] using h1
theorem Tot.neg {α : Type} {c : Prop} [Decidable c] {f g : Nat → Option α} {Q : α → Prop} (h : ¬ c) (h1 : Tot g Q) : Tot (fun k => if c then f k else g k) Q := by simpa [h] using h1
theorem Tot.succ {α : Type} {g : Nat → Option α} {Q : α → Prop} (h : Tot (fun k => g (k + 1)) Q) : Tot g Q := by
  obtain ⟨r, h, hp⟩ := h
  exact ⟨r, ev_succ h, hp⟩
theorem Tot.of_ev {α : Type} {g : Nat → Option α} {r : α} (h : Ev g r) : Tot g (fun x => x = r) := ⟨r, h, rfl⟩
theorem Tot.of_eq {α : Type} {x : Option α} {r : α} (h : x = some r) : Tot (fun _ => x) (fun y => y = r) := ⟨r, ev_const h, rfl⟩
theorem Tot.rounds {g : Nat → Option Bool} (h : Tot g (fun b => b = true)) : ∃ k, g k = some true := by
  obtain ⟨r, h, rfl⟩ := h
  exact h.rounds

end Go.Proofs.YtiihhjfdgojkeaaDoor.Pl
namespace Go.Proofs.YtiihhjfdgojkeaaDoor.X
open Go.RowKit Go.Proofs.YtiihhjfdgojkeaaDoorW.PrintWords Go.Proofs.YtiihhjfdgojkeaaDoor.Pl
set_option linter.unusedSimpArgs false

theorem l1In_some (a b c : Int) : spec_l1In.f a b c = some (decide (b ≤ a ∧ a ≤ c)) := by
  unfold spec_l1In.f
  by_cases h : b ≤ a <;> simp [h]
theorem within_some (a b c : Int) : impl_within.f a b c = some (decide (b ≤ a ∧ a ≤ c)) := by
  unfold impl_within.f
  by_cases h : b ≤ a <;> simp [h]

abbrev Op := S25

end Go.Proofs.YtiihhjfdgojkeaaDoor.X
namespace Go.Proofs.YtiihhjfdgojkeaaDoor.X
open Go.RowKit Go.Proofs.YtiihhjfdgojkeaaDoorW.PrintWords Go.Proofs.YtiihhjfdgojkeaaDoorW.PrintLast Go.Proofs.YtiihhjfdgojkeaaDoorW.PrintMore
attribute [local go_sem] max2_int min2_int max_two min_two max_three min_three max_four min_four
set_option linter.unusedVariables false
set_option linter.unusedSimpArgs false

section
def okI (n : Int) : Prop := -9223372036854775808 ≤ n ∧ n ≤ 9223372036854775807
instance (n : Int) : Decidable (okI n) := inferInstanceAs (Decidable (_ ∧ _))
end
end Go.Proofs.YtiihhjfdgojkeaaDoor.X
namespace Go.Proofs.YtiihhjfdgojkeaaDoor.X
open Go.RowKit Go.Proofs.YtiihhjfdgojkeaaDoorW.PrintWords Go.Proofs.YtiihhjfdgojkeaaDoor.Pl
set_option linter.unusedSimpArgs false
set_option linter.unusedVariables false
theorem wr_id {x : Int} (h0 : -9223372036854775808 ≤ x) (h1 : x ≤ 9223372036854775807) : wrap64 x = x := by unfold wrap64; omega
theorem digit_str (d : Nat) (h : d < 10) : strOfNums [(wrap64 (48 + (d : Int))) % 256] = ⟨#[UInt8.ofNat (48 + d)]⟩ := by
  rw [wr_id (by omega) (by omega), show (48 + (d : Int)) % 256 = ((48 + d : Nat) : Int) by omega]
  unfold strOfNums
  rfl
/-- A number's digits, ahead of what stands behind them. -/
theorem plain_tot (n : Nat) : n ≤ 9223372036854775807 → ∀ x3 : ByteArray, x3.size + Lib.nDigits n ≤ 9223372036854775807 → Tot (fun k => spec_l7Plain.l0 k (n : Int) x3) (fun r => r = ⟨(Lib.decDigits n).toArray⟩ ++ x3) := by
  induction n using Nat.strongRecOn with
  | _ n ih =>
    intro hn x3 hx
    refine Tot.succ ?_
    simp only [spec_l7Plain.l0]
    by_cases h : n < 10
    · refine Tot.neg (by omega) (Tot.some_bind ?_)
      rw [digit_str n h]
      rw [Lib.nDigits_small h] at hx
      refine Tot.pos ?_ (Tot.ret ?_)
      · show 1 + x3.size ≤ _
        omega
      · rw [Lib.decDigits_one h]
    · refine Tot.pos (by omega) (Tot.some_bind ?_)
      rw [show Int.tmod (n : Int) 10 = ((n % 10 : Nat) : Int) from (Int.ofNat_tmod n 10).symm, digit_str _ (by omega), show Int.tdiv (n : Int) 10 = ((n / 10 : Nat) : Int) from (Int.ofNat_tdiv n 10).symm, wr_id (by omega) (by omega)]
      rw [Lib.nDigits_big h] at hx
      have hp := Lib.nDigits_pos (n / 10)
      refine Tot.pos ?_ ?_
      · show 1 + x3.size ≤ _
        omega
      · refine Tot.mono (ih (n / 10) (by omega) (by omega) _ ?_) ?_
        · rw [ByteArray.size_append]
          show 1 + x3.size + _ ≤ _
          omega
        · rintro r rfl
          rw [Lib.decDigits.eq_def n, dif_neg h, ← ByteArray.append_assoc]
          congr 1
theorem plainF_tot (n : Nat) (hn : n ≤ 9223372036854775807) : Tot (fun k => spec_l7Plain.f k (n : Int)) (fun r => r = ⟨(Lib.itoa (n : Int)).toArray⟩) := by
  have h := Lib.itoa_length_le (n : Int) (by omega) (by omega)
  rw [Lib.itoa_nonneg, Lib.decDigits_length] at h
  refine Tot.mono (plain_tot n hn ⟨#[]⟩ (by show 0 + _ ≤ _; omega)) ?_
  rintro r rfl
  rw [Lib.itoa_nonneg]
  exact ByteArray.append_empty
end Go.Proofs.YtiihhjfdgojkeaaDoor.X
namespace Go.Proofs.YtiihhjfdgojkeaaDoor.X
open Go.RowKit Go.Proofs.YtiihhjfdgojkeaaDoorW.PrintWords Go.Proofs.YtiihhjfdgojkeaaDoor.Pl
set_option linter.unusedSimpArgs false
set_option linter.unusedVariables false
def hexD : ByteArray := ⟨#[48, 49, 50, 51, 52, 53, 54, 55, 56, 57, 97, 98, 99, 100, 101, 102]⟩
def hexd (n : Nat) : UInt8 := if n < 10 then UInt8.ofNat (48 + n) else UInt8.ofNat (87 + n)
/-- Two digits for each byte. -/
def hexL (l : List Int) : List UInt8 := l.flatMap fun b => [hexd (b.toNat / 16), hexd (b.toNat % 16)]
def hexF (l : List Int) : ByteArray := ⟨(hexL l).toArray⟩
theorem hexL_len (l : List Int) : (hexL l).length = 2 * l.length := by
  induction l with
  | nil => rfl
  | cons b l ih =>
    have : hexL (b :: l) = hexd (b.toNat / 16) :: hexd (b.toNat % 16) :: hexL l := rfl
    rw [this, List.length_cons, List.length_cons, ih, List.length_cons]
    omega
theorem hexF_size (l : List Int) : (hexF l).size = 2 * l.length := by
  show (hexL l).toArray.size = _
  rw [List.size_toArray, hexL_len]
theorem hx_impl : ∀ b : Fin 256, bt hexD ((b.val : Int) / 16) = ((hexd (b.val / 16)).toNat : Int) ∧ bt hexD (Go.bits .and .u8 (b.val : Int) 15) = ((hexd (b.val % 16)).toNat : Int) ∧ 0 ≤ Go.bits .and .u8 (b.val : Int) 15 ∧ Go.bits .and .u8 (b.val : Int) 15 < 16 := by decide +kernel
theorem hx_spec : ∀ b : Fin 256, hexD.extract ((Int.tdiv (b.val : Int) 16) % 256).toNat (((Int.tdiv (b.val : Int) 16) % 256 + 1) % 256).toNat = ⟨#[hexd (b.val / 16)]⟩ ∧ hexD.extract (Int.tmod (b.val : Int) 16).toNat ((Int.tmod (b.val : Int) 16 + 1) % 256).toNat = ⟨#[hexd (b.val % 16)]⟩ := by decide +kernel
theorem rd_in {l : List Int} (hb : ∀ y ∈ l, 0 ≤ y ∧ y ≤ 255) (i : Nat) (h : i < l.length) : ∃ b : Fin 256, rd l (i : Int) = (b.val : Int) ∧ l.drop i = (b.val : Int) :: l.drop (i + 1) := by
  have hm := hb l[i] (List.getElem_mem h)
  refine ⟨⟨l[i].toNat, by omega⟩, ?_, ?_⟩
  · rw [rd_nat, List.getD_eq_getElem?_getD, List.getElem?_eq_getElem h]
    show l[i] = _
    dsimp only
    omega
  · rw [List.drop_eq_getElem_cons h]
    congr 1
    dsimp only
    omega
theorem spec_hex_tot (l : List Int) (hb : ∀ y ∈ l, 0 ≤ y ∧ y ≤ 255) (hl : l.length ≤ 1000000000000) : ∀ e i, i + e = l.length → ∀ x3 : ByteArray, x3.size ≤ 2 * i → Tot (fun k => spec_HexText.l0 k l x3 i) (fun r => r = x3 ++ hexF (l.drop i))
  | 0, i, h, x3, hx => by
    refine Tot.succ ?_
    simp only [spec_HexText.l0]
    refine Tot.neg (by omega) (Tot.ret ?_)
    rw [List.drop_of_length_le (by omega)]
    exact ByteArray.append_empty.symm
  | e + 1, i, h, x3, hx => by
    obtain ⟨b, h1, h2⟩ := rd_in hb i (by omega)
    obtain ⟨s1, s2⟩ := hx_spec b
    have hb2 := b.isLt
    have q1 : Int.tdiv (b.val : Int) 16 = ((b.val / 16 : Nat) : Int) := (Int.ofNat_tdiv b.val 16).symm
    have q2 : Int.tmod (b.val : Int) 16 = ((b.val % 16 : Nat) : Int) := (Int.ofNat_tmod b.val 16).symm
    refine Tot.succ ?_
    simp only [spec_HexText.l0, h1]
    rw [show (⟨#[48, 49, 50, 51, 52, 53, 54, 55, 56, 57, 97, 98, 99, 100, 101, 102]⟩ : ByteArray) = hexD from rfl, s1, s2, q1, q2]
    refine Tot.pos (by omega) (Tot.pos (by omega) (Tot.pos (by omega) (Tot.pos (by omega) (Tot.pos (by omega) (Tot.pos ?_ (Tot.pos (by omega) (Tot.pos (by omega) (Tot.pos (by omega) (Tot.pos ?_ ?_)))))))))
    · show _ + 1 ≤ _; omega
    · rw [ByteArray.size_append]; show _ + 1 + 1 ≤ _; omega
    · rw [show wrap64 ((i : Int) + 1) = ((i + 1 : Nat) : Int) by rw [wrap_id (by omega) (by omega)]; rfl]
      refine Tot.mono (spec_hex_tot l hb hl e (i + 1) (by omega) _ ?_) ?_
      · rw [ByteArray.size_append, ByteArray.size_append]; show _ + 1 + 1 ≤ _; omega
      · rintro r rfl
        rw [h2, ByteArray.append_assoc, ByteArray.append_assoc]
        congr 1
theorem spec_HexText_tot (l : List Int) (hb : ∀ y ∈ l, 0 ≤ y ∧ y ≤ 255) (hl : l.length ≤ 1000000000000) : Tot (fun k => spec_HexText.f k l) (fun r => r = hexF l) := by
  unfold spec_HexText.f
  refine Tot.mono (spec_hex_tot l hb hl l.length 0 (by omega) ⟨#[]⟩ (by show 0 ≤ _; omega)) ?_
  rintro r rfl
  rw [List.drop_zero]
  exact ByteArray.empty_append
def hexN (l : List Int) : List Int := (hexL l).map fun u => (u.toNat : Int)
theorem hexN_str (l : List Int) : strOfNums (hexN l) = hexF l := by
  have h : (strOfNums (hexN l)).data.toList = (hexF l).data.toList := by
    rw [← Lib.toList_data, Lib.strOfNums_toList]
    show ((hexL l).map _).map _ = hexL l
    rw [List.map_map]
    refine (List.map_congr_left (g := id) (fun u _ => ?_)).trans (List.map_id _)
    show UInt8.ofNat ((u.toNat : Int)).toNat = u
    rw [Int.toNat_natCast, UInt8.ofNat_toNat]
  cases hA : strOfNums (hexN l) with
  | mk A =>
    rw [hA] at h
    exact congrArg ByteArray.mk (Array.toList_inj.1 h)
theorem impl_hex_tot (l : List Int) (hb : ∀ y ∈ l, 0 ≤ y ∧ y ≤ 255) (hl : l.length ≤ 1000000000000) : ∀ e i, i + e = l.length → ∀ x3 : List Int, x3.length ≤ 2 * i → Tot (fun k => impl_HexText.l0 k x3 l l.length i) (fun r => r = strOfNums (x3 ++ hexN (l.drop i)))
  | 0, i, h, x3, hx => by
    refine Tot.succ ?_
    simp only [impl_HexText.l0]
    refine Tot.neg (by omega) (Tot.ret ?_)
    rw [List.drop_of_length_le (by omega)]
    show _ = strOfNums (x3 ++ [])
    rw [List.append_nil]
  | e + 1, i, h, x3, hx => by
    obtain ⟨b, h1, h2⟩ := rd_in hb i (by omega)
    obtain ⟨s1, s2, s3, s4⟩ := hx_impl b
    have hb2 := b.isLt
    refine Tot.succ ?_
    simp only [impl_HexText.l0, h1]
    rw [show (⟨#[48, 49, 50, 51, 52, 53, 54, 55, 56, 57, 97, 98, 99, 100, 101, 102]⟩ : ByteArray) = hexD from rfl, s1, s2]
    refine Tot.pos (by omega) (Tot.pos (by omega) (Tot.pos (by omega) (Tot.pos (by omega) (Tot.pos (by omega) (Tot.pos s3 (Tot.pos s4 (Tot.some_bind (Tot.pos ?_ ?_))))))))
    · simp; omega
    · rw [show wrap64 ((i : Int) + 1) = ((i + 1 : Nat) : Int) by rw [wrap_id (by omega) (by omega)]; rfl]
      refine Tot.mono (impl_hex_tot l hb hl e (i + 1) (by omega) _ ?_) ?_
      · simp; omega
      · rintro r rfl
        rw [h2, List.append_assoc]
        rfl
theorem impl_HexText_tot (l : List Int) (hb : ∀ y ∈ l, 0 ≤ y ∧ y ≤ 255) (hl : l.length ≤ 1000000000000) : Tot (fun k => impl_HexText.f k l) (fun r => r = hexF l) := by
  unfold impl_HexText.f
  rw [wrap_id (by omega) (by omega)]
  refine Tot.pos (by omega) (Tot.pos (by omega) ?_)
  refine Tot.mono (impl_hex_tot l hb hl l.length 0 (by omega) [] (by simp)) ?_
  rintro r rfl
  rw [List.drop_zero, List.nil_append, hexN_str]
end Go.Proofs.YtiihhjfdgojkeaaDoor.X
namespace Go.Proofs.YtiihhjfdgojkeaaDoor.X
open Go.RowKit Go.Proofs.YtiihhjfdgojkeaaDoorW.PrintWords Go.Proofs.YtiihhjfdgojkeaaDoor.Pl
set_option linter.unusedSimpArgs false
set_option linter.unusedVariables false
theorem bb_ext {a b : ByteArray} (h : a.data.toList = b.data.toList) : a = b := by
  obtain ⟨a⟩ := a; obtain ⟨b⟩ := b
  exact congrArg ByteArray.mk (Array.toList_inj.1 h)
theorem bb_app (a b : ByteArray) : (a ++ b).data.toList = a.data.toList ++ b.data.toList := by
  rw [ByteArray.data_append, Array.toList_append]
theorem itoa_size (n : Int) : (⟨(Lib.itoa n).toArray⟩ : ByteArray).size = (Lib.itoa n).length := by
  show (Lib.itoa n).toArray.size = _
  rw [List.size_toArray]
theorem sz0 : (⟨#[116, 105, 109, 101, 32]⟩ : ByteArray).size = 5 := rfl
theorem sz1 : (⟨#[97, 115, 107, 32]⟩ : ByteArray).size = 4 := rfl
theorem sz2 : (⟨#[114, 101, 112, 108, 121, 32]⟩ : ByteArray).size = 6 := rfl
theorem sz3 : (⟨#[102, 97, 105, 108, 32]⟩ : ByteArray).size = 5 := rfl
theorem sz4 : (⟨#[116, 105, 109, 101]⟩ : ByteArray).size = 4 := rfl
theorem sz5 : (⟨#[97, 115, 107]⟩ : ByteArray).size = 3 := rfl
theorem sz6 : (⟨#[114, 101, 112, 108, 121]⟩ : ByteArray).size = 5 := rfl
theorem sz7 : (⟨#[102, 97, 105, 108]⟩ : ByteArray).size = 4 := rfl
theorem sz8 : (⟨#[32]⟩ : ByteArray).size = 1 := rfl
def dsk2 (who kind : Int) (text : ByteArray) (id : Int) (data : List Int) (at_ : Int) : ByteArray := if 0 ≤ who ∧ who ≤ 2 ∧ 0 ≤ id ∧ id ≤ 9999 then (if kind = 1 then ((((⟨#[97, 115, 107, 32]⟩ : ByteArray) ++ (⟨(Lib.itoa who).toArray⟩ : ByteArray)) ++ (⟨#[32]⟩ : ByteArray)) ++ text) else if kind = 2 then ((((((⟨#[114, 101, 112, 108, 121, 32]⟩ : ByteArray) ++ (⟨(Lib.itoa who).toArray⟩ : ByteArray)) ++ (⟨#[32]⟩ : ByteArray)) ++ (⟨(Lib.itoa id).toArray⟩ : ByteArray)) ++ (⟨#[32]⟩ : ByteArray)) ++ hexF data) else if kind = 3 then ((((⟨#[102, 97, 105, 108, 32]⟩ : ByteArray) ++ (⟨(Lib.itoa who).toArray⟩ : ByteArray)) ++ (⟨#[32]⟩ : ByteArray)) ++ (⟨(Lib.itoa id).toArray⟩ : ByteArray)) else ⟨#[]⟩) else ⟨#[]⟩
/-- The line of what happens. -/
def dskF (who kind : Int) (text : ByteArray) (id : Int) (data : List Int) (at_ : Int) : ByteArray := if who = -1 ∧ kind = 4 ∧ 0 ≤ at_ ∧ at_ ≤ 9999 then (⟨#[116, 105, 109, 101, 32]⟩ : ByteArray) ++ (⟨(Lib.itoa at_).toArray⟩ : ByteArray) else dsk2 who kind text id data at_
theorem plainI_tot (n : Int) (h0 : 0 ≤ n) (h1 : n ≤ 9999) : Tot (fun k => spec_l7Plain.f k n) (fun r => r = ⟨(Lib.itoa n).toArray⟩) := by
  obtain ⟨m, rfl⟩ := Int.eq_ofNat_of_zero_le h0
  exact plainF_tot m (by omega)
theorem itoa_len {n : Int} (h0 : 0 ≤ n) (h1 : n ≤ 9999) : (Lib.itoa n).length ≤ 21 := Lib.itoa_length_le n (by omega) (by omega)
theorem spec_dj1 (who kind : Int) (text : ByteArray) (id : Int) (data : List Int) (at_ : Int) (b : Bool) (hb : b = false → 0 ≤ who ∧ who ≤ 2 ∧ 0 ≤ id ∧ id ≤ 9999) (hn : b = true → ¬ (0 ≤ who ∧ who ≤ 2 ∧ 0 ≤ id ∧ id ≤ 9999)) (ht : text.size ≤ 1048576) (hd : data.length ≤ 1048576) (hdb : ∀ y ∈ data, 0 ≤ y ∧ y ≤ 255) : Tot (fun k => spec_DskText.j1 k b who kind text id data at_) (fun r => r = dsk2 who kind text id data at_) := by
  refine Tot.succ ?_
  simp only [spec_DskText.j1]
  unfold dsk2
  cases b with
  | true =>
    rw [if_neg (hn rfl)]
    exact Tot.pos (by first | rfl | trivial) (Tot.ret rfl)
  | false =>
    obtain ⟨w0, w1, d0, d1⟩ := hb rfl
    have lw := itoa_len (n := who) w0 (by omega)
    have ld := itoa_len (n := id) d0 d1
    rw [if_pos ⟨w0, w1, d0, d1⟩]
    refine Tot.neg (by decide) (Tot.bind (plainI_tot who w0 (by omega)) ?_); rintro _ rfl
    by_cases k1 : kind = 1
    · rw [if_pos k1]
      exact Tot.pos k1 (Tot.pos (by (try simp only [ByteArray.size_append, itoa_size, hexF_size, sz0, sz1, sz2, sz3, sz4, sz5, sz6, sz7, sz8]); omega) (Tot.pos (by (try simp only [ByteArray.size_append, itoa_size, hexF_size, sz0, sz1, sz2, sz3, sz4, sz5, sz6, sz7, sz8]); omega) (Tot.pos (by (try simp only [ByteArray.size_append, itoa_size, hexF_size, sz0, sz1, sz2, sz3, sz4, sz5, sz6, sz7, sz8]); omega) (Tot.ret rfl))))
    rw [if_neg k1]
    refine Tot.neg k1 ?_
    by_cases k2 : kind = 2
    · rw [if_pos k2]
      refine Tot.pos k2 (Tot.pos (by (try simp only [ByteArray.size_append, itoa_size, hexF_size, sz0, sz1, sz2, sz3, sz4, sz5, sz6, sz7, sz8]); omega) (Tot.pos (by (try simp only [ByteArray.size_append, itoa_size, hexF_size, sz0, sz1, sz2, sz3, sz4, sz5, sz6, sz7, sz8]); omega) (Tot.bind (plainI_tot id d0 d1) ?_))); rintro _ rfl
      refine Tot.pos (by (try simp only [ByteArray.size_append, itoa_size, hexF_size, sz0, sz1, sz2, sz3, sz4, sz5, sz6, sz7, sz8]); omega) (Tot.pos (by (try simp only [ByteArray.size_append, itoa_size, hexF_size, sz0, sz1, sz2, sz3, sz4, sz5, sz6, sz7, sz8]); omega) (Tot.bind (spec_HexText_tot data hdb (by omega)) ?_)); rintro _ rfl
      exact Tot.pos (by (try simp only [ByteArray.size_append, itoa_size, hexF_size, sz0, sz1, sz2, sz3, sz4, sz5, sz6, sz7, sz8]); omega) (Tot.ret rfl)
    rw [if_neg k2]
    refine Tot.neg k2 ?_
    by_cases k3 : kind = 3
    · rw [if_pos k3]
      refine Tot.pos k3 (Tot.pos (by (try simp only [ByteArray.size_append, itoa_size, hexF_size, sz0, sz1, sz2, sz3, sz4, sz5, sz6, sz7, sz8]); omega) (Tot.pos (by (try simp only [ByteArray.size_append, itoa_size, hexF_size, sz0, sz1, sz2, sz3, sz4, sz5, sz6, sz7, sz8]); omega) (Tot.bind (plainI_tot id d0 d1) ?_))); rintro _ rfl
      exact Tot.pos (by (try simp only [ByteArray.size_append, itoa_size, hexF_size, sz0, sz1, sz2, sz3, sz4, sz5, sz6, sz7, sz8]); omega) (Tot.ret rfl)
    rw [if_neg k3]
    exact Tot.neg k3 (Tot.ret rfl)
theorem spec_dj0 (who kind : Int) (text : ByteArray) (id : Int) (data : List Int) (at_ : Int) (ht : text.size ≤ 1048576) (hd : data.length ≤ 1048576) (hdb : ∀ y ∈ data, 0 ≤ y ∧ y ≤ 255) : Tot (fun k => spec_DskText.j0 k false who kind text id data at_) (fun r => r = dsk2 who kind text id data at_) := by
  refine Tot.succ ?_
  simp only [spec_DskText.j0]
  refine Tot.neg (by decide) (Tot.bind (Tot.of_eq (l1In_some who 0 2)) ?_); rintro _ rfl
  by_cases hw : 0 ≤ who ∧ who ≤ 2
  · rw [decide_eq_true hw]
    refine Tot.pos (by first | rfl | trivial) (Tot.bind (Tot.of_eq (l1In_some id 0 9999)) ?_); rintro _ rfl
    exact spec_dj1 who kind text id data at_ _ (fun h => by simp at h; omega) (fun h => by simp at h; omega) ht hd hdb
  · rw [decide_eq_false hw]
    exact Tot.neg (by decide) (spec_dj1 who kind text id data at_ _ (fun h => by cases h) (fun _ h => hw ⟨h.1, h.2.1⟩) ht hd hdb)
theorem spec_DskText_tot (who kind : Int) (text : ByteArray) (id : Int) (data : List Int) (at_ : Int) (ht : text.size ≤ 1048576) (hd : data.length ≤ 1048576) (hdb : ∀ y ∈ data, 0 ≤ y ∧ y ≤ 255) : Tot (fun k => spec_DskText.f k who kind text id data at_) (fun r => r = dskF who kind text id data at_) := by
  unfold spec_DskText.f dskF
  have base := spec_dj0 who kind text id data at_ ht hd hdb
  by_cases h1 : who = -1
  · by_cases h4 : kind = 4
    · refine Tot.pos h1 (Tot.pos h4 (Tot.bind (Tot.of_eq (l1In_some at_ 0 9999)) ?_)); rintro _ rfl
      by_cases ha : 0 ≤ at_ ∧ at_ ≤ 9999
      · rw [if_pos ⟨h1, h4, ha⟩, decide_eq_true ha]
        have la := itoa_len ha.1 ha.2
        refine Tot.succ ?_
        simp only [spec_DskText.j0]
        refine Tot.pos (by first | rfl | trivial) (Tot.bind (plainI_tot at_ ha.1 ha.2) ?_); rintro _ rfl
        exact Tot.pos (by (try simp only [ByteArray.size_append, itoa_size, hexF_size, sz0, sz1, sz2, sz3, sz4, sz5, sz6, sz7, sz8]); omega) (Tot.ret rfl)
      · rw [if_neg (fun h => ha h.2.2), decide_eq_false ha]
        exact base
    · rw [if_neg (fun h => h4 h.2.1)]
      exact Tot.pos h1 (Tot.neg h4 base)
  · rw [if_neg (fun h => h1 h.1)]
    exact Tot.neg h1 base
theorem itoaI (n : Int) (h0 : -9223372036854775808 ≤ n) (h1 : n ≤ 9223372036854775807) : strconv_Itoa_54.f n = some ⟨(Lib.itoa n).toArray⟩ := by unfold strconv_Itoa_54.f; rw [if_pos ⟨h0, h1⟩]
theorem fits_some (i : Nat) (who kind : Int) (text : ByteArray) (id : Int) (data : List Int) (at_ : Int) : dskFits i who kind text id data at_ = some (match i with | 0 => decide (kind = 4) && (decide (who = -1) && decide (0 ≤ at_ ∧ at_ ≤ 9999)) | 1 => decide (kind = 1) && (decide (0 ≤ who ∧ who ≤ 2) && decide (0 ≤ id ∧ id ≤ 9999)) | 2 => decide (kind = 2) && (decide (0 ≤ who ∧ who ≤ 2) && decide (0 ≤ id ∧ id ≤ 9999)) | _ => decide (kind = 3) && (decide (0 ≤ who ∧ who ≤ 2) && decide (0 ≤ id ∧ id ≤ 9999))) := by
  unfold dskFits
  split
  all_goals unfold impl_dskForm_fits.f
  all_goals simp only [within_some, Option.bind_some]
  · by_cases h : kind = 4
    · subst h
      by_cases h2 : who = -1 <;> simp [h2]
    · rw [if_neg (fun e => h e.symm), decide_eq_false h]; rfl
  · by_cases h : kind = 1
    · subst h
      by_cases h2 : 0 ≤ who ∧ who ≤ 2 <;> simp [h2]
    · rw [if_neg (fun e => h e.symm), decide_eq_false h]; rfl
  · by_cases h : kind = 2
    · subst h
      by_cases h2 : 0 ≤ who ∧ who ≤ 2 <;> simp [h2]
    · rw [if_neg (fun e => h e.symm), decide_eq_false h]; rfl
  · by_cases h : kind = 3
    · subst h
      by_cases h2 : 0 ≤ who ∧ who ≤ 2 <;> simp [h2]
    · rw [if_neg (fun e => h e.symm), decide_eq_false h]; rfl
theorem write0 (who kind : Int) (text : ByteArray) (id : Int) (data : List Int) (at_ : Int) (ht : text.size ≤ 1048576) (hd : data.length ≤ 1048576) (hdb : ∀ y ∈ data, 0 ≤ y ∧ y ≤ 255) (h0 : 0 ≤ at_) (h1 : at_ ≤ 9999) : Tot (fun k => dskWrite k 0 who kind text id data at_) (fun r => r = (⟨#[116, 105, 109, 101, 32]⟩ : ByteArray) ++ (⟨(Lib.itoa at_).toArray⟩ : ByteArray)) := by
  show Tot (fun k => impl_dskForm_write.f k (⟨#[116, 105, 109, 101]⟩ : ByteArray) 4 false false false false true who kind text id data at_) _
  unfold impl_dskForm_write.f
  have la := itoa_len h0 h1
  refine Tot.neg (by decide) ?_
  refine Tot.succ ?_
  simp only [impl_dskForm_write.j0]
  refine Tot.neg (by decide) ?_
  refine Tot.succ ?_
  simp only [impl_dskForm_write.j1]
  refine Tot.neg (by decide) ?_
  refine Tot.succ ?_
  simp only [impl_dskForm_write.j2]
  refine Tot.neg (by decide) ?_
  refine Tot.pos (by first | rfl | trivial) (Tot.bind (Tot.of_eq (itoaI at_ (by omega) (by omega))) ?_); rintro _ rfl
  refine Tot.pos (by (try simp only [ByteArray.size_append, itoa_size, hexF_size, sz0, sz1, sz2, sz3, sz4, sz5, sz6, sz7, sz8]); omega) (Tot.pos (by (try simp only [ByteArray.size_append, itoa_size, hexF_size, sz0, sz1, sz2, sz3, sz4, sz5, sz6, sz7, sz8]); omega) ?_)
  refine Tot.ret (bb_ext ?_)
  simp only [bb_app, List.append_assoc]
  rfl
theorem write1 (who kind : Int) (text : ByteArray) (id : Int) (data : List Int) (at_ : Int) (ht : text.size ≤ 1048576) (hd : data.length ≤ 1048576) (hdb : ∀ y ∈ data, 0 ≤ y ∧ y ≤ 255) (w0 : 0 ≤ who) (w1 : who ≤ 2) (d0 : 0 ≤ id) (d1 : id ≤ 9999) : Tot (fun k => dskWrite k 1 who kind text id data at_) (fun r => r = ((((⟨#[97, 115, 107, 32]⟩ : ByteArray) ++ (⟨(Lib.itoa who).toArray⟩ : ByteArray)) ++ (⟨#[32]⟩ : ByteArray)) ++ text)) := by
  show Tot (fun k => impl_dskForm_write.f k (⟨#[97, 115, 107]⟩ : ByteArray) 1 true false true false false who kind text id data at_) _
  unfold impl_dskForm_write.f
  have lw := itoa_len (n := who) w0 (by omega)
  have ld := itoa_len (n := id) d0 d1
  refine Tot.pos (by first | rfl | trivial) (Tot.bind (Tot.of_eq (itoaI who (by omega) (by omega))) ?_); rintro _ rfl
  refine Tot.pos (by (try simp only [ByteArray.size_append, itoa_size, hexF_size, sz0, sz1, sz2, sz3, sz4, sz5, sz6, sz7, sz8]); omega) (Tot.pos (by (try simp only [ByteArray.size_append, itoa_size, hexF_size, sz0, sz1, sz2, sz3, sz4, sz5, sz6, sz7, sz8]); omega) ?_)
  refine Tot.succ ?_
  simp only [impl_dskForm_write.j0]
  refine Tot.neg (by decide) ?_
  refine Tot.succ ?_
  simp only [impl_dskForm_write.j1]
  refine Tot.pos (by first | rfl | trivial) (Tot.pos (by (try simp only [ByteArray.size_append, itoa_size, hexF_size, sz0, sz1, sz2, sz3, sz4, sz5, sz6, sz7, sz8]); omega) (Tot.pos (by (try simp only [ByteArray.size_append, itoa_size, hexF_size, sz0, sz1, sz2, sz3, sz4, sz5, sz6, sz7, sz8]); omega) ?_))
  refine Tot.succ ?_
  simp only [impl_dskForm_write.j2]
  refine Tot.neg (by decide) ?_
  refine Tot.neg (by decide) ?_
  refine Tot.ret (bb_ext ?_)
  simp only [bb_app, List.append_assoc]
  rfl
theorem write2 (who kind : Int) (text : ByteArray) (id : Int) (data : List Int) (at_ : Int) (ht : text.size ≤ 1048576) (hd : data.length ≤ 1048576) (hdb : ∀ y ∈ data, 0 ≤ y ∧ y ≤ 255) (w0 : 0 ≤ who) (w1 : who ≤ 2) (d0 : 0 ≤ id) (d1 : id ≤ 9999) : Tot (fun k => dskWrite k 2 who kind text id data at_) (fun r => r = ((((((⟨#[114, 101, 112, 108, 121, 32]⟩ : ByteArray) ++ (⟨(Lib.itoa who).toArray⟩ : ByteArray)) ++ (⟨#[32]⟩ : ByteArray)) ++ (⟨(Lib.itoa id).toArray⟩ : ByteArray)) ++ (⟨#[32]⟩ : ByteArray)) ++ hexF data)) := by
  show Tot (fun k => impl_dskForm_write.f k (⟨#[114, 101, 112, 108, 121]⟩ : ByteArray) 2 true true false true false who kind text id data at_) _
  unfold impl_dskForm_write.f
  have lw := itoa_len (n := who) w0 (by omega)
  have ld := itoa_len (n := id) d0 d1
  refine Tot.pos (by first | rfl | trivial) (Tot.bind (Tot.of_eq (itoaI who (by omega) (by omega))) ?_); rintro _ rfl
  refine Tot.pos (by (try simp only [ByteArray.size_append, itoa_size, hexF_size, sz0, sz1, sz2, sz3, sz4, sz5, sz6, sz7, sz8]); omega) (Tot.pos (by (try simp only [ByteArray.size_append, itoa_size, hexF_size, sz0, sz1, sz2, sz3, sz4, sz5, sz6, sz7, sz8]); omega) ?_)
  refine Tot.succ ?_
  simp only [impl_dskForm_write.j0]
  refine Tot.pos (by first | rfl | trivial) (Tot.bind (Tot.of_eq (itoaI id (by omega) (by omega))) ?_); rintro _ rfl
  refine Tot.pos (by (try simp only [ByteArray.size_append, itoa_size, hexF_size, sz0, sz1, sz2, sz3, sz4, sz5, sz6, sz7, sz8]); omega) (Tot.pos (by (try simp only [ByteArray.size_append, itoa_size, hexF_size, sz0, sz1, sz2, sz3, sz4, sz5, sz6, sz7, sz8]); omega) ?_)
  refine Tot.succ ?_
  simp only [impl_dskForm_write.j1]
  refine Tot.neg (by decide) ?_
  refine Tot.succ ?_
  simp only [impl_dskForm_write.j2]
  refine Tot.pos (by first | rfl | trivial) (Tot.bind (impl_HexText_tot data hdb (by omega)) ?_); rintro _ rfl
  refine Tot.pos (by (try simp only [ByteArray.size_append, itoa_size, hexF_size, sz0, sz1, sz2, sz3, sz4, sz5, sz6, sz7, sz8]); omega) (Tot.pos (by (try simp only [ByteArray.size_append, itoa_size, hexF_size, sz0, sz1, sz2, sz3, sz4, sz5, sz6, sz7, sz8]); omega) ?_)
  refine Tot.neg (by decide) ?_
  refine Tot.ret (bb_ext ?_)
  simp only [bb_app, List.append_assoc]
  rfl
theorem write3 (who kind : Int) (text : ByteArray) (id : Int) (data : List Int) (at_ : Int) (ht : text.size ≤ 1048576) (hd : data.length ≤ 1048576) (hdb : ∀ y ∈ data, 0 ≤ y ∧ y ≤ 255) (w0 : 0 ≤ who) (w1 : who ≤ 2) (d0 : 0 ≤ id) (d1 : id ≤ 9999) : Tot (fun k => dskWrite k 3 who kind text id data at_) (fun r => r = ((((⟨#[102, 97, 105, 108, 32]⟩ : ByteArray) ++ (⟨(Lib.itoa who).toArray⟩ : ByteArray)) ++ (⟨#[32]⟩ : ByteArray)) ++ (⟨(Lib.itoa id).toArray⟩ : ByteArray))) := by
  show Tot (fun k => impl_dskForm_write.f k (⟨#[102, 97, 105, 108]⟩ : ByteArray) 3 true true false false false who kind text id data at_) _
  unfold impl_dskForm_write.f
  have lw := itoa_len (n := who) w0 (by omega)
  have ld := itoa_len (n := id) d0 d1
  refine Tot.pos (by first | rfl | trivial) (Tot.bind (Tot.of_eq (itoaI who (by omega) (by omega))) ?_); rintro _ rfl
  refine Tot.pos (by (try simp only [ByteArray.size_append, itoa_size, hexF_size, sz0, sz1, sz2, sz3, sz4, sz5, sz6, sz7, sz8]); omega) (Tot.pos (by (try simp only [ByteArray.size_append, itoa_size, hexF_size, sz0, sz1, sz2, sz3, sz4, sz5, sz6, sz7, sz8]); omega) ?_)
  refine Tot.succ ?_
  simp only [impl_dskForm_write.j0]
  refine Tot.pos (by first | rfl | trivial) (Tot.bind (Tot.of_eq (itoaI id (by omega) (by omega))) ?_); rintro _ rfl
  refine Tot.pos (by (try simp only [ByteArray.size_append, itoa_size, hexF_size, sz0, sz1, sz2, sz3, sz4, sz5, sz6, sz7, sz8]); omega) (Tot.pos (by (try simp only [ByteArray.size_append, itoa_size, hexF_size, sz0, sz1, sz2, sz3, sz4, sz5, sz6, sz7, sz8]); omega) ?_)
  refine Tot.succ ?_
  simp only [impl_dskForm_write.j1]
  refine Tot.neg (by decide) ?_
  refine Tot.succ ?_
  simp only [impl_dskForm_write.j2]
  refine Tot.neg (by decide) ?_
  refine Tot.neg (by decide) ?_
  refine Tot.ret (bb_ext ?_)
  simp only [bb_app, List.append_assoc]
  rfl
theorem impl_DskText_tot (who kind : Int) (text : ByteArray) (id : Int) (data : List Int) (at_ : Int) (ht : text.size ≤ 1048576) (hd : data.length ≤ 1048576) (hdb : ∀ y ∈ data, 0 ≤ y ∧ y ≤ 255) : Tot (fun k => impl_DskText.f k who kind text id data at_) (fun r => r = dskF who kind text id data at_) := by
  unfold impl_DskText.f dskF
  simp only [dskGo]
  refine Tot.bind (Tot.of_eq (fits_some 0 who kind text id data at_)) ?_; rintro _ rfl
  (try dsimp only)
  by_cases h0 : who = -1 ∧ kind = 4 ∧ 0 ≤ at_ ∧ at_ ≤ 9999
  · rw [if_pos h0]
    refine Tot.pos (by simp [h0]) (write0 who kind text id data at_ ht hd hdb h0.2.2.1 h0.2.2.2)
  rw [if_neg h0]
  refine Tot.neg (by simp; omega) ?_
  refine Tot.bind (Tot.of_eq (fits_some 1 who kind text id data at_)) ?_; rintro _ rfl
  (try dsimp only)
  unfold dsk2
  by_cases hw : 0 ≤ who ∧ who ≤ 2 ∧ 0 ≤ id ∧ id ≤ 9999
  · rw [if_pos hw]
    obtain ⟨w0, w1, d0, d1⟩ := hw
    by_cases k1 : kind = 1
    · rw [if_pos k1]
      exact Tot.pos (by simp; omega) (write1 who kind text id data at_ ht hd hdb w0 w1 d0 d1)
    rw [if_neg k1]
    refine Tot.neg (by simp; omega) ?_
    refine Tot.bind (Tot.of_eq (fits_some 2 who kind text id data at_)) ?_; rintro _ rfl
    (try dsimp only)
    by_cases k2 : kind = 2
    · rw [if_pos k2]
      exact Tot.pos (by simp; omega) (write2 who kind text id data at_ ht hd hdb w0 w1 d0 d1)
    rw [if_neg k2]
    refine Tot.neg (by simp; omega) ?_
    refine Tot.bind (Tot.of_eq (fits_some 3 who kind text id data at_)) ?_; rintro _ rfl
    (try dsimp only)
    by_cases k3 : kind = 3
    · rw [if_pos k3]
      exact Tot.pos (by simp; omega) (write3 who kind text id data at_ ht hd hdb w0 w1 d0 d1)
    rw [if_neg k3]
    exact Tot.neg (by simp; omega) (Tot.ret rfl)
  · rw [if_neg hw]
    refine Tot.neg (by simp; omega) ?_
    refine Tot.bind (Tot.of_eq (fits_some 2 who kind text id data at_)) ?_; rintro _ rfl
    refine Tot.neg (by (try dsimp only); simp; omega) ?_
    refine Tot.bind (Tot.of_eq (fits_some 3 who kind text id data at_)) ?_; rintro _ rfl
    exact Tot.neg (by (try dsimp only); simp; omega) (Tot.ret rfl)
end Go.Proofs.YtiihhjfdgojkeaaDoor.X
namespace Go.Proofs.YtiihhjfdgojkeaaDoor.X
open Go.RowKit Go.Proofs.YtiihhjfdgojkeaaDoorW.PrintWords Go.Proofs.YtiihhjfdgojkeaaDoor.Pl
set_option linter.unusedSimpArgs false
set_option linter.unusedVariables false
theorem toByteS_ev (l : List Int) (hl : l.length ≤ 1048576) : Ev (fun k => laws_toByteS.f k l) l := by
  have hle := hl
  have := ev_map id 0 0 l (fun k i s => laws_toByteS.l0 k l s i) hle ?_ ?_
  · refine Ev.congr (fun k => ?_) (by simpa using this)
    show laws_toByteS.f k l = _
    unfold laws_toByteS.f
    rw [if_pos (by omega), if_pos (by omega)]
    rfl
  · intro i s hi hs r h
    refine Ev.step (fun k => ?_) h
    simp only [laws_toByteS.l0]
    rw [if_pos (by omega), if_pos (by omega), if_pos (by omega), wrap_succ (by omega)]
    rfl
  · intro k s hs
    simp only [laws_toByteS.l0]
    rw [if_neg (by omega)]
theorem eqByteS_ev (l : List Int) (hl : l.length ≤ 1048576) : Ev (fun k => laws_eqByteS.f k l l) true := by
  have hle := hl
  have := ev_all l.length (fun k i => laws_eqByteS.l0 k l l i) ?_ ?_
  · refine Ev.congr (fun k => ?_) this
    show laws_eqByteS.f k l l = _
    unfold laws_eqByteS.f
    rw [if_pos rfl]
  · intro i hi h
    refine Ev.step (fun k => ?_) h
    simp only [laws_eqByteS.l0]
    rw [if_pos (by omega), if_pos (by omega), if_pos (by omega), wrap_succ (by omega)]
    simp
  · intro k
    simp only [laws_eqByteS.l0]
    rw [if_neg (by omega)]
theorem szByteS_ev (l : List Int) (left : Int) (h0 : 0 ≤ left) (h1 : left ≤ 1048576) (g : l.length ≤ maxLen) : ∃ r, Ev (fun k => laws_szByteS.f l left) r ∧ r ≤ 1048576 ∧ (0 ≤ r → l.length ≤ 1048576) := by
  have hm : maxLen = 9223372036854775807 := rfl
  have hlm : l.length ≤ maxLen := g
  have w : wrap64 (left - (l.length : Int)) = left - (l.length : Int) := wrap_id (by omega) (by omega)
  by_cases n : left - (l.length : Int) < 0
  · exact ⟨-1, ⟨0, fun k hk => by simp [laws_szByteS.f, w, n]⟩, by omega, fun h => absurd h (by omega)⟩
  exact ⟨left - (l.length : Int), ⟨0, fun k hk => by simp [laws_szByteS.f, w, n]⟩, by omega, fun _ => by omega⟩
end Go.Proofs.YtiihhjfdgojkeaaDoor.X
namespace Go.Proofs.YtiihhjfdgojkeaaDoor.X
open Go.RowKit Go.Proofs.YtiihhjfdgojkeaaDoorW.PrintWords Go.Proofs.YtiihhjfdgojkeaaDoor.Pl
set_option linter.unusedSimpArgs false
set_option linter.unusedVariables false
theorem toTenEvent_ev (v0 : Int) (v1 : ByteArray) (v2 : Int) (v3 : List Int) (v4 : Int) (s3 : v3.length ≤ 1048576) : Ev (fun k => laws_toTenEvent.f k v0 v1 v2 v3 v4) (v0, v1, v2, v3, v4) := by
  obtain ⟨K0, h0⟩ := toByteS_ev v3 s3
  refine ⟨K0, fun k hk => ?_⟩
  simp only [laws_toTenEvent.f, h0 k (by omega), Option.bind_some]
theorem eqTenEvent_ev (v0 : Int) (v1 : ByteArray) (v2 : Int) (v3 : List Int) (v4 : Int) (s3 : v3.length ≤ 1048576) : Ev (fun k => laws_eqTenEvent.f k v0 v1 v2 v3 v4 v0 v1 v2 v3 v4) true := by
  obtain ⟨K0, h0⟩ := eqByteS_ev v3 s3
  refine ⟨K0, fun k hk => ?_⟩
  simp [laws_eqTenEvent.f, h0 k (by omega)]
theorem szTenEvent_ev (v0 : Int) (v1 : ByteArray) (v2 : Int) (v3 : List Int) (v4 : Int) (left : Int) (h0 : 0 ≤ left) (h1 : left ≤ 1048576) (g1 : v1.size ≤ maxLen) (g3 : v3.length ≤ maxLen) : ∃ r, Ev (fun k => laws_szTenEvent.f v0 v1 v2 v3 v4 left) r ∧ r ≤ 1048576 ∧ (0 ≤ r → v1.size ≤ 1048576 ∧ v3.length ≤ 1048576) := by
  have hm : maxLen = 9223372036854775807 := rfl
  obtain ⟨c0, hc0⟩ : ∃ c, c = wrap64 (left - (v1.size : Int)) := ⟨_, rfl⟩
  have hv0 : c0 = left - (v1.size : Int) := by rw [hc0]; exact wrap_id (by omega) (by omega)
  by_cases n0 : c0 < 0
  · exact ⟨-1, ⟨0, fun k hk => by simp [laws_szTenEvent.f, ← hc0, n0]⟩, by omega, fun h => absurd h (by omega)⟩
  obtain ⟨c1, ⟨K1, e1⟩, u1, q1⟩ := szByteS_ev v3 c0 (by omega) (by omega) g3
  by_cases n1 : c1 < 0
  · exact ⟨-1, ⟨K1, fun k hk => by simp [laws_szTenEvent.f, ← hc0, n0, e1 k (by omega), n1]⟩, by omega, fun h => absurd h (by omega)⟩
  exact ⟨c1, ⟨K1, fun k hk => by simp [laws_szTenEvent.f, ← hc0, n0, e1 k (by omega), n1]⟩, by omega, fun _ => ⟨(by omega), q1 (by omega)⟩⟩
end Go.Proofs.YtiihhjfdgojkeaaDoor.X
namespace Go.Proofs.YtiihhjfdgojkeaaDoor.X
open Go.RowKit Go.Proofs.YtiihhjfdgojkeaaDoorW.PrintWords Go.Proofs.YtiihhjfdgojkeaaDoor.Pl
set_option linter.unusedSimpArgs false
set_option linter.unusedVariables false
theorem toHouEvent_ev (v0 : Int) (v1 : Int) (v2 : ByteArray) (v3 : Int) (v4 : List Int) (v5 : Int) (s4 : v4.length ≤ 1048576) : Ev (fun k => laws_toHouEvent.f k v0 v1 v2 v3 v4 v5) (v0, v1, v2, v3, v4, v5) := by
  obtain ⟨K0, h0⟩ := toTenEvent_ev v1 v2 v3 v4 v5 s4
  refine ⟨K0, fun k hk => ?_⟩
  simp only [laws_toHouEvent.f, h0 k (by omega), Option.bind_some]
theorem eqHouEvent_ev (v0 : Int) (v1 : Int) (v2 : ByteArray) (v3 : Int) (v4 : List Int) (v5 : Int) (s4 : v4.length ≤ 1048576) : Ev (fun k => laws_eqHouEvent.f k v0 v1 v2 v3 v4 v5 v0 v1 v2 v3 v4 v5) true := by
  obtain ⟨K0, h0⟩ := eqTenEvent_ev v1 v2 v3 v4 v5 s4
  refine ⟨K0, fun k hk => ?_⟩
  simp [laws_eqHouEvent.f, h0 k (by omega)]
theorem szHouEvent_ev (v0 : Int) (v1 : Int) (v2 : ByteArray) (v3 : Int) (v4 : List Int) (v5 : Int) (left : Int) (h0 : 0 ≤ left) (h1 : left ≤ 1048576) (g2 : v2.size ≤ maxLen) (g4 : v4.length ≤ maxLen) : ∃ r, Ev (fun k => laws_szHouEvent.f v0 v1 v2 v3 v4 v5 left) r ∧ r ≤ 1048576 ∧ (0 ≤ r → v2.size ≤ 1048576 ∧ v4.length ≤ 1048576) := by
  have hm : maxLen = 9223372036854775807 := rfl
  obtain ⟨c0, ⟨K0, e0⟩, u0, q0⟩ := szTenEvent_ev v1 v2 v3 v4 v5 left (by omega) (by omega) g2 g4
  by_cases n0 : c0 < 0
  · exact ⟨-1, ⟨K0, fun k hk => by simp [laws_szHouEvent.f, e0 k (by omega), n0]⟩, by omega, fun h => absurd h (by omega)⟩
  exact ⟨c0, ⟨K0, fun k hk => by simp [laws_szHouEvent.f, e0 k (by omega), n0]⟩, by omega, fun _ => q0 (by omega)⟩
end Go.Proofs.YtiihhjfdgojkeaaDoor.X
namespace Go.Proofs.YtiihhjfdgojkeaaDoor.Pure
open Go.RowKit Go.Proofs.YtiihhjfdgojkeaaDoorW.PrintWords Go.Proofs.YtiihhjfdgojkeaaDoor.Pl Go.Proofs.YtiihhjfdgojkeaaDoor.X
set_option linter.unusedVariables false
set_option linter.unusedSimpArgs false
theorem byteOk {n : Int} (h : (Lit.int .u8 n).wf = true) : 0 ≤ n ∧ n ≤ 255 := by
  simp [Lit.wf, IntKind.min, IntKind.max, IntKind.signed, IntKind.bits] at h; omega
theorem FnExactDskText : laws_FnExactDskText.Pure := by
  intro who kind text id data at_ _ _ ht _ hd hb _
  refine Tot.rounds ?_
  unfold laws_FnExactDskText.f
  obtain ⟨r, he, _, hr⟩ := szHouEvent_ev who kind text id data at_ 1048576 (by omega) (by omega) ht hd
  refine Tot.bind (Tot.of_ev he) ?_; rintro _ rfl
  refine Tot.ite (fun _ => Tot.ret rfl) (fun hn => ?_)
  obtain ⟨st, sd⟩ := hr (by omega)
  have hbb : ∀ y ∈ data, 0 ≤ y ∧ y ≤ 255 := fun y hy => byteOk (hb y hy)
  refine Tot.bind (Tot.of_ev (toHouEvent_ev who kind text id data at_ sd)) ?_; rintro _ rfl
  refine Tot.bind (spec_DskText_tot who kind text id data at_ st sd hbb) ?_; rintro _ rfl
  refine Tot.bind (Tot.of_ev (toHouEvent_ev who kind text id data at_ sd)) ?_; rintro _ rfl
  refine Tot.bind (impl_DskText_tot who kind text id data at_ st sd hbb) ?_; rintro _ rfl
  refine Tot.pos rfl ?_
  refine Tot.bind (Tot.of_ev (toHouEvent_ev who kind text id data at_ sd)) ?_; rintro _ rfl
  refine Tot.bind (Tot.of_ev (eqHouEvent_ev who kind text id data at_ sd)) ?_; rintro _ rfl
  exact Tot.pos rfl (Tot.ret rfl)
end Go.Proofs.YtiihhjfdgojkeaaDoor.Pure
namespace Go.Proofs.YtiihhjfdgojkeaaDoor.X
set_option linter.unusedVariables false
set_option linter.unusedSimpArgs false
set_option linter.unusedSectionVars false
open Go.ChangeShapes Go.WideShapes Go.ChangeAt Go.WideMaps Go.WideElems Go.RowKit Go.Proofs.YtiihhjfdgojkeaaDoorW.PrintWords
theorem tP : (Tryd.prog.globals[3]?).map (·.type) = some 181 := by kernel_rfl
theorem blk_of_var {w : World} {name : String} {g : Nat} {cs : Array Value} (hg : Tryd.prog.globalNamed name = some g) (h : w.var? Tryd.prog name = some cs) : ∃ t fr, w.heap[g]? = some (.cells cs t fr) := by
  unfold World.var? at h
  rw [hg] at h
  simp only [Option.bind_some] at h
  split at h
  · rename_i cs' t fr hh
    obtain rfl := Option.some.inj h
    exact ⟨t, fr, hh⟩
  · cases h
variable {H : Type} {enc : TypeId × Value → H} {P : Program} {w : World} {base : Nat} {sp : Nat → Bool} {held : Bool}
/-- The cells of an array whose elements' cells are told by their data. -/
theorem cells_of_rows {fuel : Nat} {t e : TypeId} {n : Nat} {cs : List Value} {p : List MemPlace} {ds : List (DataW H)} (L : List (List Value))
    (ht : P.underlying t = some (.array n e)) (hct : P.cellsOf t = n * P.cellsOf e) (hL : ∀ (i : Nat) (l : List Value), L[i]? = some l → l.length = P.cellsOf e) (hn : L.length = n)
    (he : ∀ (i : Nat) (m : Nat) (d : DataW H) (l c : List Value) (q : List MemPlace), ds[i]? = some d → L[i]? = some l → DataW.trod enc P w base sp held m e c = some (d, q) → c = l)
    (h : DataW.trod enc P w base sp held fuel t cs = some (.agg ds, p)) : cs = L.flatten := by
  obtain ⟨xs, m, rfl, hx, hl, hlen, hf⟩ := DataW.trod_array ht h
  obtain ⟨hd, -⟩ := Prod.mk.inj hx
  have hds : ds = xs.map (·.1) := by injection hd
  have key : ∀ (i : Nat) (l : List Value), L[i]? = some l → (cs.drop (i * P.cellsOf e)).take (P.cellsOf e) = l := by
    intro i l hi
    have hin : i < n := by have := (List.getElem?_eq_some_iff.1 hi).1; omega
    have h1 := hf i hin
    have hix : i < xs.length := by omega
    rw [List.getElem?_eq_getElem hix] at h1
    refine he i m (xs[i]).1 l _ (xs[i]).2 ?_ hi h1
    rw [hds, List.getElem?_map, List.getElem?_eq_getElem hix]
    rfl
  have gen : ∀ (L : List (List Value)) (cs : List Value), (∀ (i : Nat) (l : List Value), L[i]? = some l → (cs.drop (i * P.cellsOf e)).take (P.cellsOf e) = l) → cs.length = L.length * P.cellsOf e → cs = L.flatten := by
    intro L
    induction L with
    | nil => intro cs _ h; simp at h; simp [h]
    | cons a L ih =>
      intro cs hk hlen
      have h0 := hk 0 a rfl
      rw [Nat.zero_mul, List.drop_zero] at h0
      rw [List.length_cons, Nat.add_mul, Nat.one_mul] at hlen
      have h1 := ih (cs.drop (P.cellsOf e)) (fun i l hi => by
        rw [List.drop_drop, show P.cellsOf e + i * P.cellsOf e = (i + 1) * P.cellsOf e by rw [Nat.add_mul]; omega]
        exact hk (i + 1) l (by simpa using hi)) (by rw [List.length_drop]; omega)
      rw [List.flatten_cons, ← h1, ← h0, List.take_append_drop]
  exact gen L cs key (by rw [hl, hct, hn])
theorem vars1 {n1 : String} : ∀ {gs : List (DataW H)} {q : List MemPlace}, DataW.TrodVars enc Tryd.prog w sp [n1] gs q → ∃ g1, gs = [g1]
  | [], _, h => h.elim
  | [a], _, _ => ⟨a, rfl⟩
  | _ :: _ :: _, _, h => by obtain ⟨_, _, _, _, _, _, _, _, _, _, h, _⟩ := h; exact h.elim
end Go.Proofs.YtiihhjfdgojkeaaDoor.X
namespace Go.Proofs.YtiihhjfdgojkeaaDoor.X
set_option linter.unusedVariables false
set_option maxRecDepth 100000
set_option linter.unusedSimpArgs false
set_option linter.unusedSectionVars false
open Go.ChangeShapes Go.WideShapes Go.ChangeAt Go.WideMaps Go.WideElems Go.RowKit Go.Proofs.YtiihhjfdgojkeaaDoorW.PrintWords
abbrev laidD : List (String × DataW Unit) := [("math/bits.deBruijn32tab", Rows.laid_math_bits_deBruijn32tab), ("math/bits.deBruijn64tab", Rows.laid_math_bits_deBruijn64tab), ("internal/strconv.uint64pow10", Rows.laid_internal_strconv_uint64pow10), ("loop.example/easel/impl.dskForms", Rows.laid_loop_example_easel_impl_dskForms)]
theorem door_metD (os : Os) (args : Array Value) : laidMetH Tryd.prog laidD ((World.doorLaid Tryd.prog 400 os).forCall (fun _ _ => 0) ⟨#[], args, []⟩).memory :=
  laidMetH_of_parts3 (fuel := 8) (laidMet_of_run' 8 (by kernel_rfl) (by kernel_rfl)) (by kernel_rfl) (by kernel_rfl)
theorem gD : Tryd.prog.globalNamed "loop.example/easel/impl.dskForms" = some 1 := by kernel_rfl
theorem tD : (Tryd.prog.globals[1]?).map (·.type) = some 123 := by kernel_rfl
variable {H : Type} {enc : TypeId × Value → H} {w : World} {base : Nat} {sp : Nat → Bool} {held : Bool}
theorem tb {t : TypeId} {m : Nat} {c : List Value} {b : Bool} {q : List MemPlace} (ht : Tryd.prog.underlying t = some .bool) (h : DataW.trod enc Tryd.prog w base sp held m t c = some (.lit (.bool b), q)) : c = [.bool b] := by
  obtain ⟨b', hc, hx⟩ := DataW.trod_bool ht h
  have e := (Prod.mk.inj hx).1
  injection e with e; injection e with e
  rw [hc, e]
theorem ti {t : TypeId} {m : Nat} {c : List Value} {n : Int} {q : List MemPlace} (ht : Tryd.prog.underlying t = some (.int .i64)) (h : DataW.trod enc Tryd.prog w base sp held m t c = some (.lit (.int .i64 n), q)) : c = [.int .i64 n] := by
  obtain ⟨n', hc, hx, _⟩ := DataW.trod_int ht h
  have e := (Prod.mk.inj hx).1
  injection e with e; injection e with _ e
  rw [hc, e]
theorem ts {t : TypeId} {m : Nat} {c : List Value} {s : List UInt8} {q : List MemPlace} (ht : Tryd.prog.underlying t = some .string) (h : DataW.trod enc Tryd.prog w base sp held m t c = some (.lit (.string s), q)) : c = [.string ⟨s.toArray⟩] := by
  obtain ⟨s', hc, hx, _⟩ := DataW.trod_string ht h
  have e := (Prod.mk.inj hx).1
  injection e with e; injection e with e
  rw [hc, e]
set_option maxRecDepth 100000 in
theorem dsk_cells {m : Nat} {c : List Value} {s : List UInt8} {n : Int} {b0 b1 b2 b3 b4 : Bool} {q : List MemPlace} (h : DataW.trod enc Tryd.prog w base sp held m 122 c = some (.agg [.lit (.string s), .lit (.int .i64 n), .lit (.bool b0), .lit (.bool b1), .lit (.bool b2), .lit (.bool b3), .lit (.bool b4)], q)) : c = [.string ⟨s.toArray⟩, .int .i64 n, .bool b0, .bool b1, .bool b2, .bool b3, .bool b4] := by
  obtain ⟨xs, k, _, hx, hl, hlen, hf⟩ := DataW.trod_struct Tryd.underlying122 h
  have hx := (Prod.mk.inj hx).1
  injection hx with hx
  have hl7 : c.length = 7 := hl.trans (by kernel_rfl)
  have hlen7 : xs.length = 7 := hlen
  match c, hl7, xs, hlen7 with
  | [c0, c1, c2, c3, c4, c5, c6], _, [y0, y1, y2, y3, y4, y5, y6], _ =>
    simp only [List.map_cons, List.map_nil, List.cons.injEq, and_true] at hx
    obtain ⟨e0, e1, e2, e3, e4, e5, e6⟩ := hx
    have s0 : [c0] = _ := ts (q := y0.2) Tryd.underlying9 ((hf 0 _ rfl).trans (by rw [e0]; rfl))
    have s1 : [c1] = _ := ti (q := y1.2) Tryd.underlying3 ((hf 1 _ rfl).trans (by rw [e1]; rfl))
    have s2 : [c2] = _ := tb (q := y2.2) Tryd.underlying4 ((hf 2 _ rfl).trans (by rw [e2]; rfl))
    have s3 : [c3] = _ := tb (q := y3.2) Tryd.underlying4 ((hf 3 _ rfl).trans (by rw [e3]; rfl))
    have s4 : [c4] = _ := tb (q := y4.2) Tryd.underlying4 ((hf 4 _ rfl).trans (by rw [e4]; rfl))
    have s5 : [c5] = _ := tb (q := y5.2) Tryd.underlying4 ((hf 5 _ rfl).trans (by rw [e5]; rfl))
    have s6 : [c6] = _ := tb (q := y6.2) Tryd.underlying4 ((hf 6 _ rfl).trans (by rw [e6]; rfl))
    cases s0; cases s1; cases s2; cases s3; cases s4; cases s5; cases s6
    rfl
set_option maxRecDepth 100000 in
theorem glob_ofD {W : World} (h : laidMetH Tryd.prog laidD W) : GlobD W := by
  rw [MakeChecks.laidMetH_plain _ _ _ (by kernel_rfl)] at h
  obtain ⟨ps, ⟨g0, t0, cs0, f0, p0, q0, hg0, ht0, hv0, hd0, ⟨g1, t1, cs1, f1, p1, q1, hg1, ht1, hv1, hd1, ⟨g2, t2, cs2, f2, p2, q2, hg2, ht2, hv2, hd2, ⟨g3, t3, cs3, f3, p3, q3, hg3, ht3, hv3, hd3, _⟩, _⟩, _⟩, _⟩, _, _⟩ := h
  obtain rfl := Option.some.inj (gPow.symm.trans hg2)
  obtain rfl := Option.some.inj (gD.symm.trans hg3)
  obtain rfl := Option.some.inj (tP.symm.trans ht2)
  obtain rfl := Option.some.inj (tD.symm.trans ht3)
  have e2 := Lib.cells_of_tab (zs := Lib.pow10Tab) (k := .u64) Tryd.underlying181 Tryd.underlying168 (by kernel_rfl) (by kernel_rfl) hd2
  obtain ⟨t, fr, hh⟩ := blk_of_var gD hv3
  obtain ⟨t', fr', hh'⟩ := blk_of_var gPow hv2
  have e3 := cells_of_rows [[.string ⟨#[116, 105, 109, 101]⟩, .int .i64 4, .bool false, .bool false, .bool false, .bool false, .bool true], [.string ⟨#[97, 115, 107]⟩, .int .i64 1, .bool true, .bool false, .bool true, .bool false, .bool false], [.string ⟨#[114, 101, 112, 108, 121]⟩, .int .i64 2, .bool true, .bool true, .bool false, .bool true, .bool false], [.string ⟨#[102, 97, 105, 108]⟩, .int .i64 3, .bool true, .bool true, .bool false, .bool false, .bool false]] Tryd.underlying123 (by kernel_rfl)
    (fun i l hi => by
      have hm := List.mem_of_getElem? hi
      have : l.length = 7 := by simp only [List.mem_cons, List.not_mem_nil, or_false] at hm; rcases hm with rfl | rfl | rfl | rfl <;> rfl
      exact this.trans (by kernel_rfl)) rfl
    (fun i m d l c q hd hl hc => by
      match i, hd, hl with
      | 0, hd, hl => cases hd; cases hl; exact dsk_cells hc
      | 1, hd, hl => cases hd; cases hl; exact dsk_cells hc
      | 2, hd, hl => cases hd; cases hl; exact dsk_cells hc
      | 3, hd, hl => cases hd; cases hl; exact dsk_cells hc
      | _ + 4, hd, _ => cases hd) hd3
  refine ⟨⟨t, fr, ?_⟩, ⟨t', fr', ?_⟩⟩
  · rw [hh]; congr 2; rw [← Array.toArray_toList (xs := cs3), e3]; rfl
  · rw [hh']; congr 2; rw [← e2]
end Go.Proofs.YtiihhjfdgojkeaaDoor.X
