/- Lemmas and contracts for the law FnShaSum, part 4: of the program's functions, and over data alone. Conditions: the listed package-level variables begin as the program's text lays them (tied by the card). -/
import Derived.Test.YtfinaphomgdmlaaDoorMFnShaSum2
import Derived.Lib.SlBytesConst
import Derived.Laws.Rows
import Derived.Laws.BitsAllLaws
import Derived.Test.YtfinaphomgdmlaaDoorMFnShaSum1
import Derived.Test.YtfinaphomgdmlaaDoorMFnShaSum3
import Derived.Laws.CopyOwn
import Derived.Lib.Bytes
import Derived.Test.YtfinaphomgdmlaaDoorRows
import Derived.Lib.LaidTab
import Derived.LaidMore
import Derived.OpenShut
import Derived.ShutString
import Derived.ChangeOld
import Derived.Below
import Derived.WalkKit
import Derived.ProofKit
import Derived.Stop.Joined
import Derived.OpenVars
import Derived.KernelRfl
namespace Go.Proofs.YtfinaphomgdmlaaDoor.X
open Go.RowKit Go.Proofs.YtfinaphomgdmlaaDoorW.PrintWords Go.Proofs.YtfinaphomgdmlaaDoorW.PrintLast Go.Proofs.YtfinaphomgdmlaaDoorW.PrintMore
set_option linter.unusedVariables false
variable {ops : Array Oper} {Q : Exit → Act → World → Prop} {rest : List Oper} {o : Oper} {a : Act} {W : World}
theorem lit3_ (N : Tmp) (hd : o.dst = some N) (hg : o.guard = none)
    (hr : (execOp a.eval o).run Tryd.prog W = .ok (.value (.slice (some ⟨W.heap.size, 0, none⟩) 3 3)) (W.alloc (.cells #[.int .u8 97, .int .u8 98, .int .u8 99] 5)))
    (h : ∀ b w1, b = W.heap.size → w1 = W.alloc (.cells #[.int .u8 97, .int .u8 98, .int .u8 99] 5) → wpList Tryd.prog ops Q rest (a.put o.dst (.slice (some ⟨b, 0, none⟩) 3 3)) w1) : wpList Tryd.prog ops Q (o :: rest) a W :=
  Kd.event_run hg hr (h _ _ rfl rfl)
theorem conv3_ {w1 : World} {b : Nat} (N : Tmp) (x : Operand) (hd : o.dst = some N) (hg : o.guard = none) (ho : o.op = .convert 22 22 x) (hx : a.eval x = .slice (some ⟨b, 0, none⟩) 3 3) (hb : b = W.heap.size)
    (hw : w1 = W.alloc (.cells #[.int .u8 97, .int .u8 98, .int .u8 99] 5))
    (h : ∀ w2, Below W.heap.size W w2 → (∀ k, (Value.slice (some ⟨b, 0, none⟩) 3 3).ownBlock = some k → W.heap.size ≤ k) → Kd.C (Kd.int .u8) w2 (some ⟨b, 0, none⟩) 3 [97, 98, 99] → wpList Tryd.prog ops Q rest (a.put o.dst (.slice (some ⟨b, 0, none⟩) 3 3)) w2) : wpList Tryd.prog ops Q (o :: rest) a w1 := by
  subst hb; subst hw
  have kc := Lib.run_convert_bytes_const (P := Tryd.prog) W 22 5 #[.int .u8 97, .int .u8 98, .int .u8 99] 3 3 Tryd.underlying22 Tryd.underlying5
  refine Kd.event_run hg (w1 := W.alloc (.cells #[.int .u8 97, .int .u8 98, .int .u8 99] 5 (3, 4))) (by simp [execOp, ho, hx, kc]) (h _ ((Below.refl _ _).alloc (Nat.le_refl _) _) (fun k hk => by simp [Value.ownBlock] at hk; omega) ?_)
  refine Kd.C_of_reads (d := (0 : Int)) (h1 := fun _ => rfl) ⟨rfl, by decide, fun _ => ⟨_, rfl, fun j hj => ?_⟩⟩
  rw [add_plain, cell_of_row _ W.heap.size j _ _ _ (heap_alloc_new W _)]
  match j, hj with
  | 0, _ => rfl
  | 1, _ => rfl
  | 2, _ => rfl
end Go.Proofs.YtfinaphomgdmlaaDoor.X
namespace Go.Proofs.YtfinaphomgdmlaaDoor.X
open Go.RowKit Go.Proofs.YtfinaphomgdmlaaDoorW.PrintWords Go.Proofs.YtfinaphomgdmlaaDoorW.PrintLast Go.Proofs.YtfinaphomgdmlaaDoorW.PrintMore
attribute [local go_sem] max2_int min2_int max_two min_two max_three min_three max_four min_four
set_option linter.unusedVariables false
set_option linter.unusedSimpArgs false

section

end
end Go.Proofs.YtfinaphomgdmlaaDoor.X
namespace Go.Proofs.YtfinaphomgdmlaaDoor.X
open Go.RowKit Go.Proofs.YtfinaphomgdmlaaDoorW.PrintWords Go.Proofs.YtfinaphomgdmlaaDoorW.PrintLast Go.Proofs.YtfinaphomgdmlaaDoorW.PrintMore
set_option linter.unusedVariables false
set_option linter.unusedSimpArgs false

/-- What the two tables hold. -/
def shS0 : List Int := [1779033703, 3144134277, 1013904242, 2773480762, 1359893119, 2600822924, 528734635, 1541459225]
def shK0 : List Int := [1116352408, 1899447441, 3049323471, 3921009573, 961987163, 1508970993, 2453635748, 2870763221, 3624381080, 310598401, 607225278, 1426881987, 1925078388, 2162078206, 2614888103, 3248222580, 3835390401, 4022224774, 264347078, 604807628, 770255983, 1249150122, 1555081692, 1996064986, 2554220882, 2821834349, 2952996808, 3210313671, 3336571891, 3584528711, 113926993, 338241895, 666307205, 773529912, 1294757372, 1396182291, 1695183700, 1986661051, 2177026350, 2456956037, 2730485921, 2820302411, 3259730800, 3345764771, 3516065817, 3600352804, 4094571909, 275423344, 430227734, 506948616, 659060556, 883997877, 958139571, 1322822218, 1537002063, 1747873779, 1955562222, 2024104815, 2227730452, 2361852424, 2428436474, 2756734187, 3204031479, 3329325298]
structure Glob (w : World) : Prop where
  s : ∃ t fr, w.heap[0]? = some (.cells (nums .u32 shS0).toArray t fr)
  k : ∃ t fr, w.heap[1]? = some (.cells (nums .u32 shK0).toArray t fr)
theorem Glob.below {B : Nat} {w w' : World} (h : Glob w) (hB : 2 ≤ B) (hb : Below B w w') : Glob w' := by
  obtain ⟨⟨t1, f1, h1⟩, ⟨t2, f2, h2⟩⟩ := h
  exact ⟨⟨t1, f1, (hb.block _ (by omega)).trans h1⟩, ⟨t2, f2, (hb.block _ (by omega)).trans h2⟩⟩
theorem Glob.two {w : World} (h : Glob w) : 2 ≤ w.heap.size := by obtain ⟨_, ⟨t2, f2, h2⟩⟩ := h; exact blk_lt h2
theorem Glob.belowW {w w' : World} (h : Glob w) (hb : Below w.heap.size w w') : Glob w' := h.below h.two hb

/-- What lies in the block of a hash. -/
def shCells (st blk : List Int) (u : Int) (tot : Int) : Array Value := (nums .u32 st ++ (nums .u8 blk ++ ([.int .i64 u, .int .u64 tot] : List Value))).toArray
structure ShaBlk (w : World) (B : Nat) (st blk : List Int) (u : Nat) (tot : Int) : Prop where
  st8 : st.length = 8
  blk64 : blk.length = 64
  two : 2 ≤ B
  cells : w.heap[B]? = some (.cells (shCells st blk u tot) 60 (0, 0))
variable {w w' : World} {B : Nat} {st blk : List Int} {u : Nat} {tot : Int}
theorem ShaBlk.frozen (h : ShaBlk w B st blk u tot) (i : Nat) : w.frozen? ⟨B, i, none⟩ = false := blk_frozen h.cells i
theorem ShaBlk.cSt (h : ShaBlk w B st blk u tot) (i : Nat) (hi : i < 8) : w.cell? ⟨B, i, none⟩ = some (.int .u32 (st.getD i 0)) := by
  rw [blk_cell h.cells]; have := h.st8
  simp [shCells, nums, List.getElem?_append, hi, this, List.getD_eq_getElem?_getD]
theorem ShaBlk.cBlk (h : ShaBlk w B st blk u tot) (i : Nat) (hi : i < 64) : w.cell? ⟨B, 8 + i, none⟩ = some (.int .u8 (blk.getD i 0)) := by
  rw [blk_cell h.cells]; have := h.st8; have := h.blk64
  simp [shCells, nums, List.getElem?_append, hi, *, List.getD_eq_getElem?_getD]
theorem ShaBlk.cU (h : ShaBlk w B st blk u tot) : w.cell? ⟨B, 72, none⟩ = some (.int .i64 u) := by
  rw [blk_cell h.cells]; have := h.st8; have := h.blk64
  simp [shCells, nums, List.getElem?_append, *]
theorem ShaBlk.cT (h : ShaBlk w B st blk u tot) : w.cell? ⟨B, 73, none⟩ = some (.int .u64 tot) := by
  rw [blk_cell h.cells]; have := h.st8; have := h.blk64
  simp [shCells, nums, List.getElem?_append, *]
theorem ShaBlk.setSt (h : ShaBlk w B st blk u tot) (i : Nat) (hi : i < 8) (x : Int) : ShaBlk (w.setCell ⟨B, i, none⟩ (.int .u32 x)) B (st.set i x) blk u tot := by
  refine ⟨by simp [h.st8], h.blk64, h.two, ?_⟩
  rw [blk_set h.cells]; have h8 := h.st8
  congr 2
  simp only [shCells, List.setIfInBounds_toArray, nums, List.map_set]
  rw [List.set_append_left _ _ (by simp [h8, hi])]
theorem ShaBlk.setBlk (h : ShaBlk w B st blk u tot) (i : Nat) (hi : i < 64) (x : Int) : ShaBlk (w.setCell ⟨B, 8 + i, none⟩ (.int .u8 x)) B st (blk.set i x) u tot := by
  refine ⟨h.st8, by simp [h.blk64], h.two, ?_⟩
  rw [blk_set h.cells]; have h8 := h.st8; have h64 := h.blk64
  congr 2
  simp only [shCells, List.setIfInBounds_toArray, nums, List.map_set]
  rw [List.set_append_right _ _ (by simp [h8]), List.set_append_left _ _ (by simp [h8, h64, hi])]
  simp [h8]
theorem ShaBlk.setU (h : ShaBlk w B st blk u tot) (u' : Nat) : ShaBlk (w.setCell ⟨B, 72, none⟩ (.int .i64 u')) B st blk u' tot := by
  refine ⟨h.st8, h.blk64, h.two, ?_⟩
  rw [blk_set h.cells]; have h8 := h.st8; have h64 := h.blk64
  congr 2
  simp only [shCells, List.setIfInBounds_toArray, nums]
  rw [List.set_append_right _ _ (by simp [h8]), List.set_append_right _ _ (by simp [h8, h64])]
  simp [h8, h64]
theorem ShaBlk.setT (h : ShaBlk w B st blk u tot) (t' : Int) : ShaBlk (w.setCell ⟨B, 73, none⟩ (.int .u64 t')) B st blk u t' := by
  refine ⟨h.st8, h.blk64, h.two, ?_⟩
  rw [blk_set h.cells]; have h8 := h.st8; have h64 := h.blk64
  congr 2
  simp only [shCells, List.setIfInBounds_toArray, nums]
  rw [List.set_append_right _ _ (by simp [h8]), List.set_append_right _ _ (by simp [h8, h64])]
  simp [h8, h64]
theorem ShaBlk.below {C : Nat} (h : ShaBlk w B st blk u tot) (hb : Below C w w') (hC : B < C) : ShaBlk w' B st blk u tot := ⟨h.st8, h.blk64, h.two, (hb.block _ hC).trans h.cells⟩
theorem ShaBlk.lt (h : ShaBlk w B st blk u tot) : B < w.heap.size := blk_lt h.cells
end Go.Proofs.YtfinaphomgdmlaaDoor.X
namespace Go.Proofs.YtfinaphomgdmlaaDoor.Sha

/-- One byte more: the block, and the state behind it where it is full. -/
def pushF (mix : List Int → List Int → List Int) (s : List Int × List Int × Nat) (b : Int) : List Int × List Int × Nat :=
  if s.2.2 + 1 = 64 then (mix s.1 (s.2.1.set s.2.2 b), s.2.1.set s.2.2 b, 0) else (s.1, s.2.1.set s.2.2 b, s.2.2 + 1)
def writeF (mix : List Int → List Int → List Int) (s : List Int × List Int × Nat) (l : List Int) : List Int × List Int × Nat := l.foldl (pushF mix) s
/-- So many whole blocks, one behind the other. -/
def blocksF (mix : List Int → List Int → List Int) : Nat → List Int → List Int → List Int
  | 0, h, _ => h
  | n + 1, h, l => blocksF mix n (mix h (l.take 64)) (l.drop 64)

theorem take_set_succ (l : List Int) (u : Nat) (b : Int) (h : u < l.length) : (l.set u b).take (u + 1) = l.take u ++ [b] := by
  rw [List.take_add_one]
  simp [List.take_set_of_le, h]

theorem writeF_part (mix : List Int → List Int → List Int) : ∀ (l : List Int) (h blk : List Int) (u : Nat), blk.length = 64 → u + l.length < 64 →
    ∃ blk', writeF mix (h, blk, u) l = (h, blk', u + l.length) ∧ blk'.length = 64 ∧ blk'.take (u + l.length) = blk.take u ++ l
  | [], h, blk, u, hb, hu => ⟨blk, by simp [writeF], hb, by simp⟩
  | b :: l, h, blk, u, hb, hu => by
    simp only [List.length_cons] at hu
    have e : writeF mix (h, blk, u) (b :: l) = writeF mix (h, blk.set u b, u + 1) l := by
      simp only [writeF, List.foldl_cons, pushF]
      rw [if_neg (by omega)]
    obtain ⟨blk', h1, h2, h3⟩ := writeF_part mix l h (blk.set u b) (u + 1) (by simpa using hb) (by omega)
    refine ⟨blk', ?_, h2, ?_⟩
    · rw [e, h1]; simp; omega
    · have : u + (b :: l).length = u + 1 + l.length := by simp; omega
      rw [this, h3, take_set_succ _ _ _ (by omega)]; simp

theorem writeF_full (mix : List Int → List Int → List Int) (l : List Int) (h blk : List Int) (hb : blk.length = 64) (hl : l.length = 64) :
    ∃ blk', writeF mix (h, blk, 0) l = (mix h l, blk', 0) ∧ blk'.length = 64 := by
  obtain ⟨l', b, rfl⟩ : ∃ l' b, l = l' ++ [b] := by
    rcases List.eq_nil_or_concat l with h | ⟨l', b, h⟩
    · subst h; cases hl
    · exact ⟨l', b, by simpa using h⟩
  simp only [List.length_append, List.length_cons, List.length_nil] at hl
  obtain ⟨blk', h1, h2, h3⟩ := writeF_part mix l' h blk 0 hb (by omega)
  have e : writeF mix (h, blk, 0) (l' ++ [b]) = pushF mix (writeF mix (h, blk, 0) l') b := by simp [writeF]
  refine ⟨blk'.set 63 b, ?_, by simpa using h2⟩
  have h63 : 0 + l'.length = 63 := by omega
  rw [e, h1, h63]
  simp only [pushF, if_pos]
  have : blk'.set 63 b = l' ++ [b] := by
    have := take_set_succ blk' 63 b (by omega)
    rw [List.take_of_length_le (by simp; omega)] at this
    rw [this]; rw [h63] at h3; rw [h3]; simp
  rw [this]

theorem writeF_append (mix : List Int → List Int → List Int) (s : List Int × List Int × Nat) (l m : List Int) : writeF mix s (l ++ m) = writeF mix (writeF mix s l) m := by simp [writeF]

theorem writeF_blocks (mix : List Int → List Int → List Int) : ∀ (n : Nat) (l h blk : List Int), blk.length = 64 → l.length = 64 * n → ∃ blk', writeF mix (h, blk, 0) l = (blocksF mix n h l, blk', 0) ∧ blk'.length = 64
  | 0, l, h, blk, hb, hl => by
    have : l = [] := List.length_eq_zero_iff.1 (by omega)
    subst this; exact ⟨blk, rfl, hb⟩
  | n + 1, l, h, blk, hb, hl => by
    obtain ⟨b1, e1, h1⟩ := writeF_full mix (l.take 64) h blk hb (by simp; omega)
    obtain ⟨b2, e2, h2⟩ := writeF_blocks mix n (l.drop 64) (mix h (l.take 64)) b1 h1 (by simp; omega)
    refine ⟨b2, ?_, h2⟩
    conv => lhs; rw [← List.take_append_drop 64 l]
    rw [writeF_append, e1, e2]; rfl

/-- How many bytes stand in the block. -/
theorem writeF_used (mix : List Int → List Int → List Int) : ∀ (l : List Int) (s : List Int × List Int × Nat), s.2.2 < 64 → (writeF mix s l).2.2 = (s.2.2 + l.length) % 64
  | [], s, hs => by simp [writeF]; omega
  | b :: l, s, hs => by
    have e : writeF mix s (b :: l) = writeF mix (pushF mix s b) l := rfl
    have h1 : (pushF mix s b).2.2 = (s.2.2 + 1) % 64 := by
      unfold pushF; split
      · simp; omega
      · simp; omega
    rw [e, writeF_used mix l _ (by rw [h1]; omega), h1]; simp; omega
end Go.Proofs.YtfinaphomgdmlaaDoor.Sha
namespace Go.Proofs.YtfinaphomgdmlaaDoor.X
open Go.RowKit Go.Proofs.YtfinaphomgdmlaaDoorW.PrintWords Go.Proofs.YtfinaphomgdmlaaDoorW.PrintLast Go.Proofs.YtfinaphomgdmlaaDoorW.PrintMore Go.Proofs.YtfinaphomgdmlaaDoor.Sha
set_option linter.unusedVariables false
set_option linter.unusedSimpArgs false

def MixOk (mix : List Int → List Int → List Int) : Prop := ∀ (B : Nat) (st blk : List Int) (u : Nat) (tot : Int) (w : World), Glob w → ShaBlk w B st blk u tot →
  Calls Tryd.prog 41 #[.pointer (some ⟨B, 0, none⟩)] w fun e w' => ∃ v, e = .returned v ∧ ShaBlk w' B (mix st blk) blk u tot ∧ Below B w w'

theorem shDrew {w : World} {B : Nat} {st blk : List Int} {u : Nat} {tot : Int} (h : ShaBlk w B st blk u tot) : ShaBlk w.drew B st blk u tot := ⟨h.st8, h.blk64, h.two, h.cells⟩
set_option maxHeartbeats 1000000 in
set_option maxRecDepth 100000 in
theorem push_room (B : Nat) (st blk : List Int) (u : Nat) (tot b : Int) (w : World) (hb : ShaBlk w B st blk u tot) (hu : u + 1 < 64) :
    Calls Tryd.prog 38 #[.pointer (some ⟨B, 0, none⟩), .int .u8 b] w fun e w' => ∃ v, e = .returned v ∧ ShaBlk w' B st (blk.set u b) (u + 1) tot ∧ Below B w w' := by
  have c1 := hb.cU
  have c2 := hb.cBlk u (by omega)
  have f1 := hb.frozen 72
  have f2 := hb.frozen (8 + u)
  have HB := Aside0.mk hb
  clear hb
  go_enter Tryd.func38, Tryd.ntmps38
  go_wp2
  go_region
  all_goals go_wp2
  all_goals refine bodyPost_end (results_none Tryd.results38 _ _ _) rfl ?_
  all_goals exact ⟨_, rfl, (shDrew (HB.out.setBlk u (by omega) b |>.setU (u + 1))), ((((Below.refl B w).setCell (Nat.le_refl _) _).setCell (Nat.le_refl _) _).drew)⟩
set_option maxHeartbeats 1000000 in
set_option maxRecDepth 100000 in
theorem push_full {mix : List Int → List Int → List Int} (hmix : MixOk mix) (B : Nat) (st blk : List Int) (tot b : Int) (w : World) (hG : Glob w) (hb : ShaBlk w B st blk 63 tot) :
    Calls Tryd.prog 38 #[.pointer (some ⟨B, 0, none⟩), .int .u8 b] w fun e w' => ∃ v, e = .returned v ∧ ShaBlk w' B (mix st (blk.set 63 b)) (blk.set 63 b) 0 tot ∧ Below B w w' := by
  have c1 := hb.cU
  have c2 := hb.cBlk 63 (by omega)
  have f1 := hb.frozen 72
  have f2 := hb.frozen 71
  have HB := Aside0.mk hb
  have HG := Aside0.mk hG
  have HM := Aside0.mk hmix
  clear hb hmix hG
  go_enter Tryd.func38, Tryd.ntmps38
  go_wp2
  go_region
  all_goals go_wp2_with (go_at_call 41; refine (HM.out B st (blk.set 63 b) 64 tot _ (HG.out.below HB.out.two ((((Below.refl B w).setCell (p := ⟨B, 71, none⟩) (Nat.le_refl _) _).setCell (p := ⟨B, 72, none⟩) (Nat.le_refl _) _).drew)) (shDrew (HB.out.setBlk 63 (by omega) b |>.setU 64))).mono ?_; rintro e w2 ⟨v, rfl, hS, hbel⟩; have d1 := hS.cU; have d2 := hS.frozen 72; have HS := Aside0.mk hS; have HL := Aside0.mk hbel; clear hS hbel)
  all_goals refine bodyPost_end (results_none Tryd.results38 _ _ _) rfl ?_
  all_goals exact ⟨_, rfl, HS.out.setU 0, ((((Below.refl B w).setCell (Nat.le_refl _) _).setCell (Nat.le_refl _) _).drew).trans (HL.out.setCell (Nat.le_refl _) _)⟩
/-- The state of a hash, in its block. -/
def ShaSt (w : World) (B : Nat) (s : List Int × List Int × Nat) (tot : Int) : Prop := s.2.2 < 64 ∧ ShaBlk w B s.1 s.2.1 s.2.2 tot
theorem push_calls {mix : List Int → List Int → List Int} (hmix : MixOk mix) (B : Nat) (s : List Int × List Int × Nat) (tot b : Int) (w : World) (hG : Glob w) (hb : ShaSt w B s tot) :
    Calls Tryd.prog 38 #[.pointer (some ⟨B, 0, none⟩), .int .u8 b] w fun e w' => ∃ v, e = .returned v ∧ ShaSt w' B (pushF mix s b) tot ∧ Below B w w' := by
  obtain ⟨st, blk, u⟩ := s
  obtain ⟨hu, hb⟩ := hb
  by_cases h : u + 1 = 64
  · obtain rfl : u = 63 := by omega
    refine (push_full hmix B st blk tot b w hG hb).mono ?_
    rintro e w' ⟨v, h1, h2, h3⟩
    refine ⟨v, h1, ?_, h3⟩
    simp only [pushF, if_pos, ShaSt]
    exact ⟨by omega, h2⟩
  · refine (push_room B st blk u tot b w hb (by dsimp only at hu; omega)).mono ?_
    rintro e w' ⟨v, h1, h2, h3⟩
    refine ⟨v, h1, ?_, h3⟩
    simp only [pushF, if_neg h, ShaSt]
    exact ⟨by dsimp only at hu; omega, h2⟩

set_option maxHeartbeats 1000000 in
set_option maxRecDepth 100000 in
theorem new_calls (w : World) (hG : Glob w) :
    Calls Tryd.prog 32 #[] w fun e w' => ∃ B, e = .returned (.pointer (some ⟨B, 0, none⟩)) ∧ B = w.heap.size ∧ ShaSt w' B (shS0, List.replicate 64 0, 0) 0 ∧ Below w.heap.size w w' := by
  obtain ⟨⟨ty0, fr, h0⟩, _⟩ := id hG
  have HG := Aside0.mk hG
  have h1 : w.heap[0]? = some (.cells #[.int .u32 1779033703, .int .u32 3144134277, .int .u32 1013904242, .int .u32 2773480762, .int .u32 1359893119, .int .u32 2600822924, .int .u32 528734635, .int .u32 1541459225] ty0 fr) := h0
  have H0 := Aside0.mk h1
  clear hG h0 h1
  have hz : ∀ w : World, (zeroValue 60).run Tryd.prog w = .ok (.agg #[.int .u32 0, .int .u32 0, .int .u32 0, .int .u32 0, .int .u32 0, .int .u32 0, .int .u32 0, .int .u32 0, .int .u8 0, .int .u8 0, .int .u8 0, .int .u8 0, .int .u8 0, .int .u8 0, .int .u8 0, .int .u8 0, .int .u8 0, .int .u8 0, .int .u8 0, .int .u8 0, .int .u8 0, .int .u8 0, .int .u8 0, .int .u8 0, .int .u8 0, .int .u8 0, .int .u8 0, .int .u8 0, .int .u8 0, .int .u8 0, .int .u8 0, .int .u8 0, .int .u8 0, .int .u8 0, .int .u8 0, .int .u8 0, .int .u8 0, .int .u8 0, .int .u8 0, .int .u8 0, .int .u8 0, .int .u8 0, .int .u8 0, .int .u8 0, .int .u8 0, .int .u8 0, .int .u8 0, .int .u8 0, .int .u8 0, .int .u8 0, .int .u8 0, .int .u8 0, .int .u8 0, .int .u8 0, .int .u8 0, .int .u8 0, .int .u8 0, .int .u8 0, .int .u8 0, .int .u8 0, .int .u8 0, .int .u8 0, .int .u8 0, .int .u8 0, .int .u8 0, .int .u8 0, .int .u8 0, .int .u8 0, .int .u8 0, .int .u8 0, .int .u8 0, .int .u8 0, .int .i64 0, .int .u64 0]) w := fun w => by kernel_rfl
  go_enter Tryd.func32, Tryd.ntmps32
  go_wp2_with (first | (refine wpList_load_row rfl 57 _ rfl 0 rfl ty0 #[.int .u32 1779033703, .int .u32 3144134277, .int .u32 1013904242, .int .u32 2773480762, .int .u32 1359893119, .int .u32 2600822924, .int .u32 528734635, .int .u32 1541459225] fr _ H0.out Tryd.underlying57 rfl (by kernel_rfl) ?_) | ((with_reducible refine gd_ 3 rfl ?_); refine bx_ 3 rfl #[.int .u32 1779033703, .int .u32 3144134277, .int .u32 1013904242, .int .u32 2773480762, .int .u32 1359893119, .int .u32 2600822924, .int .u32 528734635, .int .u32 1541459225, .int .u8 0, .int .u8 0, .int .u8 0, .int .u8 0, .int .u8 0, .int .u8 0, .int .u8 0, .int .u8 0, .int .u8 0, .int .u8 0, .int .u8 0, .int .u8 0, .int .u8 0, .int .u8 0, .int .u8 0, .int .u8 0, .int .u8 0, .int .u8 0, .int .u8 0, .int .u8 0, .int .u8 0, .int .u8 0, .int .u8 0, .int .u8 0, .int .u8 0, .int .u8 0, .int .u8 0, .int .u8 0, .int .u8 0, .int .u8 0, .int .u8 0, .int .u8 0, .int .u8 0, .int .u8 0, .int .u8 0, .int .u8 0, .int .u8 0, .int .u8 0, .int .u8 0, .int .u8 0, .int .u8 0, .int .u8 0, .int .u8 0, .int .u8 0, .int .u8 0, .int .u8 0, .int .u8 0, .int .u8 0, .int .u8 0, .int .u8 0, .int .u8 0, .int .u8 0, .int .u8 0, .int .u8 0, .int .u8 0, .int .u8 0, .int .u8 0, .int .u8 0, .int .u8 0, .int .u8 0, .int .u8 0, .int .u8 0, .int .u8 0, .int .u8 0, .int .i64 0, .int .u64 0] 60 ?_; intro b2 hg w5 hbox hb; have HX := Aside0.mk hbox; have HB := Aside0.mk hb; have Hg := Aside0.mk hg; clear hg hb hbox))
  go_ret
  exact ⟨b2, rfl, Hg.out, ⟨by decide, ⟨rfl, rfl, by rw [Hg.out]; exact HG.out.two, HX.out⟩⟩, HB.out⟩
end Go.Proofs.YtfinaphomgdmlaaDoor.X
namespace Go.Proofs.YtfinaphomgdmlaaDoor.X
open Go.RowKit Go.Proofs.YtfinaphomgdmlaaDoorW.PrintWords Go.Proofs.YtfinaphomgdmlaaDoorW.PrintLast Go.Proofs.YtfinaphomgdmlaaDoorW.PrintMore Go.Proofs.YtfinaphomgdmlaaDoor.Sha
set_option linter.unusedVariables false
set_option linter.unusedSimpArgs false

def totN (tot : Int) (n : Nat) : Int := IntKind.u64.wrap (tot + IntKind.u64.wrap (n : Int))
set_option maxHeartbeats 1000000 in
set_option maxRecDepth 100000 in
theorem write_calls {mix : List Int → List Int → List Int} (hmix : MixOk mix) (B : Nat) (s : List Int × List Int × Nat) (tot : Int) (A : Option Addr) (c : Nat) (l : List Int) (w0 w : World) (hG : Glob w) (hb : ShaSt w B s tot)
    (hr : Kd.C (Kd.int .u8) w0 A l.length l) (h0 : Below w0.heap.size w0 w) (hB : w0.heap.size ≤ B) (hlen : l.length < 9223372036854775807) :
    Calls Tryd.prog 33 #[.pointer (some ⟨B, 0, none⟩), .slice A l.length c] w fun e w' => ∃ v, e = .returned v ∧ ShaSt w' B (writeF mix s l) (totN tot l.length) ∧ Below B w w' := by
  obtain ⟨hu, hb⟩ := hb
  have c1 := hb.cT
  have f1 := hb.frozen 73
  have HB := Aside0.mk hb
  have HG := Aside0.mk hG
  have HM := Aside0.mk hmix
  have HR := Aside0.mk hr
  have H0 := Aside0.mk h0
  have HL := Aside0.mk hlen
  have HU := Aside0.mk hu
  have HW := Aside0.mk hB
  obtain ⟨n, hn⟩ : ∃ n, l.length = n := ⟨_, rfl⟩
  rw [hn]
  have HN := Aside0.mk hn
  clear hb hmix hG hr h0 hlen hu hB hn
  go_enter Tryd.func33, Tryd.ntmps33
  go_wp2
  (try simp only [Act.put, List.setIfInBounds_toArray, List.set_cons_zero, List.set_cons_succ])

  go_loopg [18] n (fun kq v18 w' => ∃ i : Nat, i ≤ n ∧ kq + i = n ∧ v18 = .int .i64 i ∧ ShaSt w' B (writeF mix s (l.take i)) (totN tot n) ∧ Below B w w')
  case atStart => exact ⟨0, by omega, by omega, rfl, ⟨HU.out, HB.out.setT _⟩, (Below.refl B w).setCell (Nat.le_refl _) _⟩
  case round =>
    obtain ⟨i, hi, hk, rfl, hs, hl⟩ := hrel
    by_cases h1 : i < n
    · have hbl : Below w0.heap.size w0 wr := H0.out.trans (hl.mono HW.out)
      have hr := Kd.C_below HR.out hbl
      obtain ⟨ad, e1, hx⟩ := Kd.at_int hr (i : Int) (by omega) (by rw [HN.out]; omega)
      cases e1
      simp only [Int.toNat_natCast] at hx
      have e2 : l.take (i + 1) = l.take i ++ [rd l (i : Int)] := by
        rw [List.take_add_one]; simp [rd, List.getD_eq_getElem?_getD, show i < l.length by rw [HN.out]; omega]
      have E2 := Aside0.mk e2
      have Hs := Aside0.mk hs
      have Hl := Aside0.mk hl
      have H1 := Aside0.mk (show (i : Int) < 9223372036854775807 by have := HL.out; rw [HN.out] at this; omega)
      clear hs hl hbl hr e2
      go_wp2_with (go_at_call 38; refine (push_calls HM.out B (writeF mix s (l.take i)) (totN tot n) _ _ (HG.out.below HB.out.two Hl.out) Hs.out).mono ?_; rintro e w2 ⟨v, rfl, hS, hbel⟩; have HS := Aside0.mk hS; have HL2 := Aside0.mk (Hl.out.trans hbel); clear hS hbel)
      go_roundg (gk - 1)
      case measure => omega
      case rel => exact ⟨i + 1, by omega, by omega, by first | rfl | (simp; done) | (have := H1.out; unfold wrap64; simp; omega), by rw [E2.out, writeF_append]; exact HS.out, HL2.out⟩
    · obtain rfl : i = n := by omega
      go_wp2
      refine bodyPost_end (results_none Tryd.results33 _ _ _) rfl ?_
      refine ⟨_, rfl, ?_, hl⟩
      rw [← HN.out, List.take_length] at hs
      rw [HN.out] at hs
      exact hs
end Go.Proofs.YtfinaphomgdmlaaDoor.X
namespace Go.Proofs.YtfinaphomgdmlaaDoor.X
open Go.RowKit Go.Proofs.YtfinaphomgdmlaaDoorW.PrintWords Go.Proofs.YtfinaphomgdmlaaDoorW.PrintLast Go.Proofs.YtfinaphomgdmlaaDoorW.PrintMore Go.Proofs.YtfinaphomgdmlaaDoor.Sha
set_option linter.unusedVariables false
set_option linter.unusedSimpArgs false

def lenB (L : Int) (j : Nat) : Int := L / 2 ^ (56 - 8 * j) % 256
def lenBs (L : Int) (j : Nat) : List Int := (List.range j).map (lenB L)
theorem lenBs_succ (L : Int) (j : Nat) : lenBs L (j + 1) = lenBs L j ++ [lenB L j] := by simp [lenBs, List.range_succ]
def digB (v : Int) : List Int := [v / 16777216 % 256, v / 65536 % 256, v / 256 % 256, v % 256]
def digI (st : List Int) : List Int := st.flatMap digB
theorem digI_succ (st : List Int) (i : Nat) (h : i < st.length) : digI (st.take (i + 1)) = digI (st.take i) ++ digB (st.getD i 0) := by
  have e : st.take (i + 1) = st.take i ++ [st.getD i 0] := by rw [List.take_add_one]; simp [List.getD_eq_getElem?_getD, h]
  rw [e, digI, List.flatMap_append]; simp [digI]
theorem digI_len (st : List Int) : (digI st).length = 4 * st.length := by
  induction st with
  | nil => rfl
  | cons a l ih => simp only [digI, List.flatMap_cons, List.length_append] at *; rw [ih]; simp [digB]; omega
/-- How many noughts are taken in. -/
def noughts (u : Nat) : Nat := (119 - u) % 64
theorem rep_succ (j : Nat) : List.replicate (j + 1) (0 : Int) = List.replicate j 0 ++ [0] := by rw [List.replicate_succ']
theorem idx8 (a0 a1 a2 a3 a4 a5 a6 a7 : Int) (i : Nat) (h : i < 8) : ∀ w : World, (Instr.index 57 (.agg #[.int .u32 a0, .int .u32 a1, .int .u32 a2, .int .u32 a3, .int .u32 a4, .int .u32 a5, .int .u32 a6, .int .u32 a7]) (.int .i64 (i : Int))).run Tryd.prog w = .ok (.int .u32 ([a0, a1, a2, a3, a4, a5, a6, a7].getD i 0)) w := by
  match i, h with
  | 0, _ => exact fun w => by kernel_rfl
  | 1, _ => exact fun w => by kernel_rfl
  | 2, _ => exact fun w => by kernel_rfl
  | 3, _ => exact fun w => by kernel_rfl
  | 4, _ => exact fun w => by kernel_rfl
  | 5, _ => exact fun w => by kernel_rfl
  | 6, _ => exact fun w => by kernel_rfl
  | 7, _ => exact fun w => by kernel_rfl
theorem eight' {l : List Int} (h : l.length = 8) : ∃ a0 a1 a2 a3 a4 a5 a6 a7, l = [a0, a1, a2, a3, a4, a5, a6, a7] := by
  match l, h with
  | [a0, a1, a2, a3, a4, a5, a6, a7], _ => exact ⟨a0, a1, a2, a3, a4, a5, a6, a7, rfl⟩
theorem R_made0 (W : World) (base : Nat) (hb : base ≤ W.heap.size) (ok : Nat → Prop) (h0 : ok W.heap.size) : Kd.R (Kd.int .u8) 5 (W.alloc (.cells (nums .u8 (List.replicate 32 0)).toArray 5)) base ok (.slice (some ⟨W.heap.size, 0, none⟩) 0 32) [] := by
  have h : Kd.R (Kd.int .u8) 5 (W.alloc (.cells (nums .u8 (List.replicate 32 0)).toArray 5)) base ok (.slice (some ⟨W.heap.size, 0, none⟩) 32 32) (List.replicate 32 0) := by
    refine ⟨fun k hk => ?_, nums .u8 (List.replicate 32 0), World.ownsRow_lit (base := base) (e := 5) (size := 1) W (nums .u8 (List.replicate 32 0)).toArray 32 hb (by decide) (by simp [nums]), ?_⟩
    · have : W.heap.size = k := by simpa [Value.ownBlock] using hk
      subst this; exact h0
    · have h := Kd.reps_made (R := (Kd.int .u8).M (W.alloc (.cells (nums .u8 (List.replicate 32 0)).toArray 5)) base (fun k => ok k ∧ some k ≠ (Value.slice (some ⟨W.heap.size, 0, none⟩) 32 32).ownBlock)) (z := .int .u8 0) (z0 := (0 : Int)) (size := 1) rfl (by decide) rfl 32
      rw [show (madeCells (Value.int .u8 0).cells (32 * 1)).toList = nums .u8 (List.replicate 32 0) by kernel_rfl] at h
      exact h
  exact Kd.R_take h (Nat.zero_le _)
theorem up8 {w w5 : World} {B : Nat} {a0 a1 a2 a3 a4 a5 a6 a7 : Int} (h : ∀ i : Nat, i < 8 → w.cell? ⟨B, i, none⟩ = some (.int .u32 ([a0, a1, a2, a3, a4, a5, a6, a7].getD i 0))) (hb : Below w.heap.size w w5) :
    w5.cell? ⟨B, 0, none⟩ = some (.int .u32 a0) ∧ w5.cell? ⟨B, 1, none⟩ = some (.int .u32 a1) ∧ w5.cell? ⟨B, 2, none⟩ = some (.int .u32 a2) ∧ w5.cell? ⟨B, 3, none⟩ = some (.int .u32 a3) ∧ w5.cell? ⟨B, 4, none⟩ = some (.int .u32 a4) ∧ w5.cell? ⟨B, 5, none⟩ = some (.int .u32 a5) ∧ w5.cell? ⟨B, 6, none⟩ = some (.int .u32 a6) ∧ w5.cell? ⟨B, 7, none⟩ = some (.int .u32 a7) :=
  ⟨upc_ hb (h 0 (by omega)), upc_ hb (h 1 (by omega)), upc_ hb (h 2 (by omega)), upc_ hb (h 3 (by omega)), upc_ hb (h 4 (by omega)), upc_ hb (h 5 (by omega)), upc_ hb (h 6 (by omega)), upc_ hb (h 7 (by omega))⟩
theorem mk0_ {ops : Array Oper} {Q : Exit → Act → World → Prop} {rest : List Oper} {o : Oper} {a : Act} {W : World} (N : Tmp) (hd : o.dst = some N) (hg : o.guard = none)
    (hr : (execOp a.eval o).run Tryd.prog W = .ok (.value (.slice (some ⟨W.heap.size, 0, none⟩) 0 32)) (W.alloc (.cells (nums .u8 (List.replicate 32 0)).toArray 5)))
    (h : ∀ v w1, Kd.R (Kd.int .u8) 5 w1 W.heap.size (fun _ => True) v [] → Below W.heap.size W w1 → wpList Tryd.prog ops Q rest (a.put o.dst v) w1) : wpList Tryd.prog ops Q (o :: rest) a W :=
  Kd.event_run hg hr (h _ _ (R_made0 W W.heap.size (Nat.le_refl _) _ trivial) ((Below.refl _ _).alloc (Nat.le_refl _) _))
set_option maxHeartbeats 1000000 in
set_option maxRecDepth 100000 in
theorem sum_calls {mix : List Int → List Int → List Int} (hmix : MixOk mix) (B : Nat) (s : List Int × List Int × Nat) (tot : Int) (w : World) (hG : Glob w) (hb : ShaSt w B s tot) :
    Calls Tryd.prog 34 #[.pointer (some ⟨B, 0, none⟩)] w fun e w' => ∃ v, e = .returned v ∧ Kd.R (Kd.int .u8) 5 w' B (fun _ => True) v (digI (writeF mix s (128 :: (List.replicate (noughts s.2.2) 0 ++ lenBs (IntKind.u64.wrap (tot * 8)) 8))).1) ∧ Below B w w' := by
  have c1 := hb.2.cT
  have f1 := hb.2.frozen 73
  have HB := Aside0.mk hb
  have HG := Aside0.mk hG
  have HM := Aside0.mk hmix
  have H2 := Aside0.mk hb.2.two
  have HU := Aside0.mk hb.1
  have hmk : ∀ w : World, (Instr.makeSlice 22 (.int .i64 0) (.int .i64 32)).run Tryd.prog w = .ok (.slice (some ⟨w.heap.size, 0, none⟩) 0 32) (w.alloc (.cells (nums .u8 (List.replicate 32 0)).toArray 5)) := fun w => by kernel_rfl
  obtain ⟨L, hL⟩ : ∃ L, IntKind.u64.wrap (tot * 8) = L := ⟨_, rfl⟩
  rw [hL]
  clear hb hmix hG
  go_enter Tryd.func34, Tryd.ntmps34
  go_wp2_with (go_at_call 38; refine (push_calls HM.out B s tot _ _ HG.out HB.out).mono ?_; rintro e w2 ⟨v, rfl, hS, hbel⟩; have HS := Aside0.mk hS; have HL2 := Aside0.mk hbel; clear hS hbel)
  (try simp only [Act.put, List.setIfInBounds_toArray, List.set_cons_zero, List.set_cons_succ])
  clear c1 f1
  go_loopg [15] (noughts s.2.2) (fun kq v15 w' => ∃ j : Nat, kq + j = noughts s.2.2 ∧ ShaSt w' B (writeF mix s (128 :: List.replicate j 0)) tot ∧ Below B w w')
  case atStart => exact ⟨0, by omega, HS.out, HL2.out⟩
  case round =>
    clear HS HL2
    obtain ⟨j, hk, hs, hl⟩ := hrel
    have hq := writeF_used mix (128 :: List.replicate j 0) s HU.out
    have hq2 := hs.1
    have c2 := hs.2.cU
    have HQ := Aside0.mk hq
    have Hs := Aside0.mk hs
    have Hl := Aside0.mk hl
    have HK := Aside0.mk hk
    obtain ⟨q, hq3⟩ : ∃ q, (writeF mix s (128 :: List.replicate j 0)).2.2 = q := ⟨_, rfl⟩
    rw [hq3] at c2 hq hq2
    have HQ3 := Aside0.mk hq3
    clear hs hl hq3
    simp only [List.length_cons, List.length_replicate] at hq
    by_cases h56 : q = 56
    · subst h56
      have hj : j = noughts s.2.2 := by have := HU.out; unfold noughts at *; omega
      have HJ := Aside0.mk hj
      clear hq hq2 hj hk
      go_wp2
      (try simp only [Act.put, List.setIfInBounds_toArray, List.set_cons_zero, List.set_cons_succ])
      go_loopg [4] 8 (fun kq v4 w' => ∃ n : Nat, kq + n = 8 ∧ v4 = .int .i64 (56 - 8 * (n : Int)) ∧ ShaSt w' B (writeF mix s (128 :: (List.replicate j 0 ++ lenBs (L) n))) tot ∧ Below B w w')
      case atStart => exact ⟨0, by omega, rfl, by rw [show lenBs (L) 0 = [] from rfl, List.append_nil]; exact Hs.out, Hl.out⟩
      case round =>
        clear Hs Hl HQ HQ3 c2 HK
        obtain ⟨n, hk, rfl, hs, hl⟩ := hrel
        have Hs := Aside0.mk hs
        have Hl := Aside0.mk hl
        clear hs hl
        by_cases h8 : n = 8
        · subst h8
          obtain ⟨st, hst⟩ : ∃ st, (writeF mix s (128 :: (List.replicate j 0 ++ lenBs (L) 8))).1 = st := ⟨_, rfl⟩
          have HJ2 := Aside0.mk hst
          obtain ⟨a0, a1, a2, a3, a4, a5, a6, a7, he⟩ := eight' Hs.out.2.st8
          rw [hst] at he
          have He := Aside0.mk he
          have HA : Aside0 (∀ i : Nat, i < 8 → wr.cell? ⟨B, i, none⟩ = some (.int .u32 ([a0, a1, a2, a3, a4, a5, a6, a7].getD i 0))) := ⟨fun i hi => by have h := Hs.out.2.cSt i hi; rw [hst, he] at h; exact h⟩
          clear hst he
          go_wp2_with (first | ((with_reducible refine gd_ 32 rfl ?_); refine mk0_ 32 rfl rfl ?hr ?_; (case hr => first | (go_simp; done) | (go_simp; rfl)); intro v5 w5 hR hb; have HR5 := Aside0.mk hR; have HB5 := Aside0.mk hb; obtain ⟨x0, x1, x2, x3, x4, x5, x6, x7⟩ := up8 HA.out hb; clear hR hb))
          (try simp only [Act.put, List.setIfInBounds_toArray, List.set_cons_zero, List.set_cons_succ])
          clear x0 x1 x2 x3 x4 x5 x6 x7 HA
          have HBw := Aside0.mk (Hs.out.2.lt)
          go_loopg [5, 37] 8 (fun kq q5 v37 w' => ∃ i : Nat, kq + i = 8 ∧ v37 = .int .i64 i ∧ Kd.R (Kd.int .u8) 5 w' B (fun _ => True) q5 (digI (st.take i)) ∧ B ≤ w'.heap.size ∧ Below B w w')
          case atStart => exact ⟨0, by omega, rfl, Kd.R_lower HR5.out (Nat.le_of_lt HBw.out), Nat.le_trans (Nat.le_of_lt HBw.out) HB5.out.size, Hl.out.trans (HB5.out.mono (Nat.le_of_lt HBw.out))⟩
          case round =>
            clear HR5 HB5 Hs Hl hk
            obtain ⟨i, hk, rfl, hR, hz, hl⟩ := hrel
            have HR := Aside0.mk hR
            have HL := Aside0.mk hl
            have HZ := Aside0.mk hz
            have Hst := Aside0.mk (show st.length = 8 by rw [He.out]; rfl)
            clear hR hl hz
            by_cases h8 : i = 8
            · subst h8
              go_wp2
              go_ret
              refine ⟨_, rfl, ?_, HL.out⟩
              have h := HR.out
              rw [List.take_of_length_le (by rw [Hst.out]; omega)] at h
              rw [← HJ.out, HJ2.out]; exact h
            · have h9 : i < 8 := by omega
              have hix := idx8 a0 a1 a2 a3 a4 a5 a6 a7 i h9
              obtain ⟨x, hx⟩ : ∃ x, [a0, a1, a2, a3, a4, a5, a6, a7].getD i 0 = x := ⟨_, rfl⟩
              rw [hx] at hix
              have E2 : Aside0 (digI (st.take (i + 1)) = digI (st.take i) ++ [x / 16777216 % 256, x / 65536 % 256, x / 256 % 256, x % 256]) := ⟨by rw [digI_succ st i (by rw [Hst.out]; exact h9), He.out, hx]; rfl⟩
              have EL : Aside0 ((digI (st.take i)).length ≤ 28) := ⟨by rw [digI_len, List.length_take, Hst.out]; omega⟩
              obtain ⟨d0, hd0⟩ : ∃ d, digI (st.take i) = d := ⟨_, rfl⟩
              rw [hd0] at HR E2 EL
              clear hx hd0
              go_wp2_with (first | ((with_reducible refine gd_ 52 rfl ?_); refine Kd.R_lit (Kd.int .u8) B 5 ?hg (N := 52) ?hd (xs := ([x / 16777216 % 256, x / 65536 % 256, x / 256 % 256, x % 256] : List Int)) (inner := [.int .u8 (x / 16777216 % 256), .int .u8 (x / 65536 % 256), .int .u8 (x / 256 % 256), .int .u8 (x % 256)]) (ok := fun _ => True) (okp := fun _ => True) ?hr ?hp (fun _ hk => hk) trivial HL.out HZ.out (by simp) ?_; (case hd => rfl); (case hg => rfl); (case hr => first | (go_simp; done) | (go_simp; rfl)); (case hp => exact (Reps.one (show Kd.M (Kd.int .u8) _ _ _ (x / 16777216 % 256) [.int .u8 (x / 16777216 % 256)] from rfl) (Reps.one (show Kd.M (Kd.int .u8) _ _ _ (x / 65536 % 256) [.int .u8 (x / 65536 % 256)] from rfl) (Reps.one (show Kd.M (Kd.int .u8) _ _ _ (x / 256 % 256) [.int .u8 (x / 256 % 256)] from rfl) (Reps.one (show Kd.M (Kd.int .u8) _ _ _ (x % 256) [.int .u8 (x % 256)] from rfl) (Reps.none _ _)))))); intro v6 w6 e6 hb hgr hnew_; obtain ⟨A6, c6, rfl, hc6, hr6⟩ := Kd.R_reads e6; have HR6 := Aside0.mk hr6; have HL6 := Aside0.mk hb; have HZ6 := Aside0.mk (Nat.le_trans HZ.out hgr.size); have HRo := Aside0.mk (Kd.R_grown HR.out hgr (fun k _ => by simp)); clear e6 hb hgr hnew_ hc6 hr6) | ((with_reducible refine gate_builtin (b := .append) (xs := #[.tmp 40, .tmp 52]) rfl ?_); at_builtin; refine Kd.R_append_rows (Kd.int .u8) (w0 := w) B rfl (.tmp 40) (.tmp 52) 22 5 (.int .u8 0) 1 rfl Tryd.underlying22 info5 rfl (by decide) (by omega) u5 d0 [x / 16777216 % 256, x / 65536 % 256, x / 256 % 256, x % 256] _ _ _ (fun _ => True) (fun _ => False) rfl rfl ?aO ?aR (fun _ _ h => h) (fun _ h => h.elim) ?aF ?aB ?aS ?aL ?_; (case aR => exact HR6.out); (case aB => exact HL6.out); (case aF => exact (fun _ _ => trivial)); (case aO => exact HRo.out); (case aS => exact HZ6.out); (case aL => have := EL.out; simp; omega); intro z3 w19 ho hb hg hat; have RO := Aside0.mk ho; have HL7 := Aside0.mk hb; have HZ7 := Aside0.mk (Nat.le_trans HZ6.out hg.size); clear ho hb hg hat))
              go_roundg (gk - 1)
              case measure => omega
              case rel => exact ⟨i + 1, by omega, by first | rfl | (simp; done) | (unfold wrap64; simp; omega), by rw [E2.out]; exact RO.out, HZ7.out, HL7.out⟩
        · have h9 : n < 8 := by omega
          have E2 : Aside0 (128 :: (List.replicate j 0 ++ lenBs (L) (n + 1)) = (128 :: (List.replicate j 0 ++ lenBs (L) n)) ++ [lenB (L) n]) := ⟨by rw [lenBs_succ]; simp⟩
          have g1 : (0 : Int) ≤ 56 - 8 * (n : Int) := by omega
          have g2 : decide ((0 : Int) ≤ 56 - 8 * (n : Int)) = true := decide_eq_true g1
          go_wp2_with (go_at_call 38; refine (push_calls HM.out B (writeF mix s (128 :: (List.replicate j 0 ++ lenBs L n))) tot _ _ (HG.out.below H2.out Hl.out) Hs.out).mono ?_; rintro e w2 ⟨v, rfl, hS, hbel⟩; have HS := Aside0.mk hS; have HL2 := Aside0.mk (Hl.out.trans hbel); clear hS hbel)
          go_roundg (gk - 1)
          case measure => omega
          case rel => exact ⟨n + 1, by omega, by first | rfl | (congr 1; omega), by rw [E2.out, writeF_append]; exact HS.out, HL2.out⟩
    · have hj : j < noughts s.2.2 := by have := HU.out; unfold noughts at *; omega
      have h57 : ((q : Int) == 56) = false := by simp; omega
      have h58 : ((q : Int) != 56) = true := by simp; omega
      have E2 : Aside0 (128 :: List.replicate (j + 1) 0 = (128 :: List.replicate j 0) ++ [(0 : Int)]) := ⟨by rw [rep_succ]; rfl⟩
      clear hq hq2
      go_wp2_with (go_at_call 38; refine (push_calls HM.out B (writeF mix s (128 :: List.replicate j 0)) tot _ _ (HG.out.below H2.out Hl.out) Hs.out).mono ?_; rintro e w2 ⟨v, rfl, hS, hbel⟩; have HS := Aside0.mk hS; have HL2 := Aside0.mk (Hl.out.trans hbel); clear hS hbel)
      go_roundg (gk - 1)
      case measure => have := HK.out; omega
      case rel => exact ⟨j + 1, by have := HK.out; omega, by rw [E2.out, writeF_append]; exact HS.out, HL2.out⟩
end Go.Proofs.YtfinaphomgdmlaaDoor.X
namespace Go.Proofs.YtfinaphomgdmlaaDoor.X
open Go.RowKit Go.Proofs.YtfinaphomgdmlaaDoorW.PrintWords Go.Proofs.YtfinaphomgdmlaaDoorW.PrintLast Go.Proofs.YtfinaphomgdmlaaDoorW.PrintMore Go.Proofs.YtfinaphomgdmlaaDoor.Sha
set_option linter.unusedVariables false
set_option linter.unusedSimpArgs false

/-- What a hash of bytes comes to, so many bytes told. -/
def shaF (mix : List Int → List Int → List Int) (l : List Int) (T : Int) : List Int :=
  digI (writeF mix (writeF mix (shS0, List.replicate 64 0, 0) l) (128 :: (List.replicate (noughts (writeF mix (shS0, List.replicate 64 0, 0) l).2.2) 0 ++ lenBs (IntKind.u64.wrap (T * 8)) 8))).1
structure Part where
  A : Option Addr
  c : Nat
  l : List Int
def flatP (ps : List Part) : List Int := ps.flatMap (·.l)
def totP (ps : List Part) : Int := ps.foldl (fun t p => totN t p.l.length) 0
theorem flatP_succ (ps : List Part) (i : Nat) (p : Part) (h : ps[i]? = some p) : flatP (ps.take (i + 1)) = flatP (ps.take i) ++ p.l := by
  rw [List.take_add_one, h]; simp [flatP]
theorem totP_succ (ps : List Part) (i : Nat) (p : Part) (h : ps[i]? = some p) : totP (ps.take (i + 1)) = totN (totP (ps.take i)) p.l.length := by
  rw [List.take_add_one, h]; simp [totP]
set_option maxHeartbeats 1000000 in
set_option maxRecDepth 100000 in
theorem shaOf_calls {mix : List Int → List Int → List Int} (hmix : MixOk mix) (g n c : Nat) (ps : List Part) (w : World) (hG : Glob w) (hn : ps.length = n) (hn9 : n < 1000)
    (hp : ∀ (i : Nat) p, ps[i]? = some p → w.cell? ⟨g, i, none⟩ = some (.slice p.A p.l.length p.c) ∧ Kd.C (Kd.int .u8) w p.A p.l.length p.l ∧ p.l.length < 9223372036854775807) :
    Calls Tryd.prog 21 #[.slice (some ⟨g, 0, none⟩) n c] w fun e w' => ∃ v, e = .returned v ∧ Kd.R (Kd.int .u8) 5 w' w.heap.size (fun _ => True) v (shaF mix (flatP ps) (totP ps)) ∧ Below w.heap.size w w' := by
  have HG := Aside0.mk hG
  have HM := Aside0.mk hmix
  have HP := Aside0.mk hp
  have HN := Aside0.mk hn
  clear hG hmix hp hn
  go_enter Tryd.func21, Tryd.ntmps21
  go_wp2_with (go_at_call 32; refine (new_calls _ HG.out).mono ?_; rintro e w2 ⟨B, rfl, hB, hS, hbel⟩; have HB := Aside0.mk hB; have HS := Aside0.mk hS; have HL := Aside0.mk hbel; clear hB hS hbel)
  (try simp only [Act.put, List.setIfInBounds_toArray, List.set_cons_zero, List.set_cons_succ])
  go_loopg [9] n (fun kq v9 w' => ∃ i : Nat, kq + i = n ∧ v9 = .int .i64 i ∧ ShaSt w' B (writeF mix (shS0, List.replicate 64 0, 0) (flatP (ps.take i))) (totP (ps.take i)) ∧ Below w.heap.size w w')
  case atStart => exact ⟨0, by omega, rfl, HS.out, HL.out⟩
  case round =>
    clear HS HL
    obtain ⟨i, hk, rfl, hs, hl⟩ := hrel
    have Hs := Aside0.mk hs
    have Hl := Aside0.mk hl
    clear hs hl
    by_cases h1 : i < n
    · obtain ⟨p, hpi⟩ : ∃ p, ps[i]? = some p := ⟨_, List.getElem?_eq_getElem (by rw [HN.out]; exact h1)⟩
      obtain ⟨hc, hr, hlen⟩ := HP.out i p hpi
      have x0 := upc_ Hl.out hc
      have E1 := Aside0.mk (flatP_succ ps i p hpi)
      have E2 := Aside0.mk (totP_succ ps i p hpi)
      have HR := Aside0.mk hr
      have HLen := Aside0.mk hlen
      clear hpi hc hr hlen
      go_wp2_with (go_at_call 33; refine (write_calls HM.out B _ _ p.A p.c p.l w _ (HG.out.belowW Hl.out) Hs.out HR.out Hl.out (Nat.le_of_eq HB.out.symm) HLen.out).mono ?_; rintro e w3 ⟨v, rfl, hS, hbel⟩; have HS := Aside0.mk hS; have HL2 := Aside0.mk (Hl.out.trans (hbel.mono (Nat.le_of_eq HB.out.symm))); clear hS hbel)
      go_roundg (gk - 1)
      case measure => omega
      case rel => exact ⟨i + 1, by omega, by first | rfl | (simp; done) | (unfold wrap64; simp; omega), by rw [E1.out, E2.out, writeF_append]; exact HS.out, HL2.out⟩
    · obtain rfl : i = n := by omega
      have E3 : Aside0 (ps.take i = ps) := ⟨List.take_of_length_le (by rw [HN.out]; omega)⟩
      go_wp2_with (go_at_call 34; refine (sum_calls HM.out B _ _ _ (HG.out.belowW Hl.out) Hs.out).mono ?_; rintro e w3 ⟨v, rfl, hR, hbel⟩; have HR := Aside0.mk hR; have HL2 := Aside0.mk (Hl.out.trans (hbel.mono (Nat.le_of_eq HB.out.symm))); clear hR hbel)
      go_ret
      refine ⟨_, rfl, ?_, HL2.out⟩
      have h := HR.out
      rw [E3.out] at h
      exact Kd.R_lower h (Nat.le_of_eq HB.out.symm)
end Go.Proofs.YtfinaphomgdmlaaDoor.X
namespace Go.Proofs.YtfinaphomgdmlaaDoor.X
open Go.RowKit Go.Proofs.YtfinaphomgdmlaaDoorW.PrintWords Go.Proofs.YtfinaphomgdmlaaDoorW.PrintLast Go.Proofs.YtfinaphomgdmlaaDoorW.PrintMore
set_option linter.unusedVariables false
set_option linter.unusedSimpArgs false
def rotI (s d a : Int) : Int := bits .or .u32 (IntKind.u32.wrap (a * 2 ^ min s.toNat 32)) (a / 2 ^ min d.toNat 32)
set_option maxHeartbeats 1000000 in
theorem rot_calls (s d a k : Int) (w : World) (hs : bits .and .u64 (IntKind.u64.wrap k) 31 = s ∧ 0 ≤ s ∧ IntKind.u64.wrap (32 - s) = d ∧ 0 ≤ d) :
    Calls Tryd.prog 42 #[.int .u32 a, .int .i64 k] w fun e w' => e = .returned (.int .u32 (rotI s d a)) ∧ w = w' := by
  obtain ⟨h1, h2, h3, h4⟩ := hs
  have h2' := decide_eq_true h2
  have h4' := decide_eq_true h4
  go_enter Tryd.func42, Tryd.ntmps42
  go_wp2
  go_ret
  exact ⟨rfl, rfl⟩
end Go.Proofs.YtfinaphomgdmlaaDoor.X
namespace Go.Proofs.YtfinaphomgdmlaaDoor.X
open Go.RowKit Go.Proofs.YtfinaphomgdmlaaDoorW.PrintWords Go.Proofs.YtfinaphomgdmlaaDoorW.PrintLast Go.Proofs.YtfinaphomgdmlaaDoorW.PrintMore Go.Proofs.YtfinaphomgdmlaaDoor.Sha
set_option linter.unusedVariables false
set_option linter.unusedSimpArgs false

structure WBlk (w : World) (V : Nat) (ws : List Int) : Prop where
  l64 : ws.length = 64
  cells : w.heap[V]? = some (.cells (nums .u32 ws).toArray 64 (0, 0))
variable {w w' : World} {V : Nat} {ws : List Int}
theorem WBlk.at_ (h : WBlk w V ws) (i : Nat) (hi : i < 64) : w.cell? ⟨V, i, none⟩ = some (.int .u32 (ws.getD i 0)) := by
  rw [blk_cell h.cells]; have := h.l64
  simp [nums, hi, this, List.getD_eq_getElem?_getD]
theorem WBlk.frozen (h : WBlk w V ws) (i : Nat) : w.frozen? ⟨V, i, none⟩ = false := blk_frozen h.cells i
theorem WBlk.set (h : WBlk w V ws) (i : Nat) (x : Int) : WBlk (w.setCell ⟨V, i, none⟩ (.int .u32 x)) V (ws.set i x) := by
  refine ⟨by simp [h.l64], ?_⟩
  rw [blk_set h.cells]
  simp [nums, List.map_set]
theorem WBlk.drew (h : WBlk w V ws) : WBlk w.drew V ws := ⟨h.l64, h.cells⟩
theorem shFar {w : World} {B : Nat} {st blk : List Int} {u : Nat} {tot : Int} {p : Addr} (h : ShaBlk w B st blk u tot) (hp : B ≠ p.block) (v : Value) : ShaBlk (w.setCell p v) B st blk u tot := ⟨h.st8, h.blk64, h.two, blk_far h.cells hp v⟩

def wd0 (b0 b1 b2 b3 : Int) : Int := bits .or .u32 (bits .or .u32 (bits .or .u32 (b0 % 4294967296 * 16777216 % 4294967296) (b1 % 4294967296 * 65536 % 4294967296)) (b2 % 4294967296 * 256 % 4294967296)) (b3 % 4294967296)
def wd1 (p q x y : Int) : Int := (x + bits .xor .u32 (bits .xor .u32 (rotI 25 7 p) (rotI 14 18 p)) (p / 8) + y + bits .xor .u32 (bits .xor .u32 (rotI 15 17 q) (rotI 13 19 q)) (q / 1024)) % 4294967296
/-- The first n of the words of a block. -/
def schI (blk : List Int) : Nat → List Int
  | 0 => []
  | n + 1 => schI blk n ++ [if n < 16 then wd0 (blk.getD (4 * n) 0) (blk.getD (4 * n + 1) 0) (blk.getD (4 * n + 2) 0) (blk.getD (4 * n + 3) 0) else wd1 ((schI blk n).getD (n - 15) 0) ((schI blk n).getD (n - 2) 0) ((schI blk n).getD (n - 16) 0) ((schI blk n).getD (n - 7) 0)]
theorem schI_length (blk : List Int) : ∀ n, (schI blk n).length = n
  | 0 => rfl
  | n + 1 => by simp [schI, schI_length blk n]
theorem sch_next {blk ws : List Int} {n : Nat} (h : ws.take n = schI blk n) (hn : n < ws.length) {x : Int} (hx : x = if n < 16 then wd0 (blk.getD (4 * n) 0) (blk.getD (4 * n + 1) 0) (blk.getD (4 * n + 2) 0) (blk.getD (4 * n + 3) 0) else wd1 ((schI blk n).getD (n - 15) 0) ((schI blk n).getD (n - 2) 0) ((schI blk n).getD (n - 16) 0) ((schI blk n).getD (n - 7) 0)) : (ws.set n x).take (n + 1) = schI blk (n + 1) := by
  rw [take_set_succ _ _ _ hn, h, schI, hx]
theorem sch_at {blk ws : List Int} {n : Nat} (h : ws.take n = schI blk n) (j : Nat) (hj : j < n) : ws.getD j 0 = (schI blk n).getD j 0 := by
  rw [← h]; simp [List.getD_eq_getElem?_getD, List.getElem?_take, hj]
theorem belSet {C : Nat} {w w1 : World} (h : Below C w w1) {V : Nat} (i : Nat) (v : Value) (hC : C ≤ V) : Below C w (w1.setCell ⟨V, i, none⟩ v) := h.setCell hC v
theorem eight {l : List Int} (h : l.length = 8) : ∃ a0 a1 a2 a3 a4 a5 a6 a7, l = [a0, a1, a2, a3, a4, a5, a6, a7] := by
  match l, h with
  | [a0, a1, a2, a3, a4, a5, a6, a7], _ => exact ⟨a0, a1, a2, a3, a4, a5, a6, a7, rfl⟩
structure St8 where
  a : Int
  b : Int
  c : Int
  d : Int
  e : Int
  f : Int
  g : Int
  h : Int
def stepI (k w : Int) (q : St8) : St8 :=
  ⟨(q.h + bits .xor .u32 (bits .xor .u32 (rotI 26 6 q.e) (rotI 21 11 q.e)) (rotI 7 25 q.e) + bits .xor .u32 (bits .and .u32 q.e q.f) (bits .and .u32 (bits .xor .u32 IntKind.u32.max q.e) q.g) + k + w + (bits .xor .u32 (bits .xor .u32 (rotI 30 2 q.a) (rotI 19 13 q.a)) (rotI 10 22 q.a) + bits .xor .u32 (bits .xor .u32 (bits .and .u32 q.a q.b) (bits .and .u32 q.a q.c)) (bits .and .u32 q.b q.c))) % 4294967296,
   q.a, q.b, q.c,
   (q.d + (q.h + bits .xor .u32 (bits .xor .u32 (rotI 26 6 q.e) (rotI 21 11 q.e)) (rotI 7 25 q.e) + bits .xor .u32 (bits .and .u32 q.e q.f) (bits .and .u32 (bits .xor .u32 IntKind.u32.max q.e) q.g) + k + w)) % 4294967296,
   q.e, q.f, q.g⟩
/-- The state behind so many rounds. -/
def rndI (ws : List Int) : Nat → St8 → St8
  | 0, q => q
  | n + 1, q => stepI (shK0.getD n 0) (ws.getD n 0) (rndI ws n q)

def Fr1 (B V : Nat) (u : Nat → Value) (i : Nat) (ws : List Int) : Act := ⟨#[.pointer (some ⟨B, 0, none⟩), u 1, .pointer (some ⟨V, 0, none⟩), u 3, u 4, u 5, u 6, u 7, u 8, u 9, u 10, u 11, u 12, u 13, u 14, u 15, u 16, u 17, u 18, u 19, u 20, u 21, u 22, u 23, .int .i64 (i : Int), u 25, u 26, u 27, u 28, u 29, u 30, u 31, u 32, u 33, u 34, u 35, u 36, u 37, u 38, u 39, u 40, u 41, u 42, u 43, u 44, u 45, u 46, u 47, u 48, u 49, u 50, u 51, u 52, u 53, u 54, u 55, u 56, u 57, u 58, u 59, u 60, u 61, u 62, u 63, u 64, u 65, u 66, u 67, u 68, u 69, u 70, u 71, u 72, u 73, u 74, u 75, u 76, u 77, u 78, u 79, u 80, u 81, u 82, u 83, u 84, u 85, u 86, u 87, u 88, u 89, u 90, u 91, u 92, u 93, u 94, u 95, u 96, u 97, u 98, u 99, u 100, u 101, u 102, u 103, u 104, u 105, u 106, u 107, u 108, u 109, u 110, u 111, u 112, u 113, u 114, u 115, u 116, u 117, u 118, u 119, u 120, u 121, u 122, u 123, u 124, u 125, u 126, u 127, u 128, u 129, u 130, u 131, u 132, u 133, u 134, u 135, u 136, u 137, u 138, u 139, u 140, u 141, u 142, u 143, u 144, u 145, u 146, u 147, u 148, u 149, u 150, u 151, u 152, u 153, u 154, u 155, u 156, u 157, u 158, u 159, u 160, u 161, u 162, u 163, u 164, u 165, u 166, u 167, u 168, u 169, u 170, u 171, u 172, u 173, u 174, u 175, u 176, u 177, u 178, u 179, u 180, u 181, u 182, u 183, u 184, u 185, u 186, u 187, u 188, u 189, u 190, u 191, u 192, u 193, u 194, u 195, u 196, u 197, u 198, u 199, u 200, u 201, u 202, u 203, u 204, u 205, u 206, u 207, u 208, u 209, u 210, u 211, u 212, u 213, u 214, u 215, u 216, u 217, u 218, u 219, u 220, u 221, u 222, u 223, u 224, u 225, u 226, u 227, u 228, u 229, u 230, u 231, u 232, u 233, u 234, u 235, u 236, u 237, u 238, u 239, u 240, u 241, u 242, u 243], []⟩
def Inv1 (B V : Nat) (Rel : Nat → Nat → List Int → World → Prop) (kq : Nat) (a : Act) (w' : World) : Prop := ∃ u, ∃ (i : Nat) (ws : List Int), Rel kq i ws w' ∧ a = Fr1 B V u i ws
theorem Inv1.mk {B V : Nat} {Rel : Nat → Nat → List Int → World → Prop} {kq : Nat} {L : List Value} {w' : World} (i : Nat) (ws : List Int) (hR : Rel kq i ws w') (hL : (⟨L.toArray, []⟩ : Act) = Fr1 B V (fun n => L.getD n undef) i ws) : Inv1 B V Rel kq ⟨L.toArray, []⟩ w' := ⟨_, i, ws, hR, hL⟩

def Fr2 (B V : Nat) (u : Nat → Value) (m : Nat) (ws : List Int) : Act := ⟨#[.pointer (some ⟨B, 0, none⟩), u 1, .pointer (some ⟨V, 0, none⟩), u 3, .int .i64 ((m : Int) + 16), u 5, u 6, u 7, u 8, u 9, u 10, u 11, u 12, u 13, u 14, u 15, u 16, u 17, u 18, u 19, u 20, u 21, u 22, u 23, u 24, u 25, u 26, u 27, u 28, u 29, u 30, u 31, u 32, u 33, u 34, u 35, u 36, u 37, u 38, u 39, u 40, u 41, u 42, u 43, u 44, u 45, u 46, u 47, u 48, u 49, u 50, u 51, u 52, u 53, u 54, u 55, u 56, u 57, u 58, u 59, u 60, u 61, u 62, u 63, u 64, u 65, u 66, u 67, u 68, u 69, u 70, u 71, u 72, u 73, u 74, u 75, u 76, u 77, u 78, u 79, u 80, u 81, u 82, u 83, u 84, u 85, u 86, u 87, u 88, u 89, u 90, u 91, u 92, u 93, u 94, u 95, u 96, u 97, u 98, u 99, u 100, u 101, u 102, u 103, u 104, u 105, u 106, u 107, u 108, u 109, u 110, u 111, u 112, u 113, u 114, u 115, u 116, u 117, u 118, u 119, u 120, u 121, u 122, u 123, u 124, u 125, u 126, u 127, u 128, u 129, u 130, u 131, u 132, u 133, u 134, u 135, u 136, u 137, u 138, u 139, u 140, u 141, u 142, u 143, u 144, u 145, u 146, u 147, u 148, u 149, u 150, u 151, u 152, u 153, u 154, u 155, u 156, u 157, u 158, u 159, u 160, u 161, u 162, u 163, u 164, u 165, u 166, u 167, u 168, u 169, u 170, u 171, u 172, u 173, u 174, u 175, u 176, u 177, u 178, u 179, u 180, u 181, u 182, u 183, u 184, u 185, u 186, u 187, u 188, u 189, u 190, u 191, u 192, u 193, u 194, u 195, u 196, u 197, u 198, u 199, u 200, u 201, u 202, u 203, u 204, u 205, u 206, u 207, u 208, u 209, u 210, u 211, u 212, u 213, u 214, u 215, u 216, u 217, u 218, u 219, u 220, u 221, u 222, u 223, u 224, u 225, u 226, u 227, u 228, u 229, u 230, u 231, u 232, u 233, u 234, u 235, u 236, u 237, u 238, u 239, u 240, u 241, u 242, u 243], []⟩
def Inv2 (B V : Nat) (Rel : Nat → Nat → List Int → World → Prop) (kq : Nat) (a : Act) (w' : World) : Prop := ∃ u, ∃ (m : Nat) (ws : List Int), Rel kq m ws w' ∧ a = Fr2 B V u m ws
theorem Inv2.mk {B V : Nat} {Rel : Nat → Nat → List Int → World → Prop} {kq : Nat} {L : List Value} {w' : World} (m : Nat) (ws : List Int) (hR : Rel kq m ws w') (hL : (⟨L.toArray, []⟩ : Act) = Fr2 B V (fun n => L.getD n undef) m ws) : Inv2 B V Rel kq ⟨L.toArray, []⟩ w' := ⟨_, m, ws, hR, hL⟩

def Fr3 (B V : Nat) (u : Nat → Value) (q : St8) (i : Nat) : Act := ⟨#[.pointer (some ⟨B, 0, none⟩), u 1, .pointer (some ⟨V, 0, none⟩), u 3, u 4, u 5, u 6, u 7, u 8, .int .u32 q.a, .int .u32 q.b, .int .u32 q.c, .int .u32 q.d, .int .u32 q.e, .int .u32 q.f, .int .u32 q.g, .int .u32 q.h, u 17, u 18, u 19, u 20, u 21, u 22, u 23, u 24, u 25, u 26, u 27, u 28, u 29, u 30, u 31, u 32, u 33, u 34, u 35, u 36, u 37, u 38, u 39, u 40, u 41, u 42, u 43, u 44, u 45, u 46, u 47, u 48, u 49, u 50, u 51, u 52, u 53, u 54, u 55, u 56, u 57, u 58, u 59, u 60, u 61, u 62, u 63, u 64, u 65, u 66, u 67, u 68, u 69, u 70, u 71, u 72, u 73, u 74, u 75, u 76, u 77, u 78, u 79, u 80, u 81, u 82, u 83, u 84, u 85, u 86, u 87, u 88, u 89, u 90, u 91, u 92, u 93, u 94, u 95, u 96, u 97, u 98, u 99, u 100, u 101, u 102, u 103, u 104, u 105, u 106, u 107, u 108, u 109, u 110, u 111, u 112, u 113, u 114, u 115, u 116, u 117, u 118, u 119, u 120, u 121, u 122, u 123, u 124, u 125, u 126, u 127, u 128, u 129, u 130, u 131, u 132, u 133, u 134, u 135, u 136, u 137, u 138, u 139, u 140, u 141, u 142, u 143, u 144, u 145, u 146, u 147, u 148, u 149, u 150, u 151, u 152, u 153, .int .i64 (i : Int), u 155, u 156, u 157, u 158, u 159, u 160, u 161, u 162, u 163, u 164, u 165, u 166, u 167, u 168, u 169, u 170, u 171, u 172, u 173, u 174, u 175, u 176, u 177, u 178, u 179, u 180, u 181, u 182, u 183, u 184, u 185, u 186, u 187, u 188, u 189, u 190, u 191, u 192, u 193, u 194, u 195, u 196, u 197, u 198, u 199, u 200, u 201, u 202, u 203, u 204, u 205, u 206, u 207, u 208, u 209, u 210, u 211, u 212, u 213, u 214, u 215, u 216, u 217, u 218, u 219, u 220, u 221, u 222, u 223, u 224, u 225, u 226, u 227, u 228, u 229, u 230, u 231, u 232, u 233, u 234, u 235, u 236, u 237, u 238, u 239, u 240, u 241, u 242, u 243], []⟩
def Inv3 (B V : Nat) (Rel : Nat → St8 → Nat → World → Prop) (kq : Nat) (a : Act) (w' : World) : Prop := ∃ u, ∃ (q : St8) (i : Nat), Rel kq q i w' ∧ a = Fr3 B V u q i
theorem Inv3.mk {B V : Nat} {Rel : Nat → St8 → Nat → World → Prop} {kq : Nat} {L : List Value} {w' : World} (q : St8) (i : Nat) (hR : Rel kq q i w') (hL : (⟨L.toArray, []⟩ : Act) = Fr3 B V (fun n => L.getD n undef) q i) : Inv3 B V Rel kq ⟨L.toArray, []⟩ w' := ⟨_, q, i, hR, hL⟩

def Fr4 (B V : Nat) (u : Nat → Value) (q : St8) (i : Nat) : Act := ⟨#[.pointer (some ⟨B, 0, none⟩), u 1, .pointer (some ⟨V, 0, none⟩), u 3, u 4, u 5, u 6, u 7, u 8, u 9, u 10, u 11, u 12, u 13, u 14, u 15, u 16, u 17, u 18, u 19, u 20, u 21, u 22, u 23, u 24, u 25, u 26, u 27, u 28, u 29, u 30, u 31, u 32, u 33, u 34, u 35, u 36, u 37, u 38, u 39, u 40, u 41, u 42, u 43, u 44, u 45, u 46, u 47, u 48, u 49, u 50, u 51, u 52, u 53, u 54, u 55, u 56, u 57, u 58, u 59, u 60, u 61, u 62, u 63, u 64, u 65, u 66, u 67, u 68, u 69, u 70, u 71, u 72, u 73, u 74, u 75, u 76, u 77, u 78, u 79, u 80, u 81, u 82, u 83, u 84, u 85, u 86, u 87, u 88, u 89, u 90, u 91, u 92, u 93, u 94, u 95, u 96, u 97, u 98, u 99, u 100, u 101, u 102, u 103, u 104, u 105, u 106, u 107, u 108, u 109, u 110, u 111, u 112, u 113, u 114, u 115, u 116, u 117, u 118, u 119, u 120, u 121, u 122, u 123, u 124, u 125, u 126, u 127, u 128, u 129, u 130, u 131, u 132, u 133, u 134, u 135, u 136, u 137, u 138, u 139, u 140, u 141, u 142, u 143, u 144, u 145, u 146, u 147, u 148, u 149, u 150, u 151, u 152, u 153, u 154, u 155, u 156, u 157, u 158, u 159, u 160, u 161, u 162, u 163, u 164, u 165, u 166, u 167, u 168, u 169, u 170, u 171, u 172, u 173, u 174, u 175, u 176, u 177, u 178, u 179, u 180, u 181, u 182, u 183, u 184, u 185, u 186, u 187, u 188, u 189, u 190, u 191, u 192, u 193, u 194, u 195, u 196, u 197, u 198, u 199, u 200, u 201, u 202, u 203, u 204, u 205, u 206, u 207, u 208, u 209, u 210, u 211, u 212, u 213, u 214, u 215, u 216, u 217, u 218, u 219, u 220, u 221, u 222, u 223, u 224, u 225, u 226, .agg #[.int .u32 q.a, .int .u32 q.b, .int .u32 q.c, .int .u32 q.d, .int .u32 q.e, .int .u32 q.f, .int .u32 q.g, .int .u32 q.h], .int .i64 (i : Int), u 229, u 230, u 231, u 232, u 233, u 234, u 235, u 236, u 237, u 238, u 239, u 240, u 241, u 242, u 243], []⟩
def Inv4 (B V : Nat) (Rel : Nat → St8 → Nat → World → Prop) (kq : Nat) (a : Act) (w' : World) : Prop := ∃ u, ∃ (q : St8) (i : Nat), Rel kq q i w' ∧ a = Fr4 B V u q i
theorem Inv4.mk {B V : Nat} {Rel : Nat → St8 → Nat → World → Prop} {kq : Nat} {L : List Value} {w' : World} (q : St8) (i : Nat) (hR : Rel kq q i w') (hL : (⟨L.toArray, []⟩ : Act) = Fr4 B V (fun n => L.getD n undef) q i) : Inv4 B V Rel kq ⟨L.toArray, []⟩ w' := ⟨_, q, i, hR, hL⟩

theorem wbN {w : World} {V : Nat} {ws : List Int} {n : Nat} (h : WBlk w V ws) : WBlk (w.drewN n) V ws := ⟨h.l64, h.cells⟩
theorem shN {w : World} {B : Nat} {st blk : List Int} {u : Nat} {tot : Int} {n : Nat} (h : ShaBlk w B st blk u tot) : ShaBlk (w.drewN n) B st blk u tot := ⟨h.st8, h.blk64, h.two, h.cells⟩
/-- What is added to the state. -/
def outI (st : List Int) (q : St8) : List Int := List.zipWith (fun a b => (a + b) % 4294967296) st [q.a, q.b, q.c, q.d, q.e, q.f, q.g, q.h]
def mixI (st blk : List Int) : List Int := outI st (rndI (schI blk 64) 64 ⟨st.getD 0 0, st.getD 1 0, st.getD 2 0, st.getD 3 0, st.getD 4 0, st.getD 5 0, st.getD 6 0, st.getD 7 0⟩)
theorem part_at (o s : List Int) (i : Nat) (h : i < s.length) (ho : o.length = s.length) : (o.take i ++ s.drop i).getD i 0 = s.getD i 0 := by
  rw [List.getD_eq_getElem?_getD, List.getD_eq_getElem?_getD, List.getElem?_append_right (by simp; omega)]
  simp [show min i o.length = i by omega]
theorem part_set (o s : List Int) (i : Nat) (h : i < s.length) (ho : o.length = s.length) : (o.take i ++ s.drop i).set i (o.getD i 0) = o.take (i + 1) ++ s.drop (i + 1) := by
  apply List.ext_getElem?
  intro j
  by_cases hj : j < i
  · rw [List.getElem?_set_ne (by omega), List.getElem?_append_left (by simp; omega), List.getElem?_append_left (by simp; omega)]
    simp [List.getElem?_take, hj, show j < i + 1 by omega]
  · by_cases e : j = i
    · subst e
      rw [List.getElem?_set_self (by simp; omega), List.getElem?_append_left (by simp; omega)]
      simp [List.getElem?_take, List.getD_eq_getElem?_getD, show j < o.length by omega]
    · rw [List.getElem?_set_ne (by omega), List.getElem?_append_right (by simp; omega), List.getElem?_append_right (by simp; omega)]
      simp only [List.getElem?_drop, List.length_take]
      congr 1; omega
set_option maxHeartbeats 8000000 in
set_option maxRecDepth 100000 in
theorem mix_walk : MixOk mixI := by
  intro B st blk u0 tot w hG hb
  have HB := Aside0.mk hb
  have HG := Aside0.mk hG
  have HBV := Aside0.mk hb.lt
  clear hb hG
  have hz : ∀ w : World, (zeroValue 64).run Tryd.prog w = .ok (.agg (nums .u32 (List.replicate 64 0)).toArray) w := fun w => by kernel_rfl
  have hz8 : ∀ w : World, (zeroValue 57).run Tryd.prog w = .ok (.agg #[.int .u32 0, .int .u32 0, .int .u32 0, .int .u32 0, .int .u32 0, .int .u32 0, .int .u32 0, .int .u32 0]) w := fun w => by kernel_rfl
  go_enter Tryd.func41, Tryd.ntmps41
  go_wp2
  (try simp only [Act.put, List.setIfInBounds_toArray, List.set_cons_zero, List.set_cons_succ])
  refine wp_loop_ghost_k (Inv1 B w.heap.size (fun kq i ws w' => i ≤ 16 ∧ kq + i = 16 ∧ WBlk w' w.heap.size ws ∧ ws.take i = schI blk i ∧ ShaBlk w' B st blk u0 tot ∧ Below B w w')) 16 ?_ ?_
  · exact Inv1.mk 0 (List.replicate 64 0) ⟨by omega, by omega, ⟨by simp, heap_alloc_new _ _⟩, rfl, HB.out.below ((Below.refl w.heap.size w).alloc (Nat.le_refl _) _) HBV.out, (Below.refl B w).alloc (Nat.le_of_lt HBV.out) _⟩ (by kernel_rfl)
  · intro gk _ wr hinv
    obtain ⟨u, i, ws, ⟨hi, hk, hw, hq, hs, hl⟩, ha⟩ := hinv
    subst ha
    unfold Fr1
    intro _ _ _ _
    by_cases h16 : i < 16
    · have c0 := hs.cBlk (4 * i) (by omega)
      have c1 := hs.cBlk (4 * i + 1) (by omega)
      have c2 := hs.cBlk (4 * i + 2) (by omega)
      have c3 := hs.cBlk (4 * i + 3) (by omega)
      have x0 := hw.at_ i (by omega)
      have f0 := hw.frozen i
      obtain ⟨b0, hb0⟩ : ∃ b, blk.getD (4 * i) 0 = b := ⟨_, rfl⟩
      obtain ⟨b1, hb1⟩ : ∃ b, blk.getD (4 * i + 1) 0 = b := ⟨_, rfl⟩
      obtain ⟨b2, hb2⟩ : ∃ b, blk.getD (4 * i + 2) 0 = b := ⟨_, rfl⟩
      obtain ⟨b3, hb3⟩ : ∃ b, blk.getD (4 * i + 3) 0 = b := ⟨_, rfl⟩
      rw [hb0] at c0; rw [hb1] at c1; rw [hb2] at c2; rw [hb3] at c3
      have Hw := Aside0.mk hw
      have Hs := Aside0.mk hs
      have Hl := Aside0.mk hl
      have Hq := Aside0.mk hq
      have Hx : Aside0 (wd0 b0 b1 b2 b3 = if i < 16 then wd0 (blk.getD (4 * i) 0) (blk.getD (4 * i + 1) 0) (blk.getD (4 * i + 2) 0) (blk.getD (4 * i + 3) 0) else wd1 ((schI blk i).getD (i - 15) 0) ((schI blk i).getD (i - 2) 0) ((schI blk i).getD (i - 16) 0) ((schI blk i).getD (i - 7) 0)) := ⟨by rw [if_pos h16, hb0, hb1, hb2, hb3]⟩
      clear hw hs hl hq hb0 hb1 hb2 hb3
      go_wp2
      go_region
      go_wp2
      refine Handed.intro (gk - 1) ?m1 ?_
      case m1 => omega
      go_step
      exact Inv1.mk (i + 1) (ws.set i (wd0 b0 b1 b2 b3)) ⟨by omega, by omega, (Hw.out.set i _).drew, sch_next Hq.out (by rw [Hw.out.l64]; omega) Hx.out, shDrew (shFar Hs.out (by have := HBV.out; show B ≠ w.heap.size; omega) _), (belSet Hl.out i _ (Nat.le_of_lt HBV.out)).drew⟩ (by kernel_rfl)
    · obtain rfl : i = 16 := by omega
      have Hw := Aside0.mk hw
      have Hs := Aside0.mk hs
      have Hl := Aside0.mk hl
      have Hq := Aside0.mk hq
      clear hw hs hl hq
      go_wp2
      (try simp only [Act.put, List.setIfInBounds_toArray, List.set_cons_zero, List.set_cons_succ])
      refine wp_loop_ghost_k (Inv2 B w.heap.size (fun kq m ws w' => m ≤ 48 ∧ kq + m = 48 ∧ WBlk w' w.heap.size ws ∧ ws.take (m + 16) = schI blk (m + 16) ∧ ShaBlk w' B st blk u0 tot ∧ Below B w w')) 48 ?_ ?_
      · exact Inv2.mk 0 ws ⟨by omega, by omega, Hw.out, Hq.out, Hs.out, Hl.out⟩ (by kernel_rfl)
      · clear Hw Hs Hl Hq hk hi h16
        intro gk _ wr hinv
        obtain ⟨u, m, ws, ⟨hm, hk, hw, hq, hs, hl⟩, ha⟩ := hinv
        subst ha
        unfold Fr2
        intro _ _ _ _
        by_cases h48 : m < 48
        · have c0 := hw.at_ m (by omega)
          have c1 := hw.at_ (m + 1) (by omega)
          have c9 := hw.at_ (m + 9) (by omega)
          have c14 := hw.at_ (m + 14) (by omega)
          have x0 := hw.at_ (m + 16) (by omega)
          have f0 := hw.frozen (m + 16)
          obtain ⟨b0, hb0⟩ : ∃ b, ws.getD m 0 = b := ⟨_, rfl⟩
          obtain ⟨b1, hb1⟩ : ∃ b, ws.getD (m + 1) 0 = b := ⟨_, rfl⟩
          obtain ⟨b9, hb9⟩ : ∃ b, ws.getD (m + 9) 0 = b := ⟨_, rfl⟩
          obtain ⟨b14, hb14⟩ : ∃ b, ws.getD (m + 14) 0 = b := ⟨_, rfl⟩
          rw [hb0] at c0; rw [hb1] at c1; rw [hb9] at c9; rw [hb14] at c14
          have Hx : Aside0 (wd1 b1 b14 b0 b9 = if m + 16 < 16 then wd0 (blk.getD (4 * (m + 16)) 0) (blk.getD (4 * (m + 16) + 1) 0) (blk.getD (4 * (m + 16) + 2) 0) (blk.getD (4 * (m + 16) + 3) 0) else wd1 ((schI blk (m + 16)).getD (m + 16 - 15) 0) ((schI blk (m + 16)).getD (m + 16 - 2) 0) ((schI blk (m + 16)).getD (m + 16 - 16) 0) ((schI blk (m + 16)).getD (m + 16 - 7) 0)) := ⟨by
            rw [if_neg (by omega), ← sch_at hq _ (by omega), ← sch_at hq _ (by omega), ← sch_at hq _ (by omega), ← sch_at hq _ (by omega)]
            rw [← hb0, ← hb1, ← hb9, ← hb14]; rfl⟩
          have Hw := Aside0.mk hw
          have Hs := Aside0.mk hs
          have Hl := Aside0.mk hl
          have Hq := Aside0.mk hq
          clear hw hs hl hq hb0 hb1 hb9 hb14
          go_wp2
          go_quiet (fail)
          go_wp2_with (go_at_call 42; first | (with_reducible refine (rot_calls 25 7 _ (-7) _ (by decide)).mono ?_; rintro e w2 ⟨rfl, rfl⟩) | (with_reducible refine (rot_calls 14 18 _ (-18) _ (by decide)).mono ?_; rintro e w2 ⟨rfl, rfl⟩) | (with_reducible refine (rot_calls 15 17 _ (-17) _ (by decide)).mono ?_; rintro e w2 ⟨rfl, rfl⟩) | (with_reducible refine (rot_calls 13 19 _ (-19) _ (by decide)).mono ?_; rintro e w2 ⟨rfl, rfl⟩))
          go_region
          go_wp2
          refine Handed.intro (gk - 1) ?m2 ?_
          case m2 => omega
          go_step
          rw [show (m : Int) + 16 + 1 = ((m + 1 : Nat) : Int) + 16 by omega]
          exact Inv2.mk (m + 1) (ws.set (m + 16) (wd1 b1 b14 b0 b9)) ⟨by omega, by omega, (wbN Hw.out).set (m + 16) _, sch_next Hq.out (by rw [Hw.out.l64]; omega) Hx.out, shFar (p := ⟨w.heap.size, m + 16, none⟩) (shN Hs.out) (by have := HBV.out; show B ≠ w.heap.size; omega) _, belSet (pw_below_drewN Hl.out _) (m + 16) _ (Nat.le_of_lt HBV.out)⟩ (by kernel_rfl)
        · obtain rfl : m = 48 := by omega
          have Hw := Aside0.mk hw
          have Hs := Aside0.mk hs
          have Hl := Aside0.mk hl
          have Hq : Aside0 (ws = schI blk 64) := ⟨by rw [← hq, List.take_of_length_le (by rw [hw.l64]; omega)]⟩
          obtain ⟨a0, a1, a2, a3, a4, a5, a6, a7, he⟩ := eight hs.st8
          have s0 := hs.cSt 0 (by omega)
          have s1 := hs.cSt 1 (by omega)
          have s2 := hs.cSt 2 (by omega)
          have s3 := hs.cSt 3 (by omega)
          have s4 := hs.cSt 4 (by omega)
          have s5 := hs.cSt 5 (by omega)
          have s6 := hs.cSt 6 (by omega)
          have s7 := hs.cSt 7 (by omega)
          rw [he] at s0 s1 s2 s3 s4 s5 s6 s7
          simp only [List.getD_cons_zero, List.getD_cons_succ] at s0 s1 s2 s3 s4 s5 s6 s7
          have He := Aside0.mk he
          clear hw hs hl hq he
          go_wp2
          go_quiet (fail)
          go_wp2
          go_quiet (fail)
          go_wp2
          (try simp only [Act.put, List.setIfInBounds_toArray, List.set_cons_zero, List.set_cons_succ])
          clear s0 s1 s2 s3 s4 s5 s6 s7
          refine wp_loop_ghost_k (Inv3 B w.heap.size (fun kq q i w' => i ≤ 64 ∧ kq + i = 64 ∧ q = rndI ws i ⟨a0, a1, a2, a3, a4, a5, a6, a7⟩ ∧ WBlk w' w.heap.size ws ∧ ShaBlk w' B st blk u0 tot ∧ Below B w w')) 64 ?_ ?_
          · exact Inv3.mk ⟨a0, a1, a2, a3, a4, a5, a6, a7⟩ 0 ⟨by omega, by omega, rfl, wbN (wbN Hw.out), shN (shN Hs.out), pw_below_drewN (pw_below_drewN Hl.out _) _⟩ (by kernel_rfl)
          · clear Hw Hs Hl hk h48 hm
            intro gk _ wr hinv
            obtain ⟨u, q, i, ⟨hi, hk, hq8, hw, hs, hl⟩, ha⟩ := hinv
            subst ha
            unfold Fr3
            intro _ _ _ _
            have Hq8 := Aside0.mk hq8
            clear hq8
            by_cases h64 : i < 64
            · obtain ⟨tk, fk, hgk⟩ := (HG.out.below HB.out.two hl).k
              have ck := (cell_of_row wr 1 i _ _ _ hgk).trans (show (nums .u32 shK0).toArray[i]? = some (.int .u32 (shK0.getD i 0)) by simp [nums, List.getD_eq_getElem?_getD, show shK0.length = 64 from rfl, h64])
              have cw := hw.at_ i (by omega)
              have Hw := Aside0.mk hw
              have Hs := Aside0.mk hs
              have Hl := Aside0.mk hl
              obtain ⟨kk, hkk⟩ : ∃ b, shK0.getD i 0 = b := ⟨_, rfl⟩
              obtain ⟨ww, hww⟩ : ∃ b, ws.getD i 0 = b := ⟨_, rfl⟩
              rw [hkk] at ck; rw [hww] at cw
              have Hn : Aside0 (stepI kk ww q = rndI ws (i + 1) ⟨a0, a1, a2, a3, a4, a5, a6, a7⟩) := ⟨by rw [rndI, hkk, hww, Hq8.out]⟩
              obtain ⟨a, b, c, d, e, f, g, hh⟩ := q
              clear hw hs hl hgk hkk hww
              go_wp2_with (go_at_call 42; first | (with_reducible refine (rot_calls 26 6 _ (-6) _ (by decide)).mono ?_; rintro e w2 ⟨rfl, rfl⟩) | (with_reducible refine (rot_calls 21 11 _ (-11) _ (by decide)).mono ?_; rintro e w2 ⟨rfl, rfl⟩) | (with_reducible refine (rot_calls 7 25 _ (-25) _ (by decide)).mono ?_; rintro e w2 ⟨rfl, rfl⟩) | (with_reducible refine (rot_calls 30 2 _ (-2) _ (by decide)).mono ?_; rintro e w2 ⟨rfl, rfl⟩) | (with_reducible refine (rot_calls 19 13 _ (-13) _ (by decide)).mono ?_; rintro e w2 ⟨rfl, rfl⟩) | (with_reducible refine (rot_calls 10 22 _ (-22) _ (by decide)).mono ?_; rintro e w2 ⟨rfl, rfl⟩))
              go_quiet (fail)
              go_wp2_with (go_at_call 42; first | (with_reducible refine (rot_calls 26 6 _ (-6) _ (by decide)).mono ?_; rintro e w2 ⟨rfl, rfl⟩) | (with_reducible refine (rot_calls 21 11 _ (-11) _ (by decide)).mono ?_; rintro e w2 ⟨rfl, rfl⟩) | (with_reducible refine (rot_calls 7 25 _ (-25) _ (by decide)).mono ?_; rintro e w2 ⟨rfl, rfl⟩) | (with_reducible refine (rot_calls 30 2 _ (-2) _ (by decide)).mono ?_; rintro e w2 ⟨rfl, rfl⟩) | (with_reducible refine (rot_calls 19 13 _ (-13) _ (by decide)).mono ?_; rintro e w2 ⟨rfl, rfl⟩) | (with_reducible refine (rot_calls 10 22 _ (-22) _ (by decide)).mono ?_; rintro e w2 ⟨rfl, rfl⟩))
              refine Handed.intro (gk - 1) ?m3 ?_
              case m3 => omega
              go_step
              exact Inv3.mk (stepI kk ww ⟨a, b, c, d, e, f, g, hh⟩) (i + 1) ⟨by omega, by omega, Hn.out, wbN Hw.out, shN Hs.out, pw_below_drewN Hl.out _⟩ (by kernel_rfl)
            · obtain rfl : i = 64 := by omega
              have Hs := Aside0.mk hs
              have Hl := Aside0.mk hl
              have Hm : Aside0 (outI st q = mixI st blk) := ⟨by rw [Hq8.out, Hq.out, mixI, He.out]; rfl⟩
              have Ho : Aside0 ((outI st q).length = st.length) := ⟨by rw [He.out]; rfl⟩
              have H8 : Aside0 (st.length = 8) := ⟨by rw [He.out]; rfl⟩
              clear Hq8 hw hs hl
              obtain ⟨a, b, c, d, e, f, g, hh⟩ := q
              go_wp2
              (try simp only [Act.put, List.setIfInBounds_toArray, List.set_cons_zero, List.set_cons_succ])
              refine wp_loop_ghost_k (Inv4 B w.heap.size (fun kq q i w' => q = ⟨a, b, c, d, e, f, g, hh⟩ ∧ i ≤ 8 ∧ kq + i = 8 ∧ ShaBlk w' B ((outI st ⟨a, b, c, d, e, f, g, hh⟩).take i ++ st.drop i) blk u0 tot ∧ Below B w w')) 8 ?_ ?_
              · exact Inv4.mk ⟨a, b, c, d, e, f, g, hh⟩ 0 ⟨rfl, by omega, by omega, Hs.out, Hl.out⟩ (by kernel_rfl)
              · clear Hs Hl hk hi h64
                intro gk _ wr hinv
                obtain ⟨u, q, i, ⟨rfl, hi, hk, hs, hl⟩, ha⟩ := hinv
                subst ha
                unfold Fr4
                intro _ _ _ _
                dsimp only
                by_cases h8 : i < 8
                · have c0 := hs.cSt i h8
                  rw [part_at _ _ _ (by rw [H8.out]; exact h8) Ho.out] at c0
                  have f0 := hs.frozen i
                  have hix := idx8 a b c d e f g hh i h8
                  obtain ⟨x, hx⟩ : ∃ x, [a, b, c, d, e, f, g, hh].getD i 0 = x := ⟨_, rfl⟩
                  obtain ⟨y, hy⟩ : ∃ y, st.getD i 0 = y := ⟨_, rfl⟩
                  rw [hx] at hix; rw [hy] at c0
                  have Hx : Aside0 ((outI st ⟨a, b, c, d, e, f, g, hh⟩).getD i 0 = (y + x) % 4294967296) := ⟨by rw [outI, List.getD_eq_getElem?_getD, List.getElem?_zipWith, ← hx, ← hy, List.getD_eq_getElem?_getD, List.getD_eq_getElem?_getD, List.getElem?_eq_getElem (by rw [H8.out]; exact h8), List.getElem?_eq_getElem (by exact h8)]; rfl⟩
                  have Hs := Aside0.mk hs
                  have Hl := Aside0.mk hl
                  clear hs hl hx hy
                  go_wp2
                  go_region
                  go_wp2
                  refine Handed.intro (gk - 1) ?m4 ?_
                  case m4 => omega
                  go_step
                  exact Inv4.mk ⟨a, b, c, d, e, f, g, hh⟩ (i + 1) ⟨rfl, by omega, by omega, by rw [← part_set _ _ _ (by rw [H8.out]; exact h8) Ho.out, Hx.out]; exact shDrew (Hs.out.setSt i h8 _), (belSet Hl.out i _ (Nat.le_refl _)).drew⟩ (by kernel_rfl)
                · obtain rfl : i = 8 := by omega
                  go_wp2
                  refine bodyPost_end (results_none Tryd.results41 _ _ _) rfl ?_
                  refine ⟨_, rfl, ?_, hl⟩
                  rw [List.take_of_length_le (by rw [Ho.out, H8.out]; omega), List.drop_eq_nil_of_le (by rw [H8.out]; omega), List.append_nil, Hm.out] at hs
                  exact hs
end Go.Proofs.YtfinaphomgdmlaaDoor.X
namespace Go.Proofs.YtfinaphomgdmlaaDoor.X
open Go.RowKit Go.Proofs.YtfinaphomgdmlaaDoorW.PrintWords Go.Proofs.YtfinaphomgdmlaaDoorW.PrintLast Go.Proofs.YtfinaphomgdmlaaDoorW.PrintMore
attribute [local go_sem] max2_int min2_int max_two min_two max_three min_three max_four min_four
set_option linter.unusedVariables false
set_option linter.unusedSimpArgs false

section
/-- What the sum of bytes comes to. -/
def shaSumF (l : List Int) : List Int := shaF mixI l (totN 0 l.length)
def impl_ShaSum.f (l0 : List Int) : Option (List Int) := if l0.length ≤ 500 then some (shaSumF l0) else some []
set_option maxHeartbeats 4000000 in
set_option maxRecDepth 100000 in
theorem impl_ShaSum.calls (A0 : Option Addr) (c0 : Nat) (l0 : List Int) (r : List Int) (w : World) (hr0 : Kd.C (Kd.int .u8) w A0 l0.length l0) (hc0 : l0.length ≤ c0) (h : impl_ShaSum.f l0 = some r) (hG : Glob w) :
  Calls Tryd.prog 10 #[.slice A0 l0.length c0] w fun e w' => ∃ v0_ : Value, e = .returned (v0_) ∧ Kd.R (Kd.int .u8) 5 w' w.heap.size (fun _ => True) v0_ r ∧ Below w.heap.size w w' := by
 have HR0 := Aside0.mk hr0; have HG := Aside0.mk hG; clear hr0 hG
 unfold impl_ShaSum.f at h
 obtain ⟨n, hn⟩ : ∃ n, l0.length = n := ⟨_, rfl⟩; have HN := Aside0.mk hn
 rw [hn] at h hc0 ⊢
 clear hn
 split at h
 · rename_i hl
   obtain rfl := Option.some.inj h; have hl2 : ¬ ((500 : Int) < (n : Int)) := (by omega)
   go_enter Tryd.func10, Tryd.ntmps10
   go_wp2_with (go_at_call 21; refine (shaOf_calls mix_walk w.heap.size 1 1 [⟨A0, c0, l0⟩] _ (HG.out.belowW ((Below.refl _ _).alloc (Nat.le_refl _) _)) rfl (by omega) ?hp).mono ?_; (case hp => intro i p hi; obtain ⟨rfl, rfl⟩ : i = 0 ∧ (⟨A0, c0, l0⟩ : Part) = p := (by rcases i with _ | i; exact ⟨rfl, Option.some.inj hi⟩; simp at hi); exact ⟨by rw [HN.out]; exact (cell_of_row _ _ 0 _ _ _ (heap_alloc_new w _)).trans rfl, Kd.C_below HR0.out ((Below.refl _ _).alloc (Nat.le_refl _) _), by rw [HN.out]; omega⟩); rintro e w3 ⟨v, rfl, hR, hbel⟩; have HRr := Aside0.mk hR; have HB := Aside0.mk hbel; clear hR hbel)
   go_ret
   refine ⟨_, rfl, ?_, ((Below.refl w.heap.size w).alloc (Nat.le_refl _) _).trans (HB.out.mono (by show _ ≤ (w.heap.push _).size; simp))⟩; have h2 := Kd.R_lower HRr.out (base' := w.heap.size) (by show _ ≤ (w.heap.push _).size; simp); have e1 : flatP [⟨A0, c0, l0⟩] = l0 := (by simp [flatP]); have e2 : totP [⟨A0, c0, l0⟩] = totN 0 l0.length := rfl
   rw [e1, e2] at h2
   exact h2
 · rename_i hl
   obtain rfl := Option.some.inj h; have hl2 : (500 : Int) < (n : Int) := (by omega)
   go_enter Tryd.func10, Tryd.ntmps10
   go_wp2
   go_ret
   exact ⟨_, rfl, Kd.R_nil _ _ _ _ _, Below.refl _ _⟩
end
end Go.Proofs.YtfinaphomgdmlaaDoor.X
namespace Go.Proofs.YtfinaphomgdmlaaDoorW.PrintWords
open Go.RowKit
set_option linter.unusedVariables false
variable {α : Type} {P : Program} {ops : Array Oper} {o : Oper} {a : Act} {Q : Exit → Act → World → Prop} {rest : List Oper}
theorem Kd.R_make0 (d : Kd α) {w0 W : World} (base e : Nat) (hgd : o.guard = none) {N : Tmp} (hd : o.dst = some N) (t : TypeId) (x y : Operand) (ho : o.op = .makeSlice t x y) (n : Int) (hx : a.eval x = .int .i64 0) (hy : a.eval y = .int .i64 n)
    (ht : P.underlying t = some (.slice e)) (z : Value) (bytes : Nat) (hinfo : (P.info? e).map (fun i => (i.zero, i.size, i.bytes)) = some (some z, d.sz, bytes)) (hz : z.cells.size = d.sz) (hs0 : 0 < d.sz) (hb0 : 0 < bytes)
    (z0 : α) {ok okp : Nat → Prop} (hzero : d.M W base okp z0 z.cells.toList) (hok : ∀ k, okp k → ok k) (hfresh : ok W.heap.size) (h0 : 0 ≤ n) (hl : n.toNat * bytes ≤ 281474976710656) (HB : Below base w0 W) (hbase : base ≤ W.heap.size)
    (h : ∀ v1 w1, d.R e w1 base ok v1 [] → Below base w0 w1 → W.grownBy w1 none → (∃ b, v1.ownBlock = some b ∧ W.heap.size ≤ b) → wpList P ops Q rest (a.put o.dst v1) w1) : wpList P ops Q (o :: rest) a W := by
  obtain ⟨m, rfl⟩ := Int.eq_ofNat_of_zero_le h0
  simp only [Int.toNat_natCast] at hl
  obtain ⟨i0, hi, hzz⟩ := Option.map_eq_some_iff.1 hinfo
  simp only [Prod.mk.injEq] at hzz
  obtain ⟨hz0, hz1, hz2⟩ := hzz
  have hm : m ≤ 281474976710656 := Nat.le_trans (Nat.le_mul_of_pos_right _ hb0) hl
  have hr := run_make (P := P) (w := W) t e i0 z ht hi hz0 .i64 .i64 0 (m : Int) (by omega) (by omega)
    (by
      have h3 : ((i0.bytes * m : Nat) : Int) ≤ 281474976710656 := by rw [hz2, Nat.mul_comm]; omega
      rwa [Int.natCast_mul] at h3) (by omega)
  simp only [Int.toNat_natCast] at hr
  rw [hz1] at hr
  have h1 : d.R e (W.alloc (.cells (madeCells z.cells (m * d.sz)) e)) base ok (.slice (some ⟨W.heap.size, 0, none⟩) m m) (List.replicate m z0) := by
    have hrep := Kd.reps_made hz hs0 hzero m
    refine ⟨fun k hk => ?_, (madeCells z.cells (m * d.sz)).toList, ?_, ?_⟩
    · have : W.heap.size = k := by simpa [Value.ownBlock] using hk
      subst this
      exact hfresh
    · have h2 := World.ownsRow_lit (base := base) (e := e) (size := d.sz) W (madeCells z.cells (m * d.sz)) m hbase (by show m ≤ 9223372036854775807; omega) (by simp [size_madeCells])
      simpa using h2
    · refine hrep.imp_ (fun p c hp => d.M_mono (fun k hk => ⟨hok k hk.1, fun he => ?_⟩) (Kd.M_below (d.M_bound hp) (below_alloc (Below.refl _ _) _)))
      have h3 : k = W.heap.size := by simpa [Value.ownBlock] using he
      have := hk.2.2.1
      omega
  have h2 := Kd.R_take h1 (m := 0) (Nat.zero_le _)
  refine Kd.event_run hgd (by simp [execOp, ho, hx, hy, hr]) (h _ _ h2 (HB.alloc hbase _) (World.grownBy_alloc W _ none) ⟨W.heap.size, by simp [Value.ownBlock], Nat.le_refl _⟩)
end Go.Proofs.YtfinaphomgdmlaaDoorW.PrintWords
namespace Go.Proofs.YtfinaphomgdmlaaDoor.X
open Go.RowKit Go.Proofs.YtfinaphomgdmlaaDoorW.PrintWords Go.Proofs.YtfinaphomgdmlaaDoorW.PrintLast Go.Proofs.YtfinaphomgdmlaaDoorW.PrintMore
attribute [local go_sem] max2_int min2_int max_two min_two max_three min_three max_four min_four
set_option linter.unusedVariables false
set_option linter.unusedSimpArgs false

section
open Go.Proofs.YtfinaphomgdmlaaDoorW.PrintWords.Aside0 renaming mk → yaa

abbrev q16_0 : Array Bool := Array.replicate 10 false
abbrev q16_1 : Array Bool := #[true, false, false, false, false, false, false, false, false, false]
abbrev q16_2 : Array Bool := #[true, true, false, false, false, false, false, false, false, false]
abbrev q16_3 : Array Bool := #[true, true, true, false, false, false, false, false, false, false]
abbrev q16_4 : Array Bool := #[true, true, true, false, true, false, false, false, false, false]
abbrev q16_5 : Array Bool := #[true, true, true, false, true, true, false, false, false, false]
abbrev q16_6 : Array Bool := #[true, true, true, true, true, true, false, false, false, false]
abbrev q16_7 : Array Bool := #[true, true, true, true, true, true, true, false, false, false]
abbrev q16_8 : Array Bool := #[true, true, true, true, true, true, true, true, false, false]
abbrev q16_9 : Array Bool := #[true, true, true, true, true, true, true, true, true, false]
abbrev q16_10 : Array Bool := #[true, true, true, true, true, true, true, true, true, true]
def impl_HexText.l0 : Nat → List Int → List Int → Int → Int → Option (ByteArray)
 | 0, _, _, _, _ => none
 | k + 1, x3, x10, x11, x12 => if x12 < x11 then (if 0 ≤ x12 then (if x12 < (x10.length : Int) then (if 0 ≤ ((rd x10 x12) / 16) then (if ((rd x10 x12) / 16) < 16 then (if 0 ≤ (Go.bits .and .u8 (rd x10 x12) 15) then (if (Go.bits .and .u8 (rd x10 x12) 15) < 16 then ((some (([bt (⟨#[48, 49, 50, 51, 52, 53, 54, 55, 56, 57, 97, 98, 99, 100, 101, 102]⟩ : ByteArray) ((rd x10 x12) / 16), bt (⟨#[48, 49, 50, 51, 52, 53, 54, 55, 56, 57, 97, 98, 99, 100, 101, 102]⟩ : ByteArray) (Go.bits .and .u8 (rd x10 x12) 15)] : List Int) : List Int)).bind fun y105 => (if x3.length + y105.length < 140737488355328 then (impl_HexText.l0 k (x3 ++ y105) x10 x11 (wrap64 (x12 + 1))) else (none))) else (none)) else (none)) else (none)) else (none)) else (none)) else (none)) else (some (strOfNums x3))
def impl_HexText.f (k : Nat) (l0 : List Int) : Option (ByteArray) := if 0 ≤ (wrap64 (2 * (l0.length : Int))) then (if (wrap64 (2 * (l0.length : Int)) : Int).toNat ≤ 281474976710656 then (impl_HexText.l0 k (([] : List Int)) l0 (l0.length : Int) 0) else (none)) else (none)
theorem impl_HexText.mono_l : ∀ k, (∀ y0 y1 y2 y3, LeO (impl_HexText.l0 k y0 y1 y2 y3) (impl_HexText.l0 (k + 1) y0 y1 y2 y3))
 | 0 => fun _ _ _ _ r h => by simp [impl_HexText.l0] at h
 | k + 1 => by
  have ih0 := impl_HexText.mono_l k
  ·
   intro y0 y1 y2 y3
   unfold impl_HexText.l0
   repeat' first | (with_reducible first | exact ih0 .. | exact LeO.refl .. | exact LeO.none .. | refine LeO.ite ?_ ?_ | refine LeO.bind ?_ (fun _ => ?_)) | exact ih0 .. | exact LeO.none .. | refine LeO.ite ?_ ?_ | refine LeO.bind ?_ (fun _ => ?_)
theorem impl_HexText.mono : ∀ a0 k, LeO (impl_HexText.f k a0) (impl_HexText.f (k + 1) a0) := by
 intro a0 k
 have ih0 := impl_HexText.mono_l k
 unfold impl_HexText.f
 repeat' first | (with_reducible first | exact ih0 .. | exact LeO.refl .. | exact LeO.none .. | refine LeO.ite ?_ ?_ | refine LeO.bind ?_ (fun _ => ?_)) | exact ih0 .. | exact LeO.none .. | refine LeO.ite ?_ ?_ | refine LeO.bind ?_ (fun _ => ?_)
def impl_HexText.T5 : Bool × List (List Nat × List Nat) := (true, [([], []), ([], []), ([1], [1]), ([2], [2]), ([], []), ([4], [4]), ([5], [5]), ([3, 6], [3, 6]), ([0, 7], [0, 7]), ([8, 8, 0, 1, 2, 3, 4, 5, 6, 7, 8], [0, 8])])
def impl_HexText.B5 : List Nat := [0, 0, 2, 6, 0, 16, 48, 126, 255, 511]
theorem impl_HexText.tab5 : rtab .any (opsOf Tryd.f16 5) = impl_HexText.T5 := by kernel_rfl
theorem impl_HexText.bits5 : waitsOk impl_HexText.T5.2 impl_HexText.B5 = true := by kernel_rfl
set_option maxHeartbeats 8000000 in
set_option maxRecDepth 100000 in
theorem impl_HexText.calls (k : Nat) (A0 : Option Addr) (c0 : Nat) (l0 : List Int) (r : ByteArray) (w : World) (hr0 : Kd.C (Kd.int .u8) w A0 l0.length l0) (hc0 : l0.length ≤ c0) (h : impl_HexText.f k l0 = some r) :
  Calls Tryd.prog 16 #[.slice A0 l0.length c0] w fun e w' => e = .returned (.string r) ∧ Below w.heap.size w w' := by
 have HR0 := yaa hr0; have HC0 := yaa hc0; clear hr0 hc0; have HB := yaa (Below.refl w.heap.size w); have H : (if 0 ≤ (wrap64 (2 * (l0.length : Int))) then (if (wrap64 (2 * (l0.length : Int)) : Int).toNat ≤ 281474976710656 then (impl_HexText.l0 k (([] : List Int)) l0 (l0.length : Int) 0) else (none)) else (none)) = some r := h; clear h; obtain ⟨ji2, hji2⟩ : ∃ j_ : Int, (wrap64 (2 * (l0.length : Int))) = j_ := ⟨_, rfl⟩
 replace H : (if 0 ≤ (ji2) then (if (ji2 : Int).toNat ≤ 281474976710656 then (impl_HexText.l0 k (([] : List Int)) l0 (l0.length : Int) 0) else (none)) else (none)) = some r := by first | (rw [hji2] at H; exact H) | (simp only [hji2] at H ⊢; exact H)
 have hji2w : (IntKind.i64.wrap (2 * (l0.length : Int))) = ji2 := (i64_w _).trans hji2
 by_cases c3 : 0 ≤ (ji2)
 ·
  rw [if_pos c3] at H
  have b0 := eq_true c3; replace c3 := decide_eq_true c3
  by_cases c4 : (ji2 : Int).toNat ≤ 281474976710656
  ·
   rw [if_pos c4] at H
   have b1 := eq_true c4; replace c4 := decide_eq_true c4; obtain ⟨y101, hy101⟩ : ∃ y_ : List Int, y_ = (([] : List Int)) := ⟨_, rfl⟩
   replace H : (impl_HexText.l0 k y101 l0 (l0.length : Int) 0) = some r := by first | (rw [hy101]; with_reducible exact H) | (have H2_ := (Option.bind_some _ _).symm.trans H; rw [hy101]; with_reducible exact H2_) | (have H2_ := (Option.bind_some _ _).symm.trans H; with_reducible exact H2_) | with_reducible exact H | (rw [hy101]; exact H) | exact H
   have Ny101 := yaa hy101; clear hy101; have H' := yaa H; clear H
   go_enter Tryd.func16, Tryd.ntmps16
   go_wp2_with (first | ((with_reducible refine gd_ 9 rfl ?_); refine Kd.R_make0 (Kd.int .u8) _ 5 rfl (N := 9) rfl 22 _ _ rfl ji2 rfl rfl Tryd.underlying22 (.int .u8 0) 1 info5 rfl (by decide) (by omega) 0 (ok := fun _ => True) (okp := fun _ => True) rfl (fun _ hk => hk) trivial (of_decide_eq_true (by assumption)) (Nat.le_trans (Nat.mul_le_mul_right _ (of_decide_eq_true (by assumption) : ji2.toNat ≤ 281474976710656)) (by omega)) (Below.refl _ _) (Nat.le_refl _) ?_; intro b6 w5 ho6 hb hg_ hnew_; clear hg_ hnew_; (first | rw [← Ny101.out] at ho6 | (simp only [Int.reduceToNat] at ho6; rw [← Ny101.out] at ho6)); have a7 := yaa (Kd.R_lower ho6 (below_size (upH HB.out))); replace HB := yaa (below_step (upH HB.out) hb); clear hb ho6))
   (try simp only [Act.put, List.setIfInBounds_toArray, List.set_cons_zero, List.set_cons_succ])
   go_loopg [3, 12] k (fun kq v3 v12 w' => ∃ (a2 : List Int) (a1 : Int), v12 = .int .i64 a1 ∧ Aside0 (impl_HexText.l0 kq a2 l0 (l0.length : Int) a1 = some r) ∧ Aside0 (kq ≤ k) ∧ Aside0 (Kd.R (Kd.int .u8) 5 w' w.heap.size (fun _ => True) v3 a2) ∧ Aside0 (Below w.heap.size w w'))
   case atStart => exact ⟨(y101), (0), (by first | rfl | (simp; done) | (simp [*]; done)), H', ⟨Nat.le_refl _⟩, ⟨by first | exact a7.out | exact upR a7.out⟩, ⟨upH HB.out⟩⟩
   case round =>
    clear H'; (try clear c1); (try clear p2); (try clear c3); (try clear b0); (try clear c3b1); (try clear c4); (try clear b1); (try clear c4b1); (try clear p6); obtain ⟨a2, a1, rfl, HA, HK1, a3, HB⟩ := hrel
    cases gk with
    | zero => exact absurd HA.out (by simp [impl_HexText.l0])
    | succ k1 =>
     have H := HA.out; clear HA
     simp only [impl_HexText.l0] at H
     by_cases c7 : a1 < (l0.length : Int)
     ·
      rw [if_pos c7] at H
      have b2 : decide (a1 < (l0.length : Int)) = true := decide_eq_true c7; clear c7
      by_cases c8 : 0 ≤ a1
      ·
       rw [if_pos c8] at H
       replace c8 := decide_eq_true c8
       by_cases c9 : a1 < (l0.length : Int)
       ·
        rw [if_pos c9] at H
        replace c9 := decide_eq_true c9; obtain ⟨ji10, hji10⟩ : ∃ j_ : Int, ((rd l0 a1) / 16) = j_ := ⟨_, rfl⟩
        replace H : (if 0 ≤ (ji10) then (if (ji10) < 16 then (if 0 ≤ (Go.bits .and .u8 (rd l0 a1) 15) then (if (Go.bits .and .u8 (rd l0 a1) 15) < 16 then ((some (([bt (⟨#[48, 49, 50, 51, 52, 53, 54, 55, 56, 57, 97, 98, 99, 100, 101, 102]⟩ : ByteArray) (ji10), bt (⟨#[48, 49, 50, 51, 52, 53, 54, 55, 56, 57, 97, 98, 99, 100, 101, 102]⟩ : ByteArray) (Go.bits .and .u8 (rd l0 a1) 15)] : List Int) : List Int)).bind fun y105 => (if a2.length + y105.length < 140737488355328 then (impl_HexText.l0 k1 (a2 ++ y105) l0 (l0.length : Int) (wrap64 (a1 + 1))) else (none))) else (none)) else (none)) else (none)) else (none)) = some r := by first | (rw [hji10] at H; exact H) | (simp only [hji10] at H ⊢; exact H)
        by_cases c11 : 0 ≤ (ji10)
        ·
         rw [if_pos c11] at H
         replace c11 := decide_eq_true c11
         by_cases c12 : (ji10) < 16
         ·
          rw [if_pos c12] at H
          replace c12 := decide_eq_true c12
          by_cases c14 : 0 ≤ (Go.bits .and .u8 (rd l0 a1) 15)
          ·
           rw [if_pos c14] at H
           replace c14 := decide_eq_true c14
           by_cases c15 : (Go.bits .and .u8 (rd l0 a1) 15) < 16
           ·
            rw [if_pos c15] at H
            replace c15 := decide_eq_true c15; obtain ⟨y105, hy105⟩ : ∃ y_ : List Int, y_ = (([bt (⟨#[48, 49, 50, 51, 52, 53, 54, 55, 56, 57, 97, 98, 99, 100, 101, 102]⟩ : ByteArray) (ji10), bt (⟨#[48, 49, 50, 51, 52, 53, 54, 55, 56, 57, 97, 98, 99, 100, 101, 102]⟩ : ByteArray) (Go.bits .and .u8 (rd l0 a1) 15)] : List Int)) := ⟨_, rfl⟩
            replace H : (if a2.length + y105.length < 140737488355328 then (impl_HexText.l0 k1 (a2 ++ y105) l0 (l0.length : Int) (wrap64 (a1 + 1))) else (none)) = some r := by first | (rw [hy105]; with_reducible exact H) | (have H2_ := (Option.bind_some _ _).symm.trans H; rw [hy105]; with_reducible exact H2_) | (have H2_ := (Option.bind_some _ _).symm.trans H; with_reducible exact H2_) | with_reducible exact H | (rw [hy105]; exact H) | exact H
            have Ny105 := yaa hy105; clear hy105
            by_cases c17 : a2.length + y105.length < 140737488355328
            ·
             rw [if_pos c17] at H
             have LMc17 := yaa c17; clear c17; obtain ⟨y108, hy108⟩ : ∃ y_ : List Int, y_ = (a2 ++ y105) := ⟨_, rfl⟩
             replace H : (impl_HexText.l0 k1 y108 l0 (l0.length : Int) (wrap64 (a1 + 1))) = some r := by first | (rw [hy108]; with_reducible exact H) | (have H2_ := (Option.bind_some _ _).symm.trans H; rw [hy108]; with_reducible exact H2_) | (have H2_ := (Option.bind_some _ _).symm.trans H; with_reducible exact H2_) | with_reducible exact H | (rw [hy108]; exact H) | exact H
             have Ny108 := yaa hy108; clear hy108; have H' := yaa H; clear H; have p104 : 0 ≤ (a1 : Int) := of_decide_eq_true (by assumption); have q104 : a1 < (l0.length : Int) := of_decide_eq_true (by assumption); obtain ⟨ad104, b3, a5⟩ := Kd.at_int HR0.out a1 p104 q104
             cases b3
             replace a5 := (upc_ HB.out a5 :); replace p104 := eq_true p104; replace q104 := eq_true q104
             try go_wp2
             replace a3 := yaa (Kd.R_drew a3.out); replace HB := yaa (below_drew1 HB.out); have p13 : 0 ≤ ((ji10) : Int) := of_decide_eq_true (by assumption); have q13 : (ji10) < (16 : Int) := of_decide_eq_true (by assumption); have b9 := bt_at (⟨#[48, 49, 50, 51, 52, 53, 54, 55, 56, 57, 97, 98, 99, 100, 101, 102]⟩ : ByteArray) (ji10); replace p13 := eq_true p13; replace q13 := eq_true q13; have p16 : 0 ≤ ((Go.bits .and .u8 (rd l0 a1) 15) : Int) := of_decide_eq_true (by assumption); have q16 : (Go.bits .and .u8 (rd l0 a1) 15) < (16 : Int) := of_decide_eq_true (by assumption); have c2 := bt_at (⟨#[48, 49, 50, 51, 52, 53, 54, 55, 56, 57, 97, 98, 99, 100, 101, 102]⟩ : ByteArray) (Go.bits .and .u8 (rd l0 a1) 15); replace p16 := eq_true p16; replace q16 := eq_true q16
             refine start_ (n := 10) (S := fun w' => True) (ds := []) q16_0 (by kernel_rfl) rfl rfl trivial (fun hHeld => ?_); refine with_tabW impl_HexText.tab5 impl_HexText.bits5 (fun HT_ HW_ => ?_)
             generalize wr.drew = w18 at a3 HB hHeld ⊢
             refine pz_ 0 16 q16_1 HT_ (by kernel_rfl) ?_
             refine pz_ 1 17 q16_2 HT_ (by kernel_rfl) ?_
             refine pz_ 2 18 q16_3 HT_ (by kernel_rfl) ?_
             refine pz_ 4 20 q16_4 HT_ (by kernel_rfl) ?_
             refine pz_ 5 21 q16_5 HT_ (by kernel_rfl) ?_
             refine take_ (i := 3) (N := some 19) (v := ?_) (a' := ?_) q16_6 rfl rfl (take_ofW HT_.out HW_.out (by kernel_rfl)) (fun _ _ _ h => h) (Or.inl ⟨by rfl, ?_⟩) hHeld ?_ ?_
             rotate_left
             ·
              intro w' _
              go_simp
              with_reducible rfl
             rotate_left
             ·
              simp only [Act.put, List.setIfInBounds_toArray, List.set_cons_zero, List.set_cons_succ, i64_w, i32_w]
              rfl
             refine take_ (i := 6) (N := some 22) (v := ?_) (a' := ?_) q16_7 rfl rfl (take_ofW HT_.out HW_.out (by kernel_rfl)) (fun _ _ _ h => h) (Or.inl ⟨by rfl, ?_⟩) hHeld ?_ ?_
             rotate_left
             ·
              intro w' _
              go_simp
              with_reducible rfl
             rotate_left
             ·
              simp only [Act.put, List.setIfInBounds_toArray, List.set_cons_zero, List.set_cons_succ, i64_w, i32_w]
              rfl
             refine one_ (i := 7) (N := some 23) q16_8 rfl rfl (one_of HT_.out (by kernel_rfl)) (by decide) (fun K hK => ?_)
             refine Kd.R_lit_step (Kd.int .u8) _ 5 ?hg (N := 23) ?hd (xs := ([bt (⟨#[48, 49, 50, 51, 52, 53, 54, 55, 56, 57, 97, 98, 99, 100, 101, 102]⟩ : ByteArray) (ji10), bt (⟨#[48, 49, 50, 51, 52, 53, 54, 55, 56, 57, 97, 98, 99, 100, 101, 102]⟩ : ByteArray) (Go.bits .and .u8 (rd l0 a1) 15)] : List Int)) (inner := [.int .u8 (bt (⟨#[48, 49, 50, 51, 52, 53, 54, 55, 56, 57, 97, 98, 99, 100, 101, 102]⟩ : ByteArray) (ji10)), .int .u8 (bt (⟨#[48, 49, 50, 51, 52, 53, 54, 55, 56, 57, 97, 98, 99, 100, 101, 102]⟩ : ByteArray) (Go.bits .and .u8 (rd l0 a1) 15))]) (ok := fun _ => True) (okp := fun _ => True) ?hr ?hp (fun _ hk => hk) trivial (Below.refl _ _) (Nat.le_refl _) (by simp) ?_; (case hd => rfl); (case hg => rfl); (case hr => first | (go_simp; done) | (go_simp; rfl)); (case hp => exact (Reps.one (show Kd.M (Kd.int .u8) _ _ _ (bt (⟨#[48, 49, 50, 51, 52, 53, 54, 55, 56, 57, 97, 98, 99, 100, 101, 102]⟩ : ByteArray) (ji10)) [.int .u8 (bt (⟨#[48, 49, 50, 51, 52, 53, 54, 55, 56, 57, 97, 98, 99, 100, 101, 102]⟩ : ByteArray) (ji10))] from rfl) (Reps.one (show Kd.M (Kd.int .u8) _ _ _ (bt (⟨#[48, 49, 50, 51, 52, 53, 54, 55, 56, 57, 97, 98, 99, 100, 101, 102]⟩ : ByteArray) (Go.bits .and .u8 (rd l0 a1) 15)) [.int .u8 (bt (⟨#[48, 49, 50, 51, 52, 53, 54, 55, 56, 57, 97, 98, 99, 100, 101, 102]⟩ : ByteArray) (Go.bits .and .u8 (rd l0 a1) 15))] from rfl) (Reps.none _ _))))
             intro c5 w19 a6 hb hg_ hnew_; clear hg_ hnew_
             (first | rw [← Ny105.out] at a6 | (simp only [Int.reduceToNat] at a6; rw [← Ny105.out] at a6))
             have a4 := yaa (Kd.R_lower (Kd.R_new' a6 (Kd.R_lt (upR a3.out))) (below_size (upH HB.out))); replace a3 := yaa (Kd.R_elder' (upR a3.out) (Kd.R_base a6) hb); replace HB := yaa (below_step (upH HB.out) hb); clear hb a6; obtain ⟨b4, b5, a8⟩ := Kd.R_slice a4.out
             (first | subst a8 | (injection a8 with f1_ f2_ f3_; have f4_ := f1_.symm; have f5_ := f3_.symm; clear f1_ f2_ f3_; subst f4_; subst f5_))
             refine hK.out _ _ trivial (fun hHeld => ?_)
             clear hK K
             refine norm_ (a' := ?_) ?_ ?_
             rotate_left
             ·
              show Act.put _ (some 23) _ = _
              simp only [Act.put, List.setIfInBounds_toArray, List.set_cons_zero, List.set_cons_succ, i64_w, i32_w]
              rfl
             refine one_ (i := 8) (N := some 24) q16_9 rfl rfl (one_of HT_.out (by kernel_rfl)) (by decide) (fun K hK => ?_)
             refine Kd.R_append_rows_step (Kd.int .u8) (w0 := w) w.heap.size (by rfl) (.tmp 16) (.tmp 23) 22 5 (.int .u8 0) 1 rfl Tryd.underlying22 info5 rfl (by decide) (by omega) u3 a2 y105 _ _ _ (fun k_ => some k_ ≠ (.slice b4 y105.length b5 : Value).ownBlock) (fun _ => False) rfl rfl ?aO ?aR (fun _ _ h => h) (fun _ h => h.elim) ?aF ?aB ?aS ?aL ?_
             (case aR => repeat (first | exact (Kd.R_reads' a4.out).2.2 | (with_reducible refine Kd.C_alloc ?_ _) | (with_reducible refine Kd.C_drewN ?_ _) | (with_reducible refine Kd.C_drew ?_)))
             (case aB => exact (upH HB.out))
             (case aF => exact (fun k_ hk => Kd.fresh' (Kd.R_lt (upR a4.out)) k_ hk))
             (case aO => exact (by (with_reducible repeat (first | apply Kd.R_alloc | apply Kd.R_drewN | apply Kd.R_drew)); exact Kd.R_mono a3.out (fun _ hk => by first | exact hk.2 | exact True.intro)))
             (case aS => exact (below_size (upH HB.out)))
             (case aL => have := LMc17.out; omega)
             intro c6 w21 ho hb hg hat
             rw [← Ny108.out] at ho
             replace a4 := yaa (Kd.R_after (ok := (fun _ => True)) (upR a4.out) hg hat); replace HB := yaa (hb); have a9 := yaa (ho); clear a3; clear ho hb hg hat
             refine hK.out _ _ trivial (fun hHeld => ?_)
             clear hK K
             refine norm_ (a' := ?_) ?_ ?_
             rotate_left
             ·
              show Act.put _ (some 24) _ = _
              simp only [Act.put, List.setIfInBounds_toArray, List.set_cons_zero, List.set_cons_succ, i64_w, i32_w]
              rfl
             refine pz_ 9 3 q16_10 HT_ (by kernel_rfl) ?_
             refine done_ (done_of HT_.out (by kernel_rfl)) ?_
             try go_wp2
             go_roundg k1
             case measure => have := HK1.out; omega
             case rel => exact ⟨(y108), (wrap64 (a1 + 1)), (by first | rfl | (simp; done) | (simp [*]; done)), H', ⟨by have := HK1.out; omega⟩, ⟨by (with_reducible repeat (first | apply Kd.R_alloc | apply Kd.R_drewN | apply Kd.R_drew)); exact Kd.R_mono a9.out (fun _ hk => trivial)⟩, ⟨upH HB.out⟩⟩
            ·
             rw [if_neg c17] at H
             exact absurd H (by simp)
           ·
            rw [if_neg c15] at H
            exact absurd H (by simp)
          ·
           rw [if_neg c14] at H
           exact absurd H (by simp)
         ·
          rw [if_neg c12] at H
          exact absurd H (by simp)
        ·
         rw [if_neg c11] at H
         exact absurd H (by simp)
       ·
        rw [if_neg c9] at H
        exact absurd H (by simp)
      ·
       rw [if_neg c8] at H
       exact absurd H (by simp)
     ·
      rw [if_neg c7] at H
      have b2 : decide (a1 < (l0.length : Int)) = false := decide_eq_false c7; clear c7; obtain rfl := Option.some.inj H; have hcv23 := own_string (P := Tryd.prog) Tryd.underlying22 Tryd.underlying5 Tryd.underlying9 (Kd.own_of_R a3.out)
      go_wp2
      go_ret
      exact ⟨by first | rfl | (simp [errW_none, errW_some] <;> rfl) | (simp only [← hji2]; first | rfl | (simp [errW_none, errW_some] <;> rfl)) | (simp [*, errW_none, errW_some] <;> rfl), upH HB.out⟩
  ·
   rw [if_neg c4] at H
   exact absurd H (by simp)
 ·
  rw [if_neg c3] at H
  exact absurd H (by simp)
end
section
open Go.Proofs.YtfinaphomgdmlaaDoorW.PrintWords.Aside0 renaming mk → yaa
open Go.Proofs.YtfinaphomgdmlaaDoorW.PrintWords.Kd renaming R_reads' → yab, R_elder' → yac, R_new' → yad, R_base → yae, R_lt → yaf, C_alloc → yag, C_drewN → yah, C_drew → yai, R_slice → yaj, R_below → yak
open Go.Proofs.YtfinaphomgdmlaaDoorW.PrintWords renaming below_step → yal

def laws_FnShaSum.j0 : Nat → List Int → List Int → Bool → Option (Bool)
 | 0, _, _, _ => none
 | k + 1, x3, x4, x29 => if x29 = true then (some false) else (if (x3.length : Int) > 500 then (some ((x4.length : Int) == 0)) else (if (x4.length : Int) = 32 then ((some (([] : List Int) : List Int)).bind fun y125 => (if y125.length + x3.length < 140737488355328 then ((impl_ShaSum.f (y125 ++ x3)).bind fun t131 => ((laws_eaBytes.f t131 x4).bind fun t134 => (some t134))) else (none))) else (some false)))
def laws_FnShaSum.f (k : Nat) (l0 : List Int) : Option (Bool) := if (l0.length : Int) > 1048576 then (some true) else ((spec_DrawShaSum.f k l0).bind fun t101 => ((impl_ShaSum.f t101).bind fun t104 => ((spec_ShaSum.f k t101).bind fun t107 => ((laws_eaBytes.f t104 t107).bind fun t110 => (if t110 = true then ((impl_ShaSum.f (([] : List Int))).bind fun t114 => ((impl_HexText.f k t114).bind fun t117 => (if t117.toList = ([101, 51, 98, 48, 99, 52, 52, 50, 57, 56, 102, 99, 49, 99, 49, 52, 57, 97, 102, 98, 102, 52, 99, 56, 57, 57, 54, 102, 98, 57, 50, 52, 50, 55, 97, 101, 52, 49, 101, 52, 54, 52, 57, 98, 57, 51, 52, 99, 97, 52, 57, 53, 57, 57, 49, 98, 55, 56, 53, 50, 98, 56, 53, 53] : List UInt8) then ((impl_ShaSum.f (([97, 98, 99] : List Int))).bind fun t121 => ((impl_HexText.f k t121).bind fun t124 => (laws_FnShaSum.j0 k t101 t104 (t124.toList != ([98, 97, 55, 56, 49, 54, 98, 102, 56, 102, 48, 49, 99, 102, 101, 97, 52, 49, 52, 49, 52, 48, 100, 101, 53, 100, 97, 101, 50, 50, 50, 51, 98, 48, 48, 51, 54, 49, 97, 51, 57, 54, 49, 55, 55, 97, 57, 99, 98, 52, 49, 48, 102, 102, 54, 49, 102, 50, 48, 48, 49, 53, 97, 100] : List UInt8))))) else (laws_FnShaSum.j0 k t101 t104 true)))) else (laws_FnShaSum.j0 k t101 t104 true))))))
set_option maxHeartbeats 8000000 in
set_option maxRecDepth 100000 in
theorem laws_FnShaSum.calls (k : Nat) (A0 : Option Addr) (c0 : Nat) (l0 : List Int) (r : Bool) (w : World) (hr0 : Kd.C (Kd.int .u8) w A0 l0.length l0) (hc0 : l0.length ≤ c0) (h : laws_FnShaSum.f k l0 = some r) (hrt : r = true) (hG : Glob w) :
  Calls Tryd.prog 4 #[.slice A0 l0.length c0] w fun e w' => e = .returned (.bool r) ∧ Below w.heap.size w w' := by
 have HG := yaa hG; clear hG; have HR0 := yaa hr0; have HC0 := yaa hc0; clear hr0 hc0; have HB := yaa (Below.refl w.heap.size w); have H : (if (l0.length : Int) > 1048576 then (some true) else ((spec_DrawShaSum.f k l0).bind fun a5 => ((impl_ShaSum.f a5).bind fun a7 => ((spec_ShaSum.f k a5).bind fun b0 => ((laws_eaBytes.f a7 b0).bind fun d3 => (if d3 = true then ((impl_ShaSum.f (([] : List Int))).bind fun c3 => ((impl_HexText.f k c3).bind fun c5 => (if c5.toList = ([101, 51, 98, 48, 99, 52, 52, 50, 57, 56, 102, 99, 49, 99, 49, 52, 57, 97, 102, 98, 102, 52, 99, 56, 57, 57, 54, 102, 98, 57, 50, 52, 50, 55, 97, 101, 52, 49, 101, 52, 54, 52, 57, 98, 57, 51, 52, 99, 97, 52, 57, 53, 57, 57, 49, 98, 55, 56, 53, 50, 98, 56, 53, 53] : List UInt8) then ((impl_ShaSum.f (([97, 98, 99] : List Int))).bind fun c7 => ((impl_HexText.f k c7).bind fun c9 => (laws_FnShaSum.j0 k a5 a7 (c9.toList != ([98, 97, 55, 56, 49, 54, 98, 102, 56, 102, 48, 49, 99, 102, 101, 97, 52, 49, 52, 49, 52, 48, 100, 101, 53, 100, 97, 101, 50, 50, 50, 51, 98, 48, 48, 51, 54, 49, 97, 51, 57, 54, 49, 55, 55, 97, 57, 99, 98, 52, 49, 48, 102, 102, 54, 49, 102, 50, 48, 48, 49, 53, 97, 100] : List UInt8))))) else (laws_FnShaSum.j0 k a5 a7 true)))) else (laws_FnShaSum.j0 k a5 a7 true))))))) = some r := h; clear h
 by_cases c2 : (l0.length : Int) > 1048576
 ·
  rw [if_pos c2] at H
  have d5 : decide (1048576 < (l0.length : Int)) = true := decide_eq_true c2; have d6 : decide (1048576 < l0.length) = true := decide_eq_true (by omega); clear c2; obtain rfl := Option.some.inj H
  go_enter Tryd.func4, Tryd.ntmps4
  go_wp2
  go_ret
  exact ⟨by first | rfl | (simp [*, errW_none, errW_some] <;> rfl), upH HB.out⟩
 ·
  rw [if_neg c2] at H
  have d5 : decide (1048576 < (l0.length : Int)) = false := decide_eq_false c2; have d6 : decide (1048576 < l0.length) = false := decide_eq_false (by omega); clear c2; obtain ⟨a5, A3, H⟩ := bindA H; (try dsimp only at H); obtain ⟨a7, A4, H⟩ := bindA H; (try dsimp only at H); have HC5 := yaa H; clear H
  go_enter Tryd.func4, Tryd.ntmps4
  go_upto_region 5 with (first | ((with_reducible refine gc_ 14 rfl ?_); refine gl_ (some 9) rfl Tryd.func14 #[.slice A0 l0.length c0] ?_; (with_reducible refine (spec_DrawShaSum.calls k _ _ l0 a5 _ ?side1 ?side2 A3.out).mono ?_); (case side1 => repeat (first | exact HR0.out | (with_reducible refine yag ?_ _) | (with_reducible refine yah ?_ _) | (with_reducible refine yai ?_))); (case side2 => exact HC0.out); rintro e w6 ⟨h7, rfl, ho0, hb⟩; refine ⟨_, rfl, ?_⟩; have a1 := yaa (Kd.R_lower ho0 (below_size (upH HB.out))); replace HB := yaa (yal (upH HB.out) hb); (try clear hb ho0); obtain ⟨Ao7, co7, eo7⟩ := yaj a1.out; subst eo7) | ((with_reducible refine gc_ 10 rfl ?_); refine gl_ (some 11) rfl Tryd.func10 #[.slice Ao7 a5.length co7] ?_; (with_reducible refine (impl_ShaSum.calls _ _ a5 a7 _ ?side1 ?side2 A4.out ?sideG).mono ?_); (case sideG => exact Glob.belowW HG.out (upH HB.out)); (case side1 => repeat (first | exact (yab a1.out).2.2 | (with_reducible refine yag ?_ _) | (with_reducible refine yah ?_ _) | (with_reducible refine yai ?_))); (case side2 => exact (yab a1.out).2.1); rintro e w8 ⟨d7, rfl, ho0, hb⟩; refine ⟨_, rfl, ?_⟩; have a2 := yaa (Kd.R_lower (yad ho0 (yaf (upR a1.out))) (below_size (upH HB.out))); replace a1 := yaa (yac (upR a1.out) (yae ho0) hb); replace HB := yaa (yal (upH HB.out) hb); (try clear hb ho0)))
  (try simp only [Act.put, List.setIfInBounds_toArray, List.set_cons_zero, List.set_cons_succ])
  go_cut [29] (fun v29 wc => ∃ (kq : Nat) (b9 : Bool), v29 = .bool b9 ∧ Aside0 (laws_FnShaSum.j0 kq a5 a7 b9 = some r) ∧ Aside0 (kq ≤ k) ∧ Aside0 (Kd.R (Kd.int .u8) 5 wc w.heap.size (fun k_ => some k_ ≠ (d7 : Value).ownBlock) (.slice Ao7 a5.length co7) a5) ∧ Aside0 (Kd.R (Kd.int .u8) 5 wc w.heap.size (fun k_ => some k_ ≠ ((.slice Ao7 a5.length co7) : Value).ownBlock) d7 a7) ∧ Aside0 (Below w.heap.size w wc))
  case first =>
   have H := HC5.out; clear HC5; obtain ⟨b0, A9, H⟩ := bindA H; (try dsimp only at H); obtain ⟨d3, A10, H⟩ := bindA H; (try dsimp only at H)
   by_cases c11 : d3 = true
   ·
    subst c11
    rw [if_pos rfl] at H
    obtain ⟨y111, hy111⟩ : ∃ y_ : List Int, y_ = (([] : List Int)) := ⟨_, rfl⟩
    conv at H => enter [1, 1, 1]; rw [← hy111]
    have Ny111 := yaa hy111; clear hy111; obtain ⟨c3, A12, H⟩ := bindA H; (try dsimp only at H); obtain ⟨c5, A13, H⟩ := bindA H; (try dsimp only at H)
    by_cases c14 : c5.toList = ([101, 51, 98, 48, 99, 52, 52, 50, 57, 56, 102, 99, 49, 99, 49, 52, 57, 97, 102, 98, 102, 52, 99, 56, 57, 57, 54, 102, 98, 57, 50, 52, 50, 55, 97, 101, 52, 49, 101, 52, 54, 52, 57, 98, 57, 51, 52, 99, 97, 52, 57, 53, 57, 57, 49, 98, 55, 56, 53, 50, 98, 56, 53, 53] : List UInt8)
    ·
     rw [if_pos c14] at H
     have b3 := beq_iff_eq.mpr c14; have d1 := bne_eq_false_iff_eq.mpr c14; clear c14
     (first | rw [b3] | (simp only [i64_w, i32_w]; rw [b3]) | skip)
     obtain ⟨y118, hy118⟩ : ∃ y_ : List Int, y_ = (([97, 98, 99] : List Int)) := ⟨_, rfl⟩
     conv at H => enter [1, 1, 1]; rw [← hy118]
     have Ny118 := yaa hy118; clear hy118; obtain ⟨c7, A15, H⟩ := bindA H; (try dsimp only at H); obtain ⟨c9, A16, H⟩ := bindA H; (try dsimp only at H); have H' := yaa H; clear H
     go_wp2_with (first | ((with_reducible refine gc_ 8 rfl ?_); refine gl_ (some 14) rfl Tryd.func8 #[.slice Ao7 a5.length co7] ?_; (with_reducible refine (spec_ShaSum.calls k _ _ a5 b0 _ ?side1 ?side2 A9.out).mono ?_); (case side1 => repeat (first | exact (yab a1.out).2.2 | (with_reducible refine yag ?_ _) | (with_reducible refine yah ?_ _) | (with_reducible refine yai ?_))); (case side2 => exact (yab a1.out).2.1); rintro e w17 ⟨d8, rfl, ho0, hb⟩; refine ⟨_, rfl, ?_⟩; have a3 := yaa (Kd.R_lower (yad (yad ho0 (yaf (upR a1.out))) (yaf (upR a2.out))) (below_size (upH HB.out))); replace a1 := yaa (yac (upR a1.out) (yae ho0) hb); replace a2 := yaa (yac (upR a2.out) (yae ho0) hb); replace HB := yaa (yal (upH HB.out) hb); (try clear hb ho0); obtain ⟨e5, e6, e7⟩ := yaj a2.out; subst e7; obtain ⟨e8, e9, f0⟩ := yaj a3.out; subst f0) | ((with_reducible refine gc_ 15 rfl ?_); refine gl_ (some 15) rfl Tryd.func15 #[.slice e5 a7.length e6, .slice e8 b0.length e9] ?_; (with_reducible refine (laws_eaBytes.calls _ _ a7 _ _ b0 true _ ?side1 ?side2 ?side3 ?side4 A10.out).mono ?_); (case side1 => repeat (first | exact (yab a2.out).2.2 | (with_reducible refine yag ?_ _) | (with_reducible refine yah ?_ _) | (with_reducible refine yai ?_))); (case side2 => exact (yab a2.out).2.1); (case side3 => repeat (first | exact (yab a3.out).2.2 | (with_reducible refine yag ?_ _) | (with_reducible refine yah ?_ _) | (with_reducible refine yai ?_))); (case side4 => exact (yab a3.out).2.1); rintro e w' ⟨rfl, ⟨nd, rfl⟩⟩; refine ⟨_, rfl, ?_⟩) | ((with_reducible refine gd_ 18 rfl ?_); (try (refine gate_guard (by rfl) ?_; dsimp only)); refine Kd.R_lit (Kd.int .u8) _ 5 ?hg (N := 18) ?hd (xs := ([] : List Int)) (inner := []) (ok := fun _ => True) (okp := fun _ => True) ?hr ?hp (fun _ hk => hk) trivial (Below.refl _ _) (Nat.le_refl _) (by simp) ?_; (case hd => rfl); (case hg => rfl); (case hr => first | (go_simp; done) | (go_simp; rfl)); (case hp => exact (Reps.none _ _)); intro f1 w20 b5 hb hg_ hnew_; clear hg_ hnew_; (first | rw [← Ny111.out] at b5 | (simp only [Int.reduceToNat] at b5; rw [← Ny111.out] at b5)); have a4 := yaa (Kd.R_lower (yad (yad (yad b5 (yaf (upR a1.out))) (yaf (upR a2.out))) (yaf (upR a3.out))) (below_size (upH HB.out))); replace a1 := yaa (yac (upR a1.out) (yae b5) hb); replace a2 := yaa (yac (upR a2.out) (yae b5) hb); replace a3 := yaa (yac (upR a3.out) (yae b5) hb); replace HB := yaa (yal (upH HB.out) hb); clear hb b5; obtain ⟨h8, h9, f2⟩ := yaj a4.out; subst f2) | (go_at_call 10; (with_reducible refine (impl_ShaSum.calls _ _ y111 c3 _ ?side1 ?side2 A12.out ?sideG).mono ?_); (case sideG => exact Glob.belowW HG.out (upH HB.out)); (case side1 => repeat (first | exact (yab a4.out).2.2 | (with_reducible refine yag ?_ _) | (with_reducible refine yah ?_ _) | (with_reducible refine yai ?_))); (case side2 => exact (yab a4.out).2.1); rintro e w23 ⟨f3, rfl, ho0, hb⟩; have a6 := yaa (Kd.R_lower (yad (yad (yad (yad ho0 (yaf (upR a1.out))) (yaf (upR a2.out))) (yaf (upR a3.out))) (yaf (upR a4.out))) (below_size (upH HB.out))); replace a1 := yaa (yac (upR a1.out) (yae ho0) hb); replace a2 := yaa (yac (upR a2.out) (yae ho0) hb); replace a3 := yaa (yac (upR a3.out) (yae ho0) hb); replace a4 := yaa (yac (upR a4.out) (yae ho0) hb); replace HB := yaa (yal (upH HB.out) hb); (try clear hb ho0); obtain ⟨i0, i1, f4⟩ := yaj a6.out; subst f4) | (go_at_call 16; (with_reducible refine (impl_HexText.calls k _ _ c3 c5 _ ?side1 ?side2 A13.out).mono ?_); (case side1 => repeat (first | exact (yab a6.out).2.2 | (with_reducible refine yag ?_ _) | (with_reducible refine yah ?_ _) | (with_reducible refine yai ?_))); (case side2 => exact (yab a6.out).2.1); rintro e w25 ⟨rfl, hb⟩; replace a1 := yaa (yak (upR a1.out) hb); replace a2 := yaa (yak (upR a2.out) hb); replace a3 := yaa (yak (upR a3.out) hb); replace a4 := yaa (yak (upR a4.out) hb); replace a6 := yaa (yak (upR a6.out) hb); replace HB := yaa (yal (upH HB.out) hb); (try clear hb)) | ((with_reducible refine gd_ 24 rfl ?_); (try (refine gate_guard (by rfl) ?_; dsimp only)); refine lit3_ 24 rfl rfl ?hr ?_; (case hr => first | (go_simp; done) | (go_simp; rfl)); intro gz wz hgz hwz; have Hgz := yaa hgz; have Hwz := yaa hwz; clear hgz hwz) | ((with_reducible refine gd_ 25 rfl ?_); (try (refine gate_guard (by rfl) ?_; dsimp only)); refine conv3_ 25 (.tmp 24) rfl rfl rfl rfl Hgz.out Hwz.out ?_; intro wy hb hba hC; have a9 := yaa hC; replace a1 := yaa (yac (upR a1.out) hba hb); replace a2 := yaa (yac (upR a2.out) hba hb); replace a3 := yaa (yac (upR a3.out) hba hb); replace a4 := yaa (yac (upR a4.out) hba hb); replace a6 := yaa (yac (upR a6.out) hba hb); replace HB := yaa (yal (upH HB.out) hb); clear hb hba hC) | (go_at_call 10; (refine (impl_ShaSum.calls _ _ ([97, 98, 99] : List Int) c7 _ ?side1 ?side2 (by rw [← Ny118.out]; exact A15.out) ?sideG).mono ?_); (case sideG => exact Glob.belowW HG.out (upH HB.out)); (case side1 => repeat (first | exact a9.out | (with_reducible refine yag ?_ _) | (with_reducible refine yah ?_ _) | (with_reducible refine yai ?_))); (case side2 => exact Nat.le_refl _); rintro e w29 ⟨i5, rfl, ho0, hb⟩; have b6 := yaa (Kd.R_lower (yad (yad (yad (yad (yad ho0 (yaf (upR a1.out))) (yaf (upR a2.out))) (yaf (upR a3.out))) (yaf (upR a4.out))) (yaf (upR a6.out))) (below_size (upH HB.out))); replace a1 := yaa (yac (upR a1.out) (yae ho0) hb); replace a2 := yaa (yac (upR a2.out) (yae ho0) hb); replace a3 := yaa (yac (upR a3.out) (yae ho0) hb); replace a4 := yaa (yac (upR a4.out) (yae ho0) hb); replace a6 := yaa (yac (upR a6.out) (yae ho0) hb); replace HB := yaa (yal (upH HB.out) hb); (try clear hb ho0); obtain ⟨i6, i7, f6⟩ := yaj b6.out; subst f6) | (go_at_call 16; (with_reducible refine (impl_HexText.calls k _ _ c7 c9 _ ?side1 ?side2 A16.out).mono ?_); (case side1 => repeat (first | exact (yab b6.out).2.2 | (with_reducible refine yag ?_ _) | (with_reducible refine yah ?_ _) | (with_reducible refine yai ?_))); (case side2 => exact (yab b6.out).2.1); rintro e w31 ⟨rfl, hb⟩; replace a1 := yaa (yak (upR a1.out) hb); replace a2 := yaa (yak (upR a2.out) hb); replace a3 := yaa (yak (upR a3.out) hb); replace a4 := yaa (yak (upR a4.out) hb); replace a6 := yaa (yak (upR a6.out) hb); replace b6 := yaa (yak (upR b6.out) hb); replace HB := yaa (yal (upH HB.out) hb); (try clear hb)))
     go_meet
     case rel => exact ⟨_, ((c9.toList != ([98, 97, 55, 56, 49, 54, 98, 102, 56, 102, 48, 49, 99, 102, 101, 97, 52, 49, 52, 49, 52, 48, 100, 101, 53, 100, 97, 101, 50, 50, 50, 51, 98, 48, 48, 51, 54, 49, 97, 51, 57, 54, 49, 55, 55, 97, 57, 99, 98, 52, 49, 48, 102, 102, 54, 49, 102, 50, 48, 48, 49, 53, 97, 100] : List UInt8))), (by first | rfl | (simp; done) | (simp [*]; done)), H', ⟨by first | omega | exact Nat.le_refl _⟩, ⟨by (with_reducible repeat (first | apply Kd.R_alloc | apply Kd.R_drewN | apply Kd.R_drew)); exact Kd.R_mono a1.out (fun _ hk => hk.1.1.1.1.1.2)⟩, ⟨by (with_reducible repeat (first | apply Kd.R_alloc | apply Kd.R_drewN | apply Kd.R_drew)); exact Kd.R_mono a2.out (fun _ hk => hk.1.1.1.1.1.2)⟩, ⟨upH HB.out⟩⟩
    ·
     rw [if_neg c14] at H
     have b3 := beq_eq_false_iff_ne.mpr c14; have d1 := bne_iff_ne.mpr c14
     (first | rw [b3] | (simp only [i64_w, i32_w]; rw [b3]) | skip)
     have H' := yaa H; clear H
     go_wp2_with (first | ((with_reducible refine gc_ 8 rfl ?_); refine gl_ (some 14) rfl Tryd.func8 #[.slice Ao7 a5.length co7] ?_; (with_reducible refine (spec_ShaSum.calls k _ _ a5 b0 _ ?side1 ?side2 A9.out).mono ?_); (case side1 => repeat (first | exact (yab a1.out).2.2 | (with_reducible refine yag ?_ _) | (with_reducible refine yah ?_ _) | (with_reducible refine yai ?_))); (case side2 => exact (yab a1.out).2.1); rintro e w32 ⟨d8, rfl, ho0, hb⟩; refine ⟨_, rfl, ?_⟩; have a3 := yaa (Kd.R_lower (yad (yad ho0 (yaf (upR a1.out))) (yaf (upR a2.out))) (below_size (upH HB.out))); replace a1 := yaa (yac (upR a1.out) (yae ho0) hb); replace a2 := yaa (yac (upR a2.out) (yae ho0) hb); replace HB := yaa (yal (upH HB.out) hb); (try clear hb ho0); obtain ⟨f7, f8, f9⟩ := yaj a2.out; subst f9; obtain ⟨g0, g1, g2⟩ := yaj a3.out; subst g2) | ((with_reducible refine gc_ 15 rfl ?_); refine gl_ (some 15) rfl Tryd.func15 #[.slice f7 a7.length f8, .slice g0 b0.length g1] ?_; (with_reducible refine (laws_eaBytes.calls _ _ a7 _ _ b0 true _ ?side1 ?side2 ?side3 ?side4 A10.out).mono ?_); (case side1 => repeat (first | exact (yab a2.out).2.2 | (with_reducible refine yag ?_ _) | (with_reducible refine yah ?_ _) | (with_reducible refine yai ?_))); (case side2 => exact (yab a2.out).2.1); (case side3 => repeat (first | exact (yab a3.out).2.2 | (with_reducible refine yag ?_ _) | (with_reducible refine yah ?_ _) | (with_reducible refine yai ?_))); (case side4 => exact (yab a3.out).2.1); rintro e w' ⟨rfl, ⟨nd, rfl⟩⟩; refine ⟨_, rfl, ?_⟩) | ((with_reducible refine gd_ 18 rfl ?_); (try (refine gate_guard (by rfl) ?_; dsimp only)); refine Kd.R_lit (Kd.int .u8) _ 5 ?hg (N := 18) ?hd (xs := ([] : List Int)) (inner := []) (ok := fun _ => True) (okp := fun _ => True) ?hr ?hp (fun _ hk => hk) trivial (Below.refl _ _) (Nat.le_refl _) (by simp) ?_; (case hd => rfl); (case hg => rfl); (case hr => first | (go_simp; done) | (go_simp; rfl)); (case hp => exact (Reps.none _ _)); intro f1 w35 b7 hb hg_ hnew_; clear hg_ hnew_; (first | rw [← Ny111.out] at b7 | (simp only [Int.reduceToNat] at b7; rw [← Ny111.out] at b7)); have a4 := yaa (Kd.R_lower (yad (yad (yad b7 (yaf (upR a1.out))) (yaf (upR a2.out))) (yaf (upR a3.out))) (below_size (upH HB.out))); replace a1 := yaa (yac (upR a1.out) (yae b7) hb); replace a2 := yaa (yac (upR a2.out) (yae b7) hb); replace a3 := yaa (yac (upR a3.out) (yae b7) hb); replace HB := yaa (yal (upH HB.out) hb); clear hb b7; obtain ⟨i8, i9, g3⟩ := yaj a4.out; subst g3) | (go_at_call 10; (with_reducible refine (impl_ShaSum.calls _ _ y111 c3 _ ?side1 ?side2 A12.out ?sideG).mono ?_); (case sideG => exact Glob.belowW HG.out (upH HB.out)); (case side1 => repeat (first | exact (yab a4.out).2.2 | (with_reducible refine yag ?_ _) | (with_reducible refine yah ?_ _) | (with_reducible refine yai ?_))); (case side2 => exact (yab a4.out).2.1); rintro e w38 ⟨f3, rfl, ho0, hb⟩; have a6 := yaa (Kd.R_lower (yad (yad (yad (yad ho0 (yaf (upR a1.out))) (yaf (upR a2.out))) (yaf (upR a3.out))) (yaf (upR a4.out))) (below_size (upH HB.out))); replace a1 := yaa (yac (upR a1.out) (yae ho0) hb); replace a2 := yaa (yac (upR a2.out) (yae ho0) hb); replace a3 := yaa (yac (upR a3.out) (yae ho0) hb); replace a4 := yaa (yac (upR a4.out) (yae ho0) hb); replace HB := yaa (yal (upH HB.out) hb); (try clear hb ho0); obtain ⟨j1, j2, g4⟩ := yaj a6.out; subst g4) | (go_at_call 16; (with_reducible refine (impl_HexText.calls k _ _ c3 c5 _ ?side1 ?side2 A13.out).mono ?_); (case side1 => repeat (first | exact (yab a6.out).2.2 | (with_reducible refine yag ?_ _) | (with_reducible refine yah ?_ _) | (with_reducible refine yai ?_))); (case side2 => exact (yab a6.out).2.1); rintro e w40 ⟨rfl, hb⟩; replace a1 := yaa (yak (upR a1.out) hb); replace a2 := yaa (yak (upR a2.out) hb); replace a3 := yaa (yak (upR a3.out) hb); replace a4 := yaa (yak (upR a4.out) hb); replace a6 := yaa (yak (upR a6.out) hb); replace HB := yaa (yal (upH HB.out) hb); (try clear hb)))
     go_meet
     case rel => exact ⟨_, (true), (by first | rfl | (simp; done) | (simp [*]; done)), H', ⟨by first | omega | exact Nat.le_refl _⟩, ⟨by (with_reducible repeat (first | apply Kd.R_alloc | apply Kd.R_drewN | apply Kd.R_drew)); exact Kd.R_mono a1.out (fun _ hk => hk.1.1.1.2)⟩, ⟨by (with_reducible repeat (first | apply Kd.R_alloc | apply Kd.R_drewN | apply Kd.R_drew)); exact Kd.R_mono a2.out (fun _ hk => hk.1.1.1.2)⟩, ⟨upH HB.out⟩⟩
   ·
    replace c11 := Bool.eq_false_iff.mpr c11
    subst c11
    rw [if_neg (show ¬ (false = true) by decide)] at H
    have H' := yaa H; clear H
    go_wp2_with (first | ((with_reducible refine gc_ 8 rfl ?_); refine gl_ (some 14) rfl Tryd.func8 #[.slice Ao7 a5.length co7] ?_; (with_reducible refine (spec_ShaSum.calls k _ _ a5 b0 _ ?side1 ?side2 A9.out).mono ?_); (case side1 => repeat (first | exact (yab a1.out).2.2 | (with_reducible refine yag ?_ _) | (with_reducible refine yah ?_ _) | (with_reducible refine yai ?_))); (case side2 => exact (yab a1.out).2.1); rintro e w41 ⟨d8, rfl, ho0, hb⟩; refine ⟨_, rfl, ?_⟩; have a3 := yaa (Kd.R_lower (yad (yad ho0 (yaf (upR a1.out))) (yaf (upR a2.out))) (below_size (upH HB.out))); replace a1 := yaa (yac (upR a1.out) (yae ho0) hb); replace a2 := yaa (yac (upR a2.out) (yae ho0) hb); replace HB := yaa (yal (upH HB.out) hb); (try clear hb ho0); obtain ⟨g5, g6, g7⟩ := yaj a2.out; subst g7; obtain ⟨g8, g9, h0⟩ := yaj a3.out; subst h0) | ((with_reducible refine gc_ 15 rfl ?_); refine gl_ (some 15) rfl Tryd.func15 #[.slice g5 a7.length g6, .slice g8 b0.length g9] ?_; (with_reducible refine (laws_eaBytes.calls _ _ a7 _ _ b0 false _ ?side1 ?side2 ?side3 ?side4 A10.out).mono ?_); (case side1 => repeat (first | exact (yab a2.out).2.2 | (with_reducible refine yag ?_ _) | (with_reducible refine yah ?_ _) | (with_reducible refine yai ?_))); (case side2 => exact (yab a2.out).2.1); (case side3 => repeat (first | exact (yab a3.out).2.2 | (with_reducible refine yag ?_ _) | (with_reducible refine yah ?_ _) | (with_reducible refine yai ?_))); (case side4 => exact (yab a3.out).2.1); rintro e w' ⟨rfl, ⟨nd, rfl⟩⟩; refine ⟨_, rfl, ?_⟩))
    go_meet
    case rel => exact ⟨_, (true), (by first | rfl | (simp; done) | (simp [*]; done)), H', ⟨by first | omega | exact Nat.le_refl _⟩, ⟨by (with_reducible repeat (first | apply Kd.R_alloc | apply Kd.R_drewN | apply Kd.R_drew)); exact Kd.R_mono a1.out (fun _ hk => hk.1.2)⟩, ⟨by (with_reducible repeat (first | apply Kd.R_alloc | apply Kd.R_drewN | apply Kd.R_drew)); exact Kd.R_mono a2.out (fun _ hk => hk.1.2)⟩, ⟨upH HB.out⟩⟩
  case rest =>
   clear HC5; (try clear c1); (try clear c2); (try clear d5); (try clear d6); (try clear p2); (try clear c4); (try clear c8); (try clear c10); (try clear c11); (try clear c14); (try clear b3); (try clear d1); (try clear c15); obtain ⟨kq, b9, rfl, HA, HJ4, b2, a8, HB⟩ := hcut
   cases kq with
   | zero => exact absurd HA.out (by simp [laws_FnShaSum.j0])
   | succ kj4 =>
    have H := HA.out; clear HA
    simp only [laws_FnShaSum.j0] at H
    by_cases c44 : b9 = true
    ·
     subst c44
     rw [if_pos rfl] at H
     rw [hrt] at H
     exact absurd H (by simp)
    ·
     replace c44 := Bool.eq_false_iff.mpr c44
     subst c44
     rw [if_neg (show ¬ (false = true) by decide)] at H
     by_cases c45 : (a5.length : Int) > 500
     ·
      rw [if_pos c45] at H
      have d9 : decide (500 < (a5.length : Int)) = true := decide_eq_true c45; have e0 : decide (500 < a5.length) = true := decide_eq_true (by omega); clear c45; obtain rfl := Option.some.inj H; obtain ⟨j3, j4, h2⟩ := yaj a8.out; subst h2
      go_wp2
      go_ret
      exact ⟨by first | rfl | (simp [*, errW_none, errW_some] <;> rfl), upH HB.out⟩
     ·
      rw [if_neg c45] at H
      have d9 : decide (500 < (a5.length : Int)) = false := decide_eq_false c45; have e0 : decide (500 < a5.length) = false := decide_eq_false (by omega); clear c45
      by_cases c47 : (a7.length : Int) = 32
      ·
       rw [if_pos c47] at H
       have e1 := beq_iff_eq.mpr c47; have e2 := bne_eq_false_iff_eq.mpr c47; clear c47; obtain ⟨y125, hy125⟩ : ∃ y_ : List Int, y_ = (([] : List Int)) := ⟨_, rfl⟩
       replace H : (if y125.length + a5.length < 140737488355328 then ((impl_ShaSum.f (y125 ++ a5)).bind fun d0 => ((laws_eaBytes.f d0 a7).bind fun d4 => (some d4))) else (none)) = some r := by first | (rw [hy125]; with_reducible exact H) | (have H2_ := (Option.bind_some _ _).symm.trans H; rw [hy125]; with_reducible exact H2_) | (have H2_ := (Option.bind_some _ _).symm.trans H; with_reducible exact H2_) | with_reducible exact H | (rw [hy125]; exact H) | exact H
       have Ny125 := yaa hy125; clear hy125
       by_cases c48 : y125.length + a5.length < 140737488355328
       ·
        rw [if_pos c48] at H
        have LMc48 := yaa c48; clear c48; obtain ⟨y128, hy128⟩ : ∃ y_ : List Int, y_ = (y125 ++ a5) := ⟨_, rfl⟩
        conv at H => enter [1, 1, 1]; rw [← hy128]
        have Ny128 := yaa hy128; clear hy128; obtain ⟨d0, A49, H⟩ := bindA H; (try dsimp only at H); obtain ⟨d4, A50, H⟩ := bindA H; (try dsimp only at H); obtain rfl := Option.some.inj H; obtain ⟨e3, e4, h3⟩ := yaj a8.out; subst h3
        go_wp2_with (first | ((with_reducible refine gd_ 40 rfl ?_); (try (refine gate_guard (by rfl) ?_; dsimp only)); refine Kd.R_lit (Kd.int .u8) _ 5 ?hg (N := 40) ?hd (xs := ([] : List Int)) (inner := []) (ok := fun _ => True) (okp := fun _ => True) ?hr ?hp (fun _ hk => hk) trivial (Below.refl _ _) (Nat.le_refl _) (by simp) ?_; (case hd => rfl); (case hg => rfl); (case hr => first | (go_simp; done) | (go_simp; rfl)); (case hp => exact (Reps.none _ _)); intro h4 w52 b8 hb hg_ hnew_; clear hg_ hnew_; (first | rw [← Ny125.out] at b8 | (simp only [Int.reduceToNat] at b8; rw [← Ny125.out] at b8)); have d2 := yaa (Kd.R_lower (yad (yad b8 (yaf (upR b2.out))) (yaf (upR a8.out))) (below_size (upH HB.out))); replace b2 := yaa (yac (upR b2.out) (yae b8) hb); replace a8 := yaa (yac (upR a8.out) (yae b8) hb); replace HB := yaa (yal (upH HB.out) hb); clear hb b8) | ((with_reducible refine gate_builtin (b := .append) (xs := #[.tmp 40, .tmp 41]) rfl ?_); (try (refine gate_guard (by rfl) ?_; dsimp only)); at_builtin; refine Kd.R_append_rows (Kd.int .u8) (w0 := w) w.heap.size rfl (.tmp 40) (.tmp 41) 22 5 (.int .u8 0) 1 rfl Tryd.underlying22 info5 rfl (by decide) (by omega) h4 y125 a5 _ _ _ (fun k_ => some k_ ≠ (.slice Ao7 a5.length co7 : Value).ownBlock ∧ some k_ ≠ (.slice e3 a7.length e4 : Value).ownBlock) (fun _ => False) rfl rfl ?aO ?aR (fun _ _ h => h) (fun _ h => h.elim) ?aF ?aB ?aS ?aL ?_; (case aR => repeat (first | exact (yab b2.out).2.2 | (with_reducible refine yag ?_ _) | (with_reducible refine yah ?_ _) | (with_reducible refine yai ?_))); (case aB => exact (upH HB.out)); (case aF => exact (fun k_ hk => ⟨Kd.fresh' (yaf (upR b2.out)) k_ hk, Kd.fresh' (yaf (upR a8.out)) k_ hk⟩)); (case aO => exact (by (with_reducible repeat (first | apply Kd.R_alloc | apply Kd.R_drewN | apply Kd.R_drew)); exact Kd.R_mono d2.out (fun _ hk => ⟨hk.1.2, hk.2⟩))); (case aS => exact (below_size (upH HB.out))); (case aL => have := LMc48.out; omega); intro j5 w54 ho hb hg hat; rw [← Ny128.out] at ho; replace b2 := yaa (Kd.R_after (ok := (fun k_ => some k_ ≠ (.slice e3 a7.length e4 : Value).ownBlock)) (upR b2.out) hg hat); replace a8 := yaa (Kd.R_after (ok := (fun k_ => some k_ ≠ (.slice Ao7 a5.length co7 : Value).ownBlock)) (upR a8.out) hg hat); replace HB := yaa (hb); have b4 := yaa (ho); clear d2; clear ho hb hg hat; obtain ⟨j6, j7, h5⟩ := yaj b4.out; subst h5) | (go_at_call 10; (with_reducible refine (impl_ShaSum.calls _ _ y128 d0 _ ?side1 ?side2 A49.out ?sideG).mono ?_); (case sideG => exact Glob.belowW HG.out (upH HB.out)); (case side1 => repeat (first | exact (yab b4.out).2.2 | (with_reducible refine yag ?_ _) | (with_reducible refine yah ?_ _) | (with_reducible refine yai ?_))); (case side2 => exact (yab b4.out).2.1); rintro e w56 ⟨j8, rfl, ho0, hb⟩; have c6 := yaa (Kd.R_lower (yad (yad (yad ho0 (yaf (upR b2.out))) (yaf (upR a8.out))) (yaf (upR b4.out))) (below_size (upH HB.out))); replace b2 := yaa (yac (upR b2.out) (yae ho0) hb); replace a8 := yaa (yac (upR a8.out) (yae ho0) hb); replace b4 := yaa (yac (upR b4.out) (yae ho0) hb); replace HB := yaa (yal (upH HB.out) hb); (try clear hb ho0); obtain ⟨j9, k0, h6⟩ := yaj c6.out; subst h6) | (go_at_call 15; (with_reducible refine (laws_eaBytes.calls _ _ d0 _ _ a7 d4 _ ?side1 ?side2 ?side3 ?side4 A50.out).mono ?_); (case side1 => repeat (first | exact (yab c6.out).2.2 | (with_reducible refine yag ?_ _) | (with_reducible refine yah ?_ _) | (with_reducible refine yai ?_))); (case side2 => exact (yab c6.out).2.1); (case side3 => repeat (first | exact (yab a8.out).2.2 | (with_reducible refine yag ?_ _) | (with_reducible refine yah ?_ _) | (with_reducible refine yai ?_))); (case side4 => exact (yab a8.out).2.1); rintro e w' ⟨rfl, ⟨nd, rfl⟩⟩))
        go_ret
        exact ⟨by first | rfl | (simp [*, errW_none, errW_some] <;> rfl), upH HB.out⟩
       ·
        rw [if_neg c48] at H
        exact absurd H (by simp)
      ·
       rw [if_neg c47] at H
       have e1 := beq_eq_false_iff_ne.mpr c47; have e2 := bne_iff_ne.mpr c47
       rw [hrt] at H
       exact absurd H (by simp)

/-- THE ONE PURE STATEMENT of laws_FnShaSum: yours. -/
def laws_FnShaSum.Pure : Prop := ∀ (l0 : List Int), l0.length ≤ maxLen → l0.length * 1 ≤ 140737488351232 → (∀ x ∈ l0, (Lit.int .u8 x).wf = true) → ∃ k, laws_FnShaSum.f k l0 = some true
theorem laws_FnShaSum.walk (P : laws_FnShaSum.Pure) (a0 : Option Addr) (len0 cap0 : Nat) (z0 : List Int) (w : World) (w0 : (a0 = none ∧ len0 = 0 ∧ cap0 = 0 ∧ z0 = []) ∨ ∃ x, a0 = some x ∧ len0 ≤ cap0 ∧ cap0 ≤ maxLen ∧ z0.length = cap0 ∧ (∀ i, i < z0.length → w.cell? (x.add i) = some (.int .u8 (z0.getD i 0))) ∧ ∀ n ∈ z0, (Lit.int .u8 n).wf = true) (y0 : len0 * 1 ≤ 140737488351232) (hG : Glob w) :
  Calls Tryd.prog 4 #[.slice a0 len0 cap0] w fun e w' => e = .returned (.bool true) ∧ Below w.heap.size w w' := by
 obtain ⟨l0, rfl, hr0, hm0, hw0, hc0⟩ := ReadsInt.ofRowC w0; obtain ⟨k, h⟩ := P l0 hm0 y0 hw0
 refine (laws_FnShaSum.calls k _ _ l0 true w (Kd.C_of_reads (d := (0 : Int)) (h1 := fun _ => rfl) hr0) hc0 h rfl hG).mono ?_
 rintro e w' ⟨rfl, hd⟩
 exact ⟨rfl, hd⟩
end
end Go.Proofs.YtfinaphomgdmlaaDoor.X
namespace Go.Proofs.YtfinaphomgdmlaaDoor.Pl
open Go.RowKit Go.Proofs.YtfinaphomgdmlaaDoorW.PrintWords

theorem wrap_id {x : Int} (h0 : -9223372036854775808 ≤ x) (h1 : x ≤ 9223372036854775807) : wrap64 x = x := by
  unfold wrap64; omega

/-- From a round on: with a round more. -/
theorem ev_succ {α : Type} {g : Nat → Option α} {r : α} (h : Ev (fun k => g (k + 1)) r) : Ev g r := by
  obtain ⟨K, h⟩ := h
  refine ⟨K + 1, fun n hn => ?_⟩
  obtain ⟨m, rfl⟩ : ∃ m, n = m + 1 := ⟨n - 1, by omega⟩
  exact h m (by omega)

theorem getD_mem {α : Type} (l : List α) (z : α) (i : Nat) (h : i < l.length) : l.getD i z ∈ l := by
  rw [List.getD_eq_getElem?_getD, List.getElem?_eq_getElem h]; exact List.getElem_mem h

/-- From a number of rounds on, through a step. -/
theorem Ev.at_ {α : Type} {g : Nat → Option α} {r : α} (h : Ev g r) : ∃ K, ∀ k, K ≤ k → g k = some r := h
theorem ev_const {α : Type} {x : Option α} {r : α} (h : x = some r) : Ev (fun _ => x) r := ⟨0, fun _ _ => h⟩

/-! ### What a told function comes to, from some number of rounds on -/
/-- It answers, and the answer is so. -/
def Tot {α : Type} (g : Nat → Option α) (post : α → Prop) : Prop := ∃ r, Ev g r ∧ post r
theorem Tot.ret {α : Type} {post : α → Prop} {r : α} (h : post r) : Tot (fun _ => some r) post := ⟨r, Ev.now r, h⟩
theorem Tot.mono {α : Type} {g : Nat → Option α} {P Q : α → Prop} (h : Tot g P) (hi : ∀ r, P r → Q r) : Tot g Q := by
  obtain ⟨r, h, hp⟩ := h
  exact ⟨r, h, hi r hp⟩
theorem Tot.bind {α β : Type} {g : Nat → Option α} {f : Nat → α → Option β} {P : α → Prop} {Q : β → Prop} (h : Tot g P) (hf : ∀ a, P a → Tot (fun k => f k a) Q) : Tot (fun k => (g k).bind (f k)) Q := by
  obtain ⟨a, h, hp⟩ := h
  obtain ⟨r, h2, hq⟩ := hf a hp
  exact ⟨r, Ev.bind h h2, hq⟩
theorem Tot.some_bind {α β : Type} {f : Nat → α → Option β} {Q : β → Prop} {a : α} (hf : Tot (fun k => f k a) Q) : Tot (fun k => (some a).bind (f k)) Q := hf
theorem Tot.ite {α : Type} {c : Prop} [Decidable c] {f g : Nat → Option α} {Q : α → Prop} (h1 : c → Tot f Q) (h2 : ¬ c → Tot g Q) : Tot (fun k => if c then f k else g k) Q := by
  by_cases h : c
  · simpa [h] using h1 h
  · simpa [h] using h2 h
theorem Tot.pos {α : Type} {c : Prop} [Decidable c] {f g : Nat → Option α} {Q : α → Prop} (h : c) (h1 : Tot f Q) : Tot (fun k => if c then f k else g k) Q := by simpa [h] using h1
theorem Tot.neg {α : Type} {c : Prop} [Decidable c] {f g : Nat → Option α} {Q : α → Prop} (h : ¬ c) (h1 : Tot g Q) : Tot (fun k => if c then f k else g k) Q := by simpa [h] using h1
theorem Tot.succ {α : Type} {g : Nat → Option α} {Q : α → Prop} (h : Tot (fun k => g (k + 1)) Q) : Tot g Q := by
  obtain ⟨r, h, hp⟩ := h
  exact ⟨r, ev_succ h, hp⟩
theorem Tot.of_ev {α : Type} {g : Nat → Option α} {r : α} (h : Ev g r) : Tot g (fun x => x = r) := ⟨r, h, rfl⟩
theorem Tot.of_eq {α : Type} {x : Option α} {r : α} (h : x = some r) : Tot (fun _ => x) (fun y => y = r) := ⟨r, ev_const h, rfl⟩
/-- A loop, or a call of itself: what is smaller comes to its answer. -/
theorem tot_ind {α σ : Type} (g : Nat → σ → Option α) (Inv : σ → Prop) (m : σ → Nat) (post : α → Prop)
    (h : ∀ s, Inv s → (∀ s', Inv s' → m s' < m s → Tot (fun k => g k s') post) → Tot (fun k => g k s) post) : ∀ s, Inv s → Tot (fun k => g k s) post := by
  have key : ∀ d s, m s < d → Inv s → Tot (fun k => g k s) post := by
    intro d
    induction d with
    | zero => intro s h; omega
    | succ d ih => intro s hd hs; exact h s hs (fun s' hs' hm => ih s' (by omega) hs')
  intro s hs
  exact key (m s + 1) s (by omega) hs
theorem Tot.rounds {g : Nat → Option Bool} (h : Tot g (fun b => b = true)) : ∃ k, g k = some true := by
  obtain ⟨r, h, rfl⟩ := h
  exact h.rounds

end Go.Proofs.YtfinaphomgdmlaaDoor.Pl
namespace Go.Proofs.YtfinaphomgdmlaaDoor.X
open Go.RowKit Go.Proofs.YtfinaphomgdmlaaDoorW.PrintWords Go.Proofs.YtfinaphomgdmlaaDoor.Pl
set_option linter.unusedSimpArgs false

theorem bits_xor_nonneg (a b : Int) (ha : 0 ≤ a) (ha' : a < 4611686018427387904) (hb : 0 ≤ b) (hb' : b < 4611686018427387904) : 0 ≤ Go.bits .xor .i64 a b ∧ Go.bits .xor .i64 a b < 4611686018427387904 := by
  obtain ⟨m, rfl⟩ := Int.eq_ofNat_of_zero_le ha
  obtain ⟨n, rfl⟩ := Int.eq_ofNat_of_zero_le hb
  have h1 : m < 2 ^ 62 := by omega
  have h2 : n < 2 ^ 62 := by omega
  have hx : m ^^^ n < 2 ^ 62 := Nat.xor_lt_two_pow h1 h2
  have hm : m % 2 ^ 64 = m := Nat.mod_eq_of_lt (by omega)
  have hn : n % 2 ^ 64 = n := Nat.mod_eq_of_lt (by omega)
  have e : Go.bits .xor .i64 (m : Int) (n : Int) = ((m ^^^ n : Nat) : Int) := by
    have hb : (BitVec.ofNat 64 m ^^^ BitVec.ofNat 64 n).toNat = m ^^^ n := by rw [BitVec.toNat_xor, BitVec.toNat_ofNat, BitVec.toNat_ofNat, hm, hn]
    simp only [Go.bits, IntKind.bits, BitVec.ofInt_natCast]
    rw [IntKind.wrap_i64]
    change (((BitVec.ofNat 64 m ^^^ BitVec.ofNat 64 n).toNat : Int) + 9223372036854775808) % 18446744073709551616 - 9223372036854775808 = _
    rw [hb]
    omega
  rw [e]
  omega

/-- The bytes of a code. -/
def Bytes (l : List Int) : Prop := l.length ≤ 2000 ∧ ∀ y ∈ l, 0 ≤ y ∧ y ≤ 255
theorem bytes_rd {l : List Int} (h : Bytes l) (i : Int) : 0 ≤ rd l i ∧ rd l i ≤ 255 := by
  unfold rd
  by_cases hi : i.toNat < l.length
  · exact h.2 _ (getD_mem l 0 i.toNat hi)
  · rw [List.getD_eq_getElem?_getD, List.getElem?_eq_none (by omega)]
    simp

theorem tmod_bd (a n : Int) (ha : 0 ≤ a) (hn : 0 < n) : 0 ≤ Int.tmod a n ∧ Int.tmod a n < n := by
  rw [Int.tmod_eq_emod_of_nonneg ha]
  exact ⟨Int.emod_nonneg _ (by omega), Int.emod_lt_of_pos _ hn⟩

theorem pick_ev (l : List Int) (hl : Bytes l) (p n : Int) (h0 : 0 ≤ p) (h1 : p ≤ 1000000000000) :
    ∃ r, Ev (fun k => spec_l20Rd_pick.f k l p n) (r, p + 1) ∧ 0 ≤ r ∧ (1 ≤ n → r < n) ∧ (n < 1 → r = 0) := by
  have w1 : wrap64 (p + 1) = p + 1 := wrap_id (by omega) (by omega)
  have w2 : wrap64 (p + 1 - 1) = p := by rw [show p + 1 - 1 = p by omega]; exact wrap_id (by omega) (by omega)
  by_cases hn : n < 1
  · refine ⟨0, ev_succ ⟨0, fun k _ => ?_⟩, by omega, fun h => absurd h (by omega), fun _ => rfl⟩
    simp [spec_l20Rd_pick.f, hn, spec_l20Rd_pick.j0, w1]
  have hne : ¬ (n = 0) := by omega
  by_cases hz : l.length = 0
  · refine ⟨0, ev_succ ⟨0, fun k _ => ?_⟩, by omega, fun h => by omega, fun h => absurd h hn⟩
    simp [spec_l20Rd_pick.f, hn, hz, spec_l20Rd_pick.j0, w1]
  have hz' : ¬ ((l.length : Int) = 0) := by omega
  have hzb : ((l.length : Int) == 0) = false := by simpa using hz
  by_cases hlt : p < (l.length : Int)
  · have hb := bytes_rd hl p
    have w3 : wrap64 (rd l p) = rd l p := wrap_id (by omega) (by omega)
    have ht := tmod_bd (rd l p) n hb.1 (by omega)
    refine ⟨Int.tmod (rd l p) n, ev_succ ⟨0, fun k _ => ?_⟩, ht.1, fun _ => ht.2, fun h => absurd h hn⟩
    simp only [spec_l20Rd_pick.f]
    rw [if_neg hn, hzb, w1]
    simp only [spec_l20Rd_pick.j0]
    rw [if_neg (by decide), w2, if_pos hlt, if_pos h0, if_neg hne, w3]
  · have L0 : (0 : Int) < (l.length : Int) := by omega
    have m1 := tmod_bd p (l.length : Int) h0 L0
    have w4 : wrap64 (p * 7) = p * 7 := wrap_id (by omega) (by omega)
    have w5 : wrap64 (p * 7 + 3) = p * 7 + 3 := wrap_id (by omega) (by omega)
    have m2 := tmod_bd (p * 7 + 3) (l.length : Int) (by omega) L0
    obtain ⟨i1, hi1⟩ : ∃ i, i = Int.tmod p (l.length : Int) := ⟨_, rfl⟩
    obtain ⟨i2, hi2⟩ : ∃ i, i = Int.tmod (p * 7 + 3) (l.length : Int) := ⟨_, rfl⟩
    have b1 := bytes_rd hl i1
    have b2 := bytes_rd hl i2
    obtain ⟨v1, hv1⟩ : ∃ v, v = rd l i1 := ⟨_, rfl⟩
    obtain ⟨v2, hv2⟩ : ∃ v, v = rd l i2 := ⟨_, rfl⟩
    have d1 : 0 ≤ Int.tdiv p (l.length : Int) ∧ Int.tdiv p (l.length : Int) ≤ p := by
      rw [Int.tdiv_eq_ediv_of_nonneg h0]
      exact ⟨Int.ediv_nonneg h0 (by omega), Int.ediv_le_self _ h0⟩
    obtain ⟨q, hq⟩ : ∃ q, q = Int.tdiv p (l.length : Int) := ⟨_, rfl⟩
    rw [← hi1] at m1
    rw [← hi2] at m2
    rw [← hv1] at b1
    rw [← hv2] at b2
    rw [← hq] at d1
    have x1 : wrap64 v1 = v1 := wrap_id (by omega) (by omega)
    have x2 : wrap64 v2 = v2 := wrap_id (by omega) (by omega)
    have x3 : wrap64 (v1 * 131) = v1 * 131 := wrap_id (by omega) (by omega)
    have x4 : wrap64 (v2 * 1117) = v2 * 1117 := wrap_id (by omega) (by omega)
    have x5 : wrap64 (v1 * 131 + v2 * 1117) = v1 * 131 + v2 * 1117 := wrap_id (by omega) (by omega)
    have x6 : wrap64 (p * 29) = p * 29 := wrap_id (by omega) (by omega)
    have x7 : wrap64 (v1 * 131 + v2 * 1117 + p * 29) = v1 * 131 + v2 * 1117 + p * 29 := wrap_id (by omega) (by omega)
    have x8 : wrap64 q = q := wrap_id (by omega) (by omega)
    have x9 : wrap64 (q * 53) = q * 53 := wrap_id (by omega) (by omega)
    have x10 : wrap64 (v1 * 131 + v2 * 1117 + p * 29 + q * 53) = v1 * 131 + v2 * 1117 + p * 29 + q * 53 := wrap_id (by omega) (by omega)
    obtain ⟨s, hs⟩ : ∃ s, s = v1 * 131 + v2 * 1117 + p * 29 + q * 53 := ⟨_, rfl⟩
    have hs0 : 0 ≤ s := by omega
    have hs1 : s ≤ 1000000000000000 := by omega
    have x11 : wrap64 (Int.tdiv s 64) = s / 64 := by
      rw [Int.tdiv_eq_ediv_of_nonneg hs0]
      exact wrap_id (by omega) (by omega)
    have hx := bits_xor_nonneg s (s / 64) hs0 (by omega) (by omega) (by omega)
    have ht := tmod_bd (Go.bits .xor .i64 s (s / 64)) n hx.1 (by omega)
    refine ⟨Int.tmod (Go.bits .xor .i64 s (s / 64)) n, ev_succ ⟨0, fun k _ => ?_⟩, ht.1, fun _ => ht.2, fun h => absurd h hn⟩
    simp only [spec_l20Rd_pick.f]
    rw [if_neg hn, hzb, w1]
    simp only [spec_l20Rd_pick.j0]
    rw [if_neg (by decide), w2, if_neg hlt, if_neg hz', w4, w5, ← hi1, ← hi2, if_pos m1.1, if_pos m1.2, if_pos m2.1, if_pos m2.2, if_neg hne, ← hv1, ← hv2, ← hq]
    simp only [x1, x2, x3, x4, x5, x6, x7, x8, x9, x10]
    rw [← hs, x11]

theorem odd_ev (l : List Int) (hl : Bytes l) (p n : Int) (h0 : 0 ≤ p) (h1 : p ≤ 1000000000000) (hn : n ≤ 1000000) :
    ∃ b q, Ev (fun k => spec_l20Rd_odd.f k l p n) (b, q) ∧ p ≤ q ∧ q ≤ p + 1 ∧ (n ≤ 0 → b = false) := by
  by_cases hn0 : n > 0
  · obtain ⟨r, ⟨K, hr⟩, _, _, _⟩ := pick_ev l hl p n h0 h1
    refine ⟨r == wrap64 (n - 1), p + 1, ⟨K, fun k hk => ?_⟩, by omega, by omega, fun h => absurd h (by omega)⟩
    have := hr k hk
    dsimp only at this
    simp [spec_l20Rd_odd.f, hn0, this]
  · refine ⟨false, p, ⟨0, fun k _ => ?_⟩, by omega, by omega, fun _ => rfl⟩
    simp [spec_l20Rd_odd.f, hn0]

theorem pick_tot {l : List Int} (hl : Bytes l) (p n : Int) (h0 : 0 ≤ p) (h1 : p ≤ 1000000000000) :
    Tot (fun k => spec_l20Rd_pick.f k l p n) (fun x => x.2 = p + 1 ∧ 0 ≤ x.1 ∧ (1 ≤ n → x.1 < n) ∧ (n < 1 → x.1 = 0)) := by
  obtain ⟨r, h, a, b, c⟩ := pick_ev l hl p n h0 h1
  exact ⟨_, h, rfl, a, b, c⟩
theorem odd_tot {l : List Int} (hl : Bytes l) (p n : Int) (h0 : 0 ≤ p) (h1 : p ≤ 1000000000000) (hn : n ≤ 1000000) :
    Tot (fun k => spec_l20Rd_odd.f k l p n) (fun x => p ≤ x.2 ∧ x.2 ≤ p + 1 ∧ (n ≤ 0 → x.1 = false)) := by
  obtain ⟨b, q, h, c⟩ := odd_ev l hl p n h0 h1 hn
  exact ⟨_, h, c⟩
theorem open_some (l : List Int) (hu : ∀ y ∈ l, 0 ≤ y ∧ y ≤ 255) : ∃ b, spec_l20Open.f l = some (b, 0) ∧ Bytes b := by
  unfold spec_l20Open.f
  by_cases h : (l.length : Int) > 2000
  · rw [if_pos h, if_pos (by omega)]
    refine ⟨l.take 2000, rfl, ?_, fun y hy => hu y (List.mem_of_mem_take hy)⟩
    rw [List.length_take]
    omega
  · rw [if_neg h]
    exact ⟨l, rfl, by omega, hu⟩
end Go.Proofs.YtfinaphomgdmlaaDoor.X
namespace Go.Proofs.YtfinaphomgdmlaaDoor.X
open Go.RowKit Go.Proofs.YtfinaphomgdmlaaDoorW.PrintWords Go.Proofs.YtfinaphomgdmlaaDoor.Pl
set_option linter.unusedSimpArgs false

end Go.Proofs.YtfinaphomgdmlaaDoor.X
namespace Go.Proofs.YtfinaphomgdmlaaDoor.Sha
set_option linter.unusedVariables false
open Go

/-- A word of 32 bits. -/
def W (a : Int) : Prop := 0 ≤ a ∧ a < 4294967296
def X (a b : Int) : Int := ((a.toNat ^^^ b.toNat : Nat) : Int)
def A (a b : Int) : Int := ((a.toNat &&& b.toNat : Nat) : Int)
/-- A word turned to the right. -/
def R (n : Nat) (a : Int) : Int := (((a.toNat * 2 ^ (32 - n)) % 4294967296 ||| a.toNat / 2 ^ n : Nat) : Int)

theorem W_X {a b : Int} (ha : W a) (hb : W b) : W (X a b) := by
  have : a.toNat ^^^ b.toNat < 2 ^ 32 := Nat.xor_lt_two_pow (by have := ha.1; have := ha.2; omega) (by have := hb.1; have := hb.2; omega)
  unfold W X; omega
theorem W_A {a b : Int} (ha : W a) (hb : W b) : W (A a b) := by
  have : a.toNat &&& b.toNat < 2 ^ 32 := Nat.and_lt_two_pow _ (by have := hb.1; have := hb.2; omega)
  unfold W A; omega
theorem W_not {a : Int} (ha : W a) : W (4294967295 - a) := by have := ha.1; have := ha.2; unfold W; omega
theorem W_mod (a : Int) : W (a % 4294967296) := by unfold W; omega
theorem W_shr {a : Int} (ha : W a) (n : Nat) : W (a / 2 ^ n) := by
  have h0 := ha.1; have h1 := ha.2
  obtain ⟨x, rfl⟩ := Int.eq_ofNat_of_zero_le h0
  have e : ((x : Int) / 2 ^ n) = ((x / 2 ^ n : Nat) : Int) := by simp
  rw [e]; have : x / 2 ^ n ≤ x := Nat.div_le_self _ _
  have h2 : x < 4294967296 := by omega
  have h3 := Nat.lt_of_le_of_lt this h2
  exact ⟨Int.natCast_nonneg _, Int.ofNat_lt.mpr h3⟩
theorem W_R {a : Int} (ha : W a) (n : Nat) : W (R n a) := by
  have : (a.toNat * 2 ^ (32 - n)) % 4294967296 ||| a.toNat / 2 ^ n < 2 ^ 32 := Nat.or_lt_two_pow (by omega) (Nat.lt_of_le_of_lt (Nat.div_le_self _ _) (by have := ha.1; have := ha.2; omega))
  unfold W R; omega

theorem xor32 {a b : Int} (ha : W a) (hb : W b) : bits .xor .u32 a b = X a b := u32_xor a b ha.1 ha.2 hb.1 hb.2
theorem and32 {a b : Int} (ha : W a) (hb : W b) : bits .and .u32 a b = A a b := u32_and a b ha.1 ha.2 hb.1 hb.2
theorem xor64 {a b : Int} (ha : W a) (hb : W b) : bits .xor .u64 a b = X a b := u64_xor a b ha.1 (by have := ha.2; omega) hb.1 (by have := hb.2; omega)
theorem and64 {a b : Int} (ha : W a) (hb : W b) : bits .and .u64 a b = A a b := u64_and a b ha.1 (by have := ha.2; omega) hb.1 (by have := hb.2; omega)
theorem not64 {a : Int} (ha : W a) : bits .xor .u64 4294967295 a = 4294967295 - a := by
  rw [u64_xor _ _ (by decide) (by decide) ha.1 (by have := ha.2; omega)]
  have h0 := ha.1; have h1 := ha.2
  obtain ⟨x, rfl⟩ := Int.eq_ofNat_of_zero_le h0
  have hx : x < 2 ^ 32 := by omega
  have : (4294967295 : Nat) ^^^ x = 4294967295 - x := by
    apply Nat.eq_of_testBit_eq
    intro i
    have e1 : (4294967295 : Nat) = 2 ^ 32 - 1 := by decide
    have e2 : (4294967295 : Nat) - x = 2 ^ 32 - (x + 1) := by omega
    rw [e2, Nat.testBit_two_pow_sub_succ hx, Nat.testBit_xor, e1, Nat.testBit_two_pow_sub_one]
    by_cases h : i < 32
    · simp [h]
    · have : x.testBit i = false := Nat.testBit_lt_two_pow (Nat.lt_of_lt_of_le hx (Nat.pow_le_pow_right (by decide) (by omega)))
      simp [h, this]
  have e : ((4294967295 : Int).toNat) = 4294967295 := by decide
  rw [e, Int.toNat_natCast, this]; omega
end Go.Proofs.YtfinaphomgdmlaaDoor.Sha
namespace Go.Proofs.YtfinaphomgdmlaaDoor.X
open Go.RowKit Go.Proofs.YtfinaphomgdmlaaDoorW.PrintWords
set_option maxRecDepth 100000
def shP : List Int := [2, 3, 5, 7, 11, 13, 17, 19, 23, 29, 31, 37, 41, 43, 47, 53, 59, 61, 67, 71, 73, 79, 83, 89, 97, 101, 103, 107, 109, 113, 127, 131, 137, 139, 149, 151, 157, 163, 167, 173, 179, 181, 191, 193, 197, 199, 211, 223, 227, 229, 233, 239, 241, 251, 257, 263, 269, 271, 277, 281, 283, 293, 307, 311]
theorem primes_ok : spec_l1Primes.f 400 64 = some shP := by decide +kernel
theorem root2 : ∀ i : Fin 8, spec_l1Root.f 50 (shP.getD i.val 0) 2 = some (shS0.getD i.val 0) := by decide +kernel
theorem root3 : ∀ i : Fin 64, spec_l1Root.f 50 (shP.getD i.val 0) 3 = some (shK0.getD i.val 0) := by decide +kernel
end Go.Proofs.YtfinaphomgdmlaaDoor.X
namespace Go.Proofs.YtfinaphomgdmlaaDoor.X
open Go.RowKit Go.Proofs.YtfinaphomgdmlaaDoorW.PrintWords Go.Proofs.YtfinaphomgdmlaaDoorW.PrintLast Go.Proofs.YtfinaphomgdmlaaDoorW.PrintMore Go.Proofs.YtfinaphomgdmlaaDoor.Sha Go.Proofs.YtfinaphomgdmlaaDoor.Pl
set_option linter.unusedVariables false
set_option linter.unusedSimpArgs false

theorem rot_R (n : Nat) (h1 : 1 ≤ n) (h2 : n ≤ 31) {a : Int} (ha : Sha.W a) : rotI ((32 - n : Nat) : Int) (n : Int) a = Sha.R n a := by
  obtain ⟨h0, h3⟩ := ha
  obtain ⟨x, rfl⟩ := Int.eq_ofNat_of_zero_le h0
  have hx : x < 4294967296 := by omega
  have e1 : ((x : Int) * 2 ^ (32 - n)) = ((x * 2 ^ (32 - n) : Nat) : Int) := by simp
  have e2 : ((x : Int) / 2 ^ n) = ((x / 2 ^ n : Nat) : Int) := by simp
  have e3 : (((x * 2 ^ (32 - n) : Nat) : Int) % 4294967296) = ((x * 2 ^ (32 - n) % 4294967296 : Nat) : Int) := by omega
  have hd : x / 2 ^ n < 4294967296 := Nat.lt_of_le_of_lt (Nat.div_le_self _ _) hx
  unfold rotI Sha.R
  rw [IntKind.wrap_u32', Int.toNat_natCast, Int.toNat_natCast, Nat.min_eq_left (by omega), Nat.min_eq_left (by omega), e1, e2, e3, u32_or_nat _ _ (Nat.mod_lt _ (by decide)) hd, Int.toNat_natCast]
theorem turn_R (n : Nat) (h1 : 1 ≤ n) (h2 : n ≤ 31) {a : Int} (ha : Sha.W a) : spec_l1Turn.f a (n : Int) = some (Sha.R n a) := by
  obtain ⟨h0, h3⟩ := ha
  obtain ⟨x, rfl⟩ := Int.eq_ofNat_of_zero_le h0
  have hx : x < 4294967296 := by omega
  have hw : IntKind.u64.wrap (32 - (n : Int)) = ((32 - n : Nat) : Int) := by rw [IntKind.wrap_u64]; omega
  have hp : x * 2 ^ (32 - n) < 18446744073709551616 := by
    have e : (18446744073709551616 : Nat) = 4294967296 * 2 ^ 32 := by decide
    have h : 2 ^ (32 - n) ≤ 2 ^ 32 := Nat.pow_le_pow_right (by decide) (by omega)
    rw [e]
    exact Nat.lt_of_lt_of_le (Nat.mul_lt_mul_of_pos_right hx (Nat.two_pow_pos _)) (Nat.mul_le_mul_left _ h)
  have hd : x / 2 ^ n < 4294967296 := Nat.lt_of_le_of_lt (Nat.div_le_self _ _) hx
  have e1 : ((x : Int) * 2 ^ (32 - n)) = ((x * 2 ^ (32 - n) : Nat) : Int) := by simp
  have e2 : ((x : Int) / 2 ^ n) = ((x / 2 ^ n : Nat) : Int) := by simp
  have e3 : (((x * 2 ^ (32 - n) : Nat) : Int) % 18446744073709551616) = ((x * 2 ^ (32 - n) : Nat) : Int) := by omega
  unfold spec_l1Turn.f
  rw [if_pos (by omega), hw, if_pos (by omega)]
  unfold shr shl spec_l1Word.f
  rw [IntKind.wrap_u64, Int.toNat_natCast, Int.toNat_natCast, Nat.min_eq_left (by show n ≤ 64; omega), Nat.min_eq_left (by show 32 - n ≤ 64; omega), e1, e2, e3, u64_or_nat _ _ (by omega) hp]
  simp only [Option.bind_some]
  congr 1
  unfold Sha.R
  rw [Int.tmod_eq_emod_of_nonneg (Int.natCast_nonneg _), Int.toNat_natCast]
  have : (x / 2 ^ n ||| x * 2 ^ (32 - n)) % 4294967296 = x * 2 ^ (32 - n) % 4294967296 ||| x / 2 ^ n := by
    have e : (4294967296 : Nat) = 2 ^ 32 := by decide
    rw [e, Nat.or_mod_two_pow, Nat.mod_eq_of_lt (a := x / 2 ^ n) (by rw [← e]; exact hd), Nat.or_comm]
  omega
theorem W_bor {a b : Int} (ha : Sha.W a) (hb : Sha.W b) : Sha.W (bits .or .u32 a b) := by
  rw [u32_or a b ha.1 ha.2 hb.1 hb.2]
  have : a.toNat ||| b.toNat < 2 ^ 32 := Nat.or_lt_two_pow (by have := ha.1; have := ha.2; omega) (by have := hb.1; have := hb.2; omega)
  unfold Sha.W; omega
theorem not32 {a : Int} (ha : Sha.W a) : bits .xor .u32 IntKind.u32.max a = 4294967295 - a := by
  have h := Sha.not64 ha
  rw [u64_xor _ _ (by decide) (by decide) ha.1 (by have := ha.2; omega)] at h
  rw [show IntKind.u32.max = 4294967295 by decide, u32_xor _ _ (by decide) (by decide) ha.1 ha.2]
  exact h
theorem or64_32 {a b : Int} (ha : Sha.W a) (hb : Sha.W b) : bits .or .u64 a b = bits .or .u32 a b := by
  rw [u32_or a b ha.1 ha.2 hb.1 hb.2, u64_or a b ha.1 (by have := ha.2; omega) hb.1 (by have := hb.2; omega)]

/-! ### A round -/
structure WQ (q : St8) : Prop where
  a : Sha.W q.a
  b : Sha.W q.b
  c : Sha.W q.c
  d : Sha.W q.d
  e : Sha.W q.e
  f : Sha.W q.f
  g : Sha.W q.g
  h : Sha.W q.h
def St8.l (q : St8) : List Int := [q.a, q.b, q.c, q.d, q.e, q.f, q.g, q.h]
theorem WQ.step {q : St8} (h : WQ q) (k w : Int) : WQ (stepI k w q) := ⟨Sha.W_mod _, h.a, h.b, h.c, Sha.W_mod _, h.e, h.f, h.g⟩
theorem tm (x : Int) (h : 0 ≤ x) : Int.tmod x 4294967296 = x % 4294967296 := Int.tmod_eq_emod_of_nonneg h
theorem step_eq {q : St8} (h : WQ q) {k w : Int} (hk : Sha.W k) (hw : Sha.W w) : spec_l1Step.f q.l k w = some (stepI k w q).l := by
  obtain ⟨a, b, c, d, e, f, g, hh⟩ := q
  obtain ⟨ha, hb, hc, hd, he, hf, hg, hhh⟩ := h
  dsimp only at ha hb hc hd he hf hg hhh
  have t6 := turn_R 6 (by omega) (by omega) he
  have t11 := turn_R 11 (by omega) (by omega) he
  have t25 := turn_R 25 (by omega) (by omega) he
  have t2 := turn_R 2 (by omega) (by omega) ha
  have t13 := turn_R 13 (by omega) (by omega) ha
  have t22 := turn_R 22 (by omega) (by omega) ha
  have r6 : rotI 26 6 e = _ := rot_R 6 (by omega) (by omega) he
  have r11 : rotI 21 11 e = _ := rot_R 11 (by omega) (by omega) he
  have r25 : rotI 7 25 e = _ := rot_R 25 (by omega) (by omega) he
  have r2 : rotI 30 2 a = _ := rot_R 2 (by omega) (by omega) ha
  have r13 : rotI 19 13 a = _ := rot_R 13 (by omega) (by omega) ha
  have r22 : rotI 10 22 a = _ := rot_R 22 (by omega) (by omega) ha
  have w6 := Sha.W_R he 6
  have w11 := Sha.W_R he 11
  have w25 := Sha.W_R he 25
  have w2 := Sha.W_R ha 2
  have w13 := Sha.W_R ha 13
  have w22 := Sha.W_R ha 22
  have x1 := Sha.W_X (Sha.W_X w6 w11) w25
  have x2 := Sha.W_X (Sha.W_X w2 w13) w22
  have c1 := Sha.W_A he hf
  have c2 := Sha.W_A (Sha.W_not he) hg
  have x3 := Sha.W_X c1 c2
  have m1 := Sha.W_A ha hb
  have m2 := Sha.W_A ha hc
  have m3 := Sha.W_A hb hc
  have x4 := Sha.W_X (Sha.W_X m1 m2) m3
  unfold spec_l1Step.f St8.l stepI
  simp only [List.length_cons, List.length_nil]
  have e4 : rd [a, b, c, d, e, f, g, hh] 4 = e := rfl
  have e0 : rd [a, b, c, d, e, f, g, hh] 0 = a := rfl
  have e1 : rd [a, b, c, d, e, f, g, hh] 1 = b := rfl
  have e2 : rd [a, b, c, d, e, f, g, hh] 2 = c := rfl
  have e3 : rd [a, b, c, d, e, f, g, hh] 3 = d := rfl
  have e5 : rd [a, b, c, d, e, f, g, hh] 5 = f := rfl
  have e6 : rd [a, b, c, d, e, f, g, hh] 6 = g := rfl
  have e7 : rd [a, b, c, d, e, f, g, hh] 7 = hh := rfl
  rw [e0, e1, e2, e3, e4, e5, e6, e7]
  have q6 : spec_l1Turn.f e 6 = some (Sha.R 6 e) := t6
  have q11 : spec_l1Turn.f e 11 = some (Sha.R 11 e) := t11
  have q25 : spec_l1Turn.f e 25 = some (Sha.R 25 e) := t25
  have q2 : spec_l1Turn.f a 2 = some (Sha.R 2 a) := t2
  have q13 : spec_l1Turn.f a 13 = some (Sha.R 13 a) := t13
  have q22 : spec_l1Turn.f a 22 = some (Sha.R 22 a) := t22
  rw [q6, q11, q25, q2, q13, q22]
  simp only [Option.bind_some, spec_l1Word.f]
  rw [if_pos (by decide), if_pos (by decide), if_pos (by decide), if_pos (by decide), if_pos (by decide), if_pos (by decide), if_pos (by decide), if_pos (by decide)]
  rw [r6, r11, r25, r2, r13, r22]
  rw [Sha.xor64 w6 w11, Sha.xor64 (Sha.W_X w6 w11) w25, Sha.xor64 w2 w13, Sha.xor64 (Sha.W_X w2 w13) w22, Sha.and64 he hf, Sha.not64 he, Sha.and64 (Sha.W_not he) hg, Sha.xor64 c1 c2, Sha.and64 ha hb, Sha.and64 ha hc, Sha.and64 hb hc, Sha.xor64 m1 m2, Sha.xor64 (Sha.W_X m1 m2) m3]
  rw [Sha.xor32 w6 w11, Sha.xor32 (Sha.W_X w6 w11) w25, Sha.xor32 w2 w13, Sha.xor32 (Sha.W_X w2 w13) w22, Sha.and32 he hf, not32 he, Sha.and32 (Sha.W_not he) hg, Sha.xor32 c1 c2, Sha.and32 ha hb, Sha.and32 ha hc, Sha.and32 hb hc, Sha.xor32 m1 m2, Sha.xor32 (Sha.W_X m1 m2) m3]
  revert x1 x2 x3 x4
  generalize Sha.X (Sha.X (Sha.R 6 e) (Sha.R 11 e)) (Sha.R 25 e) = y1
  generalize Sha.X (Sha.X (Sha.R 2 a) (Sha.R 13 a)) (Sha.R 22 a) = y2
  generalize Sha.X (Sha.A e f) (Sha.A (4294967295 - e) g) = y3
  generalize Sha.X (Sha.X (Sha.A a b) (Sha.A a c)) (Sha.A b c) = y4
  intro x1 x2 x3 x4
  simp only [IntKind.wrap_u64]
  obtain ⟨a1, a2⟩ := x1
  obtain ⟨b1, b2⟩ := x2
  obtain ⟨d1, d2⟩ := x3
  obtain ⟨f1, f2⟩ := x4
  obtain ⟨k1, k2⟩ := hk
  obtain ⟨w1, w2'⟩ := hw
  obtain ⟨h1, h2⟩ := hhh
  obtain ⟨g1, g2⟩ := hd
  have z1 : Int.tmod (((((hh + y1) % 18446744073709551616 + y3) % 18446744073709551616 + k) % 18446744073709551616 + w) % 18446744073709551616) 4294967296 = (hh + y1 + y3 + k + w) % 4294967296 := by rw [tm _ (by omega)]; omega
  have z2 : Int.tmod ((y2 + y4) % 18446744073709551616) 4294967296 = (y2 + y4) % 4294967296 := by rw [tm _ (by omega)]; omega
  rw [z1, z2]
  have z3 : Int.tmod (((hh + y1 + y3 + k + w) % 4294967296 + (y2 + y4) % 4294967296) % 18446744073709551616) 4294967296 = (hh + y1 + y3 + k + w + (y2 + y4)) % 4294967296 := by rw [tm _ (by omega)]; omega
  have z4 : Int.tmod ((d + (hh + y1 + y3 + k + w) % 4294967296) % 18446744073709551616) 4294967296 = (d + (hh + y1 + y3 + k + w)) % 4294967296 := by rw [tm _ (by omega)]; omega
  rw [z3, z4]
end Go.Proofs.YtfinaphomgdmlaaDoor.X
namespace Go.Proofs.YtfinaphomgdmlaaDoor.X
open Go.RowKit Go.Proofs.YtfinaphomgdmlaaDoorW.PrintWords Go.Proofs.YtfinaphomgdmlaaDoorW.PrintLast Go.Proofs.YtfinaphomgdmlaaDoorW.PrintMore Go.Proofs.YtfinaphomgdmlaaDoor.Sha Go.Proofs.YtfinaphomgdmlaaDoor.Pl
set_option linter.unusedVariables false
set_option linter.unusedSimpArgs false

/-- A loop that goes up, at so much fuel a round. -/
theorem iter {α : Type} (g : Nat → Nat → α) (c K0 N : Nat) (h : ∀ k i, K0 ≤ k → i < N → g (k + c) i = g k (i + 1)) : ∀ n i k, i + n = N → K0 ≤ k → g (k + c * n) i = g k N
  | 0, i, k, hi, hk => by have : i = N := by omega
                          subst this; rfl
  | n + 1, i, k, hi, hk => by
    have e : k + c * (n + 1) = (k + c * n) + c := by rw [Nat.mul_succ]; omega
    rw [e, h (k + c * n) i (by omega) (by omega)]
    exact iter g c K0 N h n (i + 1) k (by omega) hk

/-! ### The words of a block -/
def Byt (b : Int) : Prop := 0 ≤ b ∧ b < 256
theorem rdD (l : List Int) (i : Nat) : rd l (i : Int) = l.getD i 0 := rfl
theorem W_wd0 {b0 b1 b2 b3 : Int} : Sha.W (wd0 b0 b1 b2 b3) := W_bor (W_bor (W_bor (Sha.W_mod _) (Sha.W_mod _)) (Sha.W_mod _)) (Sha.W_mod _)
theorem W_sch (blk : List Int) : ∀ n, ∀ x ∈ schI blk n, Sha.W x
  | 0, x, h => by cases h
  | n + 1, x, h => by
    rw [schI] at h
    rcases List.mem_append.1 h with h | h
    · exact W_sch blk n x h
    · obtain rfl := List.mem_singleton.1 h
      split
      · exact W_wd0
      · exact Sha.W_mod _
theorem W_zero : Sha.W 0 := ⟨by omega, by omega⟩
theorem W_getD {l : List Int} (h : ∀ x ∈ l, Sha.W x) (i : Nat) : Sha.W (l.getD i 0) := by
  by_cases hi : i < l.length
  · exact h _ (getD_mem l 0 i hi)
  · rw [List.getD_eq_getElem?_getD, List.getElem?_eq_none (by omega)]; exact W_zero
theorem B_getD {l : List Int} (h : ∀ x ∈ l, Byt x) (i : Nat) : Byt (l.getD i 0) := by
  by_cases hi : i < l.length
  · exact h _ (getD_mem l 0 i hi)
  · rw [List.getD_eq_getElem?_getD, List.getElem?_eq_none (by omega)]; exact ⟨by decide, by decide⟩
theorem wd0_eq {b0 b1 b2 b3 : Int} (h0 : Byt b0) (h1 : Byt b1) (h2 : Byt b2) (h3 : Byt b3) :
    Go.bits .or .u64 (Go.bits .or .u64 (Go.bits .or .u64 (IntKind.u64.wrap ((IntKind.u64.wrap b0) * 16777216)) (IntKind.u64.wrap ((IntKind.u64.wrap b1) * 65536))) (IntKind.u64.wrap ((IntKind.u64.wrap b2) * 256))) (IntKind.u64.wrap b3) = wd0 b0 b1 b2 b3 := by
  obtain ⟨p0, q0⟩ := h0; obtain ⟨p1, q1⟩ := h1; obtain ⟨p2, q2⟩ := h2; obtain ⟨p3, q3⟩ := h3
  simp only [IntKind.wrap_u64]
  have e0 : b0 % 18446744073709551616 * 16777216 % 18446744073709551616 = b0 % 4294967296 * 16777216 % 4294967296 := by omega
  have e1 : b1 % 18446744073709551616 * 65536 % 18446744073709551616 = b1 % 4294967296 * 65536 % 4294967296 := by omega
  have e2 : b2 % 18446744073709551616 * 256 % 18446744073709551616 = b2 % 4294967296 * 256 % 4294967296 := by omega
  have e3 : b3 % 18446744073709551616 = b3 % 4294967296 := by omega
  rw [e0, e1, e2, e3]
  unfold wd0
  rw [or64_32 (Sha.W_mod _) (Sha.W_mod _), or64_32 (W_bor (Sha.W_mod _) (Sha.W_mod _)) (Sha.W_mod _), or64_32 (W_bor (W_bor (Sha.W_mod _) (Sha.W_mod _)) (Sha.W_mod _)) (Sha.W_mod _)]
theorem words0 (blk : List Int) (hb : blk.length = 64) (hB : ∀ x ∈ blk, Byt x) (k i : Nat) (hi : i < 16) : spec_l1Words.l0 (k + 1) blk (schI blk i) (i : Int) = spec_l1Words.l0 k blk (schI blk (i + 1)) ((i + 1 : Nat) : Int) := by
  have w0 : wrap64 (4 * (i : Int)) = ((4 * i : Nat) : Int) := four_w' hi
  have w1 : wrap64 (((4 * i : Nat) : Int) + 1) = ((4 * i + 1 : Nat) : Int) := by unfold wrap64; omega
  have w2 : wrap64 (((4 * i : Nat) : Int) + 2) = ((4 * i + 2 : Nat) : Int) := by unfold wrap64; omega
  have w3 : wrap64 (((4 * i : Nat) : Int) + 3) = ((4 * i + 3 : Nat) : Int) := by unfold wrap64; omega
  have w4 : wrap64 ((i : Int) + 1) = ((i + 1 : Nat) : Int) := by unfold wrap64; omega
  rw [spec_l1Words.l0, if_pos (by omega), w0, w1, w2, w3, w4, hb]
  rw [if_pos (by omega), if_pos (by omega), if_pos (by omega), if_pos (by omega), if_pos (by omega), if_pos (by omega), if_pos (by omega), if_pos (by omega), if_pos (by rw [schI_length]; omega)]
  rw [rdD, rdD, rdD, rdD, wd0_eq (B_getD hB _) (B_getD hB _) (B_getD hB _) (B_getD hB _)]
  rw [schI, if_pos hi]
where four_w' {i : Nat} (h : i < 16) : wrap64 (4 * (i : Int)) = ((4 * i : Nat) : Int) := by unfold wrap64; omega
theorem wd1_eq {p q x y : Int} (hp : Sha.W p) (hq : Sha.W q) (hx : Sha.W x) (hy : Sha.W y) :
    Int.tmod (IntKind.u64.wrap ((IntKind.u64.wrap ((IntKind.u64.wrap (x + (Go.bits .xor .u64 (Go.bits .xor .u64 (Sha.R 7 p) (Sha.R 18 p)) (p / 8)))) + y)) + (Go.bits .xor .u64 (Go.bits .xor .u64 (Sha.R 17 q) (Sha.R 19 q)) (q / 1024)))) 4294967296 = wd1 p q x y := by
  have r7 : rotI 25 7 p = _ := rot_R 7 (by omega) (by omega) hp
  have r18 : rotI 14 18 p = _ := rot_R 18 (by omega) (by omega) hp
  have r17 : rotI 15 17 q = _ := rot_R 17 (by omega) (by omega) hq
  have r19 : rotI 13 19 q = _ := rot_R 19 (by omega) (by omega) hq
  have s3 : Sha.W (p / 8) := Sha.W_shr hp 3
  have s10 : Sha.W (q / 1024) := Sha.W_shr hq 10
  have x1 := Sha.W_X (Sha.W_X (Sha.W_R hp 7) (Sha.W_R hp 18)) s3
  have x2 := Sha.W_X (Sha.W_X (Sha.W_R hq 17) (Sha.W_R hq 19)) s10
  unfold wd1
  rw [r7, r18, r17, r19, Sha.xor64 (Sha.W_R hp 7) (Sha.W_R hp 18), Sha.xor64 (Sha.W_X (Sha.W_R hp 7) (Sha.W_R hp 18)) s3, Sha.xor64 (Sha.W_R hq 17) (Sha.W_R hq 19), Sha.xor64 (Sha.W_X (Sha.W_R hq 17) (Sha.W_R hq 19)) s10,
    Sha.xor32 (Sha.W_R hp 7) (Sha.W_R hp 18), Sha.xor32 (Sha.W_X (Sha.W_R hp 7) (Sha.W_R hp 18)) s3, Sha.xor32 (Sha.W_R hq 17) (Sha.W_R hq 19), Sha.xor32 (Sha.W_X (Sha.W_R hq 17) (Sha.W_R hq 19)) s10]
  revert x1 x2
  generalize Sha.X (Sha.X (Sha.R 7 p) (Sha.R 18 p)) (p / 8) = y1
  generalize Sha.X (Sha.X (Sha.R 17 q) (Sha.R 19 q)) (q / 1024) = y2
  intro x1 x2
  obtain ⟨a1, a2⟩ := x1
  obtain ⟨b1, b2⟩ := x2
  obtain ⟨c1, c2⟩ := hx
  obtain ⟨d1, d2⟩ := hy
  simp only [IntKind.wrap_u64]
  rw [tm _ (by omega)]
  omega
theorem words1 (blk : List Int) (k i : Nat) (h16 : 16 ≤ i) (hi : i < 64) : spec_l1Words.l1 (k + 1) (schI blk i) (i : Int) = spec_l1Words.l1 k (schI blk (i + 1)) ((i + 1 : Nat) : Int) := by
  have v15 : wrap64 ((i : Int) - 15) = ((i - 15 : Nat) : Int) := by unfold wrap64; omega
  have v2 : wrap64 ((i : Int) - 2) = ((i - 2 : Nat) : Int) := by unfold wrap64; omega
  have v16 : wrap64 ((i : Int) - 16) = ((i - 16 : Nat) : Int) := by unfold wrap64; omega
  have v7 : wrap64 ((i : Int) - 7) = ((i - 7 : Nat) : Int) := by unfold wrap64; omega
  have w4 : wrap64 ((i : Int) + 1) = ((i + 1 : Nat) : Int) := by unfold wrap64; omega
  have hp := W_getD (W_sch blk i) (i - 15)
  have hq := W_getD (W_sch blk i) (i - 2)
  have hx := W_getD (W_sch blk i) (i - 16)
  have hy := W_getD (W_sch blk i) (i - 7)
  have q7 : spec_l1Turn.f ((schI blk i).getD (i - 15) 0) 7 = some _ := turn_R 7 (by omega) (by omega) hp
  have q18 : spec_l1Turn.f ((schI blk i).getD (i - 15) 0) 18 = some _ := turn_R 18 (by omega) (by omega) hp
  have q17 : spec_l1Turn.f ((schI blk i).getD (i - 2) 0) 17 = some _ := turn_R 17 (by omega) (by omega) hq
  have q19 : spec_l1Turn.f ((schI blk i).getD (i - 2) 0) 19 = some _ := turn_R 19 (by omega) (by omega) hq
  have hl := schI_length blk i
  have ew := wd1_eq hp hq hx hy
  have en : schI blk (i + 1) = schI blk i ++ [wd1 ((schI blk i).getD (i - 15) 0) ((schI blk i).getD (i - 2) 0) ((schI blk i).getD (i - 16) 0) ((schI blk i).getD (i - 7) 0)] := by rw [schI, if_neg (by omega)]
  rw [spec_l1Words.l1, if_pos (by omega), v15, v2, v16, v7, w4, hl]
  rw [if_pos (by omega), if_pos (by omega), rdD, rdD, rdD, rdD, q7, q18]
  simp only [Option.bind_some]
  rw [if_pos (by omega), if_pos (by omega), q17, q19]
  simp only [Option.bind_some]
  rw [if_pos (by omega), if_pos (by omega), if_pos (by omega), if_pos (by omega)]
  simp only [spec_l1Word.f, Option.bind_some]
  rw [if_pos (by omega), ew, en]
theorem words_ok (blk : List Int) (hb : blk.length = 64) (hB : ∀ x ∈ blk, Byt x) : spec_l1Words.f 66 blk = some (schI blk 64) := by
  have h1 := iter (fun k i => spec_l1Words.l0 k blk (schI blk i) (i : Int)) 1 0 16 (fun k i _ hi => words0 blk hb hB k i hi) 16 0 50 rfl (by omega)
  have h2 := iter (fun k i => spec_l1Words.l1 k (schI blk (i + 16)) ((i + 16 : Nat) : Int)) 1 0 48 (fun k i _ hi => by
    have := words1 blk k (i + 16) (by omega) (by omega)
    rw [this, show i + 16 + 1 = i + 1 + 16 by omega]) 48 0 1 rfl (by omega)
  have e : spec_l1Words.f 66 blk = spec_l1Words.l0 (50 + 1 * 16) blk (schI blk 0) ((0 : Nat) : Int) := rfl
  rw [e]
  refine h1.trans ?_
  have e2 : spec_l1Words.l0 50 blk (schI blk 16) ((16 : Nat) : Int) = spec_l1Words.l1 49 (schI blk 16) 16 := by rw [spec_l1Words.l0, if_neg (by decide)]
  show spec_l1Words.l0 50 blk (schI blk 16) ((16 : Nat) : Int) = _
  rw [e2]
  refine (show spec_l1Words.l1 49 (schI blk 16) 16 = spec_l1Words.l1 (1 + 1 * 48) (schI blk (0 + 16)) ((0 + 16 : Nat) : Int) from rfl).trans (h2.trans ?_)
  show spec_l1Words.l1 1 (schI blk 64) ((64 : Nat) : Int) = _
  rw [spec_l1Words.l1, if_neg (by decide)]
end Go.Proofs.YtfinaphomgdmlaaDoor.X
namespace Go.Proofs.YtfinaphomgdmlaaDoor.X
open Go.RowKit Go.Proofs.YtfinaphomgdmlaaDoorW.PrintWords Go.Proofs.YtfinaphomgdmlaaDoorW.PrintLast Go.Proofs.YtfinaphomgdmlaaDoorW.PrintMore Go.Proofs.YtfinaphomgdmlaaDoor.Sha Go.Proofs.YtfinaphomgdmlaaDoor.Pl
set_option linter.unusedVariables false
set_option linter.unusedSimpArgs false

theorem take_getD (l : List Int) (i : Nat) (h : i < l.length) : l.take (i + 1) = l.take i ++ [l.getD i 0] := by
  rw [List.take_add_one]; simp [List.getD_eq_getElem?_getD, h]
/-- Bytes, and what is put behind them. -/
def padI (l : List Int) : List Int := l ++ 128 :: (List.replicate (noughts (l.length % 64)) 0 ++ lenBs ((8 * l.length : Nat) : Int) 8)
theorem lenBs_len (L : Int) (j : Nat) : (lenBs L j).length = j := by simp [lenBs]
theorem padI_len (l : List Int) : ∃ n, (padI l).length = 64 * n := by
  refine ⟨(padI l).length / 64, ?_⟩
  have : (padI l).length = l.length + 1 + noughts (l.length % 64) + 8 := by simp [padI, lenBs_len]; omega
  have h2 : (padI l).length % 64 = 0 := by rw [this]; unfold noughts; omega
  omega
theorem whole0 (l : List Int) (hl : l.length ≤ 1000000) (k j : Nat) (hj : j < noughts (l.length % 64)) :
    spec_l1Whole.l0 (k + 1) l (l ++ 128 :: List.replicate j 0) = spec_l1Whole.l0 k l (l ++ 128 :: List.replicate (j + 1) 0) := by
  have e : (l ++ 128 :: List.replicate j (0 : Int)).length = l.length + 1 + j := by simp; omega
  rw [spec_l1Whole.l0, e, if_neg (by unfold noughts at hj; omega), if_pos (by unfold noughts at hj; omega)]
  congr 1
  rw [rep_succ]; simp
theorem whole1 (b : List Int) (L : Int) (hb : b.length ≤ 2000000) (k j : Nat) (hj : j < 8) :
    spec_l1Whole.l1 (k + 1) (b ++ lenBs L j) L (7 - (j : Int)) = spec_l1Whole.l1 k (b ++ lenBs L (j + 1)) L (7 - ((j + 1 : Nat) : Int)) := by
  have w8 : wrap64 (8 * (7 - (j : Int))) = ((56 - 8 * j : Nat) : Int) := by unfold wrap64; omega
  have w1 : wrap64 (7 - (j : Int) - 1) = 7 - ((j + 1 : Nat) : Int) := by unfold wrap64; omega
  rw [spec_l1Whole.l1, if_pos (by omega), w8, w1, if_pos (by omega), if_pos (by rw [List.length_append, lenBs_len]; omega)]
  congr 1
  rw [lenBs_succ, List.append_assoc]
  congr 2
  simp only [shr, lenB, Int.toNat_natCast]
  rw [Nat.min_eq_left (by show 56 - 8 * j ≤ 64; omega)]
theorem whole_ok (l : List Int) (hl : l.length ≤ 1000000) : spec_l1Whole.f 74 l = some (padI l) := by
  have hN : noughts (l.length % 64) ≤ 63 := by unfold noughts; omega
  have hL : IntKind.u64.wrap (wrap64 (8 * (l.length : Int))) = ((8 * l.length : Nat) : Int) := by rw [IntKind.wrap_u64]; unfold wrap64; omega
  unfold spec_l1Whole.f
  simp only [Option.bind_some, List.nil_append]
  rw [if_pos (by simp; omega), if_pos (by omega)]
  have e1 := iter (fun k j => spec_l1Whole.l0 k l (l ++ 128 :: List.replicate j 0)) 1 0 (noughts (l.length % 64)) (fun k j _ hj => whole0 l hl k j hj) (noughts (l.length % 64)) 0 (74 - noughts (l.length % 64)) (by omega) (by omega)
  rw [show 74 - noughts (l.length % 64) + 1 * noughts (l.length % 64) = 74 by omega] at e1
  refine e1.trans ?_
  obtain ⟨k, hk⟩ : ∃ k, 74 - noughts (l.length % 64) = k + 10 := ⟨64 - noughts (l.length % 64), by omega⟩
  have e3 : (l ++ 128 :: List.replicate (noughts (l.length % 64)) (0 : Int)).length = l.length + 1 + noughts (l.length % 64) := by simp; omega
  show spec_l1Whole.l0 (74 - noughts (l.length % 64)) l (l ++ 128 :: List.replicate (noughts (l.length % 64)) 0) = _
  rw [hk, spec_l1Whole.l0, e3, if_pos (by unfold noughts; omega), hL]
  have e2 := iter (fun k j => spec_l1Whole.l1 k ((l ++ 128 :: List.replicate (noughts (l.length % 64)) 0) ++ lenBs ((8 * l.length : Nat) : Int) j) ((8 * l.length : Nat) : Int) (7 - (j : Int))) 1 0 8 (fun k j _ hj => whole1 _ _ (by rw [e3]; omega) k j hj) 8 0 (k + 1) rfl (by omega)
  have e4 : (l ++ 128 :: List.replicate (noughts (l.length % 64)) 0) ++ lenBs ((8 * l.length : Nat) : Int) 0 = l ++ 128 :: List.replicate (noughts (l.length % 64)) 0 := by simp [lenBs]
  simp only [e4] at e2
  refine (show _ = spec_l1Whole.l1 (k + 1 + 1 * 8) (l ++ 128 :: List.replicate (noughts (l.length % 64)) 0) ((8 * l.length : Nat) : Int) (7 - ((0 : Nat) : Int)) from rfl).trans (e2.trans ?_)
  rw [spec_l1Whole.l1, if_neg (by decide)]
  simp [padI]

/-! ### The rounds of a block -/
theorem W_S0 : ∀ x ∈ shS0, Sha.W x := by intro x h; simp only [shS0, List.mem_cons, List.not_mem_nil, or_false] at h; rcases h with rfl | rfl | rfl | rfl | rfl | rfl | rfl | rfl <;> exact ⟨by decide, by decide⟩
theorem W_K0 : ∀ i, Sha.W (shK0.getD i 0) := by
  intro i
  by_cases h : i < 64
  · have : ∀ j : Fin 64, 0 ≤ shK0.getD j.val 0 ∧ shK0.getD j.val 0 < 4294967296 := by decide +kernel
    exact this ⟨i, h⟩
  · rw [List.getD_eq_getElem?_getD, List.getElem?_eq_none (by show shK0.length ≤ i; have : shK0.length = 64 := rfl; omega)]; exact W_zero
theorem WQ_rnd (ws : List Int) {q : St8} (h : WQ q) : ∀ n, WQ (rndI ws n q)
  | 0 => h
  | n + 1 => (WQ_rnd ws h n).step _ _
theorem rounds3 (x4 x6 ws : List Int) (x9 : Int) (q : St8) (hq : WQ q) (hw : ∀ x ∈ ws, Sha.W x) (hl : ws.length = 64) (k i : Nat) (hi : i < 64) :
    spec_l1Sum.l3 (k + 1) x4 x6 shK0 x9 ws (rndI ws i q).l (i : Int) = spec_l1Sum.l3 k x4 x6 shK0 x9 ws (rndI ws (i + 1) q).l ((i + 1 : Nat) : Int) := by
  have w1 : wrap64 ((i : Int) + 1) = ((i + 1 : Nat) : Int) := by unfold wrap64; omega
  rw [spec_l1Sum.l3, if_pos (by omega), if_pos (by omega), if_pos (by show (i : Int) < ((64 : Nat) : Int); omega), if_pos (by rw [hl]; omega), rdD, rdD, step_eq (WQ_rnd ws hq i) (W_K0 i) (W_getD hw i), w1]
  rfl
theorem adds4 (x4 x6 x7 : List Int) (x9 : Int) (q : St8) (hq : WQ q) (hw : ∀ x ∈ x4, Sha.W x) (hl : x4.length = 8) (k i : Nat) (hi : i < 8) :
    spec_l1Sum.l4 (k + 1) ((outI x4 q).take i ++ x4.drop i) x6 x7 x9 q.l (i : Int) = spec_l1Sum.l4 k ((outI x4 q).take (i + 1) ++ x4.drop (i + 1)) x6 x7 x9 q.l ((i + 1 : Nat) : Int) := by
  have w1 : wrap64 ((i : Int) + 1) = ((i + 1 : Nat) : Int) := by unfold wrap64; omega
  have ho : (outI x4 q).length = x4.length := by simp [outI, hl]
  have hlen : ((outI x4 q).take i ++ x4.drop i).length = 8 := by simp [ho, hl]; omega
  have hx := W_getD hw i
  have hy : Sha.W (q.l.getD i 0) := W_getD (by intro x h; simp only [St8.l, List.mem_cons, List.not_mem_nil, or_false] at h; rcases h with rfl | rfl | rfl | rfl | rfl | rfl | rfl | rfl <;> first | exact hq.a | exact hq.b | exact hq.c | exact hq.d | exact hq.e | exact hq.f | exact hq.g | exact hq.h) i
  have hs : (outI x4 q).getD i 0 = (x4.getD i 0 + q.l.getD i 0) % 4294967296 := by
    rw [outI, show q.l = [q.a, q.b, q.c, q.d, q.e, q.f, q.g, q.h] from rfl, List.getD_eq_getElem?_getD, List.getElem?_zipWith, List.getD_eq_getElem?_getD, List.getD_eq_getElem?_getD, List.getElem?_eq_getElem (by omega), List.getElem?_eq_getElem (by exact hi)]; rfl
  have ht : Int.tmod (IntKind.u64.wrap (x4.getD i 0 + q.l.getD i 0)) 4294967296 = (outI x4 q).getD i 0 := by
    obtain ⟨p1, p2⟩ := hx; obtain ⟨p3, p4⟩ := hy
    rw [hs, IntKind.wrap_u64, tm _ (by omega)]; omega
  rw [spec_l1Sum.l4, if_pos (by omega), if_pos (by omega), hlen, if_pos (by omega), if_pos (by show (i : Int) < ((8 : Nat) : Int); omega), rdD, rdD, part_at _ _ _ (by omega) ho]
  simp only [spec_l1Word.f, Option.bind_some]
  rw [ht, w1, Int.toNat_natCast, part_set _ _ _ (by omega) ho]
def qOf (st : List Int) : St8 := ⟨st.getD 0 0, st.getD 1 0, st.getD 2 0, st.getD 3 0, st.getD 4 0, st.getD 5 0, st.getD 6 0, st.getD 7 0⟩
theorem qOf_l {st : List Int} (h : st.length = 8) : (qOf st).l = st := by
  obtain ⟨a0, a1, a2, a3, a4, a5, a6, a7, rfl⟩ := eight h; rfl
theorem WQ_qOf {st : List Int} (h : ∀ x ∈ st, Sha.W x) : WQ (qOf st) := ⟨W_getD h 0, W_getD h 1, W_getD h 2, W_getD h 3, W_getD h 4, W_getD h 5, W_getD h 6, W_getD h 7⟩
theorem mixI_len {st blk : List Int} (h : st.length = 8) : (mixI st blk).length = 8 := by simp [mixI, outI, h]
theorem W_mixI (st blk : List Int) : ∀ x ∈ mixI st blk, Sha.W x := by
  intro x hx
  unfold mixI outI at hx
  obtain ⟨i, hi⟩ := List.mem_iff_getElem?.1 hx
  rw [List.getElem?_zipWith] at hi
  split at hi
  · obtain rfl := Option.some.inj hi; exact Sha.W_mod _
  · cases hi
theorem block2 (h x6 : List Int) (n : Nat) (hh : h.length = 8) (hw : ∀ x ∈ h, Sha.W x) (hB : ∀ x ∈ x6, Byt x) (N : Nat) (hx : x6.length = 64 * N) (hN : N ≤ 100000) (hn : n < N) (k : Nat) :
    spec_l1Sum.l2 (k + 75) h x6 shK0 ((64 * n : Nat) : Int) = spec_l1Sum.l2 k (mixI h ((x6.drop (64 * n)).take 64)) x6 shK0 ((64 * (n + 1) : Nat) : Int) := by
  have w1 : wrap64 (((64 * n : Nat) : Int) + 64) = ((64 * (n + 1) : Nat) : Int) := by unfold wrap64; omega
  have hb : ((x6.take (64 * (n + 1))).drop (64 * n)) = (x6.drop (64 * n)).take 64 := by
    rw [List.drop_take]; congr 1; omega
  have hbl : ((x6.drop (64 * n)).take 64).length = 64 := by simp; omega
  have hbB : ∀ x ∈ (x6.drop (64 * n)).take 64, Byt x := fun x h => hB x (List.mem_of_mem_drop (List.mem_of_mem_take h))
  have hwd : spec_l1Words.f (k + 74) ((x6.drop (64 * n)).take 64) = some _ := at_rounds (spec_l1Words.mono _) (k := 66) (by omega) (words_ok _ hbl hbB)
  rw [show k + 75 = (k + 74) + 1 from rfl, spec_l1Sum.l2, if_pos (by omega), if_pos (by omega), w1, if_pos (by omega), if_pos (by omega), Int.toNat_natCast, Int.toNat_natCast, hb, hwd]
  simp only [Option.bind_some, List.nil_append]
  rw [if_pos (by simp [hh])]
  have e3 := iter (fun k i => spec_l1Sum.l3 k h x6 shK0 ((64 * n : Nat) : Int) (schI ((x6.drop (64 * n)).take 64) 64) (rndI (schI ((x6.drop (64 * n)).take 64) 64) i (qOf h)).l (i : Int)) 1 0 64 (fun k i _ hi => rounds3 _ _ _ _ _ (WQ_qOf hw) (W_sch _ _) (schI_length _ _) k i hi) 64 0 (k + 10) rfl (by omega)
  have e0 : (rndI (schI ((x6.drop (64 * n)).take 64) 64) 0 (qOf h)).l = h := qOf_l hh
  simp only [e0] at e3
  refine e3.trans ?_
  show spec_l1Sum.l3 ((k + 9) + 1) h x6 shK0 _ _ _ ((64 : Nat) : Int) = _
  rw [spec_l1Sum.l3, if_neg (by decide)]
  have e4 := iter (fun k i => spec_l1Sum.l4 k ((outI h (rndI (schI ((x6.drop (64 * n)).take 64) 64) 64 (qOf h))).take i ++ h.drop i) x6 shK0 ((64 * n : Nat) : Int) (rndI (schI ((x6.drop (64 * n)).take 64) 64) 64 (qOf h)).l (i : Int)) 1 0 8 (fun k i _ hi => adds4 h x6 shK0 _ _ (WQ_rnd _ (WQ_qOf hw) 64) hw hh k i hi) 8 0 (k + 1) rfl (by omega)
  simp only [List.take_zero, List.drop_zero, List.nil_append] at e4
  refine e4.trans ?_
  have ho : (outI h (rndI (schI ((x6.drop (64 * n)).take 64) 64) 64 (qOf h))).length = 8 := by simp [outI, hh]
  have hd : h.drop 8 = [] := List.drop_eq_nil_of_le (by omega)
  rw [List.take_of_length_le (by omega), hd, List.append_nil, spec_l1Sum.l4, if_neg (by decide), w1]
  rfl
theorem blocks_snoc (mix : List Int → List Int → List Int) : ∀ (n : Nat) (h l : List Int), blocksF mix (n + 1) h l = mix (blocksF mix n h l) ((l.drop (64 * n)).take 64)
  | 0, h, l => by simp [blocksF]
  | n + 1, h, l => by
    have := blocks_snoc mix n (mix h (l.take 64)) (l.drop 64)
    rw [blocksF, this]
    rw [show blocksF mix (n + 1) h l = blocksF mix n (mix h (l.take 64)) (l.drop 64) from rfl, List.drop_drop, show 64 + 64 * n = 64 * (n + 1) by omega]
theorem blocks_good (l : List Int) : ∀ n, (blocksF mixI n shS0 l).length = 8 ∧ ∀ x ∈ blocksF mixI n shS0 l, Sha.W x
  | 0 => ⟨rfl, W_S0⟩
  | n + 1 => by rw [blocks_snoc]; exact ⟨mixI_len (blocks_good l n).1, W_mixI _ _⟩
theorem padI_byt {l : List Int} (h : ∀ x ∈ l, Byt x) : ∀ x ∈ padI l, Byt x := by
  intro x hx
  simp only [padI, List.mem_append, List.mem_cons, List.mem_replicate] at hx
  rcases hx with hx | rfl | ⟨_, rfl⟩ | hx
  · exact h x hx
  · exact ⟨by decide, by decide⟩
  · exact ⟨by decide, by decide⟩
  · obtain ⟨j, _, rfl⟩ := List.mem_map.1 hx
    unfold lenB Byt; omega
theorem dig5 (h : List Int) (hh : h.length = 8) (k i : Nat) (hi : i < 8) : spec_l1Sum.l5 (k + 1) h (digI (h.take i)) (i : Int) = spec_l1Sum.l5 k h (digI (h.take (i + 1))) ((i + 1 : Nat) : Int) := by
  have w1 : wrap64 ((i : Int) + 1) = ((i + 1 : Nat) : Int) := by unfold wrap64; omega
  rw [spec_l1Sum.l5, if_pos (by omega), if_pos (by omega), hh, if_pos (by omega), w1]
  simp only [Option.bind_some]
  rw [if_pos (by rw [digI_len, List.length_take, hh]; simp; omega), digI_succ h i (by omega), rdD]
  rfl
theorem shP_len : shP.length = 64 := rfl
theorem sum0 (l : List Int) (k : Nat) (hk : 50 ≤ k) : spec_l1Sum.l0 ((k + 1) + 1 * 8) l shP [] ((0 : Nat) : Int) = (spec_l1Whole.f k l).bind fun t => spec_l1Sum.l1 k shP shS0 t [] 0 := by
  have e0 := iter (fun k i => spec_l1Sum.l0 k l shP (shS0.take i) (i : Int)) 1 50 8 (fun k i hk hi => by
    have w1 : wrap64 ((i : Int) + 1) = ((i + 1 : Nat) : Int) := by unfold wrap64; omega
    have hr0 : spec_l1Root.f 50 (shP.getD i 0) 2 = some (shS0.getD i 0) := root2 ⟨i, hi⟩
    have hr : spec_l1Root.f k (shP.getD i 0) 2 = some (shS0.getD i 0) := at_rounds (g := fun k => spec_l1Root.f k (shP.getD i 0) 2) (spec_l1Root.mono _ _) hk hr0
    show spec_l1Sum.l0 (k + 1) l shP (shS0.take i) (i : Int) = spec_l1Sum.l0 k l shP (shS0.take (i + 1)) ((i + 1 : Nat) : Int)
    rw [spec_l1Sum.l0, if_pos (by omega), if_pos (by omega), if_pos (by rw [shP_len]; omega), rdD, hr, Option.bind_some, if_pos (by rw [List.length_take]; omega), w1, take_getD shS0 i hi]) 8 0 (k + 1) rfl (by omega)
  refine Eq.trans e0 ?_
  show spec_l1Sum.l0 (k + 1) l shP (shS0.take 8) ((8 : Nat) : Int) = _
  rw [spec_l1Sum.l0, if_neg (by decide)]
  rfl
theorem sum1 (X : List Int) (k : Nat) (hk : 50 ≤ k) : spec_l1Sum.l1 ((k + 1) + 1 * 64) shP shS0 X [] ((0 : Nat) : Int) = spec_l1Sum.l2 k shS0 X shK0 ((64 * 0 : Nat) : Int) := by
  have e1 := iter (fun k i => spec_l1Sum.l1 k shP shS0 X (shK0.take i) (i : Int)) 1 50 64 (fun k i hk hi => by
    have w1 : wrap64 ((i : Int) + 1) = ((i + 1 : Nat) : Int) := by unfold wrap64; omega
    have hr0 : spec_l1Root.f 50 (shP.getD i 0) 3 = some (shK0.getD i 0) := root3 ⟨i, hi⟩
    have hr : spec_l1Root.f k (shP.getD i 0) 3 = some (shK0.getD i 0) := at_rounds (g := fun k => spec_l1Root.f k (shP.getD i 0) 3) (spec_l1Root.mono _ _) hk hr0
    show spec_l1Sum.l1 (k + 1) shP shS0 X (shK0.take i) (i : Int) = spec_l1Sum.l1 k shP shS0 X (shK0.take (i + 1)) ((i + 1 : Nat) : Int)
    rw [spec_l1Sum.l1, if_pos (by omega), if_pos (by omega), if_pos (by rw [shP_len]; omega), rdD, hr, Option.bind_some, if_pos (by rw [List.length_take]; omega), w1, take_getD shK0 i hi]) 64 0 (k + 1) rfl (by omega)
  refine Eq.trans e1 ?_
  show spec_l1Sum.l1 (k + 1) shP shS0 X (shK0.take 64) ((64 : Nat) : Int) = _
  rw [spec_l1Sum.l1, if_neg (by decide), show shK0.take 64 = shK0 from rfl]
  rfl
theorem sum2 (l : List Int) (hB : ∀ x ∈ l, Byt x) (N : Nat) (hN : (padI l).length = 64 * N) (hNl : N ≤ 100000) (k : Nat) : spec_l1Sum.l2 (((k + 1) + 1 * 8 + 1) + 75 * N) shS0 (padI l) shK0 ((64 * 0 : Nat) : Int) = some (digI (blocksF mixI N shS0 (padI l))) := by
  have e2 := iter (fun k n => spec_l1Sum.l2 k (blocksF mixI n shS0 (padI l)) (padI l) shK0 ((64 * n : Nat) : Int)) 75 0 N (fun k n _ hn => by
    have := block2 (blocksF mixI n shS0 (padI l)) (padI l) n (blocks_good _ n).1 (blocks_good _ n).2 (padI_byt hB) N hN hNl hn k
    rw [this, ← blocks_snoc mixI]) N 0 ((k + 1) + 1 * 8 + 1) (by omega) (by omega)
  refine Eq.trans e2 ?_
  show spec_l1Sum.l2 (((k + 1) + 1 * 8) + 1) _ (padI l) shK0 ((64 * N : Nat) : Int) = _
  rw [spec_l1Sum.l2, hN, if_neg (by omega)]
  have e5 := iter (fun k i => spec_l1Sum.l5 k (blocksF mixI N shS0 (padI l)) (digI ((blocksF mixI N shS0 (padI l)).take i)) (i : Int)) 1 0 8 (fun k i _ hi => dig5 _ (blocks_good _ N).1 k i hi) 8 0 (k + 1) rfl (by omega)
  refine Eq.trans e5 ?_
  show spec_l1Sum.l5 (k + 1) _ (digI ((blocksF mixI N shS0 (padI l)).take 8)) ((8 : Nat) : Int) = _
  rw [spec_l1Sum.l5, if_neg (by decide), List.take_of_length_le (by rw [(blocks_good _ N).1]; omega)]
theorem sum_blocks (l : List Int) (hl : l.length ≤ 1000000) (hB : ∀ x ∈ l, Byt x) (N : Nat) (hN : (padI l).length = 64 * N) : ∃ k, spec_l1Sum.f k l = some (digI (blocksF mixI N shS0 (padI l))) := by
  have hNl : N ≤ 100000 := by
    have : (padI l).length = l.length + 1 + noughts (l.length % 64) + 8 := by simp [padI, lenBs_len]; omega
    unfold noughts at this; omega
  obtain ⟨K2, h2⟩ : ∃ K2, K2 = ((400 + 1) + 1 * 8 + 1) + 75 * N := ⟨_, rfl⟩
  have e2 := sum2 l hB N hN hNl 400
  rw [← h2] at e2
  have e1 := sum1 (padI l) K2 (by omega)
  rw [e2] at e1
  obtain ⟨K1, h1⟩ : ∃ K1, K1 = (K2 + 1) + 1 * 64 := ⟨_, rfl⟩
  rw [← h1] at e1
  have hwh : spec_l1Whole.f K1 l = some (padI l) := at_rounds (g := fun k => spec_l1Whole.f k l) (spec_l1Whole.mono l) (k := 74) (by omega) (whole_ok l hl)
  have e0 := sum0 l K1 (by omega)
  rw [hwh, Option.bind_some] at e0
  obtain ⟨K0, h0⟩ : ∃ K0, K0 = (K1 + 1) + 1 * 8 := ⟨_, rfl⟩
  rw [← h0] at e0
  have hp : spec_l1Primes.f K0 64 = some shP := at_rounds (g := fun k => spec_l1Primes.f k 64) (spec_l1Primes.mono 64) (k := 400) (by omega) primes_ok
  refine ⟨K0, ?_⟩
  unfold spec_l1Sum.f
  rw [hp, Option.bind_some]
  exact Eq.trans e0 e1
/-- What the program's hash comes to is what the reference's does. -/
theorem shaF_blocks (l : List Int) (T : Int) (hT : IntKind.u64.wrap (T * 8) = ((8 * l.length : Nat) : Int)) (N : Nat) (hN : (padI l).length = 64 * N) : shaF mixI l T = digI (blocksF mixI N shS0 (padI l)) := by
  have hu : (writeF mixI (shS0, List.replicate 64 0, 0) l).2.2 = l.length % 64 := by
    have := writeF_used mixI l (shS0, List.replicate 64 0, 0) (by decide)
    simpa using this
  unfold shaF
  rw [hT, hu, ← writeF_append]
  obtain ⟨b, h1, _⟩ := writeF_blocks mixI N (padI l) shS0 (List.replicate 64 0) (by simp) hN
  show digI (writeF mixI _ (padI l)).1 = _
  rw [h1]
theorem sum_ok (l : List Int) (hl : l.length ≤ 1000000) (hB : ∀ x ∈ l, Byt x) (T : Int) (hT : IntKind.u64.wrap (T * 8) = ((8 * l.length : Nat) : Int)) : ∃ k, spec_l1Sum.f k l = some (shaF mixI l T) := by
  obtain ⟨N, hN⟩ := padI_len l
  rw [shaF_blocks l T hT N hN]
  exact sum_blocks l hl hB N hN
theorem totN0 (n : Nat) (h : n ≤ 1000000) : totN 0 n = (n : Int) := by unfold totN; simp only [IntKind.wrap_u64]; omega
theorem sum_ok0 (l : List Int) (hl : l.length ≤ 1000000) (hB : ∀ x ∈ l, Byt x) : ∃ k, spec_l1Sum.f k l = some (shaF mixI l (totN 0 l.length)) :=
  sum_ok l hl hB _ (by rw [totN0 _ hl, IntKind.wrap_u64]; omega)
end Go.Proofs.YtfinaphomgdmlaaDoor.X
namespace Go.Proofs.YtfinaphomgdmlaaDoor.X
open Go.RowKit Go.Proofs.YtfinaphomgdmlaaDoorW.PrintWords Go.Proofs.YtfinaphomgdmlaaDoor.Pl Go.Proofs.YtfinaphomgdmlaaDoor.Sha
set_option linter.unusedSimpArgs false
set_option linter.unusedVariables false
/-- What the sum of bytes comes to, too many or not. -/
def sumR (l : List Int) : List Int := if l.length ≤ 500 then shaSumF l else []
theorem shaSumF_len (l : List Int) (hl : l.length ≤ 1000000) : (shaSumF l).length = 32 := by
  obtain ⟨N, hN⟩ := padI_len l
  unfold shaSumF
  rw [shaF_blocks l _ (by rw [totN0 _ hl, IntKind.wrap_u64]; omega) N hN, digI_len, (blocks_good _ N).1]
theorem implSum_ok (l : List Int) : impl_ShaSum.f l = some (sumR l) := by
  unfold impl_ShaSum.f sumR; split <;> rfl
theorem specSum_ev (l : List Int) (hB : ∀ x ∈ l, Byt x) : Ev (fun k => spec_ShaSum.f k l) (sumR l) := by
  unfold sumR
  by_cases h : l.length ≤ 500
  · rw [if_pos h]
    obtain ⟨k, hk⟩ := sum_ok0 l (by omega) hB
    refine Ev.congr (f := fun k => spec_l1Sum.f k l) (fun k => ?_) (Ev.of (spec_l1Sum.mono l) hk)
    unfold spec_ShaSum.f
    rw [if_neg (by omega)]
    cases spec_l1Sum.f k l <;> rfl
  · rw [if_neg h]
    refine ⟨0, fun k _ => ?_⟩
    unfold spec_ShaSum.f
    dsimp only
    rw [if_pos (by omega)]
theorem ByteOk {n : Int} (h : (Lit.int .u8 n).wf = true) : 0 ≤ n ∧ n ≤ 255 := by
  simp [Lit.wf, IntKind.min, IntKind.max, IntKind.signed, IntKind.bits] at h; omega
end Go.Proofs.YtfinaphomgdmlaaDoor.X
namespace Go.Proofs.YtfinaphomgdmlaaDoor.X
open Go.RowKit Go.Proofs.YtfinaphomgdmlaaDoorW.PrintWords Go.Proofs.YtfinaphomgdmlaaDoorW.PrintLast Go.Proofs.YtfinaphomgdmlaaDoorW.PrintMore
attribute [local go_sem] max2_int min2_int max_two min_two max_three min_three max_four min_four
set_option linter.unusedVariables false
set_option linter.unusedSimpArgs false

/-! ### impl_ShaMac: function 18 -/
/-! The sum of a key and bytes. -/
structure BBlk (w : World) (b : Nat) (l : List Int) : Prop where
  l64 : l.length = 64
  cells : w.heap[b]? = some (.cells (nums .u8 l).toArray 5 (0, 0))
theorem BBlk.at_ {w : World} {b : Nat} {l : List Int} (h : BBlk w b l) (i : Nat) (hi : i < 64) : w.cell? ⟨b, i, none⟩ = some (.int .u8 (l.getD i 0)) := by
  rw [blk_cell h.cells]; have := h.l64
  simp [nums, hi, this, List.getD_eq_getElem?_getD]
theorem BBlk.set {w : World} {b : Nat} {l : List Int} (h : BBlk w b l) (i : Nat) (x : Int) : BBlk (w.setCell ⟨b, i, none⟩ (.int .u8 x)) b (l.set i x) := by
  refine ⟨by simp [h.l64], ?_⟩
  rw [blk_set h.cells]
  simp [nums, List.map_set]
theorem BBlk.below {w w' : World} {b C : Nat} {l : List Int} (h : BBlk w b l) (hb : Below C w w') (hC : b < C) : BBlk w' b l := ⟨h.l64, (hb.block _ hC).trans h.cells⟩
theorem BBlk.lt {w : World} {b : Nat} {l : List Int} (h : BBlk w b l) : b < w.heap.size := blk_lt h.cells
theorem BBlk.belowW {w w' : World} {b : Nat} {l : List Int} (h : BBlk w b l) (hb : Below w.heap.size w w') : BBlk w' b l := h.below hb h.lt
theorem BBlk.C {w : World} {b : Nat} {l : List Int} (h : BBlk w b l) : Kd.C (Kd.int .u8) w (some ⟨b, 0, none⟩) l.length l := by
  refine Kd.C_of_reads (d := (0 : Int)) (h1 := fun _ => rfl) ⟨rfl, by rw [h.l64]; decide, fun _ => ⟨_, rfl, fun j hj => ?_⟩⟩
  rw [add_plain, h.at_ j (by rw [h.l64] at hj; exact hj)]
section
variable {ops : Array Oper} {Q : Exit → Act → World → Prop} {rest : List Oper} {o : Oper} {a : Act} {W : World}
end

end Go.Proofs.YtfinaphomgdmlaaDoor.X
namespace Go.Proofs.YtfinaphomgdmlaaDoor.X
open Go.RowKit Go.Proofs.YtfinaphomgdmlaaDoorW.PrintWords Go.Proofs.YtfinaphomgdmlaaDoor.Pl Go.Proofs.YtfinaphomgdmlaaDoor.Sha
set_option linter.unusedSimpArgs false
set_option linter.unusedVariables false
end Go.Proofs.YtfinaphomgdmlaaDoor.X
namespace Go.Proofs.YtfinaphomgdmlaaDoor.Pure
open Go.RowKit Go.Proofs.YtfinaphomgdmlaaDoorW.PrintWords Go.Proofs.YtfinaphomgdmlaaDoor.Pl Go.Proofs.YtfinaphomgdmlaaDoor.X
set_option linter.unusedSimpArgs false
set_option linter.unusedVariables false
theorem l20Bytes_l0_byt {l : List Int} (hl : Bytes l) (P : Int) (hP : P ≤ 700000000000) (M : Int) (hM : M ≤ 1000) : ∀ s : List Int × Int × Int, (0 ≤ s.2.2 ∧ s.2.1 ≤ 1000 ∧ (s.1.length : Int) + (max s.2.1 0) ≤ M ∧ s.2.2 + 3 * (max s.2.1 0) ≤ P ∧ ∀ x ∈ s.1, Byt x) →
    Tot (fun k => spec_l20Bytes.l0 k s.1 s.2.1 l s.2.2) (fun x => (0 ≤ x.2 ∧ x.2 ≤ P) ∧ (x.1.length : Int) ≤ M ∧ ∀ y ∈ x.1, Byt y) := by
  refine tot_ind (fun k (s : List Int × Int × Int) => spec_l20Bytes.l0 k s.1 s.2.1 l s.2.2) _ (fun s => s.2.1.toNat) _ ?_
  rintro ⟨s, c, p⟩ ⟨i1, i2, i3, i4, i5⟩ ih
  dsimp only at i1 i2 i3 i4 i5 ⊢
  refine Tot.succ ?_
  simp only [spec_l20Bytes.l0]
  refine Tot.ite ?_ ?_ <;> intro h
  · refine Tot.bind (pick_tot hl p 256 (by omega) (by omega)) ?_
    rintro ⟨r0, p0⟩ ⟨e0, -, -, -⟩
    dsimp only at e0 ⊢
    refine Tot.bind (pick_tot hl p0 4 (by omega) (by omega)) ?_
    rintro ⟨r1, p1⟩ ⟨e1, -, -, -⟩
    dsimp only at e1 ⊢
    refine Tot.some_bind ?_
    refine Tot.bind (pick_tot hl p1 3 (by omega) (by omega)) ?_
    rintro ⟨r2, p2⟩ ⟨e2, a2, b2, -⟩
    dsimp only at e2 a2 b2 ⊢
    refine Tot.pos a2 (Tot.pos (by simp only [List.length_cons, List.length_nil]; omega) (Tot.pos (by omega) ?_))
    have w : wrap64 (c - 1) = c - 1 := wrap_id (by omega) (by omega)
    rw [w]
    exact ih (_, c - 1, p2) (by
      dsimp only
      refine ⟨by omega, by omega, by rw [List.length_append]; simp only [List.length_cons, List.length_nil]; omega, by omega, fun x hx => ?_⟩
      rcases List.mem_append.1 hx with hx | hx
      · exact i5 x hx
      · obtain rfl := List.mem_singleton.1 hx
        unfold Byt; omega) (by dsimp only; omega)
  · exact Tot.ret ⟨by dsimp only; omega, by dsimp only; omega, i5⟩
theorem l20Bytes_byt {l : List Int} (hl : Bytes l) (p : Int) (h0 : 0 ≤ p) (h1 : p ≤ 600000000000) (n : Int) (hn : 0 ≤ n ∧ n ≤ 500) : Tot (fun k => spec_l20Bytes.f k l p n) (fun x => (0 ≤ x.2 ∧ x.2 ≤ p + 5000) ∧ (x.1.length : Int) ≤ n ∧ ∀ y ∈ x.1, Byt y) := by
  simp only [spec_l20Bytes.f]
  have w : wrap64 (n + 1) = n + 1 := wrap_id (by omega) (by omega)
  rw [w]
  refine Tot.bind (pick_tot hl p (n + 1) h0 (by omega)) ?_
  rintro ⟨r0, p0⟩ ⟨e0, a0, b0, -⟩
  dsimp only at e0 a0 b0 ⊢
  exact (l20Bytes_l0_byt hl (p0 + 3000) (by omega) n (by omega) ([], r0, p0) (by dsimp only [List.length_nil]; refine ⟨by omega, by omega, by simp; omega, by omega, fun x hx => by cases hx⟩)).mono (fun x hx => ⟨by omega, hx.2⟩)
theorem eaBytes_same (l : List Int) : laws_eaBytes.f l l = some true := by
  unfold laws_eaBytes.f; simp
/-! ### A key that is filled up -/
theorem sumR_in {l : List Int} (h : l.length ≤ 500) : sumR l = shaSumF l := by rw [sumR, if_pos h]
end Go.Proofs.YtfinaphomgdmlaaDoor.Pure
namespace Go.Proofs.YtfinaphomgdmlaaDoor.X
open Go.RowKit Go.Proofs.YtfinaphomgdmlaaDoorW.PrintWords Go.Proofs.YtfinaphomgdmlaaDoor.Pl Go.Proofs.YtfinaphomgdmlaaDoor.Sha
set_option linter.unusedVariables false
set_option maxRecDepth 100000
theorem sch_cert (blk W : List Int) (hW : W.length = 64) (h : ∀ i : Fin 64, W.getD i.val 0 = if i.val < 16 then wd0 (blk.getD (4 * i.val) 0) (blk.getD (4 * i.val + 1) 0) (blk.getD (4 * i.val + 2) 0) (blk.getD (4 * i.val + 3) 0) else wd1 (W.getD (i.val - 15) 0) (W.getD (i.val - 2) 0) (W.getD (i.val - 16) 0) (W.getD (i.val - 7) 0)) : ∀ n, n ≤ 64 → W.take n = schI blk n
  | 0, _ => rfl
  | n + 1, hn => by
    have ih := sch_cert blk W hW h n (by omega)
    rw [take_getD W n (by omega), schI, ← ih]
    congr 2
    have hh := h ⟨n, by omega⟩
    dsimp only at hh
    rw [hh]
    split
    · rfl
    · rw [ih, sch_at ih _ (by omega), sch_at ih _ (by omega), sch_at ih _ (by omega), sch_at ih _ (by omega)]
instance : DecidableEq St8 := fun a b => by
  obtain ⟨a1, a2, a3, a4, a5, a6, a7, a8⟩ := a
  obtain ⟨b1, b2, b3, b4, b5, b6, b7, b8⟩ := b
  exact decidable_of_iff (a1 = b1 ∧ a2 = b2 ∧ a3 = b3 ∧ a4 = b4 ∧ a5 = b5 ∧ a6 = b6 ∧ a7 = b7 ∧ a8 = b8) (by simp)
theorem rnd_cert (W : List Int) (Q : List St8) (z q0 : St8) (h0 : Q.getD 0 z = q0) (h : ∀ i : Fin 64, Q.getD (i.val + 1) z = stepI (shK0.getD i.val 0) (W.getD i.val 0) (Q.getD i.val z)) : ∀ n, n ≤ 64 → rndI W n q0 = Q.getD n z
  | 0, _ => h0.symm
  | n + 1, hn => by
    have ih := rnd_cert W Q z q0 h0 h n (by omega)
    rw [rndI, ih]
    exact (h ⟨n, by omega⟩).symm
theorem sum_one (l : List Int) (hl : l.length ≤ 55) : shaSumF l = digI (mixI shS0 (padI l)) := by
  have hN : (padI l).length = 64 * 1 := by
    have : (padI l).length = l.length + 1 + noughts (l.length % 64) + 8 := by simp [padI, lenBs_len]; omega
    unfold noughts at this; omega
  have := shaF_blocks l (totN 0 l.length) (by rw [totN0 _ (by omega), IntKind.wrap_u64]; omega) 1 hN
  unfold shaSumF
  rw [this]
  simp only [blocksF]
  rw [List.take_of_length_le (by omega)]

def blkE : List Int := [128, 0, 0, 0, 0, 0, 0, 0, 0, 0, 0, 0, 0, 0, 0, 0, 0, 0, 0, 0, 0, 0, 0, 0, 0, 0, 0, 0, 0, 0, 0, 0, 0, 0, 0, 0, 0, 0, 0, 0, 0, 0, 0, 0, 0, 0, 0, 0, 0, 0, 0, 0, 0, 0, 0, 0, 0, 0, 0, 0, 0, 0, 0, 0]
def WE : List Int := [2147483648, 0, 0, 0, 0, 0, 0, 0, 0, 0, 0, 0, 0, 0, 0, 0, 2147483648, 0, 2117632, 0, 570427392, 0, 84448578, 2147483648, 1476919296, 4235264, 1451269, 1711282176, 3592562048, 337794312, 3594910044, 3374850048, 3287351444, 676112230, 109604294, 2742808854, 1904000662, 4274181962, 2813755136, 2165675682, 2561075048, 62000258, 1562224585, 2975250741, 3286092305, 614207615, 3297584367, 1575308336, 3741240933, 748767245, 1008022316, 30329261, 369937616, 195877528, 907775968, 3526495142, 43741191, 1967544444, 133517113, 4161330627, 3704256008, 1581412744, 1153231965, 996066459]
def QE : List St8 := [⟨1779033703, 3144134277, 1013904242, 2773480762, 1359893119, 2600822924, 528734635, 1541459225⟩, ⟨2080933965, 1779033703, 3144134277, 1013904242, 415752866, 1359893119, 2600822924, 528734635⟩, ⟨2632279248, 2080933965, 1779033703, 3144134277, 536982102, 415752866, 1359893119, 2600822924⟩, ⟨3299628326, 2632279248, 2080933965, 1779033703, 1876632314, 536982102, 415752866, 1359893119⟩, ⟨1277422283, 3299628326, 2632279248, 2080933965, 808968629, 1876632314, 536982102, 415752866⟩, ⟨1130821424, 1277422283, 3299628326, 2632279248, 3889194014, 808968629, 1876632314, 536982102⟩, ⟨690895682, 1130821424, 1277422283, 3299628326, 1332035834, 3889194014, 808968629, 1876632314⟩, ⟨4028650896, 690895682, 1130821424, 1277422283, 2196627567, 1332035834, 3889194014, 808968629⟩, ⟨2060825014, 4028650896, 690895682, 1130821424, 1408847307, 2196627567, 1332035834, 3889194014⟩, ⟨4113392549, 2060825014, 4028650896, 690895682, 2058339864, 1408847307, 2196627567, 1332035834⟩, ⟨4025007953, 4113392549, 2060825014, 4028650896, 1392976521, 2058339864, 1408847307, 2196627567⟩, ⟨361478433, 4025007953, 4113392549, 2060825014, 3795207118, 1392976521, 2058339864, 1408847307⟩, ⟨4114828352, 361478433, 4025007953, 4113392549, 3621813394, 3795207118, 1392976521, 2058339864⟩, ⟨553833165, 4114828352, 361478433, 4025007953, 3455974994, 3621813394, 3795207118, 1392976521⟩, ⟨1170215847, 553833165, 4114828352, 361478433, 725774998, 3455974994, 3621813394, 3795207118⟩, ⟨3096116699, 1170215847, 553833165, 4114828352, 483372089, 725774998, 3455974994, 3621813394⟩, ⟨3019933109, 3096116699, 1170215847, 553833165, 1555621987, 483372089, 725774998, 3455974994⟩, ⟨1192056138, 3019933109, 3096116699, 1170215847, 1892956839, 1555621987, 483372089, 725774998⟩, ⟨3717831211, 1192056138, 3019933109, 3096116699, 1619825619, 1892956839, 1555621987, 483372089⟩, ⟨812095850, 3717831211, 1192056138, 3019933109, 3550010602, 1619825619, 1892956839, 1555621987⟩, ⟨172493064, 812095850, 3717831211, 1192056138, 2416781228, 3550010602, 1619825619, 1892956839⟩, ⟨1976037592, 172493064, 812095850, 3717831211, 966081741, 2416781228, 3550010602, 1619825619⟩, ⟨2577845017, 1976037592, 172493064, 812095850, 3263666206, 966081741, 2416781228, 3550010602⟩, ⟨1078820948, 2577845017, 1976037592, 172493064, 2976200464, 3263666206, 966081741, 2416781228⟩, ⟨2556161365, 1078820948, 2577845017, 1976037592, 741081741, 2976200464, 3263666206, 966081741⟩, ⟨2062996621, 2556161365, 1078820948, 2577845017, 4116679717, 741081741, 2976200464, 3263666206⟩, ⟨3317175470, 2062996621, 2556161365, 1078820948, 3850028020, 4116679717, 741081741, 2976200464⟩, ⟨747317945, 3317175470, 2062996621, 2556161365, 2677228163, 3850028020, 4116679717, 741081741⟩, ⟨1837942423, 747317945, 3317175470, 2062996621, 1726829818, 2677228163, 3850028020, 4116679717⟩, ⟨1690082844, 1837942423, 747317945, 3317175470, 2506713973, 1726829818, 2677228163, 3850028020⟩, ⟨1926471693, 1690082844, 1837942423, 747317945, 2957685293, 2506713973, 1726829818, 2677228163⟩, ⟨2696613087, 1926471693, 1690082844, 1837942423, 1447716390, 2957685293, 2506713973, 1726829818⟩, ⟨300352095, 2696613087, 1926471693, 1690082844, 3151463532, 1447716390, 2957685293, 2506713973⟩, ⟨3817927606, 300352095, 2696613087, 1926471693, 3436338571, 3151463532, 1447716390, 2957685293⟩, ⟨2705438357, 3817927606, 300352095, 2696613087, 197416927, 3436338571, 3151463532, 1447716390⟩, ⟨1151435175, 2705438357, 3817927606, 300352095, 1769188034, 197416927, 3436338571, 3151463532⟩, ⟨1679812728, 1151435175, 2705438357, 3817927606, 980442793, 1769188034, 197416927, 3436338571⟩, ⟨2694206301, 1679812728, 1151435175, 2705438357, 4206914285, 980442793, 1769188034, 197416927⟩, ⟨1457773646, 2694206301, 1679812728, 1151435175, 3892832895, 4206914285, 980442793, 1769188034⟩, ⟨2656625711, 1457773646, 2694206301, 1679812728, 2242319396, 3892832895, 4206914285, 980442793⟩, ⟨1234768305, 2656625711, 1457773646, 2694206301, 1902882853, 2242319396, 3892832895, 4206914285⟩, ⟨4270245939, 1234768305, 2656625711, 1457773646, 2224585183, 1902882853, 2242319396, 3892832895⟩, ⟨580450446, 4270245939, 1234768305, 2656625711, 4123364073, 2224585183, 1902882853, 2242319396⟩, ⟨3686090155, 580450446, 4270245939, 1234768305, 3762306745, 4123364073, 2224585183, 1902882853⟩, ⟨3907209042, 3686090155, 580450446, 4270245939, 692219050, 3762306745, 4123364073, 2224585183⟩, ⟨2752082644, 3907209042, 3686090155, 580450446, 2855016464, 692219050, 3762306745, 4123364073⟩, ⟨855262251, 2752082644, 3907209042, 3686090155, 3531982457, 2855016464, 692219050, 3762306745⟩, ⟨1419259244, 855262251, 2752082644, 3907209042, 2322236082, 3531982457, 2855016464, 692219050⟩, ⟨911881421, 1419259244, 855262251, 2752082644, 3417569515, 2322236082, 3531982457, 2855016464⟩, ⟨1655188062, 911881421, 1419259244, 855262251, 1286303114, 3417569515, 2322236082, 3531982457⟩, ⟨2543384045, 1655188062, 911881421, 1419259244, 3909789552, 1286303114, 3417569515, 2322236082⟩, ⟨3244542753, 2543384045, 1655188062, 911881421, 906398686, 3909789552, 1286303114, 3417569515⟩, ⟨3579709122, 3244542753, 2543384045, 1655188062, 2710884687, 906398686, 3909789552, 1286303114⟩, ⟨2981272720, 3579709122, 3244542753, 2543384045, 1134943992, 2710884687, 906398686, 3909789552⟩, ⟨974034039, 2981272720, 3579709122, 3244542753, 4254700398, 1134943992, 2710884687, 906398686⟩, ⟨749689034, 974034039, 2981272720, 3579709122, 3850954136, 4254700398, 1134943992, 2710884687⟩, ⟨23298068, 749689034, 974034039, 2981272720, 2918796810, 3850954136, 4254700398, 1134943992⟩, ⟨2126991890, 23298068, 749689034, 974034039, 2035393328, 2918796810, 3850954136, 4254700398⟩, ⟨3891021244, 2126991890, 23298068, 749689034, 3802734300, 2035393328, 2918796810, 3850954136⟩, ⟨3911429062, 3891021244, 2126991890, 23298068, 148956906, 3802734300, 2035393328, 2918796810⟩, ⟨71572494, 3911429062, 3891021244, 2126991890, 2867830852, 148956906, 3802734300, 2035393328⟩, ⟨4095722474, 71572494, 3911429062, 3891021244, 477227836, 2867830852, 148956906, 3802734300⟩, ⟨1586299222, 4095722474, 71572494, 3911429062, 2232532848, 477227836, 2867830852, 148956906⟩, ⟨3717492111, 1586299222, 4095722474, 71572494, 3382061760, 2232532848, 477227836, 2867830852⟩, ⟨2040978907, 3717492111, 1586299222, 4095722474, 3600805733, 3382061760, 2232532848, 477227836⟩]
def digE : List Int := [227, 176, 196, 66, 152, 252, 28, 20, 154, 251, 244, 200, 153, 111, 185, 36, 39, 174, 65, 228, 100, 155, 147, 76, 164, 149, 153, 27, 120, 82, 184, 85]
theorem padE : padI [] = blkE := by decide +kernel
theorem wE : schI blkE 64 = WE := by
  have := sch_cert blkE WE rfl (by decide +kernel) 64 (Nat.le_refl _)
  rw [← this]; rfl
theorem qE : rndI WE 64 ⟨1779033703, 3144134277, 1013904242, 2773480762, 1359893119, 2600822924, 528734635, 1541459225⟩ = ⟨2040978907, 3717492111, 1586299222, 4095722474, 3600805733, 3382061760, 2232532848, 477227836⟩ := (rnd_cert WE QE ⟨0, 0, 0, 0, 0, 0, 0, 0⟩ ⟨1779033703, 3144134277, 1013904242, 2773480762, 1359893119, 2600822924, 528734635, 1541459225⟩ rfl (by decide +kernel) 64 (Nat.le_refl _)).trans rfl
theorem sumE : shaSumF [] = digE := by
  rw [sum_one _ (by decide), padE, mixI, wE]
  have := qE
  rw [show (⟨shS0.getD 0 0, shS0.getD 1 0, shS0.getD 2 0, shS0.getD 3 0, shS0.getD 4 0, shS0.getD 5 0, shS0.getD 6 0, shS0.getD 7 0⟩ : St8) = ⟨1779033703, 3144134277, 1013904242, 2773480762, 1359893119, 2600822924, 528734635, 1541459225⟩ from rfl, this]
  decide +kernel

def blkA : List Int := [97, 98, 99, 128, 0, 0, 0, 0, 0, 0, 0, 0, 0, 0, 0, 0, 0, 0, 0, 0, 0, 0, 0, 0, 0, 0, 0, 0, 0, 0, 0, 0, 0, 0, 0, 0, 0, 0, 0, 0, 0, 0, 0, 0, 0, 0, 0, 0, 0, 0, 0, 0, 0, 0, 0, 0, 0, 0, 0, 0, 0, 0, 0, 24]
def WA : List Int := [1633837952, 0, 0, 0, 0, 0, 0, 0, 0, 0, 0, 0, 0, 0, 0, 24, 1633837952, 983040, 2108187653, 1610613702, 1050508152, 25426944, 316456923, 3806512014, 3357629466, 3073800610, 3854317833, 845560923, 2636160359, 3968280267, 1881225380, 3552024379, 2482346367, 996719219, 2952069057, 4043988066, 176896406, 1924104970, 2483675966, 610538786, 2672279444, 4037431130, 1042573945, 657669027, 206005234, 2215296807, 2049510749, 106709978, 4215179723, 3430291419, 3118885940, 2845390439, 2226839261, 3256115900, 344409900, 2987358873, 4015503821, 3957764664, 2682456414, 2025622859, 2755645205, 1720397816, 4004225740, 313650667]
def QA : List St8 := [⟨1779033703, 3144134277, 1013904242, 2773480762, 1359893119, 2600822924, 528734635, 1541459225⟩, ⟨1567288269, 1779033703, 3144134277, 1013904242, 4197074466, 1359893119, 2600822924, 528734635⟩, ⟨1516951981, 1567288269, 1779033703, 3144134277, 2026797449, 4197074466, 1359893119, 2600822924⟩, ⟨3368241063, 1516951981, 1567288269, 1779033703, 4180228587, 2026797449, 4197074466, 1359893119⟩, ⟨3578852966, 3368241063, 1516951981, 1567288269, 618661968, 4180228587, 2026797449, 4197074466⟩, ⟨71342698, 3578852966, 3368241063, 1516951981, 1135452741, 618661968, 4180228587, 2026797449⟩, ⟨725748213, 71342698, 3578852966, 3368241063, 1900175533, 1135452741, 618661968, 4180228587⟩, ⟨3842179968, 725748213, 71342698, 3578852966, 2603066369, 1900175533, 1135452741, 618661968⟩, ⟨2241887071, 3842179968, 725748213, 71342698, 207977081, 2603066369, 1900175533, 1135452741⟩, ⟨2382687417, 2241887071, 3842179968, 725748213, 852110732, 207977081, 2603066369, 1900175533⟩, ⟨2357671019, 2382687417, 2241887071, 3842179968, 482944406, 852110732, 207977081, 2603066369⟩, ⟨1201185780, 2357671019, 2382687417, 2241887071, 1131095016, 482944406, 852110732, 207977081⟩, ⟨4146054569, 1201185780, 2357671019, 2382687417, 2171590377, 1131095016, 482944406, 852110732⟩, ⟨2274437520, 4146054569, 1201185780, 2357671019, 509051416, 2171590377, 1131095016, 482944406⟩, ⟨3643992854, 2274437520, 4146054569, 1201185780, 1952073950, 509051416, 2171590377, 1131095016⟩, ⟨3227803614, 3643992854, 2274437520, 4146054569, 194179596, 1952073950, 509051416, 2171590377⟩, ⟨2969183118, 3227803614, 3643992854, 2274437520, 123276749, 194179596, 1952073950, 509051416⟩, ⟨567974555, 2969183118, 3227803614, 3643992854, 2150900380, 123276749, 194179596, 1952073950⟩, ⟨3271285201, 567974555, 2969183118, 3227803614, 2221859924, 2150900380, 123276749, 194179596⟩, ⟨4269243327, 3271285201, 567974555, 2969183118, 3431569761, 2221859924, 2150900380, 123276749⟩, ⟨3790736435, 4269243327, 3271285201, 567974555, 2959311225, 3431569761, 2221859924, 2150900380⟩, ⟨2647034723, 3790736435, 4269243327, 3271285201, 2329577776, 2959311225, 3431569761, 2221859924⟩, ⟨3261099373, 2647034723, 3790736435, 4269243327, 3777329520, 2329577776, 2959311225, 3431569761⟩, ⟨2812502591, 3261099373, 2647034723, 3790736435, 1240797514, 3777329520, 2329577776, 2959311225⟩, ⟨3319086477, 2812502591, 3261099373, 2647034723, 2856829767, 1240797514, 3777329520, 2329577776⟩, ⟨472655928, 3319086477, 2812502591, 3261099373, 673443729, 2856829767, 1240797514, 3777329520⟩, ⟨3454534525, 472655928, 3319086477, 2812502591, 339230094, 673443729, 2856829767, 1240797514⟩, ⟨3056518332, 3454534525, 472655928, 3319086477, 3343672598, 339230094, 673443729, 2856829767⟩, ⟨2010346792, 3056518332, 3454534525, 472655928, 3992961016, 3343672598, 339230094, 673443729⟩, ⟨909411017, 2010346792, 3056518332, 3454534525, 1628611511, 3992961016, 3343672598, 339230094⟩, ⟨2684750640, 909411017, 2010346792, 3056518332, 2917635127, 1628611511, 3992961016, 3343672598⟩, ⟨3935906338, 2684750640, 909411017, 2010346792, 17410874, 2917635127, 1628611511, 3992961016⟩, ⟨1941126133, 3935906338, 2684750640, 909411017, 3126399250, 17410874, 2917635127, 1628611511⟩, ⟨2564891911, 1941126133, 3935906338, 2684750640, 2631529974, 3126399250, 17410874, 2917635127⟩, ⟨4267724277, 2564891911, 1941126133, 3935906338, 1495571923, 2631529974, 3126399250, 17410874⟩, ⟨2846323596, 4267724277, 2564891911, 1941126133, 140458035, 1495571923, 2631529974, 3126399250⟩, ⟨1705037796, 2846323596, 4267724277, 2564891911, 4105175766, 140458035, 1495571923, 2631529974⟩, ⟨1101421745, 1705037796, 2846323596, 4267724277, 124953195, 4105175766, 140458035, 1495571923⟩, ⟨887035396, 1101421745, 1705037796, 2846323596, 2768741693, 124953195, 4105175766, 140458035⟩, ⟨1841658506, 887035396, 1101421745, 1705037796, 4034403272, 2768741693, 124953195, 4105175766⟩, ⟨2045405306, 1841658506, 887035396, 1101421745, 519815328, 4034403272, 2768741693, 124953195⟩, ⟨3597076326, 2045405306, 1841658506, 887035396, 641019235, 519815328, 4034403272, 2768741693⟩, ⟨3745932591, 3597076326, 2045405306, 1841658506, 2206934801, 641019235, 519815328, 4034403272⟩, ⟨397020670, 3745932591, 3597076326, 2045405306, 3737995029, 2206934801, 641019235, 519815328⟩, ⟨2638983059, 397020670, 3745932591, 3597076326, 4255271982, 3737995029, 2206934801, 641019235⟩, ⟨643991573, 2638983059, 397020670, 3745932591, 2819559920, 4255271982, 3737995029, 2206934801⟩, ⟨1923828625, 643991573, 2638983059, 397020670, 3077922209, 2819559920, 4255271982, 3737995029⟩, ⟨2706117808, 1923828625, 643991573, 2638983059, 3581645993, 3077922209, 2819559920, 4255271982⟩, ⟨1098003085, 2706117808, 1923828625, 643991573, 4274981830, 3581645993, 3077922209, 2819559920⟩, ⟨91585771, 1098003085, 2706117808, 1923828625, 3178315832, 4274981830, 3581645993, 3077922209⟩, ⟨4045142696, 91585771, 1098003085, 2706117808, 1851537676, 3178315832, 4274981830, 3581645993⟩, ⟨2047150241, 4045142696, 91585771, 1098003085, 1391578359, 1851537676, 3178315832, 4274981830⟩, ⟨2288941602, 2047150241, 4045142696, 91585771, 1227037726, 1391578359, 1851537676, 3178315832⟩, ⟨270520975, 2288941602, 2047150241, 4045142696, 1386118400, 1227037726, 1391578359, 1851537676⟩, ⟨4117770203, 270520975, 2288941602, 2047150241, 2672265155, 1386118400, 1227037726, 1391578359⟩, ⟨1053056219, 4117770203, 270520975, 2288941602, 3842906959, 2672265155, 1386118400, 1227037726⟩, ⟨952932627, 1053056219, 4117770203, 270520975, 1422599787, 3842906959, 2672265155, 1386118400⟩, ⟨4241590395, 952932627, 1053056219, 4117770203, 2606665836, 1422599787, 3842906959, 2672265155⟩, ⟨3227702383, 4241590395, 952932627, 1053056219, 2118385806, 2606665836, 1422599787, 3842906959⟩, ⟨4290184306, 3227702383, 4241590395, 952932627, 1837350854, 2118385806, 2606665836, 1422599787⟩, ⟨3064893439, 4290184306, 3227702383, 4241590395, 2988158269, 1837350854, 2118385806, 2606665836⟩, ⟨3093179625, 3064893439, 4290184306, 3227702383, 2518632596, 2988158269, 1837350854, 2118385806⟩, ⟨80891244, 3093179625, 3064893439, 4290184306, 2492278198, 2518632596, 2988158269, 1837350854⟩, ⟨3550093669, 80891244, 3093179625, 3064893439, 4212265488, 2492278198, 2518632596, 2988158269⟩, ⟨1349398616, 3550093669, 80891244, 3093179625, 1593118500, 4212265488, 2492278198, 2518632596⟩]
def digA : List Int := [186, 120, 22, 191, 143, 1, 207, 234, 65, 65, 64, 222, 93, 174, 34, 35, 176, 3, 97, 163, 150, 23, 122, 156, 180, 16, 255, 97, 242, 0, 21, 173]
theorem padA : padI [97, 98, 99] = blkA := by decide +kernel
theorem wA : schI blkA 64 = WA := by
  have := sch_cert blkA WA rfl (by decide +kernel) 64 (Nat.le_refl _)
  rw [← this]; rfl
theorem qA : rndI WA 64 ⟨1779033703, 3144134277, 1013904242, 2773480762, 1359893119, 2600822924, 528734635, 1541459225⟩ = ⟨1349398616, 3550093669, 80891244, 3093179625, 1593118500, 4212265488, 2492278198, 2518632596⟩ := (rnd_cert WA QA ⟨0, 0, 0, 0, 0, 0, 0, 0⟩ ⟨1779033703, 3144134277, 1013904242, 2773480762, 1359893119, 2600822924, 528734635, 1541459225⟩ rfl (by decide +kernel) 64 (Nat.le_refl _)).trans rfl
theorem sumA : shaSumF [97, 98, 99] = digA := by
  rw [sum_one _ (by decide), padA, mixI, wA]
  have := qA
  rw [show (⟨shS0.getD 0 0, shS0.getD 1 0, shS0.getD 2 0, shS0.getD 3 0, shS0.getD 4 0, shS0.getD 5 0, shS0.getD 6 0, shS0.getD 7 0⟩ : St8) = ⟨1779033703, 3144134277, 1013904242, 2773480762, 1359893119, 2600822924, 528734635, 1541459225⟩ from rfl, this]
  decide +kernel

end Go.Proofs.YtfinaphomgdmlaaDoor.X
namespace Go.Proofs.YtfinaphomgdmlaaDoor.X
open Go.RowKit Go.Proofs.YtfinaphomgdmlaaDoorW.PrintWords Go.Proofs.YtfinaphomgdmlaaDoor.Pl Go.Proofs.YtfinaphomgdmlaaDoor.Sha
set_option linter.unusedVariables false
set_option maxRecDepth 100000
def hexListE : List Int := [101, 51, 98, 48, 99, 52, 52, 50, 57, 56, 102, 99, 49, 99, 49, 52, 57, 97, 102, 98, 102, 52, 99, 56, 57, 57, 54, 102, 98, 57, 50, 52, 50, 55, 97, 101, 52, 49, 101, 52, 54, 52, 57, 98, 57, 51, 52, 99, 97, 52, 57, 53, 57, 57, 49, 98, 55, 56, 53, 50, 98, 56, 53, 53]
theorem hexE : Ev (fun k => impl_HexText.f k digE) (strOfNums hexListE) := Ev.of (impl_HexText.mono _) (k := 40) (by kernel_rfl)
theorem hexE_l : (strOfNums hexListE).toList = ([101, 51, 98, 48, 99, 52, 52, 50, 57, 56, 102, 99, 49, 99, 49, 52, 57, 97, 102, 98, 102, 52, 99, 56, 57, 57, 54, 102, 98, 57, 50, 52, 50, 55, 97, 101, 52, 49, 101, 52, 54, 52, 57, 98, 57, 51, 52, 99, 97, 52, 57, 53, 57, 57, 49, 98, 55, 56, 53, 50, 98, 56, 53, 53] : List UInt8) := by rw [Lib.strOfNums_toList]; rfl
def hexListA : List Int := [98, 97, 55, 56, 49, 54, 98, 102, 56, 102, 48, 49, 99, 102, 101, 97, 52, 49, 52, 49, 52, 48, 100, 101, 53, 100, 97, 101, 50, 50, 50, 51, 98, 48, 48, 51, 54, 49, 97, 51, 57, 54, 49, 55, 55, 97, 57, 99, 98, 52, 49, 48, 102, 102, 54, 49, 102, 50, 48, 48, 49, 53, 97, 100]
theorem hexA : Ev (fun k => impl_HexText.f k digA) (strOfNums hexListA) := Ev.of (impl_HexText.mono _) (k := 40) (by kernel_rfl)
theorem hexA_l : (strOfNums hexListA).toList = ([98, 97, 55, 56, 49, 54, 98, 102, 56, 102, 48, 49, 99, 102, 101, 97, 52, 49, 52, 49, 52, 48, 100, 101, 53, 100, 97, 101, 50, 50, 50, 51, 98, 48, 48, 51, 54, 49, 97, 51, 57, 54, 49, 55, 55, 97, 57, 99, 98, 52, 49, 48, 102, 102, 54, 49, 102, 50, 48, 48, 49, 53, 97, 100] : List UInt8) := by rw [Lib.strOfNums_toList]; rfl
end Go.Proofs.YtfinaphomgdmlaaDoor.X
namespace Go.Proofs.YtfinaphomgdmlaaDoor.Pure
open Go.RowKit Go.Proofs.YtfinaphomgdmlaaDoorW.PrintWords Go.Proofs.YtfinaphomgdmlaaDoor.Pl Go.Proofs.YtfinaphomgdmlaaDoor.X
set_option linter.unusedSimpArgs false
set_option linter.unusedVariables false
theorem drawSum_tot {l : List Int} (hu : ∀ y ∈ l, 0 ≤ y ∧ y ≤ 255) : Tot (fun k => spec_DrawShaSum.f k l) (fun x => x.length ≤ 502 ∧ ∀ y ∈ x, Byt y) := by
  unfold spec_DrawShaSum.f
  obtain ⟨b, hb, hB⟩ := open_some l hu
  refine Tot.bind (Tot.of_eq hb) ?_; rintro _ rfl
  refine Tot.bind (l20Bytes_byt hB 0 (by omega) (by omega) 130 ⟨by omega, by omega⟩) ?_
  rintro ⟨r1, p1⟩ ⟨e1, l1, y1⟩
  dsimp only at e1 l1 y1 ⊢
  refine Tot.bind (odd_tot hB p1 12 (by omega) (by omega) (by omega)) ?_
  rintro ⟨c, p2⟩ ⟨e2, e3, -⟩
  dsimp only at e2 e3 ⊢
  refine Tot.ite (fun _ => ?_) (fun _ => Tot.ret ⟨by omega, y1⟩)
  refine Tot.bind (pick_tot hB p2 2 (by omega) (by omega)) ?_
  rintro ⟨r3, p3⟩ ⟨-, a3, b3, -⟩
  dsimp only at a3 b3 ⊢
  have hb3 := b3 (by omega)
  have w : wrap64 (500 + r3) = 500 + r3 := wrap_id (by omega) (by omega)
  rw [w]
  refine Tot.pos (by omega) (Tot.pos (by omega) (Tot.ret ⟨by simp; omega, fun y hy => ?_⟩))
  obtain rfl := (List.mem_replicate.1 hy).2
  exact ⟨by decide, by decide⟩
set_option maxRecDepth 100000 in
theorem FnShaSum : laws_FnShaSum.Pure := by
  intro l0 _ _ hw
  have hu : ∀ y ∈ l0, 0 ≤ y ∧ y ≤ 255 := fun y hy => ByteOk (hw y hy)
  refine Tot.rounds ?_
  unfold laws_FnShaSum.f
  refine Tot.ite (fun _ => Tot.ret rfl) (fun h => ?_)
  refine Tot.bind (drawSum_tot hu) ?_
  rintro b ⟨hb, hbB⟩
  refine Tot.bind (Tot.of_eq (implSum_ok _)) ?_; intro _ e; subst e
  refine Tot.bind (Tot.of_ev (specSum_ev _ hbB)) ?_; rintro _ rfl
  refine Tot.bind (Tot.of_eq (eaBytes_same _)) ?_; rintro _ rfl
  refine Tot.pos rfl ?_
  refine Tot.bind (Tot.of_eq (implSum_ok _)) ?_; intro _ e; subst e
  rw [show sumR [] = digE from (sumR_in (by simp)).trans sumE]
  refine Tot.bind (Tot.of_ev hexE) ?_; rintro _ rfl
  refine Tot.pos hexE_l ?_
  refine Tot.bind (Tot.of_eq (implSum_ok _)) ?_; intro _ e; subst e
  rw [show sumR [97, 98, 99] = digA from (sumR_in (by simp)).trans sumA]
  refine Tot.bind (Tot.of_ev hexA) ?_; rintro _ rfl
  refine Tot.succ ?_
  simp only [laws_FnShaSum.j0, bne_iff_ne, ne_eq, hexA_l]
  refine Tot.neg (by simp [hexA_l]) ?_
  refine Tot.ite (fun h1 => Tot.ret ?_) (fun h1 => ?_)
  · rw [sumR, if_neg (by omega)]; rfl
  · have h32 : (sumR b).length = 32 := by rw [sumR_in (by omega), shaSumF_len b (by omega)]
    refine Tot.pos (by rw [h32]; rfl) ?_
    refine Tot.some_bind ?_
    refine Tot.pos (by simp; omega) ?_
    rw [List.nil_append]
    refine Tot.bind (Tot.of_eq (implSum_ok _)) ?_; intro _ e; subst e
    refine Tot.bind (Tot.of_eq (eaBytes_same _)) ?_; rintro _ rfl
    exact Tot.ret rfl
end Go.Proofs.YtfinaphomgdmlaaDoor.Pure
namespace Go.Proofs.YtfinaphomgdmlaaDoor.X
open Go.ChangeShapes Go.WideShapes Go.ChangeAt Go.WideMaps Go.WideElems Go.RowKit Go.Proofs.YtfinaphomgdmlaaDoorW.PrintWords
abbrev laid2 : List (String × DataW Unit) := [("loop.example/easel/impl.shaStart", Rows.laid_loop_example_easel_impl_shaStart), ("loop.example/easel/impl.shaRounds", Rows.laid_loop_example_easel_impl_shaRounds)]
theorem door_met (os : Os) (args : Array Value) : laidMetH Tryd.prog laid2 ((World.doorLaid Tryd.prog 400 os).forCall (fun _ _ => 0) ⟨#[], args, []⟩).memory :=
  laidMetH_of_parts3 (fuel := 8) (laidMet_of_run' 8 (by kernel_rfl) (by kernel_rfl)) (by kernel_rfl) (by kernel_rfl)
theorem gS : Tryd.prog.globalNamed "loop.example/easel/impl.shaStart" = some 0 := by kernel_rfl
theorem gK : Tryd.prog.globalNamed "loop.example/easel/impl.shaRounds" = some 1 := by kernel_rfl
theorem tS : (Tryd.prog.globals[0]?).map (·.type) = some 57 := by kernel_rfl
theorem tK : (Tryd.prog.globals[1]?).map (·.type) = some 64 := by kernel_rfl
theorem blk_of_var {w : World} {name : String} {g : Nat} {cs : Array Value} (hg : Tryd.prog.globalNamed name = some g) (h : w.var? Tryd.prog name = some cs) : ∃ t fr, w.heap[g]? = some (.cells cs t fr) := by
  unfold World.var? at h
  rw [hg] at h
  simp only [Option.bind_some] at h
  split at h
  · rename_i cs' t fr hh
    obtain rfl := Option.some.inj h
    exact ⟨t, fr, hh⟩
  · cases h
theorem glob_of {W : World} (h : laidMetH Tryd.prog laid2 W) : Glob W := by
  rw [MakeChecks.laidMetH_plain _ _ _ (by kernel_rfl)] at h
  obtain ⟨ps, ⟨g0, t0, cs0, f0, p0, q0, hg0, ht0, hv0, hd0, ⟨g1, t1, cs1, f1, p1, q1, hg1, ht1, hv1, hd1, _, _⟩, _⟩, _, _⟩ := h
  obtain rfl := Option.some.inj (gS.symm.trans hg0)
  obtain rfl := Option.some.inj (gK.symm.trans hg1)
  obtain rfl := Option.some.inj (tS.symm.trans ht0)
  obtain rfl := Option.some.inj (tK.symm.trans ht1)
  have e0 := Lib.cells_of_tab (zs := shS0) (k := .u32) Tryd.underlying57 Tryd.underlying56 (by kernel_rfl) (by kernel_rfl) hd0
  have e1 := Lib.cells_of_tab (zs := shK0) (k := .u32) Tryd.underlying64 Tryd.underlying56 (by kernel_rfl) (by kernel_rfl) hd1
  obtain ⟨t, fr, hh⟩ := blk_of_var gS hv0
  obtain ⟨t', fr', hh'⟩ := blk_of_var gK hv1
  refine ⟨⟨t, fr, ?_⟩, ⟨t', fr', ?_⟩⟩
  · rw [hh]; congr 2; rw [nums, ← e0]
  · rw [hh']; congr 2; rw [nums, ← e1]
theorem vars2 {H : Type} {enc : TypeId × Value → H} {w : World} {sp : Nat → Bool} {n1 n2 : String} : ∀ {gs : List (DataW H)} {q : List MemPlace}, DataW.TrodVars enc Tryd.prog w sp [n1, n2] gs q → ∃ g1 g2, gs = [g1, g2]
  | [], _, h => h.elim
  | [_], _, h => by obtain ⟨_, _, _, _, _, _, _, _, _, _, h, _⟩ := h; exact h.elim
  | [a, b], _, _ => ⟨a, b, rfl⟩
  | _ :: _ :: _ :: _, _, h => by obtain ⟨_, _, _, _, _, _, _, _, _, _, h, _⟩ := h; obtain ⟨_, _, _, _, _, _, _, _, _, _, h, _⟩ := h; exact h.elim
end Go.Proofs.YtfinaphomgdmlaaDoor.X
