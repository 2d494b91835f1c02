/- Lemmas and contracts for the law FnFormRuns, part 4: of the program's functions, and over data alone. No condition. -/
import Derived.Test.YtdojnbghacabhaaMFnFormRuns2
import Derived.ChangeMaps4
import Derived.Test.YtdojnbghacabhaaMFnFormRuns3
import Derived.Laws.Rows
import Derived.Test.YtdojnbghacabhaaMFnFormRuns1
namespace Go.Proofs.Ytdojnbghacabhaa.X
open Go.RowKit Go.Proofs.YtdojnbghacabhaaW.PrintWords
set_option linter.unusedVariables false
variable {P : Program} {w : World} {t kt et : TypeId} {r clock : Nat} {es : Array MapEntry}
/-- Where a byte stands among a map's entries. -/
def findB (k : Int) : List MapEntry → Nat → Option (Nat × Value)
  | [], _ => none
  | e :: es, i => match e.key with
    | .int _ x => if k = x then some (i, e.val) else findB k es (i + 1)
    | _ => none
def KeysB (l : List MapEntry) : Prop := ∀ e ∈ l, ∃ x, e.key = .int .u8 x
theorem findNow_B (k : Int) : ∀ (l : List MapEntry) (i : Nat), KeysB l → Instr.findNow (.int .u8) (.int .u8 k) l i = some (findB k l i)
  | [], i, _ => rfl
  | e :: l, i, h => by
    obtain ⟨x, hx⟩ := h e (List.mem_cons_self ..)
    have ih := findNow_B k l (i + 1) (fun y hy => h y (List.mem_cons_of_mem _ hy))
    unfold Instr.findNow findB
    rw [hx]
    simp only [Instr.sameNow, if_true]
    by_cases hk : k = x
    · simp [hk]
    · rw [if_neg hk]
      have : (k == x) = false := by simpa using hk
      rw [this]
      exact ih
theorem isKey_B (k : Int) : MapKept.IsKey (.int .u8) (.int .u8 k) := by trivial
theorem run_lookup_B (ht : P.underlying t = some (.map kt et)) (hk : P.underlying kt = some (.int .u8)) (hb : w.heap[r]? = some (.map es clock)) (hs : KeysB es.toList) {z : Value} (hz : (zeroValue et).run P w = .ok z w) (k : Int) :
    (Instr.lookup t (.map (some r)) (.int .u8 k) false).run P w = .ok (((findB k es.toList 0).map (·.2)).getD z) w := by
  have h1 := findNow_B k es.toList 0 hs
  cases hf : findB k es.toList 0 with
  | none => rw [hf] at h1; simp [Instr.lookup, run_underlying ht, MapKept.run_getObj_map hb, MapKept.run_checkKey hk (isKey_B k), MapKept.run_findKey hk h1, hz, Result.andThen]
  | some x => rw [hf] at h1; simp [Instr.lookup, run_underlying ht, MapKept.run_getObj_map hb, MapKept.run_checkKey hk (isKey_B k), MapKept.run_findKey hk h1, Result.andThen]
theorem run_update_B (ht : P.underlying t = some (.map kt et)) (hk : P.underlying kt = some (.int .u8)) (hb : w.heap[r]? = some (.map es clock)) (hs : KeysB es.toList) (k : Int) (hn : findB k es.toList 0 = none) (v : Value) :
    (Instr.mapUpdate t (.map (some r)) (.int .u8 k) v).run P w = .ok () { w with heap := w.heap.setIfInBounds r (.map (es.push ⟨.int .u8 k, v, clock⟩) (clock + 1)) } := by
  have h1 := findNow_B k es.toList 0 hs
  rw [hn] at h1
  simp [Instr.mapUpdate, run_underlying ht, MapKept.run_getObj_map hb, MapKept.run_checkKey hk (isKey_B k), MapKept.run_findKey hk h1, MapKept.run_setObj_map _ hb, Result.andThen]
/-- A world with one block put anew. -/
def setB (w : World) (r : Nat) (o : Obj) : World := { w with heap := w.heap.setIfInBounds r o }
theorem setB_at {r : Nat} (h : r < w.heap.size) (o : Obj) : (setB w r o).heap[r]? = some o := by
  unfold setB
  simp [h]
theorem setB_ne {b r : Nat} (h : b ≠ r) (o : Obj) : (setB w r o).heap[b]? = w.heap[b]? := by
  unfold setB
  exact Array.getElem?_setIfInBounds_ne (fun e => h e.symm)
theorem setB_size (r : Nat) (o : Obj) : (setB w r o).heap.size = w.heap.size := by
  unfold setB
  simp
theorem below_setB {B r : Nat} {a : World} (h : Below B a w) (hr : B ≤ r) (o : Obj) : Below B a (setB w r o) :=
  ⟨h.os, h.tape, h.output, by rw [setB_size]; exact h.size, fun k hk => (setB_ne (by omega) o).trans (h.block k hk)⟩
section
variable {ops : Array Oper} {rest : List Oper} {o : Oper} {a : Act} {Q : Exit → Act → World → Prop} {W : World}
theorem makeMap_event (hgd : o.guard = none) {t : TypeId} (ho : o.op = .makeMap t none)
    (h : ∀ b, b = W.heap.size → ∀ w1, w1.heap[b]? = some (.map #[] 0) → Below W.heap.size W w1 → w1.heap.size = W.heap.size + 1 → wpList P ops Q rest (a.put o.dst (.map (some b))) w1) : wpList P ops Q (o :: rest) a W :=
  Kd.event_run hgd (v := .map (some W.heap.size)) (w1 := W.alloc (.map #[] 0)) (by simp [execOp, ho, run_makeMap]) (h _ rfl _ (heap_alloc_new W _) (below_alloc (Below.refl _ _) _) (by show (W.heap.push _).size = _; rw [Array.size_push]))
theorem insert_event (hgd : o.guard = none) (hN : o.dst = none) (t kt et : TypeId) (m k x : Operand) (ho : o.op = .insert t m k x) (r clock : Nat) (es : Array MapEntry) (kk : Int) (v : Value) (hm : a.eval m = .map (some r)) (hk : a.eval k = .int .u8 kk) (hx : a.eval x = v)
    (ht : P.underlying t = some (.map kt et)) (hkt : P.underlying kt = some (.int .u8)) (hb : W.heap[r]? = some (.map es clock)) (hs : KeysB es.toList) (hn : findB kk es.toList 0 = none)
    (h : ∀ w1, w1 = setB W r (.map (es.push ⟨.int .u8 kk, v, clock⟩) (clock + 1)) → wpList P ops Q rest a w1) : wpList P ops Q (o :: rest) a W := by
  refine wpList_plain hgd fun K hK => ?_
  unfold Oper.wp
  have hr := run_update_B ht hkt hb hs kk hn v
  have e : (execOp a.eval o).run P W = .ok .skip (setB W r (.map (es.push ⟨.int .u8 kk, v, clock⟩) (clock + 1))) := by
    simp [execOp, ho, hm, hk, hx, hr, setB]
  rw [e]
  show K (a.put o.dst undef) _
  rw [hN]
  exact hK _ _ (h _ rfl)
end
end Go.Proofs.Ytdojnbghacabhaa.X
namespace Go.Proofs.Ytdojnbghacabhaa.X
open Go.RowKit Go.Proofs.YtdojnbghacabhaaW.PrintWords Go.Proofs.YtdojnbghacabhaaW.PrintLast Go.Proofs.YtdojnbghacabhaaW.PrintMore
set_option linter.unusedVariables false
set_option linter.unusedSimpArgs false
/-- The value that writes and reads a kind; none. -/
def codecV (k : Int) : Value := if k = 68 then .iface 75 (.agg #[]) else if k = 85 then .iface 76 (.agg #[]) else if k = 82 then .iface 77 (.agg #[]) else if k = 80 then .iface 78 (.agg #[]) else .nilIface
def ent (k : Int) (t : TypeId) (i : Nat) : MapEntry := ⟨.int .u8 k, .iface t (.agg #[]), i⟩
def codecs : Array MapEntry := #[ent 68 75 0, ent 85 76 1, ent 82 77 2, ent 80 78 3]
theorem codec_find (k : Int) : ((findB k codecs.toList 0).map (·.2)).getD .nilIface = codecV k := by
  simp only [codecs, findB, ent, codecV]
  split
  · rfl
  split
  · rfl
  split
  · rfl
  split <;> rfl
set_option maxHeartbeats 8000000 in
set_option maxRecDepth 100000 in
theorem codecOf_calls (k : Int) (w : World) : Calls Try.prog 31 #[.int .u8 k] w fun e w' => e = .returned (codecV k) ∧ Below w.heap.size w w' := by
  have HT := Aside0.mk (Try.underlying79); have HK := Aside0.mk Try.underlying5
  have hz : ∀ W : World, (zeroValue 52).run Try.prog W = .ok .nilIface W := fun W => (by kernel_rfl)
  go_enter Try.func31, Try.ntmps31
  go_upto_region 2 with (first
    | ((with_reducible refine gd_ 4 rfl ?_); refine makeMap_event rfl rfl ?_; intro b hb w1 h1 hB hsz; have H1 := Aside0.mk h1; have HB := Aside0.mk hB; have HL := Aside0.mk (show w.heap.size ≤ b by rw [hb]; exact Nat.le_refl _); have HS := Aside0.mk (show b < w1.heap.size by rw [hb, hsz]; exact Nat.lt_succ_self _); clear h1 hB hb hsz)
    | (refine insert_event rfl rfl _ _ _ _ (.const (.int .u8 68)) _ rfl b 0 #[] 68 _ rfl rfl rfl HT.out HK.out H1.out (fun e he => by cases he) rfl ?_; intro w2 h2; have H2 : Aside0 (w2.heap[b]? = some (.map #[ent 68 75 0] 1)) := ⟨by rw [h2]; exact setB_at HS.out _⟩; have HB2 : Aside0 (Below w.heap.size w w2) := ⟨by rw [h2]; exact below_setB HB.out HL.out _⟩; have HS2 : Aside0 (b < w2.heap.size) := ⟨by rw [h2, setB_size]; exact HS.out⟩; clear h2)
    | (refine insert_event rfl rfl _ _ _ _ (.const (.int .u8 85)) _ rfl b 1 #[ent 68 75 0] 85 _ rfl rfl rfl HT.out HK.out H2.out (by intro e he; simp at he; subst he; exact ⟨_, rfl⟩) rfl ?_; intro w3 h2; have H3 : Aside0 (w3.heap[b]? = some (.map #[ent 68 75 0, ent 85 76 1] 2)) := ⟨by rw [h2]; exact setB_at HS2.out _⟩; have HB3 : Aside0 (Below w.heap.size w w3) := ⟨by rw [h2]; exact below_setB HB2.out HL.out _⟩; have HS3 : Aside0 (b < w3.heap.size) := ⟨by rw [h2, setB_size]; exact HS2.out⟩; clear h2)
    | (refine insert_event rfl rfl _ _ _ _ (.const (.int .u8 82)) _ rfl b 2 #[ent 68 75 0, ent 85 76 1] 82 _ rfl rfl rfl HT.out HK.out H3.out (by intro e he; simp at he; rcases he with rfl | rfl <;> exact ⟨_, rfl⟩) rfl ?_; intro w4 h2; have H4 : Aside0 (w4.heap[b]? = some (.map #[ent 68 75 0, ent 85 76 1, ent 82 77 2] 3)) := ⟨by rw [h2]; exact setB_at HS3.out _⟩; have HB4 : Aside0 (Below w.heap.size w w4) := ⟨by rw [h2]; exact below_setB HB3.out HL.out _⟩; have HS4 : Aside0 (b < w4.heap.size) := ⟨by rw [h2, setB_size]; exact HS3.out⟩; clear h2)
    | (refine insert_event rfl rfl _ _ _ _ (.const (.int .u8 80)) _ rfl b 3 #[ent 68 75 0, ent 85 76 1, ent 82 77 2] 80 _ rfl rfl rfl HT.out HK.out H4.out (by intro e he; simp at he; rcases he with rfl | rfl | rfl <;> exact ⟨_, rfl⟩) rfl ?_; intro w5 h2; have H5 : Aside0 (w5.heap[b]? = some (.map codecs 4)) := ⟨by rw [h2]; exact setB_at HS4.out _⟩; have HB5 : Aside0 (Below w.heap.size w w5) := ⟨by rw [h2]; exact below_setB HB4.out HL.out _⟩; clear h2))
  have hl : (Instr.lookup 79 (.map (some b)) (.int .u8 k) false).run Try.prog w5 = .ok (codecV k) w5 := by
    rw [run_lookup_B HT.out HK.out H5.out (by intro e he; simp [codecs] at he; rcases he with rfl | rfl | rfl | rfl <;> exact ⟨_, rfl⟩) (hz w5) k, codec_find]
  go_wp2
  go_ret
  exact ⟨rfl, HB5.out⟩
end Go.Proofs.Ytdojnbghacabhaa.X
namespace Go.Proofs.Ytdojnbghacabhaa.X
open Go.RowKit Go.Proofs.YtdojnbghacabhaaW.PrintWords Go.Proofs.YtdojnbghacabhaaW.PrintLast Go.Proofs.YtdojnbghacabhaaW.PrintMore
attribute [local go_sem] max2_int min2_int max_two min_two max_three min_three max_four min_four
set_option linter.unusedVariables false
set_option linter.unusedSimpArgs false

section
/-- A sum's four bytes, the highest first. -/
def sum4 (s : Int) : List Int := [(s / 16777216) % 256, (s / 65536) % 256, (s / 256) % 256, s % 256]
set_option maxHeartbeats 8000000 in
set_option maxRecDepth 100000 in
theorem formSum_calls (k : Nat) (A0 : Option Addr) (c0 : Nat) (l0 : List Int) (s : Int) (w : World) (hr0 : Kd.C (Kd.int .u8) w A0 l0.length l0) (hc0 : l0.length ≤ c0) (h : impl_SumOf.f k l0 = some s) :
    Calls Try.prog 33 #[.slice A0 l0.length c0] w fun e w' => e = .returned (.agg #[.int .u8 ((s / 16777216) % 256), .int .u8 ((s / 65536) % 256), .int .u8 ((s / 256) % 256), .int .u8 (s % 256)]) ∧ Below w.heap.size w w' := by
  have HC0 := Aside0.mk hr0; have HCc := Aside0.mk hc0; have HS := Aside0.mk h; clear hr0 hc0 h
  have hu := Try.underlying54
  have hz : ∀ W : World, (zeroValue 54).run Try.prog W = .ok (.agg #[.int .u8 0, .int .u8 0, .int .u8 0, .int .u8 0]) W := fun W => (by kernel_rfl)
  go_enter Try.func33, Try.ntmps33
  go_wp2_with (first
    | ((with_reducible refine gd_ 2 rfl ?_); refine bx_ 2 rfl #[.int .u8 0, .int .u8 0, .int .u8 0, .int .u8 0] 54 ?_; intro b2 hg w2 hbox hb; have HX2 := Aside0.mk hbox; have HB2 := Aside0.mk hb; have HG2 := Aside0.mk (show w.heap.size ≤ b2 by rw [hg]; exact Nat.le_refl _); clear hb hbox hg)
    | (go_at_call 52; refine (impl_SumOf.calls k A0 c0 l0 s _ (Kd.C_below HC0.out HB2.out) HCc.out HS.out).mono ?_; rintro e w3 ⟨rfl, hd⟩; have hb := hd.below; have HX3 := Aside0.mk (blk_below HX2.out hb); have HB3 := Aside0.mk (below_step HB2.out hb); obtain ⟨x0, x1, x2, x3⟩ := cc4_ HX3.out; obtain ⟨f0, f1, f2, f3⟩ := cf4_ HX3.out; clear hd hb))
  refine bodyPost_ret (results_cell_row rfl _ _ b2 54 #[.int .u8 ((s / 16777216) % 256), .int .u8 ((s / 65536) % 256), .int .u8 ((s / 256) % 256), .int .u8 (s % 256)] (0, 0) _ rfl (blk_set (blk_set (blk_set (blk_set HX3.out 0 _) 1 _) 2 _) 3 _) Try.underlying54 rfl (by kernel_rfl)) rfl ⟨rfl, ?_⟩
  exact (((HB3.out.setCell (p := ⟨b2, 0, none⟩) HG2.out _).setCell (p := ⟨b2, 1, none⟩) HG2.out _).setCell (p := ⟨b2, 2, none⟩) HG2.out _).setCell (p := ⟨b2, 3, none⟩) HG2.out _
end
end Go.Proofs.Ytdojnbghacabhaa.X
namespace Go.Proofs.YtdojnbghacabhaaW.PrintWords
open Go.RowKit
set_option linter.unusedVariables false
variable {α : Type} {P : Program} {ops : Array Oper} {o : Oper} {a : Act} {Q : Exit → Act → World → Prop} {rest : List Oper}
theorem Kd.R_make0 (d : Kd α) {w0 W : World} (base e : Nat) (hgd : o.guard = none) {N : Tmp} (hd : o.dst = some N) (t : TypeId) (x y : Operand) (ho : o.op = .makeSlice t x y) (n : Int) (hx : a.eval x = .int .i64 0) (hy : a.eval y = .int .i64 n)
    (ht : P.underlying t = some (.slice e)) (z : Value) (bytes : Nat) (hinfo : (P.info? e).map (fun i => (i.zero, i.size, i.bytes)) = some (some z, d.sz, bytes)) (hz : z.cells.size = d.sz) (hs0 : 0 < d.sz) (hb0 : 0 < bytes)
    (z0 : α) {ok okp : Nat → Prop} (hzero : d.M W base okp z0 z.cells.toList) (hok : ∀ k, okp k → ok k) (hfresh : ok W.heap.size) (h0 : 0 ≤ n) (hl : n.toNat * bytes ≤ 281474976710656) (HB : Below base w0 W) (hbase : base ≤ W.heap.size)
    (h : ∀ v1 w1, d.R e w1 base ok v1 [] → Below base w0 w1 → W.grownBy w1 none → (∃ b, v1.ownBlock = some b ∧ W.heap.size ≤ b) → wpList P ops Q rest (a.put o.dst v1) w1) : wpList P ops Q (o :: rest) a W := by
  obtain ⟨m, rfl⟩ := Int.eq_ofNat_of_zero_le h0
  simp only [Int.toNat_natCast] at hl
  obtain ⟨i0, hi, hzz⟩ := Option.map_eq_some_iff.1 hinfo
  simp only [Prod.mk.injEq] at hzz
  obtain ⟨hz0, hz1, hz2⟩ := hzz
  have hm : m ≤ 281474976710656 := Nat.le_trans (Nat.le_mul_of_pos_right _ hb0) hl
  have hr := run_make (P := P) (w := W) t e i0 z ht hi hz0 .i64 .i64 0 (m : Int) (by omega) (by omega)
    (by
      have h3 : ((i0.bytes * m : Nat) : Int) ≤ 281474976710656 := by rw [hz2, Nat.mul_comm]; omega
      rwa [Int.natCast_mul] at h3) (by omega)
  simp only [Int.toNat_natCast] at hr
  rw [hz1] at hr
  have h1 : d.R e (W.alloc (.cells (madeCells z.cells (m * d.sz)) e)) base ok (.slice (some ⟨W.heap.size, 0, none⟩) m m) (List.replicate m z0) := by
    have hrep := Kd.reps_made hz hs0 hzero m
    refine ⟨fun k hk => ?_, (madeCells z.cells (m * d.sz)).toList, ?_, ?_⟩
    · have : W.heap.size = k := by simpa [Value.ownBlock] using hk
      subst this
      exact hfresh
    · have h2 := World.ownsRow_lit (base := base) (e := e) (size := d.sz) W (madeCells z.cells (m * d.sz)) m hbase (by show m ≤ 9223372036854775807; omega) (by simp [size_madeCells])
      simpa using h2
    · refine hrep.imp_ (fun p c hp => d.M_mono (fun k hk => ⟨hok k hk.1, fun he => ?_⟩) (Kd.M_below (d.M_bound hp) (below_alloc (Below.refl _ _) _)))
      have h3 : k = W.heap.size := by simpa [Value.ownBlock] using he
      have := hk.2.2.1
      omega
  have h2 := Kd.R_take h1 (m := 0) (Nat.zero_le _)
  refine Kd.event_run hgd (by simp [execOp, ho, hx, hy, hr]) (h _ _ h2 (HB.alloc hbase _) (World.grownBy_alloc W _ none) ⟨W.heap.size, by simp [Value.ownBlock], Nat.le_refl _⟩)
end Go.Proofs.YtdojnbghacabhaaW.PrintWords
namespace Go.Proofs.Ytdojnbghacabhaa.X
open Go.RowKit Go.Proofs.YtdojnbghacabhaaW.PrintWords Go.Proofs.YtdojnbghacabhaaW.PrintLast Go.Proofs.YtdojnbghacabhaaW.PrintMore
attribute [local go_sem] max2_int min2_int max_two min_two max_three min_three max_four min_four
set_option linter.unusedVariables false
set_option linter.unusedSimpArgs false

section
/-- A file: what it is, how long its note is, the note, the body, its sum. -/
def fileL (a0 : Int) (l1 body : List Int) (s : Int) : List Int := (([a0, (l1.length : Int) % 256] ++ l1) ++ body) ++ sum4 s
def fileE (k : Nat) (a0 : Int) (l1 body : List Int) : Option (List Int) := (impl_SumOf.f k body).bind fun s => if body.length ≤ 100000 then some (fileL a0 l1 body s) else none
theorem sum4_C {w : World} {b : Nat} {s : Int} (h : w.heap[b]? = some (.cells #[.int .u8 (s / 16777216 % 256), .int .u8 (s / 65536 % 256), .int .u8 (s / 256 % 256), .int .u8 (s % 256)] 54 (0, 0))) : Kd.C (Kd.int .u8) w (some ⟨b, 0, none⟩) 4 (sum4 s) :=
  Kd.C_of_reads (d := (0 : Int)) (h1 := fun _ => rfl) ⟨rfl, by decide, fun _ => ⟨_, rfl, fun j hj => by
    rw [add_plain]
    match j, hj with
    | 0, _ => exact (blk_cell h 0).trans rfl
    | 1, _ => exact (blk_cell h 1).trans rfl
    | 2, _ => exact (blk_cell h 2).trans rfl
    | 3, _ => exact (blk_cell h 3).trans rfl⟩⟩
set_option maxHeartbeats 8000000 in
set_option maxRecDepth 100000 in
theorem formWriteR_calls (k : Nat) (A1 : Option Addr) (c1 : Nat) (l1 : List Int) (a0 a1 : Int) (A2 : Option Addr) (c2 : Nat) (l2 : List (S32)) (body r : List Int) (w : World) (hr1 : Kd.C (Kd.int .u8) w A1 l1.length l1) (hc1 : l1.length ≤ c1) (hr2 : Kd.C k32 w A2 l2.length l2) (hc2 : l2.length ≤ c2)
    (h9 : l1.length ≤ 9) (hok : impl_RasOk.f k a0 a1 l2 = some true) (hb : impl_formRuns_write.f k true a0 a1 l2 = some body) (h : fileE k 82 l1 body = some r) :
    Calls Try.prog 9 #[.int .u8 82, .slice A1 l1.length c1, .agg #[.int .i64 a0, .int .i64 a1, .slice A2 l2.length c2]] w fun e w' => ∃ v0_ : Value, e = .returned v0_ ∧ Kd.R (Kd.int .u8) 5 w' w.heap.size (fun _ => True) v0_ r ∧ Below w.heap.size w w' := by
  unfold fileE at h
  obtain ⟨s, hs, h⟩ := Option.bind_eq_some_iff.1 h
  by_cases hl : body.length ≤ 100000
  case neg => rw [if_neg hl] at h; cases h
  rw [if_pos hl] at h
  have hr := Option.some.inj h
  have HR := Aside0.mk hr; have HL := Aside0.mk hl; have HS := Aside0.mk hs; have HBD := Aside0.mk hb; have HOK := Aside0.mk hok; have HR1 := Aside0.mk hr1; have HC1 := Aside0.mk hc1; have HR2 := Aside0.mk hr2; have HC2 := Aside0.mk hc2; have H9n := Aside0.mk h9
  clear hr h hl hs hb hok hr1 hc1 hr2 hc2
  have g9 : decide ((9 : Int) < (l1.length : Int)) = false := decide_eq_false (by omega)
  have g9' : decide (9 < l1.length) = false := decide_eq_false (by omega)
  have e1 : wrap64 (2 + (l1.length : Int)) = 2 + (l1.length : Int) := by unfold wrap64; omega
  have e2 : wrap64 (2 + (l1.length : Int) + (body.length : Int)) = 2 + (l1.length : Int) + (body.length : Int) := by have := HL.out; unfold wrap64; omega
  have e3 : wrap64 (2 + (l1.length : Int) + (body.length : Int) + 4) = 2 + (l1.length : Int) + (body.length : Int) + 4 := by have := HL.out; unfold wrap64; omega
  clear h9
  have hu := Try.underlying54
  have hur := Try.underlying25
  have qe : ∀ W : World, (binOp .eql 52 (.iface 77 (.agg #[])) .nilIface).run Try.prog W = .ok (.bool false) W := fun W => (by kernel_rfl)
  have hm : ∀ W : World, (method 228 77 (.agg #[]) "loop.example/easel/impl.write").run Try.prog W = .ok (90, .agg #[]) W := fun W => (by kernel_rfl)   -- 228: the types and 100
  have hz : ∀ W : World, (zeroValue 54).run Try.prog W = .ok (.agg #[.int .u8 0, .int .u8 0, .int .u8 0, .int .u8 0]) W := fun W => (by kernel_rfl)
  go_enter Try.func9, Try.ntmps9
  go_upto_region 6 with (first
    | ((with_reducible refine gd_ 5 rfl ?_); refine bx_ 5 rfl #[.int .i64 a0, .int .i64 a1, .slice A2 l2.length c2] 25 ?_; intro b5 hg w2 hbox hb; have HX2 := Aside0.mk hbox; have HB2 := Aside0.mk hb; obtain ⟨x0, x1, x2⟩ := cc3_ hbox; clear hb hbox hg)
    | (go_at_call 31; refine (codecOf_calls 82 _).mono ?_; rintro e w3 ⟨rfl, hb⟩; have HX3 := Aside0.mk (blk_below HX2.out hb); have HB3 := Aside0.mk (below_step HB2.out hb); rw [show codecV 82 = .iface 77 (.agg #[]) from rfl]; clear x0 x1 x2 hb; obtain ⟨x0, x1, x2⟩ := cc3_ HX3.out)
    | (go_at_call 32; refine (impl_RasOk.calls k a0 a1 A2 c2 l2 true _ (Kd.C_below HR2.out HB3.out) HC2.out HOK.out).mono ?_; rintro e w4 ⟨rfl, hb⟩; have HX4 := Aside0.mk (blk_below HX3.out hb); have HB4 := Aside0.mk (below_step HB3.out hb); clear x0 x1 x2 hb; obtain ⟨x0, x1, x2⟩ := cc3_ HX4.out)
    | (go_at_call 90; refine (impl_formRuns_write.calls k true a0 a1 A2 c2 l2 body _ (Kd.C_below HR2.out HB4.out) HC2.out HBD.out).mono ?_; rintro e w5 ⟨v8, rfl, hR, hb⟩; have HO8 := Aside0.mk (Kd.R_lower hR HB4.out.size); have HB5 := Aside0.mk (below_step HB4.out hb); obtain ⟨A8, c8, rfl, hc8, hr8⟩ := Kd.R_reads hR; clear x0 x1 x2 hb hR hc8 hr8)
    | (go_at_call 33; refine (formSum_calls k A8 c8 body s _ (Kd.R_reads' HO8.out).2.2 (Kd.R_reads' HO8.out).2.1 HS.out).mono ?_; rintro e w6 ⟨rfl, hb⟩; have HO6 := Aside0.mk (Kd.R_below HO8.out hb); have HB6 := Aside0.mk (below_step HB5.out hb); clear hb)
    | ((with_reducible refine gd_ 9 rfl ?_); refine bx_ 9 rfl #[.int .u8 0, .int .u8 0, .int .u8 0, .int .u8 0] 54 ?_; intro b9 hg w7 hbox hb; have HX7 := Aside0.mk hbox; have HO7 := Aside0.mk (Kd.R_below (Kd.R_elderB HO6.out b9 (Nat.le_of_eq hg.symm)) hb); have HB7 := Aside0.mk (below_step HB6.out hb); have HG9 := Aside0.mk (show w.heap.size ≤ b9 by rw [hg]; exact HB6.out.size); obtain ⟨y0, y1, y2, y3⟩ := cc4_ hbox; obtain ⟨f0, f1, f2, f3⟩ := cf4_ hbox; clear hb hbox hg))
  generalize hw8 : (((w7.setCell ⟨b9, 0, none⟩ (.int .u8 (s / 16777216 % 256))).setCell ⟨b9, 1, none⟩ (.int .u8 (s / 65536 % 256))).setCell ⟨b9, 2, none⟩ (.int .u8 (s / 256 % 256))).setCell ⟨b9, 3, none⟩ (.int .u8 (s % 256)) = w8
  have H9 : Aside0 (w8.heap[b9]? = some (.cells #[.int .u8 (s / 16777216 % 256), .int .u8 (s / 65536 % 256), .int .u8 (s / 256 % 256), .int .u8 (s % 256)] 54 (0, 0))) := ⟨by rw [← hw8]; exact blk_set (blk_set (blk_set (blk_set HX7.out 0 _) 1 _) 2 _) 3 _⟩
  have H8 : Aside0 (Kd.R (Kd.int .u8) 5 w8 w.heap.size (fun _ => True) (.slice A8 body.length c8) body) := ⟨by
    rw [← hw8]
    have far : ∀ j : Nat, (True ∧ j ≠ b9) → j ≠ b9 := fun j hj => hj.2
    exact Kd.R_mono (Kd.R_far (p := ⟨b9, 3, none⟩) (Kd.R_far (p := ⟨b9, 2, none⟩) (Kd.R_far (p := ⟨b9, 1, none⟩) (Kd.R_far (p := ⟨b9, 0, none⟩) HO7.out far _) far _) far _) far _) (fun _ _ => trivial)⟩
  have HB8 : Aside0 (Below w.heap.size w w8) := ⟨by
    rw [← hw8]
    exact (((HB7.out.setCell (p := ⟨b9, 0, none⟩) HG9.out _).setCell (p := ⟨b9, 1, none⟩) HG9.out _).setCell (p := ⟨b9, 2, none⟩) HG9.out _).setCell (p := ⟨b9, 3, none⟩) HG9.out _⟩
  clear hw8 y0 y1 y2 y3 f0 f1 f2 f3
  go_wp2_with (first
    | ((with_reducible refine gd_ 37 rfl ?_); refine Kd.R_make0 (Kd.int .u8) _ 5 rfl (N := 37) rfl 22 _ _ rfl _ rfl rfl Try.underlying22 (.int .u8 0) 1 info5 rfl (by decide) (by omega) 0 (ok := fun _ => True) (okp := fun _ => True) rfl (fun _ hk => hk) trivial (by first | (rw [e3]; omega) | (simp only [e1, e2, e3]; omega)) (by have := HL.out; have := H9n.out; first | (rw [e3]; omega) | (simp only [e1, e2, e3]; omega)) (Below.refl _ _) (Nat.le_refl _) ?_; intro v10 w9 ho hb hg_ hnew_; clear hg_ hnew_; have H9a := Aside0.mk (blk_below H9.out hb); have HO9 := Aside0.mk (Kd.R_elder' H8.out (Kd.R_base ho) hb); have HF9 := Aside0.mk (Kd.R_lower (Kd.R_new' ho (Kd.R_lt H8.out)) HB8.out.size); have HB9 := Aside0.mk (below_step HB8.out hb); clear ho hb)
    | ((with_reducible refine gd_ 43 rfl ?_); refine Kd.R_lit (Kd.int .u8) _ 5 ?hg (N := 43) ?hd (xs := ([82, (l1.length : Int) % 256] : List Int)) (inner := [.int .u8 82, .int .u8 ((l1.length : Int) % 256)]) (ok := fun _ => True) (okp := fun _ => True) ?hr ?hp (fun _ hk => hk) trivial (Below.refl _ _) (Nat.le_refl _) (by simp) ?_; (case hd => rfl); (case hg => rfl); (case hr => first | (go_simp; done) | (go_simp; rfl)); (case hp => exact (Reps.one (show Kd.M (Kd.int .u8) _ _ _ 82 [.int .u8 82] from rfl) (Reps.one (show Kd.M (Kd.int .u8) _ _ _ ((l1.length : Int) % 256) [.int .u8 ((l1.length : Int) % 256)] from rfl) (Reps.none _ _)))); intro v12 w10 ho hb hg_ hnew_; clear hg_ hnew_; have H9b := Aside0.mk (blk_below H9a.out hb); have HO10 := Aside0.mk (Kd.R_mono (Kd.R_elder' HO9.out (Kd.R_base ho) hb) (fun _ hk => hk.1)); have HF10 := Aside0.mk (Kd.R_mono (Kd.R_elder' HF9.out (Kd.R_base ho) hb) (fun _ hk => hk.1)); have HL10 := Aside0.mk ho; have HB10 := Aside0.mk (below_step HB9.out hb); obtain ⟨A12, c12, e12⟩ := Kd.R_slice HL10.out; subst e12; clear ho hb)
    | ((with_reducible refine gate_builtin (b := .append) (xs := #[.tmp 38, .tmp 43]) rfl ?_); at_builtin; refine Kd.R_append_rows (Kd.int .u8) (w0 := w) w.heap.size rfl (.tmp 38) (.tmp 43) 22 5 (.int .u8 0) 1 rfl Try.underlying22 info5 rfl (by decide) (by omega) v10 [] ([82, (l1.length : Int) % 256] : List Int) _ _ _ (fun k_ => True ∧ some k_ ≠ (.slice A8 body.length c8 : Value).ownBlock) (fun _ => False) rfl rfl HF10.out ((Kd.R_reads' HL10.out).2.2) (fun _ _ h => h) (fun _ h => h.elim) (fun k_ hk => ⟨trivial, Kd.fresh' (Kd.R_lt HO10.out) k_ hk⟩) HB10.out HB10.out.size (by simp) ?_; intro v13 w11 ho hb hg hat; have H9c := Aside0.mk (blk_grown H9b.out hg (Kd.R_ne HF10.out H9b.out (by decide))); have HO11 := Aside0.mk (Kd.R_after (ok := fun _ => True) HO10.out hg hat); have HB11 := Aside0.mk hb; have HF11 := Aside0.mk ho; clear ho hb hg hat)
    | ((with_reducible refine gate_builtin (b := .append) (xs := #[.tmp 45, .tmp 46]) rfl ?_); at_builtin; refine Kd.R_append_rows (Kd.int .u8) (w0 := w) w.heap.size rfl (.tmp 45) (.tmp 46) 22 5 (.int .u8 0) 1 rfl Try.underlying22 info5 rfl (by decide) (by omega) v13 ([] ++ ([82, (l1.length : Int) % 256] : List Int)) l1 _ _ _ (fun k_ => True ∧ some k_ ≠ (.slice A8 body.length c8 : Value).ownBlock) (fun _ => False) rfl rfl HF11.out (Kd.C_below HR1.out HB11.out) (fun _ _ h => h) (fun _ h => h.elim) (fun k_ hk => ⟨trivial, Kd.fresh' (Kd.R_lt HO11.out) k_ hk⟩) HB11.out HB11.out.size (by have := H9n.out; simp only [List.nil_append, List.length_cons, List.length_nil]; omega) ?_; intro v14 w12 ho hb hg hat; have H9d := Aside0.mk (blk_grown H9c.out hg (Kd.R_ne HF11.out H9c.out (by decide))); have HO12 := Aside0.mk (Kd.R_after (ok := fun _ => True) HO11.out hg hat); have HB12 := Aside0.mk hb; have HF12 := Aside0.mk ho; clear ho hb hg hat)
    | ((with_reducible refine gate_builtin (b := .append) (xs := #[.tmp 48, .tmp 49]) rfl ?_); at_builtin; refine Kd.R_append_rows (Kd.int .u8) (w0 := w) w.heap.size rfl (.tmp 48) (.tmp 49) 22 5 (.int .u8 0) 1 rfl Try.underlying22 info5 rfl (by decide) (by omega) v14 (([] ++ ([82, (l1.length : Int) % 256] : List Int)) ++ l1) body _ _ _ (fun k_ => True ∧ some k_ ≠ (.slice A8 body.length c8 : Value).ownBlock) (fun _ => False) rfl rfl HF12.out ((Kd.R_reads' HO12.out).2.2) (fun _ _ h => h) (fun _ h => h.elim) (fun k_ hk => ⟨trivial, Kd.fresh' (Kd.R_lt HO12.out) k_ hk⟩) HB12.out HB12.out.size (by have := H9n.out; have := HL.out; simp only [List.nil_append, List.length_append, List.length_cons, List.length_nil]; omega) ?_; intro v15 w13 ho hb hg hat; have H9e := Aside0.mk (blk_grown H9d.out hg (Kd.R_ne HF12.out H9d.out (by decide))); have HO13 := Aside0.mk (Kd.R_after (ok := fun _ => True) HO12.out hg hat); have HB13 := Aside0.mk hb; have HF13 := Aside0.mk ho; clear ho hb hg hat)
    | ((with_reducible refine gate_builtin (b := .append) (xs := #[.tmp 51, .tmp 52]) rfl ?_); at_builtin; refine Kd.R_append_rows (Kd.int .u8) (w0 := w) w.heap.size rfl (.tmp 51) (.tmp 52) 22 5 (.int .u8 0) 1 rfl Try.underlying22 info5 rfl (by decide) (by omega) v15 ((([] ++ ([82, (l1.length : Int) % 256] : List Int)) ++ l1) ++ body) (sum4 s) _ _ _ (fun k_ => True ∧ some k_ ≠ (.slice A8 body.length c8 : Value).ownBlock) (fun _ => False) rfl rfl HF13.out (sum4_C H9e.out) (fun _ _ h => h) (fun _ h => h.elim) (fun k_ hk => ⟨trivial, Kd.fresh' (Kd.R_lt HO13.out) k_ hk⟩) HB13.out HB13.out.size (by have := H9n.out; have := HL.out; simp only [List.nil_append, List.length_append, List.length_cons, List.length_nil]; omega) ?_; intro v16 w14 ho hb hg hat; have H9f := Aside0.mk (blk_grown H9e.out hg (Kd.R_ne HF13.out H9e.out (by decide))); have HO14 := Aside0.mk (Kd.R_after (ok := fun _ => True) HO13.out hg hat); have HB14 := Aside0.mk hb; have HF14 := Aside0.mk ho; clear ho hb hg hat))
  go_ret
  refine ⟨v16, rfl, ?_, HB14.out⟩
  rw [← HR.out]
  exact Kd.R_mono HF14.out (fun _ _ => trivial)
end
section
def impl_FormWrite.f (k : Nat) (a0 : Int) (l1 : List Int) (a2_0 : Int) (a2_1 : Int) (l2_2 : List (S32)) : Option (List Int) := if a0 = 82 then (if 9 < l1.length then some [] else (impl_RasOk.f k a2_0 a2_1 l2_2).bind fun ok => if ok = true then (impl_formRuns_write.f k true a2_0 a2_1 l2_2).bind fun body => fileE k 82 l1 body else some []) else none
set_option maxHeartbeats 8000000 in
set_option maxRecDepth 100000 in
theorem formWriteN_calls (k : Nat) (A1 : Option Addr) (c1 : Nat) (l1 : List Int) (a0 a1 : Int) (A2 : Option Addr) (c2 : Nat) (l2 : List (S32)) (w : World) (hr2 : Kd.C k32 w A2 l2.length l2) (hc2 : l2.length ≤ c2)
    (h : 9 < l1.length ∨ (¬ 9 < l1.length ∧ impl_RasOk.f k a0 a1 l2 = some false)) :
    Calls Try.prog 9 #[.int .u8 82, .slice A1 l1.length c1, .agg #[.int .i64 a0, .int .i64 a1, .slice A2 l2.length c2]] w fun e w' => e = .returned (.slice none 0 0) ∧ Below w.heap.size w w' := by
  have HR2 := Aside0.mk hr2; have HC2 := Aside0.mk hc2; clear hr2 hc2; have hur := Try.underlying25; have qe : ∀ W : World, (binOp .eql 52 (.iface 77 (.agg #[])) .nilIface).run Try.prog W = .ok (.bool false) W := fun W => (by kernel_rfl)
  rcases h with h9 | ⟨h9, hok⟩
  · have g9 : decide ((9 : Int) < (l1.length : Int)) = true := decide_eq_true (by omega)
    have g9' : decide (9 < l1.length) = true := decide_eq_true (by omega); clear h9
    go_enter Try.func9, Try.ntmps9
    go_wp2_with (first
      | ((with_reducible refine gd_ 5 rfl ?_); refine bx_ 5 rfl #[.int .i64 a0, .int .i64 a1, .slice A2 l2.length c2] 25 ?_; intro b5 hg w2 hbox hb; have HX2 := Aside0.mk hbox; have HB2 := Aside0.mk hb; obtain ⟨x0, x1, x2⟩ := cc3_ hbox; clear hb hbox hg)
      | (go_at_call 31; refine (codecOf_calls 82 _).mono ?_; rintro e w3 ⟨rfl, hb⟩; have HX3 := Aside0.mk (blk_below HX2.out hb); have HB3 := Aside0.mk (below_step HB2.out hb); rw [show codecV 82 = .iface 77 (.agg #[]) from rfl]; clear x0 x1 x2 hb; obtain ⟨x0, x1, x2⟩ := cc3_ HX3.out))
    go_ret
    exact ⟨rfl, HB3.out⟩
  · have g9 : decide ((9 : Int) < (l1.length : Int)) = false := decide_eq_false (by omega)
    have g9' : decide (9 < l1.length) = false := decide_eq_false (by omega); have HOK := Aside0.mk hok; clear h9 hok
    go_enter Try.func9, Try.ntmps9
    go_wp2_with (first
      | ((with_reducible refine gd_ 5 rfl ?_); refine bx_ 5 rfl #[.int .i64 a0, .int .i64 a1, .slice A2 l2.length c2] 25 ?_; intro b5 hg w2 hbox hb; have HX2 := Aside0.mk hbox; have HB2 := Aside0.mk hb; obtain ⟨x0, x1, x2⟩ := cc3_ hbox; clear hb hbox hg)
      | (go_at_call 31; refine (codecOf_calls 82 _).mono ?_; rintro e w3 ⟨rfl, hb⟩; have HX3 := Aside0.mk (blk_below HX2.out hb); have HB3 := Aside0.mk (below_step HB2.out hb); rw [show codecV 82 = .iface 77 (.agg #[]) from rfl]; clear x0 x1 x2 hb; obtain ⟨x0, x1, x2⟩ := cc3_ HX3.out)
      | (go_at_call 32; refine (impl_RasOk.calls k a0 a1 A2 c2 l2 false _ (Kd.C_below HR2.out HB3.out) HC2.out HOK.out).mono ?_; rintro e w4 ⟨rfl, hb⟩; have HB4 := Aside0.mk (below_step HB3.out hb); clear x0 x1 x2 hb))
    go_ret
    exact ⟨rfl, HB4.out⟩
theorem impl_FormWrite.calls (k : Nat) (a0 : Int) (A1 : Option Addr) (c1 : Nat) (l1 : List Int) (a2_0 : Int) (a2_1 : Int) (A2_2 : Option Addr) (c2_2 : Nat) (l2_2 : List (S32)) (r : List Int) (w : World) (hr1 : Kd.C (Kd.int .u8) w A1 l1.length l1) (hc1 : l1.length ≤ c1) (hr2_2 : Kd.C k32 w A2_2 l2_2.length l2_2) (hc2_2 : l2_2.length ≤ c2_2) (h : impl_FormWrite.f k a0 l1 a2_0 a2_1 l2_2 = some r) :
  Calls Try.prog 9 #[.int .u8 a0, .slice A1 l1.length c1, .agg #[.int .i64 a2_0, .int .i64 a2_1, .slice A2_2 l2_2.length c2_2]] w fun e w' => ∃ v0_ : Value, e = .returned (v0_) ∧ Kd.R (Kd.int .u8) 5 w' w.heap.size (fun _ => True) v0_ r ∧ Below w.heap.size w w' := by
 unfold impl_FormWrite.f at h
 split at h
 case isFalse => cases h
 rename_i hk
 subst hk
 split at h
 · rename_i h9
   obtain rfl := Option.some.inj h
   exact (formWriteN_calls k A1 c1 l1 a2_0 a2_1 A2_2 c2_2 l2_2 w hr2_2 hc2_2 (.inl h9)).mono fun e w' ⟨he, hb⟩ => ⟨_, he, Kd.R_nil _ _ _ _ _, hb⟩
 · rename_i h9
   obtain ⟨ok, hok, h⟩ := Option.bind_eq_some_iff.1 h
   cases ok with
   | true =>
     rw [if_pos rfl] at h
     obtain ⟨body, hb, h⟩ := Option.bind_eq_some_iff.1 h
     exact formWriteR_calls k A1 c1 l1 a2_0 a2_1 A2_2 c2_2 l2_2 body r w hr1 hc1 hr2_2 hc2_2 (by omega) hok hb h
   | false =>
     rw [if_neg (by decide)] at h
     obtain rfl := Option.some.inj h
     exact (formWriteN_calls k A1 c1 l1 a2_0 a2_1 A2_2 c2_2 l2_2 w hr2_2 hc2_2 (.inr ⟨h9, hok⟩)).mono fun e w' ⟨he, hb⟩ => ⟨_, he, Kd.R_nil _ _ _ _ _, hb⟩
end
section
attribute [local go_sem high] eqA32
open Go.Proofs.YtdojnbghacabhaaW.PrintWords.Aside0 renaming mk → yaa
open Go.Proofs.YtdojnbghacabhaaW.PrintWords renaming pw_below_drewN → yab, below_alloc → yac, below_drew1 → yad, below_set → yaf, below_step → yaj, below_size → yan, blk_below → yar
open Go.Proofs.YtdojnbghacabhaaW.PrintWords.Kd renaming R_reads' → yae, C_alloc → yag, C_drewN → yah, Q_reads' → yai, C_drew → yak, R_elder' → yal, Q_below → yam, R_below → yao, R_new' → yap, R_base → yaq, R_lower → yas, R_slice → yat, R_lt → yau

def laws_FnFormRuns.l0 : Nat → List Int → Int → Int → Int → Int → List (S32) → Option (Bool)
 | 0, _, _, _, _, _, _ => none
 | k + 1, x4, x5, x6, x107000, x107001, x107002 => if x6 < (x107002.length : Int) then (if 0 ≤ x6 then (if 0 ≤ (wrap64 (x6 - 1)) then (if (wrap64 (x6 - 1)) < (x107002.length : Int) then (if (!(((rd_T32 x107002 x6).f0) == ((rd_T32 x107002 (wrap64 (x6 - 1))).f0)) || (!(((rd_T32 x107002 x6).f1) == ((rd_T32 x107002 (wrap64 (x6 - 1))).f1)) || (!(((rd_T32 x107002 x6).f2) == ((rd_T32 x107002 (wrap64 (x6 - 1))).f2)) || (!(((rd_T32 x107002 x6).f3) == ((rd_T32 x107002 (wrap64 (x6 - 1))).f3)))))) = true then (laws_FnFormRuns.l0 k x4 (wrap64 (x5 + 1)) (wrap64 (x6 + 1)) x107000 x107001 x107002) else (laws_FnFormRuns.l0 k x4 x5 (wrap64 (x6 + 1)) x107000 x107001 x107002)) else (none)) else (none)) else (none)) else (some ((x4.length : Int) == (wrap64 ((wrap64 (4 + (wrap64 (5 * x5)))) + 4))))
def laws_FnFormRuns.f (k : Nat) (l0 : List Int) : Option (Bool) := if (l0.length : Int) > 1048576 then (some true) else ((spec_DrawFormPut.f k l0).bind fun bt101 => ((impl_FormWrite.f k 82 (([] : List Int)) bt101.1 bt101.2.1 bt101.2.2).bind fun t110 => ((spec_FormWrite.f k 82 (([] : List Int)) bt101.1 bt101.2.1 bt101.2.2).bind fun t116 => ((laws_eaBytes.f t110 t116).bind fun t119 => (if t119 = true then ((spec_RasOk.f k bt101.1 bt101.2.1 bt101.2.2).bind fun t120 => (if t120 = true then (laws_FnFormRuns.l0 k t110 1 1 bt101.1 bt101.2.1 bt101.2.2) else (if (t110.length : Int) = 0 then ((laws_eaOk.f).bind fun t121 => (some t121)) else (some false)))) else (some false))))))
set_option maxHeartbeats 8000000 in
set_option maxRecDepth 100000 in
theorem laws_FnFormRuns.calls (k : Nat) (A0 : Option Addr) (c0 : Nat) (l0 : List Int) (r : Bool) (w : World) (hr0 : Kd.C (Kd.int .u8) w A0 l0.length l0) (hc0 : l0.length ≤ c0) (h : laws_FnFormRuns.f k l0 = some r) (hrt : r = true) :
  Calls Try.prog 3 #[.slice A0 l0.length c0] w fun e w' => e = .returned (.bool r) ∧ Below w.heap.size w w' := by
 have hu25 := Try.underlying25; have hu32 := Try.underlying32; have HR0 := yaa hr0; have HC0 := yaa hc0; clear hr0 hc0; have HB := yaa (Below.refl w.heap.size w); have H : (if (l0.length : Int) > 1048576 then (some true) else ((spec_DrawFormPut.f k l0).bind fun b8 => ((impl_FormWrite.f k 82 (([] : List Int)) b8.1 b8.2.1 b8.2.2).bind fun b4 => ((spec_FormWrite.f k 82 (([] : List Int)) b8.1 b8.2.1 b8.2.2).bind fun c5 => ((laws_eaBytes.f b4 c5).bind fun l5 => (if l5 = true then ((spec_RasOk.f k b8.1 b8.2.1 b8.2.2).bind fun l6 => (if l6 = true then (laws_FnFormRuns.l0 k b4 1 1 b8.1 b8.2.1 b8.2.2) else (if (b4.length : Int) = 0 then ((laws_eaOk.f).bind fun i7 => (some i7)) else (some false)))) else (some false))))))) = some r := h; clear h
 by_cases c2 : (l0.length : Int) > 1048576
 ·
  rw [if_pos c2] at H
  have m1 : decide (1048576 < (l0.length : Int)) = true := decide_eq_true c2; have m2 : decide (1048576 < l0.length) = true := decide_eq_true (by omega); clear c2; obtain rfl := Option.some.inj H
  go_enter Try.func3, Try.ntmps3
  go_wp2
  repeat (go_quiet (fail); try go_wp2)
  go_ret
  exact ⟨by first | rfl | (simp [*, errW_none, errW_some] <;> rfl), upH HB.out⟩
 ·
  rw [if_neg c2] at H
  have m1 : decide (1048576 < (l0.length : Int)) = false := decide_eq_false c2; have m2 : decide (1048576 < l0.length) = false := decide_eq_false (by omega); clear c2; obtain ⟨⟨a9, b0, a6⟩, A3, H⟩ := bindA H; (try dsimp only at H); obtain ⟨y107, hy107⟩ : ∃ y_ : List Int, y_ = (([] : List Int)) := ⟨_, rfl⟩
  conv at H => enter [1, 1, 3]; rw [← hy107]
  have Ny107 := yaa hy107; clear hy107; obtain ⟨b4, A4, H⟩ := bindA H; (try dsimp only at H); obtain ⟨y113, hy113⟩ : ∃ y_ : List Int, y_ = (([] : List Int)) := ⟨_, rfl⟩
  conv at H => enter [1, 1, 3]; rw [← hy113]
  have Ny113 := yaa hy113; clear hy113; obtain ⟨c5, A5, H⟩ := bindA H; (try dsimp only at H); obtain ⟨l5, A6, H⟩ := bindA H; (try dsimp only at H)
  by_cases c7 : l5 = true
  ·
   subst c7
   rw [if_pos rfl] at H
   obtain ⟨l6, A8, H⟩ := bindA H; (try dsimp only at H)
   by_cases c9 : l6 = true
   ·
    subst c9
    rw [if_pos rfl] at H
    have H' := yaa H; clear H
    go_enter Try.func3, Try.ntmps3
    go_wp2_with (first | (go_at_call 8; (with_reducible refine (spec_DrawFormPut.calls k _ _ l0 a9 b0 a6 _ ?side1 ?side2 A3.out).mono ?_); (case side1 => repeat (first | exact HR0.out | (with_reducible refine yag ?_ _) | (with_reducible refine yah ?_ _) | (with_reducible refine yak ?_))); (case side2 => exact HC0.out); rintro e w10 ⟨i8, rfl, ho0, hb⟩; have a2 := yaa (Kd.Q_lower ho0 (yan (upH HB.out))); replace HB := yaa (yaj (upH HB.out) hb); (try clear hb ho0)) | ((with_reducible refine gd_ 3 rfl ?_); refine bx_ 3 rfl #[.int .i64 0, .int .i64 0, .slice none 0 0] 25 ?_; intro a8 hg w11 hbox hb; replace a2 := yaa (yam (upQ a2.out) hb); have a1 := yaa (hbox); have b9 := yaa ((by rw [hg]; exact (yan (upH HB.out)) : w.heap.size ≤ a8)); replace HB := yaa (yaj (upH HB.out) hb); have f8 := b9; clear hb hbox hg; obtain ⟨d0, d1, d2⟩ := cc3_ a1.out; obtain ⟨d3, d4, d5⟩ := cf3_ a1.out; obtain ⟨c6, c8, i9, _⟩ := Kd.Q_slice a2.out; subst i9) | ((with_reducible refine gd_ 12 rfl ?_); refine Kd.R_lit (Kd.int .u8) _ 5 ?hg (N := 12) ?hd (xs := ([] : List Int)) (inner := []) (ok := fun _ => True) (okp := fun _ => True) ?hr ?hp (fun _ hk => hk) trivial (Below.refl _ _) (Nat.le_refl _) (by simp) ?_; (case hd => rfl); (case hg => rfl); (case hr => first | (go_simp; done) | (go_simp; rfl)); (case hp => exact (Reps.none _ _)); intro j0 w14 c1 hb hg_ hnew_; clear hg_ hnew_; (first | rw [← Ny107.out] at c1 | (simp only [Int.reduceToNat] at c1; rw [← Ny107.out] at c1)); replace a2 := yaa (yam (by (with_reducible repeat (first | apply Kd.Q_alloc | apply Kd.Q_drewN | apply Kd.Q_drew)); exact (Kd.Q_mono (Kd.Q_far (p := ⟨a8, 2, none⟩) (Kd.Q_far (p := ⟨a8, 1, none⟩) (Kd.Q_far (p := ⟨a8, 0, none⟩) (Kd.Q_types a2.out a1.out (by decide)) (fun _ hk => hk.2) (.int .i64 a9)) (fun _ hk => hk.2) (.int .i64 b0)) (fun _ hk => hk.2) (.slice c6 a6.length c8)) (fun _ h_ => h_.1))) hb); have a3 := yaa (yas c1 (yan (by repeat (with_reducible first | exact HB.out | apply yac | apply yab | apply yad | refine yaf ?_ (Aside0.out ‹_›))))); replace a1 := yaa (yar (g := a8) (o := .cells #[.int .i64 a9, .int .i64 b0, .slice c6 a6.length c8] 25 (0, 0)) (by (repeat refine oneB ?_); refine blk_put (cs := #[.int .i64 a9, .int .i64 b0, .slice none 0 0]) ?_ 2 _ rfl; refine blk_put (cs := #[.int .i64 a9, .int .i64 0, .slice none 0 0]) ?_ 1 _ rfl; refine blk_put (cs := #[.int .i64 0, .int .i64 0, .slice none 0 0]) ?_ 0 _ rfl; exact upB a1.out) hb); replace HB := yaa (yaj (by repeat (with_reducible first | exact HB.out | apply yac | apply yab | apply yad | refine yaf ?_ (Aside0.out ‹_›))) hb); clear hb c1; obtain ⟨d6, d7, d8⟩ := cc3_ a1.out; obtain ⟨d9, e0, e1⟩ := cf3_ a1.out; obtain ⟨m3, m4, j1⟩ := yat a3.out; subst j1) | (go_at_call 9; (with_reducible refine (impl_FormWrite.calls k 82 _ _ y107 a9 b0 _ _ a6 b4 _ ?side1 ?side2 ?side3 ?side4 A4.out).mono ?_); (case side1 => repeat (first | exact (yae a3.out).2.2 | (with_reducible refine yag ?_ _) | (with_reducible refine yah ?_ _) | (with_reducible refine yak ?_))); (case side2 => exact (yae a3.out).2.1); (case side3 => repeat (first | exact (yai a2.out).2.2 | (with_reducible refine yag ?_ _) | (with_reducible refine yah ?_ _) | (with_reducible refine yak ?_))); (case side4 => exact (yai a2.out).2.1); rintro e w18 ⟨j2, rfl, ho0, hb⟩; replace a2 := yaa (yam (upQ a2.out) hb); have a4 := yaa (yas (yap ho0 (yau (upR a3.out))) (yan (by repeat (with_reducible first | exact HB.out | apply yac | apply yab | apply yad | refine yaf ?_ (Aside0.out ‹_›))))); replace a3 := yaa (yal (upR a3.out) (yaq ho0) hb); replace a1 := yaa (yar (upB a1.out) hb); replace HB := yaa (yaj (by repeat (with_reducible first | exact HB.out | apply yac | apply yab | apply yad | refine yaf ?_ (Aside0.out ‹_›))) hb); (try clear hb ho0)) | ((with_reducible refine gd_ 16 rfl ?_); refine Kd.R_lit (Kd.int .u8) _ 5 ?hg (N := 16) ?hd (xs := ([] : List Int)) (inner := []) (ok := fun _ => True) (okp := fun _ => True) ?hr ?hp (fun _ hk => hk) trivial (Below.refl _ _) (Nat.le_refl _) (by simp) ?_; (case hd => rfl); (case hg => rfl); (case hr => first | (go_simp; done) | (go_simp; rfl)); (case hp => exact (Reps.none _ _)); intro j3 w19 b5 hb hg_ hnew_; clear hg_ hnew_; (first | rw [← Ny113.out] at b5 | (simp only [Int.reduceToNat] at b5; rw [← Ny113.out] at b5)); replace a2 := yaa (yam (upQ a2.out) hb); have a5 := yaa (yas (yap (yap b5 (yau (upR a3.out))) (yau (upR a4.out))) (yan (by repeat (with_reducible first | exact HB.out | apply yac | apply yab | apply yad | refine yaf ?_ (Aside0.out ‹_›))))); replace a3 := yaa (yal (upR a3.out) (yaq b5) hb); replace a4 := yaa (yal (upR a4.out) (yaq b5) hb); replace a1 := yaa (yar (upB a1.out) hb); replace HB := yaa (yaj (by repeat (with_reducible first | exact HB.out | apply yac | apply yab | apply yad | refine yaf ?_ (Aside0.out ‹_›))) hb); clear hb b5; obtain ⟨e2, e3, e4⟩ := cc3_ a1.out; obtain ⟨e5, e6, e7⟩ := cf3_ a1.out; obtain ⟨m5, m6, j4⟩ := yat a5.out; subst j4) | (go_at_call 11; (with_reducible refine (spec_FormWrite.calls k 82 _ _ y113 a9 b0 _ _ a6 c5 _ ?side1 ?side2 ?side3 ?side4 A5.out).mono ?_); (case side1 => repeat (first | exact (yae a5.out).2.2 | (with_reducible refine yag ?_ _) | (with_reducible refine yah ?_ _) | (with_reducible refine yak ?_))); (case side2 => exact (yae a5.out).2.1); (case side3 => repeat (first | exact (yai a2.out).2.2 | (with_reducible refine yag ?_ _) | (with_reducible refine yah ?_ _) | (with_reducible refine yak ?_))); (case side4 => exact (yai a2.out).2.1); rintro e w23 ⟨j5, rfl, ho0, hb⟩; replace a2 := yaa (yam (upQ a2.out) hb); have a7 := yaa (yas (yap (yap (yap ho0 (yau (upR a3.out))) (yau (upR a4.out))) (yau (upR a5.out))) (yan (by repeat (with_reducible first | exact HB.out | apply yac | apply yab | apply yad | refine yaf ?_ (Aside0.out ‹_›))))); replace a3 := yaa (yal (upR a3.out) (yaq ho0) hb); replace a4 := yaa (yal (upR a4.out) (yaq ho0) hb); replace a5 := yaa (yal (upR a5.out) (yaq ho0) hb); replace a1 := yaa (yar (upB a1.out) hb); replace HB := yaa (yaj (by repeat (with_reducible first | exact HB.out | apply yac | apply yab | apply yad | refine yaf ?_ (Aside0.out ‹_›))) hb); (try clear hb ho0); obtain ⟨l7, l8, j6⟩ := yat a4.out; subst j6; obtain ⟨m7, m8, j7⟩ := yat a7.out; subst j7) | (go_at_call 10; (with_reducible refine (laws_eaBytes.calls _ _ b4 _ _ c5 true _ ?side1 ?side2 ?side3 ?side4 A6.out).mono ?_); (case side1 => repeat (first | exact (yae a4.out).2.2 | (with_reducible refine yag ?_ _) | (with_reducible refine yah ?_ _) | (with_reducible refine yak ?_))); (case side2 => exact (yae a4.out).2.1); (case side3 => repeat (first | exact (yae a7.out).2.2 | (with_reducible refine yag ?_ _) | (with_reducible refine yah ?_ _) | (with_reducible refine yak ?_))); (case side4 => exact (yae a7.out).2.1); rintro e w' ⟨rfl, ⟨nd, rfl⟩⟩; (try first | exact ⟨rfl, _, World.drewN_drewN _ _ _⟩ | exact ⟨rfl, _, Eq.trans (World.drewN_drewN _ _ _) (congrArg (World.drewN _) (Nat.add_assoc _ _ _))⟩); obtain ⟨e8, e9, f4⟩ := cc3_ a1.out; obtain ⟨f5, f6⟩ := cf2_ a1.out; have f7 := blk_frozen a1.out 2) | (go_at_call 12; (with_reducible refine (spec_RasOk.calls k a9 b0 _ _ a6 true _ ?side1 ?side2 A8.out).mono ?_); (case side1 => repeat (first | exact (yai a2.out).2.2 | (with_reducible refine yag ?_ _) | (with_reducible refine yah ?_ _) | (with_reducible refine yak ?_))); (case side2 => exact (yai a2.out).2.1); rintro e w27 ⟨rfl, hb⟩; replace a2 := yaa (yam (upQ a2.out) hb); replace a3 := yaa (yao (upR a3.out) hb); replace a4 := yaa (yao (upR a4.out) hb); replace a5 := yaa (yao (upR a5.out) hb); replace a7 := yaa (yao (upR a7.out) hb); replace a1 := yaa (yar (upB a1.out) hb); replace HB := yaa (yaj (by repeat (with_reducible first | exact HB.out | apply yac | apply yab | apply yad | refine yaf ?_ (Aside0.out ‹_›))) hb); (try clear hb)))
    repeat (go_quiet (first | (go_at_call 8; (with_reducible refine (spec_DrawFormPut.calls k _ _ l0 a9 b0 a6 _ ?side1 ?side2 A3.out).mono ?_); (case side1 => repeat (first | exact HR0.out | (with_reducible refine yag ?_ _) | (with_reducible refine yah ?_ _) | (with_reducible refine yak ?_))); (case side2 => exact HC0.out); rintro e w10 ⟨i8, rfl, ho0, hb⟩; have a2 := yaa (Kd.Q_lower ho0 (yan (upH HB.out))); replace HB := yaa (yaj (upH HB.out) hb); (try clear hb ho0)) | ((with_reducible refine gd_ 3 rfl ?_); refine bx_ 3 rfl #[.int .i64 0, .int .i64 0, .slice none 0 0] 25 ?_; intro a8 hg w11 hbox hb; replace a2 := yaa (yam (upQ a2.out) hb); have a1 := yaa (hbox); have b9 := yaa ((by rw [hg]; exact (yan (upH HB.out)) : w.heap.size ≤ a8)); replace HB := yaa (yaj (upH HB.out) hb); have f8 := b9; clear hb hbox hg; obtain ⟨d0, d1, d2⟩ := cc3_ a1.out; obtain ⟨d3, d4, d5⟩ := cf3_ a1.out; obtain ⟨c6, c8, i9, _⟩ := Kd.Q_slice a2.out; subst i9) | ((with_reducible refine gd_ 12 rfl ?_); refine Kd.R_lit (Kd.int .u8) _ 5 ?hg (N := 12) ?hd (xs := ([] : List Int)) (inner := []) (ok := fun _ => True) (okp := fun _ => True) ?hr ?hp (fun _ hk => hk) trivial (Below.refl _ _) (Nat.le_refl _) (by simp) ?_; (case hd => rfl); (case hg => rfl); (case hr => first | (go_simp; done) | (go_simp; rfl)); (case hp => exact (Reps.none _ _)); intro j0 w14 c1 hb hg_ hnew_; clear hg_ hnew_; (first | rw [← Ny107.out] at c1 | (simp only [Int.reduceToNat] at c1; rw [← Ny107.out] at c1)); replace a2 := yaa (yam (by (with_reducible repeat (first | apply Kd.Q_alloc | apply Kd.Q_drewN | apply Kd.Q_drew)); exact (Kd.Q_mono (Kd.Q_far (p := ⟨a8, 2, none⟩) (Kd.Q_far (p := ⟨a8, 1, none⟩) (Kd.Q_far (p := ⟨a8, 0, none⟩) (Kd.Q_types a2.out a1.out (by decide)) (fun _ hk => hk.2) (.int .i64 a9)) (fun _ hk => hk.2) (.int .i64 b0)) (fun _ hk => hk.2) (.slice c6 a6.length c8)) (fun _ h_ => h_.1))) hb); have a3 := yaa (yas c1 (yan (by repeat (with_reducible first | exact HB.out | apply yac | apply yab | apply yad | refine yaf ?_ (Aside0.out ‹_›))))); replace a1 := yaa (yar (g := a8) (o := .cells #[.int .i64 a9, .int .i64 b0, .slice c6 a6.length c8] 25 (0, 0)) (by (repeat refine oneB ?_); refine blk_put (cs := #[.int .i64 a9, .int .i64 b0, .slice none 0 0]) ?_ 2 _ rfl; refine blk_put (cs := #[.int .i64 a9, .int .i64 0, .slice none 0 0]) ?_ 1 _ rfl; refine blk_put (cs := #[.int .i64 0, .int .i64 0, .slice none 0 0]) ?_ 0 _ rfl; exact upB a1.out) hb); replace HB := yaa (yaj (by repeat (with_reducible first | exact HB.out | apply yac | apply yab | apply yad | refine yaf ?_ (Aside0.out ‹_›))) hb); clear hb c1; obtain ⟨d6, d7, d8⟩ := cc3_ a1.out; obtain ⟨d9, e0, e1⟩ := cf3_ a1.out; obtain ⟨m3, m4, j1⟩ := yat a3.out; subst j1) | (go_at_call 9; (with_reducible refine (impl_FormWrite.calls k 82 _ _ y107 a9 b0 _ _ a6 b4 _ ?side1 ?side2 ?side3 ?side4 A4.out).mono ?_); (case side1 => repeat (first | exact (yae a3.out).2.2 | (with_reducible refine yag ?_ _) | (with_reducible refine yah ?_ _) | (with_reducible refine yak ?_))); (case side2 => exact (yae a3.out).2.1); (case side3 => repeat (first | exact (yai a2.out).2.2 | (with_reducible refine yag ?_ _) | (with_reducible refine yah ?_ _) | (with_reducible refine yak ?_))); (case side4 => exact (yai a2.out).2.1); rintro e w18 ⟨j2, rfl, ho0, hb⟩; replace a2 := yaa (yam (upQ a2.out) hb); have a4 := yaa (yas (yap ho0 (yau (upR a3.out))) (yan (by repeat (with_reducible first | exact HB.out | apply yac | apply yab | apply yad | refine yaf ?_ (Aside0.out ‹_›))))); replace a3 := yaa (yal (upR a3.out) (yaq ho0) hb); replace a1 := yaa (yar (upB a1.out) hb); replace HB := yaa (yaj (by repeat (with_reducible first | exact HB.out | apply yac | apply yab | apply yad | refine yaf ?_ (Aside0.out ‹_›))) hb); (try clear hb ho0)) | ((with_reducible refine gd_ 16 rfl ?_); refine Kd.R_lit (Kd.int .u8) _ 5 ?hg (N := 16) ?hd (xs := ([] : List Int)) (inner := []) (ok := fun _ => True) (okp := fun _ => True) ?hr ?hp (fun _ hk => hk) trivial (Below.refl _ _) (Nat.le_refl _) (by simp) ?_; (case hd => rfl); (case hg => rfl); (case hr => first | (go_simp; done) | (go_simp; rfl)); (case hp => exact (Reps.none _ _)); intro j3 w19 b5 hb hg_ hnew_; clear hg_ hnew_; (first | rw [← Ny113.out] at b5 | (simp only [Int.reduceToNat] at b5; rw [← Ny113.out] at b5)); replace a2 := yaa (yam (upQ a2.out) hb); have a5 := yaa (yas (yap (yap b5 (yau (upR a3.out))) (yau (upR a4.out))) (yan (by repeat (with_reducible first | exact HB.out | apply yac | apply yab | apply yad | refine yaf ?_ (Aside0.out ‹_›))))); replace a3 := yaa (yal (upR a3.out) (yaq b5) hb); replace a4 := yaa (yal (upR a4.out) (yaq b5) hb); replace a1 := yaa (yar (upB a1.out) hb); replace HB := yaa (yaj (by repeat (with_reducible first | exact HB.out | apply yac | apply yab | apply yad | refine yaf ?_ (Aside0.out ‹_›))) hb); clear hb b5; obtain ⟨e2, e3, e4⟩ := cc3_ a1.out; obtain ⟨e5, e6, e7⟩ := cf3_ a1.out; obtain ⟨m5, m6, j4⟩ := yat a5.out; subst j4) | (go_at_call 11; (with_reducible refine (spec_FormWrite.calls k 82 _ _ y113 a9 b0 _ _ a6 c5 _ ?side1 ?side2 ?side3 ?side4 A5.out).mono ?_); (case side1 => repeat (first | exact (yae a5.out).2.2 | (with_reducible refine yag ?_ _) | (with_reducible refine yah ?_ _) | (with_reducible refine yak ?_))); (case side2 => exact (yae a5.out).2.1); (case side3 => repeat (first | exact (yai a2.out).2.2 | (with_reducible refine yag ?_ _) | (with_reducible refine yah ?_ _) | (with_reducible refine yak ?_))); (case side4 => exact (yai a2.out).2.1); rintro e w23 ⟨j5, rfl, ho0, hb⟩; replace a2 := yaa (yam (upQ a2.out) hb); have a7 := yaa (yas (yap (yap (yap ho0 (yau (upR a3.out))) (yau (upR a4.out))) (yau (upR a5.out))) (yan (by repeat (with_reducible first | exact HB.out | apply yac | apply yab | apply yad | refine yaf ?_ (Aside0.out ‹_›))))); replace a3 := yaa (yal (upR a3.out) (yaq ho0) hb); replace a4 := yaa (yal (upR a4.out) (yaq ho0) hb); replace a5 := yaa (yal (upR a5.out) (yaq ho0) hb); replace a1 := yaa (yar (upB a1.out) hb); replace HB := yaa (yaj (by repeat (with_reducible first | exact HB.out | apply yac | apply yab | apply yad | refine yaf ?_ (Aside0.out ‹_›))) hb); (try clear hb ho0); obtain ⟨l7, l8, j6⟩ := yat a4.out; subst j6; obtain ⟨m7, m8, j7⟩ := yat a7.out; subst j7) | (go_at_call 10; (with_reducible refine (laws_eaBytes.calls _ _ b4 _ _ c5 true _ ?side1 ?side2 ?side3 ?side4 A6.out).mono ?_); (case side1 => repeat (first | exact (yae a4.out).2.2 | (with_reducible refine yag ?_ _) | (with_reducible refine yah ?_ _) | (with_reducible refine yak ?_))); (case side2 => exact (yae a4.out).2.1); (case side3 => repeat (first | exact (yae a7.out).2.2 | (with_reducible refine yag ?_ _) | (with_reducible refine yah ?_ _) | (with_reducible refine yak ?_))); (case side4 => exact (yae a7.out).2.1); rintro e w' ⟨rfl, ⟨nd, rfl⟩⟩; (try first | exact ⟨rfl, _, World.drewN_drewN _ _ _⟩ | exact ⟨rfl, _, Eq.trans (World.drewN_drewN _ _ _) (congrArg (World.drewN _) (Nat.add_assoc _ _ _))⟩); obtain ⟨e8, e9, f4⟩ := cc3_ a1.out; obtain ⟨f5, f6⟩ := cf2_ a1.out; have f7 := blk_frozen a1.out 2) | (go_at_call 12; (with_reducible refine (spec_RasOk.calls k a9 b0 _ _ a6 true _ ?side1 ?side2 A8.out).mono ?_); (case side1 => repeat (first | exact (yai a2.out).2.2 | (with_reducible refine yag ?_ _) | (with_reducible refine yah ?_ _) | (with_reducible refine yak ?_))); (case side2 => exact (yai a2.out).2.1); rintro e w27 ⟨rfl, hb⟩; replace a2 := yaa (yam (upQ a2.out) hb); replace a3 := yaa (yao (upR a3.out) hb); replace a4 := yaa (yao (upR a4.out) hb); replace a5 := yaa (yao (upR a5.out) hb); replace a7 := yaa (yao (upR a7.out) hb); replace a1 := yaa (yar (upB a1.out) hb); replace HB := yaa (yaj (by repeat (with_reducible first | exact HB.out | apply yac | apply yab | apply yad | refine yaf ?_ (Aside0.out ‹_›))) hb); (try clear hb))); try go_wp2_with (first | (go_at_call 8; (with_reducible refine (spec_DrawFormPut.calls k _ _ l0 a9 b0 a6 _ ?side1 ?side2 A3.out).mono ?_); (case side1 => repeat (first | exact HR0.out | (with_reducible refine yag ?_ _) | (with_reducible refine yah ?_ _) | (with_reducible refine yak ?_))); (case side2 => exact HC0.out); rintro e w10 ⟨i8, rfl, ho0, hb⟩; have a2 := yaa (Kd.Q_lower ho0 (yan (upH HB.out))); replace HB := yaa (yaj (upH HB.out) hb); (try clear hb ho0)) | ((with_reducible refine gd_ 3 rfl ?_); refine bx_ 3 rfl #[.int .i64 0, .int .i64 0, .slice none 0 0] 25 ?_; intro a8 hg w11 hbox hb; replace a2 := yaa (yam (upQ a2.out) hb); have a1 := yaa (hbox); have b9 := yaa ((by rw [hg]; exact (yan (upH HB.out)) : w.heap.size ≤ a8)); replace HB := yaa (yaj (upH HB.out) hb); have f8 := b9; clear hb hbox hg; obtain ⟨d0, d1, d2⟩ := cc3_ a1.out; obtain ⟨d3, d4, d5⟩ := cf3_ a1.out; obtain ⟨c6, c8, i9, _⟩ := Kd.Q_slice a2.out; subst i9) | ((with_reducible refine gd_ 12 rfl ?_); refine Kd.R_lit (Kd.int .u8) _ 5 ?hg (N := 12) ?hd (xs := ([] : List Int)) (inner := []) (ok := fun _ => True) (okp := fun _ => True) ?hr ?hp (fun _ hk => hk) trivial (Below.refl _ _) (Nat.le_refl _) (by simp) ?_; (case hd => rfl); (case hg => rfl); (case hr => first | (go_simp; done) | (go_simp; rfl)); (case hp => exact (Reps.none _ _)); intro j0 w14 c1 hb hg_ hnew_; clear hg_ hnew_; (first | rw [← Ny107.out] at c1 | (simp only [Int.reduceToNat] at c1; rw [← Ny107.out] at c1)); replace a2 := yaa (yam (by (with_reducible repeat (first | apply Kd.Q_alloc | apply Kd.Q_drewN | apply Kd.Q_drew)); exact (Kd.Q_mono (Kd.Q_far (p := ⟨a8, 2, none⟩) (Kd.Q_far (p := ⟨a8, 1, none⟩) (Kd.Q_far (p := ⟨a8, 0, none⟩) (Kd.Q_types a2.out a1.out (by decide)) (fun _ hk => hk.2) (.int .i64 a9)) (fun _ hk => hk.2) (.int .i64 b0)) (fun _ hk => hk.2) (.slice c6 a6.length c8)) (fun _ h_ => h_.1))) hb); have a3 := yaa (yas c1 (yan (by repeat (with_reducible first | exact HB.out | apply yac | apply yab | apply yad | refine yaf ?_ (Aside0.out ‹_›))))); replace a1 := yaa (yar (g := a8) (o := .cells #[.int .i64 a9, .int .i64 b0, .slice c6 a6.length c8] 25 (0, 0)) (by (repeat refine oneB ?_); refine blk_put (cs := #[.int .i64 a9, .int .i64 b0, .slice none 0 0]) ?_ 2 _ rfl; refine blk_put (cs := #[.int .i64 a9, .int .i64 0, .slice none 0 0]) ?_ 1 _ rfl; refine blk_put (cs := #[.int .i64 0, .int .i64 0, .slice none 0 0]) ?_ 0 _ rfl; exact upB a1.out) hb); replace HB := yaa (yaj (by repeat (with_reducible first | exact HB.out | apply yac | apply yab | apply yad | refine yaf ?_ (Aside0.out ‹_›))) hb); clear hb c1; obtain ⟨d6, d7, d8⟩ := cc3_ a1.out; obtain ⟨d9, e0, e1⟩ := cf3_ a1.out; obtain ⟨m3, m4, j1⟩ := yat a3.out; subst j1) | (go_at_call 9; (with_reducible refine (impl_FormWrite.calls k 82 _ _ y107 a9 b0 _ _ a6 b4 _ ?side1 ?side2 ?side3 ?side4 A4.out).mono ?_); (case side1 => repeat (first | exact (yae a3.out).2.2 | (with_reducible refine yag ?_ _) | (with_reducible refine yah ?_ _) | (with_reducible refine yak ?_))); (case side2 => exact (yae a3.out).2.1); (case side3 => repeat (first | exact (yai a2.out).2.2 | (with_reducible refine yag ?_ _) | (with_reducible refine yah ?_ _) | (with_reducible refine yak ?_))); (case side4 => exact (yai a2.out).2.1); rintro e w18 ⟨j2, rfl, ho0, hb⟩; replace a2 := yaa (yam (upQ a2.out) hb); have a4 := yaa (yas (yap ho0 (yau (upR a3.out))) (yan (by repeat (with_reducible first | exact HB.out | apply yac | apply yab | apply yad | refine yaf ?_ (Aside0.out ‹_›))))); replace a3 := yaa (yal (upR a3.out) (yaq ho0) hb); replace a1 := yaa (yar (upB a1.out) hb); replace HB := yaa (yaj (by repeat (with_reducible first | exact HB.out | apply yac | apply yab | apply yad | refine yaf ?_ (Aside0.out ‹_›))) hb); (try clear hb ho0)) | ((with_reducible refine gd_ 16 rfl ?_); refine Kd.R_lit (Kd.int .u8) _ 5 ?hg (N := 16) ?hd (xs := ([] : List Int)) (inner := []) (ok := fun _ => True) (okp := fun _ => True) ?hr ?hp (fun _ hk => hk) trivial (Below.refl _ _) (Nat.le_refl _) (by simp) ?_; (case hd => rfl); (case hg => rfl); (case hr => first | (go_simp; done) | (go_simp; rfl)); (case hp => exact (Reps.none _ _)); intro j3 w19 b5 hb hg_ hnew_; clear hg_ hnew_; (first | rw [← Ny113.out] at b5 | (simp only [Int.reduceToNat] at b5; rw [← Ny113.out] at b5)); replace a2 := yaa (yam (upQ a2.out) hb); have a5 := yaa (yas (yap (yap b5 (yau (upR a3.out))) (yau (upR a4.out))) (yan (by repeat (with_reducible first | exact HB.out | apply yac | apply yab | apply yad | refine yaf ?_ (Aside0.out ‹_›))))); replace a3 := yaa (yal (upR a3.out) (yaq b5) hb); replace a4 := yaa (yal (upR a4.out) (yaq b5) hb); replace a1 := yaa (yar (upB a1.out) hb); replace HB := yaa (yaj (by repeat (with_reducible first | exact HB.out | apply yac | apply yab | apply yad | refine yaf ?_ (Aside0.out ‹_›))) hb); clear hb b5; obtain ⟨e2, e3, e4⟩ := cc3_ a1.out; obtain ⟨e5, e6, e7⟩ := cf3_ a1.out; obtain ⟨m5, m6, j4⟩ := yat a5.out; subst j4) | (go_at_call 11; (with_reducible refine (spec_FormWrite.calls k 82 _ _ y113 a9 b0 _ _ a6 c5 _ ?side1 ?side2 ?side3 ?side4 A5.out).mono ?_); (case side1 => repeat (first | exact (yae a5.out).2.2 | (with_reducible refine yag ?_ _) | (with_reducible refine yah ?_ _) | (with_reducible refine yak ?_))); (case side2 => exact (yae a5.out).2.1); (case side3 => repeat (first | exact (yai a2.out).2.2 | (with_reducible refine yag ?_ _) | (with_reducible refine yah ?_ _) | (with_reducible refine yak ?_))); (case side4 => exact (yai a2.out).2.1); rintro e w23 ⟨j5, rfl, ho0, hb⟩; replace a2 := yaa (yam (upQ a2.out) hb); have a7 := yaa (yas (yap (yap (yap ho0 (yau (upR a3.out))) (yau (upR a4.out))) (yau (upR a5.out))) (yan (by repeat (with_reducible first | exact HB.out | apply yac | apply yab | apply yad | refine yaf ?_ (Aside0.out ‹_›))))); replace a3 := yaa (yal (upR a3.out) (yaq ho0) hb); replace a4 := yaa (yal (upR a4.out) (yaq ho0) hb); replace a5 := yaa (yal (upR a5.out) (yaq ho0) hb); replace a1 := yaa (yar (upB a1.out) hb); replace HB := yaa (yaj (by repeat (with_reducible first | exact HB.out | apply yac | apply yab | apply yad | refine yaf ?_ (Aside0.out ‹_›))) hb); (try clear hb ho0); obtain ⟨l7, l8, j6⟩ := yat a4.out; subst j6; obtain ⟨m7, m8, j7⟩ := yat a7.out; subst j7) | (go_at_call 10; (with_reducible refine (laws_eaBytes.calls _ _ b4 _ _ c5 true _ ?side1 ?side2 ?side3 ?side4 A6.out).mono ?_); (case side1 => repeat (first | exact (yae a4.out).2.2 | (with_reducible refine yag ?_ _) | (with_reducible refine yah ?_ _) | (with_reducible refine yak ?_))); (case side2 => exact (yae a4.out).2.1); (case side3 => repeat (first | exact (yae a7.out).2.2 | (with_reducible refine yag ?_ _) | (with_reducible refine yah ?_ _) | (with_reducible refine yak ?_))); (case side4 => exact (yae a7.out).2.1); rintro e w' ⟨rfl, ⟨nd, rfl⟩⟩; (try first | exact ⟨rfl, _, World.drewN_drewN _ _ _⟩ | exact ⟨rfl, _, Eq.trans (World.drewN_drewN _ _ _) (congrArg (World.drewN _) (Nat.add_assoc _ _ _))⟩); obtain ⟨e8, e9, f4⟩ := cc3_ a1.out; obtain ⟨f5, f6⟩ := cf2_ a1.out; have f7 := blk_frozen a1.out 2) | (go_at_call 12; (with_reducible refine (spec_RasOk.calls k a9 b0 _ _ a6 true _ ?side1 ?side2 A8.out).mono ?_); (case side1 => repeat (first | exact (yai a2.out).2.2 | (with_reducible refine yag ?_ _) | (with_reducible refine yah ?_ _) | (with_reducible refine yak ?_))); (case side2 => exact (yai a2.out).2.1); rintro e w27 ⟨rfl, hb⟩; replace a2 := yaa (yam (upQ a2.out) hb); replace a3 := yaa (yao (upR a3.out) hb); replace a4 := yaa (yao (upR a4.out) hb); replace a5 := yaa (yao (upR a5.out) hb); replace a7 := yaa (yao (upR a7.out) hb); replace a1 := yaa (yar (upB a1.out) hb); replace HB := yaa (yaj (by repeat (with_reducible first | exact HB.out | apply yac | apply yab | apply yad | refine yaf ?_ (Aside0.out ‹_›))) hb); (try clear hb))))
    (try simp only [Act.put, List.setIfInBounds_toArray, List.set_cons_zero, List.set_cons_succ])
    go_loopg [5, 6] k (fun kq v5 v6 w' => ∃ (g1 : Int) (b1 : Int), v5 = .int .i64 g1 ∧ v6 = .int .i64 b1 ∧ Aside0 (laws_FnFormRuns.l0 kq b4 g1 b1 a9 b0 a6 = some r) ∧ Aside0 (kq ≤ k) ∧ Aside0 (Kd.R (Kd.int .u8) 5 w' w.heap.size (fun _ => True) (.slice l7 b4.length l8) b4) ∧ Aside0 (Kd.Q k32 32 w' w.heap.size (fun _ => True) (.slice c6 a6.length c8) a6) ∧ Aside0 (w'.heap[a8]? = some (.cells #[.int .i64 a9, .int .i64 b0, (.slice c6 a6.length c8)] 25 (0, 0))) ∧ Aside0 (Below w.heap.size w w'))
    case atStart => exact ⟨(1), (1), (by first | rfl | (simp; done) | (simp [*]; done)), (by first | rfl | (simp; done) | (simp [*]; done)), H', ⟨Nat.le_refl _⟩, ⟨by (with_reducible repeat (first | apply Kd.R_alloc | apply Kd.R_drewN | apply Kd.R_drew)); exact Kd.R_mono a4.out (fun _ hk => trivial)⟩, ⟨by first | exact a2.out | exact upQ a2.out⟩, ⟨by exact upB a1.out⟩, ⟨by repeat (with_reducible first | exact HB.out | apply yac | apply yab | apply yad | refine yaf ?_ (Aside0.out ‹_›))⟩⟩
    case round =>
     clear H'; (try clear c2); (try clear m1); (try clear m2); (try clear p2); (try clear c3); (try clear c7); (try clear c9); (try clear d0); (try clear d1); (try clear d2); (try clear d6); (try clear d7); (try clear d8); (try clear e2); (try clear e3); (try clear e4); (try clear e8); (try clear e9); (try clear f4); (try clear d3); (try clear d4); (try clear d5); (try clear d9); (try clear e0); (try clear e1); (try clear e5); (try clear e6); (try clear e7); (try clear f5); (try clear f6); (try clear f7); obtain ⟨g1, b1, rfl, rfl, HA, HK1, k5, b2, a1, HB⟩ := hrel
     cases gk with
     | zero => exact absurd HA.out (by simp [laws_FnFormRuns.l0])
     | succ k1 =>
      have H := HA.out; clear HA
      simp only [laws_FnFormRuns.l0] at H
      by_cases c28 : b1 < (a6.length : Int)
      ·
       rw [if_pos c28] at H
       have m9 : decide (b1 < (a6.length : Int)) = true := decide_eq_true c28; clear c28
       by_cases c29 : 0 ≤ b1
       ·
        rw [if_pos c29] at H
        replace c29 := decide_eq_true c29; obtain ⟨ji30, hji30⟩ : ∃ j_ : Int, (wrap64 (b1 - 1)) = j_ := ⟨_, rfl⟩
        replace H : (if 0 ≤ (ji30) then (if (ji30) < (a6.length : Int) then (if (!(((rd_T32 a6 b1).f0) == ((rd_T32 a6 (ji30)).f0)) || (!(((rd_T32 a6 b1).f1) == ((rd_T32 a6 (ji30)).f1)) || (!(((rd_T32 a6 b1).f2) == ((rd_T32 a6 (ji30)).f2)) || (!(((rd_T32 a6 b1).f3) == ((rd_T32 a6 (ji30)).f3)))))) = true then (laws_FnFormRuns.l0 k1 b4 (wrap64 (g1 + 1)) (wrap64 (b1 + 1)) a9 b0 a6) else (laws_FnFormRuns.l0 k1 b4 g1 (wrap64 (b1 + 1)) a9 b0 a6)) else (none)) else (none)) = some r := by first | (rw [hji30] at H; exact H) | (simp only [hji30] at H ⊢; exact H)
        have hji30w : (IntKind.i64.wrap (b1 - 1)) = ji30 := (i64_w _).trans hji30
        by_cases c31 : 0 ≤ (ji30)
        ·
         rw [if_pos c31] at H
         replace c31 := decide_eq_true c31
         by_cases c32 : (ji30) < (a6.length : Int)
         ·
          rw [if_pos c32] at H
          replace c32 := decide_eq_true c32
          by_cases c33 : (!(((rd_T32 a6 b1).f0) == ((rd_T32 a6 (ji30)).f0)) || (!(((rd_T32 a6 b1).f1) == ((rd_T32 a6 (ji30)).f1)) || (!(((rd_T32 a6 b1).f2) == ((rd_T32 a6 (ji30)).f2)) || (!(((rd_T32 a6 b1).f3) == ((rd_T32 a6 (ji30)).f3)))))) = true
          ·
           rw [if_pos c33] at H
           have n0 : (!(((rd_T32 a6 b1).f0) == ((rd_T32 a6 (ji30)).f0)) || (!(((rd_T32 a6 b1).f1) == ((rd_T32 a6 (ji30)).f1)) || (!(((rd_T32 a6 b1).f2) == ((rd_T32 a6 (ji30)).f2)) || (!(((rd_T32 a6 b1).f3) == ((rd_T32 a6 (ji30)).f3)))))) = true := c33; clear c33; have H' := yaa H; clear H; obtain ⟨o1, o2, o3⟩ := cc3_ a1.out; obtain ⟨o4, o5, o6⟩ := cf3_ a1.out; have p122 : 0 ≤ (b1 : Int) := of_decide_eq_true (by assumption); have q122 : b1 < (a6.length : Int) := of_decide_eq_true (by assumption); obtain ⟨ad122, l9, k6, k7, k8, k9⟩ := at_T32 (yai b2.out).2.2 b1 p122 q122
           cases l9
           replace p122 := eq_true p122; replace q122 := eq_true q122; have p123 : 0 ≤ ((ji30) : Int) := of_decide_eq_true (by assumption); have q123 : (ji30) < (a6.length : Int) := of_decide_eq_true (by assumption); obtain ⟨ad123, m0, l1, l2, l3, l4⟩ := at_T32 (yai b2.out).2.2 (ji30) p123 q123; obtain rfl : ad122 = ad123 := (by injection m0); replace p123 := eq_true p123; replace q123 := eq_true q123
           go_wp2
           repeat (go_quiet (fail); try go_wp2)
           go_roundg k1
           case measure => have := HK1.out; omega
           case rel => exact ⟨(wrap64 (g1 + 1)), (wrap64 (b1 + 1)), (by first | rfl | (simp; done) | (simp [*]; done)), (by first | rfl | (simp; done) | (simp [*]; done)), H', ⟨by have := HK1.out; omega⟩, ⟨by first | exact k5.out | exact upR k5.out⟩, ⟨by first | exact b2.out | exact upQ b2.out⟩, ⟨by exact upB a1.out⟩, ⟨by repeat (with_reducible first | exact HB.out | apply yac | apply yab | apply yad | refine yaf ?_ (Aside0.out ‹_›))⟩⟩
          ·
           rw [if_neg c33] at H
           have n0 : (!(((rd_T32 a6 b1).f0) == ((rd_T32 a6 (ji30)).f0)) || (!(((rd_T32 a6 b1).f1) == ((rd_T32 a6 (ji30)).f1)) || (!(((rd_T32 a6 b1).f2) == ((rd_T32 a6 (ji30)).f2)) || (!(((rd_T32 a6 b1).f3) == ((rd_T32 a6 (ji30)).f3)))))) = false := (by simpa using c33); clear c33; have H' := yaa H; clear H; obtain ⟨o7, o8, o9⟩ := cc3_ a1.out; obtain ⟨p0, p1, p3⟩ := cf3_ a1.out; have p122 : 0 ≤ (b1 : Int) := of_decide_eq_true (by assumption); have q122 : b1 < (a6.length : Int) := of_decide_eq_true (by assumption); obtain ⟨ad122, l9, k6, k7, k8, k9⟩ := at_T32 (yai b2.out).2.2 b1 p122 q122
           cases l9
           replace p122 := eq_true p122; replace q122 := eq_true q122; have p123 : 0 ≤ ((ji30) : Int) := of_decide_eq_true (by assumption); have q123 : (ji30) < (a6.length : Int) := of_decide_eq_true (by assumption); obtain ⟨ad123, m0, l1, l2, l3, l4⟩ := at_T32 (yai b2.out).2.2 (ji30) p123 q123; obtain rfl : ad122 = ad123 := (by injection m0); replace p123 := eq_true p123; replace q123 := eq_true q123
           go_wp2
           repeat (go_quiet (fail); try go_wp2)
           go_roundg k1
           case measure => have := HK1.out; omega
           case rel => exact ⟨(g1), (wrap64 (b1 + 1)), (by first | rfl | (simp; done) | (simp [*]; done)), (by first | rfl | (simp; done) | (simp [*]; done)), H', ⟨by have := HK1.out; omega⟩, ⟨by first | exact k5.out | exact upR k5.out⟩, ⟨by first | exact b2.out | exact upQ b2.out⟩, ⟨by exact upB a1.out⟩, ⟨by repeat (with_reducible first | exact HB.out | apply yac | apply yab | apply yad | refine yaf ?_ (Aside0.out ‹_›))⟩⟩
         ·
          rw [if_neg c32] at H
          exact absurd H (by simp)
        ·
         rw [if_neg c31] at H
         exact absurd H (by simp)
       ·
        rw [if_neg c29] at H
        exact absurd H (by simp)
      ·
       rw [if_neg c28] at H
       have m9 : decide (b1 < (a6.length : Int)) = false := decide_eq_false c28; clear c28; obtain rfl := Option.some.inj H; obtain ⟨p4, p5, p6⟩ := cc3_ a1.out; obtain ⟨p7, p8, p9⟩ := cf3_ a1.out
       go_wp2
       repeat (go_quiet (fail); try go_wp2)
       go_ret
       exact ⟨by first | rfl | (simp [*, errW_none, errW_some] <;> rfl), by repeat (with_reducible first | exact HB.out | apply yac | apply yab | apply yad | refine yaf ?_ (Aside0.out ‹_›))⟩
   ·
    replace c9 := Bool.eq_false_iff.mpr c9
    subst c9
    rw [if_neg (show ¬ (false = true) by decide)] at H
    by_cases c37 : (b4.length : Int) = 0
    ·
     rw [if_pos c37] at H
     have n1 := beq_iff_eq.mpr c37; have n2 := bne_eq_false_iff_eq.mpr c37; clear c37; obtain ⟨i7, A38, H⟩ := bindA H; (try dsimp only at H); obtain rfl := Option.some.inj H
     go_enter Try.func3, Try.ntmps3
     go_wp2_with (first | (go_at_call 8; (with_reducible refine (spec_DrawFormPut.calls k _ _ l0 a9 b0 a6 _ ?side1 ?side2 A3.out).mono ?_); (case side1 => repeat (first | exact HR0.out | (with_reducible refine yag ?_ _) | (with_reducible refine yah ?_ _) | (with_reducible refine yak ?_))); (case side2 => exact HC0.out); rintro e w39 ⟨i8, rfl, ho0, hb⟩; have a2 := yaa (Kd.Q_lower ho0 (yan (upH HB.out))); replace HB := yaa (yaj (upH HB.out) hb); (try clear hb ho0)) | ((with_reducible refine gd_ 3 rfl ?_); refine bx_ 3 rfl #[.int .i64 0, .int .i64 0, .slice none 0 0] 25 ?_; intro a8 hg w40 hbox hb; replace a2 := yaa (yam (upQ a2.out) hb); have a1 := yaa (hbox); have b9 := yaa ((by rw [hg]; exact (yan (upH HB.out)) : w.heap.size ≤ a8)); replace HB := yaa (yaj (upH HB.out) hb); have f8 := b9; clear hb hbox hg; obtain ⟨g2, g3, g4⟩ := cc3_ a1.out; obtain ⟨g5, g6, g7⟩ := cf3_ a1.out; obtain ⟨f9, g0, j9, _⟩ := Kd.Q_slice a2.out; subst j9) | ((with_reducible refine gd_ 12 rfl ?_); refine Kd.R_lit (Kd.int .u8) _ 5 ?hg (N := 12) ?hd (xs := ([] : List Int)) (inner := []) (ok := fun _ => True) (okp := fun _ => True) ?hr ?hp (fun _ hk => hk) trivial (Below.refl _ _) (Nat.le_refl _) (by simp) ?_; (case hd => rfl); (case hg => rfl); (case hr => first | (go_simp; done) | (go_simp; rfl)); (case hp => exact (Reps.none _ _)); intro j0 w43 c4 hb hg_ hnew_; clear hg_ hnew_; (first | rw [← Ny107.out] at c4 | (simp only [Int.reduceToNat] at c4; rw [← Ny107.out] at c4)); replace a2 := yaa (yam (by (with_reducible repeat (first | apply Kd.Q_alloc | apply Kd.Q_drewN | apply Kd.Q_drew)); exact (Kd.Q_mono (Kd.Q_far (p := ⟨a8, 2, none⟩) (Kd.Q_far (p := ⟨a8, 1, none⟩) (Kd.Q_far (p := ⟨a8, 0, none⟩) (Kd.Q_types a2.out a1.out (by decide)) (fun _ hk => hk.2) (.int .i64 a9)) (fun _ hk => hk.2) (.int .i64 b0)) (fun _ hk => hk.2) (.slice f9 a6.length g0)) (fun _ h_ => h_.1))) hb); have a3 := yaa (yas c4 (yan (by repeat (with_reducible first | exact HB.out | apply yac | apply yab | apply yad | refine yaf ?_ (Aside0.out ‹_›))))); replace a1 := yaa (yar (g := a8) (o := .cells #[.int .i64 a9, .int .i64 b0, .slice f9 a6.length g0] 25 (0, 0)) (by (repeat refine oneB ?_); refine blk_put (cs := #[.int .i64 a9, .int .i64 b0, .slice none 0 0]) ?_ 2 _ rfl; refine blk_put (cs := #[.int .i64 a9, .int .i64 0, .slice none 0 0]) ?_ 1 _ rfl; refine blk_put (cs := #[.int .i64 0, .int .i64 0, .slice none 0 0]) ?_ 0 _ rfl; exact upB a1.out) hb); replace HB := yaa (yaj (by repeat (with_reducible first | exact HB.out | apply yac | apply yab | apply yad | refine yaf ?_ (Aside0.out ‹_›))) hb); clear hb c4; obtain ⟨g8, g9, h0⟩ := cc3_ a1.out; obtain ⟨h2, h3, h4⟩ := cf3_ a1.out; obtain ⟨n3, n4, k0⟩ := yat a3.out; subst k0) | (go_at_call 9; (with_reducible refine (impl_FormWrite.calls k 82 _ _ y107 a9 b0 _ _ a6 b4 _ ?side1 ?side2 ?side3 ?side4 A4.out).mono ?_); (case side1 => repeat (first | exact (yae a3.out).2.2 | (with_reducible refine yag ?_ _) | (with_reducible refine yah ?_ _) | (with_reducible refine yak ?_))); (case side2 => exact (yae a3.out).2.1); (case side3 => repeat (first | exact (yai a2.out).2.2 | (with_reducible refine yag ?_ _) | (with_reducible refine yah ?_ _) | (with_reducible refine yak ?_))); (case side4 => exact (yai a2.out).2.1); rintro e w47 ⟨j2, rfl, ho0, hb⟩; replace a2 := yaa (yam (upQ a2.out) hb); have a4 := yaa (yas (yap ho0 (yau (upR a3.out))) (yan (by repeat (with_reducible first | exact HB.out | apply yac | apply yab | apply yad | refine yaf ?_ (Aside0.out ‹_›))))); replace a3 := yaa (yal (upR a3.out) (yaq ho0) hb); replace a1 := yaa (yar (upB a1.out) hb); replace HB := yaa (yaj (by repeat (with_reducible first | exact HB.out | apply yac | apply yab | apply yad | refine yaf ?_ (Aside0.out ‹_›))) hb); (try clear hb ho0)) | ((with_reducible refine gd_ 16 rfl ?_); refine Kd.R_lit (Kd.int .u8) _ 5 ?hg (N := 16) ?hd (xs := ([] : List Int)) (inner := []) (ok := fun _ => True) (okp := fun _ => True) ?hr ?hp (fun _ hk => hk) trivial (Below.refl _ _) (Nat.le_refl _) (by simp) ?_; (case hd => rfl); (case hg => rfl); (case hr => first | (go_simp; done) | (go_simp; rfl)); (case hp => exact (Reps.none _ _)); intro j3 w48 b6 hb hg_ hnew_; clear hg_ hnew_; (first | rw [← Ny113.out] at b6 | (simp only [Int.reduceToNat] at b6; rw [← Ny113.out] at b6)); replace a2 := yaa (yam (upQ a2.out) hb); have a5 := yaa (yas (yap (yap b6 (yau (upR a3.out))) (yau (upR a4.out))) (yan (by repeat (with_reducible first | exact HB.out | apply yac | apply yab | apply yad | refine yaf ?_ (Aside0.out ‹_›))))); replace a3 := yaa (yal (upR a3.out) (yaq b6) hb); replace a4 := yaa (yal (upR a4.out) (yaq b6) hb); replace a1 := yaa (yar (upB a1.out) hb); replace HB := yaa (yaj (by repeat (with_reducible first | exact HB.out | apply yac | apply yab | apply yad | refine yaf ?_ (Aside0.out ‹_›))) hb); clear hb b6; obtain ⟨h5, h6, h7⟩ := cc3_ a1.out; obtain ⟨h8, h9, i0⟩ := cf3_ a1.out; obtain ⟨n5, n6, k2⟩ := yat a5.out; subst k2) | (go_at_call 11; (with_reducible refine (spec_FormWrite.calls k 82 _ _ y113 a9 b0 _ _ a6 c5 _ ?side1 ?side2 ?side3 ?side4 A5.out).mono ?_); (case side1 => repeat (first | exact (yae a5.out).2.2 | (with_reducible refine yag ?_ _) | (with_reducible refine yah ?_ _) | (with_reducible refine yak ?_))); (case side2 => exact (yae a5.out).2.1); (case side3 => repeat (first | exact (yai a2.out).2.2 | (with_reducible refine yag ?_ _) | (with_reducible refine yah ?_ _) | (with_reducible refine yak ?_))); (case side4 => exact (yai a2.out).2.1); rintro e w52 ⟨j5, rfl, ho0, hb⟩; replace a2 := yaa (yam (upQ a2.out) hb); have a7 := yaa (yas (yap (yap (yap ho0 (yau (upR a3.out))) (yau (upR a4.out))) (yau (upR a5.out))) (yan (by repeat (with_reducible first | exact HB.out | apply yac | apply yab | apply yad | refine yaf ?_ (Aside0.out ‹_›))))); replace a3 := yaa (yal (upR a3.out) (yaq ho0) hb); replace a4 := yaa (yal (upR a4.out) (yaq ho0) hb); replace a5 := yaa (yal (upR a5.out) (yaq ho0) hb); replace a1 := yaa (yar (upB a1.out) hb); replace HB := yaa (yaj (by repeat (with_reducible first | exact HB.out | apply yac | apply yab | apply yad | refine yaf ?_ (Aside0.out ‹_›))) hb); (try clear hb ho0); obtain ⟨n7, n8, k3⟩ := yat a4.out; subst k3; obtain ⟨n9, o0, k4⟩ := yat a7.out; subst k4) | (go_at_call 10; (with_reducible refine (laws_eaBytes.calls _ _ b4 _ _ c5 true _ ?side1 ?side2 ?side3 ?side4 A6.out).mono ?_); (case side1 => repeat (first | exact (yae a4.out).2.2 | (with_reducible refine yag ?_ _) | (with_reducible refine yah ?_ _) | (with_reducible refine yak ?_))); (case side2 => exact (yae a4.out).2.1); (case side3 => repeat (first | exact (yae a7.out).2.2 | (with_reducible refine yag ?_ _) | (with_reducible refine yah ?_ _) | (with_reducible refine yak ?_))); (case side4 => exact (yae a7.out).2.1); rintro e w' ⟨rfl, ⟨nd, rfl⟩⟩; (try first | exact ⟨rfl, _, World.drewN_drewN _ _ _⟩ | exact ⟨rfl, _, Eq.trans (World.drewN_drewN _ _ _) (congrArg (World.drewN _) (Nat.add_assoc _ _ _))⟩); obtain ⟨i1, i2, i3⟩ := cc3_ a1.out; obtain ⟨i4, i5⟩ := cf2_ a1.out; have i6 := blk_frozen a1.out 2) | (go_at_call 12; (with_reducible refine (spec_RasOk.calls k a9 b0 _ _ a6 false _ ?side1 ?side2 A8.out).mono ?_); (case side1 => repeat (first | exact (yai a2.out).2.2 | (with_reducible refine yag ?_ _) | (with_reducible refine yah ?_ _) | (with_reducible refine yak ?_))); (case side2 => exact (yai a2.out).2.1); rintro e w56 ⟨rfl, hb⟩; replace a2 := yaa (yam (upQ a2.out) hb); replace a3 := yaa (yao (upR a3.out) hb); replace a4 := yaa (yao (upR a4.out) hb); replace a5 := yaa (yao (upR a5.out) hb); replace a7 := yaa (yao (upR a7.out) hb); replace a1 := yaa (yar (upB a1.out) hb); replace HB := yaa (yaj (by repeat (with_reducible first | exact HB.out | apply yac | apply yab | apply yad | refine yaf ?_ (Aside0.out ‹_›))) hb); (try clear hb)) | (go_at_call 13; (with_reducible refine (laws_eaOk.calls  i7 _ A38.out).mono ?_); rintro e w57 ⟨rfl, hb⟩; replace a2 := yaa (yam (upQ a2.out) hb); replace a3 := yaa (yao (upR a3.out) hb); replace a4 := yaa (yao (upR a4.out) hb); replace a5 := yaa (yao (upR a5.out) hb); replace a7 := yaa (yao (upR a7.out) hb); replace a1 := yaa (yar (upB a1.out) hb); replace HB := yaa (yaj (by repeat (with_reducible first | exact HB.out | apply yac | apply yab | apply yad | refine yaf ?_ (Aside0.out ‹_›))) hb); (try clear hb)))
     repeat (go_quiet (first | (go_at_call 8; (with_reducible refine (spec_DrawFormPut.calls k _ _ l0 a9 b0 a6 _ ?side1 ?side2 A3.out).mono ?_); (case side1 => repeat (first | exact HR0.out | (with_reducible refine yag ?_ _) | (with_reducible refine yah ?_ _) | (with_reducible refine yak ?_))); (case side2 => exact HC0.out); rintro e w39 ⟨i8, rfl, ho0, hb⟩; have a2 := yaa (Kd.Q_lower ho0 (yan (upH HB.out))); replace HB := yaa (yaj (upH HB.out) hb); (try clear hb ho0)) | ((with_reducible refine gd_ 3 rfl ?_); refine bx_ 3 rfl #[.int .i64 0, .int .i64 0, .slice none 0 0] 25 ?_; intro a8 hg w40 hbox hb; replace a2 := yaa (yam (upQ a2.out) hb); have a1 := yaa (hbox); have b9 := yaa ((by rw [hg]; exact (yan (upH HB.out)) : w.heap.size ≤ a8)); replace HB := yaa (yaj (upH HB.out) hb); have f8 := b9; clear hb hbox hg; obtain ⟨g2, g3, g4⟩ := cc3_ a1.out; obtain ⟨g5, g6, g7⟩ := cf3_ a1.out; obtain ⟨f9, g0, j9, _⟩ := Kd.Q_slice a2.out; subst j9) | ((with_reducible refine gd_ 12 rfl ?_); refine Kd.R_lit (Kd.int .u8) _ 5 ?hg (N := 12) ?hd (xs := ([] : List Int)) (inner := []) (ok := fun _ => True) (okp := fun _ => True) ?hr ?hp (fun _ hk => hk) trivial (Below.refl _ _) (Nat.le_refl _) (by simp) ?_; (case hd => rfl); (case hg => rfl); (case hr => first | (go_simp; done) | (go_simp; rfl)); (case hp => exact (Reps.none _ _)); intro j0 w43 c4 hb hg_ hnew_; clear hg_ hnew_; (first | rw [← Ny107.out] at c4 | (simp only [Int.reduceToNat] at c4; rw [← Ny107.out] at c4)); replace a2 := yaa (yam (by (with_reducible repeat (first | apply Kd.Q_alloc | apply Kd.Q_drewN | apply Kd.Q_drew)); exact (Kd.Q_mono (Kd.Q_far (p := ⟨a8, 2, none⟩) (Kd.Q_far (p := ⟨a8, 1, none⟩) (Kd.Q_far (p := ⟨a8, 0, none⟩) (Kd.Q_types a2.out a1.out (by decide)) (fun _ hk => hk.2) (.int .i64 a9)) (fun _ hk => hk.2) (.int .i64 b0)) (fun _ hk => hk.2) (.slice f9 a6.length g0)) (fun _ h_ => h_.1))) hb); have a3 := yaa (yas c4 (yan (by repeat (with_reducible first | exact HB.out | apply yac | apply yab | apply yad | refine yaf ?_ (Aside0.out ‹_›))))); replace a1 := yaa (yar (g := a8) (o := .cells #[.int .i64 a9, .int .i64 b0, .slice f9 a6.length g0] 25 (0, 0)) (by (repeat refine oneB ?_); refine blk_put (cs := #[.int .i64 a9, .int .i64 b0, .slice none 0 0]) ?_ 2 _ rfl; refine blk_put (cs := #[.int .i64 a9, .int .i64 0, .slice none 0 0]) ?_ 1 _ rfl; refine blk_put (cs := #[.int .i64 0, .int .i64 0, .slice none 0 0]) ?_ 0 _ rfl; exact upB a1.out) hb); replace HB := yaa (yaj (by repeat (with_reducible first | exact HB.out | apply yac | apply yab | apply yad | refine yaf ?_ (Aside0.out ‹_›))) hb); clear hb c4; obtain ⟨g8, g9, h0⟩ := cc3_ a1.out; obtain ⟨h2, h3, h4⟩ := cf3_ a1.out; obtain ⟨n3, n4, k0⟩ := yat a3.out; subst k0) | (go_at_call 9; (with_reducible refine (impl_FormWrite.calls k 82 _ _ y107 a9 b0 _ _ a6 b4 _ ?side1 ?side2 ?side3 ?side4 A4.out).mono ?_); (case side1 => repeat (first | exact (yae a3.out).2.2 | (with_reducible refine yag ?_ _) | (with_reducible refine yah ?_ _) | (with_reducible refine yak ?_))); (case side2 => exact (yae a3.out).2.1); (case side3 => repeat (first | exact (yai a2.out).2.2 | (with_reducible refine yag ?_ _) | (with_reducible refine yah ?_ _) | (with_reducible refine yak ?_))); (case side4 => exact (yai a2.out).2.1); rintro e w47 ⟨j2, rfl, ho0, hb⟩; replace a2 := yaa (yam (upQ a2.out) hb); have a4 := yaa (yas (yap ho0 (yau (upR a3.out))) (yan (by repeat (with_reducible first | exact HB.out | apply yac | apply yab | apply yad | refine yaf ?_ (Aside0.out ‹_›))))); replace a3 := yaa (yal (upR a3.out) (yaq ho0) hb); replace a1 := yaa (yar (upB a1.out) hb); replace HB := yaa (yaj (by repeat (with_reducible first | exact HB.out | apply yac | apply yab | apply yad | refine yaf ?_ (Aside0.out ‹_›))) hb); (try clear hb ho0)) | ((with_reducible refine gd_ 16 rfl ?_); refine Kd.R_lit (Kd.int .u8) _ 5 ?hg (N := 16) ?hd (xs := ([] : List Int)) (inner := []) (ok := fun _ => True) (okp := fun _ => True) ?hr ?hp (fun _ hk => hk) trivial (Below.refl _ _) (Nat.le_refl _) (by simp) ?_; (case hd => rfl); (case hg => rfl); (case hr => first | (go_simp; done) | (go_simp; rfl)); (case hp => exact (Reps.none _ _)); intro j3 w48 b6 hb hg_ hnew_; clear hg_ hnew_; (first | rw [← Ny113.out] at b6 | (simp only [Int.reduceToNat] at b6; rw [← Ny113.out] at b6)); replace a2 := yaa (yam (upQ a2.out) hb); have a5 := yaa (yas (yap (yap b6 (yau (upR a3.out))) (yau (upR a4.out))) (yan (by repeat (with_reducible first | exact HB.out | apply yac | apply yab | apply yad | refine yaf ?_ (Aside0.out ‹_›))))); replace a3 := yaa (yal (upR a3.out) (yaq b6) hb); replace a4 := yaa (yal (upR a4.out) (yaq b6) hb); replace a1 := yaa (yar (upB a1.out) hb); replace HB := yaa (yaj (by repeat (with_reducible first | exact HB.out | apply yac | apply yab | apply yad | refine yaf ?_ (Aside0.out ‹_›))) hb); clear hb b6; obtain ⟨h5, h6, h7⟩ := cc3_ a1.out; obtain ⟨h8, h9, i0⟩ := cf3_ a1.out; obtain ⟨n5, n6, k2⟩ := yat a5.out; subst k2) | (go_at_call 11; (with_reducible refine (spec_FormWrite.calls k 82 _ _ y113 a9 b0 _ _ a6 c5 _ ?side1 ?side2 ?side3 ?side4 A5.out).mono ?_); (case side1 => repeat (first | exact (yae a5.out).2.2 | (with_reducible refine yag ?_ _) | (with_reducible refine yah ?_ _) | (with_reducible refine yak ?_))); (case side2 => exact (yae a5.out).2.1); (case side3 => repeat (first | exact (yai a2.out).2.2 | (with_reducible refine yag ?_ _) | (with_reducible refine yah ?_ _) | (with_reducible refine yak ?_))); (case side4 => exact (yai a2.out).2.1); rintro e w52 ⟨j5, rfl, ho0, hb⟩; replace a2 := yaa (yam (upQ a2.out) hb); have a7 := yaa (yas (yap (yap (yap ho0 (yau (upR a3.out))) (yau (upR a4.out))) (yau (upR a5.out))) (yan (by repeat (with_reducible first | exact HB.out | apply yac | apply yab | apply yad | refine yaf ?_ (Aside0.out ‹_›))))); replace a3 := yaa (yal (upR a3.out) (yaq ho0) hb); replace a4 := yaa (yal (upR a4.out) (yaq ho0) hb); replace a5 := yaa (yal (upR a5.out) (yaq ho0) hb); replace a1 := yaa (yar (upB a1.out) hb); replace HB := yaa (yaj (by repeat (with_reducible first | exact HB.out | apply yac | apply yab | apply yad | refine yaf ?_ (Aside0.out ‹_›))) hb); (try clear hb ho0); obtain ⟨n7, n8, k3⟩ := yat a4.out; subst k3; obtain ⟨n9, o0, k4⟩ := yat a7.out; subst k4) | (go_at_call 10; (with_reducible refine (laws_eaBytes.calls _ _ b4 _ _ c5 true _ ?side1 ?side2 ?side3 ?side4 A6.out).mono ?_); (case side1 => repeat (first | exact (yae a4.out).2.2 | (with_reducible refine yag ?_ _) | (with_reducible refine yah ?_ _) | (with_reducible refine yak ?_))); (case side2 => exact (yae a4.out).2.1); (case side3 => repeat (first | exact (yae a7.out).2.2 | (with_reducible refine yag ?_ _) | (with_reducible refine yah ?_ _) | (with_reducible refine yak ?_))); (case side4 => exact (yae a7.out).2.1); rintro e w' ⟨rfl, ⟨nd, rfl⟩⟩; (try first | exact ⟨rfl, _, World.drewN_drewN _ _ _⟩ | exact ⟨rfl, _, Eq.trans (World.drewN_drewN _ _ _) (congrArg (World.drewN _) (Nat.add_assoc _ _ _))⟩); obtain ⟨i1, i2, i3⟩ := cc3_ a1.out; obtain ⟨i4, i5⟩ := cf2_ a1.out; have i6 := blk_frozen a1.out 2) | (go_at_call 12; (with_reducible refine (spec_RasOk.calls k a9 b0 _ _ a6 false _ ?side1 ?side2 A8.out).mono ?_); (case side1 => repeat (first | exact (yai a2.out).2.2 | (with_reducible refine yag ?_ _) | (with_reducible refine yah ?_ _) | (with_reducible refine yak ?_))); (case side2 => exact (yai a2.out).2.1); rintro e w56 ⟨rfl, hb⟩; replace a2 := yaa (yam (upQ a2.out) hb); replace a3 := yaa (yao (upR a3.out) hb); replace a4 := yaa (yao (upR a4.out) hb); replace a5 := yaa (yao (upR a5.out) hb); replace a7 := yaa (yao (upR a7.out) hb); replace a1 := yaa (yar (upB a1.out) hb); replace HB := yaa (yaj (by repeat (with_reducible first | exact HB.out | apply yac | apply yab | apply yad | refine yaf ?_ (Aside0.out ‹_›))) hb); (try clear hb)) | (go_at_call 13; (with_reducible refine (laws_eaOk.calls  i7 _ A38.out).mono ?_); rintro e w57 ⟨rfl, hb⟩; replace a2 := yaa (yam (upQ a2.out) hb); replace a3 := yaa (yao (upR a3.out) hb); replace a4 := yaa (yao (upR a4.out) hb); replace a5 := yaa (yao (upR a5.out) hb); replace a7 := yaa (yao (upR a7.out) hb); replace a1 := yaa (yar (upB a1.out) hb); replace HB := yaa (yaj (by repeat (with_reducible first | exact HB.out | apply yac | apply yab | apply yad | refine yaf ?_ (Aside0.out ‹_›))) hb); (try clear hb))); try go_wp2_with (first | (go_at_call 8; (with_reducible refine (spec_DrawFormPut.calls k _ _ l0 a9 b0 a6 _ ?side1 ?side2 A3.out).mono ?_); (case side1 => repeat (first | exact HR0.out | (with_reducible refine yag ?_ _) | (with_reducible refine yah ?_ _) | (with_reducible refine yak ?_))); (case side2 => exact HC0.out); rintro e w39 ⟨i8, rfl, ho0, hb⟩; have a2 := yaa (Kd.Q_lower ho0 (yan (upH HB.out))); replace HB := yaa (yaj (upH HB.out) hb); (try clear hb ho0)) | ((with_reducible refine gd_ 3 rfl ?_); refine bx_ 3 rfl #[.int .i64 0, .int .i64 0, .slice none 0 0] 25 ?_; intro a8 hg w40 hbox hb; replace a2 := yaa (yam (upQ a2.out) hb); have a1 := yaa (hbox); have b9 := yaa ((by rw [hg]; exact (yan (upH HB.out)) : w.heap.size ≤ a8)); replace HB := yaa (yaj (upH HB.out) hb); have f8 := b9; clear hb hbox hg; obtain ⟨g2, g3, g4⟩ := cc3_ a1.out; obtain ⟨g5, g6, g7⟩ := cf3_ a1.out; obtain ⟨f9, g0, j9, _⟩ := Kd.Q_slice a2.out; subst j9) | ((with_reducible refine gd_ 12 rfl ?_); refine Kd.R_lit (Kd.int .u8) _ 5 ?hg (N := 12) ?hd (xs := ([] : List Int)) (inner := []) (ok := fun _ => True) (okp := fun _ => True) ?hr ?hp (fun _ hk => hk) trivial (Below.refl _ _) (Nat.le_refl _) (by simp) ?_; (case hd => rfl); (case hg => rfl); (case hr => first | (go_simp; done) | (go_simp; rfl)); (case hp => exact (Reps.none _ _)); intro j0 w43 c4 hb hg_ hnew_; clear hg_ hnew_; (first | rw [← Ny107.out] at c4 | (simp only [Int.reduceToNat] at c4; rw [← Ny107.out] at c4)); replace a2 := yaa (yam (by (with_reducible repeat (first | apply Kd.Q_alloc | apply Kd.Q_drewN | apply Kd.Q_drew)); exact (Kd.Q_mono (Kd.Q_far (p := ⟨a8, 2, none⟩) (Kd.Q_far (p := ⟨a8, 1, none⟩) (Kd.Q_far (p := ⟨a8, 0, none⟩) (Kd.Q_types a2.out a1.out (by decide)) (fun _ hk => hk.2) (.int .i64 a9)) (fun _ hk => hk.2) (.int .i64 b0)) (fun _ hk => hk.2) (.slice f9 a6.length g0)) (fun _ h_ => h_.1))) hb); have a3 := yaa (yas c4 (yan (by repeat (with_reducible first | exact HB.out | apply yac | apply yab | apply yad | refine yaf ?_ (Aside0.out ‹_›))))); replace a1 := yaa (yar (g := a8) (o := .cells #[.int .i64 a9, .int .i64 b0, .slice f9 a6.length g0] 25 (0, 0)) (by (repeat refine oneB ?_); refine blk_put (cs := #[.int .i64 a9, .int .i64 b0, .slice none 0 0]) ?_ 2 _ rfl; refine blk_put (cs := #[.int .i64 a9, .int .i64 0, .slice none 0 0]) ?_ 1 _ rfl; refine blk_put (cs := #[.int .i64 0, .int .i64 0, .slice none 0 0]) ?_ 0 _ rfl; exact upB a1.out) hb); replace HB := yaa (yaj (by repeat (with_reducible first | exact HB.out | apply yac | apply yab | apply yad | refine yaf ?_ (Aside0.out ‹_›))) hb); clear hb c4; obtain ⟨g8, g9, h0⟩ := cc3_ a1.out; obtain ⟨h2, h3, h4⟩ := cf3_ a1.out; obtain ⟨n3, n4, k0⟩ := yat a3.out; subst k0) | (go_at_call 9; (with_reducible refine (impl_FormWrite.calls k 82 _ _ y107 a9 b0 _ _ a6 b4 _ ?side1 ?side2 ?side3 ?side4 A4.out).mono ?_); (case side1 => repeat (first | exact (yae a3.out).2.2 | (with_reducible refine yag ?_ _) | (with_reducible refine yah ?_ _) | (with_reducible refine yak ?_))); (case side2 => exact (yae a3.out).2.1); (case side3 => repeat (first | exact (yai a2.out).2.2 | (with_reducible refine yag ?_ _) | (with_reducible refine yah ?_ _) | (with_reducible refine yak ?_))); (case side4 => exact (yai a2.out).2.1); rintro e w47 ⟨j2, rfl, ho0, hb⟩; replace a2 := yaa (yam (upQ a2.out) hb); have a4 := yaa (yas (yap ho0 (yau (upR a3.out))) (yan (by repeat (with_reducible first | exact HB.out | apply yac | apply yab | apply yad | refine yaf ?_ (Aside0.out ‹_›))))); replace a3 := yaa (yal (upR a3.out) (yaq ho0) hb); replace a1 := yaa (yar (upB a1.out) hb); replace HB := yaa (yaj (by repeat (with_reducible first | exact HB.out | apply yac | apply yab | apply yad | refine yaf ?_ (Aside0.out ‹_›))) hb); (try clear hb ho0)) | ((with_reducible refine gd_ 16 rfl ?_); refine Kd.R_lit (Kd.int .u8) _ 5 ?hg (N := 16) ?hd (xs := ([] : List Int)) (inner := []) (ok := fun _ => True) (okp := fun _ => True) ?hr ?hp (fun _ hk => hk) trivial (Below.refl _ _) (Nat.le_refl _) (by simp) ?_; (case hd => rfl); (case hg => rfl); (case hr => first | (go_simp; done) | (go_simp; rfl)); (case hp => exact (Reps.none _ _)); intro j3 w48 b6 hb hg_ hnew_; clear hg_ hnew_; (first | rw [← Ny113.out] at b6 | (simp only [Int.reduceToNat] at b6; rw [← Ny113.out] at b6)); replace a2 := yaa (yam (upQ a2.out) hb); have a5 := yaa (yas (yap (yap b6 (yau (upR a3.out))) (yau (upR a4.out))) (yan (by repeat (with_reducible first | exact HB.out | apply yac | apply yab | apply yad | refine yaf ?_ (Aside0.out ‹_›))))); replace a3 := yaa (yal (upR a3.out) (yaq b6) hb); replace a4 := yaa (yal (upR a4.out) (yaq b6) hb); replace a1 := yaa (yar (upB a1.out) hb); replace HB := yaa (yaj (by repeat (with_reducible first | exact HB.out | apply yac | apply yab | apply yad | refine yaf ?_ (Aside0.out ‹_›))) hb); clear hb b6; obtain ⟨h5, h6, h7⟩ := cc3_ a1.out; obtain ⟨h8, h9, i0⟩ := cf3_ a1.out; obtain ⟨n5, n6, k2⟩ := yat a5.out; subst k2) | (go_at_call 11; (with_reducible refine (spec_FormWrite.calls k 82 _ _ y113 a9 b0 _ _ a6 c5 _ ?side1 ?side2 ?side3 ?side4 A5.out).mono ?_); (case side1 => repeat (first | exact (yae a5.out).2.2 | (with_reducible refine yag ?_ _) | (with_reducible refine yah ?_ _) | (with_reducible refine yak ?_))); (case side2 => exact (yae a5.out).2.1); (case side3 => repeat (first | exact (yai a2.out).2.2 | (with_reducible refine yag ?_ _) | (with_reducible refine yah ?_ _) | (with_reducible refine yak ?_))); (case side4 => exact (yai a2.out).2.1); rintro e w52 ⟨j5, rfl, ho0, hb⟩; replace a2 := yaa (yam (upQ a2.out) hb); have a7 := yaa (yas (yap (yap (yap ho0 (yau (upR a3.out))) (yau (upR a4.out))) (yau (upR a5.out))) (yan (by repeat (with_reducible first | exact HB.out | apply yac | apply yab | apply yad | refine yaf ?_ (Aside0.out ‹_›))))); replace a3 := yaa (yal (upR a3.out) (yaq ho0) hb); replace a4 := yaa (yal (upR a4.out) (yaq ho0) hb); replace a5 := yaa (yal (upR a5.out) (yaq ho0) hb); replace a1 := yaa (yar (upB a1.out) hb); replace HB := yaa (yaj (by repeat (with_reducible first | exact HB.out | apply yac | apply yab | apply yad | refine yaf ?_ (Aside0.out ‹_›))) hb); (try clear hb ho0); obtain ⟨n7, n8, k3⟩ := yat a4.out; subst k3; obtain ⟨n9, o0, k4⟩ := yat a7.out; subst k4) | (go_at_call 10; (with_reducible refine (laws_eaBytes.calls _ _ b4 _ _ c5 true _ ?side1 ?side2 ?side3 ?side4 A6.out).mono ?_); (case side1 => repeat (first | exact (yae a4.out).2.2 | (with_reducible refine yag ?_ _) | (with_reducible refine yah ?_ _) | (with_reducible refine yak ?_))); (case side2 => exact (yae a4.out).2.1); (case side3 => repeat (first | exact (yae a7.out).2.2 | (with_reducible refine yag ?_ _) | (with_reducible refine yah ?_ _) | (with_reducible refine yak ?_))); (case side4 => exact (yae a7.out).2.1); rintro e w' ⟨rfl, ⟨nd, rfl⟩⟩; (try first | exact ⟨rfl, _, World.drewN_drewN _ _ _⟩ | exact ⟨rfl, _, Eq.trans (World.drewN_drewN _ _ _) (congrArg (World.drewN _) (Nat.add_assoc _ _ _))⟩); obtain ⟨i1, i2, i3⟩ := cc3_ a1.out; obtain ⟨i4, i5⟩ := cf2_ a1.out; have i6 := blk_frozen a1.out 2) | (go_at_call 12; (with_reducible refine (spec_RasOk.calls k a9 b0 _ _ a6 false _ ?side1 ?side2 A8.out).mono ?_); (case side1 => repeat (first | exact (yai a2.out).2.2 | (with_reducible refine yag ?_ _) | (with_reducible refine yah ?_ _) | (with_reducible refine yak ?_))); (case side2 => exact (yai a2.out).2.1); rintro e w56 ⟨rfl, hb⟩; replace a2 := yaa (yam (upQ a2.out) hb); replace a3 := yaa (yao (upR a3.out) hb); replace a4 := yaa (yao (upR a4.out) hb); replace a5 := yaa (yao (upR a5.out) hb); replace a7 := yaa (yao (upR a7.out) hb); replace a1 := yaa (yar (upB a1.out) hb); replace HB := yaa (yaj (by repeat (with_reducible first | exact HB.out | apply yac | apply yab | apply yad | refine yaf ?_ (Aside0.out ‹_›))) hb); (try clear hb)) | (go_at_call 13; (with_reducible refine (laws_eaOk.calls  i7 _ A38.out).mono ?_); rintro e w57 ⟨rfl, hb⟩; replace a2 := yaa (yam (upQ a2.out) hb); replace a3 := yaa (yao (upR a3.out) hb); replace a4 := yaa (yao (upR a4.out) hb); replace a5 := yaa (yao (upR a5.out) hb); replace a7 := yaa (yao (upR a7.out) hb); replace a1 := yaa (yar (upB a1.out) hb); replace HB := yaa (yaj (by repeat (with_reducible first | exact HB.out | apply yac | apply yab | apply yad | refine yaf ?_ (Aside0.out ‹_›))) hb); (try clear hb))))
     go_ret
     exact ⟨by first | rfl | (simp [*, errW_none, errW_some] <;> rfl), by repeat (with_reducible first | exact HB.out | apply yac | apply yab | apply yad | refine yaf ?_ (Aside0.out ‹_›))⟩
    ·
     rw [if_neg c37] at H
     have n1 := beq_eq_false_iff_ne.mpr c37; have n2 := bne_iff_ne.mpr c37; have q0 : ¬ (b4 = []) := fun h_ => c37 (by rw [h_]; rfl)
     rw [hrt] at H
     exact absurd H (by simp)
  ·
   replace c7 := Bool.eq_false_iff.mpr c7
   subst c7
   rw [if_neg (show ¬ (false = true) by decide)] at H
   rw [hrt] at H
   exact absurd H (by simp)

/-- THE ONE PURE STATEMENT of laws_FnFormRuns: yours. -/
def laws_FnFormRuns.Pure : Prop := ∀ (l0 : List Int), l0.length ≤ maxLen → l0.length * 1 ≤ 140737488351232 → (∀ x ∈ l0, (Lit.int .u8 x).wf = true) → ∃ k, laws_FnFormRuns.f k l0 = some true
theorem laws_FnFormRuns.walk (P : laws_FnFormRuns.Pure) (a0 : Option Addr) (len0 cap0 : Nat) (z0 : List Int) (w : World) (w0 : (a0 = none ∧ len0 = 0 ∧ cap0 = 0 ∧ z0 = []) ∨ ∃ x, a0 = some x ∧ len0 ≤ cap0 ∧ cap0 ≤ maxLen ∧ z0.length = cap0 ∧ (∀ i, i < z0.length → w.cell? (x.add i) = some (.int .u8 (z0.getD i 0))) ∧ ∀ n ∈ z0, (Lit.int .u8 n).wf = true) (y0 : len0 * 1 ≤ 140737488351232) :
  Calls Try.prog 3 #[.slice a0 len0 cap0] w fun e w' => e = .returned (.bool true) ∧ Below w.heap.size w w' := by
 obtain ⟨l0, rfl, hr0, hm0, hw0, hc0⟩ := ReadsInt.ofRowC w0; obtain ⟨k, h⟩ := P l0 hm0 y0 hw0
 refine (laws_FnFormRuns.calls k _ _ l0 true w (Kd.C_of_reads (d := (0 : Int)) (h1 := fun _ => rfl) hr0) hc0 h rfl).mono ?_
 rintro e w' ⟨rfl, hd⟩
 exact ⟨rfl, hd⟩
end
end Go.Proofs.Ytdojnbghacabhaa.X
namespace Go.Proofs.Ytdojnbghacabhaa.Pl
open Go.RowKit Go.Proofs.YtdojnbghacabhaaW.PrintWords

theorem wrap_id {x : Int} (h0 : -9223372036854775808 ≤ x) (h1 : x ≤ 9223372036854775807) : wrap64 x = x := by
  unfold wrap64; omega
theorem wrap_succ {i : Nat} (h : i < 9223372036854775807) : wrap64 ((i : Int) + 1) = ((i + 1 : Nat) : Int) := by
  unfold wrap64; omega

/-- From a round on: with a round more. -/
theorem ev_succ {α : Type} {g : Nat → Option α} {r : α} (h : Ev (fun k => g (k + 1)) r) : Ev g r := by
  obtain ⟨K, h⟩ := h
  refine ⟨K + 1, fun n hn => ?_⟩
  obtain ⟨m, rfl⟩ : ∃ m, n = m + 1 := ⟨n - 1, by omega⟩
  exact h m (by omega)

theorem getD_mem {α : Type} (l : List α) (z : α) (i : Nat) (h : i < l.length) : l.getD i z ∈ l := by
  rw [List.getD_eq_getElem?_getD, List.getElem?_eq_getElem h]; exact List.getElem_mem h

/-- A loop that asks something at each place, and stops with a no. -/
theorem ev_allR (n : Nat) (p : Nat → Bool) (b : Bool) (g : Nat → Int → Option Bool)
    (hyes : ∀ i, i < n → p i = true → ∀ r, Ev (fun k => g k ((i + 1 : Nat) : Int)) r → Ev (fun k => g k (i : Int)) r)
    (hno : ∀ i, i < n → p i = false → Ev (fun k => g k (i : Int)) false)
    (hend : Ev (fun k => g k (n : Int)) b) : Ev (fun k => g k 0) ((List.range n).all p && b) := by
  have key : ∀ d i, i + d = n → Ev (fun k => g k (i : Int)) (((List.range' i d).all p) && b) := by
    intro d
    induction d with
    | zero => intro i hi; have : i = n := by omega
              subst this; simpa using hend
    | succ d ih =>
      intro i hi
      have := ih (i + 1) (by omega)
      rw [List.range'_succ, List.all_cons]
      cases hp : p i with
      | true => simpa using hyes i (by omega) hp _ this
      | false => simpa using hno i (by omega) hp
  have := key n 0 (by omega)
  rwa [← List.range_eq_range'] at this

/-- From a number of rounds on, through a step. -/
theorem Ev.at_ {α : Type} {g : Nat → Option α} {r : α} (h : Ev g r) : ∃ K, ∀ k, K ≤ k → g k = some r := h
theorem ev_const {α : Type} {x : Option α} {r : α} (h : x = some r) : Ev (fun _ => x) r := ⟨0, fun _ _ => h⟩

/-! ### What a told function comes to, from some number of rounds on -/
/-- It answers, and the answer is so. -/
def Tot {α : Type} (g : Nat → Option α) (post : α → Prop) : Prop := ∃ r, Ev g r ∧ post r
theorem Tot.ret {α : Type} {post : α → Prop} {r : α} (h : post r) : Tot (fun _ => some r) post := ⟨r, Ev.now r, h⟩
theorem Tot.mono {α : Type} {g : Nat → Option α} {P Q : α → Prop} (h : Tot g P) (hi : ∀ r, P r → Q r) : Tot g Q := by
  obtain ⟨r, h, hp⟩ := h
  exact ⟨r, h, hi r hp⟩
theorem Tot.bind {α β : Type} {g : Nat → Option α} {f : Nat → α → Option β} {P : α → Prop} {Q : β → Prop} (h : Tot g P) (hf : ∀ a, P a → Tot (fun k => f k a) Q) : Tot (fun k => (g k).bind (f k)) Q := by
  obtain ⟨a, h, hp⟩ := h
  obtain ⟨r, h2, hq⟩ := hf a hp
  exact ⟨r, Ev.bind h h2, hq⟩
theorem Tot.some_bind {α β : Type} {f : Nat → α → Option β} {Q : β → Prop} {a : α} (hf : Tot (fun k => f k a) Q) : Tot (fun k => (some a).bind (f k)) Q := hf
theorem Tot.ite {α : Type} {c : Prop} [Decidable c] {f g : Nat → Option α} {Q : α → Prop} (h1 : c → Tot f Q) (h2 : ¬ c → Tot g Q) : Tot (fun k => if c then f k else g k) Q := by
  by_cases h : c
  · simpa [h] using h1 h
  · simpa [h] using h2 h
theorem Tot.pos {α : Type} {c : Prop} [Decidable c] {f g : Nat → Option α} {Q : α → Prop} (h : c) (h1 : Tot f Q) : Tot (fun k => if c then f k else g k) Q := by simpa [h] using h1
theorem Tot.neg {α : Type} {c : Prop} [Decidable c] {f g : Nat → Option α} {Q : α → Prop} (h : ¬ c) (h1 : Tot g Q) : Tot (fun k => if c then f k else g k) Q := by simpa [h] using h1
theorem Tot.succ {α : Type} {g : Nat → Option α} {Q : α → Prop} (h : Tot (fun k => g (k + 1)) Q) : Tot g Q := by
  obtain ⟨r, h, hp⟩ := h
  exact ⟨r, ev_succ h, hp⟩
theorem Tot.of_ev {α : Type} {g : Nat → Option α} {r : α} (h : Ev g r) : Tot g (fun x => x = r) := ⟨r, h, rfl⟩
theorem Tot.of_eq {α : Type} {x : Option α} {r : α} (h : x = some r) : Tot (fun _ => x) (fun y => y = r) := ⟨r, ev_const h, rfl⟩
/-- A loop, or a call of itself: what is smaller comes to its answer. -/
theorem tot_ind {α σ : Type} (g : Nat → σ → Option α) (Inv : σ → Prop) (m : σ → Nat) (post : α → Prop)
    (h : ∀ s, Inv s → (∀ s', Inv s' → m s' < m s → Tot (fun k => g k s') post) → Tot (fun k => g k s) post) : ∀ s, Inv s → Tot (fun k => g k s) post := by
  have key : ∀ d s, m s < d → Inv s → Tot (fun k => g k s) post := by
    intro d
    induction d with
    | zero => intro s h; omega
    | succ d ih => intro s hd hs; exact h s hs (fun s' hs' hm => ih s' (by omega) hs')
  intro s hs
  exact key (m s + 1) s (by omega) hs
theorem Tot.rounds {g : Nat → Option Bool} (h : Tot g (fun b => b = true)) : ∃ k, g k = some true := by
  obtain ⟨r, h, rfl⟩ := h
  exact h.rounds

end Go.Proofs.Ytdojnbghacabhaa.Pl
namespace Go.Proofs.Ytdojnbghacabhaa.X
open Go.RowKit Go.Proofs.YtdojnbghacabhaaW.PrintWords Go.Proofs.Ytdojnbghacabhaa.Pl
set_option linter.unusedSimpArgs false

theorem bits_xor_nonneg (a b : Int) (ha : 0 ≤ a) (ha' : a < 4611686018427387904) (hb : 0 ≤ b) (hb' : b < 4611686018427387904) : 0 ≤ Go.bits .xor .i64 a b ∧ Go.bits .xor .i64 a b < 4611686018427387904 := by
  obtain ⟨m, rfl⟩ := Int.eq_ofNat_of_zero_le ha
  obtain ⟨n, rfl⟩ := Int.eq_ofNat_of_zero_le hb
  have h1 : m < 2 ^ 62 := by omega
  have h2 : n < 2 ^ 62 := by omega
  have hx : m ^^^ n < 2 ^ 62 := Nat.xor_lt_two_pow h1 h2
  have hm : m % 2 ^ 64 = m := Nat.mod_eq_of_lt (by omega)
  have hn : n % 2 ^ 64 = n := Nat.mod_eq_of_lt (by omega)
  have e : Go.bits .xor .i64 (m : Int) (n : Int) = ((m ^^^ n : Nat) : Int) := by
    have hb : (BitVec.ofNat 64 m ^^^ BitVec.ofNat 64 n).toNat = m ^^^ n := by rw [BitVec.toNat_xor, BitVec.toNat_ofNat, BitVec.toNat_ofNat, hm, hn]
    simp only [Go.bits, IntKind.bits, BitVec.ofInt_natCast]
    rw [IntKind.wrap_i64]
    change (((BitVec.ofNat 64 m ^^^ BitVec.ofNat 64 n).toNat : Int) + 9223372036854775808) % 18446744073709551616 - 9223372036854775808 = _
    rw [hb]
    omega
  rw [e]
  omega

/-- The bytes of a code. -/
def Bytes (l : List Int) : Prop := l.length ≤ 2000 ∧ ∀ y ∈ l, 0 ≤ y ∧ y ≤ 255
theorem bytes_rd {l : List Int} (h : Bytes l) (i : Int) : 0 ≤ rd l i ∧ rd l i ≤ 255 := by
  unfold rd
  by_cases hi : i.toNat < l.length
  · exact h.2 _ (getD_mem l 0 i.toNat hi)
  · rw [List.getD_eq_getElem?_getD, List.getElem?_eq_none (by omega)]
    simp

theorem tmod_bd (a n : Int) (ha : 0 ≤ a) (hn : 0 < n) : 0 ≤ Int.tmod a n ∧ Int.tmod a n < n := by
  rw [Int.tmod_eq_emod_of_nonneg ha]
  exact ⟨Int.emod_nonneg _ (by omega), Int.emod_lt_of_pos _ hn⟩

theorem pick_ev (l : List Int) (hl : Bytes l) (p n : Int) (h0 : 0 ≤ p) (h1 : p ≤ 1000000000000) :
    ∃ r, Ev (fun k => spec_l20Rd_pick.f k l p n) (r, p + 1) ∧ 0 ≤ r ∧ (1 ≤ n → r < n) ∧ (n < 1 → r = 0) := by
  have w1 : wrap64 (p + 1) = p + 1 := wrap_id (by omega) (by omega)
  have w2 : wrap64 (p + 1 - 1) = p := by rw [show p + 1 - 1 = p by omega]; exact wrap_id (by omega) (by omega)
  by_cases hn : n < 1
  · refine ⟨0, ev_succ ⟨0, fun k _ => ?_⟩, by omega, fun h => absurd h (by omega), fun _ => rfl⟩
    simp [spec_l20Rd_pick.f, hn, spec_l20Rd_pick.j0, w1]
  have hne : ¬ (n = 0) := by omega
  by_cases hz : l.length = 0
  · refine ⟨0, ev_succ ⟨0, fun k _ => ?_⟩, by omega, fun h => by omega, fun h => absurd h hn⟩
    simp [spec_l20Rd_pick.f, hn, hz, spec_l20Rd_pick.j0, w1]
  have hz' : ¬ ((l.length : Int) = 0) := by omega
  have hzb : ((l.length : Int) == 0) = false := by simpa using hz
  by_cases hlt : p < (l.length : Int)
  · have hb := bytes_rd hl p
    have w3 : wrap64 (rd l p) = rd l p := wrap_id (by omega) (by omega)
    have ht := tmod_bd (rd l p) n hb.1 (by omega)
    refine ⟨Int.tmod (rd l p) n, ev_succ ⟨0, fun k _ => ?_⟩, ht.1, fun _ => ht.2, fun h => absurd h hn⟩
    simp only [spec_l20Rd_pick.f]
    rw [if_neg hn, hzb, w1]
    simp only [spec_l20Rd_pick.j0]
    rw [if_neg (by decide), w2, if_pos hlt, if_pos h0, if_neg hne, w3]
  · have L0 : (0 : Int) < (l.length : Int) := by omega
    have m1 := tmod_bd p (l.length : Int) h0 L0
    have w4 : wrap64 (p * 7) = p * 7 := wrap_id (by omega) (by omega)
    have w5 : wrap64 (p * 7 + 3) = p * 7 + 3 := wrap_id (by omega) (by omega)
    have m2 := tmod_bd (p * 7 + 3) (l.length : Int) (by omega) L0
    obtain ⟨i1, hi1⟩ : ∃ i, i = Int.tmod p (l.length : Int) := ⟨_, rfl⟩
    obtain ⟨i2, hi2⟩ : ∃ i, i = Int.tmod (p * 7 + 3) (l.length : Int) := ⟨_, rfl⟩
    have b1 := bytes_rd hl i1
    have b2 := bytes_rd hl i2
    obtain ⟨v1, hv1⟩ : ∃ v, v = rd l i1 := ⟨_, rfl⟩
    obtain ⟨v2, hv2⟩ : ∃ v, v = rd l i2 := ⟨_, rfl⟩
    have d1 : 0 ≤ Int.tdiv p (l.length : Int) ∧ Int.tdiv p (l.length : Int) ≤ p := by
      rw [Int.tdiv_eq_ediv_of_nonneg h0]
      exact ⟨Int.ediv_nonneg h0 (by omega), Int.ediv_le_self _ h0⟩
    obtain ⟨q, hq⟩ : ∃ q, q = Int.tdiv p (l.length : Int) := ⟨_, rfl⟩
    rw [← hi1] at m1
    rw [← hi2] at m2
    rw [← hv1] at b1
    rw [← hv2] at b2
    rw [← hq] at d1
    have x1 : wrap64 v1 = v1 := wrap_id (by omega) (by omega)
    have x2 : wrap64 v2 = v2 := wrap_id (by omega) (by omega)
    have x3 : wrap64 (v1 * 131) = v1 * 131 := wrap_id (by omega) (by omega)
    have x4 : wrap64 (v2 * 1117) = v2 * 1117 := wrap_id (by omega) (by omega)
    have x5 : wrap64 (v1 * 131 + v2 * 1117) = v1 * 131 + v2 * 1117 := wrap_id (by omega) (by omega)
    have x6 : wrap64 (p * 29) = p * 29 := wrap_id (by omega) (by omega)
    have x7 : wrap64 (v1 * 131 + v2 * 1117 + p * 29) = v1 * 131 + v2 * 1117 + p * 29 := wrap_id (by omega) (by omega)
    have x8 : wrap64 q = q := wrap_id (by omega) (by omega)
    have x9 : wrap64 (q * 53) = q * 53 := wrap_id (by omega) (by omega)
    have x10 : wrap64 (v1 * 131 + v2 * 1117 + p * 29 + q * 53) = v1 * 131 + v2 * 1117 + p * 29 + q * 53 := wrap_id (by omega) (by omega)
    obtain ⟨s, hs⟩ : ∃ s, s = v1 * 131 + v2 * 1117 + p * 29 + q * 53 := ⟨_, rfl⟩
    have hs0 : 0 ≤ s := by omega
    have hs1 : s ≤ 1000000000000000 := by omega
    have x11 : wrap64 (Int.tdiv s 64) = s / 64 := by
      rw [Int.tdiv_eq_ediv_of_nonneg hs0]
      exact wrap_id (by omega) (by omega)
    have hx := bits_xor_nonneg s (s / 64) hs0 (by omega) (by omega) (by omega)
    have ht := tmod_bd (Go.bits .xor .i64 s (s / 64)) n hx.1 (by omega)
    refine ⟨Int.tmod (Go.bits .xor .i64 s (s / 64)) n, ev_succ ⟨0, fun k _ => ?_⟩, ht.1, fun _ => ht.2, fun h => absurd h hn⟩
    simp only [spec_l20Rd_pick.f]
    rw [if_neg hn, hzb, w1]
    simp only [spec_l20Rd_pick.j0]
    rw [if_neg (by decide), w2, if_neg hlt, if_neg hz', w4, w5, ← hi1, ← hi2, if_pos m1.1, if_pos m1.2, if_pos m2.1, if_pos m2.2, if_neg hne, ← hv1, ← hv2, ← hq]
    simp only [x1, x2, x3, x4, x5, x6, x7, x8, x9, x10]
    rw [← hs, x11]

theorem odd_ev (l : List Int) (hl : Bytes l) (p n : Int) (h0 : 0 ≤ p) (h1 : p ≤ 1000000000000) (hn : n ≤ 1000000) :
    ∃ b q, Ev (fun k => spec_l20Rd_odd.f k l p n) (b, q) ∧ p ≤ q ∧ q ≤ p + 1 ∧ (n ≤ 0 → b = false) := by
  by_cases hn0 : n > 0
  · obtain ⟨r, ⟨K, hr⟩, _, _, _⟩ := pick_ev l hl p n h0 h1
    refine ⟨r == wrap64 (n - 1), p + 1, ⟨K, fun k hk => ?_⟩, by omega, by omega, fun h => absurd h (by omega)⟩
    have := hr k hk
    dsimp only at this
    simp [spec_l20Rd_odd.f, hn0, this]
  · refine ⟨false, p, ⟨0, fun k _ => ?_⟩, by omega, by omega, fun _ => rfl⟩
    simp [spec_l20Rd_odd.f, hn0]

theorem pick_tot {l : List Int} (hl : Bytes l) (p n : Int) (h0 : 0 ≤ p) (h1 : p ≤ 1000000000000) :
    Tot (fun k => spec_l20Rd_pick.f k l p n) (fun x => x.2 = p + 1 ∧ 0 ≤ x.1 ∧ (1 ≤ n → x.1 < n) ∧ (n < 1 → x.1 = 0)) := by
  obtain ⟨r, h, a, b, c⟩ := pick_ev l hl p n h0 h1
  exact ⟨_, h, rfl, a, b, c⟩
theorem odd_tot {l : List Int} (hl : Bytes l) (p n : Int) (h0 : 0 ≤ p) (h1 : p ≤ 1000000000000) (hn : n ≤ 1000000) :
    Tot (fun k => spec_l20Rd_odd.f k l p n) (fun x => p ≤ x.2 ∧ x.2 ≤ p + 1 ∧ (n ≤ 0 → x.1 = false)) := by
  obtain ⟨b, q, h, c⟩ := odd_ev l hl p n h0 h1 hn
  exact ⟨_, h, c⟩
theorem open_some (l : List Int) (hu : ∀ y ∈ l, 0 ≤ y ∧ y ≤ 255) : ∃ b, spec_l20Open.f l = some (b, 0) ∧ Bytes b := by
  unfold spec_l20Open.f
  by_cases h : (l.length : Int) > 2000
  · rw [if_pos h, if_pos (by omega)]
    refine ⟨l.take 2000, rfl, ?_, fun y hy => hu y (List.mem_of_mem_take hy)⟩
    rw [List.length_take]
    omega
  · rw [if_neg h]
    exact ⟨l, rfl, by omega, hu⟩
end Go.Proofs.Ytdojnbghacabhaa.X
namespace Go.Proofs.Ytdojnbghacabhaa.X
open Go.RowKit Go.Proofs.YtdojnbghacabhaaW.PrintWords Go.Proofs.Ytdojnbghacabhaa.Pl
set_option linter.unusedSimpArgs false
set_option linter.unusedVariables false
abbrev Pix := S32
theorem l1In_some (a b c : Int) : spec_l1In.f a b c = some (decide (b ≤ a ∧ a ≤ c)) := by
  unfold spec_l1In.f
  by_cases h : b ≤ a <;> simp [h]
theorem sizeOk_some (a : Int) : impl_sizeOk.f a = some (decide (1 ≤ a ∧ a ≤ 6)) := by
  unfold impl_sizeOk.f
  by_cases h : 1 ≤ a <;> simp [h]
theorem partOk_some (a : Int) : impl_partOk.f a = some (decide (0 ≤ a ∧ a ≤ 255)) := by
  unfold impl_partOk.f
  by_cases h : 0 ≤ a <;> simp [h]

/-! ### Pictures -/
def okPB (p : Pix) : Bool := decide (0 ≤ p.f0 ∧ p.f0 ≤ 255) && (decide (0 ≤ p.f1 ∧ p.f1 ≤ 255) && (decide (0 ≤ p.f2 ∧ p.f2 ≤ 255) && decide (0 ≤ p.f3 ∧ p.f3 ≤ 255)))
theorem impl_PixOk_some (a b c d : Int) : impl_PixOk.f a b c d = some (okPB ⟨a, b, c, d⟩) := by
  unfold impl_PixOk.f okPB
  simp only [partOk_some, Option.bind_some]
  by_cases p : 0 ≤ a ∧ a ≤ 255 <;> by_cases q : 0 ≤ b ∧ b ≤ 255 <;> by_cases r : 0 ≤ c ∧ c ≤ 255 <;> simp [p, q, r]
theorem spec_PixOk_some (a b c d : Int) : spec_PixOk.f a b c d = some (okPB ⟨a, b, c, d⟩) := by
  unfold spec_PixOk.f okPB
  simp only [l1In_some, Option.bind_some]
  by_cases p : 0 ≤ a ∧ a ≤ 255 <;> by_cases q : 0 ≤ b ∧ b ≤ 255 <;> by_cases r : 0 ≤ c ∧ c ≤ 255 <;> simp [p, q, r]
def pAt (l : List Pix) (i : Nat) : Pix := rd_T32 l (i : Int)
def rasOkB (a b : Int) (l : List Pix) : Bool := decide (1 ≤ a ∧ a ≤ 6) && (decide (1 ≤ b ∧ b ≤ 6) && (decide ((l.length : Int) = a * b) && (List.range l.length).all fun i => okPB (pAt l i)))
theorem mul36 {a b : Int} (ha : 1 ≤ a ∧ a ≤ 6) (hb : 1 ≤ b ∧ b ≤ 6) : 1 ≤ a * b ∧ a * b ≤ 36 := by
  have h1 : (1 : Int) * 1 ≤ a * b := Int.mul_le_mul ha.1 hb.1 (by omega) (by omega)
  have h2 : a * b ≤ 6 * 6 := Int.mul_le_mul ha.2 hb.2 (by omega) (by omega)
  omega
theorem impl_RasOk_ev (a b : Int) (l : List Pix) : Ev (fun k => impl_RasOk.f k a b l) (rasOkB a b l) := by
  by_cases ha : 1 ≤ a ∧ a ≤ 6
  · by_cases hb : 1 ≤ b ∧ b ≤ 6
    · have hm := mul36 ha hb
      have hw : wrap64 (a * b) = a * b := wrap_id (by omega) (by omega)
      by_cases hl : (l.length : Int) = a * b
      · have := ev_allR l.length (fun i => okPB (pAt l i)) true (fun k i => impl_RasOk.l0 k l (l.length : Int) i) ?_ ?_ ?_
        · have e : rasOkB a b l = ((List.range l.length).all (fun i => okPB (pAt l i)) && true) := by
            unfold rasOkB
            simp [ha, hb, hl]
          rw [e]
          refine Ev.step (fun k => ?_) this
          unfold impl_RasOk.f
          simp only [sizeOk_some, ha, hb, and_self, decide_true, Option.bind_some, if_true, impl_RasOk.j0, hw, hl, bne_self_eq_false, Bool.false_eq_true, if_false]
        · intro i hi hp r h
          refine Ev.step (fun k => ?_) h
          simp only [impl_RasOk.l0]
          rw [if_pos (by omega), if_pos (by omega), if_pos (by omega), impl_PixOk_some]
          simp only [Option.bind_some]
          rw [if_pos (show okPB ⟨(rd_T32 l (i : Int)).f0, (rd_T32 l (i : Int)).f1, (rd_T32 l (i : Int)).f2, (rd_T32 l (i : Int)).f3⟩ = true from hp), wrap_succ (by omega)]
        · intro i hi hp
          refine ev_succ ⟨0, fun k _ => ?_⟩
          simp only [impl_RasOk.l0]
          rw [if_pos (by omega), if_pos (by omega), if_pos (by omega), impl_PixOk_some]
          simp only [Option.bind_some]
          rw [if_neg (show ¬ okPB ⟨(rd_T32 l (i : Int)).f0, (rd_T32 l (i : Int)).f1, (rd_T32 l (i : Int)).f2, (rd_T32 l (i : Int)).f3⟩ = true from by rw [show okPB ⟨(rd_T32 l (i : Int)).f0, (rd_T32 l (i : Int)).f1, (rd_T32 l (i : Int)).f2, (rd_T32 l (i : Int)).f3⟩ = false from hp]; decide)]
        · refine ev_succ ⟨0, fun k _ => ?_⟩
          simp only [impl_RasOk.l0]
          rw [if_neg (by omega)]
      · have e : rasOkB a b l = false := by unfold rasOkB; simp [hl]
        rw [e]
        refine ev_succ ⟨0, fun k _ => ?_⟩
        have hl' : ((l.length : Int) != a * b) = true := by simpa using hl
        unfold impl_RasOk.f
        simp only [sizeOk_some, ha, hb, and_self, decide_true, Option.bind_some, if_true, impl_RasOk.j0, hw, hl']
    · have e : rasOkB a b l = false := by unfold rasOkB; simp only [hb, decide_false, Bool.false_and, Bool.and_false]
      rw [e]
      refine ev_succ ⟨0, fun k _ => ?_⟩
      unfold impl_RasOk.f
      simp [sizeOk_some, ha, hb, impl_RasOk.j0]
  · have e : rasOkB a b l = false := by unfold rasOkB; simp only [ha, decide_false, Bool.false_and]
    rw [e]
    refine ev_succ ⟨0, fun k _ => ?_⟩
    unfold impl_RasOk.f
    simp only [sizeOk_some, ha, decide_false, Option.bind_some, impl_RasOk.j0, Bool.false_eq_true, if_false, if_true]
theorem spec_RasOk_ev (a b : Int) (l : List Pix) : Ev (fun k => spec_RasOk.f k a b l) (rasOkB a b l) := by
  by_cases ha : 1 ≤ a ∧ a ≤ 6
  · by_cases hb : 1 ≤ b ∧ b ≤ 6
    · have hm := mul36 ha hb
      have hw : wrap64 (a * b) = a * b := wrap_id (by omega) (by omega)
      by_cases hl : (l.length : Int) = a * b
      · have := ev_allR l.length (fun i => okPB (pAt l i)) true (fun k i => spec_RasOk.l0 k i a b l) ?_ ?_ ?_
        · have e : rasOkB a b l = ((List.range l.length).all (fun i => okPB (pAt l i)) && true) := by
            unfold rasOkB
            simp [ha, hb, hl]
          rw [e]
          refine Ev.step (fun k => ?_) this
          unfold spec_RasOk.f
          simp only [l1In_some, ha, hb, and_self, decide_true, Option.bind_some, if_true, spec_RasOk.j0, hw, hl, bne_self_eq_false, Bool.false_eq_true, if_false]
        · intro i hi hp r h
          refine Ev.step (fun k => ?_) h
          simp only [spec_RasOk.l0]
          rw [if_pos (by omega), if_pos (by omega), spec_PixOk_some]
          simp only [Option.bind_some]
          rw [if_pos (show okPB ⟨(rd_T32 l (i : Int)).f0, (rd_T32 l (i : Int)).f1, (rd_T32 l (i : Int)).f2, (rd_T32 l (i : Int)).f3⟩ = true from hp), wrap_succ (by omega)]
        · intro i hi hp
          refine ev_succ ⟨0, fun k _ => ?_⟩
          simp only [spec_RasOk.l0]
          rw [if_pos (by omega), if_pos (by omega), spec_PixOk_some]
          simp only [Option.bind_some]
          rw [if_neg (show ¬ okPB ⟨(rd_T32 l (i : Int)).f0, (rd_T32 l (i : Int)).f1, (rd_T32 l (i : Int)).f2, (rd_T32 l (i : Int)).f3⟩ = true from by rw [show okPB ⟨(rd_T32 l (i : Int)).f0, (rd_T32 l (i : Int)).f1, (rd_T32 l (i : Int)).f2, (rd_T32 l (i : Int)).f3⟩ = false from hp]; decide)]
        · refine ev_succ ⟨0, fun k _ => ?_⟩
          simp only [spec_RasOk.l0]
          rw [if_neg (by omega)]
      · have e : rasOkB a b l = false := by unfold rasOkB; simp [hl]
        rw [e]
        refine ev_succ ⟨0, fun k _ => ?_⟩
        have hl' : ((l.length : Int) != a * b) = true := by simpa using hl
        unfold spec_RasOk.f
        simp only [l1In_some, ha, hb, and_self, decide_true, Option.bind_some, if_true, spec_RasOk.j0, hw, hl']
    · have e : rasOkB a b l = false := by unfold rasOkB; simp only [hb, decide_false, Bool.false_and, Bool.and_false]
      rw [e]
      refine ev_succ ⟨0, fun k _ => ?_⟩
      unfold spec_RasOk.f
      simp [l1In_some, ha, hb, spec_RasOk.j0]
  · have e : rasOkB a b l = false := by unfold rasOkB; simp only [ha, decide_false, Bool.false_and]
    rw [e]
    refine ev_succ ⟨0, fun k _ => ?_⟩
    unfold spec_RasOk.f
    simp only [l1In_some, ha, decide_false, Option.bind_some, spec_RasOk.j0, Bool.false_eq_true, if_false, if_true]
end Go.Proofs.Ytdojnbghacabhaa.X
namespace Go.Proofs.Ytdojnbghacabhaa.X
open Go.RowKit Go.Proofs.YtdojnbghacabhaaW.PrintWords Go.Proofs.Ytdojnbghacabhaa.Pl
set_option linter.unusedSimpArgs false
set_option linter.unusedVariables false
theorem l20Pix_tot {l : List Int} (hl : Bytes l) (p : Int) (h0 : 0 ≤ p) (h1 : p ≤ 900000000000) : Tot (fun k => spec_l20Pix.f k l p) (fun x => p ≤ x.2.2.2.2 ∧ x.2.2.2.2 ≤ p + 10) := by
  simp only [spec_l20Pix.f]
  refine Tot.bind (pick_tot hl p 256 h0 (by omega)) ?_
  rintro ⟨r0, p0⟩ ⟨e0, -, -, -⟩
  dsimp only at e0 ⊢
  refine Tot.some_bind ?_
  refine Tot.bind (pick_tot hl p0 3 (by omega) (by omega)) ?_
  rintro ⟨r1, p1⟩ ⟨e1, a1, b1, -⟩
  dsimp only at e1 a1 b1 ⊢
  refine Tot.pos a1 (Tot.pos (by simp only [List.length_cons, List.length_nil]; omega) ?_)
  refine Tot.bind (pick_tot hl p1 256 (by omega) (by omega)) ?_
  rintro ⟨r2, p2⟩ ⟨e2, -, -, -⟩
  dsimp only at e2 ⊢
  refine Tot.some_bind ?_
  refine Tot.bind (pick_tot hl p2 2 (by omega) (by omega)) ?_
  rintro ⟨r3, p3⟩ ⟨e3, a3, b3, -⟩
  dsimp only at e3 a3 b3 ⊢
  refine Tot.pos a3 (Tot.pos (by simp only [List.length_cons, List.length_nil]; omega) ?_)
  refine Tot.bind (pick_tot hl p3 256 (by omega) (by omega)) ?_
  rintro ⟨r4, p4⟩ ⟨e4, -, -, -⟩
  dsimp only at e4 ⊢
  refine Tot.some_bind ?_
  refine Tot.bind (pick_tot hl p4 2 (by omega) (by omega)) ?_
  rintro ⟨r5, p5⟩ ⟨e5, a5, b5, -⟩
  dsimp only at e5 a5 b5 ⊢
  refine Tot.pos a5 (Tot.pos (by simp only [List.length_cons, List.length_nil]; omega) ?_)
  refine Tot.bind (pick_tot hl p5 256 (by omega) (by omega)) ?_
  rintro ⟨r6, p6⟩ ⟨e6, -, -, -⟩
  dsimp only at e6 ⊢
  refine Tot.some_bind ?_
  refine Tot.bind (pick_tot hl p6 4 (by omega) (by omega)) ?_
  rintro ⟨r7, p7⟩ ⟨e7, a7, b7, -⟩
  dsimp only at e7 a7 b7 ⊢
  refine Tot.pos a7 (Tot.pos (by simp only [List.length_cons, List.length_nil]; omega) (Tot.ret ?_))
  dsimp only
  omega
theorem l20Ras_l0_tot {l : List Int} (hl : Bytes l) (n w h : Int) (hw : 1 ≤ w ∧ w ≤ 6) (hh : 1 ≤ h ∧ h ≤ 6) (hn : n ≤ 1000) (P : Int) (hP : P ≤ 700000000000) : ∀ s : Int × Int × List Pix × Pix, (0 ≤ s.1 ∧ s.1 ≤ w * h ∧ s.2.2.1.length = s.1.toNat ∧ 0 ≤ s.2.1 ∧ s.2.1 + 20 * (w * h - s.1) ≤ P) →
    Tot (fun k => spec_l20Ras.l0 k n s.1 l s.2.1 w h s.2.2.1 s.2.2.2.f0 s.2.2.2.f1 s.2.2.2.f2 s.2.2.2.f3) (fun x => x.2.2.1.length ≤ 100 ∧ 0 ≤ x.2.2.2 ∧ x.2.2.2 ≤ P + 20) := by
  have hm1 : w * h ≤ 36 := by
    have : w * h ≤ 6 * 6 := Int.mul_le_mul hw.2 hh.2 (by omega) (by omega)
    omega
  have hm0 : 1 ≤ w * h := by
    have : (1 : Int) * 1 ≤ w * h := Int.mul_le_mul hw.1 hh.1 (by omega) (by omega)
    omega
  have hwr : wrap64 (w * h) = w * h := wrap_id (by omega) (by omega)
  obtain ⟨m, hm⟩ : ∃ m, m = w * h := ⟨_, rfl⟩
  rw [← hm] at hm0 hm1
  refine tot_ind (fun k (s : Int × Int × List Pix × Pix) => spec_l20Ras.l0 k n s.1 l s.2.1 w h s.2.2.1 s.2.2.2.f0 s.2.2.2.f1 s.2.2.2.f2 s.2.2.2.f3) _ (fun s => (m - s.1).toNat) _ ?_
  rintro ⟨i, p, s, z⟩ ⟨i1, i2, i3, i4, i5⟩ ih
  dsimp only at i1 i2 i3 i4 i5 ⊢
  rw [← hm] at i2 i5
  refine Tot.succ ?_
  simp only [spec_l20Ras.l0, hwr]
  rw [← hm]
  refine Tot.ite ?_ ?_ <;> intro hc
  · have hw1 : wrap64 (i + 1) = i + 1 := wrap_id (by omega) (by omega)
    refine Tot.bind (pick_tot hl p 3 (by omega) (by omega)) ?_
    rintro ⟨r0, p0⟩ ⟨e0, -, -, -⟩
    dsimp only at e0 ⊢
    rw [hw1]
    refine Tot.ite ?_ ?_ <;> intro hd
    · refine Tot.bind (l20Pix_tot hl p0 (by omega) (by omega)) ?_
      rintro ⟨c0, c1, c2, c3, p1⟩ ⟨e1, e2⟩
      dsimp only at e1 e2 ⊢
      refine Tot.pos (by omega) ?_
      exact ih (i + 1, p1, s ++ [⟨c0, c1, c2, c3⟩], ⟨c0, c1, c2, c3⟩) (by dsimp only; rw [← hm, List.length_append]; simp only [List.length_cons, List.length_nil]; omega) (by dsimp only; omega)
    · refine Tot.pos (by omega) ?_
      exact ih (i + 1, p0, s ++ [⟨z.f0, z.f1, z.f2, z.f3⟩], z) (by dsimp only; rw [← hm, List.length_append]; simp only [List.length_cons, List.length_nil]; omega) (by dsimp only; omega)
  · have hi : i = m := by omega
    have hlen : (s.length : Int) = m := by omega
    refine Tot.bind (odd_tot hl p n (by omega) (by omega) (by omega)) ?_
    rintro ⟨b1, p1⟩ ⟨e1, e2, -⟩
    dsimp only at e1 e2 ⊢
    refine Tot.ite ?_ ?_ <;> intro hb
    · refine Tot.bind (pick_tot hl p1 4 (by omega) (by omega)) ?_
      rintro ⟨r2, p2⟩ ⟨e3, -, -, -⟩
      dsimp only at e3 ⊢
      refine Tot.ite ?_ ?_ <;> intro hd
      · refine Tot.some_bind ?_
        refine Tot.bind (pick_tot hl p2 4 (by omega) (by omega)) ?_
        rintro ⟨r3, p3⟩ ⟨e4, a4, b4, -⟩
        dsimp only at e4 a4 b4 ⊢
        exact Tot.pos a4 (Tot.pos (by simp only [List.length_cons, List.length_nil]; omega) (Tot.ret ⟨by dsimp only; omega, by dsimp only; omega, by dsimp only; omega⟩))
      refine Tot.ite ?_ ?_ <;> intro hd
      · refine Tot.some_bind ?_
        refine Tot.bind (pick_tot hl p2 2 (by omega) (by omega)) ?_
        rintro ⟨r3, p3⟩ ⟨e4, a4, b4, -⟩
        dsimp only at e4 a4 b4 ⊢
        exact Tot.pos a4 (Tot.pos (by simp only [List.length_cons, List.length_nil]; omega) (Tot.ret ⟨by dsimp only; omega, by dsimp only; omega, by dsimp only; omega⟩))
      refine Tot.ite ?_ ?_ <;> intro hd
      · exact Tot.pos (by omega) (Tot.ret ⟨by dsimp only; rw [List.length_drop]; omega, by dsimp only; omega, by dsimp only; omega⟩)
      · refine Tot.bind (pick_tot hl p2 (s.length : Int) (by omega) (by omega)) ?_
        rintro ⟨r3, p3⟩ ⟨e4, a4, b4, -⟩
        dsimp only at e4 a4 b4 ⊢
        refine Tot.some_bind ?_
        refine Tot.bind (pick_tot hl p3 2 (by omega) (by omega)) ?_
        rintro ⟨r4, p4⟩ ⟨e5, a5, b5, -⟩
        dsimp only at e5 a5 b5 ⊢
        exact Tot.pos a5 (Tot.pos (by simp only [List.length_cons, List.length_nil]; omega) (Tot.pos a4 (Tot.pos (by omega) (Tot.ret ⟨by dsimp only; rw [List.length_set]; omega, by dsimp only; omega, by dsimp only; omega⟩))))
    · exact Tot.ret ⟨by dsimp only; omega, by dsimp only; omega, by dsimp only; omega⟩
theorem l20Ras_tot {l : List Int} (hl : Bytes l) (p n : Int) (h0 : 0 ≤ p) (h1 : p ≤ 600000000000) (hn : n ≤ 1000) : Tot (fun k => spec_l20Ras.f k l p n) (fun x => x.2.2.1.length ≤ 100 ∧ 0 ≤ x.2.2.2 ∧ x.2.2.2 ≤ p + 1000) := by
  simp only [spec_l20Ras.f]
  refine Tot.bind (pick_tot hl p 6 h0 (by omega)) ?_
  rintro ⟨r0, p0⟩ ⟨e0, a0, b0, -⟩
  dsimp only at e0 a0 b0 ⊢
  refine Tot.bind (pick_tot hl p0 6 (by omega) (by omega)) ?_
  rintro ⟨r1, p1⟩ ⟨e1, a1, b1, -⟩
  dsimp only at e1 a1 b1 ⊢
  refine Tot.bind (l20Pix_tot hl p1 (by omega) (by omega)) ?_
  rintro ⟨c0, c1, c2, c3, p2⟩ ⟨e2, e3⟩
  dsimp only at e2 e3 ⊢
  have w0 : wrap64 (1 + r0) = 1 + r0 := wrap_id (by omega) (by omega)
  have w1 : wrap64 (1 + r1) = 1 + r1 := wrap_id (by omega) (by omega)
  have hm : (1 + r0) * (1 + r1) ≤ 6 * 6 := Int.mul_le_mul (by omega) (by omega) (by omega) (by omega)
  have hm0 : (1 : Int) * 1 ≤ (1 + r0) * (1 + r1) := Int.mul_le_mul (by omega) (by omega) (by omega) (by omega)
  rw [w0, w1]
  exact (l20Ras_l0_tot hl n (1 + r0) (1 + r1) (by omega) (by omega) hn (p2 + 720) (by omega) (0, p2, [], ⟨c0, c1, c2, c3⟩) (by dsimp only [List.length_nil]; revert hm hm0; generalize (1 + r0) * (1 + r1) = q; intro hm hm0; omega)).mono (fun x hx => ⟨hx.1, hx.2.1, by omega⟩)
end Go.Proofs.Ytdojnbghacabhaa.X
namespace Go.Proofs.Ytdojnbghacabhaa.X
open Go.RowKit Go.Proofs.YtdojnbghacabhaaW.PrintWords Go.Proofs.Ytdojnbghacabhaa.Pl
set_option linter.unusedSimpArgs false
set_option linter.unusedVariables false
/-! ### Runs -/
def px (l : List Pix) (i : Nat) : Pix := rd_T32 l (i : Int)
def eqB (p q : Pix) : Bool := p.f0 == q.f0 && (p.f1 == q.f1 && (p.f2 == q.f2 && p.f3 == q.f3))
theorem eqB_iff (p q : Pix) : eqB p q = true ↔ p = q := by
  unfold eqB
  simp only [Bool.and_eq_true, beq_iff_eq]
  constructor
  · rintro ⟨h0, h1, h2, h3⟩
    cases p; cases q; simp only at h0 h1 h2 h3; subst h0 h1 h2 h3; rfl
  · rintro rfl; exact ⟨rfl, rfl, rfl, rfl⟩
/-- One run: how many, and the colour. -/
def runL (l : List Pix) (i j : Nat) : List Int := [((j : Int) - i) % 256, (px l i).f0 % 256, (px l i).f1 % 256, (px l i).f2 % 256, (px l i).f3 % 256]
/-- What is written behind a list, where a run from i goes on at j; e: what is left. -/
def outR (l : List Pix) : Nat → Nat → Nat → List Int → List Int
  | 0, i, j, acc => acc ++ runL l i j
  | e + 1, i, j, acc => if eqB (px l j) (px l i) = true then outR l e i (j + 1) acc else outR l e j (j + 1) (acc ++ runL l i j)
/-- How often the colour turns, from j on. -/
def cntR (l : List Pix) : Nat → Nat → Nat
  | 0, j => 0
  | e + 1, j => (if eqB (px l j) (px l (j - 1)) = true then 0 else 1) + cntR l e (j + 1)
theorem outR_len (l : List Pix) : ∀ e i j acc, i < j → px l (j - 1) = px l i → (outR l e i j acc).length = acc.length + 5 * (1 + cntR l e j)
  | 0, i, j, acc, h, hp => by simp [outR, cntR, runL]
  | e + 1, i, j, acc, h, hp => by
    unfold outR cntR
    rw [hp]
    by_cases hc : eqB (px l j) (px l i) = true
    · rw [if_pos hc, if_pos hc, outR_len l e i (j + 1) acc (by omega) (by rw [Nat.add_sub_cancel]; exact (eqB_iff _ _).1 hc)]
      omega
    · rw [if_neg hc, if_neg hc, outR_len l e j (j + 1) _ (by omega) (by rw [Nat.add_sub_cancel])]
      simp [runL]
      omega
theorem pixBytes_some (l0 : List Int) (a b c d : Int) (h : l0.length ≤ 100000) : impl_pixBytes.f l0 a b c d = some (l0 ++ [a % 256, b % 256, c % 256, d % 256]) := by
  unfold impl_pixBytes.f
  simp only [Option.bind_some, List.length_cons, List.length_nil]
  rw [if_pos (by omega)]
theorem run_cat (acc : List Int) (l : List Pix) (i j : Nat) (hj : j ≤ 1000) (hi : i ≤ j) : (acc ++ [(wrap64 ((j : Int) - (i : Int))) % 256]) ++ [(px l i).f0 % 256, (px l i).f1 % 256, (px l i).f2 % 256, (px l i).f3 % 256] = acc ++ runL l i j := by
  rw [wrap_id (by omega) (by omega), List.append_assoc]
  rfl
theorem implRuns_tot (l : List Pix) (hl : l.length ≤ 100) (a b : Int) : ∀ e i j acc, i < j → j + e = l.length → acc.length ≤ 10 * j → Tot (fun k => impl_formRuns_write.l1 k acc (i : Int) (j : Int) a b l) (fun r => r = outR l e i j acc)
  | 0, i, j, acc, h, he, ha => by
    refine Tot.succ ?_
    simp only [impl_formRuns_write.l1]
    refine Tot.neg (by omega) (Tot.pos (by omega) (Tot.pos (by omega) (Tot.pos (by omega) ?_)))
    rw [pixBytes_some _ _ _ _ _ (by rw [List.length_append, List.length_singleton]; omega)]
    refine Tot.some_bind (Tot.succ ?_)
    simp only [impl_formRuns_write.l0]
    refine Tot.neg (by omega) (Tot.ret ?_)
    exact run_cat acc l i j (by omega) (by omega)
  | e + 1, i, j, acc, h, he, ha => by
    refine Tot.succ ?_
    simp only [impl_formRuns_write.l1]
    refine Tot.pos (by omega) (Tot.pos (by omega) (Tot.pos (by omega) (Tot.pos (by omega) ?_)))
    have e1 : wrap64 ((j : Int) + 1) = ((j + 1 : Nat) : Int) := by rw [wrap_id (by omega) (by omega)]; omega
    unfold outR
    by_cases hc : eqB (px l j) (px l i) = true
    · refine Tot.pos hc ?_
      rw [if_pos hc, e1]
      exact implRuns_tot l hl a b e i (j + 1) acc (by omega) (by omega) (by omega)
    · refine Tot.neg hc (Tot.pos (by omega) ?_)
      rw [pixBytes_some _ _ _ _ _ (by rw [List.length_append, List.length_singleton]; omega), if_neg hc]
      refine Tot.some_bind (Tot.succ ?_)
      simp only [impl_formRuns_write.l0]
      refine Tot.pos (by omega) ?_
      rw [e1, show (acc ++ [(wrap64 ((j : Int) - (i : Int))) % 256]) ++ [(rd_T32 l (i : Int)).f0 % 256, (rd_T32 l (i : Int)).f1 % 256, (rd_T32 l (i : Int)).f2 % 256, (rd_T32 l (i : Int)).f3 % 256] = acc ++ runL l i j from run_cat acc l i j (by omega) (by omega)]
      exact implRuns_tot l hl a b e j (j + 1) _ (by omega) (by omega) (by rw [List.length_append]; show _ + 5 ≤ _; omega)
theorem specRuns_tot (l : List Pix) (hl : l.length ≤ 100) (a b : Int) : ∀ e i j acc, i < j → j + e = l.length → acc.length ≤ 10 * j → Tot (fun k => spec_l5Runs.l1 k acc (i : Int) ((j : Int) - (i : Int)) a b l) (fun r => r = outR l e i j acc)
  | 0, i, j, acc, h, he, ha => by
    refine Tot.succ ?_
    simp only [spec_l5Runs.l1]
    have e0 : wrap64 ((i : Int) + ((j : Int) - (i : Int))) = (j : Int) := by rw [wrap_id (by omega) (by omega)]; omega
    rw [e0]
    refine Tot.neg (by omega) (Tot.pos (by omega) (Tot.pos (by omega) (Tot.some_bind (Tot.pos (by simp only [List.length_cons, List.length_nil]; omega) (Tot.succ ?_)))))
    simp only [spec_l5Runs.l0]
    exact Tot.neg (by omega) (Tot.ret rfl)
  | e + 1, i, j, acc, h, he, ha => by
    refine Tot.succ ?_
    simp only [spec_l5Runs.l1]
    have e0 : wrap64 ((i : Int) + ((j : Int) - (i : Int))) = (j : Int) := by rw [wrap_id (by omega) (by omega)]; omega
    have e1 : wrap64 ((j : Int) - (i : Int) + 1) = ((j + 1 : Nat) : Int) - (i : Int) := by rw [wrap_id (by omega) (by omega)]; omega
    rw [e0, e1]
    refine Tot.pos (by omega) (Tot.pos (by omega) (Tot.pos (by omega) (Tot.pos (by omega) ?_)))
    unfold outR
    by_cases hc : eqB (px l j) (px l i) = true
    · refine Tot.pos hc ?_
      rw [if_pos hc]
      exact specRuns_tot l hl a b e i (j + 1) acc (by omega) (by omega) (by omega)
    · refine Tot.neg hc (Tot.some_bind (Tot.pos (by simp only [List.length_cons, List.length_nil]; omega) (Tot.succ ?_)))
      rw [if_neg hc]
      simp only [spec_l5Runs.l0]
      refine Tot.pos (by omega) ?_
      have e2 : (1 : Int) = ((j + 1 : Nat) : Int) - (j : Int) := by omega
      rw [e2]
      exact specRuns_tot l hl a b e j (j + 1) _ (by omega) (by omega) (by rw [List.length_append]; show _ + 5 ≤ _; omega)
/-- The body of a file of runs. -/
def runsF (a b : Int) (l : List Pix) : List Int := outR l (l.length - 1) 0 1 [a % 256, b % 256]
theorem implRunsF (a b : Int) (l : List Pix) (h1 : 1 ≤ l.length) (hl : l.length ≤ 100) : Tot (fun k => impl_formRuns_write.f k true a b l) (fun r => r = runsF a b l) := by
  unfold impl_formRuns_write.f
  refine Tot.succ ?_
  simp only [impl_formRuns_write.l0]
  refine Tot.pos (by omega) ?_
  rw [wrap_id (x := 0 + 1) (by omega) (by omega)]
  exact implRuns_tot l hl a b (l.length - 1) 0 1 [a % 256, b % 256] (by omega) (by omega) (by simp)
theorem specRunsF (a b : Int) (l : List Pix) (h1 : 1 ≤ l.length) (hl : l.length ≤ 100) : Tot (fun k => spec_l5Runs.f k a b l) (fun r => r = runsF a b l) := by
  unfold spec_l5Runs.f
  refine Tot.succ ?_
  simp only [spec_l5Runs.l0]
  refine Tot.pos (by omega) ?_
  exact specRuns_tot l hl a b (l.length - 1) 0 1 [a % 256, b % 256] (by omega) (by omega) (by simp)
theorem runsF_len (a b : Int) (l : List Pix) : (runsF a b l).length = 2 + 5 * (1 + cntR l (l.length - 1) 1) := outR_len l _ 0 1 _ (by omega) rfl
theorem cntR_le (l : List Pix) : ∀ e j, cntR l e j ≤ e
  | 0, j => Nat.le_refl _
  | e + 1, j => by
    have := cntR_le l e (j + 1)
    unfold cntR
    split <;> omega
/-! ### Sums -/
def sumR (l : List Int) : Nat → Nat → Int → Int → Int
  | 0, i, a, b => wrap64 ((wrap64 (b * 65536)) + a)
  | e + 1, i, a, b => sumR l e (i + 1) (Int.tmod (wrap64 (a + (wrap64 (rd l (i : Int))))) 65521) (Int.tmod (wrap64 (b + (Int.tmod (wrap64 (a + (wrap64 (rd l (i : Int))))) 65521))) 65521)
theorem implSum_tot (l : List Int) (hl : l.length ≤ 1000000) : ∀ e i a b, i + e = l.length → Tot (fun k => impl_SumOf.l0 k a b l (l.length : Int) (i : Int)) (fun r => r = sumR l e i a b)
  | 0, i, a, b, h => by
    refine Tot.succ ?_
    simp only [impl_SumOf.l0]
    exact Tot.neg (by omega) (Tot.ret rfl)
  | e + 1, i, a, b, h => by
    refine Tot.succ ?_
    simp only [impl_SumOf.l0]
    refine Tot.pos (by omega) (Tot.pos (by omega) (Tot.pos (by omega) ?_))
    rw [show wrap64 ((i : Int) + 1) = ((i + 1 : Nat) : Int) by rw [wrap_id (by omega) (by omega)]; omega]
    exact implSum_tot l hl e (i + 1) _ _ (by omega)
theorem specSum_tot (l : List Int) (hl : l.length ≤ 1000000) : ∀ e i a b, i + e = l.length → Tot (fun k => spec_SumOf.l0 k l a b (i : Int)) (fun r => r = sumR l e i a b)
  | 0, i, a, b, h => by
    refine Tot.succ ?_
    simp only [spec_SumOf.l0]
    exact Tot.neg (by omega) (Tot.ret rfl)
  | e + 1, i, a, b, h => by
    refine Tot.succ ?_
    simp only [spec_SumOf.l0]
    refine Tot.pos (by omega) (Tot.pos (by omega) ?_)
    rw [show wrap64 ((i : Int) + 1) = ((i + 1 : Nat) : Int) by rw [wrap_id (by omega) (by omega)]; omega]
    exact specSum_tot l hl e (i + 1) _ _ (by omega)
def sumF (l : List Int) : Int := sumR l l.length 0 1 0
theorem tmod_in {x : Int} (h0 : 0 ≤ x) (h1 : x ≤ 9223372036854775807) : 0 ≤ Int.tmod (wrap64 x) 65521 ∧ Int.tmod (wrap64 x) 65521 < 65521 := by
  rw [wrap_id (by omega) h1, Int.tmod_eq_emod_of_nonneg h0]
  omega
theorem sumR_in (l : List Int) (hb : ∀ y ∈ l, 0 ≤ y ∧ y ≤ 255) : ∀ e i a b, 0 ≤ a → a < 65521 → 0 ≤ b → b < 65521 → 0 ≤ sumR l e i a b ∧ sumR l e i a b < 4294967296
  | 0, i, a, b, a0, a1, b0, b1 => by
    unfold sumR
    rw [wrap_id (x := b * 65536) (by omega) (by omega), wrap_id (by omega) (by omega)]
    omega
  | e + 1, i, a, b, a0, a1, b0, b1 => by
    unfold sumR
    have hr : 0 ≤ rd l (i : Int) ∧ rd l (i : Int) ≤ 255 := by
      unfold rd
      rw [List.getD_eq_getElem?_getD]
      cases h : l[(i : Int).toNat]? with
      | none => simp
      | some y => exact hb y (List.mem_of_getElem? h)
    have hw : wrap64 (rd l (i : Int)) = rd l (i : Int) := wrap_id (by omega) (by omega)
    rw [hw]
    obtain ⟨c0, c1⟩ := tmod_in (x := a + rd l (i : Int)) (by omega) (by omega)
    obtain ⟨d0, d1⟩ := tmod_in (x := b + Int.tmod (wrap64 (a + rd l (i : Int))) 65521) (by omega) (by omega)
    exact sumR_in l hb e (i + 1) _ _ c0 c1 d0 d1
theorem sumF_in (l : List Int) (hb : ∀ y ∈ l, 0 ≤ y ∧ y ≤ 255) : 0 ≤ sumF l ∧ sumF l < 4294967296 := sumR_in l hb _ 0 1 0 (by omega) (by omega) (by omega) (by omega)
theorem specSum4 (l : List Int) (hl : l.length ≤ 1000000) (hb : ∀ y ∈ l, 0 ≤ y ∧ y ≤ 255) : Tot (fun k => spec_l5Sum.f k l) (fun r => r = sum4 (sumF l)) := by
  unfold spec_l5Sum.f spec_SumOf.f
  refine Tot.bind (specSum_tot l hl l.length 0 1 0 (by omega)) ?_
  rintro _ rfl
  refine Tot.ret ?_
  obtain ⟨s0, s1⟩ := sumF_in l hb
  show [_, _, _, _] = sum4 (sumF l)
  have e : sumR l l.length 0 1 0 = sumF l := rfl
  rw [e]
  generalize sumF l = s at s0 s1
  unfold sum4
  have q : ∀ d : Int, 0 < d → Int.tdiv s d = s / d := fun d hd => Int.tdiv_eq_ediv_of_nonneg s0
  have m : ∀ x d : Int, 0 ≤ x → Int.tmod x d = x % d := fun x d hx => Int.tmod_eq_emod_of_nonneg hx
  rw [q _ (by omega), q _ (by omega), q _ (by omega)]
  have w1 : wrap64 (s / 16777216) = s / 16777216 := wrap_id (by omega) (by omega)
  have w2 : wrap64 (s / 65536) = s / 65536 := wrap_id (by omega) (by omega)
  have w3 : wrap64 (s / 256) = s / 256 := wrap_id (by omega) (by omega)
  rw [w1, w2, w3, m _ _ (by omega), m _ _ (by omega), m _ _ s0]
  congr 1
  congr 1
  · omega
  congr 1
  · omega
  congr 1
  omega
/-! ### Files -/
theorem runL_byt (l : List Pix) (i j : Nat) : ∀ y ∈ runL l i j, 0 ≤ y ∧ y ≤ 255 := by
  intro y hy
  simp only [runL, List.mem_cons, List.not_mem_nil, or_false] at hy
  rcases hy with rfl | rfl | rfl | rfl | rfl <;> omega
theorem outR_byt (l : List Pix) : ∀ e i j acc, (∀ y ∈ acc, 0 ≤ y ∧ y ≤ 255) → ∀ y ∈ outR l e i j acc, 0 ≤ y ∧ y ≤ 255
  | 0, i, j, acc, h => by
    unfold outR
    intro y hy
    rcases List.mem_append.1 hy with hy | hy
    · exact h y hy
    · exact runL_byt l i j y hy
  | e + 1, i, j, acc, h => by
    unfold outR
    split
    · exact outR_byt l e i (j + 1) acc h
    · refine outR_byt l e j (j + 1) _ ?_
      intro y hy
      rcases List.mem_append.1 hy with hy | hy
      · exact h y hy
      · exact runL_byt l i j y hy
theorem runsF_byt (a b : Int) (l : List Pix) : ∀ y ∈ runsF a b l, 0 ≤ y ∧ y ≤ 255 := by
  refine outR_byt l _ _ _ _ ?_
  intro y hy
  simp only [List.mem_cons, List.not_mem_nil, or_false] at hy
  rcases hy with rfl | rfl <;> omega
theorem valid_len {a b : Int} {l : List Pix} (h : rasOkB a b l = true) : 1 ≤ l.length ∧ l.length ≤ 36 := by
  unfold rasOkB at h
  simp only [Bool.and_eq_true, decide_eq_true_eq] at h
  have := mul36 h.1 h.2.1
  have := h.2.2.1
  omega
/-- A file of runs; nothing, of what is no picture. -/
def fileR (a b : Int) (l : List Pix) : List Int := if rasOkB a b l = true then fileL 82 [] (runsF a b l) (sumF (runsF a b l)) else []
theorem runsF_300 {a b : Int} {l : List Pix} (h : rasOkB a b l = true) : (runsF a b l).length ≤ 300 := by
  obtain ⟨h1, h2⟩ := valid_len h
  have := cntR_le l (l.length - 1) 1
  rw [runsF_len]
  omega
theorem implFileR (a b : Int) (l : List Pix) : Tot (fun k => impl_FormWrite.f k 82 [] a b l) (fun r => r = fileR a b l) := by
  unfold impl_FormWrite.f fileR
  refine Tot.pos rfl (Tot.neg (by simp) ?_)
  refine Tot.bind (Tot.of_ev (impl_RasOk_ev a b l)) ?_
  rintro _ rfl
  by_cases h : rasOkB a b l = true
  · obtain ⟨h1, h2⟩ := valid_len h
    refine Tot.pos h ?_
    rw [if_pos h]
    refine Tot.bind (implRunsF a b l h1 (by omega)) ?_
    rintro _ rfl
    have h3 := runsF_300 h
    unfold fileE impl_SumOf.f
    refine Tot.bind (implSum_tot (runsF a b l) (by omega) (runsF a b l).length 0 1 0 (by omega)) ?_
    rintro _ rfl
    exact Tot.pos (by omega) (Tot.ret rfl)
  · refine Tot.neg h (Tot.ret ?_)
    rw [if_neg h]
theorem specFileR (a b : Int) (l : List Pix) : Tot (fun k => spec_FormWrite.f k 82 [] a b l) (fun r => r = fileR a b l) := by
  unfold spec_FormWrite.f fileR
  have hk : spec_l5Kind.f 82 = some true := rfl
  refine Tot.bind (Tot.of_eq hk) ?_
  rintro _ rfl
  refine Tot.pos rfl (Tot.neg (by simp) ?_)
  refine Tot.bind (Tot.of_ev (spec_RasOk_ev a b l)) ?_
  rintro _ rfl
  by_cases h : rasOkB a b l = true
  · obtain ⟨h1, h2⟩ := valid_len h
    have h3 := runsF_300 h
    refine Tot.pos h ?_
    rw [if_pos h]
    unfold spec_l5File.f spec_l5Body.f
    refine Tot.bind (P := fun r => r = fileL 82 [] (runsF a b l) (sumF (runsF a b l))) ?_ (fun r hr => Tot.ret hr)
    refine Tot.bind (P := fun r => r = runsF a b l) ?_ ?_
    · refine Tot.neg (by decide) (Tot.neg (by decide) (Tot.pos rfl ?_))
      exact Tot.bind (specRunsF a b l h1 (by omega)) (fun r hr => Tot.ret hr)
    rintro _ rfl
    refine Tot.some_bind (Tot.pos (by simp) (Tot.some_bind (Tot.pos (by simp only [List.append_nil, List.length_cons, List.length_nil]; omega) (Tot.some_bind ?_))))
    refine Tot.bind (specSum4 _ (by omega) (runsF_byt a b l)) ?_
    rintro _ rfl
    refine Tot.pos (by simp only [List.append_nil, List.length_append, List.length_cons, List.length_nil, sum4]; omega) (Tot.ret rfl)
  · refine Tot.neg h (Tot.ret ?_)
    rw [if_neg h]
/-! ### The law -/
theorem runs_loop (b : List Int) (l : List Pix) (hl : l.length ≤ 100) (w h : Int) : ∀ e j n, 1 ≤ j → j + e = l.length → n ≤ j → Tot (fun k => laws_FnFormRuns.l0 k b (n : Int) (j : Int) w h l) (fun r => r = ((b.length : Int) == ((8 + 5 * (n + cntR l e j) : Nat) : Int)))
  | 0, j, n, h1, he, hn => by
    refine Tot.succ ?_
    simp only [laws_FnFormRuns.l0]
    refine Tot.neg (by omega) (Tot.ret ?_)
    have e1 : wrap64 (5 * (n : Int)) = 5 * (n : Int) := wrap_id (by omega) (by omega)
    have e2 : wrap64 (4 + 5 * (n : Int)) = 4 + 5 * (n : Int) := wrap_id (by omega) (by omega)
    rw [e1, e2, wrap_id (by omega) (by omega)]
    congr 1
    unfold cntR
    omega
  | e + 1, j, n, h1, he, hn => by
    refine Tot.succ ?_
    simp only [laws_FnFormRuns.l0]
    have e1 : wrap64 ((j : Int) - 1) = ((j - 1 : Nat) : Int) := by rw [wrap_id (by omega) (by omega)]; omega
    have e2 : wrap64 ((j : Int) + 1) = ((j + 1 : Nat) : Int) := by rw [wrap_id (by omega) (by omega)]; omega
    have e3 : wrap64 ((n : Int) + 1) = ((n + 1 : Nat) : Int) := by rw [wrap_id (by omega) (by omega)]; omega
    rw [e1, e2, e3]
    refine Tot.pos (by omega) (Tot.pos (by omega) (Tot.pos (by omega) (Tot.pos (by omega) ?_)))
    unfold cntR
    have key : (!(((px l j).f0) == ((px l (j - 1)).f0)) || (!(((px l j).f1) == ((px l (j - 1)).f1)) || (!(((px l j).f2) == ((px l (j - 1)).f2)) || (!(((px l j).f3) == ((px l (j - 1)).f3)))))) = !(eqB (px l j) (px l (j - 1))) := by
      unfold eqB
      simp only [Bool.not_and]
    by_cases hc : eqB (px l j) (px l (j - 1)) = true
    · refine Tot.neg (fun hh => ?_) ?_
      · have := key.symm.trans hh
        rw [hc] at this
        cases this
      rw [if_pos hc, Nat.zero_add]
      exact runs_loop b l hl w h e (j + 1) n (by omega) (by omega) (by omega)
    · refine Tot.pos (key.trans (by simpa using hc)) ?_
      rw [if_neg hc, ← Nat.add_assoc]
      exact runs_loop b l hl w h e (j + 1) (n + 1) (by omega) (by omega) (by omega)
end Go.Proofs.Ytdojnbghacabhaa.X
namespace Go.Proofs.Ytdojnbghacabhaa.Pure
open Go.RowKit Go.Proofs.YtdojnbghacabhaaW.PrintWords Go.Proofs.Ytdojnbghacabhaa.Pl Go.Proofs.Ytdojnbghacabhaa.X
set_option linter.unusedVariables false
set_option linter.unusedSimpArgs false
theorem ByteOk {n : Int} (h : (Lit.int .u8 n).wf = true) : 0 ≤ n ∧ n ≤ 255 := by
  simp [Lit.wf, IntKind.min, IntKind.max, IntKind.signed, IntKind.bits] at h; omega
theorem drawFormPut_tot {l : List Int} (hu : ∀ y ∈ l, 0 ≤ y ∧ y ≤ 255) : Tot (fun k => spec_DrawFormPut.f k l) (fun x => x.2.2.length ≤ 100) := by
  unfold spec_DrawFormPut.f
  obtain ⟨b, e, hb⟩ := open_some l hu
  rw [e]
  refine Tot.some_bind ?_
  refine Tot.bind (l20Ras_tot hb 0 6 (by omega) (by omega) (by omega)) ?_
  rintro ⟨w, h, s, p⟩ ⟨h1, h2, h3⟩
  exact Tot.ret h1
theorem FnFormRuns : laws_FnFormRuns.Pure := by
  intro l0 _ _ hw0
  have hu0 : ∀ y ∈ l0, 0 ≤ y ∧ y ≤ 255 := fun y hy => ByteOk (hw0 y hy)
  refine Tot.rounds ?_
  unfold laws_FnFormRuns.f
  refine Tot.ite (fun _ => Tot.ret rfl) (fun hl => ?_)
  refine Tot.bind (drawFormPut_tot hu0) ?_
  rintro ⟨a, b, l⟩ ha
  dsimp only at ha ⊢
  refine Tot.bind (implFileR a b l) ?_; rintro _ rfl
  refine Tot.bind (specFileR a b l) ?_; rintro _ rfl
  unfold laws_eaBytes.f
  refine Tot.some_bind (Tot.pos (by simp) ?_)
  refine Tot.bind (Tot.of_ev (spec_RasOk_ev a b l)) ?_
  rintro _ rfl
  by_cases h : rasOkB a b l = true
  · obtain ⟨h1, h2⟩ := valid_len h
    refine Tot.pos h ?_
    refine (runs_loop (fileR a b l) l (by omega) a b (l.length - 1) 1 1 (by omega) (by omega) (by omega)).mono ?_
    rintro _ rfl
    have e : (fileR a b l).length = 8 + 5 * (1 + cntR l (l.length - 1) 1) := by
      unfold fileR
      rw [if_pos h]
      unfold fileL
      simp only [List.append_nil, List.length_append, List.length_cons, List.length_nil, sum4, runsF_len]
      omega
    rw [e]
    simp
  · refine Tot.neg h (Tot.pos ?_ ?_)
    · unfold fileR
      rw [if_neg h]
      rfl
    · exact Tot.bind (Tot.of_eq rfl) (fun x hx => Tot.ret hx)
end Go.Proofs.Ytdojnbghacabhaa.Pure
