/- Lemmas and contracts for the law FnUrlTime, part 7: of the program's functions, and over data alone. Conditions: the listed package-level variables begin as the program's text lays them (tied by the card). -/
import Derived.Test.YtmplnpjdbfedbaaGreatDoorMFnUrlTime6
import Derived.Test.YtmplnpjdbfedbaaGreatDoorMFnUrlTime2
import Derived.SizedLaws
import Derived.Handed
import Derived.Shelf.Vars
import Derived.Test.YtmplnpjdbfedbaaGreatDoorRows
import Derived.Test.YtmplnpjdbfedbaaGreatDoorMFnUrlTime5
import Derived.Lib.LaidTab
import Derived.LaidMore
import Derived.OpenShut
import Derived.ShutString
import Derived.ChangeOld
import Derived.ChangeSame
import Derived.Below
import Derived.WalkKit
import Derived.ProofKit
import Derived.Stop.Joined
import Derived.OpenVars
import Derived.KernelRfl
import Derived.LaidSub
import Derived.LaidHandle
import Derived.Lay
import Derived.LaidOnce
namespace Go.Proofs.YtmplnpjdbfedbaaGreatDoor.X
open Go.RowKit Go.Proofs.YtmplnpjdbfedbaaGreatDoorW.PrintWords Go.Proofs.YtmplnpjdbfedbaaGreatDoor.Pl Go.Proofs.YtmplnpjdbfedbaaGreatDoor.Pure
set_option linter.unusedSimpArgs false
set_option linter.unusedVariables false
theorem ext_mid (a b c : ByteArray) : (a ++ b ++ c).extract 0 a.size = a := by
  apply ba_ext
  rw [ba_size, ByteArray.data_extract, Array.toList_extract, ba_app, ba_app, List.append_assoc]
  simp
theorem ext_tail (a b c : ByteArray) : ((a ++ b ++ c).extract a.size (a ++ b ++ c).size).data.toList = b.data.toList ++ c.data.toList := by
  rw [ByteArray.data_extract, Array.toList_extract, ba_app, ba_app, List.append_assoc, List.extract_eq_take_drop, ba_size, ba_size, ba_app, ba_app, List.append_assoc]
  rw [List.drop_left]
  exact List.take_of_length_le (by simp)
theorem urlRead_ask {key : List Int} (hk : key.length ≤ 500) {l : List Op} {p : ByteArray} {n : Int} (h : askB l p n = true) (g : ByteArray) (hg : g.size = 16) (now : Int) :
    Tot (fun k => impl_UrlRead.f k key ((askF l p n ++ ⟨#[38, 115, 61]⟩) ++ g) now) (fun r => r.2.2.2 = if g = signF key (askF l p n) ∧ now < n then 200 else 403) := by
  have hsz := askF_500 l p n
  have h5 := (askB_parts h).1
  have hs : ((askF l p n ++ ⟨#[38, 115, 61]⟩) ++ g).size = (askF l p n).size + 19 := by
    rw [ByteArray.size_append, ByteArray.size_append, hg]; rfl
  have e1 : ((askF l p n ++ ⟨#[38, 115, 61]⟩) ++ g).extract 0 (((askF l p n ++ ⟨#[38, 115, 61]⟩) ++ g).size - 3 - 16) = askF l p n := by
    rw [show ((askF l p n ++ ⟨#[38, 115, 61]⟩) ++ g).size - 3 - 16 = (askF l p n).size by omega]; exact ext_mid _ _ _
  have e2 : (((askF l p n ++ ⟨#[38, 115, 61]⟩) ++ g).extract (((askF l p n ++ ⟨#[38, 115, 61]⟩) ++ g).size - 3 - 16) ((askF l p n ++ ⟨#[38, 115, 61]⟩) ++ g).size).data.toList = [38, 115, 61] ++ g.data.toList := by
    have := ext_tail (askF l p n) ⟨#[38, 115, 61]⟩ g
    rw [show ((askF l p n ++ ⟨#[38, 115, 61]⟩) ++ g).size - 3 - 16 = (askF l p n).size by omega]
    exact this
  unfold impl_UrlRead.f urlG
  refine Tot.pos (by omega) (Tot.neg (by omega) (Tot.neg (by omega) (Tot.pos ?_ ?_)))
  · unfold Lib.hasPrefix
    rw [e2]
    rfl
  rw [e1]
  refine Tot.bind (implAsk_complete _ h rfl) ?_
  rintro _ rfl
  refine Tot.pos rfl ?_
  refine Tot.bind (implUrl_tot key l (by omega) p n) ?_
  rintro _ rfl
  have hu : urlF key l p n = (askF l p n ++ ⟨#[38, 115, 61]⟩) ++ signF key (askF l p n) := by unfold urlF; rw [if_pos ⟨h, hk⟩]
  rw [hu]
  by_cases hgs : g = signF key (askF l p n)
  · refine Tot.pos (by rw [hgs]) ?_
    dsimp only
    by_cases hn : now < n
    · exact Tot.neg (by omega) (Tot.ret (by rw [if_pos ⟨hgs, hn⟩]))
    · exact Tot.pos (by omega) (Tot.ret (by rw [if_neg (fun hh => hn hh.2)]; rfl))
  · refine Tot.neg (fun hh => hgs ?_) (Tot.ret (by rw [if_neg (fun hh => hgs hh.1)]; rfl))
    rw [Lib.toList_data, Lib.toList_data] at hh
    simp only [ba_app] at hh
    have := (List.append_inj' hh (by rw [← ba_size, ← ba_size, signF_size, hg])).2
    exact (ba_ext this).symm
theorem urlF_ok {key : List Int} {l : List Op} {p : ByteArray} {t : Int} (h : askB l p t = true) (h5 : key.length ≤ 500) : urlF key l p t = (askF l p t ++ ⟨#[38, 115, 61]⟩) ++ signF key (askF l p t) := by
  unfold urlF; rw [if_pos ⟨h, h5⟩]
theorem urlF_no {key : List Int} {l : List Op} {p : ByteArray} {t : Int} (h : ¬ askB l p t = true) : urlF key l p t = ⟨#[]⟩ := by
  unfold urlF; rw [if_neg (fun hh => h hh.1)]
theorem urlF_ne {key : List Int} {l : List Op} {p : ByteArray} {t : Int} (h : askB l p t = true) (h5 : key.length ≤ 500) : ¬ (urlF key l p t).toList = [] := by
  rw [Lib.toList_data]
  intro hh
  have h1 : (urlF key l p t).size = 0 := by rw [ba_size, hh]; rfl
  rw [urlF_ok h h5, ByteArray.size_append, signF_size] at h1
  omega
theorem drawUrl_tot {l : List Int} (hu : ∀ y ∈ l, 0 ≤ y ∧ y ≤ 255) : Tot (fun k => spec_DrawUrlText.f k l) (fun x => (x.1.length ≤ 32 ∧ ∀ y ∈ x.1, Byt y) ∧ x.2.1.length ≤ 101) := by
  unfold spec_DrawUrlText.f
  obtain ⟨b, hb, hB⟩ := open_some l hu
  refine Tot.bind (Tot.of_eq hb) ?_; rintro _ rfl
  refine Tot.bind (l20Bytes_byt hB 0 (by omega) (by omega) 32 ⟨by omega, by omega⟩) ?_
  rintro ⟨r1, p1⟩ ⟨e1, l1, y1⟩
  dsimp only at e1 l1 y1 ⊢
  refine Tot.bind (l20Ask_tot hB p1 6 (by omega) (by omega) (by omega)) ?_
  rintro ⟨x, s, t, q⟩ ⟨f1, _, _⟩
  exact Tot.ret ⟨⟨by dsimp only; omega, y1⟩, f1⟩
end Go.Proofs.YtmplnpjdbfedbaaGreatDoor.X
namespace Go.Proofs.YtmplnpjdbfedbaaGreatDoor.Pure
open Go.RowKit Go.Proofs.YtmplnpjdbfedbaaGreatDoorW.PrintWords Go.Proofs.YtmplnpjdbfedbaaGreatDoor.Pl Go.Proofs.YtmplnpjdbfedbaaGreatDoor.X
set_option linter.unusedVariables false
set_option linter.unusedSimpArgs false
theorem FnUrlTime : laws_FnUrlTime.Pure := by
  intro l0 _ _ hw0
  have hu0 : ∀ y ∈ l0, 0 ≤ y ∧ y ≤ 255 := fun y hy => ByteOk (hw0 y hy)
  refine Tot.rounds ?_
  unfold laws_FnUrlTime.f
  refine Tot.ite (fun _ => Tot.ret rfl) (fun hl => ?_)
  refine Tot.bind (drawUrl_tot hu0) ?_
  rintro ⟨key, a, p, t⟩ ⟨⟨hk, hkB⟩, ha⟩
  dsimp only at hk hkB ha ⊢
  refine Tot.bind (implUrl_tot key a (by omega) p t) ?_; rintro _ rfl
  refine Tot.bind (specUrl_tot hkB a (by omega) p t) ?_; rintro _ rfl
  refine Tot.pos rfl ?_
  by_cases h : askB a p t = true
  · have h5 : key.length ≤ 500 := by omega
    refine Tot.neg (urlF_ne h h5) ?_
    obtain ⟨_, _, t0, t1⟩ := askB_parts h
    have e1 : wrap64 (t - 2) = t - 2 := wr_id (by omega) (by omega)
    have e2 : wrap64 (t - 2 + (l0.length : Int) % 4) = t - 2 + (l0.length : Int) % 4 := wr_id (by omega) (by omega)
    rw [e1, e2, urlF_ok h h5]
    generalize t - 2 + (l0.length : Int) % 4 = now
    refine Tot.bind (urlRead_ask h5 h (signF key (askF a p t)) (signF_size _ _) now) ?_
    rintro ⟨r1, r2, r3, r4⟩ hr
    dsimp only at hr ⊢
    by_cases hn : now < t
    · rw [if_pos ⟨rfl, hn⟩] at hr
      subst hr
      exact Tot.pos (by rw [decide_eq_true hn]; rfl) (Tot.pos rfl (Tot.ret rfl))
    · rw [if_neg (fun hh => hn hh.2)] at hr
      subst hr
      exact Tot.pos (by rw [decide_eq_false hn]; rfl) (Tot.neg (by decide) (Tot.ret rfl))
  · rw [urlF_no h]
    exact Tot.pos (by rw [Lib.toList_data]) (Tot.bind (Tot.of_eq rfl) (fun x hx => Tot.ret hx))
end Go.Proofs.YtmplnpjdbfedbaaGreatDoor.Pure
namespace Go.Proofs.YtmplnpjdbfedbaaGreatDoor.X
set_option linter.unusedVariables false
variable {H : Type} {enc : TypeId × Value → H}
theorem returnsBoth {a : Assume} {C : Checked} {os : Os} {f : FuncId} {fn : Func} {s : ChangeSpec} {conds : List PathCond} {apart fresh handsOn again : Bool} {X : World → Array Value → Prop}
    (hX : ∀ (w w' : World) (args : Array Value), w.heap = w'.heap → X w args → X w' args)
    (own : ownKnob C.prog.godebug = none) (started : os.Started) (noInit : C.prog.inits.idxOf? f = none) (hfn : C.prog.funcs[f]? = some fn)
    (witness : ∃ (w : World) (tape : Tape) (i : Input), w.os = os ∧ (w.forCall tape i).Shaped C.prog ∧ i.vars = [] ∧ Input.okWide C.prog (w.forCall tape i) .any w.heap.size f i ∧
      ((s.pre enc C.prog fn conds apart (w.forCall tape i).memory i.args ∧ X (w.forCall tape i).memory i.args) ∧ sizedMet enc C.prog fn (OpenSpec.ofChange s) apart (w.forCall tape i).memory i.args) ∧ a.holds C.prog (lone (Frame.enter C.prog f i.args .normal) [] (w.forCall tape i)))
    (contract : ∀ (W : World) (base : Nat) (args : Array Value) (ds gs : List (DataW H)) (before : List MemPlace),
      (∀ (j : Nat) t v, fn.params[j]? = some t → args[j]? = some v → Value.okWide C.prog W .any base t v) →
      DataW.Whole enc C.prog fn.params.toList s.vars apart W args.toList ds gs before →
      conds.all (PathCond.test C.prog ⟨fn.params.toList, ds, s.plain.varTypes C.prog, gs⟩) = true →
      (DataW.weightsEach C.prog (fn.params.toList ++ s.plain.varTypes C.prog) (ds ++ gs)).all (· ≤ reachBytes) = true → X W args ∧ W.ShapedOpen C.prog →
      a.holds C.prog (lone (Frame.enter C.prog f args .normal) [] W) →
      Calls C.prog f args W fun e W' => ∃ v, e = .returned v ∧ s.post enc C.prog fn apart fresh handsOn again W args v W') :
    ReturnsInHanded a C os f .any (fun w args => (s.pre enc C.prog fn conds apart w args ∧ X w args) ∧ sizedMet enc C.prog fn (OpenSpec.ofChange s) apart w args) (s.post enc C.prog fn apart fresh handsOn again) := by
  refine returnsInHanded_of_calls own started noInit witness ?_
  intro w tape i _ hsh _ hok hpre hholds
  obtain ⟨_, _, _, fn', hfn', _, _, _, _, hval⟩ := hok
  have e : fn' = fn := Option.some.inj (hfn'.symm.trans hfn)
  subst e
  obtain ⟨⟨⟨ds, gs, before, hw, hc⟩, hx⟩, hz⟩ := hpre
  have hw' := DataW.Whole.of_heap (w' := w.forCall tape i) (by rfl) hw
  refine (contract (w.forCall tape i) w.heap.size i.args ds gs before hval hw' hc (hz.weights hw) ⟨hX _ _ _ (by rfl) hx, hsh⟩ hholds).mono fun e W' ⟨v, he, hp⟩ => ?_
  subst he
  exact ChangeSpec.post_blind hp
end Go.Proofs.YtmplnpjdbfedbaaGreatDoor.X
namespace Go.Proofs.YtmplnpjdbfedbaaGreatDoor.X
set_option linter.unusedVariables false
set_option linter.unusedSimpArgs false
set_option linter.unusedSectionVars false
open Go.ChangeShapes Go.WideShapes Go.ChangeAt Go.WideMaps Go.WideElems Go.RowKit Go.Proofs.YtmplnpjdbfedbaaGreatDoorW.PrintWords
abbrev laid9 : List (String × DataW Unit) := [("math/bits.deBruijn32tab", Rows.laid_math_bits_deBruijn32tab), ("math/bits.deBruijn64tab", Rows.laid_math_bits_deBruijn64tab), ("internal/strconv.uint64pow10", Rows.laid_internal_strconv_uint64pow10), ("unicode/utf8.acceptRanges", Rows.laid_unicode_utf8_acceptRanges), ("errors.errorType", Rows.laid_errors_errorType), ("loop.example/easel/impl.shaStart", Rows.laid_loop_example_easel_impl_shaStart), ("loop.example/easel/impl.shaRounds", Rows.laid_loop_example_easel_impl_shaRounds), ("loop.example/easel/impl.opForms", Rows.laid_loop_example_easel_impl_opForms), ("unicode/utf8.first", Rows.laid_unicode_utf8_first)]
abbrev laid8 : List (String × DataW Unit) := [("math/bits.deBruijn32tab", Rows.laid_math_bits_deBruijn32tab), ("math/bits.deBruijn64tab", Rows.laid_math_bits_deBruijn64tab), ("internal/strconv.uint64pow10", Rows.laid_internal_strconv_uint64pow10), ("unicode/utf8.acceptRanges", Rows.laid_unicode_utf8_acceptRanges), ("loop.example/easel/impl.shaStart", Rows.laid_loop_example_easel_impl_shaStart), ("loop.example/easel/impl.shaRounds", Rows.laid_loop_example_easel_impl_shaRounds), ("loop.example/easel/impl.opForms", Rows.laid_loop_example_easel_impl_opForms), ("unicode/utf8.first", Rows.laid_unicode_utf8_first)]
abbrev laidU : List (String × DataW Unit) := [("internal/strconv.uint64pow10", Rows.laid_internal_strconv_uint64pow10), ("loop.example/easel/impl.shaStart", Rows.laid_loop_example_easel_impl_shaStart), ("loop.example/easel/impl.shaRounds", Rows.laid_loop_example_easel_impl_shaRounds), ("loop.example/easel/impl.opForms", Rows.laid_loop_example_easel_impl_opForms)]
noncomputable def laid0 (os : Os) : World := { World.holding Tryz.prog os ⟨#[], #[], []⟩ with heap := ⟨Lay.setRows (World.holding Tryz.prog os ⟨#[], #[], []⟩).heap.toList [(0, [.iface 131 (.agg #[typeHandle Tryz.prog 49])])]⟩ }
noncomputable def laidUr (os : Os) : World := (laid0 os).layVars Tryz.prog laid8
theorem laidUr_os (os : Os) : (laidUr os).os = os := World.layVars_os _ _ _
set_option maxRecDepth 100000 in
theorem door_met (os : Os) (args : Array Value) : laidMetH Tryz.prog laid9 ((laidUr os).forCall (fun _ _ => 0) ⟨#[], args, []⟩).memory := by
  refine laidMetH_of_parts ?_ (by kernel_rfl)
  rw [show laid9.filter (fun x => x.2.handleName?.isNone) = laid8 from by kernel_rfl]
  have e1 : (laid8.filter fun x => (laid8.map (·.1)).contains x.1) = laid8 := List.filter_eq_self.2 fun x hx => List.contains_iff_mem.2 (List.mem_map.2 ⟨x, hx, rfl⟩)
  have e2 : (laid8.filter fun x => !(laid8.map (·.1)).contains x.1) = [] := List.filter_eq_nil_iff.2 fun x hx => by rw [List.contains_iff_mem.2 (List.mem_map.2 ⟨x, hx, rfl⟩)]; simp
  have h : laidMet Tryz.prog laid8 (laidUr os) := laidMet_layVars (w0 := laid0 os) (laid8.map (·.1)) [] (by rw [e1]; rfl) (by rw [e1]; kernel_rfl) (by rw [e1]; kernel_rfl) (by rw [e2]; exact LaidIn.none)
  exact h.of_heap (by simp [World.memory, World.forCall, Input.heap])
theorem gF : Tryz.prog.globalNamed "loop.example/easel/impl.opForms" = some 1 := by kernel_rfl
theorem tF : (Tryz.prog.globals[1]?).map (·.type) = some 121 := by kernel_rfl
theorem tP : (Tryz.prog.globals[5]?).map (·.type) = some 180 := by kernel_rfl
theorem gS : Tryz.prog.globalNamed "loop.example/easel/impl.shaStart" = some 2 := by kernel_rfl
theorem gK : Tryz.prog.globalNamed "loop.example/easel/impl.shaRounds" = some 4 := by kernel_rfl
theorem tS : (Tryz.prog.globals[2]?).map (·.type) = some 147 := by kernel_rfl
theorem tK : (Tryz.prog.globals[4]?).map (·.type) = some 177 := by kernel_rfl
theorem blk_of_var {w : World} {name : String} {g : Nat} {cs : Array Value} (hg : Tryz.prog.globalNamed name = some g) (h : w.var? Tryz.prog name = some cs) : ∃ t fr, w.heap[g]? = some (.cells cs t fr) := by
  unfold World.var? at h
  rw [hg] at h
  simp only [Option.bind_some] at h
  split at h
  · rename_i cs' t fr hh
    obtain rfl := Option.some.inj h
    exact ⟨t, fr, hh⟩
  · cases h
variable {H : Type} {enc : TypeId × Value → H} {P : Program} {w : World} {base : Nat} {sp : Nat → Bool} {held : Bool}
theorem cells_of_rows {fuel : Nat} {t e : TypeId} {n : Nat} {cs : List Value} {p : List MemPlace} {ds : List (DataW H)} (L : List (List Value))
    (ht : P.underlying t = some (.array n e)) (hct : P.cellsOf t = n * P.cellsOf e) (hL : ∀ (i : Nat) (l : List Value), L[i]? = some l → l.length = P.cellsOf e) (hn : L.length = n)
    (he : ∀ (i : Nat) (m : Nat) (d : DataW H) (l c : List Value) (q : List MemPlace), ds[i]? = some d → L[i]? = some l → DataW.trod enc P w base sp held m e c = some (d, q) → c = l)
    (h : DataW.trod enc P w base sp held fuel t cs = some (.agg ds, p)) : cs = L.flatten := by
  obtain ⟨xs, m, rfl, hx, hl, hlen, hf⟩ := DataW.trod_array ht h
  obtain ⟨hd, -⟩ := Prod.mk.inj hx
  have hds : ds = xs.map (·.1) := by injection hd
  have key : ∀ (i : Nat) (l : List Value), L[i]? = some l → (cs.drop (i * P.cellsOf e)).take (P.cellsOf e) = l := by
    intro i l hi
    have hin : i < n := by have := (List.getElem?_eq_some_iff.1 hi).1; omega
    have h1 := hf i hin
    have hix : i < xs.length := by omega
    rw [List.getElem?_eq_getElem hix] at h1
    refine he i m (xs[i]).1 l _ (xs[i]).2 ?_ hi h1
    rw [hds, List.getElem?_map, List.getElem?_eq_getElem hix]
    rfl
  have gen : ∀ (L : List (List Value)) (cs : List Value), (∀ (i : Nat) (l : List Value), L[i]? = some l → (cs.drop (i * P.cellsOf e)).take (P.cellsOf e) = l) → cs.length = L.length * P.cellsOf e → cs = L.flatten := by
    intro L
    induction L with
    | nil => intro cs _ h; simp at h; simp [h]
    | cons a L ih =>
      intro cs hk hlen
      have h0 := hk 0 a rfl
      rw [Nat.zero_mul, List.drop_zero] at h0
      rw [List.length_cons, Nat.add_mul, Nat.one_mul] at hlen
      have h1 := ih (cs.drop (P.cellsOf e)) (fun i l hi => by
        rw [List.drop_drop, show P.cellsOf e + i * P.cellsOf e = (i + 1) * P.cellsOf e by rw [Nat.add_mul]; omega]
        exact hk (i + 1) l (by simpa using hi)) (by rw [List.length_drop]; omega)
      rw [List.flatten_cons, ← h1, ← h0, List.take_append_drop]
  exact gen L cs key (by rw [hl, hct, hn])
set_option maxRecDepth 100000 in
theorem form_cells {m : Nat} {c : List Value} {s : List UInt8} {n : Int} {q : List MemPlace} (h : DataW.trod enc Tryz.prog w base sp held m 120 c = some (.agg [.lit (.string s), .lit (.int .i64 n)], q)) : c = [.string ⟨s.toArray⟩, .int .i64 n] := by
  obtain ⟨y0, y1, k, hx, hl, h0, h1⟩ := trod_struct2 Tryz.underlying120 h
  have hx := (Prod.mk.inj hx).1
  injection hx with hx
  injection hx with e0 hx
  injection hx with e1 _
  obtain ⟨s', hc0, rfl, _⟩ := DataW.trod_string Tryz.underlying9 h0
  obtain ⟨n', hc1, rfl, _⟩ := DataW.trod_int Tryz.underlying3 h1
  injection e0 with e0; injection e0 with e0
  injection e1 with e1; injection e1 with _ e1
  have hl2 : c.length = 2 := hl.trans (by kernel_rfl)
  match c, hl2 with
  | [a, b], _ =>
    have ha : [a] = [Value.string s'] := hc0
    have hb : [b] = [Value.int .i64 n'] := hc1
    cases ha; cases hb
    subst e1
    rw [e0]
set_option maxRecDepth 100000 in
theorem err_one : ((List.range Tryz.prog.types.size).all fun ty => !Tryz.prog.rowNamed ty [101, 114, 114, 111, 114] || ty == 49) = true := by kernel_rfl
theorem gErr : Tryz.prog.globalNamed "errors.errorType" = some 0 := by kernel_rfl
theorem err_of {W : World} (h : laidMetH Tryz.prog laid9 W) : W.cell? ⟨0, 0, none⟩ = some (.iface 131 (.agg #[.pointer (some ⟨10, 49, none⟩)])) := by
  have hx := (laidMetH_iff.1 h).2 ("errors.errorType", Rows.laid_errors_errorType) (List.mem_filter.2 ⟨.tail _ (.tail _ (.tail _ (.tail _ (.head _)))), by kernel_rfl⟩)
  simp only [show DataW.funcsIn? (H := Unit) Rows.laid_errors_errorType = none by kernel_rfl] at hx
  obtain ⟨name, u, ty, e1, e2, e3, e4, e5⟩ := hx
  obtain rfl := Option.some.inj ((show DataW.handleName? (H := Unit) Rows.laid_errors_errorType = some [101, 114, 114, 111, 114] by kernel_rfl).symm.trans e1)
  obtain rfl := Option.some.inj ((show (Tryz.prog.cutTypes.find? (·.1 == "internal/reflectlite.rtype")).map (·.2) = some 131 by kernel_rfl).symm.trans e2)
  obtain rfl : ty = 49 := by have := List.all_eq_true.1 err_one ty (List.mem_range.2 e3); rw [e4] at this; simpa using this
  obtain ⟨t, fr, hh⟩ := blk_of_var gErr e5
  rw [show typeHandle Tryz.prog 49 = .pointer (some ⟨10, 49, none⟩) by kernel_rfl] at hh
  simp [World.cell?, hh]
theorem glob_of {W : World} (hh : laidMetH Tryz.prog laid9 W ∧ W.ShapedOpen Tryz.prog) : Glob W := by
  obtain ⟨h, hsh⟩ := hh
  have herr := err_of h
  have h := laidMetH.filter (fun x => x.1 == "internal/strconv.uint64pow10" || x.1 == "loop.example/easel/impl.shaStart" || x.1 == "loop.example/easel/impl.shaRounds" || x.1 == "loop.example/easel/impl.opForms") h
  rw [show laid9.filter (fun x => x.1 == "internal/strconv.uint64pow10" || x.1 == "loop.example/easel/impl.shaStart" || x.1 == "loop.example/easel/impl.shaRounds" || x.1 == "loop.example/easel/impl.opForms") = laidU from rfl] at h
  rw [MakeChecks.laidMetH_plain _ _ _ (by kernel_rfl)] at h
  have hmax := cell_of_shapedOpen_int (P := Tryz.prog) (g := 3) (t := 3) (zero := #[.int .i64 0]) hsh (of_decide_eq_true (by kernel_rfl)) (by kernel_rfl) rfl (by kernel_rfl) (by kernel_rfl) Tryz.underlying3
  obtain ⟨ps, ⟨g2, t2, cs2, f2, p2, q2, hg2, ht2, hv2, hd2, ⟨g4, t4, cs4, f4, p4, q4, hg4, ht4, hv4, hd4, ⟨g5, t5, cs5, f5, p5, q5, hg5, ht5, hv5, hd5, ⟨g3, t3, cs3, f3, p3, q3, hg3, ht3, hv3, hd3, _⟩, _⟩, _⟩, _⟩, _, _⟩ := h
  obtain rfl := Option.some.inj (gPow.symm.trans hg2)
  obtain rfl := Option.some.inj (gF.symm.trans hg3)
  obtain rfl := Option.some.inj (gS.symm.trans hg4)
  obtain rfl := Option.some.inj (gK.symm.trans hg5)
  obtain rfl := Option.some.inj (tP.symm.trans ht2)
  obtain rfl := Option.some.inj (tF.symm.trans ht3)
  obtain rfl := Option.some.inj (tS.symm.trans ht4)
  obtain rfl := Option.some.inj (tK.symm.trans ht5)
  have e2 := Lib.cells_of_tab (zs := Lib.pow10Tab) (k := .u64) Tryz.underlying180 Tryz.underlying149 (by kernel_rfl) (by kernel_rfl) hd2
  have e4 := Lib.cells_of_tab (zs := shS0) (k := .u32) Tryz.underlying147 Tryz.underlying146 (by kernel_rfl) (by kernel_rfl) hd4
  have e5 := Lib.cells_of_tab (zs := shK0) (k := .u32) Tryz.underlying177 Tryz.underlying146 (by kernel_rfl) (by kernel_rfl) hd5
  obtain ⟨t, fr, hh⟩ := blk_of_var gF hv3
  obtain ⟨t', fr', hh'⟩ := blk_of_var gPow hv2
  obtain ⟨t4', fr4, hh4⟩ := blk_of_var gS hv4
  obtain ⟨t5', fr5, hh5⟩ := blk_of_var gK hv5
  have e3 := cells_of_rows [[.string ⟨#[]⟩, .int .i64 0], [.string ⟨#[99, 114, 111, 112]⟩, .int .i64 4], [.string ⟨#[102, 108, 105, 112, 120]⟩, .int .i64 0], [.string ⟨#[102, 108, 105, 112, 121]⟩, .int .i64 0], [.string ⟨#[116, 117, 114, 110]⟩, .int .i64 0], [.string ⟨#[103, 114, 97, 121]⟩, .int .i64 0], [.string ⟨#[98, 108, 117, 114]⟩, .int .i64 0], [.string ⟨#[115, 105, 122, 101]⟩, .int .i64 2], [.string ⟨#[102, 108, 97, 116]⟩, .int .i64 3]] Tryz.underlying121 (by kernel_rfl)
    (fun i l hi => by
      have hm := List.mem_of_getElem? hi
      have : l.length = 2 := by simp only [List.mem_cons, List.not_mem_nil, or_false] at hm; rcases hm with rfl | rfl | rfl | rfl | rfl | rfl | rfl | rfl | rfl <;> rfl
      exact this.trans (by kernel_rfl)) rfl
    (fun i m d l c q hd hl hc => by
      match i, hd, hl with
      | 0, hd, hl => cases hd; cases hl; exact form_cells hc
      | 1, hd, hl => cases hd; cases hl; exact form_cells hc
      | 2, hd, hl => cases hd; cases hl; exact form_cells hc
      | 3, hd, hl => cases hd; cases hl; exact form_cells hc
      | 4, hd, hl => cases hd; cases hl; exact form_cells hc
      | 5, hd, hl => cases hd; cases hl; exact form_cells hc
      | 6, hd, hl => cases hd; cases hl; exact form_cells hc
      | 7, hd, hl => cases hd; cases hl; exact form_cells hc
      | 8, hd, hl => cases hd; cases hl; exact form_cells hc
      | _ + 9, hd, _ => cases hd) hd3
  refine ⟨⟨t, fr, ?_⟩, ⟨t', fr', ?_⟩, ⟨t4', fr4, ?_⟩, ⟨t5', fr5, ?_⟩, hmax, herr⟩
  · rw [hh]; congr 2; rw [← Array.toArray_toList (xs := cs3), e3]; rfl
  · rw [hh']; congr 2; rw [← e2]
  · rw [hh4]; congr 2; rw [nums, ← e4]
  · rw [hh5]; congr 2; rw [nums, ← e5]
theorem vars3 {n1 n2 n3 : String} : ∀ {gs : List (DataW H)} {q : List MemPlace}, DataW.TrodVars enc Tryz.prog w sp [n1, n2, n3] gs q → ∃ g1 g2 g3, gs = [g1, g2, g3]
  | [], _, h => h.elim
  | [_], _, h => by obtain ⟨_, _, _, _, _, _, _, _, _, _, h, _⟩ := h; exact h.elim
  | [_, _], _, h => by obtain ⟨_, _, _, _, _, _, _, _, _, _, h, _⟩ := h; obtain ⟨_, _, _, _, _, _, _, _, _, _, h, _⟩ := h; exact h.elim
  | [a, b, c], _, _ => ⟨a, b, c, rfl⟩
  | _ :: _ :: _ :: _ :: _, _, h => by obtain ⟨_, _, _, _, _, _, _, _, _, _, h, _⟩ := h; obtain ⟨_, _, _, _, _, _, _, _, _, _, h, _⟩ := h; obtain ⟨_, _, _, _, _, _, _, _, _, _, h, _⟩ := h; exact h.elim
end Go.Proofs.YtmplnpjdbfedbaaGreatDoor.X
