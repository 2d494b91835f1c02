/- Lemmas and contracts for the law FnUrlWords, part 7: of the program's functions, and over data alone. Conditions: the listed package-level variables begin as the program's text lays them (tied by the card). -/
import Derived.Test.YtmplnpjdbfedbaaGreatDoorMFnUrlWords6
import Derived.Test.YtmplnpjdbfedbaaGreatDoorMFnUrlWords4
import Derived.Test.YtmplnpjdbfedbaaGreatDoorMFnUrlWords3
import Derived.SizedLaws
import Derived.Handed
import Derived.Shelf.Vars
import Derived.Test.YtmplnpjdbfedbaaGreatDoorMFnUrlWords2
import Derived.Test.YtmplnpjdbfedbaaGreatDoorRows
import Derived.Test.YtmplnpjdbfedbaaGreatDoorMFnUrlWords5
import Derived.Lib.LaidTab
import Derived.LaidMore
import Derived.OpenShut
import Derived.ShutString
import Derived.ChangeOld
import Derived.ChangeSame
import Derived.Below
import Derived.WalkKit
import Derived.ProofKit
import Derived.Stop.Joined
import Derived.OpenVars
import Derived.KernelRfl
import Derived.LaidSub
import Derived.LaidHandle
import Derived.Lay
import Derived.LaidOnce
namespace Go.Proofs.YtmplnpjdbfedbaaGreatDoor.X
open Go.RowKit Go.Proofs.YtmplnpjdbfedbaaGreatDoorW.PrintWords Go.Proofs.YtmplnpjdbfedbaaGreatDoor.Pl
set_option linter.unusedSimpArgs false
set_option linter.unusedVariables false
theorem rdOf_nat (ps : List ByteArray) (i : Nat) (h : i < ps.length) : rdOf ByteArray.empty ps (i : Int) = ps[i] := by
  unfold rdOf
  simp [List.getD_eq_getElem?_getD, h]
theorem l7Read_any (ps : List ByteArray) (hps : ∀ p ∈ ps, p.size ≤ 1048576) (hl : ps.length ≤ 1048577) : ∀ e i, i + e = ps.length → ∀ acc : List Op, acc.length ≤ i → Tot (fun k => spec_l7Read.l0 k acc ps i) (fun r => r.1.length ≤ 1048577)
  | 0, i, h, acc, ha => by
    refine Tot.succ ?_
    simp only [spec_l7Read.l0]
    exact Tot.neg (by omega) (Tot.ret (by dsimp only; omega))
  | e + 1, i, h, acc, ha => by
    have hi : i < ps.length := by omega
    refine Tot.succ ?_
    simp only [spec_l7Read.l0]
    refine Tot.pos (by omega) (Tot.pos (by omega) ?_)
    rw [rdOf_nat ps i hi]
    refine Tot.bind (specRead_tot _ (hps _ (List.getElem_mem hi))) ?_
    intro r _
    refine Tot.ite (fun _ => Tot.pos (by omega) ?_) (fun _ => Tot.ret (by simp))
    rw [wr_id (by omega) (by omega)]
    exact l7Read_any ps hps hl e (i + 1) (by omega) _ (by rw [List.length_append]; simp only [List.length_cons, List.length_nil]; omega)
theorem parts_okB (s : List UInt8) (c : UInt8) (hs : s.length ≤ 1048576) : (∀ p ∈ (parts c s).map baOf, p.size ≤ 1048576) ∧ ((parts c s).map baOf).length ≤ 1048577 := by
  refine ⟨fun p hp => ?_, ?_⟩
  · obtain ⟨q, hq, rfl⟩ := List.mem_map.1 hp
    have := parts_mem q hq
    rw [ba_size, baOf_list]
    omega
  · rw [List.length_map]
    have := (parts_len (c := c) s).1
    omega
theorem l7Read_sound (s : ByteArray) (hs : s.size ≤ 1048576) : Tot (fun k => spec_l7Read.f k s) (fun r => r.1.length ≤ 1048577) := by
  unfold spec_l7Read.f
  refine Tot.some_bind (Tot.ite (fun _ => Tot.ret (by simp)) (fun _ => ?_))
  refine Tot.bind (l7Cut_tot s 44 hs) ?_
  rintro _ rfl
  have hp := parts_okB s.data.toList 44 (by rw [← ba_size]; exact hs)
  exact l7Read_any _ hp.1 hp.2 _ 0 (Nat.zero_add _) [] (by simp)
theorem l7Read_ops (l : List Op) (h : ∀ x ∈ l, okB x = true) (h5 : l.length ≤ 5) : ∀ e i, i + e = l.length → Tot (fun k => spec_l7Read.l0 k (l.take i) ((l.map fun y => (opT y).data.toList).map baOf) i) (fun r => r = (l, true))
  | 0, i, hi => by
    refine Tot.succ ?_
    simp only [spec_l7Read.l0]
    refine Tot.neg (by simp; omega) (Tot.ret ?_)
    rw [List.take_of_length_le (by omega)]
  | e + 1, i, hi => by
    have hlt : i < l.length := by omega
    have ih := l7Read_ops l h h5 e (i + 1) (by omega)
    refine Tot.succ ?_
    simp only [spec_l7Read.l0]
    refine Tot.pos (by simp; omega) (Tot.pos (by omega) ?_)
    rw [rdOf_nat _ i (by simp; exact hlt)]
    have hx := h _ (List.getElem_mem hlt)
    have hsz := opT_21 hx
    rw [show ((l.map fun y => (opT y).data.toList).map baOf)[i]'(by simp; exact hlt) = opT l[i] by simp [baOf_self]]
    refine Tot.bind (specRead_complete (opT l[i]) (by rw [ba_size]; omega) (o := (l[i]).f0) (a := (l[i]).f1) (b := (l[i]).f2) (c := (l[i]).f3) (d := (l[i]).f4) hx rfl) ?_
    rintro _ rfl
    refine Tot.pos rfl (Tot.pos (by rw [List.length_take]; omega) ?_)
    rw [wr_id (by omega) (by omega)]
    have e2 : l.take i ++ [(⟨(l[i]).f0, (l[i]).f1, (l[i]).f2, (l[i]).f3, (l[i]).f4⟩ : Op)] = l.take (i + 1) := by
      rw [List.take_add_one, List.getElem?_eq_getElem hlt]
      rfl
    rw [e2]
    exact ih
theorem l7Read_complete (l : List Op) (h : ∀ x ∈ l, okB x = true) (h5 : l.length ≤ 5) : Tot (fun k => spec_l7Read.f k (baOf (opsL l))) (fun r => r = (l, true)) := by
  have hlen := opsL_len h h5
  unfold spec_l7Read.f
  refine Tot.some_bind ?_
  by_cases hd : opsL l = [45]
  · refine Tot.pos (by rw [Lib.toList_data, baOf_list, hd]) (Tot.ret ?_)
    rw [(opsL_dash h).1 hd]
  · refine Tot.neg (by rw [Lib.toList_data, baOf_list]; exact hd) ?_
    refine Tot.bind (l7Cut_tot _ 44 (by rw [ba_size, baOf_list]; omega)) ?_
    rintro _ rfl
    rw [baOf_list, opsL_parts h, if_neg (fun hh => hd ((opsL_dash h).2 hh))]
    exact l7Read_ops l h h5 l.length 0 (by omega)
theorem specAskJ1 (s : ByteArray) (x5 : List Op) (h5 : x5.length ≤ 1048577) (x7 : List ByteArray) (c : Bool) (hc : c = false → x7.length = 2 ∧ 3 ≤ (rdOf ByteArray.empty x7 1).size) : Tot (fun k => spec_AskRead.j1 k s x5 x7 c) (fun r => SaidA s r ∨ r = zA) := by
  refine Tot.succ ?_
  simp only [spec_AskRead.j1]
  refine Tot.ite (fun _ => Tot.ret (.inr rfl)) (fun hn => ?_)
  obtain ⟨h2, h3⟩ := hc (Bool.eq_false_iff.2 hn)
  refine Tot.pos (by omega) (Tot.pos (by omega) (Tot.pos (by omega) ?_))
  refine Tot.bind (l7Num_tot _) ?_
  intro n _
  refine Tot.bind (spec_AskText_tot x5 (by omega) _ n) ?_
  rintro _ rfl
  refine Tot.ite (fun he => Tot.ite (fun _ => Tot.ret (.inr rfl)) (fun h0 => Tot.ret (.inl ⟨x5, _, n, ?_, toList_ba.1 he, rfl⟩))) (fun _ => Tot.ret (.inr rfl))
  cases hk : askB x5 (rdOf ByteArray.empty x7 0) n with
  | true => rfl
  | false =>
    have he2 := toList_ba.1 he
    rw [askF_no hk] at he2
    rw [← he2] at h0
    exact absurd (by rw [Lib.toList_data]) h0
theorem specAskJ0 (s : ByteArray) (ps : List ByteArray) (hps : ∀ p ∈ ps, p.size ≤ 1048576) (c : Bool) (hc : c = false → ps.length = 3) : Tot (fun k => spec_AskRead.j0 k s ps c) (fun r => SaidA s r ∨ r = zA) := by
  refine Tot.succ ?_
  simp only [spec_AskRead.j0]
  refine Tot.ite (fun _ => Tot.ret (.inr rfl)) (fun hn => ?_)
  have h3 := hc (Bool.eq_false_iff.2 hn)
  have r1 : rdOf ByteArray.empty ps 1 = ps[1] := rdOf_nat ps 1 (by omega)
  have r2 : rdOf ByteArray.empty ps 2 = ps[2] := rdOf_nat ps 2 (by omega)
  refine Tot.pos (by omega) ?_
  rw [r1, r2]
  refine Tot.bind (l7Read_sound _ (hps _ (List.getElem_mem _))) ?_
  intro x hx
  refine Tot.pos (by omega) ?_
  refine Tot.bind (l7Cut_tot _ 63 (hps _ (List.getElem_mem _))) ?_
  intro y _
  refine Tot.ite (fun _ => Tot.ite (fun h2 => Tot.pos (by omega) ?_) (fun _ => ?_)) (fun _ => ?_)
  · refine specAskJ1 s _ hx y _ (fun hd => ⟨by omega, ?_⟩)
    have := of_decide_eq_false hd
    omega
  · exact specAskJ1 s _ hx y _ (fun hd => by cases hd)
  · exact specAskJ1 s _ hx y _ (fun hd => by cases hd)
theorem specAsk_sound (s : ByteArray) (hs : s.size ≤ 1048576) : Tot (fun k => spec_AskRead.f k s) (fun r => SaidA s r ∨ r = zA) := by
  unfold spec_AskRead.f
  refine Tot.bind (l7Cut_tot s 47 hs) ?_
  rintro _ rfl
  have hp := parts_okB s.data.toList 47 (by rw [← ba_size]; exact hs)
  refine Tot.ite (fun _ => specAskJ0 s _ hp.1 _ (fun hd => by cases hd)) (fun _ => specAskJ0 s _ hp.1 _ (fun hd => ?_))
  have := bne_eq_false_iff_eq.1 hd
  omega
theorem specAsk_complete (s : ByteArray) {l : List Op} {p : ByteArray} {n : Int} (h : askB l p n = true) (e : askF l p n = s) : Tot (fun k => spec_AskRead.f k s) (fun r => r = (l, p, n, true)) := by
  obtain ⟨m, rfl, hm, hok, hnm, h5, ht, hsz⟩ := ask_form h
  rw [e] at ht hsz
  obtain ⟨q1, q2⟩ := ask_parts (n := m) hok hnm
  have hs : (askI (opsF l) p (m : Int)) = s := by rw [← e]; unfold askF; rw [if_pos h]
  rw [hs] at q1
  have hi := (itoa_le4 m hm).1
  unfold spec_AskRead.f
  refine Tot.bind (l7Cut_tot s 47 (by omega)) ?_
  rintro _ rfl
  rw [q1]
  refine Tot.neg (by omega) ?_
  refine Tot.succ ?_
  simp only [spec_AskRead.j0]
  refine Tot.neg (by simp) (Tot.pos (by simp) ?_)
  rw [show rdOf ByteArray.empty (([[], opsL l, p.data.toList ++ 63 :: (101 :: 61 :: Lib.itoa (m : Int))]).map baOf) 1 = baOf (opsL l) from rfl, show rdOf ByteArray.empty (([[], opsL l, p.data.toList ++ 63 :: (101 :: 61 :: Lib.itoa (m : Int))]).map baOf) 2 = baOf (p.data.toList ++ 63 :: (101 :: 61 :: Lib.itoa (m : Int))) from rfl]
  refine Tot.bind (l7Read_complete l hok h5) ?_
  rintro _ rfl
  have hlast : (baOf (p.data.toList ++ 63 :: (101 :: 61 :: Lib.itoa (m : Int)))).size ≤ 1048576 := by
    have := congrArg List.length ht
    rw [ba_size] at hsz
    rw [ba_size, baOf_list]
    simp only [List.length_cons, List.length_append] at this ⊢
    omega
  refine Tot.pos (by show (2 : Int) < ((3 : Nat) : Int); decide) ?_
  refine Tot.bind (l7Cut_tot _ 63 hlast) ?_
  rintro _ rfl
  rw [baOf_list, q2]
  have hr1 : rdOf ByteArray.empty (([p.data.toList, 101 :: 61 :: Lib.itoa (m : Int)]).map baOf) 1 = baOf (101 :: 61 :: Lib.itoa (m : Int)) := rfl
  have hr0 : rdOf ByteArray.empty (([p.data.toList, 101 :: 61 :: Lib.itoa (m : Int)]).map baOf) 0 = p := baOf_self p
  have hz : (baOf (101 :: 61 :: Lib.itoa (m : Int))).size = 2 + (Lib.itoa (m : Int)).length := by
    rw [ba_size, baOf_list]; simp only [List.length_cons]; omega
  refine Tot.pos rfl (Tot.pos (by show ((2 : Nat) : Int) = 2; decide) (Tot.pos (by show (1 : Int) < ((2 : Nat) : Int); decide) ?_))
  rw [hr1, hz, show decide (((2 + (Lib.itoa (m : Int)).length : Nat) : Int) < 3) = false from decide_eq_false (by omega)]
  refine Tot.succ ?_
  simp only [spec_AskRead.j1]
  refine Tot.neg (by decide) (Tot.pos (by show (0 : Int) < ((2 : Nat) : Int); decide) (Tot.pos (by show (1 : Int) < ((2 : Nat) : Int); decide) ?_))
  rw [hr1, hr0, hz]
  refine Tot.pos (by omega) ?_
  have hx : (baOf (101 :: 61 :: Lib.itoa (m : Int))).extract 2 (2 + (Lib.itoa (m : Int)).length) = baOf (Lib.itoa (m : Int)) := by
    apply ba_ext
    rw [ByteArray.data_extract, Array.toList_extract, baOf_list, baOf_list]
    rw [List.extract_eq_take_drop]
    simp
  rw [hx]
  refine Tot.bind (l7Num_tot _) ?_
  intro v hv
  obtain rfl := hv m hm rfl
  refine Tot.bind (spec_AskText_tot l (by omega) p (m : Int)) ?_
  rintro _ rfl
  refine Tot.pos (by rw [e]) (Tot.neg (fun hh => ?_) (Tot.ret rfl))
  rw [Lib.toList_data, ht] at hh
  cases hh
theorem specAsk_tot (s : ByteArray) (hs : s.size ≤ 1048576) : Tot (fun k => spec_AskRead.f k s) (fun r => SaidA s r ∨ ((∀ r, ¬ SaidA s r) ∧ r = zA)) := by
  by_cases hx : ∃ r, SaidA s r
  · obtain ⟨_, l, p, n, h, e, rfl⟩ := hx
    exact Tot.mono (specAsk_complete s h e) (fun r hr => .inl ⟨l, p, n, h, e, hr⟩)
  · exact Tot.mono (specAsk_sound s hs) (fun r hr => hr.elim .inl (fun hz => .inr ⟨fun r h => hx ⟨r, h⟩, hz⟩))
theorem saidA_one {s : ByteArray} {r r' : AskR} (h : SaidA s r) (h' : SaidA s r') : r = r' := by
  obtain ⟨l, p, n, h1, h2, rfl⟩ := h
  obtain ⟨l', p', n', h1', h2', rfl⟩ := h'
  obtain ⟨rfl, rfl, rfl⟩ := askF_inj h1 h1' (h2.trans h2'.symm)
  rfl
theorem asks_same {s : ByteArray} {r r' : AskR} (h : SaidA s r ∨ ((∀ r, ¬ SaidA s r) ∧ r = zA)) (h' : SaidA s r' ∨ ((∀ r, ¬ SaidA s r) ∧ r' = zA)) : r = r' := by
  rcases h with h | ⟨h, rfl⟩ <;> rcases h' with h' | ⟨h', rfl⟩
  · exact saidA_one h h'
  · exact absurd h (h' _)
  · exact absurd h' (h _)
  · rfl
end Go.Proofs.YtmplnpjdbfedbaaGreatDoor.X
namespace Go.Proofs.YtmplnpjdbfedbaaGreatDoor.X
open Go.RowKit Go.Proofs.YtmplnpjdbfedbaaGreatDoorW.PrintWords Go.Proofs.YtmplnpjdbfedbaaGreatDoor.Pl Go.Proofs.YtmplnpjdbfedbaaGreatDoor.Pure
set_option linter.unusedSimpArgs false
set_option linter.unusedVariables false
theorem mid_any {α : Type} {c d : α} {Y B : List α} : ∀ {X A : List α}, X ++ c :: Y = A ++ d :: B → d ∉ X → d ∉ Y → X = A ∧ c = d ∧ Y = B
  | [], [], h, _, _ => by
    simp only [List.nil_append, List.cons.injEq] at h
    exact ⟨rfl, h.1, h.2⟩
  | [], a :: A, h, _, hY => by
    simp only [List.nil_append, List.cons_append, List.cons.injEq] at h
    exact absurd (by rw [h.2]; simp) hY
  | x :: X, [], h, hX, _ => by
    simp only [List.nil_append, List.cons_append, List.cons.injEq] at h
    exact absurd (by rw [h.1]; simp) hX
  | x :: X, a :: A, h, hX, hY => by
    simp only [List.cons_append, List.cons.injEq] at h
    obtain ⟨e1, e2, e3⟩ := mid_any h.2 (fun hh => hX (List.mem_cons_of_mem _ hh)) hY
    exact ⟨by rw [h.1, e1], e2, e3⟩
def NoTag (L : List UInt8) : Prop := ∀ A B : List UInt8, L ≠ A ++ 38 :: 115 :: 61 :: B
def Plain (L : List UInt8) : Prop := 38 ∉ L ∧ ∀ A B : List UInt8, L ≠ A ++ 115 :: 61 :: B
theorem Plain.noTag {L : List UInt8} (h : Plain L) : NoTag L := fun A B e => h.1 (by rw [e]; simp)
theorem Plain.ins {L : List UInt8} (h : Plain L) (i j : Nat) (c : UInt8) : NoTag ((L.take i ++ [c]) ++ L.drop j) := by
  intro A B e
  rw [List.append_assoc, List.singleton_append] at e
  obtain ⟨-, -, e3⟩ := mid_any e (fun hh => h.1 (List.mem_of_mem_take hh)) (fun hh => h.1 (List.mem_of_mem_drop hh))
  exact h.2 (L.take j) B (by rw [← e3, List.take_append_drop])
theorem Plain.del {L : List UInt8} (h : Plain L) (i j : Nat) : NoTag (L.take i ++ L.drop j) := by
  intro A B e
  have hm : (38 : UInt8) ∈ L.take i ++ L.drop j := by rw [e]; simp
  rcases List.mem_append.1 hm with hm | hm
  · exact h.1 (List.mem_of_mem_take hm)
  · exact h.1 (List.mem_of_mem_drop hm)
theorem ask_plain (l : List Op) (p : ByteArray) (n : Int) : Plain (askF l p n).data.toList := by
  cases h : askB l p n with
  | false => rw [askF_no h]; exact ⟨by simp, fun A B e => by cases A <;> cases e⟩
  | true =>
    obtain ⟨m, rfl, _, hl, hp, _, e, _⟩ := ask_form h
    have no : ∀ c : UInt8, c.toNat = 38 ∨ c.toNat = 61 → c ∉ opsL l ∧ c ∉ p.data.toList ∧ c ∉ Lib.itoa (m : Int) := by
      intro c hc
      refine ⟨fun hm => ?_, fun hm => ?_, itoa_no (by omega) m⟩
      · rcases opsL_sign hl c hm with h1 | h1
        · unfold opSign at h1
          omega
        · omega
      · have := path_sign hp c hm
        omega
    rw [e]
    obtain ⟨a1, a2, a3⟩ := no 38 (.inl rfl)
    obtain ⟨b1, b2, b3⟩ := no 61 (.inr rfl)
    refine ⟨by simp [a1, a2, a3], fun A B ee => ?_⟩
    have e2 : (47 :: (opsL l ++ 47 :: (p.data.toList ++ 63 :: (101 :: 61 :: Lib.itoa (m : Int)))) : List UInt8) = (47 :: (opsL l ++ 47 :: (p.data.toList ++ [63, 101]))) ++ 61 :: Lib.itoa (m : Int) := by simp
    rw [e2, show A ++ 115 :: 61 :: B = (A ++ [115]) ++ 61 :: B by simp] at ee
    obtain ⟨e3, -, -⟩ := mid_any ee (by simp [b1, b2]) b3
    have e5 : (47 :: (opsL l ++ 47 :: p.data.toList ++ [63])) ++ [101] = A ++ [115] := by rw [← e3]; simp
    exact absurd (List.append_inj' e5 rfl).2 (by decide)
theorem str_one (n : Int) : (strOfNums [n]).size = 1 := by
  rw [ba_size, ← Lib.toList_data, Lib.strOfNums_toList]
  rfl
theorem ext_le (a : ByteArray) (i j : Nat) : (a.extract i j).size ≤ a.size := by
  rw [ByteArray.size_extract]; omega
theorem ext_first (a : ByteArray) (i : Nat) : (a.extract 0 i).data.toList = a.data.toList.take i := by
  rw [ByteArray.data_extract, Array.toList_extract]; simp
theorem ext_last (a : ByteArray) (i : Nat) : (a.extract i a.size).data.toList = a.data.toList.drop i := by
  rw [ByteArray.data_extract, Array.toList_extract, List.extract_eq_take_drop, ba_size]
  exact List.take_of_length_le (by simp)
def Fine (s x : ByteArray) : Prop := x.size ≤ 2 * s.size + 1 ∧ NoTag x.data.toList
theorem str_sing (n : Int) : ∃ c, (strOfNums [n]).data.toList = [c] := ⟨_, rfl⟩
theorem fine_ins {s : ByteArray} (h : Plain s.data.toList) (i j : Nat) (n : Int) : Fine s ((s.extract 0 i ++ strOfNums [n]) ++ s.extract j s.size) := by
  have x1 := ext_le s 0 i
  have x2 := ext_le s j s.size
  refine ⟨by rw [ByteArray.size_append, ByteArray.size_append, str_one]; omega, ?_⟩
  obtain ⟨c, hc⟩ := str_sing n
  rw [ba_app, ba_app, ext_first, ext_last, hc]
  exact h.ins i j c
theorem fine_del {s : ByteArray} (h : Plain s.data.toList) (i j : Nat) : Fine s (s.extract 0 i ++ s.extract j s.size) := by
  have x1 := ext_le s 0 i
  have x2 := ext_le s j s.size
  refine ⟨by rw [ByteArray.size_append]; omega, ?_⟩
  rw [ba_app, ext_first, ext_last]
  exact h.del i j
theorem fine_same {s : ByteArray} (h : Plain s.data.toList) : Fine s s := ⟨by omega, h.noTag⟩
theorem l20Bent_fine {l : List Int} (hl : Bytes l) (p : Int) (h0 : 0 ≤ p) (h1 : p ≤ 900000000000) (s : ByteArray) (hs : s.size ≤ 100000) (hp : Plain s.data.toList) :
    Tot (fun k => spec_l20Bent.f k l p s) (fun x => Fine s x.1) := by
  simp only [spec_l20Bent.f]
  rw [wr_id (x := (s.size : Int) + 1) (by omega) (by omega)]
  refine Tot.bind (pick_tot hl p ((s.size : Int) + 1) h0 (by omega)) ?_
  rintro ⟨r0, p0⟩ ⟨e0, a0, b0, -⟩
  dsimp only at e0 a0 b0 ⊢
  refine Tot.bind (pick_tot hl p0 256 (by omega) (by omega)) ?_
  rintro ⟨r1, p1⟩ ⟨e1, a1, b1, -⟩
  dsimp only at e1 a1 b1 ⊢
  refine Tot.some_bind ?_
  refine Tot.bind (pick_tot hl p1 8 (by omega) (by omega)) ?_
  rintro ⟨r2, p2⟩ ⟨e2, a2, b2, -⟩
  dsimp only at e2 a2 b2 ⊢
  refine Tot.pos a2 (Tot.pos (by simp only [List.length_cons, List.length_nil]; omega) (Tot.some_bind ?_))
  refine Tot.bind (pick_tot hl p2 3 (by omega) (by omega)) ?_
  rintro ⟨r3, p3⟩ ⟨e3, a3, b3, -⟩
  dsimp only at e3 a3 b3 ⊢
  have x1 := ext_le s 0 r0.toNat
  have x2 := ext_le s r0.toNat s.size
  have x3 := ext_le s (r0 + 1).toNat s.size
  have x4 : ∀ n : Int, (strOfNums [n]).size = 1 := str_one
  refine Tot.ite (fun _ => ?_) (fun _ => Tot.ite (fun _ => Tot.ite (fun hlt => ?_) (fun _ => Tot.ret (fine_same hp))) (fun _ => Tot.ite (fun hlt => ?_) (fun _ => Tot.ret (fine_same hp))))
  · refine Tot.pos a0 (Tot.pos (by omega) (Tot.pos (by rw [x4]; omega) (Tot.pos (by rw [ByteArray.size_append, x4]; omega) (Tot.ret ?_))))
    exact fine_ins hp _ _ _
  · rw [wr_id (x := r0 + 1) (by omega) (by omega)]
    refine Tot.pos a0 (Tot.pos (by omega) (Tot.pos (by omega) (Tot.pos (by omega) (Tot.pos (by omega) (Tot.ret ?_)))))
    exact fine_del hp _ _
  · rw [wr_id (x := r0 + 1) (by omega) (by omega)]
    refine Tot.pos a0 (Tot.pos (by omega) (Tot.pos (by rw [x4]; omega) (Tot.pos (by omega) (Tot.pos (by omega) (Tot.pos (by rw [ByteArray.size_append, x4]; omega) (Tot.ret ?_))))))
    exact fine_ins hp _ _ _
theorem askF_200 (l : List Op) (p : ByteArray) (n : Int) : (askF l p n).size ≤ 200 := by
  cases h : askB l p n with
  | true => obtain ⟨m, rfl, _, _, _, _, _, hz⟩ := ask_form h; exact hz
  | false => rw [askF_no h]; show 0 ≤ 200; omega
def Words (s : ByteArray) : Prop := s.size ≤ 401 ∧ (s.size < 19 ∨ NoTag s.data.toList)
theorem drawAskRead_words {l : List Int} (hu : ∀ y ∈ l, 0 ≤ y ∧ y ≤ 255) : Tot (fun k => spec_DrawAskRead.f k l) Words := by
  unfold spec_DrawAskRead.f
  obtain ⟨b, hb, hB⟩ := open_some l hu
  refine Tot.bind (Tot.of_eq hb) ?_; rintro _ rfl
  refine Tot.bind (l20Ask_tot hB 0 0 (by omega) (by omega) (by omega)) ?_
  rintro ⟨x, s, t, q⟩ ⟨e1, g1, g2⟩
  dsimp only at e1 g1 g2 ⊢
  refine Tot.bind (spec_AskText_tot x (by omega) s t) ?_; rintro _ rfl
  have ht := askF_200 x s t
  have hp := ask_plain x s t
  refine Tot.bind (pick_tot hB q 4 (by omega) (by omega)) ?_
  rintro ⟨r0, p0⟩ ⟨e0, a0, b0, -⟩
  dsimp only at e0 a0 b0 ⊢
  refine Tot.ite (fun _ => ?_) (fun _ => Tot.ite (fun _ => ?_) (fun _ => Tot.ret ⟨by omega, .inr hp.noTag⟩))
  · refine Tot.bind (l20Bent_fine hB p0 (by omega) (by omega) _ (by omega) hp) ?_
    rintro x ⟨h1, h2⟩
    exact Tot.ret ⟨by omega, .inr h2⟩
  · refine Tot.some_bind ?_
    refine Tot.bind (pick_tot hB p0 12 (by omega) (by omega)) ?_
    rintro ⟨r1, p1⟩ ⟨e1, a1, b1, -⟩
    dsimp only at e1 a1 b1 ⊢
    refine Tot.pos a1 (Tot.pos (by simp only [List.length_cons, List.length_nil]; omega) (Tot.ret ?_))
    obtain ⟨n, rfl⟩ := Int.eq_ofNat_of_zero_le a1
    have hn : n < 12 := by omega
    have small : ∀ s : ByteArray, s.size < 19 → Words s := fun s h => ⟨by omega, .inl h⟩
    refine small _ ?_
    match n, hn with
    | 0, _ => decide
    | 1, _ => decide
    | 2, _ => decide
    | 3, _ => decide
    | 4, _ => decide
    | 5, _ => decide
    | 6, _ => decide
    | 7, _ => decide
    | 8, _ => decide
    | 9, _ => decide
    | 10, _ => decide
    | 11, _ => decide
theorem drawHex_tot {l : List Int} (hu : ∀ y ∈ l, 0 ≤ y ∧ y ≤ 255) : Tot (fun k => spec_DrawHexText.f k l) (fun x => x.length ≤ 12 ∧ ∀ y ∈ x, Byt y) := by
  unfold spec_DrawHexText.f
  obtain ⟨b, hb, hB⟩ := open_some l hu
  refine Tot.bind (Tot.of_eq hb) ?_; rintro _ rfl
  refine Tot.bind (l20Bytes_byt hB 0 (by omega) (by omega) 12 ⟨by omega, by omega⟩) ?_
  rintro ⟨r1, p1⟩ ⟨e1, l1, y1⟩
  exact Tot.ret ⟨by dsimp only at l1 ⊢; omega, y1⟩
theorem urlRead_words (key : List Int) (s : ByteArray) (h : Words s) (now : Int) : Tot (fun k => impl_UrlRead.f k key s now) (fun r => r.2.2.2 = 400) := by
  obtain ⟨h1, h2⟩ := h
  unfold impl_UrlRead.f urlG
  refine Tot.pos (by omega) (Tot.ite (fun _ => Tot.ret rfl) (fun _ => Tot.ite (fun _ => Tot.ret rfl) (fun h19 => Tot.neg (fun hh => ?_) (Tot.ret rfl))))
  rcases h2 with h2 | h2
  · exact h19 h2
  · unfold Lib.hasPrefix at hh
    obtain ⟨B, hB⟩ := List.isPrefixOf_iff_prefix.1 hh
    rw [ext_last] at hB
    refine h2 (s.data.toList.take (s.size - 3 - 16)) B ?_
    have e := List.take_append_drop (s.size - 3 - 16) s.data.toList
    rw [← hB] at e
    exact e.symm
theorem urlRead_none (key : List Int) (hk : key.length ≤ 500) (s : ByteArray) (hs : s.size ≤ 401) (hn : ∀ r, ¬ SaidA s r) (g : ByteArray) (hg : g.size = 16) (now : Int) :
    Tot (fun k => impl_UrlRead.f k key ((s ++ ⟨#[38, 115, 61]⟩) ++ g) now) (fun r => r.2.2.2 = 400) := by
  have hs3 : ((s ++ ⟨#[38, 115, 61]⟩) ++ g).size = s.size + 19 := by
    rw [ByteArray.size_append, ByteArray.size_append, hg]; rfl
  have e1 : ((s ++ ⟨#[38, 115, 61]⟩) ++ g).extract 0 (((s ++ ⟨#[38, 115, 61]⟩) ++ g).size - 3 - 16) = s := by
    rw [show ((s ++ ⟨#[38, 115, 61]⟩) ++ g).size - 3 - 16 = s.size by omega]; exact ext_mid _ _ _
  unfold impl_UrlRead.f urlG
  refine Tot.pos (by omega) (Tot.neg (by omega) (Tot.neg (by omega) (Tot.ite (fun _ => ?_) (fun _ => Tot.ret rfl))))
  rw [e1]
  refine Tot.bind (implAsk_sound s) ?_
  rintro r (hr | rfl)
  · exact absurd hr (hn r)
  · exact Tot.neg (by decide) (Tot.ret rfl)
end Go.Proofs.YtmplnpjdbfedbaaGreatDoor.X
namespace Go.Proofs.YtmplnpjdbfedbaaGreatDoor.Pure
open Go.RowKit Go.Proofs.YtmplnpjdbfedbaaGreatDoorW.PrintWords Go.Proofs.YtmplnpjdbfedbaaGreatDoor.Pl Go.Proofs.YtmplnpjdbfedbaaGreatDoor.X
set_option linter.unusedVariables false
set_option linter.unusedSimpArgs false
theorem FnUrlWords : laws_FnUrlWords.Pure := by
  intro l0 _ _ hw0
  have hu0 : ∀ y ∈ l0, 0 ≤ y ∧ y ≤ 255 := fun y hy => ByteOk (hw0 y hy)
  refine Tot.rounds ?_
  unfold laws_FnUrlWords.f
  refine Tot.ite (fun _ => Tot.ret rfl) (fun hl => ?_)
  refine Tot.bind (drawAskRead_words hu0) ?_
  rintro s hS
  have hs := hS.1
  refine Tot.bind (drawHex_tot hu0) ?_
  rintro key ⟨hk, hkB⟩
  refine Tot.bind (implAsk_tot s) ?_
  intro r hr
  refine Tot.bind (specAsk_tot s (by omega)) ?_
  intro r' hr'
  obtain rfl := asks_same hr hr'
  refine Tot.neg (by simp) (Tot.pos (by omega) ?_)
  have hm : macR key (bytesN s) = macF key (bytesN s) := by unfold macR; rw [if_pos ⟨by omega, by rw [bytesN_len]; omega⟩]
  have e := implMac_ok key (bytesN s)
  rw [hm] at e
  refine Tot.bind (Tot.of_eq e) ?_; rintro _ rfl
  refine Tot.bind (impl_HexText_tot _ (macF_byt trivial) (by rw [macF_len]; omega)) ?_; rintro _ rfl
  have h64 : (hexF (macF key (bytesN s))).size = 64 := by rw [hexF_size, macF_len]
  have hmn : mn ((hexF (macF key (bytesN s))).size : Int) 16 = 16 := by rw [h64]; rfl
  rw [hmn]
  have hx : (hexF (macF key (bytesN s))).extract 0 ((16 : Int).toNat) = signF key s := hexF_take _
  rw [hx]
  have hA : (s ++ (⟨#[38, 115, 61]⟩ : ByteArray)).size = s.size + 3 := by rw [ByteArray.size_append]; rfl
  have hS16 := signF_size key s
  refine Tot.pos (by omega) (Tot.pos (by omega) (Tot.pos (by omega) (Tot.pos (by rw [hA, hS16]; omega) ?_)))
  rcases hr with hr | ⟨hn, rfl⟩
  · obtain ⟨l, p, n, h, e, rfl⟩ := hr
    subst e
    refine Tot.bind (urlRead_ask (by omega) h (signF key (askF l p n)) hS16 0) ?_
    rintro ⟨q1, q2, q3, q4⟩ hq
    dsimp only at hq ⊢
    refine Tot.bind (urlRead_words key ⟨#[]⟩ ⟨by decide, .inl (by decide)⟩ 0) ?_
    rintro ⟨u1, u2, u3, u4⟩ hu
    dsimp only at hu ⊢
    refine Tot.bind (urlRead_words key _ hS 0) ?_
    rintro ⟨v1, v2, v3, v4⟩ hv
    dsimp only at hv ⊢
    subst hu hv
    refine Tot.pos (by first | rfl | trivial) (Tot.succ ?_)
    simp only [laws_FnUrlWords.j0]
    refine Tot.neg (by decide) (Tot.pos (by first | rfl | trivial) ?_)
    refine Tot.bind (implAsk_complete _ h rfl) ?_
    rintro _ rfl
    dsimp only
    by_cases h0 : 0 < n
    · rw [if_pos ⟨rfl, h0⟩] at hq
      subst hq
      exact Tot.pos (by rw [decide_eq_true (show n > 0 by omega)]; rfl) (Tot.ret rfl)
    · rw [if_neg (fun hh => h0 hh.2)] at hq
      subst hq
      exact Tot.pos (by rw [decide_eq_false (show ¬ n > 0 by omega)]; rfl) (Tot.ret rfl)
  · refine Tot.bind (urlRead_none key (by omega) s hs hn (signF key s) hS16 0) ?_
    rintro ⟨q1, q2, q3, q4⟩ hq
    dsimp only at hq ⊢
    refine Tot.bind (urlRead_words key ⟨#[]⟩ ⟨by decide, .inl (by decide)⟩ 0) ?_
    rintro ⟨u1, u2, u3, u4⟩ hu
    dsimp only at hu ⊢
    refine Tot.bind (urlRead_words key _ hS 0) ?_
    rintro ⟨v1, v2, v3, v4⟩ hv
    dsimp only at hv ⊢
    subst hu hv hq
    refine Tot.pos (by first | rfl | trivial) (Tot.succ ?_)
    simp only [laws_FnUrlWords.j0]
    exact Tot.neg (by decide) (Tot.neg (by decide) (Tot.ret rfl))
end Go.Proofs.YtmplnpjdbfedbaaGreatDoor.Pure
namespace Go.Proofs.YtmplnpjdbfedbaaGreatDoor.X
set_option linter.unusedVariables false
variable {H : Type} {enc : TypeId × Value → H}
theorem returnsBoth {a : Assume} {C : Checked} {os : Os} {f : FuncId} {fn : Func} {s : ChangeSpec} {conds : List PathCond} {apart fresh handsOn again : Bool} {X : World → Array Value → Prop}
    (hX : ∀ (w w' : World) (args : Array Value), w.heap = w'.heap → X w args → X w' args)
    (own : ownKnob C.prog.godebug = none) (started : os.Started) (noInit : C.prog.inits.idxOf? f = none) (hfn : C.prog.funcs[f]? = some fn)
    (witness : ∃ (w : World) (tape : Tape) (i : Input), w.os = os ∧ (w.forCall tape i).Shaped C.prog ∧ i.vars = [] ∧ Input.okWide C.prog (w.forCall tape i) .any w.heap.size f i ∧
      ((s.pre enc C.prog fn conds apart (w.forCall tape i).memory i.args ∧ X (w.forCall tape i).memory i.args) ∧ sizedMet enc C.prog fn (OpenSpec.ofChange s) apart (w.forCall tape i).memory i.args) ∧ a.holds C.prog (lone (Frame.enter C.prog f i.args .normal) [] (w.forCall tape i)))
    (contract : ∀ (W : World) (base : Nat) (args : Array Value) (ds gs : List (DataW H)) (before : List MemPlace),
      (∀ (j : Nat) t v, fn.params[j]? = some t → args[j]? = some v → Value.okWide C.prog W .any base t v) →
      DataW.Whole enc C.prog fn.params.toList s.vars apart W args.toList ds gs before →
      conds.all (PathCond.test C.prog ⟨fn.params.toList, ds, s.plain.varTypes C.prog, gs⟩) = true →
      (DataW.weightsEach C.prog (fn.params.toList ++ s.plain.varTypes C.prog) (ds ++ gs)).all (· ≤ reachBytes) = true → X W args ∧ W.ShapedOpen C.prog →
      a.holds C.prog (lone (Frame.enter C.prog f args .normal) [] W) →
      Calls C.prog f args W fun e W' => ∃ v, e = .returned v ∧ s.post enc C.prog fn apart fresh handsOn again W args v W') :
    ReturnsInHanded a C os f .any (fun w args => (s.pre enc C.prog fn conds apart w args ∧ X w args) ∧ sizedMet enc C.prog fn (OpenSpec.ofChange s) apart w args) (s.post enc C.prog fn apart fresh handsOn again) := by
  refine returnsInHanded_of_calls own started noInit witness ?_
  intro w tape i _ hsh _ hok hpre hholds
  obtain ⟨_, _, _, fn', hfn', _, _, _, _, hval⟩ := hok
  have e : fn' = fn := Option.some.inj (hfn'.symm.trans hfn)
  subst e
  obtain ⟨⟨⟨ds, gs, before, hw, hc⟩, hx⟩, hz⟩ := hpre
  have hw' := DataW.Whole.of_heap (w' := w.forCall tape i) (by rfl) hw
  refine (contract (w.forCall tape i) w.heap.size i.args ds gs before hval hw' hc (hz.weights hw) ⟨hX _ _ _ (by rfl) hx, hsh⟩ hholds).mono fun e W' ⟨v, he, hp⟩ => ?_
  subst he
  exact ChangeSpec.post_blind hp
end Go.Proofs.YtmplnpjdbfedbaaGreatDoor.X
namespace Go.Proofs.YtmplnpjdbfedbaaGreatDoor.X
set_option linter.unusedVariables false
set_option linter.unusedSimpArgs false
set_option linter.unusedSectionVars false
open Go.ChangeShapes Go.WideShapes Go.ChangeAt Go.WideMaps Go.WideElems Go.RowKit Go.Proofs.YtmplnpjdbfedbaaGreatDoorW.PrintWords
abbrev laid9 : List (String × DataW Unit) := [("math/bits.deBruijn32tab", Rows.laid_math_bits_deBruijn32tab), ("math/bits.deBruijn64tab", Rows.laid_math_bits_deBruijn64tab), ("internal/strconv.uint64pow10", Rows.laid_internal_strconv_uint64pow10), ("unicode/utf8.acceptRanges", Rows.laid_unicode_utf8_acceptRanges), ("errors.errorType", Rows.laid_errors_errorType), ("loop.example/easel/impl.shaStart", Rows.laid_loop_example_easel_impl_shaStart), ("loop.example/easel/impl.shaRounds", Rows.laid_loop_example_easel_impl_shaRounds), ("loop.example/easel/impl.opForms", Rows.laid_loop_example_easel_impl_opForms), ("unicode/utf8.first", Rows.laid_unicode_utf8_first)]
abbrev laid8 : List (String × DataW Unit) := [("math/bits.deBruijn32tab", Rows.laid_math_bits_deBruijn32tab), ("math/bits.deBruijn64tab", Rows.laid_math_bits_deBruijn64tab), ("internal/strconv.uint64pow10", Rows.laid_internal_strconv_uint64pow10), ("unicode/utf8.acceptRanges", Rows.laid_unicode_utf8_acceptRanges), ("loop.example/easel/impl.shaStart", Rows.laid_loop_example_easel_impl_shaStart), ("loop.example/easel/impl.shaRounds", Rows.laid_loop_example_easel_impl_shaRounds), ("loop.example/easel/impl.opForms", Rows.laid_loop_example_easel_impl_opForms), ("unicode/utf8.first", Rows.laid_unicode_utf8_first)]
abbrev laidU : List (String × DataW Unit) := [("internal/strconv.uint64pow10", Rows.laid_internal_strconv_uint64pow10), ("loop.example/easel/impl.shaStart", Rows.laid_loop_example_easel_impl_shaStart), ("loop.example/easel/impl.shaRounds", Rows.laid_loop_example_easel_impl_shaRounds), ("loop.example/easel/impl.opForms", Rows.laid_loop_example_easel_impl_opForms)]
noncomputable def laid0 (os : Os) : World := { World.holding Tryz.prog os ⟨#[], #[], []⟩ with heap := ⟨Lay.setRows (World.holding Tryz.prog os ⟨#[], #[], []⟩).heap.toList [(0, [.iface 131 (.agg #[typeHandle Tryz.prog 49])])]⟩ }
noncomputable def laidUr (os : Os) : World := (laid0 os).layVars Tryz.prog laid8
theorem laidUr_os (os : Os) : (laidUr os).os = os := World.layVars_os _ _ _
set_option maxRecDepth 100000 in
theorem door_met (os : Os) (args : Array Value) : laidMetH Tryz.prog laid9 ((laidUr os).forCall (fun _ _ => 0) ⟨#[], args, []⟩).memory := by
  refine laidMetH_of_parts ?_ (by kernel_rfl)
  rw [show laid9.filter (fun x => x.2.handleName?.isNone) = laid8 from by kernel_rfl]
  have e1 : (laid8.filter fun x => (laid8.map (·.1)).contains x.1) = laid8 := List.filter_eq_self.2 fun x hx => List.contains_iff_mem.2 (List.mem_map.2 ⟨x, hx, rfl⟩)
  have e2 : (laid8.filter fun x => !(laid8.map (·.1)).contains x.1) = [] := List.filter_eq_nil_iff.2 fun x hx => by rw [List.contains_iff_mem.2 (List.mem_map.2 ⟨x, hx, rfl⟩)]; simp
  have h : laidMet Tryz.prog laid8 (laidUr os) := laidMet_layVars (w0 := laid0 os) (laid8.map (·.1)) [] (by rw [e1]; rfl) (by rw [e1]; kernel_rfl) (by rw [e1]; kernel_rfl) (by rw [e2]; exact LaidIn.none)
  exact h.of_heap (by simp [World.memory, World.forCall, Input.heap])
theorem gF : Tryz.prog.globalNamed "loop.example/easel/impl.opForms" = some 1 := by kernel_rfl
theorem tF : (Tryz.prog.globals[1]?).map (·.type) = some 121 := by kernel_rfl
theorem tP : (Tryz.prog.globals[5]?).map (·.type) = some 180 := by kernel_rfl
theorem gS : Tryz.prog.globalNamed "loop.example/easel/impl.shaStart" = some 2 := by kernel_rfl
theorem gK : Tryz.prog.globalNamed "loop.example/easel/impl.shaRounds" = some 4 := by kernel_rfl
theorem tS : (Tryz.prog.globals[2]?).map (·.type) = some 147 := by kernel_rfl
theorem tK : (Tryz.prog.globals[4]?).map (·.type) = some 177 := by kernel_rfl
theorem blk_of_var {w : World} {name : String} {g : Nat} {cs : Array Value} (hg : Tryz.prog.globalNamed name = some g) (h : w.var? Tryz.prog name = some cs) : ∃ t fr, w.heap[g]? = some (.cells cs t fr) := by
  unfold World.var? at h
  rw [hg] at h
  simp only [Option.bind_some] at h
  split at h
  · rename_i cs' t fr hh
    obtain rfl := Option.some.inj h
    exact ⟨t, fr, hh⟩
  · cases h
variable {H : Type} {enc : TypeId × Value → H} {P : Program} {w : World} {base : Nat} {sp : Nat → Bool} {held : Bool}
theorem cells_of_rows {fuel : Nat} {t e : TypeId} {n : Nat} {cs : List Value} {p : List MemPlace} {ds : List (DataW H)} (L : List (List Value))
    (ht : P.underlying t = some (.array n e)) (hct : P.cellsOf t = n * P.cellsOf e) (hL : ∀ (i : Nat) (l : List Value), L[i]? = some l → l.length = P.cellsOf e) (hn : L.length = n)
    (he : ∀ (i : Nat) (m : Nat) (d : DataW H) (l c : List Value) (q : List MemPlace), ds[i]? = some d → L[i]? = some l → DataW.trod enc P w base sp held m e c = some (d, q) → c = l)
    (h : DataW.trod enc P w base sp held fuel t cs = some (.agg ds, p)) : cs = L.flatten := by
  obtain ⟨xs, m, rfl, hx, hl, hlen, hf⟩ := DataW.trod_array ht h
  obtain ⟨hd, -⟩ := Prod.mk.inj hx
  have hds : ds = xs.map (·.1) := by injection hd
  have key : ∀ (i : Nat) (l : List Value), L[i]? = some l → (cs.drop (i * P.cellsOf e)).take (P.cellsOf e) = l := by
    intro i l hi
    have hin : i < n := by have := (List.getElem?_eq_some_iff.1 hi).1; omega
    have h1 := hf i hin
    have hix : i < xs.length := by omega
    rw [List.getElem?_eq_getElem hix] at h1
    refine he i m (xs[i]).1 l _ (xs[i]).2 ?_ hi h1
    rw [hds, List.getElem?_map, List.getElem?_eq_getElem hix]
    rfl
  have gen : ∀ (L : List (List Value)) (cs : List Value), (∀ (i : Nat) (l : List Value), L[i]? = some l → (cs.drop (i * P.cellsOf e)).take (P.cellsOf e) = l) → cs.length = L.length * P.cellsOf e → cs = L.flatten := by
    intro L
    induction L with
    | nil => intro cs _ h; simp at h; simp [h]
    | cons a L ih =>
      intro cs hk hlen
      have h0 := hk 0 a rfl
      rw [Nat.zero_mul, List.drop_zero] at h0
      rw [List.length_cons, Nat.add_mul, Nat.one_mul] at hlen
      have h1 := ih (cs.drop (P.cellsOf e)) (fun i l hi => by
        rw [List.drop_drop, show P.cellsOf e + i * P.cellsOf e = (i + 1) * P.cellsOf e by rw [Nat.add_mul]; omega]
        exact hk (i + 1) l (by simpa using hi)) (by rw [List.length_drop]; omega)
      rw [List.flatten_cons, ← h1, ← h0, List.take_append_drop]
  exact gen L cs key (by rw [hl, hct, hn])
set_option maxRecDepth 100000 in
theorem form_cells {m : Nat} {c : List Value} {s : List UInt8} {n : Int} {q : List MemPlace} (h : DataW.trod enc Tryz.prog w base sp held m 120 c = some (.agg [.lit (.string s), .lit (.int .i64 n)], q)) : c = [.string ⟨s.toArray⟩, .int .i64 n] := by
  obtain ⟨y0, y1, k, hx, hl, h0, h1⟩ := trod_struct2 Tryz.underlying120 h
  have hx := (Prod.mk.inj hx).1
  injection hx with hx
  injection hx with e0 hx
  injection hx with e1 _
  obtain ⟨s', hc0, rfl, _⟩ := DataW.trod_string Tryz.underlying9 h0
  obtain ⟨n', hc1, rfl, _⟩ := DataW.trod_int Tryz.underlying3 h1
  injection e0 with e0; injection e0 with e0
  injection e1 with e1; injection e1 with _ e1
  have hl2 : c.length = 2 := hl.trans (by kernel_rfl)
  match c, hl2 with
  | [a, b], _ =>
    have ha : [a] = [Value.string s'] := hc0
    have hb : [b] = [Value.int .i64 n'] := hc1
    cases ha; cases hb
    subst e1
    rw [e0]
set_option maxRecDepth 100000 in
theorem err_one : ((List.range Tryz.prog.types.size).all fun ty => !Tryz.prog.rowNamed ty [101, 114, 114, 111, 114] || ty == 49) = true := by kernel_rfl
theorem gErr : Tryz.prog.globalNamed "errors.errorType" = some 0 := by kernel_rfl
theorem err_of {W : World} (h : laidMetH Tryz.prog laid9 W) : W.cell? ⟨0, 0, none⟩ = some (.iface 131 (.agg #[.pointer (some ⟨10, 49, none⟩)])) := by
  have hx := (laidMetH_iff.1 h).2 ("errors.errorType", Rows.laid_errors_errorType) (List.mem_filter.2 ⟨.tail _ (.tail _ (.tail _ (.tail _ (.head _)))), by kernel_rfl⟩)
  simp only [show DataW.funcsIn? (H := Unit) Rows.laid_errors_errorType = none by kernel_rfl] at hx
  obtain ⟨name, u, ty, e1, e2, e3, e4, e5⟩ := hx
  obtain rfl := Option.some.inj ((show DataW.handleName? (H := Unit) Rows.laid_errors_errorType = some [101, 114, 114, 111, 114] by kernel_rfl).symm.trans e1)
  obtain rfl := Option.some.inj ((show (Tryz.prog.cutTypes.find? (·.1 == "internal/reflectlite.rtype")).map (·.2) = some 131 by kernel_rfl).symm.trans e2)
  obtain rfl : ty = 49 := by have := List.all_eq_true.1 err_one ty (List.mem_range.2 e3); rw [e4] at this; simpa using this
  obtain ⟨t, fr, hh⟩ := blk_of_var gErr e5
  rw [show typeHandle Tryz.prog 49 = .pointer (some ⟨10, 49, none⟩) by kernel_rfl] at hh
  simp [World.cell?, hh]
theorem glob_of {W : World} (hh : laidMetH Tryz.prog laid9 W ∧ W.ShapedOpen Tryz.prog) : Glob W := by
  obtain ⟨h, hsh⟩ := hh
  have herr := err_of h
  have h := laidMetH.filter (fun x => x.1 == "internal/strconv.uint64pow10" || x.1 == "loop.example/easel/impl.shaStart" || x.1 == "loop.example/easel/impl.shaRounds" || x.1 == "loop.example/easel/impl.opForms") h
  rw [show laid9.filter (fun x => x.1 == "internal/strconv.uint64pow10" || x.1 == "loop.example/easel/impl.shaStart" || x.1 == "loop.example/easel/impl.shaRounds" || x.1 == "loop.example/easel/impl.opForms") = laidU from rfl] at h
  rw [MakeChecks.laidMetH_plain _ _ _ (by kernel_rfl)] at h
  have hmax := cell_of_shapedOpen_int (P := Tryz.prog) (g := 3) (t := 3) (zero := #[.int .i64 0]) hsh (of_decide_eq_true (by kernel_rfl)) (by kernel_rfl) rfl (by kernel_rfl) (by kernel_rfl) Tryz.underlying3
  obtain ⟨ps, ⟨g2, t2, cs2, f2, p2, q2, hg2, ht2, hv2, hd2, ⟨g4, t4, cs4, f4, p4, q4, hg4, ht4, hv4, hd4, ⟨g5, t5, cs5, f5, p5, q5, hg5, ht5, hv5, hd5, ⟨g3, t3, cs3, f3, p3, q3, hg3, ht3, hv3, hd3, _⟩, _⟩, _⟩, _⟩, _, _⟩ := h
  obtain rfl := Option.some.inj (gPow.symm.trans hg2)
  obtain rfl := Option.some.inj (gF.symm.trans hg3)
  obtain rfl := Option.some.inj (gS.symm.trans hg4)
  obtain rfl := Option.some.inj (gK.symm.trans hg5)
  obtain rfl := Option.some.inj (tP.symm.trans ht2)
  obtain rfl := Option.some.inj (tF.symm.trans ht3)
  obtain rfl := Option.some.inj (tS.symm.trans ht4)
  obtain rfl := Option.some.inj (tK.symm.trans ht5)
  have e2 := Lib.cells_of_tab (zs := Lib.pow10Tab) (k := .u64) Tryz.underlying180 Tryz.underlying149 (by kernel_rfl) (by kernel_rfl) hd2
  have e4 := Lib.cells_of_tab (zs := shS0) (k := .u32) Tryz.underlying147 Tryz.underlying146 (by kernel_rfl) (by kernel_rfl) hd4
  have e5 := Lib.cells_of_tab (zs := shK0) (k := .u32) Tryz.underlying177 Tryz.underlying146 (by kernel_rfl) (by kernel_rfl) hd5
  obtain ⟨t, fr, hh⟩ := blk_of_var gF hv3
  obtain ⟨t', fr', hh'⟩ := blk_of_var gPow hv2
  obtain ⟨t4', fr4, hh4⟩ := blk_of_var gS hv4
  obtain ⟨t5', fr5, hh5⟩ := blk_of_var gK hv5
  have e3 := cells_of_rows [[.string ⟨#[]⟩, .int .i64 0], [.string ⟨#[99, 114, 111, 112]⟩, .int .i64 4], [.string ⟨#[102, 108, 105, 112, 120]⟩, .int .i64 0], [.string ⟨#[102, 108, 105, 112, 121]⟩, .int .i64 0], [.string ⟨#[116, 117, 114, 110]⟩, .int .i64 0], [.string ⟨#[103, 114, 97, 121]⟩, .int .i64 0], [.string ⟨#[98, 108, 117, 114]⟩, .int .i64 0], [.string ⟨#[115, 105, 122, 101]⟩, .int .i64 2], [.string ⟨#[102, 108, 97, 116]⟩, .int .i64 3]] Tryz.underlying121 (by kernel_rfl)
    (fun i l hi => by
      have hm := List.mem_of_getElem? hi
      have : l.length = 2 := by simp only [List.mem_cons, List.not_mem_nil, or_false] at hm; rcases hm with rfl | rfl | rfl | rfl | rfl | rfl | rfl | rfl | rfl <;> rfl
      exact this.trans (by kernel_rfl)) rfl
    (fun i m d l c q hd hl hc => by
      match i, hd, hl with
      | 0, hd, hl => cases hd; cases hl; exact form_cells hc
      | 1, hd, hl => cases hd; cases hl; exact form_cells hc
      | 2, hd, hl => cases hd; cases hl; exact form_cells hc
      | 3, hd, hl => cases hd; cases hl; exact form_cells hc
      | 4, hd, hl => cases hd; cases hl; exact form_cells hc
      | 5, hd, hl => cases hd; cases hl; exact form_cells hc
      | 6, hd, hl => cases hd; cases hl; exact form_cells hc
      | 7, hd, hl => cases hd; cases hl; exact form_cells hc
      | 8, hd, hl => cases hd; cases hl; exact form_cells hc
      | _ + 9, hd, _ => cases hd) hd3
  refine ⟨⟨t, fr, ?_⟩, ⟨t', fr', ?_⟩, ⟨t4', fr4, ?_⟩, ⟨t5', fr5, ?_⟩, hmax, herr⟩
  · rw [hh]; congr 2; rw [← Array.toArray_toList (xs := cs3), e3]; rfl
  · rw [hh']; congr 2; rw [← e2]
  · rw [hh4]; congr 2; rw [nums, ← e4]
  · rw [hh5]; congr 2; rw [nums, ← e5]
theorem vars3 {n1 n2 n3 : String} : ∀ {gs : List (DataW H)} {q : List MemPlace}, DataW.TrodVars enc Tryz.prog w sp [n1, n2, n3] gs q → ∃ g1 g2 g3, gs = [g1, g2, g3]
  | [], _, h => h.elim
  | [_], _, h => by obtain ⟨_, _, _, _, _, _, _, _, _, _, h, _⟩ := h; exact h.elim
  | [_, _], _, h => by obtain ⟨_, _, _, _, _, _, _, _, _, _, h, _⟩ := h; obtain ⟨_, _, _, _, _, _, _, _, _, _, h, _⟩ := h; exact h.elim
  | [a, b, c], _, _ => ⟨a, b, c, rfl⟩
  | _ :: _ :: _ :: _ :: _, _, h => by obtain ⟨_, _, _, _, _, _, _, _, _, _, h, _⟩ := h; obtain ⟨_, _, _, _, _, _, _, _, _, _, h, _⟩ := h; obtain ⟨_, _, _, _, _, _, _, _, _, _, h, _⟩ := h; exact h.elim
end Go.Proofs.YtmplnpjdbfedbaaGreatDoor.X
