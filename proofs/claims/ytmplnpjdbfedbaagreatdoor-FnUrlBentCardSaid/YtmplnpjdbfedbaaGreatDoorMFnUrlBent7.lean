/- Lemmas and contracts for the law FnUrlBent, part 7: of the program's functions, and over data alone. Conditions: the listed package-level variables begin as the program's text lays them (tied by the card). -/
import Derived.Test.YtmplnpjdbfedbaaGreatDoorMFnUrlBent6
import Derived.Test.YtmplnpjdbfedbaaGreatDoorMFnUrlBent4
import Derived.Test.YtmplnpjdbfedbaaGreatDoorMFnUrlBent2
import Derived.Test.YtmplnpjdbfedbaaGreatDoorMFnUrlBent5
import Derived.KernelRfl
import Derived.SizedLaws
import Derived.Handed
import Derived.Shelf.Vars
import Derived.Test.YtmplnpjdbfedbaaGreatDoorRows
import Derived.Lib.LaidTab
import Derived.LaidMore
import Derived.OpenShut
import Derived.ShutString
import Derived.ChangeOld
import Derived.ChangeSame
import Derived.Below
import Derived.WalkKit
import Derived.ProofKit
import Derived.Stop.Joined
import Derived.OpenVars
import Derived.LaidSub
import Derived.LaidHandle
import Derived.Lay
import Derived.LaidOnce
namespace Go.Proofs.YtmplnpjdbfedbaaGreatDoor.X
open Go.RowKit Go.Proofs.YtmplnpjdbfedbaaGreatDoorW.PrintWords Go.Proofs.YtmplnpjdbfedbaaGreatDoor.Pl
set_option linter.unusedSimpArgs false
set_option linter.unusedVariables false
theorem implOk_tot (kd a b c d : Int) : Tot (fun k => impl_OpOk.f k kd a b c d) (fun t => t = opOkB kd a b c d) :=
  ⟨_, ⟨1, fun k hk => by obtain ⟨j, rfl⟩ : ∃ j, k = j + 1 := ⟨k - 1, by omega⟩; exact impl_OpOk_some j kd a b c d⟩, rfl⟩
theorem opEnd_tot (s : ByteArray) (kd a b c d : Int) : Tot (fun k => opEnd k s kd a b c d) (fun r => (opOkB kd a b c d = true ∧ opTextF kd a b c d = s ∧ r = (kd, a, b, c, d, true)) ∨ (¬ (opOkB kd a b c d = true ∧ opTextF kd a b c d = s) ∧ r = zR)) := by
  unfold opEnd
  refine Tot.bind (implOk_tot kd a b c d) ?_
  rintro _ rfl
  cases h : opOkB kd a b c d with
  | false => exact Tot.neg (by decide) (Tot.ret (.inr ⟨fun hh => absurd hh.1 (by decide), rfl⟩))
  | true =>
    refine Tot.pos rfl ?_
    refine Tot.bind (impl_OpText_tot _ _ _ _ _) ?_
    rintro _ rfl
    refine Tot.ite (fun he => Tot.ret (.inl ⟨rfl, toList_ba.1 he, rfl⟩)) (fun he => Tot.ret (.inr ⟨fun hh => he (toList_ba.2 hh.2), rfl⟩))
theorem scan_nums : ∀ ns : List Int, (∀ n ∈ ns, 0 ≤ n ∧ n ≤ 9999) → Tot (fun k => scanF k ((ns.map Lib.itoa).map baOf) false) (fun r => r = (ns, false))
  | [], _ => by simp only [List.map_nil, scanF]; exact Tot.ret rfl
  | n :: ns, h => by
    obtain ⟨h0, h1⟩ := h n (List.mem_cons_self ..)
    obtain ⟨m, rfl⟩ := Int.eq_ofNat_of_zero_le h0
    simp only [List.map_cons, scanF]
    refine Tot.bind (numRead_tot _) ?_
    intro r hr
    obtain rfl := hr m (by omega) rfl
    refine Tot.bind (scan_nums ns (fun x hx => h x (List.mem_cons_of_mem _ hx))) ?_
    rintro _ rfl
    exact Tot.ret rfl
theorem kind_word : ∀ k : Fin 9, 1 ≤ k.val → kindGo (formW k.val) 8 1 = ((k.val : Int), true) := by decide +kernel
theorem cut_len (s : ByteArray) : (Lib.cut s.data.toList [46]).2.1.length ≤ s.size := by
  rw [ba_size]
  rcases split_at (c := (46 : UInt8)) s.data.toList with h | ⟨a, b, e, h⟩
  · rw [cut_none h]; simp
  · rw [e, cut_app h]
    simp only [List.length_append, List.length_cons]
    omega
theorem op_form {o a b c d : Int} (h : opOkB o a b c d = true) : ∃ k : Nat, o = k ∧ 1 ≤ k ∧ k < 9 ∧ ∃ ns : List Int, (∀ n ∈ ns, 0 ≤ n ∧ n ≤ 255) ∧ ns.length ≤ 4 ∧ [a, b, c, d] = pad4 ns ∧ (opTextF o a b c d).data.toList = opL (formW k).data.toList ns := by
  obtain ⟨k, rfl, k1, k9, hn, hr⟩ := opOk_rest h
  refine ⟨k, rfl, k1, k9, [a, b, c, d].take (formN k), fun n hm => hn n (List.mem_of_mem_take hm), by simp; omega, ?_, opTextF_list h⟩
  have h4 := formN_le k k9
  have hl : ([a, b, c, d].take (formN k)).length = formN k := by rw [List.length_take]; simp; omega
  unfold pad4
  rw [hl]
  exact hr
theorem pad4_get {a b c d : Int} {ns : List Int} (h : [a, b, c, d] = pad4 ns) : (pad4 ns).getD 0 0 = a ∧ (pad4 ns).getD 1 0 = b ∧ (pad4 ns).getD 2 0 = c ∧ (pad4 ns).getD 3 0 = d := by
  rw [← h]
  exact ⟨rfl, rfl, rfl, rfl⟩
theorem end_ok {s : ByteArray} {o a b c d : Int} (h : opOkB o a b c d = true) (e : opTextF o a b c d = s) : Tot (fun k => opEnd k s o a b c d) (fun r => r = (o, a, b, c, d, true)) :=
  Tot.mono (opEnd_tot s o a b c d) (fun r h2 => h2.elim (fun x => x.2.2) (fun x => absurd ⟨h, e⟩ x.1))
theorem implRead_complete (s : ByteArray) (hs : s.size ≤ 1048576) {o a b c d : Int} (h : opOkB o a b c d = true) (e : opTextF o a b c d = s) : Tot (fun k => impl_OpRead.f k s) (fun r => r = (o, a, b, c, d, true)) := by
  obtain ⟨k, rfl, k1, k9, ns, hns, hl, hp, ht⟩ := op_form h
  rw [e] at ht
  have hw := formW_no (c := 46) (by decide) k k9
  have hkd := kind_word ⟨k, k9⟩ k1
  dsimp only at hkd
  have hrs := cut_len s
  unfold impl_OpRead.f
  refine Tot.pos hs ?_
  cases ns with
  | nil =>
    have hc : Lib.cut s.data.toList [46] = ((formW k).data.toList, [], false) := by
      rw [ht]
      have : opL (formW k).data.toList [] = (formW k).data.toList := by simp [opL]
      rw [this]
      exact cut_none hw
    rw [hc]
    dsimp only
    rw [show (⟨(formW k).data.toList.toArray⟩ : ByteArray) = formW k from baOf_self _, hkd]
    refine Tot.pos rfl (Tot.neg (by decide) ?_)
    have e4 := pad4_get hp
    obtain ⟨rfl, rfl, rfl, rfl⟩ : a = 0 ∧ b = 0 ∧ c = 0 ∧ d = 0 := ⟨e4.1.symm, e4.2.1.symm, e4.2.2.1.symm, e4.2.2.2.symm⟩
    exact end_ok h e
  | cons n ms =>
    have hc : Lib.cut s.data.toList [46] = ((formW k).data.toList, Lib.itoa n ++ ms.flatMap (fun n => 46 :: Lib.itoa n), true) := by
      rw [ht]
      have : opL (formW k).data.toList (n :: ms) = (formW k).data.toList ++ 46 :: (Lib.itoa n ++ ms.flatMap (fun n => 46 :: Lib.itoa n)) := by simp [opL]
      rw [this]
      exact cut_app hw
    have hpr : parts 46 (Lib.itoa n ++ ms.flatMap (fun n => 46 :: Lib.itoa n)) = (n :: ms).map Lib.itoa := by
      obtain ⟨m, rfl⟩ := Int.eq_ofNat_of_zero_le (hns n (List.mem_cons_self ..)).1
      exact parts_opL (Lib.itoa (m : Int)) (itoa_no (by decide) m) ms (fun x hx => (hns x (List.mem_cons_of_mem _ hx)).1)
    rw [hc] at hrs ⊢
    dsimp only at hrs ⊢
    rw [show (⟨(formW k).data.toList.toArray⟩ : ByteArray) = formW k from baOf_self _, hkd]
    refine Tot.pos rfl (Tot.pos rfl (Tot.pos (by rw [List.size_toArray]; omega) ?_))
    rw [partsB_parts]
    show Tot (fun k_1 => (scanF k_1 ((parts 46 (Lib.itoa n ++ ms.flatMap (fun n => 46 :: Lib.itoa n))).map baOf) false).bind _) _
    rw [hpr]
    refine Tot.bind (scan_nums (n :: ms) (fun x hx => by have := hns x hx; omega)) ?_
    rintro _ rfl
    refine Tot.neg (fun hh => Bool.false_ne_true hh) (Tot.neg (by dsimp only; omega) ?_)
    dsimp only
    obtain ⟨g0, g1, g2, g3⟩ := pad4_get hp
    rw [g0, g1, g2, g3]
    exact end_ok h e
theorem four {l : List Int} (h : l.length = 4) : ∃ a b c d, l = [a, b, c, d] := by
  match l, h with
  | [a, b, c, d], _ => exact ⟨a, b, c, d, rfl⟩
end Go.Proofs.YtmplnpjdbfedbaaGreatDoor.X
namespace Go.Proofs.YtmplnpjdbfedbaaGreatDoor.X
open Go.RowKit Go.Proofs.YtmplnpjdbfedbaaGreatDoorW.PrintWords Go.Proofs.YtmplnpjdbfedbaaGreatDoor.Pl
set_option linter.unusedSimpArgs false
set_option linter.unusedVariables false
def opSign (c : UInt8) : Prop := (97 ≤ c.toNat ∧ c.toNat ≤ 122) ∨ c.toNat = 46 ∨ (48 ≤ c.toNat ∧ c.toNat ≤ 57)
theorem opL_sign {W : List UInt8} {ns : List Int} (hW : ∀ c ∈ W, 97 ≤ c.toNat ∧ c.toNat ≤ 122) (hn : ∀ n ∈ ns, 0 ≤ n) : ∀ c ∈ opL W ns, opSign c := by
  intro c hc
  rcases List.mem_append.1 hc with h | h
  · exact .inl (hW c h)
  · obtain ⟨n, h1, h2⟩ := List.mem_flatMap.1 h
    obtain ⟨m, rfl⟩ := Int.eq_ofNat_of_zero_le (hn n h1)
    rcases List.mem_cons.1 h2 with rfl | h3
    · exact .inr (.inl rfl)
    · exact .inr (.inr (itoa_dig m c h3))
theorem opT_sign {x : Op} (h : okB x = true) : ∀ c ∈ (opT x).data.toList, opSign c := by
  obtain ⟨k, hk, k1, k9, hn, _⟩ := opOk_rest h
  unfold opT
  rw [opTextF_list h, hk]
  exact opL_sign (formW_sign k k9) (fun n h => (hn n (List.mem_of_mem_take h)).1)
theorem opT_no {x : Op} (h : okB x = true) {c : UInt8} (hc : ¬ opSign c) : c ∉ (opT x).data.toList := fun hm => hc (opT_sign h c hm)
theorem allOk_mem {l : List Op} (h : allOkB l = true) : ∀ x ∈ l, okB x = true := by
  intro x hx
  simp only [allOkB, Bool.and_eq_true, List.all_eq_true, List.mem_range] at h
  obtain ⟨i, hi, rfl⟩ := List.getElem_of_mem hx
  have := h.2 i hi
  unfold opAt rd_T65 at this
  rw [Int.toNat_natCast, List.getD_eq_getElem?_getD, List.getElem?_eq_getElem hi] at this
  exact this
theorem join_list (x : Op) (r : List Op) : (joinT ((x :: r).map opT)).data.toList = (opT x).data.toList ++ r.flatMap fun y => 44 :: (opT y).data.toList := by
  rw [joinT, ba_mk, List.map_cons, List.map_cons, Lib.join_cons]
  congr 1
  simp only [Lib.joinTail, List.map_map]
  rw [List.flatMap_def]
  rfl
theorem parts_join : ∀ (r : List Op) (A : List UInt8), (44 : UInt8) ∉ A → (∀ x ∈ r, okB x = true) → parts 44 (A ++ r.flatMap fun y => 44 :: (opT y).data.toList) = A :: r.map fun y => (opT y).data.toList
  | [], A, hA, _ => by rw [List.flatMap_nil, List.append_nil, parts_none hA]; rfl
  | x :: r, A, hA, h => by
    rw [List.flatMap_cons, List.cons_append, parts_app hA, parts_join r _ (opT_no (h x (List.mem_cons_self ..)) (by unfold opSign; decide)) (fun z hz => h z (List.mem_cons_of_mem _ hz))]
    rfl
def opsL (l : List Op) : List UInt8 := (opsF l).data.toList
theorem opsL_parts {l : List Op} (h : ∀ x ∈ l, okB x = true) : parts 44 (opsL l) = if l = [] then [[45]] else l.map fun y => (opT y).data.toList := by
  unfold opsL opsF
  cases l with
  | nil => rfl
  | cons x r =>
    rw [if_neg (by simp), if_neg (by simp), join_list, parts_join r _ (opT_no (h x (List.mem_cons_self ..)) (by unfold opSign; decide)) (fun z hz => h z (List.mem_cons_of_mem _ hz))]
    rfl
theorem opsL_sign {l : List Op} (h : ∀ x ∈ l, okB x = true) : ∀ c ∈ opsL l, opSign c ∨ c.toNat = 44 ∨ c.toNat = 45 := by
  unfold opsL opsF
  cases l with
  | nil =>
    intro c hc
    obtain rfl := List.mem_singleton.1 (show c ∈ [(45 : UInt8)] from hc)
    exact .inr (.inr rfl)
  | cons x r =>
    intro c hc
    rw [if_neg (by simp), join_list] at hc
    rcases List.mem_append.1 hc with h1 | h1
    · exact .inl (opT_sign (h x (List.mem_cons_self ..)) c h1)
    · obtain ⟨y, hy, h2⟩ := List.mem_flatMap.1 h1
      rcases List.mem_cons.1 h2 with rfl | h3
      · exact .inr (.inl rfl)
      · exact .inl (opT_sign (h y (List.mem_cons_of_mem _ hy)) c h3)
theorem askI_list (ops path : ByteArray) (till : Int) : (askI ops path till).data.toList = 47 :: (ops.data.toList ++ 47 :: (path.data.toList ++ 63 :: (101 :: 61 :: Lib.itoa till))) := by
  unfold askI
  simp only [ba_app, List.append_assoc]
  rfl
theorem path_sign {s : ByteArray} (h : nameB s = true) : ∀ c ∈ s.data.toList, (97 ≤ c.toNat ∧ c.toNat ≤ 122) ∨ (48 ≤ c.toNat ∧ c.toNat ≤ 57) := by
  intro c hc
  simp only [nameB, Bool.and_eq_true, List.all_eq_true, List.mem_range] at h
  obtain ⟨i, hi, rfl⟩ := List.getElem_of_mem hc
  have hs : i < s.size := by rw [ba_size]; exact hi
  have := h.2 i hs
  unfold signB bt at this
  rw [Int.toNat_natCast, dif_pos hs] at this
  have e : s[i] = s.data.toList[i] := by
    rw [Array.getElem_toList]
    rfl
  rw [e] at this
  simp only [Bool.or_eq_true, decide_eq_true_eq] at this
  omega
theorem askB_all {l : List Op} {p : ByteArray} {t : Int} (h : askB l p t = true) : (∀ x ∈ l, okB x = true) ∧ nameB p = true := by
  simp only [askB, Bool.and_eq_true] at h
  exact ⟨allOk_mem h.1, h.2.1⟩
end Go.Proofs.YtmplnpjdbfedbaaGreatDoor.X
namespace Go.Proofs.YtmplnpjdbfedbaaGreatDoor.X
open Go.RowKit Go.Proofs.YtmplnpjdbfedbaaGreatDoorW.PrintWords Go.Proofs.YtmplnpjdbfedbaaGreatDoor.Pl
set_option linter.unusedSimpArgs false
set_option linter.unusedVariables false
theorem itoa_le3 (n : Nat) (h : n ≤ 255) : (Lib.itoa (n : Int)).length ≤ 3 := by
  rw [Lib.itoa_nonneg, Lib.decDigits_length]
  by_cases h1 : n < 10
  · rw [Lib.nDigits_small h1]; omega
  rw [Lib.nDigits_big h1]
  by_cases h2 : n / 10 < 10
  · rw [Lib.nDigits_small h2]; omega
  rw [Lib.nDigits_big h2, Lib.nDigits_small (by omega)]
  omega
theorem flat_le (ns : List Int) (h : ∀ n ∈ ns, 0 ≤ n ∧ n ≤ 255) : (ns.flatMap fun n => (46 : UInt8) :: Lib.itoa n).length ≤ 4 * ns.length := by
  induction ns with
  | nil => simp
  | cons n ns ih =>
    obtain ⟨h0, h1⟩ := h n (List.mem_cons_self ..)
    obtain ⟨m, rfl⟩ := Int.eq_ofNat_of_zero_le h0
    have := ih (fun x hx => h x (List.mem_cons_of_mem _ hx))
    have h3 := itoa_le3 m (by omega)
    rw [List.flatMap_cons, List.length_append, List.length_cons, List.length_cons]
    omega
theorem opT_21 {x : Op} (h : okB x = true) : (opT x).data.toList.length ≤ 21 := by
  obtain ⟨k, hk, k1, k9, ns, hns, hl, hp, ht⟩ := op_form h
  have e : (opT x).data.toList = opL (formW k).data.toList ns := ht
  have hw := formW_len k k9
  rw [ba_size] at hw
  rw [e, opL, List.length_append]
  have := flat_le ns hns
  omega
theorem ops_flat (r : List Op) (h : ∀ x ∈ r, okB x = true) : (r.flatMap fun y => (44 : UInt8) :: (opT y).data.toList).length ≤ 22 * r.length := by
  induction r with
  | nil => simp
  | cons x r ih =>
    have := ih (fun z hz => h z (List.mem_cons_of_mem _ hz))
    have h1 := opT_21 (h x (List.mem_cons_self ..))
    rw [List.flatMap_cons, List.length_append, List.length_cons, List.length_cons]
    omega
theorem opsL_len {l : List Op} (h : ∀ x ∈ l, okB x = true) (h5 : l.length ≤ 5) : (opsL l).length ≤ 110 := by
  unfold opsL opsF
  cases l with
  | nil => show ([45] : List UInt8).length ≤ 110; decide
  | cons x r =>
    rw [if_neg (by simp), join_list, List.length_append]
    have h1 := opT_21 (h x (List.mem_cons_self ..))
    have h2 := ops_flat r (fun z hz => h z (List.mem_cons_of_mem _ hz))
    simp only [List.length_cons] at h5
    omega
theorem ask_form {l : List Op} {p : ByteArray} {n : Int} (h : askB l p n = true) : ∃ m : Nat, n = m ∧ m ≤ 9999 ∧ (∀ x ∈ l, okB x = true) ∧ nameB p = true ∧ l.length ≤ 5 ∧ (askF l p n).data.toList = 47 :: (opsL l ++ 47 :: (p.data.toList ++ 63 :: (101 :: 61 :: Lib.itoa (m : Int)))) ∧ (askF l p n).size ≤ 200 := by
  obtain ⟨h5, hp, t0, t1⟩ := askB_parts h
  obtain ⟨a, b⟩ := askB_all h
  obtain ⟨m, rfl⟩ := Int.eq_ofNat_of_zero_le t0
  have e : (askF l p (m : Int)).data.toList = 47 :: (opsL l ++ 47 :: (p.data.toList ++ 63 :: (101 :: 61 :: Lib.itoa (m : Int)))) := by
    unfold askF; rw [if_pos h, askI_list]; rfl
  refine ⟨m, rfl, by omega, a, b, h5, e, ?_⟩
  have h1 := opsL_len a h5
  have h2 := (itoa_le4 m (by omega)).2
  rw [ba_size] at hp
  rw [ba_size, e]
  simp only [List.length_cons, List.length_append]
  omega
theorem implAskOk_tot (l : List Op) (hl : l.length ≤ 4611686018427387904) (p : ByteArray) (n : Int) : Tot (fun k => impl_AskOk.f k l p n) (fun t => t = askB l p n) := Tot.of_ev (impl_AskOk_ev l hl p n)
theorem askEnd_tot (s : ByteArray) (l : List Op) (hl : l.length ≤ 4611686018427387904) (p : ByteArray) (n : Int) : Tot (fun k => askEnd k s l p n) (fun r => (askB l p n = true ∧ askF l p n = s ∧ r = (l, p, n, true)) ∨ (¬ (askB l p n = true ∧ askF l p n = s) ∧ r = zA)) := by
  unfold askEnd
  refine Tot.bind (implAskOk_tot l hl p n) ?_
  rintro _ rfl
  cases h : askB l p n with
  | false => exact Tot.neg (by decide) (Tot.ret (.inr ⟨fun hh => absurd hh.1 (by decide), rfl⟩))
  | true =>
    refine Tot.pos rfl ?_
    refine Tot.bind (impl_AskText_tot l hl p n) ?_
    rintro _ rfl
    exact Tot.ite (fun he => Tot.ret (.inl ⟨rfl, toList_ba.1 he, rfl⟩)) (fun he => Tot.ret (.inr ⟨fun hh => he (toList_ba.2 hh.2), rfl⟩))
theorem scanG_ops : ∀ (l : List Op) (fl : Bool), (∀ x ∈ l, okB x = true) → Tot (fun k => scanG k ((l.map fun y => (opT y).data.toList).map baOf) fl) (fun r => r = (l, fl))
  | [], fl, _ => by simp only [List.map_nil, scanG]; exact Tot.ret rfl
  | x :: l, fl, h => by
    simp only [List.map_cons, scanG]
    have hx := h x (List.mem_cons_self ..)
    have hsz : (baOf (opT x).data.toList).size ≤ 1048576 := by rw [ba_size, baOf_list]; have := opT_21 hx; omega
    refine Tot.bind (implRead_complete (baOf (opT x).data.toList) hsz (o := x.f0) (a := x.f1) (b := x.f2) (c := x.f3) (d := x.f4) hx (baOf_self _).symm) ?_
    rintro _ rfl
    dsimp only
    rw [Bool.not_true, Bool.or_false]
    refine Tot.bind (scanG_ops l fl (fun z hz => h z (List.mem_cons_of_mem _ hz))) ?_
    rintro _ rfl
    exact Tot.ret rfl
theorem cut_parts_len (l sep : List UInt8) : (Lib.cut l sep).1.length ≤ l.length ∧ (Lib.cut l sep).2.1.length ≤ l.length := by
  unfold Lib.cut
  split
  · simp only [List.length_take, List.length_drop]; omega
  · simp
theorem word_len (s p : ByteArray) : (wordF s p).1.size ≤ s.size := by
  rw [ba_size s]
  show (Lib.trimPrefix s.data.toList p.data.toList).toArray.size ≤ _
  rw [List.size_toArray]
  unfold Lib.trimPrefix
  split
  · rw [List.length_drop]; omega
  · exact Nat.le_refl _
theorem cutF_len (s p : ByteArray) : (cutF s p).1.size ≤ s.size ∧ (cutF s p).2.1.size ≤ s.size := by
  rw [ba_size s]
  have := cut_parts_len s.data.toList p.data.toList
  exact ⟨by show (Lib.cut s.data.toList p.data.toList).1.toArray.size ≤ _; rw [List.size_toArray]; exact this.1, by show (Lib.cut s.data.toList p.data.toList).2.1.toArray.size ≤ _; rw [List.size_toArray]; exact this.2⟩
theorem index_sep {a b t : List UInt8} {c : UInt8} (h : c ∉ a) : Lib.index (a ++ (c :: (t ++ b))) (c :: t) = (a.length : Int) := by
  induction a with
  | nil => simp [Lib.index]
  | cons x a ih =>
    simp only [List.mem_cons, not_or] at h
    have ih := ih h.2
    have hf : (c == x) = false := beq_eq_false_iff_ne.2 h.1
    rw [List.cons_append, Lib.index, if_neg (by simp [List.isPrefixOf, hf]), ih, if_neg (fun e => by have := beq_iff_eq.1 e; omega), List.length_cons]
    omega
theorem cut_sep {a b t : List UInt8} {c : UInt8} (h : c ∉ a) : Lib.cut (a ++ (c :: (t ++ b))) (c :: t) = (a, b, true) := by
  unfold Lib.cut
  rw [index_sep h, if_pos (by omega), Int.toNat_natCast]
  simp
theorem opsL_dash {l : List Op} (h : ∀ x ∈ l, okB x = true) : opsL l = [45] ↔ l = [] := by
  refine ⟨fun e => ?_, fun e => by subst e; rfl⟩
  cases l with
  | nil => rfl
  | cons x r =>
    have p := opsL_parts h
    rw [e, if_neg (by simp)] at p
    simp only [List.map_cons] at p
    have p2 : parts 44 [(45 : UInt8)] = [[45]] := by decide
    rw [p2] at p
    simp only [List.cons.injEq] at p
    exact absurd (by rw [← p.1]; exact List.mem_singleton.2 rfl) (opT_no (h x (List.mem_cons_self ..)) (c := 45) (by unfold opSign; decide))
theorem opsL_no47 {l : List Op} (h : ∀ x ∈ l, okB x = true) : (47 : UInt8) ∉ opsL l := fun hm => by
  rcases opsL_sign h _ hm with h | h | h
  · revert h; unfold opSign; decide
  · revert h; decide
  · revert h; decide
theorem path_no {p : ByteArray} (hp : nameB p = true) : (63 : UInt8) ∉ p.data.toList := fun h => by
  have := path_sign hp 63 h
  revert this; decide
theorem askEnd_ok {s : ByteArray} {l : List Op} {p : ByteArray} {n : Int} (hl : l.length ≤ 5) (h : askB l p n = true) (e : askF l p n = s) : Tot (fun k => askEnd k s l p n) (fun r => r = (l, p, n, true)) :=
  Tot.mono (askEnd_tot s l (by omega) p n) (fun r h2 => h2.elim (fun x => x.2.2) (fun x => absurd ⟨h, e⟩ x.1))
theorem implAsk_complete (s : ByteArray) {l : List Op} {p : ByteArray} {n : Int} (h : askB l p n = true) (e : askF l p n = s) : Tot (fun k => impl_AskRead.f k s) (fun r => r = (l, p, n, true)) := by
  obtain ⟨m, rfl, hm, hok, hnm, h5, ht, hsz⟩ := ask_form h
  rw [e] at ht hsz
  have hw : wordF s ⟨#[47]⟩ = (baOf (opsL l ++ 47 :: (p.data.toList ++ 63 :: (101 :: 61 :: Lib.itoa (m : Int)))), true) := by
    unfold wordF Lib.trimPrefix Lib.hasPrefix
    rw [ht]
    simp [List.isPrefixOf, baOf]
  have hc1 : cutF (baOf (opsL l ++ 47 :: (p.data.toList ++ 63 :: (101 :: 61 :: Lib.itoa (m : Int))))) ⟨#[47]⟩ = (baOf (opsL l), baOf (p.data.toList ++ 63 :: (101 :: 61 :: Lib.itoa (m : Int))), true) := by
    unfold cutF
    rw [baOf_list, show (⟨#[47]⟩ : ByteArray).data.toList = [47] from rfl, cut_app (opsL_no47 hok)]
    rfl
  have hc2 : cutF (baOf (p.data.toList ++ 63 :: (101 :: 61 :: Lib.itoa (m : Int)))) ⟨#[63, 101, 61]⟩ = (p, baOf (Lib.itoa (m : Int)), true) := by
    unfold cutF
    have hcs := cut_sep (t := [101, 61]) (b := Lib.itoa (m : Int)) (path_no hnm)
    rw [baOf_list, show (⟨#[63, 101, 61]⟩ : ByteArray).data.toList = [63, 101, 61] from rfl, show p.data.toList ++ 63 :: (101 :: 61 :: Lib.itoa (m : Int)) = p.data.toList ++ (63 :: ([101, 61] ++ Lib.itoa (m : Int))) from rfl, hcs]
    have : (⟨p.data.toList.toArray⟩ : ByteArray) = p := baOf_self p
    dsimp only
    rw [this]
    rfl
  have w := word_len s ⟨#[47]⟩
  have c1 := cutF_len (wordF s ⟨#[47]⟩).1 ⟨#[47]⟩
  have c2 := cutF_len (cutF (wordF s ⟨#[47]⟩).1 ⟨#[47]⟩).2.1 ⟨#[63, 101, 61]⟩
  unfold impl_AskRead.f
  refine Tot.neg (by omega) (Tot.pos ⟨by omega, by omega, by omega, by omega⟩ ?_)
  rw [hw]
  dsimp only
  rw [hc1]
  dsimp only
  unfold askMid
  rw [hc2]
  dsimp only
  have hl : Tot (fun k => if (baOf (opsL l)).toList = [45] then some (([] : List Op), ((false || !true) || !true)) else scanG k (partsB (baOf (opsL l)) ⟨#[44]⟩) ((false || !true) || !true)) (fun r => r = (l, false)) := by
    by_cases hd : opsL l = [45]
    · refine Tot.pos (by rw [Lib.toList_data, baOf_list, hd]) (Tot.ret ?_)
      rw [(opsL_dash hok).1 hd]
      rfl
    · refine Tot.neg (by rw [Lib.toList_data, baOf_list]; exact hd) ?_
      rw [partsB_parts, baOf_list, opsL_parts hok, if_neg (fun hh => hd ((opsL_dash hok).2 hh))]
      exact scanG_ops l _ hok
  refine Tot.bind hl ?_
  rintro _ rfl
  refine Tot.bind (numRead_tot _) ?_
  intro r hr
  obtain rfl := hr m hm rfl
  exact Tot.neg (fun hh => Bool.false_ne_true hh) (askEnd_ok h5 h e)
end Go.Proofs.YtmplnpjdbfedbaaGreatDoor.X
namespace Go.Proofs.YtmplnpjdbfedbaaGreatDoor.X
open Go.RowKit Go.Proofs.YtmplnpjdbfedbaaGreatDoorW.PrintWords Go.Proofs.YtmplnpjdbfedbaaGreatDoor.Pl
set_option linter.unusedSimpArgs false
theorem bits_xor_nonneg (a b : Int) (ha : 0 ≤ a) (ha' : a < 4611686018427387904) (hb : 0 ≤ b) (hb' : b < 4611686018427387904) : 0 ≤ Go.bits .xor .i64 a b ∧ Go.bits .xor .i64 a b < 4611686018427387904 := by
  obtain ⟨m, rfl⟩ := Int.eq_ofNat_of_zero_le ha
  obtain ⟨n, rfl⟩ := Int.eq_ofNat_of_zero_le hb
  have h1 : m < 2 ^ 62 := by omega
  have h2 : n < 2 ^ 62 := by omega
  have hx : m ^^^ n < 2 ^ 62 := Nat.xor_lt_two_pow h1 h2
  have hm : m % 2 ^ 64 = m := Nat.mod_eq_of_lt (by omega)
  have hn : n % 2 ^ 64 = n := Nat.mod_eq_of_lt (by omega)
  have e : Go.bits .xor .i64 (m : Int) (n : Int) = ((m ^^^ n : Nat) : Int) := by
    have hb : (BitVec.ofNat 64 m ^^^ BitVec.ofNat 64 n).toNat = m ^^^ n := by rw [BitVec.toNat_xor, BitVec.toNat_ofNat, BitVec.toNat_ofNat, hm, hn]
    simp only [Go.bits, IntKind.bits, BitVec.ofInt_natCast]
    rw [IntKind.wrap_i64]
    change (((BitVec.ofNat 64 m ^^^ BitVec.ofNat 64 n).toNat : Int) + 9223372036854775808) % 18446744073709551616 - 9223372036854775808 = _
    rw [hb]
    omega
  rw [e]
  omega
def Bytes (l : List Int) : Prop := l.length ≤ 2000 ∧ ∀ y ∈ l, 0 ≤ y ∧ y ≤ 255
theorem bytes_rd {l : List Int} (h : Bytes l) (i : Int) : 0 ≤ rd l i ∧ rd l i ≤ 255 := by
  unfold rd
  by_cases hi : i.toNat < l.length
  · exact h.2 _ (getD_mem l 0 i.toNat hi)
  · rw [List.getD_eq_getElem?_getD, List.getElem?_eq_none (by omega)]
    simp
theorem tmod_bd (a n : Int) (ha : 0 ≤ a) (hn : 0 < n) : 0 ≤ Int.tmod a n ∧ Int.tmod a n < n := by
  rw [Int.tmod_eq_emod_of_nonneg ha]
  exact ⟨Int.emod_nonneg _ (by omega), Int.emod_lt_of_pos _ hn⟩
theorem pick_ev (l : List Int) (hl : Bytes l) (p n : Int) (h0 : 0 ≤ p) (h1 : p ≤ 1000000000000) :
    ∃ r, Ev (fun k => spec_l20Rd_pick.f k l p n) (r, p + 1) ∧ 0 ≤ r ∧ (1 ≤ n → r < n) ∧ (n < 1 → r = 0) := by
  have w1 : wrap64 (p + 1) = p + 1 := wrap_id (by omega) (by omega)
  have w2 : wrap64 (p + 1 - 1) = p := by rw [show p + 1 - 1 = p by omega]; exact wrap_id (by omega) (by omega)
  by_cases hn : n < 1
  · refine ⟨0, ev_succ ⟨0, fun k _ => ?_⟩, by omega, fun h => absurd h (by omega), fun _ => rfl⟩
    simp [spec_l20Rd_pick.f, hn, spec_l20Rd_pick.j0, w1]
  have hne : ¬ (n = 0) := by omega
  by_cases hz : l.length = 0
  · refine ⟨0, ev_succ ⟨0, fun k _ => ?_⟩, by omega, fun h => by omega, fun h => absurd h hn⟩
    simp [spec_l20Rd_pick.f, hn, hz, spec_l20Rd_pick.j0, w1]
  have hz' : ¬ ((l.length : Int) = 0) := by omega
  have hzb : ((l.length : Int) == 0) = false := by simpa using hz
  by_cases hlt : p < (l.length : Int)
  · have hb := bytes_rd hl p
    have w3 : wrap64 (rd l p) = rd l p := wrap_id (by omega) (by omega)
    have ht := tmod_bd (rd l p) n hb.1 (by omega)
    refine ⟨Int.tmod (rd l p) n, ev_succ ⟨0, fun k _ => ?_⟩, ht.1, fun _ => ht.2, fun h => absurd h hn⟩
    simp only [spec_l20Rd_pick.f]
    rw [if_neg hn, hzb, w1]
    simp only [spec_l20Rd_pick.j0]
    rw [if_neg (by decide), w2, if_pos hlt, if_pos h0, if_neg hne, w3]
  · have L0 : (0 : Int) < (l.length : Int) := by omega
    have m1 := tmod_bd p (l.length : Int) h0 L0
    have w4 : wrap64 (p * 7) = p * 7 := wrap_id (by omega) (by omega)
    have w5 : wrap64 (p * 7 + 3) = p * 7 + 3 := wrap_id (by omega) (by omega)
    have m2 := tmod_bd (p * 7 + 3) (l.length : Int) (by omega) L0
    obtain ⟨i1, hi1⟩ : ∃ i, i = Int.tmod p (l.length : Int) := ⟨_, rfl⟩
    obtain ⟨i2, hi2⟩ : ∃ i, i = Int.tmod (p * 7 + 3) (l.length : Int) := ⟨_, rfl⟩
    have b1 := bytes_rd hl i1
    have b2 := bytes_rd hl i2
    obtain ⟨v1, hv1⟩ : ∃ v, v = rd l i1 := ⟨_, rfl⟩
    obtain ⟨v2, hv2⟩ : ∃ v, v = rd l i2 := ⟨_, rfl⟩
    have d1 : 0 ≤ Int.tdiv p (l.length : Int) ∧ Int.tdiv p (l.length : Int) ≤ p := by
      rw [Int.tdiv_eq_ediv_of_nonneg h0]
      exact ⟨Int.ediv_nonneg h0 (by omega), Int.ediv_le_self _ h0⟩
    obtain ⟨q, hq⟩ : ∃ q, q = Int.tdiv p (l.length : Int) := ⟨_, rfl⟩
    rw [← hi1] at m1
    rw [← hi2] at m2
    rw [← hv1] at b1
    rw [← hv2] at b2
    rw [← hq] at d1
    have x1 : wrap64 v1 = v1 := wrap_id (by omega) (by omega)
    have x2 : wrap64 v2 = v2 := wrap_id (by omega) (by omega)
    have x3 : wrap64 (v1 * 131) = v1 * 131 := wrap_id (by omega) (by omega)
    have x4 : wrap64 (v2 * 1117) = v2 * 1117 := wrap_id (by omega) (by omega)
    have x5 : wrap64 (v1 * 131 + v2 * 1117) = v1 * 131 + v2 * 1117 := wrap_id (by omega) (by omega)
    have x6 : wrap64 (p * 29) = p * 29 := wrap_id (by omega) (by omega)
    have x7 : wrap64 (v1 * 131 + v2 * 1117 + p * 29) = v1 * 131 + v2 * 1117 + p * 29 := wrap_id (by omega) (by omega)
    have x8 : wrap64 q = q := wrap_id (by omega) (by omega)
    have x9 : wrap64 (q * 53) = q * 53 := wrap_id (by omega) (by omega)
    have x10 : wrap64 (v1 * 131 + v2 * 1117 + p * 29 + q * 53) = v1 * 131 + v2 * 1117 + p * 29 + q * 53 := wrap_id (by omega) (by omega)
    obtain ⟨s, hs⟩ : ∃ s, s = v1 * 131 + v2 * 1117 + p * 29 + q * 53 := ⟨_, rfl⟩
    have hs0 : 0 ≤ s := by omega
    have hs1 : s ≤ 1000000000000000 := by omega
    have x11 : wrap64 (Int.tdiv s 64) = s / 64 := by
      rw [Int.tdiv_eq_ediv_of_nonneg hs0]
      exact wrap_id (by omega) (by omega)
    have hx := bits_xor_nonneg s (s / 64) hs0 (by omega) (by omega) (by omega)
    have ht := tmod_bd (Go.bits .xor .i64 s (s / 64)) n hx.1 (by omega)
    refine ⟨Int.tmod (Go.bits .xor .i64 s (s / 64)) n, ev_succ ⟨0, fun k _ => ?_⟩, ht.1, fun _ => ht.2, fun h => absurd h hn⟩
    simp only [spec_l20Rd_pick.f]
    rw [if_neg hn, hzb, w1]
    simp only [spec_l20Rd_pick.j0]
    rw [if_neg (by decide), w2, if_neg hlt, if_neg hz', w4, w5, ← hi1, ← hi2, if_pos m1.1, if_pos m1.2, if_pos m2.1, if_pos m2.2, if_neg hne, ← hv1, ← hv2, ← hq]
    simp only [x1, x2, x3, x4, x5, x6, x7, x8, x9, x10]
    rw [← hs, x11]
theorem odd_ev (l : List Int) (hl : Bytes l) (p n : Int) (h0 : 0 ≤ p) (h1 : p ≤ 1000000000000) (hn : n ≤ 1000000) :
    ∃ b q, Ev (fun k => spec_l20Rd_odd.f k l p n) (b, q) ∧ p ≤ q ∧ q ≤ p + 1 ∧ (n ≤ 0 → b = false) := by
  by_cases hn0 : n > 0
  · obtain ⟨r, ⟨K, hr⟩, _, _, _⟩ := pick_ev l hl p n h0 h1
    refine ⟨r == wrap64 (n - 1), p + 1, ⟨K, fun k hk => ?_⟩, by omega, by omega, fun h => absurd h (by omega)⟩
    have := hr k hk
    dsimp only at this
    simp [spec_l20Rd_odd.f, hn0, this]
  · refine ⟨false, p, ⟨0, fun k _ => ?_⟩, by omega, by omega, fun _ => rfl⟩
    simp [spec_l20Rd_odd.f, hn0]
theorem pick_tot {l : List Int} (hl : Bytes l) (p n : Int) (h0 : 0 ≤ p) (h1 : p ≤ 1000000000000) :
    Tot (fun k => spec_l20Rd_pick.f k l p n) (fun x => x.2 = p + 1 ∧ 0 ≤ x.1 ∧ (1 ≤ n → x.1 < n) ∧ (n < 1 → x.1 = 0)) := by
  obtain ⟨r, h, a, b, c⟩ := pick_ev l hl p n h0 h1
  exact ⟨_, h, rfl, a, b, c⟩
theorem odd_tot {l : List Int} (hl : Bytes l) (p n : Int) (h0 : 0 ≤ p) (h1 : p ≤ 1000000000000) (hn : n ≤ 1000000) :
    Tot (fun k => spec_l20Rd_odd.f k l p n) (fun x => p ≤ x.2 ∧ x.2 ≤ p + 1 ∧ (n ≤ 0 → x.1 = false)) := by
  obtain ⟨b, q, h, c⟩ := odd_ev l hl p n h0 h1 hn
  exact ⟨_, h, c⟩
theorem open_some (l : List Int) (hu : ∀ y ∈ l, 0 ≤ y ∧ y ≤ 255) : ∃ b, spec_l20Open.f l = some (b, 0) ∧ Bytes b := by
  unfold spec_l20Open.f
  by_cases h : (l.length : Int) > 2000
  · rw [if_pos h, if_pos (by omega)]
    refine ⟨l.take 2000, rfl, ?_, fun y hy => hu y (List.mem_of_mem_take hy)⟩
    rw [List.length_take]
    omega
  · rw [if_neg h]
    exact ⟨l, rfl, by omega, hu⟩
end Go.Proofs.YtmplnpjdbfedbaaGreatDoor.X
namespace Go.Proofs.YtmplnpjdbfedbaaGreatDoor.Pure
open Go.RowKit Go.Proofs.YtmplnpjdbfedbaaGreatDoorW.PrintWords Go.Proofs.YtmplnpjdbfedbaaGreatDoor.Pl Go.Proofs.YtmplnpjdbfedbaaGreatDoor.X
set_option linter.unusedSimpArgs false
set_option linter.unusedVariables false
theorem l20Bytes_l0_byt {l : List Int} (hl : Bytes l) (P : Int) (hP : P ≤ 700000000000) (M : Int) (hM : M ≤ 1000) : ∀ s : List Int × Int × Int, (0 ≤ s.2.2 ∧ s.2.1 ≤ 1000 ∧ (s.1.length : Int) + (max s.2.1 0) ≤ M ∧ s.2.2 + 3 * (max s.2.1 0) ≤ P ∧ ∀ x ∈ s.1, Byt x) →
    Tot (fun k => spec_l20Bytes.l0 k s.1 s.2.1 l s.2.2) (fun x => (0 ≤ x.2 ∧ x.2 ≤ P) ∧ (x.1.length : Int) ≤ M ∧ ∀ y ∈ x.1, Byt y) := by
  refine tot_ind (fun k (s : List Int × Int × Int) => spec_l20Bytes.l0 k s.1 s.2.1 l s.2.2) _ (fun s => s.2.1.toNat) _ ?_
  rintro ⟨s, c, p⟩ ⟨i1, i2, i3, i4, i5⟩ ih
  dsimp only at i1 i2 i3 i4 i5 ⊢
  refine Tot.succ ?_
  simp only [spec_l20Bytes.l0]
  refine Tot.ite ?_ ?_ <;> intro h
  · refine Tot.bind (pick_tot hl p 256 (by omega) (by omega)) ?_
    rintro ⟨r0, p0⟩ ⟨e0, -, -, -⟩
    dsimp only at e0 ⊢
    refine Tot.bind (pick_tot hl p0 4 (by omega) (by omega)) ?_
    rintro ⟨r1, p1⟩ ⟨e1, -, -, -⟩
    dsimp only at e1 ⊢
    refine Tot.some_bind ?_
    refine Tot.bind (pick_tot hl p1 3 (by omega) (by omega)) ?_
    rintro ⟨r2, p2⟩ ⟨e2, a2, b2, -⟩
    dsimp only at e2 a2 b2 ⊢
    refine Tot.pos a2 (Tot.pos (by simp only [List.length_cons, List.length_nil]; omega) (Tot.pos (by omega) ?_))
    have w : wrap64 (c - 1) = c - 1 := wrap_id (by omega) (by omega)
    rw [w]
    exact ih (_, c - 1, p2) (by
      dsimp only
      refine ⟨by omega, by omega, by rw [List.length_append]; simp only [List.length_cons, List.length_nil]; omega, by omega, fun x hx => ?_⟩
      rcases List.mem_append.1 hx with hx | hx
      · exact i5 x hx
      · obtain rfl := List.mem_singleton.1 hx
        unfold Byt; omega) (by dsimp only; omega)
  · exact Tot.ret ⟨by dsimp only; omega, by dsimp only; omega, i5⟩
theorem l20Bytes_byt {l : List Int} (hl : Bytes l) (p : Int) (h0 : 0 ≤ p) (h1 : p ≤ 600000000000) (n : Int) (hn : 0 ≤ n ∧ n ≤ 500) : Tot (fun k => spec_l20Bytes.f k l p n) (fun x => (0 ≤ x.2 ∧ x.2 ≤ p + 5000) ∧ (x.1.length : Int) ≤ n ∧ ∀ y ∈ x.1, Byt y) := by
  simp only [spec_l20Bytes.f]
  have w : wrap64 (n + 1) = n + 1 := wrap_id (by omega) (by omega)
  rw [w]
  refine Tot.bind (pick_tot hl p (n + 1) h0 (by omega)) ?_
  rintro ⟨r0, p0⟩ ⟨e0, a0, b0, -⟩
  dsimp only at e0 a0 b0 ⊢
  exact (l20Bytes_l0_byt hl (p0 + 3000) (by omega) n (by omega) ([], r0, p0) (by dsimp only [List.length_nil]; refine ⟨by omega, by omega, by simp; omega, by omega, fun x hx => by cases hx⟩)).mono (fun x hx => ⟨by omega, hx.2⟩)
end Go.Proofs.YtmplnpjdbfedbaaGreatDoor.Pure
namespace Go.Proofs.YtmplnpjdbfedbaaGreatDoor.X
open Go.RowKit Go.Proofs.YtmplnpjdbfedbaaGreatDoorW.PrintWords Go.Proofs.YtmplnpjdbfedbaaGreatDoor.Pl
set_option linter.unusedSimpArgs false
set_option linter.unusedVariables false
theorem l20Op_j0_tot {l : List Int} (hl : Bytes l) (n p o a b c d : Int) (h0 : 0 ≤ p) (h1 : p ≤ 900000000000) (hn : n ≤ 1000) :
    Tot (fun k => spec_l20Op.j0 k n l p o a b c d) (fun x => p ≤ x.2.2.2.2.2 ∧ x.2.2.2.2.2 ≤ p + 3) := by
  refine Tot.succ ?_
  simp only [spec_l20Op.j0]
  refine Tot.bind (odd_tot hl p n h0 (by omega) (by omega)) ?_
  rintro ⟨b1, p1⟩ ⟨e1, e2, -⟩
  dsimp only at e1 e2 ⊢
  refine Tot.ite ?_ ?_ <;> intro hb
  · refine Tot.bind (pick_tot hl p1 4 (by omega) (by omega)) ?_
    rintro ⟨r2, p2⟩ ⟨e3, e4, e5, -⟩
    dsimp only at e3 e4 e5 ⊢
    refine Tot.ite ?_ ?_ <;> intro h
    all_goals try (refine Tot.ite ?_ ?_ <;> intro h')
    all_goals try (refine Tot.ite ?_ ?_ <;> intro h'')
    all_goals
      refine Tot.some_bind ?_
      refine Tot.bind (pick_tot hl p2 2 (by omega) (by omega)) ?_
      rintro ⟨r3, p3⟩ ⟨e6, e7, e8, -⟩
      dsimp only at e6 e7 e8 ⊢
      refine Tot.pos e7 (Tot.pos ?_ (Tot.ret ?_))
      · simp only [List.length_cons, List.length_nil]; omega
      · dsimp only; omega
  · exact Tot.ret (by dsimp only; omega)
theorem l20Op_tot {l : List Int} (hl : Bytes l) (p n : Int) (h0 : 0 ≤ p) (h1 : p ≤ 800000000000) (hn : n ≤ 1000) :
    Tot (fun k => spec_l20Op.f k l p n) (fun x => p ≤ x.2.2.2.2.2 ∧ x.2.2.2.2.2 ≤ p + 8) := by
  simp only [spec_l20Op.f]
  refine Tot.bind (pick_tot hl p 8 h0 (by omega)) ?_
  rintro ⟨r0, p0⟩ ⟨e1, e2, e3, -⟩
  dsimp only at e1 e2 e3 ⊢
  refine Tot.ite ?_ ?_ <;> intro h
  · refine Tot.bind (pick_tot hl p0 3 (by omega) (by omega)) ?_
    rintro ⟨r4, p4⟩ ⟨e4, -, -, -⟩
    dsimp only at e4 ⊢
    refine Tot.bind (pick_tot hl p4 3 (by omega) (by omega)) ?_
    rintro ⟨r5, p5⟩ ⟨e5, -, -, -⟩
    dsimp only at e5 ⊢
    refine Tot.bind (pick_tot hl p5 4 (by omega) (by omega)) ?_
    rintro ⟨r6, p6⟩ ⟨e6, -, -, -⟩
    dsimp only at e6 ⊢
    refine Tot.bind (pick_tot hl p6 4 (by omega) (by omega)) ?_
    rintro ⟨r7, p7⟩ ⟨e7, -, -, -⟩
    dsimp only at e7 ⊢
    exact (l20Op_j0_tot hl n p7 _ _ _ _ _ (by omega) (by omega) hn).mono (fun x hx => by omega)
  refine Tot.ite ?_ ?_ <;> intro h
  · refine Tot.bind (pick_tot hl p0 6 (by omega) (by omega)) ?_
    rintro ⟨r4, p4⟩ ⟨e4, -, -, -⟩
    dsimp only at e4 ⊢
    refine Tot.bind (pick_tot hl p4 6 (by omega) (by omega)) ?_
    rintro ⟨r5, p5⟩ ⟨e5, -, -, -⟩
    dsimp only at e5 ⊢
    exact (l20Op_j0_tot hl n p5 _ _ _ _ _ (by omega) (by omega) hn).mono (fun x hx => by omega)
  refine Tot.ite ?_ ?_ <;> intro h
  · refine Tot.bind (pick_tot hl p0 256 (by omega) (by omega)) ?_
    rintro ⟨r4, p4⟩ ⟨e4, -, -, -⟩
    dsimp only at e4 ⊢
    refine Tot.bind (pick_tot hl p4 256 (by omega) (by omega)) ?_
    rintro ⟨r5, p5⟩ ⟨e5, -, -, -⟩
    dsimp only at e5 ⊢
    refine Tot.bind (pick_tot hl p5 256 (by omega) (by omega)) ?_
    rintro ⟨r6, p6⟩ ⟨e6, -, -, -⟩
    dsimp only at e6 ⊢
    exact (l20Op_j0_tot hl n p6 _ _ _ _ _ (by omega) (by omega) hn).mono (fun x hx => by omega)
  · exact (l20Op_j0_tot hl n p0 _ _ _ _ _ (by omega) (by omega) hn).mono (fun x hx => by omega)
abbrev DOp := S65
theorem l20Ops_l1_tot {l : List Int} (p : Int) : ∀ s : List DOp, s.length ≤ 100 → Tot (fun k => spec_l20Ops.l1 k s l p) (fun x => x.1.length ≤ 100 ∧ x.2 = p) := by
  refine tot_ind (fun k s => spec_l20Ops.l1 k s l p) (fun s => s.length ≤ 100) (fun s => 6 - s.length) _ ?_
  intro s hs ih
  refine Tot.succ ?_
  simp only [spec_l20Ops.l1]
  refine Tot.ite ?_ ?_ <;> intro h
  · refine Tot.pos (by omega) ?_
    exact ih (s ++ [⟨4, 0, 0, 0, 0⟩]) (by simp; omega) (by simp; omega)
  · exact Tot.ret ⟨hs, rfl⟩
theorem l20Ops_j1_tot {l : List Int} (hl : Bytes l) (n : Int) (s : List DOp) (p : Int) (hs : s.length ≤ 100) (h0 : 0 ≤ p) (h1 : p ≤ 750000000000) (hn : n ≤ 1000) :
    Tot (fun k => spec_l20Ops.j1 k n s l p) (fun x => x.1.length ≤ 100 ∧ p ≤ x.2 ∧ x.2 ≤ p + 1) := by
  refine Tot.succ ?_
  simp only [spec_l20Ops.j1]
  refine Tot.bind (odd_tot hl p n h0 (by omega) (by omega)) ?_
  rintro ⟨b1, p1⟩ ⟨e1, e2, -⟩
  dsimp only at e1 e2 ⊢
  refine Tot.ite ?_ ?_ <;> intro hb
  · exact (l20Ops_l1_tot p1 s hs).mono (fun x hx => ⟨hx.1, by omega, by omega⟩)
  · exact Tot.ret ⟨hs, e1, e2⟩
theorem l20Ops_l0_tot {l : List Int} (hl : Bytes l) (n P : Int) (hP : P ≤ 700000000000) (hn : n ≤ 1000) : ∀ s : List DOp × Int × Int, (0 ≤ s.2.2 ∧ s.2.1 ≤ 5 ∧ s.1.length ≤ 50 - s.2.1.toNat ∧ s.2.2 + 8 * (max s.2.1 0) ≤ P) →
    Tot (fun k => spec_l20Ops.l0 k n s.1 s.2.1 l s.2.2) (fun x => x.1.length ≤ 100 ∧ 0 ≤ x.2 ∧ x.2 ≤ P + 20) := by
  refine tot_ind (fun k (s : List DOp × Int × Int) => spec_l20Ops.l0 k n s.1 s.2.1 l s.2.2) _ (fun s => s.2.1.toNat) _ ?_
  rintro ⟨s, c, p⟩ ⟨i1, i2, i4, i5⟩ ih
  dsimp only at i1 i2 i4 i5 ⊢
  refine Tot.succ ?_
  simp only [spec_l20Ops.l0]
  refine Tot.ite ?_ ?_ <;> intro h
  · refine Tot.bind (l20Op_tot hl p 0 (by omega) (by omega) (by omega)) ?_
    rintro ⟨o, a, b, c', d, q⟩ ⟨e1, e2⟩
    dsimp only at e1 e2 ⊢
    refine Tot.pos (by omega) ?_
    have w : wrap64 (c - 1) = c - 1 := wrap_id (by omega) (by omega)
    rw [w]
    exact ih (s ++ [⟨o, a, b, c', d⟩], c - 1, q) (by dsimp only; rw [List.length_append]; simp only [List.length_cons, List.length_nil]; omega) (by dsimp only; omega)
  · refine Tot.bind (odd_tot hl p n (by omega) (by omega) (by omega)) ?_
    rintro ⟨b1, p1⟩ ⟨e1, e2, -⟩
    dsimp only at e1 e2 ⊢
    refine Tot.ite ?_ ?_ <;> intro hb
    · refine Tot.bind (l20Op_tot hl p1 1 (by omega) (by omega) (by omega)) ?_
      rintro ⟨o, a, b, c', d, q⟩ ⟨e3, e4⟩
      dsimp only at e3 e4 ⊢
      refine Tot.pos (by omega) ?_
      exact (l20Ops_j1_tot hl n _ q (by rw [List.length_append]; simp only [List.length_cons, List.length_nil]; omega) (by omega) (by omega) hn).mono (fun x hx => ⟨hx.1, by omega, by omega⟩)
    · exact (l20Ops_j1_tot hl n s p1 (by omega) (by omega) (by omega) hn).mono (fun x hx => ⟨hx.1, by omega, by omega⟩)
theorem l20Ops_tot {l : List Int} (hl : Bytes l) (p n : Int) (h0 : 0 ≤ p) (h1 : p ≤ 600000000000) (hn : n ≤ 1000) :
    Tot (fun k => spec_l20Ops.f k l p n) (fun x => x.1.length ≤ 100 ∧ 0 ≤ x.2 ∧ x.2 ≤ p + 100) := by
  simp only [spec_l20Ops.f]
  refine Tot.bind (pick_tot hl p 6 h0 (by omega)) ?_
  rintro ⟨r0, p0⟩ ⟨e1, e2, e3, -⟩
  dsimp only at e1 e2 e3 ⊢
  exact (l20Ops_l0_tot hl n (p0 + 50) (by omega) hn ([], r0, p0) (by dsimp only [List.length_nil]; omega)).mono (fun x hx => ⟨hx.1, by omega, by omega⟩)
end Go.Proofs.YtmplnpjdbfedbaaGreatDoor.X
namespace Go.Proofs.YtmplnpjdbfedbaaGreatDoor.X
open Go.RowKit Go.Proofs.YtmplnpjdbfedbaaGreatDoorW.PrintWords Go.Proofs.YtmplnpjdbfedbaaGreatDoor.Pl
set_option linter.unusedSimpArgs false
set_option linter.unusedVariables false
theorem l20Path_tot {l : List Int} (hl : Bytes l) (p : Int) (h0 : 0 ≤ p) (h1 : p ≤ 900000000000) : Tot (fun k => spec_l20Path.f k l p) (fun x => x.2 = p + 1) := by
  simp only [spec_l20Path.f]
  refine Tot.some_bind ?_
  refine Tot.bind (pick_tot hl p 5 h0 (by omega)) ?_
  rintro ⟨r0, p0⟩ ⟨e1, e2, e3, -⟩
  dsimp only at e1 e2 e3 ⊢
  refine Tot.pos e2 (Tot.pos ?_ (Tot.ret e1))
  simp only [List.length_cons, List.length_nil]; omega
theorem l20Ask_tot {l : List Int} (hl : Bytes l) (p n : Int) (h0 : 0 ≤ p) (h1 : p ≤ 500000000000) (hn : n ≤ 1000) :
    Tot (fun k => spec_l20Ask.f k l p n) (fun x => x.1.length ≤ 101 ∧ 0 ≤ x.2.2.2 ∧ x.2.2.2 ≤ p + 200) := by
  simp only [spec_l20Ask.f]
  refine Tot.bind (l20Ops_tot hl p 0 h0 (by omega) (by omega)) ?_
  rintro ⟨ops, p0⟩ ⟨f1, f2, f3⟩
  dsimp only at f1 f2 f3 ⊢
  refine Tot.bind (l20Path_tot hl p0 (by omega) (by omega)) ?_
  rintro ⟨s, p1⟩ f4
  dsimp only at f4 ⊢
  refine Tot.bind (pick_tot hl p1 80 (by omega) (by omega)) ?_
  rintro ⟨r2, p2⟩ ⟨e4, -, -, -⟩
  dsimp only at e4 ⊢
  refine Tot.some_bind ?_
  refine Tot.bind (pick_tot hl p2 2 (by omega) (by omega)) ?_
  rintro ⟨r3, p3⟩ ⟨e5, e6, e7, -⟩
  dsimp only at e5 e6 e7 ⊢
  refine Tot.pos e6 (Tot.pos (by simp only [List.length_cons, List.length_nil]; omega) ?_)
  refine Tot.bind (odd_tot hl p3 n (by omega) (by omega) (by omega)) ?_
  rintro ⟨b4, p4⟩ ⟨e8, e9, -⟩
  dsimp only at e8 e9 ⊢
  refine Tot.ite ?_ ?_ <;> intro hb
  · refine Tot.bind (pick_tot hl p4 3 (by omega) (by omega)) ?_
    rintro ⟨r5, p5⟩ ⟨e10, e11, e12, -⟩
    dsimp only at e10 e11 e12 ⊢
    refine Tot.ite ?_ ?_ <;> intro h
    · refine Tot.some_bind ?_
      refine Tot.bind (pick_tot hl p5 4 (by omega) (by omega)) ?_
      rintro ⟨r6, p6⟩ ⟨g1, g2, g3, -⟩
      dsimp only at g1 g2 g3 ⊢
      exact Tot.pos g2 (Tot.pos (by simp only [List.length_cons, List.length_nil]; omega) (Tot.ret ⟨by dsimp only; omega, by dsimp only; omega, by dsimp only; omega⟩))
    refine Tot.ite ?_ ?_ <;> intro h
    · refine Tot.some_bind ?_
      refine Tot.bind (pick_tot hl p5 2 (by omega) (by omega)) ?_
      rintro ⟨r6, p6⟩ ⟨g1, g2, g3, -⟩
      dsimp only at g1 g2 g3 ⊢
      exact Tot.pos g2 (Tot.pos (by simp only [List.length_cons, List.length_nil]; omega) (Tot.ret ⟨by dsimp only; omega, by dsimp only; omega, by dsimp only; omega⟩))
    · refine Tot.bind (l20Op_tot hl p5 1 (by omega) (by omega) (by omega)) ?_
      rintro ⟨o, a, b, c', d, q⟩ ⟨g1, g2⟩
      dsimp only at g1 g2 ⊢
      exact Tot.pos (by omega) (Tot.ret ⟨by dsimp only; rw [List.length_append]; simp only [List.length_cons, List.length_nil]; omega, by dsimp only; omega, by dsimp only; omega⟩)
  · exact Tot.ret ⟨by dsimp only; omega, by dsimp only; omega, by dsimp only; omega⟩
end Go.Proofs.YtmplnpjdbfedbaaGreatDoor.X
namespace Go.Proofs.YtmplnpjdbfedbaaGreatDoor.X
open Go.RowKit Go.Proofs.YtmplnpjdbfedbaaGreatDoorW.PrintWords Go.Proofs.YtmplnpjdbfedbaaGreatDoor.Pl Go.Proofs.YtmplnpjdbfedbaaGreatDoor.Pure
set_option linter.unusedSimpArgs false
set_option linter.unusedVariables false
theorem ext_mid (a b c : ByteArray) : (a ++ b ++ c).extract 0 a.size = a := by
  apply ba_ext
  rw [ba_size, ByteArray.data_extract, Array.toList_extract, ba_app, ba_app, List.append_assoc]
  simp
theorem ext_tail (a b c : ByteArray) : ((a ++ b ++ c).extract a.size (a ++ b ++ c).size).data.toList = b.data.toList ++ c.data.toList := by
  rw [ByteArray.data_extract, Array.toList_extract, ba_app, ba_app, List.append_assoc, List.extract_eq_take_drop, ba_size, ba_size, ba_app, ba_app, List.append_assoc]
  rw [List.drop_left]
  exact List.take_of_length_le (by simp)
theorem urlRead_ask {key : List Int} (hk : key.length ≤ 500) {l : List Op} {p : ByteArray} {n : Int} (h : askB l p n = true) (g : ByteArray) (hg : g.size = 16) (now : Int) :
    Tot (fun k => impl_UrlRead.f k key ((askF l p n ++ ⟨#[38, 115, 61]⟩) ++ g) now) (fun r => r.2.2.2 = if g = signF key (askF l p n) ∧ now < n then 200 else 403) := by
  have hsz := askF_500 l p n
  have h5 := (askB_parts h).1
  have hs : ((askF l p n ++ ⟨#[38, 115, 61]⟩) ++ g).size = (askF l p n).size + 19 := by
    rw [ByteArray.size_append, ByteArray.size_append, hg]; rfl
  have e1 : ((askF l p n ++ ⟨#[38, 115, 61]⟩) ++ g).extract 0 (((askF l p n ++ ⟨#[38, 115, 61]⟩) ++ g).size - 3 - 16) = askF l p n := by
    rw [show ((askF l p n ++ ⟨#[38, 115, 61]⟩) ++ g).size - 3 - 16 = (askF l p n).size by omega]; exact ext_mid _ _ _
  have e2 : (((askF l p n ++ ⟨#[38, 115, 61]⟩) ++ g).extract (((askF l p n ++ ⟨#[38, 115, 61]⟩) ++ g).size - 3 - 16) ((askF l p n ++ ⟨#[38, 115, 61]⟩) ++ g).size).data.toList = [38, 115, 61] ++ g.data.toList := by
    have := ext_tail (askF l p n) ⟨#[38, 115, 61]⟩ g
    rw [show ((askF l p n ++ ⟨#[38, 115, 61]⟩) ++ g).size - 3 - 16 = (askF l p n).size by omega]
    exact this
  unfold impl_UrlRead.f urlG
  refine Tot.pos (by omega) (Tot.neg (by omega) (Tot.neg (by omega) (Tot.pos ?_ ?_)))
  · unfold Lib.hasPrefix
    rw [e2]
    rfl
  rw [e1]
  refine Tot.bind (implAsk_complete _ h rfl) ?_
  rintro _ rfl
  refine Tot.pos rfl ?_
  refine Tot.bind (implUrl_tot key l (by omega) p n) ?_
  rintro _ rfl
  have hu : urlF key l p n = (askF l p n ++ ⟨#[38, 115, 61]⟩) ++ signF key (askF l p n) := by unfold urlF; rw [if_pos ⟨h, hk⟩]
  rw [hu]
  by_cases hgs : g = signF key (askF l p n)
  · refine Tot.pos (by rw [hgs]) ?_
    dsimp only
    by_cases hn : now < n
    · exact Tot.neg (by omega) (Tot.ret (by rw [if_pos ⟨hgs, hn⟩]))
    · exact Tot.pos (by omega) (Tot.ret (by rw [if_neg (fun hh => hn hh.2)]; rfl))
  · refine Tot.neg (fun hh => hgs ?_) (Tot.ret (by rw [if_neg (fun hh => hgs hh.1)]; rfl))
    rw [Lib.toList_data, Lib.toList_data] at hh
    simp only [ba_app] at hh
    have := (List.append_inj' hh (by rw [← ba_size, ← ba_size, signF_size, hg])).2
    exact (ba_ext this).symm
theorem urlF_ok {key : List Int} {l : List Op} {p : ByteArray} {t : Int} (h : askB l p t = true) (h5 : key.length ≤ 500) : urlF key l p t = (askF l p t ++ ⟨#[38, 115, 61]⟩) ++ signF key (askF l p t) := by
  unfold urlF; rw [if_pos ⟨h, h5⟩]
theorem urlF_no {key : List Int} {l : List Op} {p : ByteArray} {t : Int} (h : ¬ askB l p t = true) : urlF key l p t = ⟨#[]⟩ := by
  unfold urlF; rw [if_neg (fun hh => h hh.1)]
theorem urlF_ne {key : List Int} {l : List Op} {p : ByteArray} {t : Int} (h : askB l p t = true) (h5 : key.length ≤ 500) : ¬ (urlF key l p t).toList = [] := by
  rw [Lib.toList_data]
  intro hh
  have h1 : (urlF key l p t).size = 0 := by rw [ba_size, hh]; rfl
  rw [urlF_ok h h5, ByteArray.size_append, signF_size] at h1
  omega
theorem drawUrl_tot {l : List Int} (hu : ∀ y ∈ l, 0 ≤ y ∧ y ≤ 255) : Tot (fun k => spec_DrawUrlText.f k l) (fun x => (x.1.length ≤ 32 ∧ ∀ y ∈ x.1, Byt y) ∧ x.2.1.length ≤ 101) := by
  unfold spec_DrawUrlText.f
  obtain ⟨b, hb, hB⟩ := open_some l hu
  refine Tot.bind (Tot.of_eq hb) ?_; rintro _ rfl
  refine Tot.bind (l20Bytes_byt hB 0 (by omega) (by omega) 32 ⟨by omega, by omega⟩) ?_
  rintro ⟨r1, p1⟩ ⟨e1, l1, y1⟩
  dsimp only at e1 l1 y1 ⊢
  refine Tot.bind (l20Ask_tot hB p1 6 (by omega) (by omega) (by omega)) ?_
  rintro ⟨x, s, t, q⟩ ⟨f1, _, _⟩
  exact Tot.ret ⟨⟨by dsimp only; omega, y1⟩, f1⟩
end Go.Proofs.YtmplnpjdbfedbaaGreatDoor.X
namespace Go.Proofs.YtmplnpjdbfedbaaGreatDoor.X
open Go.RowKit Go.Proofs.YtmplnpjdbfedbaaGreatDoorW.PrintWords Go.Proofs.YtmplnpjdbfedbaaGreatDoor.Pl Go.Proofs.YtmplnpjdbfedbaaGreatDoor.Pure
set_option linter.unusedSimpArgs false
set_option linter.unusedVariables false
theorem bytesN_app (a b : ByteArray) : bytesN (a ++ b) = bytesN a ++ bytesN b := by
  unfold bytesN
  rw [show (a ++ b).data.toList = a.data.toList ++ b.data.toList from ba_app a b, List.map_append]
theorem strOf_list (l : List Int) : (strOfNums l).data.toList = l.map fun n => UInt8.ofNat n.toNat := by
  unfold strOfNums; simp
theorem strOf_app (a b : List Int) : strOfNums (a ++ b) = strOfNums a ++ strOfNums b := by
  apply ba_ext
  rw [ba_app, strOf_list, strOf_list, strOf_list, List.map_append]
theorem strOf_bytes (s : ByteArray) : strOfNums (bytesN s) = s := by
  apply ba_ext
  rw [strOf_list]
  unfold bytesN
  rw [List.map_map]
  conv => rhs; rw [← List.map_id s.data.toList]
  exact List.map_congr_left fun u _ => by simp
theorem bytes_strOf {l : List Int} (h : ∀ y ∈ l, 0 ≤ y ∧ y ≤ 255) : bytesN (strOfNums l) = l := by
  unfold bytesN
  rw [strOf_list, List.map_map]
  conv => rhs; rw [← List.map_id l]
  refine List.map_congr_left fun y hy => ?_
  obtain ⟨h0, h1⟩ := h y hy
  obtain ⟨m, rfl⟩ := Int.eq_ofNat_of_zero_le h0
  have hm : m < 256 := by omega
  show (((UInt8.ofNat (m : Int).toNat).toNat : Nat) : Int) = _
  rw [Int.toNat_natCast, UInt8.toNat_ofNat']
  simp only [id]
  omega
set_option maxRecDepth 100000 in
theorem xor_all : ((List.range 256).all fun b => (List.range 16).all fun m => m == 0 || (!(Go.bits .xor .u8 (b : Int) (m : Int) == (b : Int)) && decide (0 ≤ Go.bits .xor .u8 (b : Int) (m : Int)) && decide (Go.bits .xor .u8 (b : Int) (m : Int) ≤ 255))) = true := by kernel_rfl
theorem xor_ne {b m : Int} (h0 : 0 ≤ b) (h1 : b ≤ 255) (m1 : 1 ≤ m) (m2 : m ≤ 15) : Go.bits .xor .u8 b m ≠ b ∧ 0 ≤ Go.bits .xor .u8 b m ∧ Go.bits .xor .u8 b m ≤ 255 := by
  obtain ⟨x, rfl⟩ := Int.eq_ofNat_of_zero_le h0
  obtain ⟨y, rfl⟩ := Int.eq_ofNat_of_zero_le (show 0 ≤ m by omega)
  have h := List.all_eq_true.1 (List.all_eq_true.1 xor_all x (List.mem_range.2 (by omega))) y (List.mem_range.2 (by omega))
  have hy : ¬ y = 0 := by omega
  simp only [Bool.or_eq_true, beq_iff_eq, Bool.and_eq_true, decide_eq_true_eq, Bool.not_eq_true', beq_eq_false_iff_ne] at h
  rcases h with h | h
  · exact absurd h hy
  · exact ⟨h.1.1, h.1.2, h.2⟩
theorem bent_sign (A S : ByteArray) (hS : S.size = 16) (j : Nat) (hj : j < 16) (m : Int) (m1 : 1 ≤ m) (m2 : m ≤ 15) (x : Int) (hx : x = ((A.size + j : Nat) : Int)) :
    ∃ g : ByteArray, g.size = 16 ∧ g ≠ S ∧ strOfNums ((bytesN (A ++ S)).set x.toNat (Go.bits .xor .u8 (rd (bytesN (A ++ S)) x) m)) = A ++ g := by
  subst hx
  have hA := bytesN_len A
  have hSl := bytesN_len S
  have hj2 : j < (bytesN S).length := by omega
  have e : rd (bytesN (A ++ S)) ((A.size + j : Nat) : Int) = (bytesN S)[j] := by
    unfold rd
    rw [Int.toNat_natCast, bytesN_app, List.getD_eq_getElem?_getD, List.getElem?_append_right (by omega), hA, Nat.add_sub_cancel_left, List.getElem?_eq_getElem hj2]
    rfl
  rw [e, Int.toNat_natCast]
  obtain ⟨b0, b1⟩ : 0 ≤ (bytesN S)[j] ∧ (bytesN S)[j] ≤ 255 := by have := bytesN_byt S _ (List.getElem_mem hj2); unfold Byt at this; omega
  obtain ⟨ne, v0, v1⟩ := xor_ne b0 b1 m1 m2
  generalize Go.bits .xor .u8 (bytesN S)[j] m = v at ne v0 v1
  refine ⟨strOfNums ((bytesN S).set j v), ?_, fun h => ne ?_, ?_⟩
  · rw [ba_size, strOf_list, List.length_map, List.length_set]; omega
  · have h2 := congrArg bytesN h
    rw [bytes_strOf (fun y hy => by
      rcases List.mem_or_eq_of_mem_set hy with hy | rfl
      · have := bytesN_byt S y hy; unfold Byt at this; omega
      · exact ⟨v0, v1⟩)] at h2
    have h3 := congrArg (fun l => l[j]?) h2
    simp only [List.getElem?_set_self hj2, List.getElem?_eq_getElem hj2] at h3
    exact Option.some.inj h3
  · rw [bytesN_app, List.set_append_right _ _ (by omega), hA, Nat.add_sub_cancel_left, strOf_app, strOf_bytes]
end Go.Proofs.YtmplnpjdbfedbaaGreatDoor.X
namespace Go.Proofs.YtmplnpjdbfedbaaGreatDoor.Pure
open Go.RowKit Go.Proofs.YtmplnpjdbfedbaaGreatDoorW.PrintWords Go.Proofs.YtmplnpjdbfedbaaGreatDoor.Pl Go.Proofs.YtmplnpjdbfedbaaGreatDoor.X
set_option linter.unusedVariables false
set_option linter.unusedSimpArgs false
theorem FnUrlBent : laws_FnUrlBent.Pure := by
  intro l0 _ _ hw0
  have hu0 : ∀ y ∈ l0, 0 ≤ y ∧ y ≤ 255 := fun y hy => ByteOk (hw0 y hy)
  refine Tot.rounds ?_
  unfold laws_FnUrlBent.f
  refine Tot.ite (fun _ => Tot.ret rfl) (fun hl => ?_)
  refine Tot.bind (drawUrl_tot hu0) ?_
  rintro ⟨key, a, p, t⟩ ⟨⟨hk, hkB⟩, ha⟩
  dsimp only at hk hkB ha ⊢
  refine Tot.bind (implUrl_tot key a (by omega) p t) ?_; rintro _ rfl
  refine Tot.bind (specUrl_tot hkB a (by omega) p t) ?_; rintro _ rfl
  refine Tot.pos rfl ?_
  by_cases h : askB a p t = true
  · have h5 : key.length ≤ 500 := by omega
    refine Tot.neg (urlF_ne h h5) ?_
    have hz := askF_500 a p t
    have hS := signF_size key (askF a p t)
    have hA : (askF a p t ++ (⟨#[38, 115, 61]⟩ : ByteArray)).size = (askF a p t).size + 3 := by rw [ByteArray.size_append]; rfl
    rw [urlF_ok h h5]
    refine Tot.pos (by rw [ByteArray.size_append, hA, hS]; omega) (Tot.some_bind ?_)
    have hy : (bytesN ((askF a p t ++ (⟨#[38, 115, 61]⟩ : ByteArray)) ++ signF key (askF a p t))).length = (askF a p t).size + 19 := by rw [bytesN_len, ByteArray.size_append, hA, hS]
    have e1 : wrap64 ((((askF a p t).size + 19 : Nat) : Int) - 1) = (((askF a p t).size + 18 : Nat) : Int) := by rw [wr_id (by omega) (by omega)]; omega
    have e2 : Int.tmod (wrap64 ((l0.length : Int) * 31)) 16 = ((l0.length * 31 % 16 : Nat) : Int) := by
      rw [wr_id (by omega) (by omega), Int.tmod_eq_emod_of_nonneg (by omega)]; omega
    have e3 : wrap64 ((((askF a p t).size + 18 : Nat) : Int) - ((l0.length * 31 % 16 : Nat) : Int)) = (((askF a p t ++ (⟨#[38, 115, 61]⟩ : ByteArray)).size + (15 - l0.length * 31 % 16) : Nat) : Int) := by
      rw [wr_id (by omega) (by omega), hA]; omega
    rw [hy, e1, e2, e3]
    refine Tot.pos (by omega) (Tot.pos (by rw [hA]; omega) ?_)
    obtain ⟨g, g16, gne, ge⟩ := bent_sign (askF a p t ++ (⟨#[38, 115, 61]⟩ : ByteArray)) (signF key (askF a p t)) hS (15 - l0.length * 31 % 16) (by omega) (1 + (l0.length : Int) % 15) (by omega) (by omega) _ rfl
    rw [ge]
    refine Tot.bind (urlRead_ask h5 h g g16 _) ?_
    rintro ⟨r1, r2, r3, r4⟩ hr
    dsimp only at hr ⊢
    rw [if_neg (fun hh => gne hh.1)] at hr
    subst hr
    exact Tot.ret rfl
  · rw [urlF_no h]
    exact Tot.pos (by rw [Lib.toList_data]) (Tot.bind (Tot.of_eq rfl) (fun x hx => Tot.ret hx))
end Go.Proofs.YtmplnpjdbfedbaaGreatDoor.Pure
namespace Go.Proofs.YtmplnpjdbfedbaaGreatDoor.X
set_option linter.unusedVariables false
variable {H : Type} {enc : TypeId × Value → H}
theorem returnsBoth {a : Assume} {C : Checked} {os : Os} {f : FuncId} {fn : Func} {s : ChangeSpec} {conds : List PathCond} {apart fresh handsOn again : Bool} {X : World → Array Value → Prop}
    (hX : ∀ (w w' : World) (args : Array Value), w.heap = w'.heap → X w args → X w' args)
    (own : ownKnob C.prog.godebug = none) (started : os.Started) (noInit : C.prog.inits.idxOf? f = none) (hfn : C.prog.funcs[f]? = some fn)
    (witness : ∃ (w : World) (tape : Tape) (i : Input), w.os = os ∧ (w.forCall tape i).Shaped C.prog ∧ i.vars = [] ∧ Input.okWide C.prog (w.forCall tape i) .any w.heap.size f i ∧
      ((s.pre enc C.prog fn conds apart (w.forCall tape i).memory i.args ∧ X (w.forCall tape i).memory i.args) ∧ sizedMet enc C.prog fn (OpenSpec.ofChange s) apart (w.forCall tape i).memory i.args) ∧ a.holds C.prog (lone (Frame.enter C.prog f i.args .normal) [] (w.forCall tape i)))
    (contract : ∀ (W : World) (base : Nat) (args : Array Value) (ds gs : List (DataW H)) (before : List MemPlace),
      (∀ (j : Nat) t v, fn.params[j]? = some t → args[j]? = some v → Value.okWide C.prog W .any base t v) →
      DataW.Whole enc C.prog fn.params.toList s.vars apart W args.toList ds gs before →
      conds.all (PathCond.test C.prog ⟨fn.params.toList, ds, s.plain.varTypes C.prog, gs⟩) = true →
      (DataW.weightsEach C.prog (fn.params.toList ++ s.plain.varTypes C.prog) (ds ++ gs)).all (· ≤ reachBytes) = true → X W args ∧ W.ShapedOpen C.prog →
      a.holds C.prog (lone (Frame.enter C.prog f args .normal) [] W) →
      Calls C.prog f args W fun e W' => ∃ v, e = .returned v ∧ s.post enc C.prog fn apart fresh handsOn again W args v W') :
    ReturnsInHanded a C os f .any (fun w args => (s.pre enc C.prog fn conds apart w args ∧ X w args) ∧ sizedMet enc C.prog fn (OpenSpec.ofChange s) apart w args) (s.post enc C.prog fn apart fresh handsOn again) := by
  refine returnsInHanded_of_calls own started noInit witness ?_
  intro w tape i _ hsh _ hok hpre hholds
  obtain ⟨_, _, _, fn', hfn', _, _, _, _, hval⟩ := hok
  have e : fn' = fn := Option.some.inj (hfn'.symm.trans hfn)
  subst e
  obtain ⟨⟨⟨ds, gs, before, hw, hc⟩, hx⟩, hz⟩ := hpre
  have hw' := DataW.Whole.of_heap (w' := w.forCall tape i) (by rfl) hw
  refine (contract (w.forCall tape i) w.heap.size i.args ds gs before hval hw' hc (hz.weights hw) ⟨hX _ _ _ (by rfl) hx, hsh⟩ hholds).mono fun e W' ⟨v, he, hp⟩ => ?_
  subst he
  exact ChangeSpec.post_blind hp
end Go.Proofs.YtmplnpjdbfedbaaGreatDoor.X
namespace Go.Proofs.YtmplnpjdbfedbaaGreatDoor.X
set_option linter.unusedVariables false
set_option linter.unusedSimpArgs false
set_option linter.unusedSectionVars false
open Go.ChangeShapes Go.WideShapes Go.ChangeAt Go.WideMaps Go.WideElems Go.RowKit Go.Proofs.YtmplnpjdbfedbaaGreatDoorW.PrintWords
abbrev laid9 : List (String × DataW Unit) := [("math/bits.deBruijn32tab", Rows.laid_math_bits_deBruijn32tab), ("math/bits.deBruijn64tab", Rows.laid_math_bits_deBruijn64tab), ("internal/strconv.uint64pow10", Rows.laid_internal_strconv_uint64pow10), ("unicode/utf8.acceptRanges", Rows.laid_unicode_utf8_acceptRanges), ("errors.errorType", Rows.laid_errors_errorType), ("loop.example/easel/impl.shaStart", Rows.laid_loop_example_easel_impl_shaStart), ("loop.example/easel/impl.shaRounds", Rows.laid_loop_example_easel_impl_shaRounds), ("loop.example/easel/impl.opForms", Rows.laid_loop_example_easel_impl_opForms), ("unicode/utf8.first", Rows.laid_unicode_utf8_first)]
abbrev laid8 : List (String × DataW Unit) := [("math/bits.deBruijn32tab", Rows.laid_math_bits_deBruijn32tab), ("math/bits.deBruijn64tab", Rows.laid_math_bits_deBruijn64tab), ("internal/strconv.uint64pow10", Rows.laid_internal_strconv_uint64pow10), ("unicode/utf8.acceptRanges", Rows.laid_unicode_utf8_acceptRanges), ("loop.example/easel/impl.shaStart", Rows.laid_loop_example_easel_impl_shaStart), ("loop.example/easel/impl.shaRounds", Rows.laid_loop_example_easel_impl_shaRounds), ("loop.example/easel/impl.opForms", Rows.laid_loop_example_easel_impl_opForms), ("unicode/utf8.first", Rows.laid_unicode_utf8_first)]
abbrev laidU : List (String × DataW Unit) := [("internal/strconv.uint64pow10", Rows.laid_internal_strconv_uint64pow10), ("loop.example/easel/impl.shaStart", Rows.laid_loop_example_easel_impl_shaStart), ("loop.example/easel/impl.shaRounds", Rows.laid_loop_example_easel_impl_shaRounds), ("loop.example/easel/impl.opForms", Rows.laid_loop_example_easel_impl_opForms)]
noncomputable def laid0 (os : Os) : World := { World.holding Tryz.prog os ⟨#[], #[], []⟩ with heap := ⟨Lay.setRows (World.holding Tryz.prog os ⟨#[], #[], []⟩).heap.toList [(0, [.iface 131 (.agg #[typeHandle Tryz.prog 49])])]⟩ }
noncomputable def laidUr (os : Os) : World := (laid0 os).layVars Tryz.prog laid8
theorem laidUr_os (os : Os) : (laidUr os).os = os := World.layVars_os _ _ _
set_option maxRecDepth 100000 in
theorem door_met (os : Os) (args : Array Value) : laidMetH Tryz.prog laid9 ((laidUr os).forCall (fun _ _ => 0) ⟨#[], args, []⟩).memory := by
  refine laidMetH_of_parts ?_ (by kernel_rfl)
  rw [show laid9.filter (fun x => x.2.handleName?.isNone) = laid8 from by kernel_rfl]
  have e1 : (laid8.filter fun x => (laid8.map (·.1)).contains x.1) = laid8 := List.filter_eq_self.2 fun x hx => List.contains_iff_mem.2 (List.mem_map.2 ⟨x, hx, rfl⟩)
  have e2 : (laid8.filter fun x => !(laid8.map (·.1)).contains x.1) = [] := List.filter_eq_nil_iff.2 fun x hx => by rw [List.contains_iff_mem.2 (List.mem_map.2 ⟨x, hx, rfl⟩)]; simp
  have h : laidMet Tryz.prog laid8 (laidUr os) := laidMet_layVars (w0 := laid0 os) (laid8.map (·.1)) [] (by rw [e1]; rfl) (by rw [e1]; kernel_rfl) (by rw [e1]; kernel_rfl) (by rw [e2]; exact LaidIn.none)
  exact h.of_heap (by simp [World.memory, World.forCall, Input.heap])
theorem gF : Tryz.prog.globalNamed "loop.example/easel/impl.opForms" = some 1 := by kernel_rfl
theorem tF : (Tryz.prog.globals[1]?).map (·.type) = some 121 := by kernel_rfl
theorem tP : (Tryz.prog.globals[5]?).map (·.type) = some 180 := by kernel_rfl
theorem gS : Tryz.prog.globalNamed "loop.example/easel/impl.shaStart" = some 2 := by kernel_rfl
theorem gK : Tryz.prog.globalNamed "loop.example/easel/impl.shaRounds" = some 4 := by kernel_rfl
theorem tS : (Tryz.prog.globals[2]?).map (·.type) = some 147 := by kernel_rfl
theorem tK : (Tryz.prog.globals[4]?).map (·.type) = some 177 := by kernel_rfl
theorem blk_of_var {w : World} {name : String} {g : Nat} {cs : Array Value} (hg : Tryz.prog.globalNamed name = some g) (h : w.var? Tryz.prog name = some cs) : ∃ t fr, w.heap[g]? = some (.cells cs t fr) := by
  unfold World.var? at h
  rw [hg] at h
  simp only [Option.bind_some] at h
  split at h
  · rename_i cs' t fr hh
    obtain rfl := Option.some.inj h
    exact ⟨t, fr, hh⟩
  · cases h
variable {H : Type} {enc : TypeId × Value → H} {P : Program} {w : World} {base : Nat} {sp : Nat → Bool} {held : Bool}
theorem cells_of_rows {fuel : Nat} {t e : TypeId} {n : Nat} {cs : List Value} {p : List MemPlace} {ds : List (DataW H)} (L : List (List Value))
    (ht : P.underlying t = some (.array n e)) (hct : P.cellsOf t = n * P.cellsOf e) (hL : ∀ (i : Nat) (l : List Value), L[i]? = some l → l.length = P.cellsOf e) (hn : L.length = n)
    (he : ∀ (i : Nat) (m : Nat) (d : DataW H) (l c : List Value) (q : List MemPlace), ds[i]? = some d → L[i]? = some l → DataW.trod enc P w base sp held m e c = some (d, q) → c = l)
    (h : DataW.trod enc P w base sp held fuel t cs = some (.agg ds, p)) : cs = L.flatten := by
  obtain ⟨xs, m, rfl, hx, hl, hlen, hf⟩ := DataW.trod_array ht h
  obtain ⟨hd, -⟩ := Prod.mk.inj hx
  have hds : ds = xs.map (·.1) := by injection hd
  have key : ∀ (i : Nat) (l : List Value), L[i]? = some l → (cs.drop (i * P.cellsOf e)).take (P.cellsOf e) = l := by
    intro i l hi
    have hin : i < n := by have := (List.getElem?_eq_some_iff.1 hi).1; omega
    have h1 := hf i hin
    have hix : i < xs.length := by omega
    rw [List.getElem?_eq_getElem hix] at h1
    refine he i m (xs[i]).1 l _ (xs[i]).2 ?_ hi h1
    rw [hds, List.getElem?_map, List.getElem?_eq_getElem hix]
    rfl
  have gen : ∀ (L : List (List Value)) (cs : List Value), (∀ (i : Nat) (l : List Value), L[i]? = some l → (cs.drop (i * P.cellsOf e)).take (P.cellsOf e) = l) → cs.length = L.length * P.cellsOf e → cs = L.flatten := by
    intro L
    induction L with
    | nil => intro cs _ h; simp at h; simp [h]
    | cons a L ih =>
      intro cs hk hlen
      have h0 := hk 0 a rfl
      rw [Nat.zero_mul, List.drop_zero] at h0
      rw [List.length_cons, Nat.add_mul, Nat.one_mul] at hlen
      have h1 := ih (cs.drop (P.cellsOf e)) (fun i l hi => by
        rw [List.drop_drop, show P.cellsOf e + i * P.cellsOf e = (i + 1) * P.cellsOf e by rw [Nat.add_mul]; omega]
        exact hk (i + 1) l (by simpa using hi)) (by rw [List.length_drop]; omega)
      rw [List.flatten_cons, ← h1, ← h0, List.take_append_drop]
  exact gen L cs key (by rw [hl, hct, hn])
set_option maxRecDepth 100000 in
theorem form_cells {m : Nat} {c : List Value} {s : List UInt8} {n : Int} {q : List MemPlace} (h : DataW.trod enc Tryz.prog w base sp held m 120 c = some (.agg [.lit (.string s), .lit (.int .i64 n)], q)) : c = [.string ⟨s.toArray⟩, .int .i64 n] := by
  obtain ⟨y0, y1, k, hx, hl, h0, h1⟩ := trod_struct2 Tryz.underlying120 h
  have hx := (Prod.mk.inj hx).1
  injection hx with hx
  injection hx with e0 hx
  injection hx with e1 _
  obtain ⟨s', hc0, rfl, _⟩ := DataW.trod_string Tryz.underlying9 h0
  obtain ⟨n', hc1, rfl, _⟩ := DataW.trod_int Tryz.underlying3 h1
  injection e0 with e0; injection e0 with e0
  injection e1 with e1; injection e1 with _ e1
  have hl2 : c.length = 2 := hl.trans (by kernel_rfl)
  match c, hl2 with
  | [a, b], _ =>
    have ha : [a] = [Value.string s'] := hc0
    have hb : [b] = [Value.int .i64 n'] := hc1
    cases ha; cases hb
    subst e1
    rw [e0]
set_option maxRecDepth 100000 in
theorem err_one : ((List.range Tryz.prog.types.size).all fun ty => !Tryz.prog.rowNamed ty [101, 114, 114, 111, 114] || ty == 49) = true := by kernel_rfl
theorem gErr : Tryz.prog.globalNamed "errors.errorType" = some 0 := by kernel_rfl
theorem err_of {W : World} (h : laidMetH Tryz.prog laid9 W) : W.cell? ⟨0, 0, none⟩ = some (.iface 131 (.agg #[.pointer (some ⟨10, 49, none⟩)])) := by
  have hx := (laidMetH_iff.1 h).2 ("errors.errorType", Rows.laid_errors_errorType) (List.mem_filter.2 ⟨.tail _ (.tail _ (.tail _ (.tail _ (.head _)))), by kernel_rfl⟩)
  simp only [show DataW.funcsIn? (H := Unit) Rows.laid_errors_errorType = none by kernel_rfl] at hx
  obtain ⟨name, u, ty, e1, e2, e3, e4, e5⟩ := hx
  obtain rfl := Option.some.inj ((show DataW.handleName? (H := Unit) Rows.laid_errors_errorType = some [101, 114, 114, 111, 114] by kernel_rfl).symm.trans e1)
  obtain rfl := Option.some.inj ((show (Tryz.prog.cutTypes.find? (·.1 == "internal/reflectlite.rtype")).map (·.2) = some 131 by kernel_rfl).symm.trans e2)
  obtain rfl : ty = 49 := by have := List.all_eq_true.1 err_one ty (List.mem_range.2 e3); rw [e4] at this; simpa using this
  obtain ⟨t, fr, hh⟩ := blk_of_var gErr e5
  rw [show typeHandle Tryz.prog 49 = .pointer (some ⟨10, 49, none⟩) by kernel_rfl] at hh
  simp [World.cell?, hh]
theorem glob_of {W : World} (hh : laidMetH Tryz.prog laid9 W ∧ W.ShapedOpen Tryz.prog) : Glob W := by
  obtain ⟨h, hsh⟩ := hh
  have herr := err_of h
  have h := laidMetH.filter (fun x => x.1 == "internal/strconv.uint64pow10" || x.1 == "loop.example/easel/impl.shaStart" || x.1 == "loop.example/easel/impl.shaRounds" || x.1 == "loop.example/easel/impl.opForms") h
  rw [show laid9.filter (fun x => x.1 == "internal/strconv.uint64pow10" || x.1 == "loop.example/easel/impl.shaStart" || x.1 == "loop.example/easel/impl.shaRounds" || x.1 == "loop.example/easel/impl.opForms") = laidU from rfl] at h
  rw [MakeChecks.laidMetH_plain _ _ _ (by kernel_rfl)] at h
  have hmax := cell_of_shapedOpen_int (P := Tryz.prog) (g := 3) (t := 3) (zero := #[.int .i64 0]) hsh (of_decide_eq_true (by kernel_rfl)) (by kernel_rfl) rfl (by kernel_rfl) (by kernel_rfl) Tryz.underlying3
  obtain ⟨ps, ⟨g2, t2, cs2, f2, p2, q2, hg2, ht2, hv2, hd2, ⟨g4, t4, cs4, f4, p4, q4, hg4, ht4, hv4, hd4, ⟨g5, t5, cs5, f5, p5, q5, hg5, ht5, hv5, hd5, ⟨g3, t3, cs3, f3, p3, q3, hg3, ht3, hv3, hd3, _⟩, _⟩, _⟩, _⟩, _, _⟩ := h
  obtain rfl := Option.some.inj (gPow.symm.trans hg2)
  obtain rfl := Option.some.inj (gF.symm.trans hg3)
  obtain rfl := Option.some.inj (gS.symm.trans hg4)
  obtain rfl := Option.some.inj (gK.symm.trans hg5)
  obtain rfl := Option.some.inj (tP.symm.trans ht2)
  obtain rfl := Option.some.inj (tF.symm.trans ht3)
  obtain rfl := Option.some.inj (tS.symm.trans ht4)
  obtain rfl := Option.some.inj (tK.symm.trans ht5)
  have e2 := Lib.cells_of_tab (zs := Lib.pow10Tab) (k := .u64) Tryz.underlying180 Tryz.underlying149 (by kernel_rfl) (by kernel_rfl) hd2
  have e4 := Lib.cells_of_tab (zs := shS0) (k := .u32) Tryz.underlying147 Tryz.underlying146 (by kernel_rfl) (by kernel_rfl) hd4
  have e5 := Lib.cells_of_tab (zs := shK0) (k := .u32) Tryz.underlying177 Tryz.underlying146 (by kernel_rfl) (by kernel_rfl) hd5
  obtain ⟨t, fr, hh⟩ := blk_of_var gF hv3
  obtain ⟨t', fr', hh'⟩ := blk_of_var gPow hv2
  obtain ⟨t4', fr4, hh4⟩ := blk_of_var gS hv4
  obtain ⟨t5', fr5, hh5⟩ := blk_of_var gK hv5
  have e3 := cells_of_rows [[.string ⟨#[]⟩, .int .i64 0], [.string ⟨#[99, 114, 111, 112]⟩, .int .i64 4], [.string ⟨#[102, 108, 105, 112, 120]⟩, .int .i64 0], [.string ⟨#[102, 108, 105, 112, 121]⟩, .int .i64 0], [.string ⟨#[116, 117, 114, 110]⟩, .int .i64 0], [.string ⟨#[103, 114, 97, 121]⟩, .int .i64 0], [.string ⟨#[98, 108, 117, 114]⟩, .int .i64 0], [.string ⟨#[115, 105, 122, 101]⟩, .int .i64 2], [.string ⟨#[102, 108, 97, 116]⟩, .int .i64 3]] Tryz.underlying121 (by kernel_rfl)
    (fun i l hi => by
      have hm := List.mem_of_getElem? hi
      have : l.length = 2 := by simp only [List.mem_cons, List.not_mem_nil, or_false] at hm; rcases hm with rfl | rfl | rfl | rfl | rfl | rfl | rfl | rfl | rfl <;> rfl
      exact this.trans (by kernel_rfl)) rfl
    (fun i m d l c q hd hl hc => by
      match i, hd, hl with
      | 0, hd, hl => cases hd; cases hl; exact form_cells hc
      | 1, hd, hl => cases hd; cases hl; exact form_cells hc
      | 2, hd, hl => cases hd; cases hl; exact form_cells hc
      | 3, hd, hl => cases hd; cases hl; exact form_cells hc
      | 4, hd, hl => cases hd; cases hl; exact form_cells hc
      | 5, hd, hl => cases hd; cases hl; exact form_cells hc
      | 6, hd, hl => cases hd; cases hl; exact form_cells hc
      | 7, hd, hl => cases hd; cases hl; exact form_cells hc
      | 8, hd, hl => cases hd; cases hl; exact form_cells hc
      | _ + 9, hd, _ => cases hd) hd3
  refine ⟨⟨t, fr, ?_⟩, ⟨t', fr', ?_⟩, ⟨t4', fr4, ?_⟩, ⟨t5', fr5, ?_⟩, hmax, herr⟩
  · rw [hh]; congr 2; rw [← Array.toArray_toList (xs := cs3), e3]; rfl
  · rw [hh']; congr 2; rw [← e2]
  · rw [hh4]; congr 2; rw [nums, ← e4]
  · rw [hh5]; congr 2; rw [nums, ← e5]
theorem vars3 {n1 n2 n3 : String} : ∀ {gs : List (DataW H)} {q : List MemPlace}, DataW.TrodVars enc Tryz.prog w sp [n1, n2, n3] gs q → ∃ g1 g2 g3, gs = [g1, g2, g3]
  | [], _, h => h.elim
  | [_], _, h => by obtain ⟨_, _, _, _, _, _, _, _, _, _, h, _⟩ := h; exact h.elim
  | [_, _], _, h => by obtain ⟨_, _, _, _, _, _, _, _, _, _, h, _⟩ := h; obtain ⟨_, _, _, _, _, _, _, _, _, _, h, _⟩ := h; exact h.elim
  | [a, b, c], _, _ => ⟨a, b, c, rfl⟩
  | _ :: _ :: _ :: _ :: _, _, h => by obtain ⟨_, _, _, _, _, _, _, _, _, _, h, _⟩ := h; obtain ⟨_, _, _, _, _, _, _, _, _, _, h, _⟩ := h; obtain ⟨_, _, _, _, _, _, _, _, _, _, h, _⟩ := h; exact h.elim
end Go.Proofs.YtmplnpjdbfedbaaGreatDoor.X
