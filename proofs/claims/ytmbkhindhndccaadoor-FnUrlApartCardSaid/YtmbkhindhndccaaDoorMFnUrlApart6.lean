/- Lemmas and contracts for the law FnUrlApart, part 6: of the program's functions, and over data alone. Conditions: the listed package-level variables begin as the program's text lays them (tied by the card). -/
import Derived.Test.YtmbkhindhndccaaDoorMFnUrlApart5
import Derived.Test.YtmbkhindhndccaaDoorMFnUrlApart2
import Derived.Lib.Bytes
import Derived.Laws.BitsAllLaws
import Derived.Test.YtmbkhindhndccaaDoorMFnUrlApart1
import Derived.Test.YtmbkhindhndccaaDoorMFnUrlApart3
import Derived.Test.YtmbkhindhndccaaDoorMFnUrlApart4
import Derived.Test.YtmbkhindhndccaaDoorRows
import Derived.Lib.LaidTab
import Derived.LaidMore
import Derived.OpenShut
import Derived.ShutString
import Derived.ChangeOld
import Derived.ChangeSame
import Derived.Below
import Derived.WalkKit
import Derived.ProofKit
import Derived.Stop.Joined
import Derived.OpenVars
import Derived.KernelRfl
namespace Go.Proofs.YtmbkhindhndccaaDoor.X
open Go.RowKit Go.Proofs.YtmbkhindhndccaaDoorW.PrintWords Go.Proofs.YtmbkhindhndccaaDoor.Pl
set_option linter.unusedSimpArgs false
set_option linter.unusedVariables false
theorem ba_ext {a b : ByteArray} (h : a.data.toList = b.data.toList) : a = b := by
  obtain ⟨a⟩ := a; obtain ⟨b⟩ := b
  exact congrArg ByteArray.mk (Array.toList_inj.1 h)
theorem ba_app (a b : ByteArray) : (a ++ b).data.toList = a.data.toList ++ b.data.toList := by
  rw [ByteArray.data_append, Array.toList_append]
theorem ba_size (a : ByteArray) : a.size = a.data.toList.length := by
  show a.data.size = _
  rw [Array.length_toList]
theorem ba_mk (l : List UInt8) : (⟨l.toArray⟩ : ByteArray).data.toList = l := rfl
def opT (x : Op) : ByteArray := opTextF x.f0 x.f1 x.f2 x.f3 x.f4
def joinT (xs : List ByteArray) : ByteArray := ⟨(Lib.join (xs.map (·.data.toList)) [44]).toArray⟩
theorem joinT_one (x : ByteArray) : joinT [x] = x := ba_ext (by rw [joinT, ba_mk, List.map_cons, List.map_nil, Lib.join_one])
theorem joinT_snoc (xs : List ByteArray) (h : xs ≠ []) (y : ByteArray) : joinT (xs ++ [y]) = (joinT xs ++ ⟨#[44]⟩) ++ y := by
  obtain ⟨x, r, rfl⟩ := List.exists_cons_of_ne_nil h
  apply ba_ext
  rw [ba_app, ba_app, joinT, joinT, ba_mk, ba_mk, List.cons_append, List.map_cons, List.map_cons, Lib.join_cons, Lib.join_cons, List.map_append, List.map_cons, List.map_nil]
  simp [Lib.joinTail]
theorem opT_len (x : Op) : (opT x).size ≤ 1000 := by
  unfold opT opTextF
  split
  · rename_i h
    obtain ⟨h1, h8, hn⟩ := opOk_kind h
    refine txtI_len _ _ (fun n h => ?_) (formW_len _ (by omega)) (by simp; omega)
    have := hn n (List.mem_of_mem_take h)
    exact ⟨by omega, by omega⟩
  · show 0 ≤ _
    omega
theorem joinT_len (xs : List ByteArray) (h : ∀ x ∈ xs, x.size ≤ 1000) : (joinT xs).size ≤ 1001 * xs.length := by
  cases xs with
  | nil => exact Nat.le_refl _
  | cons x r =>
    rw [ba_size, joinT, ba_mk, List.map_cons, Lib.join_cons, List.length_append, Lib.joinTail_length]
    have h0 := h x (List.mem_cons_self ..)
    rw [ba_size] at h0
    have key : ∀ r : List ByteArray, (∀ x ∈ r, x.size ≤ 1000) → Lib.lens (r.map (·.data.toList)) ≤ 1000 * r.length := by
      intro r
      induction r with
      | nil => intro _; exact Nat.le_refl _
      | cons y r ih =>
        intro h
        have h1 := ih (fun z hz => h z (List.mem_cons_of_mem _ hz))
        have h2 := h y (List.mem_cons_self ..)
        rw [ba_size] at h2
        simp only [Lib.lens, List.map_cons, List.sum_cons, List.length_cons] at h1 ⊢
        omega
    have := key r (fun z hz => h z (List.mem_cons_of_mem _ hz))
    simp only [List.length_map, List.length_cons, List.length_nil]
    omega
/-- All that is done, as text. -/
def opsF (l : List Op) : ByteArray := if l.length = 0 then ⟨#[45]⟩ else joinT (l.map opT)
theorem opsF_len (l : List Op) (h : l.length ≤ 5) : (opsF l).size ≤ 5100 := by
  unfold opsF
  split
  · show 1 ≤ _
    omega
  · have := joinT_len (l.map opT) (fun x hx => by obtain ⟨y, _, rfl⟩ := List.mem_map.1 hx; exact opT_len y)
    rw [List.length_map] at this
    omega
theorem take_opT (l : List Op) (i : Nat) (h : i < l.length) : (l.map opT).take (i + 1) = (l.map opT).take i ++ [opT (opAt l i)] := by
  rw [List.take_add_one, List.getElem?_eq_getElem (by simpa using h)]
  simp [opAt, rd_T59, List.getD_eq_getElem?_getD, h]
theorem take_len (l : List Op) (i : Nat) (h : i ≤ l.length) : ((l.map opT).take i).length = i := by simp; omega
theorem take_small (l : List Op) (i : Nat) (h : l.length ≤ 5) : (joinT ((l.map opT).take i)).size ≤ 5005 := by
  have := joinT_len ((l.map opT).take i) (fun x hx => by obtain ⟨y, _, rfl⟩ := List.mem_map.1 (List.mem_of_mem_take hx); exact opT_len y)
  have h2 : ((l.map opT).take i).length ≤ 5 := by simp; omega
  omega
theorem l7Ops_tot (l : List Op) (hl : l.length ≤ 5) : ∀ e i, i + e = l.length → Tot (fun k => spec_l7Ops.l0 k l (joinT ((l.map opT).take i)) i) (fun r => r = joinT (l.map opT))
  | 0, i, h => by
    refine Tot.succ ?_
    simp only [spec_l7Ops.l0]
    refine Tot.neg (by omega) (Tot.ret ?_)
    rw [List.take_of_length_le (by simp; omega)]
  | e + 1, i, h => by
    have ih := l7Ops_tot l hl e (i + 1) (by omega)
    have hs := take_small l i hl
    have ht := opT_len (opAt l i)
    rw [take_opT l i (by omega)] at ih
    refine Tot.succ ?_
    simp only [spec_l7Ops.l0]
    refine Tot.pos (by omega) ?_
    by_cases h0 : i = 0
    · subst h0
      refine Tot.neg (by omega) (Tot.pos (by omega) ?_)
      refine Tot.bind (spec_OpText_tot _ _ _ _ _) ?_
      rintro _ rfl
      have e0 : (⟨#[]⟩ : ByteArray) ++ opT (opAt l 0) = opT (opAt l 0) := ba_ext (by rw [ba_app]; rfl)
      have e1 : joinT ((l.map opT).take 0) = ⟨#[]⟩ := rfl
      rw [List.take_zero, List.nil_append, joinT_one] at ih
      rw [e1]
      refine Tot.pos (by show 0 + (opT (opAt l 0)).size ≤ _; omega) ?_
      rw [wr_id (by omega) (by omega)]
      show Tot (fun k => spec_l7Ops.l0 k l ((⟨#[]⟩ : ByteArray) ++ opT (opAt l 0)) _) _
      rw [e0]
      exact ih
    · have hne : (l.map opT).take i ≠ [] := by
        intro hh
        have := congrArg List.length hh
        rw [take_len l i (by omega)] at this
        exact h0 (by simpa using this)
      rw [joinT_snoc _ hne] at ih
      refine Tot.pos (by omega) (Tot.pos (by omega) (Tot.pos (by omega) ?_))
      refine Tot.bind (spec_OpText_tot _ _ _ _ _) ?_
      rintro _ rfl
      refine Tot.pos ?_ ?_
      · rw [ByteArray.size_append]
        show _ + 1 + (opT (opAt l i)).size ≤ _
        omega
      · rw [wr_id (by omega) (by omega)]
        exact ih
theorem spec_l7Ops_tot (l : List Op) (hl : l.length ≤ 5) : Tot (fun k => spec_l7Ops.f k l) (fun r => r = opsF l) := by
  unfold spec_l7Ops.f opsF
  by_cases h : l.length = 0
  · rw [if_pos h]
    exact Tot.pos (by omega) (Tot.ret rfl)
  · rw [if_neg h]
    exact Tot.neg (by omega) (l7Ops_tot l hl l.length 0 (by omega))
/-- What is asked, as text. -/
def askI (ops path : ByteArray) (till : Int) : ByteArray := (((((⟨#[47]⟩ : ByteArray) ++ ops) ++ (⟨#[47]⟩ : ByteArray)) ++ path) ++ (⟨#[63, 101, 61]⟩ : ByteArray)) ++ ⟨(Lib.itoa till).toArray⟩
def askF (l : List Op) (path : ByteArray) (till : Int) : ByteArray := if askB l path till then askI (opsF l) path till else ⟨#[]⟩
theorem askB_parts {l : List Op} {path : ByteArray} {till : Int} (h : askB l path till = true) : l.length ≤ 5 ∧ (1 ≤ path.size ∧ path.size ≤ 6) ∧ 0 ≤ till ∧ till ≤ 9999 := by
  simp only [askB, allOkB, nameB, Bool.and_eq_true, decide_eq_true_eq] at h
  exact ⟨h.1.1, h.2.1.1, h.2.2.1, h.2.2.2⟩
theorem spec_AskText_tot (l : List Op) (hl : l.length ≤ 4611686018427387904) (path : ByteArray) (till : Int) : Tot (fun k => spec_AskText.f k l path till) (fun r => r = askF l path till) := by
  unfold spec_AskText.f askF
  refine Tot.bind (Tot.of_ev (spec_AskOk_ev l hl path till)) ?_
  rintro _ rfl
  cases h : askB l path till with
  | false => exact Tot.neg (by decide) (Tot.ret rfl)
  | true =>
    obtain ⟨h5, hp, ht0, ht1⟩ := askB_parts h
    obtain ⟨n, rfl⟩ := Int.eq_ofNat_of_zero_le ht0
    have ho := opsF_len l h5
    have hi := Lib.itoa_length_le (n : Int) (by omega) (by omega)
    refine Tot.pos rfl ?_
    refine Tot.bind (spec_l7Ops_tot l h5) ?_
    rintro _ rfl
    refine Tot.pos (by omega) (Tot.pos ?_ (Tot.pos ?_ (Tot.pos ?_ ?_)))
    · rw [ByteArray.size_append]; show 1 + _ + 1 ≤ _; omega
    · rw [ByteArray.size_append, ByteArray.size_append]; show 1 + _ + 1 + _ ≤ _; omega
    · rw [ByteArray.size_append, ByteArray.size_append, ByteArray.size_append]; show 1 + _ + 1 + _ + 3 ≤ _; omega
    · refine Tot.bind (plainF_tot n (by omega)) ?_
      rintro _ rfl
      refine Tot.pos ?_ (Tot.ret rfl)
      rw [ByteArray.size_append, ByteArray.size_append, ByteArray.size_append, ByteArray.size_append]
      show 1 + _ + 1 + _ + 3 + (Lib.itoa (n : Int)).toArray.size ≤ _
      rw [List.size_toArray]
      omega
theorem impl_askLoop_tot (l : List Op) (h5 : l.length ≤ 5) (path : ByteArray) (hp : path.size ≤ 6) (n : Nat) (hn : n ≤ 9999) : ∀ e i, i + e = l.length → Tot (fun k => impl_AskText.l0 k ((l.map opT).take i) l l.length i l path n) (fun r => r = askI (opsF l) path n)
  | 0, i, h => by
    have ho := opsF_len l h5
    have hi := Lib.itoa_length_le (n : Int) (by omega) (by omega)
    have hI : strconv_Itoa_34.f (n : Int) = some ⟨(Lib.itoa (n : Int)).toArray⟩ := by unfold strconv_Itoa_34.f; rw [if_pos ⟨by omega, by omega⟩]
    refine Tot.succ ?_
    simp only [impl_AskText.l0]
    refine Tot.neg (by omega) ?_
    rw [List.take_of_length_le (by simp; omega)]
    by_cases h0 : l.length = 0
    · refine Tot.neg (by rw [List.length_map]; omega) ?_
      have e : opsF l = ⟨#[45]⟩ := by unfold opsF; rw [if_pos h0]
      rw [e]
      refine Tot.pos (by omega) (Tot.pos ?_ (Tot.pos ?_ ?_))
      · rw [ByteArray.size_append]; show 1 + 1 + 1 + _ ≤ _; omega
      · rw [ByteArray.size_append, ByteArray.size_append]; show 1 + 1 + 1 + _ + 3 ≤ _; omega
      · refine Tot.bind (Tot.of_eq hI) ?_
        rintro _ rfl
        refine Tot.pos ?_ (Tot.ret rfl)
        rw [ByteArray.size_append, ByteArray.size_append]
        show 1 + 1 + 1 + _ + 3 + (Lib.itoa (n : Int)).toArray.size ≤ _
        rw [List.size_toArray]
        omega
    · refine Tot.pos (by rw [List.length_map]; omega) ?_
      have e : opsF l = joinT (l.map opT) := by unfold opsF; rw [if_neg h0]
      have hJ : strings_Join.f (l.map opT) ⟨#[44]⟩ = some (opsF l) := by
        have hh := opsF_len l h5
        rw [e, ba_size] at hh
        unfold strings_Join.f
        rw [if_pos ⟨by simp; omega, by have : (Lib.join ((l.map opT).map (·.data.toList)) [44]).length ≤ 5100 := hh; show (Lib.join _ [44]).length ≤ _; omega⟩, e]
        rfl
      refine Tot.bind (Tot.of_eq hJ) ?_
      rintro _ rfl
      refine Tot.pos (by omega) (Tot.pos ?_ (Tot.pos ?_ (Tot.pos ?_ ?_)))
      · rw [ByteArray.size_append]; show 1 + _ + 1 ≤ _; omega
      · rw [ByteArray.size_append, ByteArray.size_append]; show 1 + _ + 1 + _ ≤ _; omega
      · rw [ByteArray.size_append, ByteArray.size_append, ByteArray.size_append]; show 1 + _ + 1 + _ + 3 ≤ _; omega
      · refine Tot.bind (Tot.of_eq hI) ?_
        rintro _ rfl
        refine Tot.pos ?_ (Tot.ret rfl)
        rw [ByteArray.size_append, ByteArray.size_append, ByteArray.size_append, ByteArray.size_append]
        show 1 + _ + 1 + _ + 3 + (Lib.itoa (n : Int)).toArray.size ≤ _
        rw [List.size_toArray]
        omega
  | e + 1, i, h => by
    have ih := impl_askLoop_tot l h5 path hp n hn e (i + 1) (by omega)
    rw [take_opT l i (by omega)] at ih
    refine Tot.succ ?_
    simp only [impl_AskText.l0]
    refine Tot.pos (by omega) (Tot.pos (by omega) (Tot.pos (by omega) ?_))
    refine Tot.bind (impl_OpText_tot _ _ _ _ _) ?_
    rintro _ rfl
    refine Tot.pos (by rw [take_len l i (by omega)]; omega) ?_
    rw [wr_id (by omega) (by omega)]
    exact ih
theorem impl_AskText_tot (l : List Op) (hl : l.length ≤ 4611686018427387904) (path : ByteArray) (till : Int) : Tot (fun k => impl_AskText.f k l path till) (fun r => r = askF l path till) := by
  unfold impl_AskText.f askF
  refine Tot.bind (Tot.of_ev (impl_AskOk_ev l hl path till)) ?_
  rintro _ rfl
  cases h : askB l path till with
  | false => exact Tot.neg (by decide) (Tot.ret rfl)
  | true =>
    obtain ⟨h5, hp, ht0, ht1⟩ := askB_parts h
    obtain ⟨n, rfl⟩ := Int.eq_ofNat_of_zero_le ht0
    refine Tot.pos rfl (Tot.pos (by omega) (Tot.pos (by omega) ?_))
    exact impl_askLoop_tot l h5 path hp.2 n (by omega) l.length 0 (by omega)
end Go.Proofs.YtmbkhindhndccaaDoor.X
namespace Go.Proofs.YtmbkhindhndccaaDoor.X
open Go.RowKit Go.Proofs.YtmbkhindhndccaaDoorW.PrintWords Go.Proofs.YtmbkhindhndccaaDoor.Pl
set_option linter.unusedSimpArgs false
set_option linter.unusedVariables false
def hexD : ByteArray := ⟨#[48, 49, 50, 51, 52, 53, 54, 55, 56, 57, 97, 98, 99, 100, 101, 102]⟩
def hexd (n : Nat) : UInt8 := if n < 10 then UInt8.ofNat (48 + n) else UInt8.ofNat (87 + n)
/-- Two digits for each byte. -/
def hexL (l : List Int) : List UInt8 := l.flatMap fun b => [hexd (b.toNat / 16), hexd (b.toNat % 16)]
def hexF (l : List Int) : ByteArray := ⟨(hexL l).toArray⟩
theorem hexL_len (l : List Int) : (hexL l).length = 2 * l.length := by
  induction l with
  | nil => rfl
  | cons b l ih =>
    have : hexL (b :: l) = hexd (b.toNat / 16) :: hexd (b.toNat % 16) :: hexL l := rfl
    rw [this, List.length_cons, List.length_cons, ih, List.length_cons]
    omega
theorem hexF_size (l : List Int) : (hexF l).size = 2 * l.length := by
  show (hexL l).toArray.size = _
  rw [List.size_toArray, hexL_len]
theorem hx_impl : ∀ b : Fin 256, bt hexD ((b.val : Int) / 16) = ((hexd (b.val / 16)).toNat : Int) ∧ bt hexD (Go.bits .and .u8 (b.val : Int) 15) = ((hexd (b.val % 16)).toNat : Int) ∧ 0 ≤ Go.bits .and .u8 (b.val : Int) 15 ∧ Go.bits .and .u8 (b.val : Int) 15 < 16 := by decide +kernel
theorem hx_spec : ∀ b : Fin 256, hexD.extract ((Int.tdiv (b.val : Int) 16) % 256).toNat (((Int.tdiv (b.val : Int) 16) % 256 + 1) % 256).toNat = ⟨#[hexd (b.val / 16)]⟩ ∧ hexD.extract (Int.tmod (b.val : Int) 16).toNat ((Int.tmod (b.val : Int) 16 + 1) % 256).toNat = ⟨#[hexd (b.val % 16)]⟩ := by decide +kernel
theorem rd_in {l : List Int} (hb : ∀ y ∈ l, 0 ≤ y ∧ y ≤ 255) (i : Nat) (h : i < l.length) : ∃ b : Fin 256, rd l (i : Int) = (b.val : Int) ∧ l.drop i = (b.val : Int) :: l.drop (i + 1) := by
  have hm := hb l[i] (List.getElem_mem h)
  refine ⟨⟨l[i].toNat, by omega⟩, ?_, ?_⟩
  · rw [rd_nat, List.getD_eq_getElem?_getD, List.getElem?_eq_getElem h]
    show l[i] = _
    dsimp only
    omega
  · rw [List.drop_eq_getElem_cons h]
    congr 1
    dsimp only
    omega
theorem spec_hex_tot (l : List Int) (hb : ∀ y ∈ l, 0 ≤ y ∧ y ≤ 255) (hl : l.length ≤ 1000000000000) : ∀ e i, i + e = l.length → ∀ x3 : ByteArray, x3.size ≤ 2 * i → Tot (fun k => spec_HexText.l0 k l x3 i) (fun r => r = x3 ++ hexF (l.drop i))
  | 0, i, h, x3, hx => by
    refine Tot.succ ?_
    simp only [spec_HexText.l0]
    refine Tot.neg (by omega) (Tot.ret ?_)
    rw [List.drop_of_length_le (by omega)]
    exact ByteArray.append_empty.symm
  | e + 1, i, h, x3, hx => by
    obtain ⟨b, h1, h2⟩ := rd_in hb i (by omega)
    obtain ⟨s1, s2⟩ := hx_spec b
    have hb2 := b.isLt
    have q1 : Int.tdiv (b.val : Int) 16 = ((b.val / 16 : Nat) : Int) := (Int.ofNat_tdiv b.val 16).symm
    have q2 : Int.tmod (b.val : Int) 16 = ((b.val % 16 : Nat) : Int) := (Int.ofNat_tmod b.val 16).symm
    refine Tot.succ ?_
    simp only [spec_HexText.l0, h1]
    rw [show (⟨#[48, 49, 50, 51, 52, 53, 54, 55, 56, 57, 97, 98, 99, 100, 101, 102]⟩ : ByteArray) = hexD from rfl, s1, s2, q1, q2]
    refine Tot.pos (by omega) (Tot.pos (by omega) (Tot.pos (by omega) (Tot.pos (by omega) (Tot.pos (by omega) (Tot.pos ?_ (Tot.pos (by omega) (Tot.pos (by omega) (Tot.pos (by omega) (Tot.pos ?_ ?_)))))))))
    · show _ + 1 ≤ _; omega
    · rw [ByteArray.size_append]; show _ + 1 + 1 ≤ _; omega
    · rw [show wrap64 ((i : Int) + 1) = ((i + 1 : Nat) : Int) by rw [wrap_id (by omega) (by omega)]; rfl]
      refine Tot.mono (spec_hex_tot l hb hl e (i + 1) (by omega) _ ?_) ?_
      · rw [ByteArray.size_append, ByteArray.size_append]; show _ + 1 + 1 ≤ _; omega
      · rintro r rfl
        rw [h2, ByteArray.append_assoc, ByteArray.append_assoc]
        congr 1
theorem spec_HexText_tot (l : List Int) (hb : ∀ y ∈ l, 0 ≤ y ∧ y ≤ 255) (hl : l.length ≤ 1000000000000) : Tot (fun k => spec_HexText.f k l) (fun r => r = hexF l) := by
  unfold spec_HexText.f
  refine Tot.mono (spec_hex_tot l hb hl l.length 0 (by omega) ⟨#[]⟩ (by show 0 ≤ _; omega)) ?_
  rintro r rfl
  rw [List.drop_zero]
  exact ByteArray.empty_append
def hexN (l : List Int) : List Int := (hexL l).map fun u => (u.toNat : Int)
theorem hexN_str (l : List Int) : strOfNums (hexN l) = hexF l := by
  have h : (strOfNums (hexN l)).data.toList = (hexF l).data.toList := by
    rw [← Lib.toList_data, Lib.strOfNums_toList]
    show ((hexL l).map _).map _ = hexL l
    rw [List.map_map]
    refine (List.map_congr_left (g := id) (fun u _ => ?_)).trans (List.map_id _)
    show UInt8.ofNat ((u.toNat : Int)).toNat = u
    rw [Int.toNat_natCast, UInt8.ofNat_toNat]
  cases hA : strOfNums (hexN l) with
  | mk A =>
    rw [hA] at h
    exact congrArg ByteArray.mk (Array.toList_inj.1 h)
theorem impl_hex_tot (l : List Int) (hb : ∀ y ∈ l, 0 ≤ y ∧ y ≤ 255) (hl : l.length ≤ 1000000000000) : ∀ e i, i + e = l.length → ∀ x3 : List Int, x3.length ≤ 2 * i → Tot (fun k => impl_HexText.l0 k x3 l l.length i) (fun r => r = strOfNums (x3 ++ hexN (l.drop i)))
  | 0, i, h, x3, hx => by
    refine Tot.succ ?_
    simp only [impl_HexText.l0]
    refine Tot.neg (by omega) (Tot.ret ?_)
    rw [List.drop_of_length_le (by omega)]
    show _ = strOfNums (x3 ++ [])
    rw [List.append_nil]
  | e + 1, i, h, x3, hx => by
    obtain ⟨b, h1, h2⟩ := rd_in hb i (by omega)
    obtain ⟨s1, s2, s3, s4⟩ := hx_impl b
    have hb2 := b.isLt
    refine Tot.succ ?_
    simp only [impl_HexText.l0, h1]
    rw [show (⟨#[48, 49, 50, 51, 52, 53, 54, 55, 56, 57, 97, 98, 99, 100, 101, 102]⟩ : ByteArray) = hexD from rfl, s1, s2]
    refine Tot.pos (by omega) (Tot.pos (by omega) (Tot.pos (by omega) (Tot.pos (by omega) (Tot.pos (by omega) (Tot.pos s3 (Tot.pos s4 (Tot.some_bind (Tot.pos ?_ ?_))))))))
    · simp; omega
    · rw [show wrap64 ((i : Int) + 1) = ((i + 1 : Nat) : Int) by rw [wrap_id (by omega) (by omega)]; rfl]
      refine Tot.mono (impl_hex_tot l hb hl e (i + 1) (by omega) _ ?_) ?_
      · simp; omega
      · rintro r rfl
        rw [h2, List.append_assoc]
        rfl
theorem impl_HexText_tot (l : List Int) (hb : ∀ y ∈ l, 0 ≤ y ∧ y ≤ 255) (hl : l.length ≤ 1000000000000) : Tot (fun k => impl_HexText.f k l) (fun r => r = hexF l) := by
  unfold impl_HexText.f
  rw [wrap_id (by omega) (by omega)]
  refine Tot.pos (by omega) (Tot.pos (by omega) ?_)
  refine Tot.mono (impl_hex_tot l hb hl l.length 0 (by omega) [] (by simp)) ?_
  rintro r rfl
  rw [List.drop_zero, List.nil_append, hexN_str]
end Go.Proofs.YtmbkhindhndccaaDoor.X
namespace Go.Proofs.YtmbkhindhndccaaDoor.Sha
set_option linter.unusedVariables false
open Go

/-- A word of 32 bits. -/
def W (a : Int) : Prop := 0 ≤ a ∧ a < 4294967296
def X (a b : Int) : Int := ((a.toNat ^^^ b.toNat : Nat) : Int)
def A (a b : Int) : Int := ((a.toNat &&& b.toNat : Nat) : Int)
/-- A word turned to the right. -/
def R (n : Nat) (a : Int) : Int := (((a.toNat * 2 ^ (32 - n)) % 4294967296 ||| a.toNat / 2 ^ n : Nat) : Int)

theorem W_X {a b : Int} (ha : W a) (hb : W b) : W (X a b) := by
  have : a.toNat ^^^ b.toNat < 2 ^ 32 := Nat.xor_lt_two_pow (by have := ha.1; have := ha.2; omega) (by have := hb.1; have := hb.2; omega)
  unfold W X; omega
theorem W_A {a b : Int} (ha : W a) (hb : W b) : W (A a b) := by
  have : a.toNat &&& b.toNat < 2 ^ 32 := Nat.and_lt_two_pow _ (by have := hb.1; have := hb.2; omega)
  unfold W A; omega
theorem W_not {a : Int} (ha : W a) : W (4294967295 - a) := by have := ha.1; have := ha.2; unfold W; omega
theorem W_mod (a : Int) : W (a % 4294967296) := by unfold W; omega
theorem W_shr {a : Int} (ha : W a) (n : Nat) : W (a / 2 ^ n) := by
  have h0 := ha.1; have h1 := ha.2
  obtain ⟨x, rfl⟩ := Int.eq_ofNat_of_zero_le h0
  have e : ((x : Int) / 2 ^ n) = ((x / 2 ^ n : Nat) : Int) := by simp
  rw [e]; have : x / 2 ^ n ≤ x := Nat.div_le_self _ _
  have h2 : x < 4294967296 := by omega
  have h3 := Nat.lt_of_le_of_lt this h2
  exact ⟨Int.natCast_nonneg _, Int.ofNat_lt.mpr h3⟩
theorem W_R {a : Int} (ha : W a) (n : Nat) : W (R n a) := by
  have : (a.toNat * 2 ^ (32 - n)) % 4294967296 ||| a.toNat / 2 ^ n < 2 ^ 32 := Nat.or_lt_two_pow (by omega) (Nat.lt_of_le_of_lt (Nat.div_le_self _ _) (by have := ha.1; have := ha.2; omega))
  unfold W R; omega

theorem xor32 {a b : Int} (ha : W a) (hb : W b) : bits .xor .u32 a b = X a b := u32_xor a b ha.1 ha.2 hb.1 hb.2
theorem and32 {a b : Int} (ha : W a) (hb : W b) : bits .and .u32 a b = A a b := u32_and a b ha.1 ha.2 hb.1 hb.2
theorem xor64 {a b : Int} (ha : W a) (hb : W b) : bits .xor .u64 a b = X a b := u64_xor a b ha.1 (by have := ha.2; omega) hb.1 (by have := hb.2; omega)
theorem and64 {a b : Int} (ha : W a) (hb : W b) : bits .and .u64 a b = A a b := u64_and a b ha.1 (by have := ha.2; omega) hb.1 (by have := hb.2; omega)
theorem not64 {a : Int} (ha : W a) : bits .xor .u64 4294967295 a = 4294967295 - a := by
  rw [u64_xor _ _ (by decide) (by decide) ha.1 (by have := ha.2; omega)]
  have h0 := ha.1; have h1 := ha.2
  obtain ⟨x, rfl⟩ := Int.eq_ofNat_of_zero_le h0
  have hx : x < 2 ^ 32 := by omega
  have : (4294967295 : Nat) ^^^ x = 4294967295 - x := by
    apply Nat.eq_of_testBit_eq
    intro i
    have e1 : (4294967295 : Nat) = 2 ^ 32 - 1 := by decide
    have e2 : (4294967295 : Nat) - x = 2 ^ 32 - (x + 1) := by omega
    rw [e2, Nat.testBit_two_pow_sub_succ hx, Nat.testBit_xor, e1, Nat.testBit_two_pow_sub_one]
    by_cases h : i < 32
    · simp [h]
    · have : x.testBit i = false := Nat.testBit_lt_two_pow (Nat.lt_of_lt_of_le hx (Nat.pow_le_pow_right (by decide) (by omega)))
      simp [h, this]
  have e : ((4294967295 : Int).toNat) = 4294967295 := by decide
  rw [e, Int.toNat_natCast, this]; omega
end Go.Proofs.YtmbkhindhndccaaDoor.Sha
namespace Go.Proofs.YtmbkhindhndccaaDoor.X
open Go.RowKit Go.Proofs.YtmbkhindhndccaaDoorW.PrintWords
set_option maxRecDepth 100000
def shP : List Int := [2, 3, 5, 7, 11, 13, 17, 19, 23, 29, 31, 37, 41, 43, 47, 53, 59, 61, 67, 71, 73, 79, 83, 89, 97, 101, 103, 107, 109, 113, 127, 131, 137, 139, 149, 151, 157, 163, 167, 173, 179, 181, 191, 193, 197, 199, 211, 223, 227, 229, 233, 239, 241, 251, 257, 263, 269, 271, 277, 281, 283, 293, 307, 311]
theorem primes_ok : spec_l1Primes.f 400 64 = some shP := by decide +kernel
theorem root2 : ∀ i : Fin 8, spec_l1Root.f 50 (shP.getD i.val 0) 2 = some (shS0.getD i.val 0) := by decide +kernel
theorem root3 : ∀ i : Fin 64, spec_l1Root.f 50 (shP.getD i.val 0) 3 = some (shK0.getD i.val 0) := by decide +kernel
end Go.Proofs.YtmbkhindhndccaaDoor.X
namespace Go.Proofs.YtmbkhindhndccaaDoor.X
open Go.RowKit Go.Proofs.YtmbkhindhndccaaDoorW.PrintWords Go.Proofs.YtmbkhindhndccaaDoorW.PrintLast Go.Proofs.YtmbkhindhndccaaDoorW.PrintMore Go.Proofs.YtmbkhindhndccaaDoor.Sha Go.Proofs.YtmbkhindhndccaaDoor.Pl
set_option linter.unusedVariables false
set_option linter.unusedSimpArgs false

theorem rot_R (n : Nat) (h1 : 1 ≤ n) (h2 : n ≤ 31) {a : Int} (ha : Sha.W a) : rotI ((32 - n : Nat) : Int) (n : Int) a = Sha.R n a := by
  obtain ⟨h0, h3⟩ := ha
  obtain ⟨x, rfl⟩ := Int.eq_ofNat_of_zero_le h0
  have hx : x < 4294967296 := by omega
  have e1 : ((x : Int) * 2 ^ (32 - n)) = ((x * 2 ^ (32 - n) : Nat) : Int) := by simp
  have e2 : ((x : Int) / 2 ^ n) = ((x / 2 ^ n : Nat) : Int) := by simp
  have e3 : (((x * 2 ^ (32 - n) : Nat) : Int) % 4294967296) = ((x * 2 ^ (32 - n) % 4294967296 : Nat) : Int) := by omega
  have hd : x / 2 ^ n < 4294967296 := Nat.lt_of_le_of_lt (Nat.div_le_self _ _) hx
  unfold rotI Sha.R
  rw [IntKind.wrap_u32', Int.toNat_natCast, Int.toNat_natCast, Nat.min_eq_left (by omega), Nat.min_eq_left (by omega), e1, e2, e3, u32_or_nat _ _ (Nat.mod_lt _ (by decide)) hd, Int.toNat_natCast]
theorem turn_R (n : Nat) (h1 : 1 ≤ n) (h2 : n ≤ 31) {a : Int} (ha : Sha.W a) : spec_l1Turn.f a (n : Int) = some (Sha.R n a) := by
  obtain ⟨h0, h3⟩ := ha
  obtain ⟨x, rfl⟩ := Int.eq_ofNat_of_zero_le h0
  have hx : x < 4294967296 := by omega
  have hw : IntKind.u64.wrap (32 - (n : Int)) = ((32 - n : Nat) : Int) := by rw [IntKind.wrap_u64]; omega
  have hp : x * 2 ^ (32 - n) < 18446744073709551616 := by
    have e : (18446744073709551616 : Nat) = 4294967296 * 2 ^ 32 := by decide
    have h : 2 ^ (32 - n) ≤ 2 ^ 32 := Nat.pow_le_pow_right (by decide) (by omega)
    rw [e]
    exact Nat.lt_of_lt_of_le (Nat.mul_lt_mul_of_pos_right hx (Nat.two_pow_pos _)) (Nat.mul_le_mul_left _ h)
  have hd : x / 2 ^ n < 4294967296 := Nat.lt_of_le_of_lt (Nat.div_le_self _ _) hx
  have e1 : ((x : Int) * 2 ^ (32 - n)) = ((x * 2 ^ (32 - n) : Nat) : Int) := by simp
  have e2 : ((x : Int) / 2 ^ n) = ((x / 2 ^ n : Nat) : Int) := by simp
  have e3 : (((x * 2 ^ (32 - n) : Nat) : Int) % 18446744073709551616) = ((x * 2 ^ (32 - n) : Nat) : Int) := by omega
  unfold spec_l1Turn.f
  rw [if_pos (by omega), hw, if_pos (by omega)]
  unfold shr shl spec_l1Word.f
  rw [IntKind.wrap_u64, Int.toNat_natCast, Int.toNat_natCast, Nat.min_eq_left (by show n ≤ 64; omega), Nat.min_eq_left (by show 32 - n ≤ 64; omega), e1, e2, e3, u64_or_nat _ _ (by omega) hp]
  simp only [Option.bind_some]
  congr 1
  unfold Sha.R
  rw [Int.tmod_eq_emod_of_nonneg (Int.natCast_nonneg _), Int.toNat_natCast]
  have : (x / 2 ^ n ||| x * 2 ^ (32 - n)) % 4294967296 = x * 2 ^ (32 - n) % 4294967296 ||| x / 2 ^ n := by
    have e : (4294967296 : Nat) = 2 ^ 32 := by decide
    rw [e, Nat.or_mod_two_pow, Nat.mod_eq_of_lt (a := x / 2 ^ n) (by rw [← e]; exact hd), Nat.or_comm]
  omega
theorem W_bor {a b : Int} (ha : Sha.W a) (hb : Sha.W b) : Sha.W (bits .or .u32 a b) := by
  rw [u32_or a b ha.1 ha.2 hb.1 hb.2]
  have : a.toNat ||| b.toNat < 2 ^ 32 := Nat.or_lt_two_pow (by have := ha.1; have := ha.2; omega) (by have := hb.1; have := hb.2; omega)
  unfold Sha.W; omega
theorem not32 {a : Int} (ha : Sha.W a) : bits .xor .u32 IntKind.u32.max a = 4294967295 - a := by
  have h := Sha.not64 ha
  rw [u64_xor _ _ (by decide) (by decide) ha.1 (by have := ha.2; omega)] at h
  rw [show IntKind.u32.max = 4294967295 by decide, u32_xor _ _ (by decide) (by decide) ha.1 ha.2]
  exact h
theorem or64_32 {a b : Int} (ha : Sha.W a) (hb : Sha.W b) : bits .or .u64 a b = bits .or .u32 a b := by
  rw [u32_or a b ha.1 ha.2 hb.1 hb.2, u64_or a b ha.1 (by have := ha.2; omega) hb.1 (by have := hb.2; omega)]

/-! ### A round -/
structure WQ (q : St8) : Prop where
  a : Sha.W q.a
  b : Sha.W q.b
  c : Sha.W q.c
  d : Sha.W q.d
  e : Sha.W q.e
  f : Sha.W q.f
  g : Sha.W q.g
  h : Sha.W q.h
def St8.l (q : St8) : List Int := [q.a, q.b, q.c, q.d, q.e, q.f, q.g, q.h]
theorem WQ.step {q : St8} (h : WQ q) (k w : Int) : WQ (stepI k w q) := ⟨Sha.W_mod _, h.a, h.b, h.c, Sha.W_mod _, h.e, h.f, h.g⟩
theorem tm (x : Int) (h : 0 ≤ x) : Int.tmod x 4294967296 = x % 4294967296 := Int.tmod_eq_emod_of_nonneg h
theorem step_eq {q : St8} (h : WQ q) {k w : Int} (hk : Sha.W k) (hw : Sha.W w) : spec_l1Step.f q.l k w = some (stepI k w q).l := by
  obtain ⟨a, b, c, d, e, f, g, hh⟩ := q
  obtain ⟨ha, hb, hc, hd, he, hf, hg, hhh⟩ := h
  dsimp only at ha hb hc hd he hf hg hhh
  have t6 := turn_R 6 (by omega) (by omega) he
  have t11 := turn_R 11 (by omega) (by omega) he
  have t25 := turn_R 25 (by omega) (by omega) he
  have t2 := turn_R 2 (by omega) (by omega) ha
  have t13 := turn_R 13 (by omega) (by omega) ha
  have t22 := turn_R 22 (by omega) (by omega) ha
  have r6 : rotI 26 6 e = _ := rot_R 6 (by omega) (by omega) he
  have r11 : rotI 21 11 e = _ := rot_R 11 (by omega) (by omega) he
  have r25 : rotI 7 25 e = _ := rot_R 25 (by omega) (by omega) he
  have r2 : rotI 30 2 a = _ := rot_R 2 (by omega) (by omega) ha
  have r13 : rotI 19 13 a = _ := rot_R 13 (by omega) (by omega) ha
  have r22 : rotI 10 22 a = _ := rot_R 22 (by omega) (by omega) ha
  have w6 := Sha.W_R he 6
  have w11 := Sha.W_R he 11
  have w25 := Sha.W_R he 25
  have w2 := Sha.W_R ha 2
  have w13 := Sha.W_R ha 13
  have w22 := Sha.W_R ha 22
  have x1 := Sha.W_X (Sha.W_X w6 w11) w25
  have x2 := Sha.W_X (Sha.W_X w2 w13) w22
  have c1 := Sha.W_A he hf
  have c2 := Sha.W_A (Sha.W_not he) hg
  have x3 := Sha.W_X c1 c2
  have m1 := Sha.W_A ha hb
  have m2 := Sha.W_A ha hc
  have m3 := Sha.W_A hb hc
  have x4 := Sha.W_X (Sha.W_X m1 m2) m3
  unfold spec_l1Step.f St8.l stepI
  simp only [List.length_cons, List.length_nil]
  have e4 : rd [a, b, c, d, e, f, g, hh] 4 = e := rfl
  have e0 : rd [a, b, c, d, e, f, g, hh] 0 = a := rfl
  have e1 : rd [a, b, c, d, e, f, g, hh] 1 = b := rfl
  have e2 : rd [a, b, c, d, e, f, g, hh] 2 = c := rfl
  have e3 : rd [a, b, c, d, e, f, g, hh] 3 = d := rfl
  have e5 : rd [a, b, c, d, e, f, g, hh] 5 = f := rfl
  have e6 : rd [a, b, c, d, e, f, g, hh] 6 = g := rfl
  have e7 : rd [a, b, c, d, e, f, g, hh] 7 = hh := rfl
  rw [e0, e1, e2, e3, e4, e5, e6, e7]
  have q6 : spec_l1Turn.f e 6 = some (Sha.R 6 e) := t6
  have q11 : spec_l1Turn.f e 11 = some (Sha.R 11 e) := t11
  have q25 : spec_l1Turn.f e 25 = some (Sha.R 25 e) := t25
  have q2 : spec_l1Turn.f a 2 = some (Sha.R 2 a) := t2
  have q13 : spec_l1Turn.f a 13 = some (Sha.R 13 a) := t13
  have q22 : spec_l1Turn.f a 22 = some (Sha.R 22 a) := t22
  rw [q6, q11, q25, q2, q13, q22]
  simp only [Option.bind_some, spec_l1Word.f]
  rw [if_pos (by decide), if_pos (by decide), if_pos (by decide), if_pos (by decide), if_pos (by decide), if_pos (by decide), if_pos (by decide), if_pos (by decide)]
  rw [r6, r11, r25, r2, r13, r22]
  rw [Sha.xor64 w6 w11, Sha.xor64 (Sha.W_X w6 w11) w25, Sha.xor64 w2 w13, Sha.xor64 (Sha.W_X w2 w13) w22, Sha.and64 he hf, Sha.not64 he, Sha.and64 (Sha.W_not he) hg, Sha.xor64 c1 c2, Sha.and64 ha hb, Sha.and64 ha hc, Sha.and64 hb hc, Sha.xor64 m1 m2, Sha.xor64 (Sha.W_X m1 m2) m3]
  rw [Sha.xor32 w6 w11, Sha.xor32 (Sha.W_X w6 w11) w25, Sha.xor32 w2 w13, Sha.xor32 (Sha.W_X w2 w13) w22, Sha.and32 he hf, not32 he, Sha.and32 (Sha.W_not he) hg, Sha.xor32 c1 c2, Sha.and32 ha hb, Sha.and32 ha hc, Sha.and32 hb hc, Sha.xor32 m1 m2, Sha.xor32 (Sha.W_X m1 m2) m3]
  revert x1 x2 x3 x4
  generalize Sha.X (Sha.X (Sha.R 6 e) (Sha.R 11 e)) (Sha.R 25 e) = y1
  generalize Sha.X (Sha.X (Sha.R 2 a) (Sha.R 13 a)) (Sha.R 22 a) = y2
  generalize Sha.X (Sha.A e f) (Sha.A (4294967295 - e) g) = y3
  generalize Sha.X (Sha.X (Sha.A a b) (Sha.A a c)) (Sha.A b c) = y4
  intro x1 x2 x3 x4
  simp only [IntKind.wrap_u64]
  obtain ⟨a1, a2⟩ := x1
  obtain ⟨b1, b2⟩ := x2
  obtain ⟨d1, d2⟩ := x3
  obtain ⟨f1, f2⟩ := x4
  obtain ⟨k1, k2⟩ := hk
  obtain ⟨w1, w2'⟩ := hw
  obtain ⟨h1, h2⟩ := hhh
  obtain ⟨g1, g2⟩ := hd
  have z1 : Int.tmod (((((hh + y1) % 18446744073709551616 + y3) % 18446744073709551616 + k) % 18446744073709551616 + w) % 18446744073709551616) 4294967296 = (hh + y1 + y3 + k + w) % 4294967296 := by rw [tm _ (by omega)]; omega
  have z2 : Int.tmod ((y2 + y4) % 18446744073709551616) 4294967296 = (y2 + y4) % 4294967296 := by rw [tm _ (by omega)]; omega
  rw [z1, z2]
  have z3 : Int.tmod (((hh + y1 + y3 + k + w) % 4294967296 + (y2 + y4) % 4294967296) % 18446744073709551616) 4294967296 = (hh + y1 + y3 + k + w + (y2 + y4)) % 4294967296 := by rw [tm _ (by omega)]; omega
  have z4 : Int.tmod ((d + (hh + y1 + y3 + k + w) % 4294967296) % 18446744073709551616) 4294967296 = (d + (hh + y1 + y3 + k + w)) % 4294967296 := by rw [tm _ (by omega)]; omega
  rw [z3, z4]
end Go.Proofs.YtmbkhindhndccaaDoor.X
namespace Go.Proofs.YtmbkhindhndccaaDoor.X
open Go.RowKit Go.Proofs.YtmbkhindhndccaaDoorW.PrintWords Go.Proofs.YtmbkhindhndccaaDoorW.PrintLast Go.Proofs.YtmbkhindhndccaaDoorW.PrintMore Go.Proofs.YtmbkhindhndccaaDoor.Sha Go.Proofs.YtmbkhindhndccaaDoor.Pl
set_option linter.unusedVariables false
set_option linter.unusedSimpArgs false

/-- A loop that goes up, at so much fuel a round. -/
theorem iter {α : Type} (g : Nat → Nat → α) (c K0 N : Nat) (h : ∀ k i, K0 ≤ k → i < N → g (k + c) i = g k (i + 1)) : ∀ n i k, i + n = N → K0 ≤ k → g (k + c * n) i = g k N
  | 0, i, k, hi, hk => by have : i = N := by omega
                          subst this; rfl
  | n + 1, i, k, hi, hk => by
    have e : k + c * (n + 1) = (k + c * n) + c := by rw [Nat.mul_succ]; omega
    rw [e, h (k + c * n) i (by omega) (by omega)]
    exact iter g c K0 N h n (i + 1) k (by omega) hk

/-! ### The words of a block -/
def Byt (b : Int) : Prop := 0 ≤ b ∧ b < 256
theorem rdD (l : List Int) (i : Nat) : rd l (i : Int) = l.getD i 0 := rfl
theorem W_wd0 {b0 b1 b2 b3 : Int} : Sha.W (wd0 b0 b1 b2 b3) := W_bor (W_bor (W_bor (Sha.W_mod _) (Sha.W_mod _)) (Sha.W_mod _)) (Sha.W_mod _)
theorem W_sch (blk : List Int) : ∀ n, ∀ x ∈ schI blk n, Sha.W x
  | 0, x, h => by cases h
  | n + 1, x, h => by
    rw [schI] at h
    rcases List.mem_append.1 h with h | h
    · exact W_sch blk n x h
    · obtain rfl := List.mem_singleton.1 h
      split
      · exact W_wd0
      · exact Sha.W_mod _
theorem W_zero : Sha.W 0 := ⟨by omega, by omega⟩
theorem W_getD {l : List Int} (h : ∀ x ∈ l, Sha.W x) (i : Nat) : Sha.W (l.getD i 0) := by
  by_cases hi : i < l.length
  · exact h _ (getD_mem l 0 i hi)
  · rw [List.getD_eq_getElem?_getD, List.getElem?_eq_none (by omega)]; exact W_zero
theorem B_getD {l : List Int} (h : ∀ x ∈ l, Byt x) (i : Nat) : Byt (l.getD i 0) := by
  by_cases hi : i < l.length
  · exact h _ (getD_mem l 0 i hi)
  · rw [List.getD_eq_getElem?_getD, List.getElem?_eq_none (by omega)]; exact ⟨by decide, by decide⟩
theorem wd0_eq {b0 b1 b2 b3 : Int} (h0 : Byt b0) (h1 : Byt b1) (h2 : Byt b2) (h3 : Byt b3) :
    Go.bits .or .u64 (Go.bits .or .u64 (Go.bits .or .u64 (IntKind.u64.wrap ((IntKind.u64.wrap b0) * 16777216)) (IntKind.u64.wrap ((IntKind.u64.wrap b1) * 65536))) (IntKind.u64.wrap ((IntKind.u64.wrap b2) * 256))) (IntKind.u64.wrap b3) = wd0 b0 b1 b2 b3 := by
  obtain ⟨p0, q0⟩ := h0; obtain ⟨p1, q1⟩ := h1; obtain ⟨p2, q2⟩ := h2; obtain ⟨p3, q3⟩ := h3
  simp only [IntKind.wrap_u64]
  have e0 : b0 % 18446744073709551616 * 16777216 % 18446744073709551616 = b0 % 4294967296 * 16777216 % 4294967296 := by omega
  have e1 : b1 % 18446744073709551616 * 65536 % 18446744073709551616 = b1 % 4294967296 * 65536 % 4294967296 := by omega
  have e2 : b2 % 18446744073709551616 * 256 % 18446744073709551616 = b2 % 4294967296 * 256 % 4294967296 := by omega
  have e3 : b3 % 18446744073709551616 = b3 % 4294967296 := by omega
  rw [e0, e1, e2, e3]
  unfold wd0
  rw [or64_32 (Sha.W_mod _) (Sha.W_mod _), or64_32 (W_bor (Sha.W_mod _) (Sha.W_mod _)) (Sha.W_mod _), or64_32 (W_bor (W_bor (Sha.W_mod _) (Sha.W_mod _)) (Sha.W_mod _)) (Sha.W_mod _)]
theorem words0 (blk : List Int) (hb : blk.length = 64) (hB : ∀ x ∈ blk, Byt x) (k i : Nat) (hi : i < 16) : spec_l1Words.l0 (k + 1) blk (schI blk i) (i : Int) = spec_l1Words.l0 k blk (schI blk (i + 1)) ((i + 1 : Nat) : Int) := by
  have w0 : wrap64 (4 * (i : Int)) = ((4 * i : Nat) : Int) := four_w' hi
  have w1 : wrap64 (((4 * i : Nat) : Int) + 1) = ((4 * i + 1 : Nat) : Int) := by unfold wrap64; omega
  have w2 : wrap64 (((4 * i : Nat) : Int) + 2) = ((4 * i + 2 : Nat) : Int) := by unfold wrap64; omega
  have w3 : wrap64 (((4 * i : Nat) : Int) + 3) = ((4 * i + 3 : Nat) : Int) := by unfold wrap64; omega
  have w4 : wrap64 ((i : Int) + 1) = ((i + 1 : Nat) : Int) := by unfold wrap64; omega
  rw [spec_l1Words.l0, if_pos (by omega), w0, w1, w2, w3, w4, hb]
  rw [if_pos (by omega), if_pos (by omega), if_pos (by omega), if_pos (by omega), if_pos (by omega), if_pos (by omega), if_pos (by omega), if_pos (by omega), if_pos (by rw [schI_length]; omega)]
  rw [rdD, rdD, rdD, rdD, wd0_eq (B_getD hB _) (B_getD hB _) (B_getD hB _) (B_getD hB _)]
  rw [schI, if_pos hi]
where four_w' {i : Nat} (h : i < 16) : wrap64 (4 * (i : Int)) = ((4 * i : Nat) : Int) := by unfold wrap64; omega
theorem wd1_eq {p q x y : Int} (hp : Sha.W p) (hq : Sha.W q) (hx : Sha.W x) (hy : Sha.W y) :
    Int.tmod (IntKind.u64.wrap ((IntKind.u64.wrap ((IntKind.u64.wrap (x + (Go.bits .xor .u64 (Go.bits .xor .u64 (Sha.R 7 p) (Sha.R 18 p)) (p / 8)))) + y)) + (Go.bits .xor .u64 (Go.bits .xor .u64 (Sha.R 17 q) (Sha.R 19 q)) (q / 1024)))) 4294967296 = wd1 p q x y := by
  have r7 : rotI 25 7 p = _ := rot_R 7 (by omega) (by omega) hp
  have r18 : rotI 14 18 p = _ := rot_R 18 (by omega) (by omega) hp
  have r17 : rotI 15 17 q = _ := rot_R 17 (by omega) (by omega) hq
  have r19 : rotI 13 19 q = _ := rot_R 19 (by omega) (by omega) hq
  have s3 : Sha.W (p / 8) := Sha.W_shr hp 3
  have s10 : Sha.W (q / 1024) := Sha.W_shr hq 10
  have x1 := Sha.W_X (Sha.W_X (Sha.W_R hp 7) (Sha.W_R hp 18)) s3
  have x2 := Sha.W_X (Sha.W_X (Sha.W_R hq 17) (Sha.W_R hq 19)) s10
  unfold wd1
  rw [r7, r18, r17, r19, Sha.xor64 (Sha.W_R hp 7) (Sha.W_R hp 18), Sha.xor64 (Sha.W_X (Sha.W_R hp 7) (Sha.W_R hp 18)) s3, Sha.xor64 (Sha.W_R hq 17) (Sha.W_R hq 19), Sha.xor64 (Sha.W_X (Sha.W_R hq 17) (Sha.W_R hq 19)) s10,
    Sha.xor32 (Sha.W_R hp 7) (Sha.W_R hp 18), Sha.xor32 (Sha.W_X (Sha.W_R hp 7) (Sha.W_R hp 18)) s3, Sha.xor32 (Sha.W_R hq 17) (Sha.W_R hq 19), Sha.xor32 (Sha.W_X (Sha.W_R hq 17) (Sha.W_R hq 19)) s10]
  revert x1 x2
  generalize Sha.X (Sha.X (Sha.R 7 p) (Sha.R 18 p)) (p / 8) = y1
  generalize Sha.X (Sha.X (Sha.R 17 q) (Sha.R 19 q)) (q / 1024) = y2
  intro x1 x2
  obtain ⟨a1, a2⟩ := x1
  obtain ⟨b1, b2⟩ := x2
  obtain ⟨c1, c2⟩ := hx
  obtain ⟨d1, d2⟩ := hy
  simp only [IntKind.wrap_u64]
  rw [tm _ (by omega)]
  omega
theorem words1 (blk : List Int) (k i : Nat) (h16 : 16 ≤ i) (hi : i < 64) : spec_l1Words.l1 (k + 1) (schI blk i) (i : Int) = spec_l1Words.l1 k (schI blk (i + 1)) ((i + 1 : Nat) : Int) := by
  have v15 : wrap64 ((i : Int) - 15) = ((i - 15 : Nat) : Int) := by unfold wrap64; omega
  have v2 : wrap64 ((i : Int) - 2) = ((i - 2 : Nat) : Int) := by unfold wrap64; omega
  have v16 : wrap64 ((i : Int) - 16) = ((i - 16 : Nat) : Int) := by unfold wrap64; omega
  have v7 : wrap64 ((i : Int) - 7) = ((i - 7 : Nat) : Int) := by unfold wrap64; omega
  have w4 : wrap64 ((i : Int) + 1) = ((i + 1 : Nat) : Int) := by unfold wrap64; omega
  have hp := W_getD (W_sch blk i) (i - 15)
  have hq := W_getD (W_sch blk i) (i - 2)
  have hx := W_getD (W_sch blk i) (i - 16)
  have hy := W_getD (W_sch blk i) (i - 7)
  have q7 : spec_l1Turn.f ((schI blk i).getD (i - 15) 0) 7 = some _ := turn_R 7 (by omega) (by omega) hp
  have q18 : spec_l1Turn.f ((schI blk i).getD (i - 15) 0) 18 = some _ := turn_R 18 (by omega) (by omega) hp
  have q17 : spec_l1Turn.f ((schI blk i).getD (i - 2) 0) 17 = some _ := turn_R 17 (by omega) (by omega) hq
  have q19 : spec_l1Turn.f ((schI blk i).getD (i - 2) 0) 19 = some _ := turn_R 19 (by omega) (by omega) hq
  have hl := schI_length blk i
  have ew := wd1_eq hp hq hx hy
  have en : schI blk (i + 1) = schI blk i ++ [wd1 ((schI blk i).getD (i - 15) 0) ((schI blk i).getD (i - 2) 0) ((schI blk i).getD (i - 16) 0) ((schI blk i).getD (i - 7) 0)] := by rw [schI, if_neg (by omega)]
  rw [spec_l1Words.l1, if_pos (by omega), v15, v2, v16, v7, w4, hl]
  rw [if_pos (by omega), if_pos (by omega), rdD, rdD, rdD, rdD, q7, q18]
  simp only [Option.bind_some]
  rw [if_pos (by omega), if_pos (by omega), q17, q19]
  simp only [Option.bind_some]
  rw [if_pos (by omega), if_pos (by omega), if_pos (by omega), if_pos (by omega)]
  simp only [spec_l1Word.f, Option.bind_some]
  rw [if_pos (by omega), ew, en]
theorem words_ok (blk : List Int) (hb : blk.length = 64) (hB : ∀ x ∈ blk, Byt x) : spec_l1Words.f 66 blk = some (schI blk 64) := by
  have h1 := iter (fun k i => spec_l1Words.l0 k blk (schI blk i) (i : Int)) 1 0 16 (fun k i _ hi => words0 blk hb hB k i hi) 16 0 50 rfl (by omega)
  have h2 := iter (fun k i => spec_l1Words.l1 k (schI blk (i + 16)) ((i + 16 : Nat) : Int)) 1 0 48 (fun k i _ hi => by
    have := words1 blk k (i + 16) (by omega) (by omega)
    rw [this, show i + 16 + 1 = i + 1 + 16 by omega]) 48 0 1 rfl (by omega)
  have e : spec_l1Words.f 66 blk = spec_l1Words.l0 (50 + 1 * 16) blk (schI blk 0) ((0 : Nat) : Int) := rfl
  rw [e]
  refine h1.trans ?_
  have e2 : spec_l1Words.l0 50 blk (schI blk 16) ((16 : Nat) : Int) = spec_l1Words.l1 49 (schI blk 16) 16 := by rw [spec_l1Words.l0, if_neg (by decide)]
  show spec_l1Words.l0 50 blk (schI blk 16) ((16 : Nat) : Int) = _
  rw [e2]
  refine (show spec_l1Words.l1 49 (schI blk 16) 16 = spec_l1Words.l1 (1 + 1 * 48) (schI blk (0 + 16)) ((0 + 16 : Nat) : Int) from rfl).trans (h2.trans ?_)
  show spec_l1Words.l1 1 (schI blk 64) ((64 : Nat) : Int) = _
  rw [spec_l1Words.l1, if_neg (by decide)]
end Go.Proofs.YtmbkhindhndccaaDoor.X
namespace Go.Proofs.YtmbkhindhndccaaDoor.X
open Go.RowKit Go.Proofs.YtmbkhindhndccaaDoorW.PrintWords Go.Proofs.YtmbkhindhndccaaDoorW.PrintLast Go.Proofs.YtmbkhindhndccaaDoorW.PrintMore Go.Proofs.YtmbkhindhndccaaDoor.Sha Go.Proofs.YtmbkhindhndccaaDoor.Pl
set_option linter.unusedVariables false
set_option linter.unusedSimpArgs false

theorem takeGetD_ (l : List Int) (i : Nat) (h : i < l.length) : l.take (i + 1) = l.take i ++ [l.getD i 0] := by
  rw [List.take_add_one]; simp [List.getD_eq_getElem?_getD, h]
/-- Bytes, and what is put behind them. -/
def padI (l : List Int) : List Int := l ++ 128 :: (List.replicate (noughts (l.length % 64)) 0 ++ lenBs ((8 * l.length : Nat) : Int) 8)
theorem lenBs_len (L : Int) (j : Nat) : (lenBs L j).length = j := by simp [lenBs]
theorem padI_len (l : List Int) : ∃ n, (padI l).length = 64 * n := by
  refine ⟨(padI l).length / 64, ?_⟩
  have : (padI l).length = l.length + 1 + noughts (l.length % 64) + 8 := by simp [padI, lenBs_len]; omega
  have h2 : (padI l).length % 64 = 0 := by rw [this]; unfold noughts; omega
  omega
theorem whole0 (l : List Int) (hl : l.length ≤ 1000000) (k j : Nat) (hj : j < noughts (l.length % 64)) :
    spec_l1Whole.l0 (k + 1) l (l ++ 128 :: List.replicate j 0) = spec_l1Whole.l0 k l (l ++ 128 :: List.replicate (j + 1) 0) := by
  have e : (l ++ 128 :: List.replicate j (0 : Int)).length = l.length + 1 + j := by simp; omega
  rw [spec_l1Whole.l0, e, if_neg (by unfold noughts at hj; omega), if_pos (by unfold noughts at hj; omega)]
  congr 1
  rw [rep_succ]; simp
theorem whole1 (b : List Int) (L : Int) (hb : b.length ≤ 2000000) (k j : Nat) (hj : j < 8) :
    spec_l1Whole.l1 (k + 1) (b ++ lenBs L j) L (7 - (j : Int)) = spec_l1Whole.l1 k (b ++ lenBs L (j + 1)) L (7 - ((j + 1 : Nat) : Int)) := by
  have w8 : wrap64 (8 * (7 - (j : Int))) = ((56 - 8 * j : Nat) : Int) := by unfold wrap64; omega
  have w1 : wrap64 (7 - (j : Int) - 1) = 7 - ((j + 1 : Nat) : Int) := by unfold wrap64; omega
  rw [spec_l1Whole.l1, if_pos (by omega), w8, w1, if_pos (by omega), if_pos (by rw [List.length_append, lenBs_len]; omega)]
  congr 1
  rw [lenBs_succ, List.append_assoc]
  congr 2
  simp only [shr, lenB, Int.toNat_natCast]
  rw [Nat.min_eq_left (by show 56 - 8 * j ≤ 64; omega)]
theorem whole_ok (l : List Int) (hl : l.length ≤ 1000000) : spec_l1Whole.f 74 l = some (padI l) := by
  have hN : noughts (l.length % 64) ≤ 63 := by unfold noughts; omega
  have hL : IntKind.u64.wrap (wrap64 (8 * (l.length : Int))) = ((8 * l.length : Nat) : Int) := by rw [IntKind.wrap_u64]; unfold wrap64; omega
  unfold spec_l1Whole.f
  simp only [Option.bind_some, List.nil_append]
  rw [if_pos (by simp; omega), if_pos (by omega)]
  have e1 := iter (fun k j => spec_l1Whole.l0 k l (l ++ 128 :: List.replicate j 0)) 1 0 (noughts (l.length % 64)) (fun k j _ hj => whole0 l hl k j hj) (noughts (l.length % 64)) 0 (74 - noughts (l.length % 64)) (by omega) (by omega)
  rw [show 74 - noughts (l.length % 64) + 1 * noughts (l.length % 64) = 74 by omega] at e1
  refine e1.trans ?_
  obtain ⟨k, hk⟩ : ∃ k, 74 - noughts (l.length % 64) = k + 10 := ⟨64 - noughts (l.length % 64), by omega⟩
  have e3 : (l ++ 128 :: List.replicate (noughts (l.length % 64)) (0 : Int)).length = l.length + 1 + noughts (l.length % 64) := by simp; omega
  show spec_l1Whole.l0 (74 - noughts (l.length % 64)) l (l ++ 128 :: List.replicate (noughts (l.length % 64)) 0) = _
  rw [hk, spec_l1Whole.l0, e3, if_pos (by unfold noughts; omega), hL]
  have e2 := iter (fun k j => spec_l1Whole.l1 k ((l ++ 128 :: List.replicate (noughts (l.length % 64)) 0) ++ lenBs ((8 * l.length : Nat) : Int) j) ((8 * l.length : Nat) : Int) (7 - (j : Int))) 1 0 8 (fun k j _ hj => whole1 _ _ (by rw [e3]; omega) k j hj) 8 0 (k + 1) rfl (by omega)
  have e4 : (l ++ 128 :: List.replicate (noughts (l.length % 64)) 0) ++ lenBs ((8 * l.length : Nat) : Int) 0 = l ++ 128 :: List.replicate (noughts (l.length % 64)) 0 := by simp [lenBs]
  simp only [e4] at e2
  refine (show _ = spec_l1Whole.l1 (k + 1 + 1 * 8) (l ++ 128 :: List.replicate (noughts (l.length % 64)) 0) ((8 * l.length : Nat) : Int) (7 - ((0 : Nat) : Int)) from rfl).trans (e2.trans ?_)
  rw [spec_l1Whole.l1, if_neg (by decide)]
  simp [padI]

/-! ### The rounds of a block -/
theorem W_S0 : ∀ x ∈ shS0, Sha.W x := by intro x h; simp only [shS0, List.mem_cons, List.not_mem_nil, or_false] at h; rcases h with rfl | rfl | rfl | rfl | rfl | rfl | rfl | rfl <;> exact ⟨by decide, by decide⟩
theorem W_K0 : ∀ i, Sha.W (shK0.getD i 0) := by
  intro i
  by_cases h : i < 64
  · have : ∀ j : Fin 64, 0 ≤ shK0.getD j.val 0 ∧ shK0.getD j.val 0 < 4294967296 := by decide +kernel
    exact this ⟨i, h⟩
  · rw [List.getD_eq_getElem?_getD, List.getElem?_eq_none (by show shK0.length ≤ i; have : shK0.length = 64 := rfl; omega)]; exact W_zero
theorem WQ_rnd (ws : List Int) {q : St8} (h : WQ q) : ∀ n, WQ (rndI ws n q)
  | 0 => h
  | n + 1 => (WQ_rnd ws h n).step _ _
theorem rounds3 (x4 x6 ws : List Int) (x9 : Int) (q : St8) (hq : WQ q) (hw : ∀ x ∈ ws, Sha.W x) (hl : ws.length = 64) (k i : Nat) (hi : i < 64) :
    spec_l1Sum.l3 (k + 1) x4 x6 shK0 x9 ws (rndI ws i q).l (i : Int) = spec_l1Sum.l3 k x4 x6 shK0 x9 ws (rndI ws (i + 1) q).l ((i + 1 : Nat) : Int) := by
  have w1 : wrap64 ((i : Int) + 1) = ((i + 1 : Nat) : Int) := by unfold wrap64; omega
  rw [spec_l1Sum.l3, if_pos (by omega), if_pos (by omega), if_pos (by show (i : Int) < ((64 : Nat) : Int); omega), if_pos (by rw [hl]; omega), rdD, rdD, step_eq (WQ_rnd ws hq i) (W_K0 i) (W_getD hw i), w1]
  rfl
theorem adds4 (x4 x6 x7 : List Int) (x9 : Int) (q : St8) (hq : WQ q) (hw : ∀ x ∈ x4, Sha.W x) (hl : x4.length = 8) (k i : Nat) (hi : i < 8) :
    spec_l1Sum.l4 (k + 1) ((outI x4 q).take i ++ x4.drop i) x6 x7 x9 q.l (i : Int) = spec_l1Sum.l4 k ((outI x4 q).take (i + 1) ++ x4.drop (i + 1)) x6 x7 x9 q.l ((i + 1 : Nat) : Int) := by
  have w1 : wrap64 ((i : Int) + 1) = ((i + 1 : Nat) : Int) := by unfold wrap64; omega
  have ho : (outI x4 q).length = x4.length := by simp [outI, hl]
  have hlen : ((outI x4 q).take i ++ x4.drop i).length = 8 := by simp [ho, hl]; omega
  have hx := W_getD hw i
  have hy : Sha.W (q.l.getD i 0) := W_getD (by intro x h; simp only [St8.l, List.mem_cons, List.not_mem_nil, or_false] at h; rcases h with rfl | rfl | rfl | rfl | rfl | rfl | rfl | rfl <;> first | exact hq.a | exact hq.b | exact hq.c | exact hq.d | exact hq.e | exact hq.f | exact hq.g | exact hq.h) i
  have hs : (outI x4 q).getD i 0 = (x4.getD i 0 + q.l.getD i 0) % 4294967296 := by
    rw [outI, show q.l = [q.a, q.b, q.c, q.d, q.e, q.f, q.g, q.h] from rfl, List.getD_eq_getElem?_getD, List.getElem?_zipWith, List.getD_eq_getElem?_getD, List.getD_eq_getElem?_getD, List.getElem?_eq_getElem (by omega), List.getElem?_eq_getElem (by exact hi)]; rfl
  have ht : Int.tmod (IntKind.u64.wrap (x4.getD i 0 + q.l.getD i 0)) 4294967296 = (outI x4 q).getD i 0 := by
    obtain ⟨p1, p2⟩ := hx; obtain ⟨p3, p4⟩ := hy
    rw [hs, IntKind.wrap_u64, tm _ (by omega)]; omega
  rw [spec_l1Sum.l4, if_pos (by omega), if_pos (by omega), hlen, if_pos (by omega), if_pos (by show (i : Int) < ((8 : Nat) : Int); omega), rdD, rdD, part_at _ _ _ (by omega) ho]
  simp only [spec_l1Word.f, Option.bind_some]
  rw [ht, w1, Int.toNat_natCast, part_set _ _ _ (by omega) ho]
def qOf (st : List Int) : St8 := ⟨st.getD 0 0, st.getD 1 0, st.getD 2 0, st.getD 3 0, st.getD 4 0, st.getD 5 0, st.getD 6 0, st.getD 7 0⟩
theorem qOf_l {st : List Int} (h : st.length = 8) : (qOf st).l = st := by
  obtain ⟨a0, a1, a2, a3, a4, a5, a6, a7, rfl⟩ := eight h; rfl
theorem WQ_qOf {st : List Int} (h : ∀ x ∈ st, Sha.W x) : WQ (qOf st) := ⟨W_getD h 0, W_getD h 1, W_getD h 2, W_getD h 3, W_getD h 4, W_getD h 5, W_getD h 6, W_getD h 7⟩
theorem mixI_len {st blk : List Int} (h : st.length = 8) : (mixI st blk).length = 8 := by simp [mixI, outI, h]
theorem W_mixI (st blk : List Int) : ∀ x ∈ mixI st blk, Sha.W x := by
  intro x hx
  unfold mixI outI at hx
  obtain ⟨i, hi⟩ := List.mem_iff_getElem?.1 hx
  rw [List.getElem?_zipWith] at hi
  split at hi
  · obtain rfl := Option.some.inj hi; exact Sha.W_mod _
  · cases hi
theorem block2 (h x6 : List Int) (n : Nat) (hh : h.length = 8) (hw : ∀ x ∈ h, Sha.W x) (hB : ∀ x ∈ x6, Byt x) (N : Nat) (hx : x6.length = 64 * N) (hN : N ≤ 100000) (hn : n < N) (k : Nat) :
    spec_l1Sum.l2 (k + 75) h x6 shK0 ((64 * n : Nat) : Int) = spec_l1Sum.l2 k (mixI h ((x6.drop (64 * n)).take 64)) x6 shK0 ((64 * (n + 1) : Nat) : Int) := by
  have w1 : wrap64 (((64 * n : Nat) : Int) + 64) = ((64 * (n + 1) : Nat) : Int) := by unfold wrap64; omega
  have hb : ((x6.take (64 * (n + 1))).drop (64 * n)) = (x6.drop (64 * n)).take 64 := by
    rw [List.drop_take]; congr 1; omega
  have hbl : ((x6.drop (64 * n)).take 64).length = 64 := by simp; omega
  have hbB : ∀ x ∈ (x6.drop (64 * n)).take 64, Byt x := fun x h => hB x (List.mem_of_mem_drop (List.mem_of_mem_take h))
  have hwd : spec_l1Words.f (k + 74) ((x6.drop (64 * n)).take 64) = some _ := at_rounds (spec_l1Words.mono _) (k := 66) (by omega) (words_ok _ hbl hbB)
  rw [show k + 75 = (k + 74) + 1 from rfl, spec_l1Sum.l2, if_pos (by omega), if_pos (by omega), w1, if_pos (by omega), if_pos (by omega), Int.toNat_natCast, Int.toNat_natCast, hb, hwd]
  simp only [Option.bind_some, List.nil_append]
  rw [if_pos (by simp [hh])]
  have e3 := iter (fun k i => spec_l1Sum.l3 k h x6 shK0 ((64 * n : Nat) : Int) (schI ((x6.drop (64 * n)).take 64) 64) (rndI (schI ((x6.drop (64 * n)).take 64) 64) i (qOf h)).l (i : Int)) 1 0 64 (fun k i _ hi => rounds3 _ _ _ _ _ (WQ_qOf hw) (W_sch _ _) (schI_length _ _) k i hi) 64 0 (k + 10) rfl (by omega)
  have e0 : (rndI (schI ((x6.drop (64 * n)).take 64) 64) 0 (qOf h)).l = h := qOf_l hh
  simp only [e0] at e3
  refine e3.trans ?_
  show spec_l1Sum.l3 ((k + 9) + 1) h x6 shK0 _ _ _ ((64 : Nat) : Int) = _
  rw [spec_l1Sum.l3, if_neg (by decide)]
  have e4 := iter (fun k i => spec_l1Sum.l4 k ((outI h (rndI (schI ((x6.drop (64 * n)).take 64) 64) 64 (qOf h))).take i ++ h.drop i) x6 shK0 ((64 * n : Nat) : Int) (rndI (schI ((x6.drop (64 * n)).take 64) 64) 64 (qOf h)).l (i : Int)) 1 0 8 (fun k i _ hi => adds4 h x6 shK0 _ _ (WQ_rnd _ (WQ_qOf hw) 64) hw hh k i hi) 8 0 (k + 1) rfl (by omega)
  simp only [List.take_zero, List.drop_zero, List.nil_append] at e4
  refine e4.trans ?_
  have ho : (outI h (rndI (schI ((x6.drop (64 * n)).take 64) 64) 64 (qOf h))).length = 8 := by simp [outI, hh]
  have hd : h.drop 8 = [] := List.drop_eq_nil_of_le (by omega)
  rw [List.take_of_length_le (by omega), hd, List.append_nil, spec_l1Sum.l4, if_neg (by decide), w1]
  rfl
theorem blocks_snoc (mix : List Int → List Int → List Int) : ∀ (n : Nat) (h l : List Int), blocksF mix (n + 1) h l = mix (blocksF mix n h l) ((l.drop (64 * n)).take 64)
  | 0, h, l => by simp [blocksF]
  | n + 1, h, l => by
    have := blocks_snoc mix n (mix h (l.take 64)) (l.drop 64)
    rw [blocksF, this]
    rw [show blocksF mix (n + 1) h l = blocksF mix n (mix h (l.take 64)) (l.drop 64) from rfl, List.drop_drop, show 64 + 64 * n = 64 * (n + 1) by omega]
theorem blocks_good (l : List Int) : ∀ n, (blocksF mixI n shS0 l).length = 8 ∧ ∀ x ∈ blocksF mixI n shS0 l, Sha.W x
  | 0 => ⟨rfl, W_S0⟩
  | n + 1 => by rw [blocks_snoc]; exact ⟨mixI_len (blocks_good l n).1, W_mixI _ _⟩
theorem padI_byt {l : List Int} (h : ∀ x ∈ l, Byt x) : ∀ x ∈ padI l, Byt x := by
  intro x hx
  simp only [padI, List.mem_append, List.mem_cons, List.mem_replicate] at hx
  rcases hx with hx | rfl | ⟨_, rfl⟩ | hx
  · exact h x hx
  · exact ⟨by decide, by decide⟩
  · exact ⟨by decide, by decide⟩
  · obtain ⟨j, _, rfl⟩ := List.mem_map.1 hx
    unfold lenB Byt; omega
theorem dig5 (h : List Int) (hh : h.length = 8) (k i : Nat) (hi : i < 8) : spec_l1Sum.l5 (k + 1) h (digI (h.take i)) (i : Int) = spec_l1Sum.l5 k h (digI (h.take (i + 1))) ((i + 1 : Nat) : Int) := by
  have w1 : wrap64 ((i : Int) + 1) = ((i + 1 : Nat) : Int) := by unfold wrap64; omega
  rw [spec_l1Sum.l5, if_pos (by omega), if_pos (by omega), hh, if_pos (by omega), w1]
  simp only [Option.bind_some]
  rw [if_pos (by rw [digI_len, List.length_take, hh]; simp; omega), digI_succ h i (by omega), rdD]
  rfl
theorem shP_len : shP.length = 64 := rfl
theorem sum0 (l : List Int) (k : Nat) (hk : 50 ≤ k) : spec_l1Sum.l0 ((k + 1) + 1 * 8) l shP [] ((0 : Nat) : Int) = (spec_l1Whole.f k l).bind fun t => spec_l1Sum.l1 k shP shS0 t [] 0 := by
  have e0 := iter (fun k i => spec_l1Sum.l0 k l shP (shS0.take i) (i : Int)) 1 50 8 (fun k i hk hi => by
    have w1 : wrap64 ((i : Int) + 1) = ((i + 1 : Nat) : Int) := by unfold wrap64; omega
    have hr0 : spec_l1Root.f 50 (shP.getD i 0) 2 = some (shS0.getD i 0) := root2 ⟨i, hi⟩
    have hr : spec_l1Root.f k (shP.getD i 0) 2 = some (shS0.getD i 0) := at_rounds (g := fun k => spec_l1Root.f k (shP.getD i 0) 2) (spec_l1Root.mono _ _) hk hr0
    show spec_l1Sum.l0 (k + 1) l shP (shS0.take i) (i : Int) = spec_l1Sum.l0 k l shP (shS0.take (i + 1)) ((i + 1 : Nat) : Int)
    rw [spec_l1Sum.l0, if_pos (by omega), if_pos (by omega), if_pos (by rw [shP_len]; omega), rdD, hr, Option.bind_some, if_pos (by rw [List.length_take]; omega), w1, takeGetD_ shS0 i hi]) 8 0 (k + 1) rfl (by omega)
  refine Eq.trans e0 ?_
  show spec_l1Sum.l0 (k + 1) l shP (shS0.take 8) ((8 : Nat) : Int) = _
  rw [spec_l1Sum.l0, if_neg (by decide)]
  rfl
theorem sum1 (X : List Int) (k : Nat) (hk : 50 ≤ k) : spec_l1Sum.l1 ((k + 1) + 1 * 64) shP shS0 X [] ((0 : Nat) : Int) = spec_l1Sum.l2 k shS0 X shK0 ((64 * 0 : Nat) : Int) := by
  have e1 := iter (fun k i => spec_l1Sum.l1 k shP shS0 X (shK0.take i) (i : Int)) 1 50 64 (fun k i hk hi => by
    have w1 : wrap64 ((i : Int) + 1) = ((i + 1 : Nat) : Int) := by unfold wrap64; omega
    have hr0 : spec_l1Root.f 50 (shP.getD i 0) 3 = some (shK0.getD i 0) := root3 ⟨i, hi⟩
    have hr : spec_l1Root.f k (shP.getD i 0) 3 = some (shK0.getD i 0) := at_rounds (g := fun k => spec_l1Root.f k (shP.getD i 0) 3) (spec_l1Root.mono _ _) hk hr0
    show spec_l1Sum.l1 (k + 1) shP shS0 X (shK0.take i) (i : Int) = spec_l1Sum.l1 k shP shS0 X (shK0.take (i + 1)) ((i + 1 : Nat) : Int)
    rw [spec_l1Sum.l1, if_pos (by omega), if_pos (by omega), if_pos (by rw [shP_len]; omega), rdD, hr, Option.bind_some, if_pos (by rw [List.length_take]; omega), w1, takeGetD_ shK0 i hi]) 64 0 (k + 1) rfl (by omega)
  refine Eq.trans e1 ?_
  show spec_l1Sum.l1 (k + 1) shP shS0 X (shK0.take 64) ((64 : Nat) : Int) = _
  rw [spec_l1Sum.l1, if_neg (by decide), show shK0.take 64 = shK0 from rfl]
  rfl
theorem sum2 (l : List Int) (hB : ∀ x ∈ l, Byt x) (N : Nat) (hN : (padI l).length = 64 * N) (hNl : N ≤ 100000) (k : Nat) : spec_l1Sum.l2 (((k + 1) + 1 * 8 + 1) + 75 * N) shS0 (padI l) shK0 ((64 * 0 : Nat) : Int) = some (digI (blocksF mixI N shS0 (padI l))) := by
  have e2 := iter (fun k n => spec_l1Sum.l2 k (blocksF mixI n shS0 (padI l)) (padI l) shK0 ((64 * n : Nat) : Int)) 75 0 N (fun k n _ hn => by
    have := block2 (blocksF mixI n shS0 (padI l)) (padI l) n (blocks_good _ n).1 (blocks_good _ n).2 (padI_byt hB) N hN hNl hn k
    rw [this, ← blocks_snoc mixI]) N 0 ((k + 1) + 1 * 8 + 1) (by omega) (by omega)
  refine Eq.trans e2 ?_
  show spec_l1Sum.l2 (((k + 1) + 1 * 8) + 1) _ (padI l) shK0 ((64 * N : Nat) : Int) = _
  rw [spec_l1Sum.l2, hN, if_neg (by omega)]
  have e5 := iter (fun k i => spec_l1Sum.l5 k (blocksF mixI N shS0 (padI l)) (digI ((blocksF mixI N shS0 (padI l)).take i)) (i : Int)) 1 0 8 (fun k i _ hi => dig5 _ (blocks_good _ N).1 k i hi) 8 0 (k + 1) rfl (by omega)
  refine Eq.trans e5 ?_
  show spec_l1Sum.l5 (k + 1) _ (digI ((blocksF mixI N shS0 (padI l)).take 8)) ((8 : Nat) : Int) = _
  rw [spec_l1Sum.l5, if_neg (by decide), List.take_of_length_le (by rw [(blocks_good _ N).1]; omega)]
theorem sum_blocks (l : List Int) (hl : l.length ≤ 1000000) (hB : ∀ x ∈ l, Byt x) (N : Nat) (hN : (padI l).length = 64 * N) : ∃ k, spec_l1Sum.f k l = some (digI (blocksF mixI N shS0 (padI l))) := by
  have hNl : N ≤ 100000 := by
    have : (padI l).length = l.length + 1 + noughts (l.length % 64) + 8 := by simp [padI, lenBs_len]; omega
    unfold noughts at this; omega
  obtain ⟨K2, h2⟩ : ∃ K2, K2 = ((400 + 1) + 1 * 8 + 1) + 75 * N := ⟨_, rfl⟩
  have e2 := sum2 l hB N hN hNl 400
  rw [← h2] at e2
  have e1 := sum1 (padI l) K2 (by omega)
  rw [e2] at e1
  obtain ⟨K1, h1⟩ : ∃ K1, K1 = (K2 + 1) + 1 * 64 := ⟨_, rfl⟩
  rw [← h1] at e1
  have hwh : spec_l1Whole.f K1 l = some (padI l) := at_rounds (g := fun k => spec_l1Whole.f k l) (spec_l1Whole.mono l) (k := 74) (by omega) (whole_ok l hl)
  have e0 := sum0 l K1 (by omega)
  rw [hwh, Option.bind_some] at e0
  obtain ⟨K0, h0⟩ : ∃ K0, K0 = (K1 + 1) + 1 * 8 := ⟨_, rfl⟩
  rw [← h0] at e0
  have hp : spec_l1Primes.f K0 64 = some shP := at_rounds (g := fun k => spec_l1Primes.f k 64) (spec_l1Primes.mono 64) (k := 400) (by omega) primes_ok
  refine ⟨K0, ?_⟩
  unfold spec_l1Sum.f
  rw [hp, Option.bind_some]
  exact Eq.trans e0 e1
/-- What the program's hash comes to is what the reference's does. -/
theorem shaF_blocks (l : List Int) (T : Int) (hT : IntKind.u64.wrap (T * 8) = ((8 * l.length : Nat) : Int)) (N : Nat) (hN : (padI l).length = 64 * N) : shaF mixI l T = digI (blocksF mixI N shS0 (padI l)) := by
  have hu : (writeF mixI (shS0, List.replicate 64 0, 0) l).2.2 = l.length % 64 := by
    have := writeF_used mixI l (shS0, List.replicate 64 0, 0) (by decide)
    simpa using this
  unfold shaF
  rw [hT, hu, ← writeF_append]
  obtain ⟨b, h1, _⟩ := writeF_blocks mixI N (padI l) shS0 (List.replicate 64 0) (by simp) hN
  show digI (writeF mixI _ (padI l)).1 = _
  rw [h1]
theorem sum_ok (l : List Int) (hl : l.length ≤ 1000000) (hB : ∀ x ∈ l, Byt x) (T : Int) (hT : IntKind.u64.wrap (T * 8) = ((8 * l.length : Nat) : Int)) : ∃ k, spec_l1Sum.f k l = some (shaF mixI l T) := by
  obtain ⟨N, hN⟩ := padI_len l
  rw [shaF_blocks l T hT N hN]
  exact sum_blocks l hl hB N hN
theorem totN0 (n : Nat) (h : n ≤ 1000000) : totN 0 n = (n : Int) := by unfold totN; simp only [IntKind.wrap_u64]; omega
theorem sum_ok0 (l : List Int) (hl : l.length ≤ 1000000) (hB : ∀ x ∈ l, Byt x) : ∃ k, spec_l1Sum.f k l = some (shaF mixI l (totN 0 l.length)) :=
  sum_ok l hl hB _ (by rw [totN0 _ hl, IntKind.wrap_u64]; omega)
end Go.Proofs.YtmbkhindhndccaaDoor.X
namespace Go.Proofs.YtmbkhindhndccaaDoor.X
open Go.RowKit Go.Proofs.YtmbkhindhndccaaDoorW.PrintWords Go.Proofs.YtmbkhindhndccaaDoor.Pl
set_option linter.unusedSimpArgs false

end Go.Proofs.YtmbkhindhndccaaDoor.X
namespace Go.Proofs.YtmbkhindhndccaaDoor.X
open Go.RowKit Go.Proofs.YtmbkhindhndccaaDoorW.PrintWords Go.Proofs.YtmbkhindhndccaaDoor.Pl Go.Proofs.YtmbkhindhndccaaDoor.Sha
set_option linter.unusedSimpArgs false
set_option linter.unusedVariables false
theorem xor8_byt {a : Int} (h : Byt a) (c : Int) (hc : 0 ≤ c ∧ c < 256) : Byt (bits .xor .u8 a c) := by
  obtain ⟨h0, h1⟩ := h
  rw [u8_xor a c h0 h1 hc.1 hc.2]
  have : a.toNat ^^^ c.toNat < 2 ^ 8 := Nat.xor_lt_two_pow (by omega) (by omega)
  unfold Byt; omega
theorem digI_byt (st : List Int) : ∀ x ∈ digI st, Byt x := by
  intro x hx
  obtain ⟨v, _, hv⟩ := List.mem_flatMap.1 hx
  simp only [digB, List.mem_cons, List.not_mem_nil, or_false] at hv
  unfold Byt
  rcases hv with rfl | rfl | rfl | rfl <;> omega
theorem shaF_byt (l : List Int) (T : Int) : ∀ x ∈ shaF mixI l T, Byt x := digI_byt _
theorem padX_byt {key : List Int} (h : ∀ x ∈ key, Byt x) : ∀ x ∈ padX key, Byt x := by
  unfold padX; split
  · exact h
  · exact shaF_byt _ _
theorem padK_byt {key : List Int} (h : ∀ x ∈ key, Byt x) : ∀ x ∈ padK key, Byt x := by
  intro x hx
  rcases List.mem_append.1 hx with hx | hx
  · exact padX_byt h x hx
  · obtain rfl := (List.mem_replicate.1 hx).2; exact ⟨by decide, by decide⟩
theorem macIn_byt {key : List Int} (h : ∀ x ∈ key, Byt x) : ∀ x ∈ macIn key, Byt x := by
  intro x hx
  obtain ⟨b, hb, rfl⟩ := List.mem_map.1 hx
  exact xor8_byt (padK_byt h b hb) 54 ⟨by decide, by decide⟩
theorem macOut_byt {key : List Int} (h : ∀ x ∈ key, Byt x) : ∀ x ∈ macOut key, Byt x := by
  intro x hx
  obtain ⟨b, hb, rfl⟩ := List.mem_map.1 hx
  exact xor8_byt (padK_byt h b hb) 92 ⟨by decide, by decide⟩
theorem macL0 (x1 : List Int) (r : List Int) : ∀ (n : Nat) (x5 : List Int), x5.length + n = 64 → Ev (fun k => spec_ShaMac.l1 k x1 (x5 ++ List.replicate n 0) [] [] 0) r → Ev (fun k => spec_ShaMac.l0 k x1 x5) r
  | 0, x5, hl, h => by
    refine Ev.step (f := fun k => spec_ShaMac.l1 k x1 x5 [] [] 0) (fun k => ?_) (by simpa using h)
    rw [spec_ShaMac.l0, if_neg (by omega)]
  | n + 1, x5, hl, h => by
    have ih := macL0 x1 r n (x5 ++ [0]) (by simp; omega) (by rw [List.append_assoc]; exact h)
    refine Ev.step (f := fun k => spec_ShaMac.l0 k x1 (x5 ++ [0])) (fun k => ?_) ih
    rw [spec_ShaMac.l0, if_pos (by omega), if_pos (by omega)]
theorem macL1 (x1 P : List Int) (hP : P.length = 64) (r : List Int)
    (h : Ev (fun k => if (P.map fun b => bits .xor .u8 b 54).length + x1.length < 140737488355328 then ((spec_l1Sum.f k ((P.map fun b => bits .xor .u8 b 54) ++ x1)).bind fun t133 => (if (P.map fun b => bits .xor .u8 b 92).length + t133.length < 140737488355328 then ((spec_l1Sum.f k ((P.map fun b => bits .xor .u8 b 92) ++ t133)).bind fun t139 => (some t139)) else none)) else none) r) :
    ∀ (n i : Nat), i + n = 64 → Ev (fun k => spec_ShaMac.l1 k x1 P ((P.map fun b => bits .xor .u8 b 54).take i) ((P.map fun b => bits .xor .u8 b 92).take i) (i : Int)) r
  | 0, i, hi => by
    obtain rfl : i = 64 := by omega
    refine Ev.step (fun k => ?_) h
    rw [spec_ShaMac.l1, if_neg (by decide), List.take_of_length_le (by simp [hP]), List.take_of_length_le (by simp [hP])]
  | n + 1, i, hi => by
    have ih := macL1 x1 P hP r h n (i + 1) (by omega)
    have w1 : wrap64 ((i : Int) + 1) = ((i + 1 : Nat) : Int) := by unfold wrap64; omega
    refine Ev.step (fun k => ?_) ih
    rw [spec_ShaMac.l1, if_pos (by omega), if_pos (by omega), hP, if_pos (by omega), if_pos (by rw [List.length_take]; omega), if_pos (by rw [List.length_take]; omega), w1, takeGetD_ _ i (by simp [hP]; omega), takeGetD_ _ i (by simp [hP]; omega), map_at _ _ _ (by omega), map_at _ _ _ (by omega)]
    rfl
theorem totN2 (n : Nat) (h : n ≤ 1000000) : IntKind.u64.wrap (totN (totN 0 64) n * 8) = ((8 * (64 + n) : Nat) : Int) := by unfold totN; simp only [IntKind.wrap_u64]; omega
theorem mac_sum_ev (a b : List Int) (ha : a.length = 64) (hb : b.length ≤ 900000) (hA : ∀ x ∈ a, Byt x) (hB : ∀ x ∈ b, Byt x) : Ev (fun k => spec_l1Sum.f k (a ++ b)) (shaF mixI (a ++ b) (totN (totN 0 64) b.length)) := by
  obtain ⟨k, hk⟩ := sum_ok (a ++ b) (by simp; omega) (fun x hx => (List.mem_append.1 hx).elim (hA x) (hB x)) (totN (totN 0 64) b.length) (by rw [totN2 _ (by omega), List.length_append, ha])
  exact Ev.of (spec_l1Sum.mono _) hk
theorem mac_ev (key list : List Int) (hk : ∀ x ∈ key, Byt x) (hl : ∀ x ∈ list, Byt x) (h0 : key.length ≤ 500) (h1 : list.length ≤ 500) : Ev (fun k => spec_ShaMac.f k key list) (macF key list) := by
  have step1 : Ev (fun k => spec_ShaMac.j1 k list (padX key)) (macF key list) := by
    refine Ev.step (f := fun k => spec_ShaMac.l0 k list (padX key)) (fun k => by rw [spec_ShaMac.j1]) ?_
    refine macL0 list _ (64 - (padX key).length) (padX key) (by have := padX_len key; omega) ?_
    refine macL1 list (padK key) (padK_len key) _ ?_ 64 0 rfl
    have e1 := mac_sum_ev (macIn key) list (macIn_len key) (by omega) (macIn_byt hk) hl
    have e2 := mac_sum_ev (macOut key) (shaF mixI (macIn key ++ list) (totN (totN 0 64) list.length)) (macOut_len key) (by rw [shaF_len32]; omega) (macOut_byt hk) (shaF_byt _ _)
    refine Ev.congr (f := fun k => (spec_l1Sum.f k (macIn key ++ list)).bind fun t133 => (if (macOut key).length + t133.length < 140737488355328 then ((spec_l1Sum.f k (macOut key ++ t133)).bind fun t139 => (some t139)) else none)) (fun k => ?_) (Ev.bind e1 ?_)
    · show (if (macIn key).length + list.length < 140737488355328 then _ else none) = _
      rw [if_pos (by rw [macIn_len]; omega)]
      rfl
    · refine Ev.congr (f := fun k => spec_l1Sum.f k (macOut key ++ shaF mixI (macIn key ++ list) (totN (totN 0 64) list.length))) (fun k => ?_) e2
      rw [if_pos (by rw [macOut_len, shaF_len32]; omega)]
      cases spec_l1Sum.f k (macOut key ++ shaF mixI (macIn key ++ list) (totN (totN 0 64) list.length)) <;> rfl
  refine Ev.congr (f := fun k => spec_ShaMac.j0 k key list false) (fun k => ?_) ?_
  · unfold spec_ShaMac.f
    rw [if_neg (by omega), show decide ((list.length : Int) > 500) = false from decide_eq_false (by omega)]
  · by_cases h64 : key.length ≤ 64
    · refine Ev.step (f := fun k => spec_ShaMac.j1 k list key) (fun k => ?_) (by rw [padX, if_pos h64] at step1; exact step1)
      rw [spec_ShaMac.j0, if_neg (by decide)]
      simp only [Option.bind_some, List.nil_append, List.length_nil]
      rw [if_pos (by omega), if_neg (by omega)]
    · obtain ⟨kk, hkk⟩ := sum_ok0 key (by omega) hk
      have e3 : flatP [⟨none, 0, key⟩] = key := by simp [flatP]
      have e4 : padX key = shaF mixI key (totN 0 key.length) := by rw [padX, if_neg h64, e3]; rfl
      rw [e4] at step1
      refine Ev.step (f := fun k => (spec_l1Sum.f k key).bind fun t110 => spec_ShaMac.j1 k list t110) (fun k => ?_) (Ev.bind (Ev.of (spec_l1Sum.mono _) hkk) step1)
      rw [spec_ShaMac.j0, if_neg (by decide)]
      simp only [Option.bind_some, List.nil_append, List.length_nil]
      rw [if_pos (by omega), if_pos (by omega)]
def macR (key list : List Int) : List Int := if key.length ≤ 500 ∧ list.length ≤ 500 then macF key list else []
theorem implMac_ok (key list : List Int) : impl_ShaMac.f key list = some (macR key list) := by
  unfold impl_ShaMac.f macR; split <;> rfl
theorem specMac_ev (key list : List Int) (hk : ∀ x ∈ key, Byt x) (hl : ∀ x ∈ list, Byt x) : Ev (fun k => spec_ShaMac.f k key list) (macR key list) := by
  unfold macR
  by_cases h : key.length ≤ 500 ∧ list.length ≤ 500
  · rw [if_pos h]; exact mac_ev key list hk hl h.1 h.2
  · rw [if_neg h]
    refine Ev.congr (f := fun k => spec_ShaMac.j0 k key list true) (fun k => ?_) (ev_succ ⟨0, fun k _ => by dsimp only; rw [spec_ShaMac.j0, if_pos rfl]⟩)
    unfold spec_ShaMac.f
    by_cases h0 : key.length ≤ 500
    · rw [if_neg (by omega), show decide ((list.length : Int) > 500) = true from decide_eq_true (by omega)]
    · rw [if_pos (by omega)]
theorem macF_len (key list : List Int) : (macF key list).length = 32 := shaF_len32 _ _
theorem ByteOk {n : Int} (h : (Lit.int .u8 n).wf = true) : 0 ≤ n ∧ n ≤ 255 := by
  simp [Lit.wf, IntKind.min, IntKind.max, IntKind.signed, IntKind.bits] at h; omega
end Go.Proofs.YtmbkhindhndccaaDoor.X
namespace Go.Proofs.YtmbkhindhndccaaDoor.X
open Go.RowKit Go.Proofs.YtmbkhindhndccaaDoorW.PrintWords Go.Proofs.YtmbkhindhndccaaDoor.Pl
set_option linter.unusedSimpArgs false
set_option linter.unusedVariables false
theorem bytesN_byt (s : ByteArray) : ∀ x ∈ bytesN s, Byt x := by
  intro x hx
  obtain ⟨u, _, rfl⟩ := List.mem_map.1 hx
  have := u.toNat_lt
  unfold Byt; omega
theorem txtI_93 (W : ByteArray) (l : List Int) (h : ∀ n ∈ l, okI n) (hW : W.size ≤ 5) (hl : l.length ≤ 4) : (txtI W l).size ≤ 93 := by
  have : ∀ (l : List Int) (S : ByteArray), (∀ n ∈ l, okI n) → (l.foldl (fun s n => s ++ numT n) S).size ≤ S.size + 22 * l.length := by
    intro l
    induction l with
    | nil => intro S _; simp
    | cons a l ih =>
      intro S h
      have h1 := ih (S ++ numT a) (fun n hn => h n (List.mem_cons_of_mem _ hn))
      have h2 := h a (List.mem_cons_self ..)
      have h3 := Lib.itoa_length_le a h2.1 h2.2
      rw [ByteArray.size_append, numT_size] at h1
      simp only [List.foldl_cons, List.length_cons]
      omega
  have := this l W h
  unfold txtI
  omega
theorem opT_93 (x : Op) : (opT x).size ≤ 93 := by
  unfold opT opTextF
  split
  · rename_i h
    obtain ⟨h1, h8, hn⟩ := opOk_kind h
    refine txtI_93 _ _ (fun n h => ?_) (formW_len _ (by omega)) (by simp; omega)
    have := hn n (List.mem_of_mem_take h)
    exact ⟨by omega, by omega⟩
  · show 0 ≤ _
    omega
theorem joinT_94 (xs : List ByteArray) (h : ∀ x ∈ xs, x.size ≤ 93) : (joinT xs).size ≤ 94 * xs.length := by
  cases xs with
  | nil => exact Nat.le_refl _
  | cons x r =>
    rw [ba_size, joinT, ba_mk, List.map_cons, Lib.join_cons, List.length_append, Lib.joinTail_length]
    have h0 := h x (List.mem_cons_self ..)
    rw [ba_size] at h0
    have key : ∀ r : List ByteArray, (∀ x ∈ r, x.size ≤ 93) → Lib.lens (r.map (·.data.toList)) ≤ 93 * r.length := by
      intro r
      induction r with
      | nil => intro _; exact Nat.le_refl _
      | cons y r ih =>
        intro h
        have h1 := ih (fun z hz => h z (List.mem_cons_of_mem _ hz))
        have h2 := h y (List.mem_cons_self ..)
        rw [ba_size] at h2
        simp only [Lib.lens, List.map_cons, List.sum_cons, List.length_cons] at h1 ⊢
        omega
    have := key r (fun z hz => h z (List.mem_cons_of_mem _ hz))
    simp only [List.length_map, List.length_cons, List.length_nil]
    omega
theorem opsF_470 (l : List Op) (h : l.length ≤ 5) : (opsF l).size ≤ 470 := by
  unfold opsF
  split
  · show 1 ≤ _
    omega
  · have := joinT_94 (l.map opT) (fun x hx => by obtain ⟨y, _, rfl⟩ := List.mem_map.1 hx; exact opT_93 y)
    rw [List.length_map] at this
    omega
theorem itoa_4 (n : Nat) (h : n ≤ 9999) : (Lib.itoa (n : Int)).length ≤ 4 := by
  rw [Lib.itoa_nonneg, Lib.decDigits_length]
  by_cases h1 : n < 10
  · rw [Lib.nDigits_small h1]; omega
  rw [Lib.nDigits_big h1]
  by_cases h2 : n / 10 < 10
  · rw [Lib.nDigits_small h2]; omega
  rw [Lib.nDigits_big h2]
  by_cases h3 : n / 10 / 10 < 10
  · rw [Lib.nDigits_small h3]; omega
  rw [Lib.nDigits_big h3, Lib.nDigits_small (by omega)]
  omega
theorem askF_500 (l : List Op) (path : ByteArray) (till : Int) : (askF l path till).size ≤ 485 := by
  unfold askF
  split
  · rename_i h
    obtain ⟨h5, hp, ht0, ht1⟩ := askB_parts h
    obtain ⟨n, rfl⟩ := Int.eq_ofNat_of_zero_le ht0
    have ho := opsF_470 l h5
    have hi := itoa_4 n (by omega)
    unfold askI
    simp only [ByteArray.size_append]
    show 1 + _ + 1 + _ + 3 + (Lib.itoa (n : Int)).toArray.size ≤ _
    rw [List.size_toArray]
    omega
  · show 0 ≤ _
    omega
theorem askF_ne {l : List Op} {path : ByteArray} {till : Int} (h : askB l path till = true) : 0 < (askF l path till).size := by
  unfold askF
  rw [if_pos h]
  unfold askI
  simp only [ByteArray.size_append]
  show 0 < 1 + _ + 1 + _ + 3 + _
  omega
/-- The signature of a text. -/
def signF (key : List Int) (s : ByteArray) : ByteArray := hexF ((macF key (bytesN s)).take 8)
theorem signF_size (key : List Int) (s : ByteArray) : (signF key s).size = 16 := by
  unfold signF
  rw [hexF_size, List.length_take, macF_len]
  omega
theorem macF_byt {key list : List Int} (h : True) : ∀ x ∈ macF key list, 0 ≤ x ∧ x ≤ 255 := by
  intro x hx
  have := shaF_byt _ _ x hx
  unfold Byt at this
  omega
theorem l7Sign_tot {key : List Int} (hk : ∀ x ∈ key, Byt x) (h0 : key.length ≤ 500) (s : ByteArray) (hs : s.size ≤ 500) : Tot (fun k => spec_l7Sign.f k key s) (fun r => r = signF key s) := by
  unfold spec_l7Sign.f
  refine Tot.pos (by omega) ?_
  have hm : macR key (bytesN s) = macF key (bytesN s) := by unfold macR; rw [if_pos ⟨h0, by rw [bytesN_len]; exact hs⟩]
  have e := specMac_ev key (bytesN s) hk (bytesN_byt s)
  rw [hm] at e
  refine Tot.bind (Tot.of_ev e) ?_; rintro _ rfl
  refine Tot.pos (by rw [macF_len]; omega) ?_
  exact spec_HexText_tot _ (fun y hy => macF_byt trivial y (List.mem_of_mem_take hy)) (by rw [List.length_take]; omega)
def urlF (key : List Int) (l : List Op) (path : ByteArray) (till : Int) : ByteArray := if askB l path till = true ∧ key.length ≤ 500 then (askF l path till ++ ⟨#[38, 115, 61]⟩) ++ signF key (askF l path till) else ⟨#[]⟩
theorem specUrl_tot {key : List Int} (hk : ∀ x ∈ key, Byt x) (l : List Op) (hl : l.length ≤ 4611686018427387904) (path : ByteArray) (till : Int) : Tot (fun k => spec_UrlText.f k key l path till) (fun r => r = urlF key l path till) := by
  unfold spec_UrlText.f urlF
  refine Tot.bind (Tot.of_ev (spec_AskOk_ev l hl path till)) ?_
  rintro _ rfl
  cases h : askB l path till with
  | false =>
    refine Tot.neg (by decide) (Tot.succ ?_)
    simp only [spec_UrlText.j0]
    exact Tot.pos trivial (Tot.ret (by rw [if_neg (fun h => absurd h.1 (by decide))]))
  | true =>
    refine Tot.pos rfl (Tot.succ ?_)
    simp only [spec_UrlText.j0]
    by_cases h5 : key.length ≤ 500
    · refine Tot.neg (by rw [decide_eq_true_eq]; omega) ?_
      have hsz := askF_500 l path till
      refine Tot.bind (spec_AskText_tot l hl path till) ?_; rintro _ rfl
      refine Tot.pos (by omega) ?_
      refine Tot.bind (l7Sign_tot hk h5 _ (by omega)) ?_; rintro _ rfl
      refine Tot.pos ?_ (Tot.ret ?_)
      · rw [ByteArray.size_append, signF_size]; show _ + 3 + 16 ≤ _; omega
      · rw [if_pos (by first | exact ⟨rfl, h5⟩ | exact ⟨trivial, h5⟩)]
    · refine Tot.pos (by rw [decide_eq_true_eq]; omega) (Tot.ret ?_)
      rw [if_neg (fun h => h5 h.2)]
theorem hexL_take : ∀ (n : Nat) (l : List Int), (hexL l).take (2 * n) = hexL (l.take n)
  | 0, l => by simp [hexL]
  | n + 1, [] => by simp [hexL]
  | n + 1, b :: l => by
    have ih := hexL_take n l
    have e : hexL (b :: l) = hexd (b.toNat / 16) :: hexd (b.toNat % 16) :: hexL l := rfl
    have e2 : hexL ((b :: l).take (n + 1)) = hexd (b.toNat / 16) :: hexd (b.toNat % 16) :: hexL (l.take n) := rfl
    rw [e, e2, show 2 * (n + 1) = 2 * n + 1 + 1 by omega, List.take_succ_cons, List.take_succ_cons, ih]
theorem hexF_take (l : List Int) : (hexF l).extract 0 16 = hexF (l.take 8) := by
  apply ba_ext
  rw [ByteArray.data_extract, Array.toList_extract]
  have h : (hexF l).data.toList = hexL l := rfl
  have h2 : (hexF (l.take 8)).data.toList = hexL (l.take 8) := rfl
  rw [h, h2, ← hexL_take]
  simp
theorem implUrl_tot (key : List Int) (l : List Op) (hl : l.length ≤ 4611686018427387904) (path : ByteArray) (till : Int) : Tot (fun k => impl_UrlText.f k key l path till) (fun r => r = urlF key l path till) := by
  unfold impl_UrlText.f urlF
  refine Tot.bind (impl_AskText_tot l hl path till) ?_
  rintro _ rfl
  have hsz := askF_500 l path till
  cases h : askB l path till with
  | false =>
    have e : askF l path till = ⟨#[]⟩ := by unfold askF; rw [if_neg (by rw [h]; decide)]
    rw [e]
    refine Tot.pos (by first | exact Lib.toList_data _ | (unfold ByteArray.toList ByteArray.toList.loop; rfl)) (Tot.ret ?_)
    rw [if_neg (fun h => absurd h.1 (by decide))]
  | true =>
    have hne := askF_ne h
    refine Tot.neg (fun hh => ?_) ?_
    · rw [Lib.toList_data] at hh
      rw [ba_size, hh] at hne
      exact absurd hne (by decide)
    by_cases h5 : key.length ≤ 500
    · refine Tot.neg (by omega) (Tot.pos (by omega) ?_)
      have hm : macR key (bytesN (askF l path till)) = macF key (bytesN (askF l path till)) := by unfold macR; rw [if_pos ⟨h5, by rw [bytesN_len]; omega⟩]
      have e := implMac_ok key (bytesN (askF l path till))
      rw [hm] at e
      refine Tot.bind (Tot.of_eq e) ?_; rintro _ rfl
      refine Tot.bind (impl_HexText_tot _ (macF_byt trivial) (by rw [macF_len]; omega)) ?_; rintro _ rfl
      refine Tot.pos (by rw [hexF_size, macF_len]; omega) (Tot.ret ?_)
      rw [if_pos ⟨rfl, h5⟩, hexF_take]
      rfl
    · refine Tot.pos (by omega) (Tot.ret ?_)
      rw [if_neg (fun h => h5 h.2)]
end Go.Proofs.YtmbkhindhndccaaDoor.X
namespace Go.Proofs.YtmbkhindhndccaaDoor.X
open Go.RowKit Go.Proofs.YtmbkhindhndccaaDoorW.PrintWords Go.Proofs.YtmbkhindhndccaaDoor.Pl
set_option linter.unusedSimpArgs false
set_option linter.unusedVariables false
/-- What stands between the signs. -/
def parts (c : UInt8) : List UInt8 → List (List UInt8)
  | [] => [[]]
  | x :: xs => if x = c then [] :: parts c xs else (match parts c xs with | [] => [[x]] | h :: t => (x :: h) :: t)
theorem parts_none {c : UInt8} : ∀ {a : List UInt8}, c ∉ a → parts c a = [a]
  | [], _ => rfl
  | x :: a, h => by
    simp only [List.mem_cons, not_or] at h
    rw [parts, if_neg (fun e => h.1 e.symm), parts_none h.2]
theorem parts_app {c : UInt8} {b : List UInt8} : ∀ {a : List UInt8}, c ∉ a → parts c (a ++ c :: b) = a :: parts c b
  | [], _ => by rw [List.nil_append, parts, if_pos rfl]
  | x :: a, h => by
    simp only [List.mem_cons, not_or] at h
    rw [List.cons_append, parts, if_neg (fun e => h.1 e.symm), parts_app h.2]
/-- The number that digits say. -/
def numOf (l : List UInt8) : Nat := l.foldl (fun a d => 10 * a + (d.toNat - 48)) 0
theorem numOf_snoc (l : List UInt8) (d : UInt8) : numOf (l ++ [d]) = 10 * numOf l + (d.toNat - 48) := by simp [numOf, List.foldl_append]
theorem dig_toNat (k : Nat) (h : k < 10) : (UInt8.ofNat (48 + k)).toNat = 48 + k := by
  rw [UInt8.toNat_ofNat']; omega
theorem dec_num (n : Nat) : numOf (Lib.decDigits n) = n := by
  induction n using Nat.strongRecOn with
  | _ n ih =>
    rw [Lib.decDigits.eq_def]
    split
    · rename_i h
      show 10 * 0 + ((UInt8.ofNat (48 + n)).toNat - 48) = n
      rw [dig_toNat n h]
      omega
    · rename_i h
      rw [numOf_snoc, ih (n / 10) (by omega), dig_toNat _ (by omega)]
      omega
theorem dec_dig (n : Nat) : ∀ d ∈ Lib.decDigits n, 48 ≤ d.toNat ∧ d.toNat ≤ 57 := by
  induction n using Nat.strongRecOn with
  | _ n ih =>
    intro d hd
    rw [Lib.decDigits.eq_def] at hd
    split at hd
    · rename_i h
      obtain rfl := List.mem_singleton.1 hd
      rw [dig_toNat n h]
      omega
    · rename_i h
      rcases List.mem_append.1 hd with h1 | h1
      · exact ih (n / 10) (by omega) d h1
      · obtain rfl := List.mem_singleton.1 h1
        rw [dig_toNat _ (by omega)]
        omega
theorem itoa_dig (n : Nat) : ∀ d ∈ Lib.itoa (n : Int), 48 ≤ d.toNat ∧ d.toNat ≤ 57 := by rw [Lib.itoa_nonneg]; exact dec_dig n
theorem itoa_no {c : UInt8} (hc : c.toNat < 48 ∨ 57 < c.toNat) (n : Nat) : c ∉ Lib.itoa (n : Int) := fun h => by
  have := itoa_dig n c h
  omega
theorem itoa_inj {m n : Nat} (h : Lib.itoa (m : Int) = Lib.itoa (n : Int)) : m = n := by
  rw [Lib.itoa_nonneg, Lib.itoa_nonneg] at h
  have := congrArg numOf h
  rwa [dec_num, dec_num] at this
/-- An operation's text, sign by sign. -/
def opL (W : List UInt8) (ns : List Int) : List UInt8 := W ++ ns.flatMap fun n => 46 :: Lib.itoa n
theorem txtI_list (W : ByteArray) (ns : List Int) : (txtI W ns).data.toList = opL W.data.toList ns := by
  induction ns generalizing W with
  | nil => simp [opL, txtI]
  | cons n ns ih =>
    show (txtI (W ++ numT n) ns).data.toList = _
    rw [ih, ba_app]
    have e : (numT n).data.toList = 46 :: Lib.itoa n := by
      unfold numT
      rw [ba_app]
      rfl
    rw [e]
    simp [opL]
theorem parts_opL (W : List UInt8) (hW : (46 : UInt8) ∉ W) : ∀ ns : List Int, (∀ n ∈ ns, 0 ≤ n) → parts 46 (opL W ns) = W :: ns.map Lib.itoa := by
  intro ns hns
  have key : ∀ ns : List Int, (∀ n ∈ ns, 0 ≤ n) → ∀ A : List UInt8, (46 : UInt8) ∉ A → parts 46 (A ++ ns.flatMap fun n => 46 :: Lib.itoa n) = A :: ns.map Lib.itoa := by
    intro ns
    induction ns with
    | nil => intro _ A hA; rw [List.flatMap_nil, List.append_nil, parts_none hA]; rfl
    | cons n ns ih =>
      intro h A hA
      obtain ⟨m, rfl⟩ := Int.eq_ofNat_of_zero_le (h n (List.mem_cons_self ..))
      rw [List.flatMap_cons, List.cons_append, parts_app hA, ih (fun x hx => h x (List.mem_cons_of_mem _ hx)) _ (itoa_no (by decide) m)]
      rfl
  exact key ns hns W hW
theorem formW_sign (k : Nat) (h : k < 9) : ∀ c ∈ (formW k).data.toList, 97 ≤ c.toNat ∧ c.toNat ≤ 122 := by
  match k, h with
  | 0, _ => decide
  | 1, _ => decide
  | 2, _ => decide
  | 3, _ => decide
  | 4, _ => decide
  | 5, _ => decide
  | 6, _ => decide
  | 7, _ => decide
  | 8, _ => decide
theorem formW_no {c : UInt8} (hc : c.toNat < 97) (k : Nat) (h : k < 9) : c ∉ (formW k).data.toList := fun hm => by
  have := formW_sign k h c hm
  omega
theorem formW_inj : ∀ a b : Fin 9, (formW a.val).data.toList = (formW b.val).data.toList → a = b := by decide
theorem map_itoa_inj : ∀ {a b : List Int}, (∀ n ∈ a, 0 ≤ n) → (∀ n ∈ b, 0 ≤ n) → a.map Lib.itoa = b.map Lib.itoa → a = b
  | [], [], _, _, _ => rfl
  | [], _ :: _, _, _, h => by cases h
  | _ :: _, [], _, _, h => by cases h
  | x :: a, y :: b, hx, hy, h => by
    simp only [List.map_cons, List.cons.injEq] at h
    obtain ⟨m, rfl⟩ := Int.eq_ofNat_of_zero_le (hx x (List.mem_cons_self ..))
    obtain ⟨n, rfl⟩ := Int.eq_ofNat_of_zero_le (hy y (List.mem_cons_self ..))
    rw [itoa_inj h.1, map_itoa_inj (fun z hz => hx z (List.mem_cons_of_mem _ hz)) (fun z hz => hy z (List.mem_cons_of_mem _ hz)) h.2]
/-- What may be done is of a kind, and beyond its numbers has none. -/
theorem opOk_rest {o a b c d : Int} (h : opOkB o a b c d = true) : ∃ k : Nat, o = k ∧ 1 ≤ k ∧ k < 9 ∧ (∀ n ∈ [a, b, c, d], 0 ≤ n ∧ n ≤ 255) ∧ [a, b, c, d] = [a, b, c, d].take (formN k) ++ List.replicate (4 - formN k) 0 := by
  obtain ⟨h1, h8, hn⟩ := opOk_kind h
  obtain ⟨k, rfl⟩ := Int.eq_ofNat_of_zero_le (show 0 ≤ o by omega)
  refine ⟨k, rfl, by omega, by omega, hn, ?_⟩
  have hk : k = 1 ∨ k = 2 ∨ k = 3 ∨ k = 4 ∨ k = 5 ∨ k = 6 ∨ k = 7 ∨ k = 8 := by omega
  rcases hk with rfl | rfl | rfl | rfl | rfl | rfl | rfl | rfl
  · rfl
  all_goals
    simp [opOkB] at h
    simp [formN, formsL, List.replicate, h]
theorem opTextF_list {o a b c d : Int} (h : opOkB o a b c d = true) : (opTextF o a b c d).data.toList = opL (formW o.toNat).data.toList ([a, b, c, d].take (formN o.toNat)) := by
  unfold opTextF
  rw [if_pos h, txtI_list]
theorem opTextF_inj {o a b c d o' a' b' c' d' : Int} (h : opOkB o a b c d = true) (h' : opOkB o' a' b' c' d' = true) (e : opTextF o a b c d = opTextF o' a' b' c' d') : o = o' ∧ a = a' ∧ b = b' ∧ c = c' ∧ d = d' := by
  obtain ⟨k, rfl, k1, k9, hn, hr⟩ := opOk_rest h
  obtain ⟨k', rfl, k1', k9', hn', hr'⟩ := opOk_rest h'
  have e1 := congrArg (fun x : ByteArray => x.data.toList) e
  (try dsimp only at e1)
  rw [opTextF_list h, opTextF_list h'] at e1
  simp only [Int.toNat_natCast] at e1
  have p1 := parts_opL _ (formW_no (c := 46) (by decide) k k9) ([a, b, c, d].take (formN k)) (fun n h => (hn n (List.mem_of_mem_take h)).1)
  have p2 := parts_opL _ (formW_no (c := 46) (by decide) k' k9') ([a', b', c', d'].take (formN k')) (fun n h => (hn' n (List.mem_of_mem_take h)).1)
  rw [e1, p2] at p1
  simp only [List.cons.injEq] at p1
  have ek : k' = k := congrArg Fin.val (formW_inj ⟨k', k9'⟩ ⟨k, k9⟩ p1.1)
  subst ek
  have en := map_itoa_inj (fun n h => (hn' n (List.mem_of_mem_take h)).1) (fun n h => (hn n (List.mem_of_mem_take h)).1) p1.2
  rw [en, ← hr] at hr'
  simp only [List.cons.injEq, and_true] at hr'
  exact ⟨rfl, hr'.1.symm, hr'.2.1.symm, hr'.2.2.1.symm, hr'.2.2.2.symm⟩
end Go.Proofs.YtmbkhindhndccaaDoor.X
namespace Go.Proofs.YtmbkhindhndccaaDoor.X
open Go.RowKit Go.Proofs.YtmbkhindhndccaaDoorW.PrintWords Go.Proofs.YtmbkhindhndccaaDoor.Pl
set_option linter.unusedSimpArgs false
set_option linter.unusedVariables false
/-- The signs of an operation's text. -/
def opSign (c : UInt8) : Prop := (97 ≤ c.toNat ∧ c.toNat ≤ 122) ∨ c.toNat = 46 ∨ (48 ≤ c.toNat ∧ c.toNat ≤ 57)
theorem opL_sign {W : List UInt8} {ns : List Int} (hW : ∀ c ∈ W, 97 ≤ c.toNat ∧ c.toNat ≤ 122) (hn : ∀ n ∈ ns, 0 ≤ n) : ∀ c ∈ opL W ns, opSign c := by
  intro c hc
  rcases List.mem_append.1 hc with h | h
  · exact .inl (hW c h)
  · obtain ⟨n, h1, h2⟩ := List.mem_flatMap.1 h
    obtain ⟨m, rfl⟩ := Int.eq_ofNat_of_zero_le (hn n h1)
    rcases List.mem_cons.1 h2 with rfl | h3
    · exact .inr (.inl rfl)
    · exact .inr (.inr (itoa_dig m c h3))
theorem opT_sign {x : Op} (h : okB x = true) : ∀ c ∈ (opT x).data.toList, opSign c := by
  obtain ⟨k, hk, k1, k9, hn, _⟩ := opOk_rest h
  unfold opT
  rw [opTextF_list h, hk]
  exact opL_sign (formW_sign k k9) (fun n h => (hn n (List.mem_of_mem_take h)).1)
theorem opT_no {x : Op} (h : okB x = true) {c : UInt8} (hc : ¬ opSign c) : c ∉ (opT x).data.toList := fun hm => hc (opT_sign h c hm)
theorem opT_inj {x y : Op} (h : okB x = true) (h' : okB y = true) (e : opT x = opT y) : x = y := by
  obtain ⟨a, b, c, d, f⟩ := x
  obtain ⟨a', b', c', d', f'⟩ := y
  obtain ⟨rfl, rfl, rfl, rfl, rfl⟩ := opTextF_inj h h' e
  rfl
theorem map_opT_inj : ∀ {a b : List Op}, (∀ x ∈ a, okB x = true) → (∀ x ∈ b, okB x = true) → a.map (fun x => (opT x).data.toList) = b.map (fun x => (opT x).data.toList) → a = b
  | [], [], _, _, _ => rfl
  | [], _ :: _, _, _, h => by cases h
  | _ :: _, [], _, _, h => by cases h
  | x :: a, y :: b, hx, hy, h => by
    simp only [List.map_cons, List.cons.injEq] at h
    rw [opT_inj (hx x (List.mem_cons_self ..)) (hy y (List.mem_cons_self ..)) (ba_ext h.1), map_opT_inj (fun z hz => hx z (List.mem_cons_of_mem _ hz)) (fun z hz => hy z (List.mem_cons_of_mem _ hz)) h.2]
theorem allOk_mem {l : List Op} (h : allOkB l = true) : ∀ x ∈ l, okB x = true := by
  intro x hx
  simp only [allOkB, Bool.and_eq_true, List.all_eq_true, List.mem_range] at h
  obtain ⟨i, hi, rfl⟩ := List.getElem_of_mem hx
  have := h.2 i hi
  unfold opAt rd_T59 at this
  rw [Int.toNat_natCast, List.getD_eq_getElem?_getD, List.getElem?_eq_getElem hi] at this
  exact this
theorem join_list (x : Op) (r : List Op) : (joinT ((x :: r).map opT)).data.toList = (opT x).data.toList ++ r.flatMap fun y => 44 :: (opT y).data.toList := by
  rw [joinT, ba_mk, List.map_cons, List.map_cons, Lib.join_cons]
  congr 1
  simp only [Lib.joinTail, List.map_map]
  rw [List.flatMap_def]
  rfl
theorem parts_join : ∀ (r : List Op) (A : List UInt8), (44 : UInt8) ∉ A → (∀ x ∈ r, okB x = true) → parts 44 (A ++ r.flatMap fun y => 44 :: (opT y).data.toList) = A :: r.map fun y => (opT y).data.toList
  | [], A, hA, _ => by rw [List.flatMap_nil, List.append_nil, parts_none hA]; rfl
  | x :: r, A, hA, h => by
    rw [List.flatMap_cons, List.cons_append, parts_app hA, parts_join r _ (opT_no (h x (List.mem_cons_self ..)) (by unfold opSign; decide)) (fun z hz => h z (List.mem_cons_of_mem _ hz))]
    rfl
/-- All that is done, sign by sign. -/
def opsL (l : List Op) : List UInt8 := (opsF l).data.toList
theorem opsL_parts {l : List Op} (h : ∀ x ∈ l, okB x = true) : parts 44 (opsL l) = if l = [] then [[45]] else l.map fun y => (opT y).data.toList := by
  unfold opsL opsF
  cases l with
  | nil => rfl
  | cons x r =>
    rw [if_neg (by simp), if_neg (by simp), join_list, parts_join r _ (opT_no (h x (List.mem_cons_self ..)) (by unfold opSign; decide)) (fun z hz => h z (List.mem_cons_of_mem _ hz))]
    rfl
theorem opsL_sign {l : List Op} (h : ∀ x ∈ l, okB x = true) : ∀ c ∈ opsL l, opSign c ∨ c.toNat = 44 ∨ c.toNat = 45 := by
  unfold opsL opsF
  cases l with
  | nil =>
    intro c hc
    obtain rfl := List.mem_singleton.1 (show c ∈ [(45 : UInt8)] from hc)
    exact .inr (.inr rfl)
  | cons x r =>
    intro c hc
    rw [if_neg (by simp), join_list] at hc
    rcases List.mem_append.1 hc with h1 | h1
    · exact .inl (opT_sign (h x (List.mem_cons_self ..)) c h1)
    · obtain ⟨y, hy, h2⟩ := List.mem_flatMap.1 h1
      rcases List.mem_cons.1 h2 with rfl | h3
      · exact .inr (.inl rfl)
      · exact .inl (opT_sign (h y (List.mem_cons_of_mem _ hy)) c h3)
theorem opsL_inj {a b : List Op} (ha : ∀ x ∈ a, okB x = true) (hb : ∀ x ∈ b, okB x = true) (e : opsL a = opsL b) : a = b := by
  have p := congrArg (parts 44) e
  rw [opsL_parts ha, opsL_parts hb] at p
  have no : ∀ {x : Op}, okB x = true → ([45] : List UInt8) ≠ (opT x).data.toList := fun h e => opT_no h (c := 45) (by unfold opSign; decide) (by rw [← e]; exact List.mem_singleton.2 rfl)
  cases a with
  | nil =>
    cases b with
    | nil => rfl
    | cons y b =>
      rw [if_pos rfl, if_neg (by simp)] at p
      simp only [List.map_cons, List.cons.injEq] at p
      exact absurd p.1 (no (hb y (List.mem_cons_self ..)))
  | cons x a =>
    cases b with
    | nil =>
      rw [if_pos rfl, if_neg (by simp)] at p
      simp only [List.map_cons, List.cons.injEq] at p
      exact absurd p.1.symm (no (ha x (List.mem_cons_self ..)))
    | cons y b =>
      rw [if_neg (by simp), if_neg (by simp)] at p
      exact map_opT_inj ha hb p
theorem askI_list (ops path : ByteArray) (till : Int) : (askI ops path till).data.toList = 47 :: (ops.data.toList ++ 47 :: (path.data.toList ++ 63 :: (101 :: 61 :: Lib.itoa till))) := by
  unfold askI
  simp only [ba_app, List.append_assoc]
  rfl
theorem path_sign {s : ByteArray} (h : nameB s = true) : ∀ c ∈ s.data.toList, (97 ≤ c.toNat ∧ c.toNat ≤ 122) ∨ (48 ≤ c.toNat ∧ c.toNat ≤ 57) := by
  intro c hc
  simp only [nameB, Bool.and_eq_true, List.all_eq_true, List.mem_range] at h
  obtain ⟨i, hi, rfl⟩ := List.getElem_of_mem hc
  have hs : i < s.size := by rw [ba_size]; exact hi
  have := h.2 i hs
  unfold signB bt at this
  rw [Int.toNat_natCast, dif_pos hs] at this
  have e : s[i] = s.data.toList[i] := by
    rw [Array.getElem_toList]
    rfl
  rw [e] at this
  simp only [Bool.or_eq_true, decide_eq_true_eq] at this
  omega
theorem ask_parts {l : List Op} {p : ByteArray} {n : Nat} (hl : ∀ x ∈ l, okB x = true) (hp : nameB p = true) : parts 47 (askI (opsF l) p n).data.toList = [[], opsL l, p.data.toList ++ 63 :: (101 :: 61 :: Lib.itoa (n : Int))] ∧ parts 63 (p.data.toList ++ 63 :: (101 :: 61 :: Lib.itoa (n : Int))) = [p.data.toList, 101 :: 61 :: Lib.itoa (n : Int)] := by
  have h1 : (47 : UInt8) ∉ opsL l := fun h => by
    rcases opsL_sign hl _ h with h | h | h
    · revert h; unfold opSign; decide
    · revert h; decide
    · revert h; decide
  have h2 : ∀ c : UInt8, c = 47 ∨ c = 63 → c ∉ p.data.toList := fun c hc h => by
    have := path_sign hp c h
    rcases hc with rfl | rfl <;> revert this <;> decide
  have h3 : ∀ c : UInt8, c = 47 ∨ c = 63 → c ∉ Lib.itoa (n : Int) := fun c hc => itoa_no (by rcases hc with rfl | rfl <;> decide) n
  refine ⟨?_, ?_⟩
  · rw [askI_list, parts, if_pos rfl]
    show [] :: parts 47 (opsL l ++ 47 :: _) = _
    rw [parts_app h1, parts_none]
    intro h
    rcases List.mem_append.1 h with h | h
    · exact h2 47 (.inl rfl) h
    · simp only [List.mem_cons] at h
      rcases h with h | h | h | h
      · revert h; decide
      · revert h; decide
      · revert h; decide
      · exact h3 47 (.inl rfl) h
  · rw [parts_app (h2 63 (.inr rfl)), parts_none]
    intro h
    simp only [List.mem_cons] at h
    rcases h with h | h | h
    · revert h; decide
    · revert h; decide
    · exact h3 63 (.inr rfl) h
theorem askB_all {l : List Op} {p : ByteArray} {t : Int} (h : askB l p t = true) : (∀ x ∈ l, okB x = true) ∧ nameB p = true := by
  simp only [askB, Bool.and_eq_true] at h
  exact ⟨allOk_mem h.1, h.2.1⟩
theorem askF_inj {l l' : List Op} {p p' : ByteArray} {t t' : Int} (h : askB l p t = true) (h' : askB l' p' t' = true) (e : askF l p t = askF l' p' t') : l = l' ∧ p = p' ∧ t = t' := by
  obtain ⟨_, _, t0, t1⟩ := askB_parts h
  obtain ⟨_, _, t0', t1'⟩ := askB_parts h'
  obtain ⟨a, b⟩ := askB_all h
  obtain ⟨a', b'⟩ := askB_all h'
  obtain ⟨n, rfl⟩ := Int.eq_ofNat_of_zero_le t0
  obtain ⟨n', rfl⟩ := Int.eq_ofNat_of_zero_le t0'
  unfold askF at e
  rw [if_pos h, if_pos h'] at e
  obtain ⟨q1, q2⟩ := ask_parts (n := n) a b
  obtain ⟨q1', q2'⟩ := ask_parts (n := n') a' b'
  rw [e, q1'] at q1
  simp only [List.cons.injEq, and_true, true_and] at q1
  rw [← q1.2, q2'] at q2
  simp only [List.cons.injEq, and_true, true_and] at q2
  exact ⟨opsL_inj a a' q1.1.symm, ba_ext q2.1.symm, by rw [itoa_inj q2.2]⟩
end Go.Proofs.YtmbkhindhndccaaDoor.X
namespace Go.Proofs.YtmbkhindhndccaaDoor.X
open Go.RowKit Go.Proofs.YtmbkhindhndccaaDoorW.PrintWords Go.Proofs.YtmbkhindhndccaaDoor.Pl
set_option linter.unusedSimpArgs false

theorem bits_xor_nonneg (a b : Int) (ha : 0 ≤ a) (ha' : a < 4611686018427387904) (hb : 0 ≤ b) (hb' : b < 4611686018427387904) : 0 ≤ Go.bits .xor .i64 a b ∧ Go.bits .xor .i64 a b < 4611686018427387904 := by
  obtain ⟨m, rfl⟩ := Int.eq_ofNat_of_zero_le ha
  obtain ⟨n, rfl⟩ := Int.eq_ofNat_of_zero_le hb
  have h1 : m < 2 ^ 62 := by omega
  have h2 : n < 2 ^ 62 := by omega
  have hx : m ^^^ n < 2 ^ 62 := Nat.xor_lt_two_pow h1 h2
  have hm : m % 2 ^ 64 = m := Nat.mod_eq_of_lt (by omega)
  have hn : n % 2 ^ 64 = n := Nat.mod_eq_of_lt (by omega)
  have e : Go.bits .xor .i64 (m : Int) (n : Int) = ((m ^^^ n : Nat) : Int) := by
    have hb : (BitVec.ofNat 64 m ^^^ BitVec.ofNat 64 n).toNat = m ^^^ n := by rw [BitVec.toNat_xor, BitVec.toNat_ofNat, BitVec.toNat_ofNat, hm, hn]
    simp only [Go.bits, IntKind.bits, BitVec.ofInt_natCast]
    rw [IntKind.wrap_i64]
    change (((BitVec.ofNat 64 m ^^^ BitVec.ofNat 64 n).toNat : Int) + 9223372036854775808) % 18446744073709551616 - 9223372036854775808 = _
    rw [hb]
    omega
  rw [e]
  omega

/-- The bytes of a code. -/
def Bytes (l : List Int) : Prop := l.length ≤ 2000 ∧ ∀ y ∈ l, 0 ≤ y ∧ y ≤ 255
theorem bytes_rd {l : List Int} (h : Bytes l) (i : Int) : 0 ≤ rd l i ∧ rd l i ≤ 255 := by
  unfold rd
  by_cases hi : i.toNat < l.length
  · exact h.2 _ (getD_mem l 0 i.toNat hi)
  · rw [List.getD_eq_getElem?_getD, List.getElem?_eq_none (by omega)]
    simp

theorem tmod_bd (a n : Int) (ha : 0 ≤ a) (hn : 0 < n) : 0 ≤ Int.tmod a n ∧ Int.tmod a n < n := by
  rw [Int.tmod_eq_emod_of_nonneg ha]
  exact ⟨Int.emod_nonneg _ (by omega), Int.emod_lt_of_pos _ hn⟩

theorem pick_ev (l : List Int) (hl : Bytes l) (p n : Int) (h0 : 0 ≤ p) (h1 : p ≤ 1000000000000) :
    ∃ r, Ev (fun k => spec_l20Rd_pick.f k l p n) (r, p + 1) ∧ 0 ≤ r ∧ (1 ≤ n → r < n) ∧ (n < 1 → r = 0) := by
  have w1 : wrap64 (p + 1) = p + 1 := wrap_id (by omega) (by omega)
  have w2 : wrap64 (p + 1 - 1) = p := by rw [show p + 1 - 1 = p by omega]; exact wrap_id (by omega) (by omega)
  by_cases hn : n < 1
  · refine ⟨0, ev_succ ⟨0, fun k _ => ?_⟩, by omega, fun h => absurd h (by omega), fun _ => rfl⟩
    simp [spec_l20Rd_pick.f, hn, spec_l20Rd_pick.j0, w1]
  have hne : ¬ (n = 0) := by omega
  by_cases hz : l.length = 0
  · refine ⟨0, ev_succ ⟨0, fun k _ => ?_⟩, by omega, fun h => by omega, fun h => absurd h hn⟩
    simp [spec_l20Rd_pick.f, hn, hz, spec_l20Rd_pick.j0, w1]
  have hz' : ¬ ((l.length : Int) = 0) := by omega
  have hzb : ((l.length : Int) == 0) = false := by simpa using hz
  by_cases hlt : p < (l.length : Int)
  · have hb := bytes_rd hl p
    have w3 : wrap64 (rd l p) = rd l p := wrap_id (by omega) (by omega)
    have ht := tmod_bd (rd l p) n hb.1 (by omega)
    refine ⟨Int.tmod (rd l p) n, ev_succ ⟨0, fun k _ => ?_⟩, ht.1, fun _ => ht.2, fun h => absurd h hn⟩
    simp only [spec_l20Rd_pick.f]
    rw [if_neg hn, hzb, w1]
    simp only [spec_l20Rd_pick.j0]
    rw [if_neg (by decide), w2, if_pos hlt, if_pos h0, if_neg hne, w3]
  · have L0 : (0 : Int) < (l.length : Int) := by omega
    have m1 := tmod_bd p (l.length : Int) h0 L0
    have w4 : wrap64 (p * 7) = p * 7 := wrap_id (by omega) (by omega)
    have w5 : wrap64 (p * 7 + 3) = p * 7 + 3 := wrap_id (by omega) (by omega)
    have m2 := tmod_bd (p * 7 + 3) (l.length : Int) (by omega) L0
    obtain ⟨i1, hi1⟩ : ∃ i, i = Int.tmod p (l.length : Int) := ⟨_, rfl⟩
    obtain ⟨i2, hi2⟩ : ∃ i, i = Int.tmod (p * 7 + 3) (l.length : Int) := ⟨_, rfl⟩
    have b1 := bytes_rd hl i1
    have b2 := bytes_rd hl i2
    obtain ⟨v1, hv1⟩ : ∃ v, v = rd l i1 := ⟨_, rfl⟩
    obtain ⟨v2, hv2⟩ : ∃ v, v = rd l i2 := ⟨_, rfl⟩
    have d1 : 0 ≤ Int.tdiv p (l.length : Int) ∧ Int.tdiv p (l.length : Int) ≤ p := by
      rw [Int.tdiv_eq_ediv_of_nonneg h0]
      exact ⟨Int.ediv_nonneg h0 (by omega), Int.ediv_le_self _ h0⟩
    obtain ⟨q, hq⟩ : ∃ q, q = Int.tdiv p (l.length : Int) := ⟨_, rfl⟩
    rw [← hi1] at m1
    rw [← hi2] at m2
    rw [← hv1] at b1
    rw [← hv2] at b2
    rw [← hq] at d1
    have x1 : wrap64 v1 = v1 := wrap_id (by omega) (by omega)
    have x2 : wrap64 v2 = v2 := wrap_id (by omega) (by omega)
    have x3 : wrap64 (v1 * 131) = v1 * 131 := wrap_id (by omega) (by omega)
    have x4 : wrap64 (v2 * 1117) = v2 * 1117 := wrap_id (by omega) (by omega)
    have x5 : wrap64 (v1 * 131 + v2 * 1117) = v1 * 131 + v2 * 1117 := wrap_id (by omega) (by omega)
    have x6 : wrap64 (p * 29) = p * 29 := wrap_id (by omega) (by omega)
    have x7 : wrap64 (v1 * 131 + v2 * 1117 + p * 29) = v1 * 131 + v2 * 1117 + p * 29 := wrap_id (by omega) (by omega)
    have x8 : wrap64 q = q := wrap_id (by omega) (by omega)
    have x9 : wrap64 (q * 53) = q * 53 := wrap_id (by omega) (by omega)
    have x10 : wrap64 (v1 * 131 + v2 * 1117 + p * 29 + q * 53) = v1 * 131 + v2 * 1117 + p * 29 + q * 53 := wrap_id (by omega) (by omega)
    obtain ⟨s, hs⟩ : ∃ s, s = v1 * 131 + v2 * 1117 + p * 29 + q * 53 := ⟨_, rfl⟩
    have hs0 : 0 ≤ s := by omega
    have hs1 : s ≤ 1000000000000000 := by omega
    have x11 : wrap64 (Int.tdiv s 64) = s / 64 := by
      rw [Int.tdiv_eq_ediv_of_nonneg hs0]
      exact wrap_id (by omega) (by omega)
    have hx := bits_xor_nonneg s (s / 64) hs0 (by omega) (by omega) (by omega)
    have ht := tmod_bd (Go.bits .xor .i64 s (s / 64)) n hx.1 (by omega)
    refine ⟨Int.tmod (Go.bits .xor .i64 s (s / 64)) n, ev_succ ⟨0, fun k _ => ?_⟩, ht.1, fun _ => ht.2, fun h => absurd h hn⟩
    simp only [spec_l20Rd_pick.f]
    rw [if_neg hn, hzb, w1]
    simp only [spec_l20Rd_pick.j0]
    rw [if_neg (by decide), w2, if_neg hlt, if_neg hz', w4, w5, ← hi1, ← hi2, if_pos m1.1, if_pos m1.2, if_pos m2.1, if_pos m2.2, if_neg hne, ← hv1, ← hv2, ← hq]
    simp only [x1, x2, x3, x4, x5, x6, x7, x8, x9, x10]
    rw [← hs, x11]

theorem odd_ev (l : List Int) (hl : Bytes l) (p n : Int) (h0 : 0 ≤ p) (h1 : p ≤ 1000000000000) (hn : n ≤ 1000000) :
    ∃ b q, Ev (fun k => spec_l20Rd_odd.f k l p n) (b, q) ∧ p ≤ q ∧ q ≤ p + 1 ∧ (n ≤ 0 → b = false) := by
  by_cases hn0 : n > 0
  · obtain ⟨r, ⟨K, hr⟩, _, _, _⟩ := pick_ev l hl p n h0 h1
    refine ⟨r == wrap64 (n - 1), p + 1, ⟨K, fun k hk => ?_⟩, by omega, by omega, fun h => absurd h (by omega)⟩
    have := hr k hk
    dsimp only at this
    simp [spec_l20Rd_odd.f, hn0, this]
  · refine ⟨false, p, ⟨0, fun k _ => ?_⟩, by omega, by omega, fun _ => rfl⟩
    simp [spec_l20Rd_odd.f, hn0]

theorem pick_tot {l : List Int} (hl : Bytes l) (p n : Int) (h0 : 0 ≤ p) (h1 : p ≤ 1000000000000) :
    Tot (fun k => spec_l20Rd_pick.f k l p n) (fun x => x.2 = p + 1 ∧ 0 ≤ x.1 ∧ (1 ≤ n → x.1 < n) ∧ (n < 1 → x.1 = 0)) := by
  obtain ⟨r, h, a, b, c⟩ := pick_ev l hl p n h0 h1
  exact ⟨_, h, rfl, a, b, c⟩
theorem odd_tot {l : List Int} (hl : Bytes l) (p n : Int) (h0 : 0 ≤ p) (h1 : p ≤ 1000000000000) (hn : n ≤ 1000000) :
    Tot (fun k => spec_l20Rd_odd.f k l p n) (fun x => p ≤ x.2 ∧ x.2 ≤ p + 1 ∧ (n ≤ 0 → x.1 = false)) := by
  obtain ⟨b, q, h, c⟩ := odd_ev l hl p n h0 h1 hn
  exact ⟨_, h, c⟩
theorem open_some (l : List Int) (hu : ∀ y ∈ l, 0 ≤ y ∧ y ≤ 255) : ∃ b, spec_l20Open.f l = some (b, 0) ∧ Bytes b := by
  unfold spec_l20Open.f
  by_cases h : (l.length : Int) > 2000
  · rw [if_pos h, if_pos (by omega)]
    refine ⟨l.take 2000, rfl, ?_, fun y hy => hu y (List.mem_of_mem_take hy)⟩
    rw [List.length_take]
    omega
  · rw [if_neg h]
    exact ⟨l, rfl, by omega, hu⟩
end Go.Proofs.YtmbkhindhndccaaDoor.X
namespace Go.Proofs.YtmbkhindhndccaaDoor.Pure
open Go.RowKit Go.Proofs.YtmbkhindhndccaaDoorW.PrintWords Go.Proofs.YtmbkhindhndccaaDoor.Pl Go.Proofs.YtmbkhindhndccaaDoor.X
set_option linter.unusedSimpArgs false
set_option linter.unusedVariables false
theorem l20Bytes_l0_byt {l : List Int} (hl : Bytes l) (P : Int) (hP : P ≤ 700000000000) (M : Int) (hM : M ≤ 1000) : ∀ s : List Int × Int × Int, (0 ≤ s.2.2 ∧ s.2.1 ≤ 1000 ∧ (s.1.length : Int) + (max s.2.1 0) ≤ M ∧ s.2.2 + 3 * (max s.2.1 0) ≤ P ∧ ∀ x ∈ s.1, Byt x) →
    Tot (fun k => spec_l20Bytes.l0 k s.1 s.2.1 l s.2.2) (fun x => (0 ≤ x.2 ∧ x.2 ≤ P) ∧ (x.1.length : Int) ≤ M ∧ ∀ y ∈ x.1, Byt y) := by
  refine tot_ind (fun k (s : List Int × Int × Int) => spec_l20Bytes.l0 k s.1 s.2.1 l s.2.2) _ (fun s => s.2.1.toNat) _ ?_
  rintro ⟨s, c, p⟩ ⟨i1, i2, i3, i4, i5⟩ ih
  dsimp only at i1 i2 i3 i4 i5 ⊢
  refine Tot.succ ?_
  simp only [spec_l20Bytes.l0]
  refine Tot.ite ?_ ?_ <;> intro h
  · refine Tot.bind (pick_tot hl p 256 (by omega) (by omega)) ?_
    rintro ⟨r0, p0⟩ ⟨e0, -, -, -⟩
    dsimp only at e0 ⊢
    refine Tot.bind (pick_tot hl p0 4 (by omega) (by omega)) ?_
    rintro ⟨r1, p1⟩ ⟨e1, -, -, -⟩
    dsimp only at e1 ⊢
    refine Tot.some_bind ?_
    refine Tot.bind (pick_tot hl p1 3 (by omega) (by omega)) ?_
    rintro ⟨r2, p2⟩ ⟨e2, a2, b2, -⟩
    dsimp only at e2 a2 b2 ⊢
    refine Tot.pos a2 (Tot.pos (by simp only [List.length_cons, List.length_nil]; omega) (Tot.pos (by omega) ?_))
    have w : wrap64 (c - 1) = c - 1 := wrap_id (by omega) (by omega)
    rw [w]
    exact ih (_, c - 1, p2) (by
      dsimp only
      refine ⟨by omega, by omega, by rw [List.length_append]; simp only [List.length_cons, List.length_nil]; omega, by omega, fun x hx => ?_⟩
      rcases List.mem_append.1 hx with hx | hx
      · exact i5 x hx
      · obtain rfl := List.mem_singleton.1 hx
        unfold Byt; omega) (by dsimp only; omega)
  · exact Tot.ret ⟨by dsimp only; omega, by dsimp only; omega, i5⟩
theorem l20Bytes_byt {l : List Int} (hl : Bytes l) (p : Int) (h0 : 0 ≤ p) (h1 : p ≤ 600000000000) (n : Int) (hn : 0 ≤ n ∧ n ≤ 500) : Tot (fun k => spec_l20Bytes.f k l p n) (fun x => (0 ≤ x.2 ∧ x.2 ≤ p + 5000) ∧ (x.1.length : Int) ≤ n ∧ ∀ y ∈ x.1, Byt y) := by
  simp only [spec_l20Bytes.f]
  have w : wrap64 (n + 1) = n + 1 := wrap_id (by omega) (by omega)
  rw [w]
  refine Tot.bind (pick_tot hl p (n + 1) h0 (by omega)) ?_
  rintro ⟨r0, p0⟩ ⟨e0, a0, b0, -⟩
  dsimp only at e0 a0 b0 ⊢
  exact (l20Bytes_l0_byt hl (p0 + 3000) (by omega) n (by omega) ([], r0, p0) (by dsimp only [List.length_nil]; refine ⟨by omega, by omega, by simp; omega, by omega, fun x hx => by cases hx⟩)).mono (fun x hx => ⟨by omega, hx.2⟩)
end Go.Proofs.YtmbkhindhndccaaDoor.Pure
namespace Go.Proofs.YtmbkhindhndccaaDoor.X
open Go.RowKit Go.Proofs.YtmbkhindhndccaaDoorW.PrintWords Go.Proofs.YtmbkhindhndccaaDoor.Pl
set_option linter.unusedSimpArgs false
set_option linter.unusedVariables false

theorem l20Op_j0_tot {l : List Int} (hl : Bytes l) (n p o a b c d : Int) (h0 : 0 ≤ p) (h1 : p ≤ 900000000000) (hn : n ≤ 1000) :
    Tot (fun k => spec_l20Op.j0 k n l p o a b c d) (fun x => p ≤ x.2.2.2.2.2 ∧ x.2.2.2.2.2 ≤ p + 3) := by
  refine Tot.succ ?_
  simp only [spec_l20Op.j0]
  refine Tot.bind (odd_tot hl p n h0 (by omega) (by omega)) ?_
  rintro ⟨b1, p1⟩ ⟨e1, e2, -⟩
  dsimp only at e1 e2 ⊢
  refine Tot.ite ?_ ?_ <;> intro hb
  · refine Tot.bind (pick_tot hl p1 4 (by omega) (by omega)) ?_
    rintro ⟨r2, p2⟩ ⟨e3, e4, e5, -⟩
    dsimp only at e3 e4 e5 ⊢
    refine Tot.ite ?_ ?_ <;> intro h
    all_goals try (refine Tot.ite ?_ ?_ <;> intro h')
    all_goals try (refine Tot.ite ?_ ?_ <;> intro h'')
    all_goals
      refine Tot.some_bind ?_
      refine Tot.bind (pick_tot hl p2 2 (by omega) (by omega)) ?_
      rintro ⟨r3, p3⟩ ⟨e6, e7, e8, -⟩
      dsimp only at e6 e7 e8 ⊢
      refine Tot.pos e7 (Tot.pos ?_ (Tot.ret ?_))
      · simp only [List.length_cons, List.length_nil]; omega
      · dsimp only; omega
  · exact Tot.ret (by dsimp only; omega)

theorem l20Op_tot {l : List Int} (hl : Bytes l) (p n : Int) (h0 : 0 ≤ p) (h1 : p ≤ 800000000000) (hn : n ≤ 1000) :
    Tot (fun k => spec_l20Op.f k l p n) (fun x => p ≤ x.2.2.2.2.2 ∧ x.2.2.2.2.2 ≤ p + 8) := by
  simp only [spec_l20Op.f]
  refine Tot.bind (pick_tot hl p 8 h0 (by omega)) ?_
  rintro ⟨r0, p0⟩ ⟨e1, e2, e3, -⟩
  dsimp only at e1 e2 e3 ⊢
  refine Tot.ite ?_ ?_ <;> intro h
  · refine Tot.bind (pick_tot hl p0 3 (by omega) (by omega)) ?_
    rintro ⟨r4, p4⟩ ⟨e4, -, -, -⟩
    dsimp only at e4 ⊢
    refine Tot.bind (pick_tot hl p4 3 (by omega) (by omega)) ?_
    rintro ⟨r5, p5⟩ ⟨e5, -, -, -⟩
    dsimp only at e5 ⊢
    refine Tot.bind (pick_tot hl p5 4 (by omega) (by omega)) ?_
    rintro ⟨r6, p6⟩ ⟨e6, -, -, -⟩
    dsimp only at e6 ⊢
    refine Tot.bind (pick_tot hl p6 4 (by omega) (by omega)) ?_
    rintro ⟨r7, p7⟩ ⟨e7, -, -, -⟩
    dsimp only at e7 ⊢
    exact (l20Op_j0_tot hl n p7 _ _ _ _ _ (by omega) (by omega) hn).mono (fun x hx => by omega)
  refine Tot.ite ?_ ?_ <;> intro h
  · refine Tot.bind (pick_tot hl p0 6 (by omega) (by omega)) ?_
    rintro ⟨r4, p4⟩ ⟨e4, -, -, -⟩
    dsimp only at e4 ⊢
    refine Tot.bind (pick_tot hl p4 6 (by omega) (by omega)) ?_
    rintro ⟨r5, p5⟩ ⟨e5, -, -, -⟩
    dsimp only at e5 ⊢
    exact (l20Op_j0_tot hl n p5 _ _ _ _ _ (by omega) (by omega) hn).mono (fun x hx => by omega)
  refine Tot.ite ?_ ?_ <;> intro h
  · refine Tot.bind (pick_tot hl p0 256 (by omega) (by omega)) ?_
    rintro ⟨r4, p4⟩ ⟨e4, -, -, -⟩
    dsimp only at e4 ⊢
    refine Tot.bind (pick_tot hl p4 256 (by omega) (by omega)) ?_
    rintro ⟨r5, p5⟩ ⟨e5, -, -, -⟩
    dsimp only at e5 ⊢
    refine Tot.bind (pick_tot hl p5 256 (by omega) (by omega)) ?_
    rintro ⟨r6, p6⟩ ⟨e6, -, -, -⟩
    dsimp only at e6 ⊢
    exact (l20Op_j0_tot hl n p6 _ _ _ _ _ (by omega) (by omega) hn).mono (fun x hx => by omega)
  · exact (l20Op_j0_tot hl n p0 _ _ _ _ _ (by omega) (by omega) hn).mono (fun x hx => by omega)

abbrev DOp := S59
theorem l20Ops_l1_tot {l : List Int} (p : Int) : ∀ s : List DOp, s.length ≤ 100 → Tot (fun k => spec_l20Ops.l1 k s l p) (fun x => x.1.length ≤ 100 ∧ x.2 = p) := by
  refine tot_ind (fun k s => spec_l20Ops.l1 k s l p) (fun s => s.length ≤ 100) (fun s => 6 - s.length) _ ?_
  intro s hs ih
  refine Tot.succ ?_
  simp only [spec_l20Ops.l1]
  refine Tot.ite ?_ ?_ <;> intro h
  · refine Tot.pos (by omega) ?_
    exact ih (s ++ [⟨4, 0, 0, 0, 0⟩]) (by simp; omega) (by simp; omega)
  · exact Tot.ret ⟨hs, rfl⟩
theorem l20Ops_j1_tot {l : List Int} (hl : Bytes l) (n : Int) (s : List DOp) (p : Int) (hs : s.length ≤ 100) (h0 : 0 ≤ p) (h1 : p ≤ 750000000000) (hn : n ≤ 1000) :
    Tot (fun k => spec_l20Ops.j1 k n s l p) (fun x => x.1.length ≤ 100 ∧ p ≤ x.2 ∧ x.2 ≤ p + 1) := by
  refine Tot.succ ?_
  simp only [spec_l20Ops.j1]
  refine Tot.bind (odd_tot hl p n h0 (by omega) (by omega)) ?_
  rintro ⟨b1, p1⟩ ⟨e1, e2, -⟩
  dsimp only at e1 e2 ⊢
  refine Tot.ite ?_ ?_ <;> intro hb
  · exact (l20Ops_l1_tot p1 s hs).mono (fun x hx => ⟨hx.1, by omega, by omega⟩)
  · exact Tot.ret ⟨hs, e1, e2⟩
theorem l20Ops_l0_tot {l : List Int} (hl : Bytes l) (n P : Int) (hP : P ≤ 700000000000) (hn : n ≤ 1000) : ∀ s : List DOp × Int × Int, (0 ≤ s.2.2 ∧ s.2.1 ≤ 5 ∧ s.1.length ≤ 50 - s.2.1.toNat ∧ s.2.2 + 8 * (max s.2.1 0) ≤ P) →
    Tot (fun k => spec_l20Ops.l0 k n s.1 s.2.1 l s.2.2) (fun x => x.1.length ≤ 100 ∧ 0 ≤ x.2 ∧ x.2 ≤ P + 20) := by
  refine tot_ind (fun k (s : List DOp × Int × Int) => spec_l20Ops.l0 k n s.1 s.2.1 l s.2.2) _ (fun s => s.2.1.toNat) _ ?_
  rintro ⟨s, c, p⟩ ⟨i1, i2, i4, i5⟩ ih
  dsimp only at i1 i2 i4 i5 ⊢
  refine Tot.succ ?_
  simp only [spec_l20Ops.l0]
  refine Tot.ite ?_ ?_ <;> intro h
  · refine Tot.bind (l20Op_tot hl p 0 (by omega) (by omega) (by omega)) ?_
    rintro ⟨o, a, b, c', d, q⟩ ⟨e1, e2⟩
    dsimp only at e1 e2 ⊢
    refine Tot.pos (by omega) ?_
    have w : wrap64 (c - 1) = c - 1 := wrap_id (by omega) (by omega)
    rw [w]
    exact ih (s ++ [⟨o, a, b, c', d⟩], c - 1, q) (by dsimp only; rw [List.length_append]; simp only [List.length_cons, List.length_nil]; omega) (by dsimp only; omega)
  · refine Tot.bind (odd_tot hl p n (by omega) (by omega) (by omega)) ?_
    rintro ⟨b1, p1⟩ ⟨e1, e2, -⟩
    dsimp only at e1 e2 ⊢
    refine Tot.ite ?_ ?_ <;> intro hb
    · refine Tot.bind (l20Op_tot hl p1 1 (by omega) (by omega) (by omega)) ?_
      rintro ⟨o, a, b, c', d, q⟩ ⟨e3, e4⟩
      dsimp only at e3 e4 ⊢
      refine Tot.pos (by omega) ?_
      exact (l20Ops_j1_tot hl n _ q (by rw [List.length_append]; simp only [List.length_cons, List.length_nil]; omega) (by omega) (by omega) hn).mono (fun x hx => ⟨hx.1, by omega, by omega⟩)
    · exact (l20Ops_j1_tot hl n s p1 (by omega) (by omega) (by omega) hn).mono (fun x hx => ⟨hx.1, by omega, by omega⟩)
theorem l20Ops_tot {l : List Int} (hl : Bytes l) (p n : Int) (h0 : 0 ≤ p) (h1 : p ≤ 600000000000) (hn : n ≤ 1000) :
    Tot (fun k => spec_l20Ops.f k l p n) (fun x => x.1.length ≤ 100 ∧ 0 ≤ x.2 ∧ x.2 ≤ p + 100) := by
  simp only [spec_l20Ops.f]
  refine Tot.bind (pick_tot hl p 6 h0 (by omega)) ?_
  rintro ⟨r0, p0⟩ ⟨e1, e2, e3, -⟩
  dsimp only at e1 e2 e3 ⊢
  exact (l20Ops_l0_tot hl n (p0 + 50) (by omega) hn ([], r0, p0) (by dsimp only [List.length_nil]; omega)).mono (fun x hx => ⟨hx.1, by omega, by omega⟩)
end Go.Proofs.YtmbkhindhndccaaDoor.X
namespace Go.Proofs.YtmbkhindhndccaaDoor.X
open Go.RowKit Go.Proofs.YtmbkhindhndccaaDoorW.PrintWords Go.Proofs.YtmbkhindhndccaaDoor.Pl
set_option linter.unusedSimpArgs false
set_option linter.unusedVariables false
theorem l20Path_tot {l : List Int} (hl : Bytes l) (p : Int) (h0 : 0 ≤ p) (h1 : p ≤ 900000000000) : Tot (fun k => spec_l20Path.f k l p) (fun x => x.2 = p + 1) := by
  simp only [spec_l20Path.f]
  refine Tot.some_bind ?_
  refine Tot.bind (pick_tot hl p 5 h0 (by omega)) ?_
  rintro ⟨r0, p0⟩ ⟨e1, e2, e3, -⟩
  dsimp only at e1 e2 e3 ⊢
  refine Tot.pos e2 (Tot.pos ?_ (Tot.ret e1))
  simp only [List.length_cons, List.length_nil]; omega
theorem l20Ask_tot {l : List Int} (hl : Bytes l) (p n : Int) (h0 : 0 ≤ p) (h1 : p ≤ 500000000000) (hn : n ≤ 1000) :
    Tot (fun k => spec_l20Ask.f k l p n) (fun x => x.1.length ≤ 101 ∧ 0 ≤ x.2.2.2 ∧ x.2.2.2 ≤ p + 200) := by
  simp only [spec_l20Ask.f]
  refine Tot.bind (l20Ops_tot hl p 0 h0 (by omega) (by omega)) ?_
  rintro ⟨ops, p0⟩ ⟨f1, f2, f3⟩
  dsimp only at f1 f2 f3 ⊢
  refine Tot.bind (l20Path_tot hl p0 (by omega) (by omega)) ?_
  rintro ⟨s, p1⟩ f4
  dsimp only at f4 ⊢
  refine Tot.bind (pick_tot hl p1 80 (by omega) (by omega)) ?_
  rintro ⟨r2, p2⟩ ⟨e4, -, -, -⟩
  dsimp only at e4 ⊢
  refine Tot.some_bind ?_
  refine Tot.bind (pick_tot hl p2 2 (by omega) (by omega)) ?_
  rintro ⟨r3, p3⟩ ⟨e5, e6, e7, -⟩
  dsimp only at e5 e6 e7 ⊢
  refine Tot.pos e6 (Tot.pos (by simp only [List.length_cons, List.length_nil]; omega) ?_)
  refine Tot.bind (odd_tot hl p3 n (by omega) (by omega) (by omega)) ?_
  rintro ⟨b4, p4⟩ ⟨e8, e9, -⟩
  dsimp only at e8 e9 ⊢
  refine Tot.ite ?_ ?_ <;> intro hb
  · refine Tot.bind (pick_tot hl p4 3 (by omega) (by omega)) ?_
    rintro ⟨r5, p5⟩ ⟨e10, e11, e12, -⟩
    dsimp only at e10 e11 e12 ⊢
    refine Tot.ite ?_ ?_ <;> intro h
    · refine Tot.some_bind ?_
      refine Tot.bind (pick_tot hl p5 4 (by omega) (by omega)) ?_
      rintro ⟨r6, p6⟩ ⟨g1, g2, g3, -⟩
      dsimp only at g1 g2 g3 ⊢
      exact Tot.pos g2 (Tot.pos (by simp only [List.length_cons, List.length_nil]; omega) (Tot.ret ⟨by dsimp only; omega, by dsimp only; omega, by dsimp only; omega⟩))
    refine Tot.ite ?_ ?_ <;> intro h
    · refine Tot.some_bind ?_
      refine Tot.bind (pick_tot hl p5 2 (by omega) (by omega)) ?_
      rintro ⟨r6, p6⟩ ⟨g1, g2, g3, -⟩
      dsimp only at g1 g2 g3 ⊢
      exact Tot.pos g2 (Tot.pos (by simp only [List.length_cons, List.length_nil]; omega) (Tot.ret ⟨by dsimp only; omega, by dsimp only; omega, by dsimp only; omega⟩))
    · refine Tot.bind (l20Op_tot hl p5 1 (by omega) (by omega) (by omega)) ?_
      rintro ⟨o, a, b, c', d, q⟩ ⟨g1, g2⟩
      dsimp only at g1 g2 ⊢
      exact Tot.pos (by omega) (Tot.ret ⟨by dsimp only; rw [List.length_append]; simp only [List.length_cons, List.length_nil]; omega, by dsimp only; omega, by dsimp only; omega⟩)
  · exact Tot.ret ⟨by dsimp only; omega, by dsimp only; omega, by dsimp only; omega⟩
end Go.Proofs.YtmbkhindhndccaaDoor.X
namespace Go.Proofs.YtmbkhindhndccaaDoor.Pure
open Go.RowKit Go.Proofs.YtmbkhindhndccaaDoorW.PrintWords Go.Proofs.YtmbkhindhndccaaDoor.Pl Go.Proofs.YtmbkhindhndccaaDoor.X
set_option linter.unusedVariables false
set_option linter.unusedSimpArgs false
theorem op_ext {x y : X.Op} (h0 : x.f0 = y.f0) (h1 : x.f1 = y.f1) (h2 : x.f2 = y.f2) (h3 : x.f3 = y.f3) (h4 : x.f4 = y.f4) : x = y := by
  cases x; cases y; simp only at h0 h1 h2 h3 h4; subst h0 h1 h2 h3 h4; rfl
theorem eaOps_loop (a b : List X.Op) (h : a.length = b.length) (h5 : a.length ≤ 1000) : ∀ e i, i + e = a.length → a.take i = b.take i → Tot (fun k => laws_eaOps.l0 k a b i) (fun r => r = true ↔ a = b)
  | 0, i, hi, ht => by
    refine Tot.succ ?_
    simp only [laws_eaOps.l0]
    refine Tot.neg (by omega) (Tot.ret ?_)
    rw [List.take_of_length_le (by omega), List.take_of_length_le (by omega)] at ht
    exact ⟨fun _ => ht, fun _ => rfl⟩
  | e + 1, i, hi, ht => by
    have ia : i < a.length := by omega
    have ib : i < b.length := by omega
    have ra : rd_T59 a (i : Int) = a[i] := by simp [rd_T59, List.getD_eq_getElem?_getD, ia]
    have rb : rd_T59 b (i : Int) = b[i] := by simp [rd_T59, List.getD_eq_getElem?_getD, ib]
    refine Tot.succ ?_
    simp only [laws_eaOps.l0]
    refine Tot.pos (by omega) (Tot.pos (by omega) (Tot.pos (by omega) ?_))
    rw [ra, rb]
    by_cases hx : a[i] = b[i]
    · refine Tot.neg (by rw [hx]; simp) ?_
      rw [wr_id (by omega) (by omega)]
      refine eaOps_loop a b h h5 e (i + 1) (by omega) ?_
      rw [List.take_add_one, List.take_add_one, ht, List.getElem?_eq_getElem ia, List.getElem?_eq_getElem ib, hx]
    · refine Tot.pos ?_ (Tot.ret ?_)
      · by_cases c0 : a[i].f0 = b[i].f0
        · by_cases c1 : a[i].f1 = b[i].f1
          · by_cases c2 : a[i].f2 = b[i].f2
            · by_cases c3 : a[i].f3 = b[i].f3
              · have c4 : ¬ a[i].f4 = b[i].f4 := fun c4 => hx (op_ext c0 c1 c2 c3 c4)
                simp [c4]
              · simp [c3]
            · simp [c2]
          · simp [c1]
        · simp [c0]
      · refine ⟨fun hh => absurd hh (by decide), fun hab => absurd ?_ hx⟩
        subst hab
        rfl
theorem eaOps_tot (a b : List X.Op) (h5 : a.length ≤ 1000) : Tot (fun k => laws_eaOps.f k a b) (fun r => r = true ↔ a = b) := by
  unfold laws_eaOps.f
  by_cases h : a.length = b.length
  · refine Tot.pos (by omega) ?_
    exact eaOps_loop a b h h5 a.length 0 (by omega) rfl
  · refine Tot.neg (by omega) (Tot.ret ?_)
    exact ⟨fun hh => absurd hh (by decide), fun hab => absurd (by rw [hab]) h⟩
theorem toList_inj {a b : ByteArray} : a.toList = b.toList ↔ a = b := by
  rw [Lib.toList_data, Lib.toList_data]
  exact ⟨fun h => ba_ext h, fun h => by rw [h]⟩
theorem eaAsk_tot (a b : List X.Op) (p q : ByteArray) (s t : Int) (h5 : a.length ≤ 1000) : Tot (fun k => laws_eaAsk.f k a p s b q t) (fun r => r = true ↔ a = b ∧ p = q ∧ s = t) := by
  unfold laws_eaAsk.f
  refine Tot.bind (eaOps_tot a b h5) ?_
  intro r hr
  by_cases h : a = b
  · refine Tot.pos (hr.2 h) ?_
    by_cases h2 : p = q
    · refine Tot.pos (by rw [h2]) (Tot.ret ?_)
      simp [h, h2]
    · refine Tot.neg (fun hh => h2 (toList_inj.1 hh)) (Tot.ret ?_)
      simp [h2]
  · refine Tot.neg (fun hh => h (hr.1 hh)) (Tot.ret ?_)
    simp [h]
theorem urlF_ok {key : List Int} {l : List X.Op} {p : ByteArray} {t : Int} (h : askB l p t = true) (h5 : key.length ≤ 500) : urlF key l p t = (askF l p t ++ ⟨#[38, 115, 61]⟩) ++ signF key (askF l p t) := by
  unfold urlF; rw [if_pos ⟨h, h5⟩]
theorem url_ask {key : List Int} {l l' : List X.Op} {p p' : ByteArray} {t t' : Int} (h : askB l p t = true) (h' : askB l' p' t' = true) (h5 : key.length ≤ 500) : urlF key l p t = urlF key l' p' t' ↔ l = l' ∧ p = p' ∧ t = t' := by
  refine ⟨fun e => ?_, ?_⟩
  · rw [urlF_ok h h5, urlF_ok h' h5] at e
    have e2 := congrArg (fun x : ByteArray => x.data.toList) e
    simp only [ba_app] at e2
    have hs : (signF key (askF l p t)).data.toList.length = (signF key (askF l' p' t')).data.toList.length := by rw [← ba_size, ← ba_size, signF_size, signF_size]
    have e3 := (List.append_inj' e2 hs).1
    have e4 := (List.append_inj' e3 rfl).1
    exact askF_inj h h' (ba_ext e4)
  · rintro ⟨rfl, rfl, rfl⟩; rfl
theorem drawUrl_tot {l : List Int} (hu : ∀ y ∈ l, 0 ≤ y ∧ y ≤ 255) : Tot (fun k => spec_DrawUrlText.f k l) (fun x => (x.1.length ≤ 32 ∧ ∀ y ∈ x.1, Byt y) ∧ x.2.1.length ≤ 101) := by
  unfold spec_DrawUrlText.f
  obtain ⟨b, hb, hB⟩ := open_some l hu
  refine Tot.bind (Tot.of_eq hb) ?_; rintro _ rfl
  refine Tot.bind (l20Bytes_byt hB 0 (by omega) (by omega) 32 ⟨by omega, by omega⟩) ?_
  rintro ⟨r1, p1⟩ ⟨e1, l1, y1⟩
  dsimp only at e1 l1 y1 ⊢
  refine Tot.bind (l20Ask_tot hB p1 6 (by omega) (by omega) (by omega)) ?_
  rintro ⟨x, s, t, q⟩ ⟨f1, _, _⟩
  exact Tot.ret ⟨⟨by dsimp only; omega, y1⟩, f1⟩
theorem head_ext (a b c : ByteArray) : ((a ++ b ++ c).extract 0 ((a.size : Int)).toNat).toList = a.toList := by
  congr 1
  apply ba_ext
  rw [Int.toNat_natCast, ba_size, ByteArray.data_extract, Array.toList_extract, ba_app, ba_app, List.append_assoc]
  simp
theorem apart_last (key : List Int) (hk : key.length ≤ 500) (l l' : List X.Op) (hl : l.length ≤ 101) (hl' : l'.length ≤ 101) (p p' : ByteArray) (t t' : Int) (c : Bool) (hc : c = !(askB l p t && askB l' p' t')) :
    Tot (fun k => laws_FnUrlApart.j1 k key (urlF key l p t) c l p t l' p' t') (fun b => b = true) := by
  refine Tot.succ ?_
  simp only [laws_FnUrlApart.j1]
  cases c with
  | true =>
    refine Tot.pos rfl ?_
    refine Tot.bind (Tot.of_ev (spec_AskOk_ev l (by omega) p t)) ?_; rintro _ rfl
    refine Tot.pos ?_ (Tot.bind (Tot.of_eq rfl) (fun x hx => Tot.ret hx))
    cases h : askB l p t with
    | false =>
      have e : urlF key l p t = ⟨#[]⟩ := by unfold urlF; rw [if_neg (fun hh => by rw [h] at hh; exact absurd hh.1 (by decide))]
      rw [e, Lib.toList_data]
      rfl
    | true =>
      have e := urlF_ok (key := key) h hk
      have hne : (urlF key l p t).toList ≠ [] := by
        rw [Lib.toList_data]
        intro hh
        have h1 : (urlF key l p t).size = 0 := by rw [ba_size, hh]; rfl
        rw [e, ByteArray.size_append, signF_size] at h1
        omega
      cases hu : (urlF key l p t).toList with
      | nil => exact absurd hu hne
      | cons a r => rfl
  | false =>
    have hb : askB l p t = true ∧ askB l' p' t' = true := by
      cases h1 : askB l p t <;> cases h2 : askB l' p' t' <;> simp [h1, h2] at hc ⊢
    obtain ⟨h, h'⟩ := hb
    have e := urlF_ok (key := key) h hk
    have hsz := askF_500 l p t
    refine Tot.neg (by decide) ?_
    refine Tot.bind (impl_AskText_tot l (by omega) p t) ?_; rintro _ rfl
    refine Tot.bind (implUrl_tot key l' (by omega) p' t') ?_; rintro _ rfl
    refine Tot.bind (eaAsk_tot l l' p p' t t' (by omega)) ?_
    intro r hr
    have hu : (urlF key l p t).size = (askF l p t).size + 19 := by
      rw [e, ByteArray.size_append, ByteArray.size_append, signF_size]
      rfl
    refine Tot.pos ?_ (Tot.pos ?_ (Tot.pos (by omega) (Tot.pos (by omega) (Tot.ret ?_))))
    · have := url_ask (key := key) h h' hk
      rw [← toList_inj, ← hr] at this
      cases r with
      | true => rw [beq_iff_eq, beq_iff_eq]; exact this.2 rfl
      | false =>
        rw [beq_iff_eq, beq_eq_false_iff_ne]
        exact fun hh => absurd (this.1 hh) (by decide)
    · rw [wr_id (x := ((askF l p t).size : Int) + 3) (by omega) (by omega), wr_id (by omega) (by omega), hu]
      omega
    · rw [e, head_ext]
      exact beq_self_eq_true _
theorem FnUrlApart : laws_FnUrlApart.Pure := by
  intro l0 l1 _ _ hw0 _ _ hw1
  have hu0 : ∀ y ∈ l0, 0 ≤ y ∧ y ≤ 255 := fun y hy => ByteOk (hw0 y hy)
  have hu1 : ∀ y ∈ l1, 0 ≤ y ∧ y ≤ 255 := fun y hy => ByteOk (hw1 y hy)
  refine Tot.rounds ?_
  have key : ∀ c : Bool, Tot (fun k => laws_FnUrlApart.j0 k l0 l1 c) (fun b => b = true) := by
    intro c
    refine Tot.succ ?_
    simp only [laws_FnUrlApart.j0]
    refine Tot.ite (fun _ => Tot.ret rfl) (fun _ => ?_)
    refine Tot.bind (drawUrl_tot hu0) ?_
    rintro ⟨key, a, p, t⟩ ⟨⟨hk, hkB⟩, ha⟩
    dsimp only at hk hkB ha ⊢
    refine Tot.bind (drawUrl_tot hu1) ?_
    rintro ⟨key', b, q, s⟩ ⟨_, hb⟩
    dsimp only at hb ⊢
    refine Tot.bind (implUrl_tot key a (by omega) p t) ?_; rintro _ rfl
    refine Tot.bind (specUrl_tot hkB a (by omega) p t) ?_; rintro _ rfl
    refine Tot.pos rfl ?_
    refine Tot.bind (Tot.of_ev (spec_AskOk_ev a (by omega) p t)) ?_; rintro _ rfl
    cases h1 : askB a p t with
    | true =>
      refine Tot.pos rfl ?_
      refine Tot.bind (Tot.of_ev (spec_AskOk_ev b (by omega) q s)) ?_; rintro _ rfl
      exact apart_last key (by omega) a b ha hb p q t s _ (by rw [h1, Bool.true_and])
    | false =>
      refine Tot.neg (by decide) ?_
      exact apart_last key (by omega) a b ha hb p q t s _ (by rw [h1, Bool.false_and]; rfl)
  unfold laws_FnUrlApart.f
  exact Tot.ite (fun _ => key _) (fun _ => key _)
end Go.Proofs.YtmbkhindhndccaaDoor.Pure
namespace Go.Proofs.YtmbkhindhndccaaDoor.X
set_option linter.unusedVariables false
set_option linter.unusedSimpArgs false
set_option linter.unusedSectionVars false
open Go.ChangeShapes Go.WideShapes Go.ChangeAt Go.WideMaps Go.WideElems Go.RowKit Go.Proofs.YtmbkhindhndccaaDoorW.PrintWords
abbrev laid6 : List (String × DataW Unit) := [("math/bits.deBruijn32tab", Rows.laid_math_bits_deBruijn32tab), ("math/bits.deBruijn64tab", Rows.laid_math_bits_deBruijn64tab), ("internal/strconv.uint64pow10", Rows.laid_internal_strconv_uint64pow10), ("loop.example/easel/impl.shaStart", Rows.laid_loop_example_easel_impl_shaStart), ("loop.example/easel/impl.shaRounds", Rows.laid_loop_example_easel_impl_shaRounds), ("loop.example/easel/impl.opForms", Rows.laid_loop_example_easel_impl_opForms)]
theorem door_met (os : Os) (args : Array Value) : laidMetH Tryd.prog laid6 ((World.doorLaid Tryd.prog 400 os).forCall (fun _ _ => 0) ⟨#[], args, []⟩).memory :=
  laidMetH_of_parts3 (fuel := 8) (laidMet_of_run' 8 (by kernel_rfl) (by kernel_rfl)) (by kernel_rfl) (by kernel_rfl)
theorem gF : Tryd.prog.globalNamed "loop.example/easel/impl.opForms" = some 0 := by kernel_rfl
theorem tF : (Tryd.prog.globals[0]?).map (·.type) = some 80 := by kernel_rfl
theorem tP : (Tryd.prog.globals[3]?).map (·.type) = some 126 := by kernel_rfl
theorem gS : Tryd.prog.globalNamed "loop.example/easel/impl.shaStart" = some 1 := by kernel_rfl
theorem gK : Tryd.prog.globalNamed "loop.example/easel/impl.shaRounds" = some 4 := by kernel_rfl
theorem tS : (Tryd.prog.globals[1]?).map (·.type) = some 109 := by kernel_rfl
theorem tK : (Tryd.prog.globals[4]?).map (·.type) = some 131 := by kernel_rfl
theorem blk_of_var {w : World} {name : String} {g : Nat} {cs : Array Value} (hg : Tryd.prog.globalNamed name = some g) (h : w.var? Tryd.prog name = some cs) : ∃ t fr, w.heap[g]? = some (.cells cs t fr) := by
  unfold World.var? at h
  rw [hg] at h
  simp only [Option.bind_some] at h
  split at h
  · rename_i cs' t fr hh
    obtain rfl := Option.some.inj h
    exact ⟨t, fr, hh⟩
  · cases h
variable {H : Type} {enc : TypeId × Value → H} {P : Program} {w : World} {base : Nat} {sp : Nat → Bool} {held : Bool}
/-- The cells of an array whose elements' cells are told by their data. -/
theorem cells_of_rows {fuel : Nat} {t e : TypeId} {n : Nat} {cs : List Value} {p : List MemPlace} {ds : List (DataW H)} (L : List (List Value))
    (ht : P.underlying t = some (.array n e)) (hct : P.cellsOf t = n * P.cellsOf e) (hL : ∀ (i : Nat) (l : List Value), L[i]? = some l → l.length = P.cellsOf e) (hn : L.length = n)
    (he : ∀ (i : Nat) (m : Nat) (d : DataW H) (l c : List Value) (q : List MemPlace), ds[i]? = some d → L[i]? = some l → DataW.trod enc P w base sp held m e c = some (d, q) → c = l)
    (h : DataW.trod enc P w base sp held fuel t cs = some (.agg ds, p)) : cs = L.flatten := by
  obtain ⟨xs, m, rfl, hx, hl, hlen, hf⟩ := DataW.trod_array ht h
  obtain ⟨hd, -⟩ := Prod.mk.inj hx
  have hds : ds = xs.map (·.1) := by injection hd
  have key : ∀ (i : Nat) (l : List Value), L[i]? = some l → (cs.drop (i * P.cellsOf e)).take (P.cellsOf e) = l := by
    intro i l hi
    have hin : i < n := by have := (List.getElem?_eq_some_iff.1 hi).1; omega
    have h1 := hf i hin
    have hix : i < xs.length := by omega
    rw [List.getElem?_eq_getElem hix] at h1
    refine he i m (xs[i]).1 l _ (xs[i]).2 ?_ hi h1
    rw [hds, List.getElem?_map, List.getElem?_eq_getElem hix]
    rfl
  have gen : ∀ (L : List (List Value)) (cs : List Value), (∀ (i : Nat) (l : List Value), L[i]? = some l → (cs.drop (i * P.cellsOf e)).take (P.cellsOf e) = l) → cs.length = L.length * P.cellsOf e → cs = L.flatten := by
    intro L
    induction L with
    | nil => intro cs _ h; simp at h; simp [h]
    | cons a L ih =>
      intro cs hk hlen
      have h0 := hk 0 a rfl
      rw [Nat.zero_mul, List.drop_zero] at h0
      rw [List.length_cons, Nat.add_mul, Nat.one_mul] at hlen
      have h1 := ih (cs.drop (P.cellsOf e)) (fun i l hi => by
        rw [List.drop_drop, show P.cellsOf e + i * P.cellsOf e = (i + 1) * P.cellsOf e by rw [Nat.add_mul]; omega]
        exact hk (i + 1) l (by simpa using hi)) (by rw [List.length_drop]; omega)
      rw [List.flatten_cons, ← h1, ← h0, List.take_append_drop]
  exact gen L cs key (by rw [hl, hct, hn])
set_option maxRecDepth 100000 in
theorem form_cells {m : Nat} {c : List Value} {s : List UInt8} {n : Int} {q : List MemPlace} (h : DataW.trod enc Tryd.prog w base sp held m 79 c = some (.agg [.lit (.string s), .lit (.int .i64 n)], q)) : c = [.string ⟨s.toArray⟩, .int .i64 n] := by
  obtain ⟨y0, y1, k, hx, hl, h0, h1⟩ := trod_struct2 Tryd.underlying79 h
  have hx := (Prod.mk.inj hx).1
  injection hx with hx
  injection hx with e0 hx
  injection hx with e1 _
  obtain ⟨s', hc0, rfl, _⟩ := DataW.trod_string Tryd.underlying9 h0
  obtain ⟨n', hc1, rfl, _⟩ := DataW.trod_int Tryd.underlying3 h1
  injection e0 with e0; injection e0 with e0
  injection e1 with e1; injection e1 with _ e1
  have hl2 : c.length = 2 := hl.trans (by kernel_rfl)
  match c, hl2 with
  | [a, b], _ =>
    have ha : [a] = [Value.string s'] := hc0
    have hb : [b] = [Value.int .i64 n'] := hc1
    cases ha; cases hb
    subst e1
    rw [e0]
set_option maxRecDepth 100000 in
theorem glob_of {W : World} (h : laidMetH Tryd.prog laid6 W) : Glob W := by
  rw [MakeChecks.laidMetH_plain _ _ _ (by kernel_rfl)] at h
  obtain ⟨ps, ⟨g0, t0, cs0, f0, p0, q0, hg0, ht0, hv0, hd0, ⟨g1, t1, cs1, f1, p1, q1, hg1, ht1, hv1, hd1, ⟨g2, t2, cs2, f2, p2, q2, hg2, ht2, hv2, hd2, ⟨g4, t4, cs4, f4, p4, q4, hg4, ht4, hv4, hd4, ⟨g5, t5, cs5, f5, p5, q5, hg5, ht5, hv5, hd5, ⟨g3, t3, cs3, f3, p3, q3, hg3, ht3, hv3, hd3, _⟩, _⟩, _⟩, _⟩, _⟩, _⟩, _, _⟩ := h
  obtain rfl := Option.some.inj (gPow.symm.trans hg2)
  obtain rfl := Option.some.inj (gF.symm.trans hg3)
  obtain rfl := Option.some.inj (gS.symm.trans hg4)
  obtain rfl := Option.some.inj (gK.symm.trans hg5)
  obtain rfl := Option.some.inj (tP.symm.trans ht2)
  obtain rfl := Option.some.inj (tF.symm.trans ht3)
  obtain rfl := Option.some.inj (tS.symm.trans ht4)
  obtain rfl := Option.some.inj (tK.symm.trans ht5)
  have e2 := Lib.cells_of_tab (zs := Lib.pow10Tab) (k := .u64) Tryd.underlying126 Tryd.underlying103 (by kernel_rfl) (by kernel_rfl) hd2
  have e4 := Lib.cells_of_tab (zs := shS0) (k := .u32) Tryd.underlying109 Tryd.underlying108 (by kernel_rfl) (by kernel_rfl) hd4
  have e5 := Lib.cells_of_tab (zs := shK0) (k := .u32) Tryd.underlying131 Tryd.underlying108 (by kernel_rfl) (by kernel_rfl) hd5
  obtain ⟨t, fr, hh⟩ := blk_of_var gF hv3
  obtain ⟨t', fr', hh'⟩ := blk_of_var gPow hv2
  obtain ⟨t4', fr4, hh4⟩ := blk_of_var gS hv4
  obtain ⟨t5', fr5, hh5⟩ := blk_of_var gK hv5
  have e3 := cells_of_rows [[.string ⟨#[]⟩, .int .i64 0], [.string ⟨#[99, 114, 111, 112]⟩, .int .i64 4], [.string ⟨#[102, 108, 105, 112, 120]⟩, .int .i64 0], [.string ⟨#[102, 108, 105, 112, 121]⟩, .int .i64 0], [.string ⟨#[116, 117, 114, 110]⟩, .int .i64 0], [.string ⟨#[103, 114, 97, 121]⟩, .int .i64 0], [.string ⟨#[98, 108, 117, 114]⟩, .int .i64 0], [.string ⟨#[115, 105, 122, 101]⟩, .int .i64 2], [.string ⟨#[102, 108, 97, 116]⟩, .int .i64 3]] Tryd.underlying80 (by kernel_rfl)
    (fun i l hi => by
      have hm := List.mem_of_getElem? hi
      have : l.length = 2 := by simp only [List.mem_cons, List.not_mem_nil, or_false] at hm; rcases hm with rfl | rfl | rfl | rfl | rfl | rfl | rfl | rfl | rfl <;> rfl
      exact this.trans (by kernel_rfl)) rfl
    (fun i m d l c q hd hl hc => by
      match i, hd, hl with
      | 0, hd, hl => cases hd; cases hl; exact form_cells hc
      | 1, hd, hl => cases hd; cases hl; exact form_cells hc
      | 2, hd, hl => cases hd; cases hl; exact form_cells hc
      | 3, hd, hl => cases hd; cases hl; exact form_cells hc
      | 4, hd, hl => cases hd; cases hl; exact form_cells hc
      | 5, hd, hl => cases hd; cases hl; exact form_cells hc
      | 6, hd, hl => cases hd; cases hl; exact form_cells hc
      | 7, hd, hl => cases hd; cases hl; exact form_cells hc
      | 8, hd, hl => cases hd; cases hl; exact form_cells hc
      | _ + 9, hd, _ => cases hd) hd3
  refine ⟨⟨t, fr, ?_⟩, ⟨t', fr', ?_⟩, ⟨t4', fr4, ?_⟩, ⟨t5', fr5, ?_⟩⟩
  · rw [hh]; congr 2; rw [← Array.toArray_toList (xs := cs3), e3]; rfl
  · rw [hh']; congr 2; rw [← e2]
  · rw [hh4]; congr 2; rw [nums, ← e4]
  · rw [hh5]; congr 2; rw [nums, ← e5]
theorem vars3 {n1 n2 n3 : String} : ∀ {gs : List (DataW H)} {q : List MemPlace}, DataW.TrodVars enc Tryd.prog w sp [n1, n2, n3] gs q → ∃ g1 g2 g3, gs = [g1, g2, g3]
  | [], _, h => h.elim
  | [_], _, h => by obtain ⟨_, _, _, _, _, _, _, _, _, _, h, _⟩ := h; exact h.elim
  | [_, _], _, h => by obtain ⟨_, _, _, _, _, _, _, _, _, _, h, _⟩ := h; obtain ⟨_, _, _, _, _, _, _, _, _, _, h, _⟩ := h; exact h.elim
  | [a, b, c], _, _ => ⟨a, b, c, rfl⟩
  | _ :: _ :: _ :: _ :: _, _, h => by obtain ⟨_, _, _, _, _, _, _, _, _, _, h, _⟩ := h; obtain ⟨_, _, _, _, _, _, _, _, _, _, h, _⟩ := h; obtain ⟨_, _, _, _, _, _, _, _, _, _, h, _⟩ := h; exact h.elim
end Go.Proofs.YtmbkhindhndccaaDoor.X
