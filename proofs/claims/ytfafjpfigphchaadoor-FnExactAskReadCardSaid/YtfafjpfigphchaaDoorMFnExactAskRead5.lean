/- Lemmas and contracts for the law FnExactAskRead, part 5: of the program's functions, and over data alone. Conditions: the listed package-level variables begin as the program's text lays them (tied by the card). -/
import Derived.Test.YtfafjpfigphchaaDoorMFnExactAskRead4
import Derived.Test.YtfafjpfigphchaaDoorMFnExactAskRead2
import Derived.Lib.IndexBytes
import Derived.Test.YtfafjpfigphchaaDoorMFnExactAskRead3
import Derived.SizedLaws
import Derived.Handed
import Derived.Shelf.Vars
import Derived.Test.YtfafjpfigphchaaDoorRows
import Derived.Lib.LaidTab
import Derived.LaidMore
import Derived.OpenShut
import Derived.ShutString
import Derived.ChangeOld
import Derived.ChangeSame
import Derived.Below
import Derived.WalkKit
import Derived.ProofKit
import Derived.Stop.Joined
import Derived.OpenVars
import Derived.KernelRfl
import Derived.LaidSub
import Derived.Lay
import Derived.LaidOnce
namespace Go.Proofs.YtfafjpfigphchaaDoor.X
open Go.RowKit Go.Proofs.YtfafjpfigphchaaDoorW.PrintWords Go.Proofs.YtfafjpfigphchaaDoor.Pl
set_option linter.unusedSimpArgs false
set_option linter.unusedVariables false
def baOf (l : List UInt8) : ByteArray := ⟨l.toArray⟩
theorem baOf_list (l : List UInt8) : (baOf l).data.toList = l := rfl
theorem baOf_self (s : ByteArray) : baOf s.data.toList = s := ba_ext rfl
theorem toList_ba {a b : ByteArray} : a.toList = b.toList ↔ a = b := by
  rw [Lib.toList_data, Lib.toList_data]
  exact ⟨fun h => ba_ext h, fun h => by rw [h]⟩
theorem bt_nat (s : ByteArray) (i : Nat) (h : i < s.data.toList.length) : bt s (i : Int) = ((s.data.toList[i]).toNat : Int) := by
  have hs : i < s.size := by rw [ba_size]; exact h
  unfold bt
  rw [Int.toNat_natCast, dif_pos hs]
  have e : s[i] = s.data.toList[i] := by
    rw [Array.getElem_toList]
    rfl
  rw [e]
/-! ### Where a sign first stands -/
theorem index_none_ {l : List UInt8} {c : UInt8} (h : c ∉ l) : Lib.index l [c] = -1 := by
  rw [Lib.index_one]
  have hge := Lib.indexByte_ge l c
  rcases Int.lt_or_le (Lib.indexByte l c) 0 with h0 | h0
  · omega
  · obtain ⟨o, ho⟩ := Int.eq_ofNat_of_zero_le h0
    exact absurd (List.mem_of_getElem? (Lib.indexByte_some ho).1) h
theorem index_app {a b : List UInt8} {c : UInt8} (h : c ∉ a) : Lib.index (a ++ c :: b) [c] = (a.length : Int) := by
  rw [Lib.index_one]
  induction a with
  | nil => simp [Lib.indexByte]
  | cons x a ih =>
    simp only [List.mem_cons, not_or] at h
    have ih := ih h.2
    rw [List.cons_append, Lib.indexByte, if_neg (fun e => h.1 (beq_iff_eq.1 e).symm), ih, if_neg (fun e => by have := beq_iff_eq.1 e; omega), List.length_cons]
    omega
theorem split_at {c : UInt8} : ∀ l : List UInt8, c ∉ l ∨ ∃ a b, l = a ++ c :: b ∧ c ∉ a
  | [] => .inl (by simp)
  | x :: l => by
    by_cases hx : x = c
    · exact .inr ⟨[], l, by rw [hx]; rfl, by simp⟩
    · rcases split_at (c := c) l with h | ⟨a, b, rfl, h⟩
      · exact .inl (by simp only [List.mem_cons, not_or]; exact ⟨fun e => hx e.symm, h⟩)
      · exact .inr ⟨x :: a, b, rfl, by simp only [List.mem_cons, not_or]; exact ⟨fun e => hx e.symm, h⟩⟩
theorem cut_none {l : List UInt8} {c : UInt8} (h : c ∉ l) : Lib.cut l [c] = (l, [], false) := by
  unfold Lib.cut
  rw [index_none_ h, if_neg (by omega)]
theorem cut_app {a b : List UInt8} {c : UInt8} (h : c ∉ a) : Lib.cut (a ++ c :: b) [c] = (a, b, true) := by
  unfold Lib.cut
  rw [index_app h, if_pos (by omega), Int.toNat_natCast]
  simp
theorem splitK_parts {c : UInt8} : ∀ (n : Nat) (l : List UInt8), l.length ≤ n → Lib.splitK [c] 0 (Lib.count l [c]) l = parts c l
  | 0, l, h => by
    obtain rfl := List.eq_nil_of_length_eq_zero (Nat.le_zero.1 h)
    rw [Lib.count_miss (index_none_ (by simp))]
    rfl
  | n + 1, l, h => by
    rcases split_at (c := c) l with hn | ⟨a, b, rfl, ha⟩
    · rw [Lib.count_miss (index_none_ hn), parts_none hn]
      rfl
    · rw [List.length_append, List.length_cons] at h
      have e1 : (a ++ c :: b).drop (a.length + [c].length) = b := by simp
      have e2 : (a ++ c :: b).take (a.length + 0) = a := by simp
      rw [Lib.count_hit (by simp) (index_app ha), e1, Nat.add_comm 1, Lib.splitK, index_app ha, if_neg (fun e => by have := beq_iff_eq.1 e; omega), Int.toNat_natCast, e1, e2, splitK_parts n b (by omega), parts_app ha]
theorem partsB_parts (s : ByteArray) (c : UInt8) : partsB s ⟨#[c]⟩ = (parts c s.data.toList).map baOf := by
  have h := Lib.splitB_data ⟨#[c]⟩ 0 (Lib.countB s ⟨#[c]⟩) s
  have h2 := splitK_parts (c := c) s.data.toList.length s.data.toList (Nat.le_refl _)
  have h3 : (partsB s ⟨#[c]⟩).map (·.data.toList) = parts c s.data.toList := h.trans h2
  rw [← h3, List.map_map]
  refine ((List.map_congr_left (g := id) (fun x _ => ?_)).trans (List.map_id _)).symm
  exact baOf_self x
/-! ### The reference cuts the same way -/
def glue (w : List UInt8) : List (List UInt8) → List (List UInt8)
  | [] => [w]
  | h :: t => (w ++ h) :: t
theorem glue_nil {c : UInt8} (l : List UInt8) : glue [] (parts c l) = parts c l := by
  cases l with
  | nil => rfl
  | cons x l =>
    rw [parts]
    split
    · rfl
    · split <;> rfl
theorem parts_len {c : UInt8} : ∀ l : List UInt8, (parts c l).length ≤ l.length + 1 ∧ 1 ≤ (parts c l).length
  | [] => ⟨by simp [parts], by simp [parts]⟩
  | x :: l => by
    have ih := parts_len (c := c) l
    rw [parts]
    split
    · simp only [List.length_cons]; omega
    · split
      · simp
      · rename_i h t e
        rw [e] at ih
        simp only [List.length_cons] at ih ⊢
        omega
theorem l7Cut_loop (s : ByteArray) (c : UInt8) (hs : s.size ≤ 1048576) : ∀ e i, i + e = s.size → ∀ (acc : List ByteArray) (w : List UInt8), acc.length ≤ i → w.length ≤ i → Tot (fun k => spec_l7Cut.l0 k s (c.toNat : Int) acc (baOf w) i) (fun r => r = acc ++ (glue w (parts c (s.data.toList.drop i))).map baOf)
  | 0, i, h, acc, w, ha, hw => by
    refine Tot.succ ?_
    simp only [spec_l7Cut.l0]
    refine Tot.neg (by omega) (Tot.pos (by omega) (Tot.ret ?_))
    rw [List.drop_of_length_le (by rw [← ba_size]; omega)]
    simp [parts, glue]
  | e + 1, i, h, acc, w, ha, hw => by
    have hi : i < s.data.toList.length := by rw [← ba_size]; omega
    have hd := List.drop_eq_getElem_cons hi
    obtain ⟨x, hx⟩ : ∃ x, s.data.toList[i] = x := ⟨_, rfl⟩
    rw [hx] at hd
    have hb : bt s (i : Int) = (x.toNat : Int) := by rw [bt_nat s i hi, hx]
    refine Tot.succ ?_
    simp only [spec_l7Cut.l0]
    refine Tot.pos (by omega) (Tot.pos (by omega) ?_)
    rw [hb, hd, parts]
    by_cases hc : x = c
    · refine Tot.pos (by rw [hc]) (Tot.pos (by omega) ?_)
      rw [wr_id (by omega) (by omega), if_pos hc]
      refine Tot.mono (l7Cut_loop s c hs e (i + 1) (by omega) (acc ++ [baOf w]) [] (by simp; omega) (by simp)) ?_
      rintro r rfl
      rw [glue_nil]
      simp [glue]
    · have hcn : ¬ ((x.toNat : Int) = (c.toNat : Int)) := fun e => hc (UInt8.toNat_inj.1 (by omega))
      have he : s.extract ((i : Int)).toNat (((i + 1 : Nat) : Int)).toNat = baOf [x] := by
        apply ba_ext
        rw [ByteArray.data_extract, Array.toList_extract, Int.toNat_natCast, Int.toNat_natCast, baOf_list]
        have : s.data.toList.extract i (i + 1) = [x] := by
          rw [List.extract_eq_take_drop, hd]
          simp
        exact this
      refine Tot.neg hcn ?_
      rw [wr_id (by omega) (by omega), show ((i : Int) + 1) = ((i + 1 : Nat) : Int) by omega, he]
      refine Tot.pos (by omega) (Tot.pos (by omega) (Tot.pos ?_ ?_))
      · rw [ba_size, ba_size, baOf_list, baOf_list]; simp only [List.length_cons, List.length_nil]; omega
      rw [if_neg hc]
      have hw2 : baOf w ++ baOf [x] = baOf (w ++ [x]) := ba_ext (by rw [ba_app]; rfl)
      rw [hw2]
      refine Tot.mono (l7Cut_loop s c hs e (i + 1) (by omega) acc (w ++ [x]) (by omega) (by simp; omega)) ?_
      rintro r rfl
      cases hp : parts c (s.data.toList.drop (i + 1)) with
      | nil => simp [glue]
      | cons a t => simp [glue]
theorem l7Cut_tot (s : ByteArray) (c : UInt8) (hs : s.size ≤ 1048576) : Tot (fun k => spec_l7Cut.f k s (c.toNat : Int)) (fun r => r = (parts c s.data.toList).map baOf) := by
  unfold spec_l7Cut.f
  refine Tot.mono (l7Cut_loop s c hs s.size 0 (by omega) [] [] (by simp) (by simp)) ?_
  rintro r rfl
  rw [List.drop_zero, glue_nil, List.nil_append]
/-! ### Numbers -/
theorem numOf_le : ∀ l : List UInt8, numOf l ≤ 1000 ^ l.length := by
  have key : ∀ (l : List UInt8) (a n : Nat), a ≤ n → l.foldl (fun a d => 10 * a + (d.toNat - 48)) a ≤ n * 1000 ^ l.length + (1000 ^ l.length - 1) := by
    intro l
    induction l with
    | nil => intro a n h; simp; omega
    | cons d l ih =>
      intro a n h
      have hd := d.toNat_lt
      have := ih (10 * a + (d.toNat - 48)) (10 * n + 207) (by omega)
      rw [List.foldl_cons, List.length_cons, Nat.pow_succ]
      have hp : 1 ≤ 1000 ^ l.length := Nat.one_le_pow _ _ (by omega)
      have h2 : (10 * n + 207) * 1000 ^ l.length = 10 * (n * 1000 ^ l.length) + 207 * 1000 ^ l.length := by rw [Nat.add_mul, Nat.mul_assoc]
      have h3 : n * (1000 ^ l.length * 1000) = 1000 * (n * 1000 ^ l.length) := by rw [← Nat.mul_assoc, Nat.mul_comm]
      have h4 : 0 ≤ n * 1000 ^ l.length := Nat.zero_le _
      generalize n * 1000 ^ l.length = q at *
      generalize 1000 ^ l.length = p at *
      omega
  intro l
  have := key l 0 0 (Nat.le_refl _)
  have hp : 1 ≤ 1000 ^ l.length := Nat.one_le_pow _ _ (by omega)
  unfold numOf
  omega
theorem numOf_lt5 (l : List UInt8) (h : l.length ≤ 5) : numOf l ≤ 1000000000000000 := by
  have h1 := numOf_le l
  have h2 : 1000 ^ l.length ≤ 1000 ^ 5 := Nat.pow_le_pow_right (by omega) h
  have h3 : 1000 ^ 5 = 1000000000000000 := by decide
  omega
theorem take_num (l : List UInt8) (i : Nat) (h : i < l.length) : numOf (l.take (i + 1)) = 10 * numOf (l.take i) + ((l[i]).toNat - 48) := by
  rw [List.take_add_one, List.getElem?_eq_getElem h]
  exact numOf_snoc _ _
theorem numRead_loop (s : ByteArray) (h6 : s.data.toList.length ≤ 6) : ∀ e i, i + e = s.data.toList.length → Tot (fun k => impl_numberRead.l0 k s (numOf (s.data.toList.take i)) (s.data.toList.length : Int) i) (fun r => (∀ d ∈ s.data.toList, 48 ≤ d.toNat ∧ d.toNat ≤ 57) → r = ((numOf s.data.toList : Int), true))
  | 0, i, h => by
    refine Tot.succ ?_
    simp only [impl_numberRead.l0]
    refine Tot.neg (by omega) (Tot.ret (fun _ => ?_))
    rw [List.take_of_length_le (by omega)]
  | e + 1, i, h => by
    have hi : i < s.data.toList.length := by omega
    have hn := numOf_lt5 (s.data.toList.take i) (by rw [List.length_take]; omega)
    refine Tot.succ ?_
    simp only [impl_numberRead.l0]
    refine Tot.pos (by omega) (Tot.pos (by omega) (Tot.pos (by rw [ba_size]; omega) ?_))
    rw [bt_nat s i hi]
    have hm := List.getElem_mem hi
    refine Tot.ite (fun h48 => Tot.ret (fun hd => ?_)) (fun h48 => Tot.ite (fun h57 => Tot.ret (fun hd => ?_)) (fun h57 => ?_))
    · have := hd _ hm; omega
    · have := hd _ hm; omega
    have hd0 := (s.data.toList[i]).toNat_lt
    have ih := numRead_loop s h6 e (i + 1) (by omega)
    have he : wrap64 (wrap64 (10 * (numOf (s.data.toList.take i) : Int)) + ((((s.data.toList[i]).toNat : Int) - 48) % 256)) = (numOf (s.data.toList.take (i + 1)) : Int) := by
      rw [take_num _ _ hi, wr_id (x := 10 * (numOf (s.data.toList.take i) : Int)) (by omega) (by omega), wr_id (by omega) (by omega)]
      omega
    rw [he, wr_id (by omega) (by omega)]
    exact ih
theorem dec_head (n : Nat) (h0 : 0 < n) : (Lib.decDigits n).head? ≠ some 48 := by
  induction n using Nat.strongRecOn with
  | _ n ih =>
    rw [Lib.decDigits.eq_def]
    split
    · rename_i h
      intro e
      have := congrArg UInt8.toNat (Option.some.inj e)
      rw [dig_toNat n h] at this
      have h48 : (48 : UInt8).toNat = 48 := rfl
      omega
    · rename_i h
      have := ih (n / 10) (by omega) (by omega)
      cases hd : Lib.decDigits (n / 10) with
      | nil => have hp := Lib.nDigits_pos (n / 10); rw [← Lib.decDigits_length, hd] at hp; simp at hp
      | cons x l =>
        rw [hd] at this
        simpa using this
theorem itoa_le4 (n : Nat) (h : n ≤ 9999) : 1 ≤ (Lib.itoa (n : Int)).length ∧ (Lib.itoa (n : Int)).length ≤ 4 := by
  rw [Lib.itoa_nonneg, Lib.decDigits_length]
  refine ⟨Lib.nDigits_pos n, ?_⟩
  by_cases h1 : n < 10
  · rw [Lib.nDigits_small h1]; omega
  rw [Lib.nDigits_big h1]
  by_cases h2 : n / 10 < 10
  · rw [Lib.nDigits_small h2]; omega
  rw [Lib.nDigits_big h2]
  by_cases h3 : n / 10 / 10 < 10
  · rw [Lib.nDigits_small h3]; omega
  rw [Lib.nDigits_big h3, Lib.nDigits_small (by omega)]
  omega
theorem numRead_j0 (s : ByteArray) : Tot (fun k => impl_numberRead.j0 k s true) (fun r => r = (0, false)) := Tot.succ (by simp only [impl_numberRead.j0]; exact Tot.pos trivial (Tot.ret rfl))
theorem numRead_j1 (s : ByteArray) (h6 : s.data.toList.length ≤ 6) : Tot (fun k => impl_numberRead.j0 k s false) (fun r => ∀ n : Nat, s.data.toList = Lib.itoa (n : Int) → r = ((n : Int), true)) := by
  refine Tot.succ ?_
  simp only [impl_numberRead.j0]
  refine Tot.neg (by decide) ?_
  have := numRead_loop s h6 s.data.toList.length 0 (by omega)
  rw [ba_size]
  refine Tot.mono this ?_
  intro r hr n e
  have hd := hr (by rw [e]; exact itoa_dig n)
  rw [hd, e, Lib.itoa_nonneg, dec_num]
theorem numRead_tot (s : ByteArray) : Tot (fun k => impl_numberRead.f k s) (fun r => ∀ n : Nat, n ≤ 9999 → s.data.toList = Lib.itoa (n : Int) → r = ((n : Int), true)) := by
  unfold impl_numberRead.f
  have hsz := ba_size s
  refine Tot.ite (fun h0 => ?_) (fun h0 => Tot.ite (fun h6 => ?_) (fun h6 => ?_))
  · refine Tot.mono (numRead_j0 s) (fun r _ n hn e => ?_)
    rw [Lib.toList_data] at h0
    have := (itoa_le4 n hn).1
    rw [← e, h0] at this
    simp at this
  · refine Tot.mono (numRead_j0 s) (fun r _ n hn e => ?_)
    have := (itoa_le4 n hn).2
    rw [← e] at this
    omega
  · have hne : 0 < s.data.toList.length := by
      rw [Lib.toList_data] at h0
      exact List.length_pos_iff.2 h0
    refine Tot.pos (by omega) ?_
    have hj := numRead_j1 s (by omega)
    have hb := bt_nat s 0 hne
    refine Tot.ite (fun h48 => ?_) (fun h48 => Tot.mono hj (fun r hr n _ e => hr n e))
    by_cases h1 : (s.size : Int) > 1
    · rw [show decide ((s.size : Int) > 1) = true from decide_eq_true h1]
      refine Tot.mono (numRead_j0 s) (fun r _ n hn e => ?_)
      exfalso
      have hh : s.data.toList.head? = some 48 := by
        cases hl : s.data.toList with
        | nil => rw [hl] at hne; simp at hne
        | cons x l =>
          have hx : (bt s 0) = (x.toNat : Int) := by
            rw [show (0 : Int) = ((0 : Nat) : Int) from rfl, hb]
            simp [hl]
          rw [hx] at h48
          have : x = 48 := UInt8.toNat_inj.1 (by have h48' : (48 : UInt8).toNat = 48 := rfl; omega)
          rw [this]
          rfl
      rw [e, Lib.itoa_nonneg] at hh
      have hn0 : 0 < n := by
        rcases Nat.eq_zero_or_pos n with h | h
        · subst h
          have : s.data.toList.length = 1 := by rw [e, Lib.itoa_nonneg, Lib.decDigits_length, Lib.nDigits_small (by omega)]
          omega
        · exact h
      exact dec_head n hn0 hh
    · rw [show decide ((s.size : Int) > 1) = false from decide_eq_false h1]
      exact Tot.mono hj (fun r hr n _ e => hr n e)
/-- A text of digits alone is read as its number, by the reference. -/
theorem l7Num_loop (s : ByteArray) (h4 : s.data.toList.length ≤ 4) : ∀ e i, i + e = s.data.toList.length → Tot (fun k => spec_l7Num.l0 k s (numOf (s.data.toList.take i)) i) (fun r => ∀ n : Nat, s.data.toList = Lib.itoa (n : Int) → r = (n : Int))
  | 0, i, h => by
    have hn := numOf_lt5 s.data.toList (by omega)
    refine Tot.succ ?_
    simp only [spec_l7Num.l0]
    refine Tot.neg (by rw [ba_size]; omega) ?_
    rw [List.take_of_length_le (by omega)]
    refine Tot.bind (plainF_tot _ (by omega)) ?_
    rintro _ rfl
    refine Tot.ite (fun _ => Tot.ret (fun n e => ?_)) (fun hh => Tot.ret (fun n e => absurd ?_ hh))
    · rw [e, Lib.itoa_nonneg, dec_num]
    · rw [Lib.toList_data, Lib.toList_data, e]
      rw [show numOf (Lib.itoa (n : Int)) = n by rw [Lib.itoa_nonneg, dec_num]]
  | e + 1, i, h => by
    have hi : i < s.data.toList.length := by omega
    have hn := numOf_lt5 (s.data.toList.take i) (by rw [List.length_take]; omega)
    refine Tot.succ ?_
    simp only [spec_l7Num.l0]
    refine Tot.pos (by rw [ba_size]; omega) (Tot.pos (by omega) ?_)
    rw [bt_nat s i hi]
    have hm := List.getElem_mem hi
    refine Tot.ite (fun h48 => Tot.ret (fun n e => ?_)) (fun h48 => Tot.ite (fun h57 => Tot.ret (fun n e => ?_)) (fun h57 => ?_))
    · have := itoa_dig n _ (by rw [← e]; exact hm); omega
    · have := itoa_dig n _ (by rw [← e]; exact hm); omega
    have hd0 := (s.data.toList[i]).toNat_lt
    have ih := l7Num_loop s h4 e (i + 1) (by omega)
    have he : wrap64 (wrap64 ((numOf (s.data.toList.take i) : Int) * 10) + ((((s.data.toList[i]).toNat : Int) - 48) % 256)) = (numOf (s.data.toList.take (i + 1)) : Int) := by
      rw [take_num _ _ hi, wr_id (x := (numOf (s.data.toList.take i) : Int) * 10) (by omega) (by omega), wr_id (by omega) (by omega)]
      omega
    rw [he, wr_id (by omega) (by omega)]
    exact ih
theorem l7Num_tot (s : ByteArray) : Tot (fun k => spec_l7Num.f k s) (fun r => ∀ n : Nat, n ≤ 9999 → s.data.toList = Lib.itoa (n : Int) → r = (n : Int)) := by
  have hsz := ba_size s
  have t1 : Tot (fun k => spec_l7Num.j0 k s true) (fun r => True) := Tot.succ (by simp only [spec_l7Num.j0]; exact Tot.pos trivial (Tot.ret trivial))
  unfold spec_l7Num.f
  refine Tot.ite (fun h0 => Tot.mono t1 (fun r _ n hn e => ?_)) (fun h0 => ?_)
  · have := (itoa_le4 n hn).1
    rw [← e] at this
    omega
  · by_cases h4 : (s.size : Int) > 4
    · rw [show decide ((s.size : Int) > 4) = true from decide_eq_true h4]
      refine Tot.mono t1 (fun r _ n hn e => ?_)
      have := (itoa_le4 n hn).2
      rw [← e] at this
      omega
    · rw [show decide ((s.size : Int) > 4) = false from decide_eq_false h4]
      refine Tot.succ ?_
      simp only [spec_l7Num.j0]
      refine Tot.neg (by decide) ?_
      exact Tot.mono (l7Num_loop s (by omega) s.data.toList.length 0 (by omega)) (fun r hr n _ e => hr n e)
end Go.Proofs.YtfafjpfigphchaaDoor.X
namespace Go.Proofs.YtfafjpfigphchaaDoor.X
open Go.RowKit Go.Proofs.YtfafjpfigphchaaDoorW.PrintWords Go.Proofs.YtfafjpfigphchaaDoor.Pl
set_option linter.unusedSimpArgs false
set_option linter.unusedVariables false
abbrev OpR := Int × Int × Int × Int × Int × Bool
/-- What is read of a text is what has it. -/
def Said (s : ByteArray) (r : OpR) : Prop := ∃ o a b c d : Int, opOkB o a b c d = true ∧ opTextF o a b c d = s ∧ r = (o, a, b, c, d, true)
theorem opTextF_no {o a b c d : Int} (h : opOkB o a b c d = false) : opTextF o a b c d = ⟨#[]⟩ := by
  unfold opTextF; rw [if_neg (by rw [h]; decide)]
theorem opTextF_ne {o a b c d : Int} (h : opOkB o a b c d = true) : (opTextF o a b c d).data.toList ≠ [] := by
  obtain ⟨k, rfl, k1, k9, hn, _⟩ := opOk_rest h
  rw [opTextF_list h, Int.toNat_natCast]
  have hkk : k = 1 ∨ k = 2 ∨ k = 3 ∨ k = 4 ∨ k = 5 ∨ k = 6 ∨ k = 7 ∨ k = 8 := by omega
  rcases hkk with rfl | rfl | rfl | rfl | rfl | rfl | rfl | rfl <;> simp [opL, formW, formsL]
theorem implOk_tot (kd a b c d : Int) : Tot (fun k => impl_OpOk.f k kd a b c d) (fun t => t = opOkB kd a b c d) :=
  ⟨_, ⟨1, fun k hk => by obtain ⟨j, rfl⟩ : ∃ j, k = j + 1 := ⟨k - 1, by omega⟩; exact impl_OpOk_some j kd a b c d⟩, rfl⟩
theorem opEnd_tot (s : ByteArray) (kd a b c d : Int) : Tot (fun k => opEnd k s kd a b c d) (fun r => (opOkB kd a b c d = true ∧ opTextF kd a b c d = s ∧ r = (kd, a, b, c, d, true)) ∨ (¬ (opOkB kd a b c d = true ∧ opTextF kd a b c d = s) ∧ r = zR)) := by
  unfold opEnd
  refine Tot.bind (implOk_tot kd a b c d) ?_
  rintro _ rfl
  cases h : opOkB kd a b c d with
  | false => exact Tot.neg (by decide) (Tot.ret (.inr ⟨fun hh => absurd hh.1 (by decide), rfl⟩))
  | true =>
    refine Tot.pos rfl ?_
    refine Tot.bind (impl_OpText_tot _ _ _ _ _) ?_
    rintro _ rfl
    refine Tot.ite (fun he => Tot.ret (.inl ⟨rfl, toList_ba.1 he, rfl⟩)) (fun he => Tot.ret (.inr ⟨fun hh => he (toList_ba.2 hh.2), rfl⟩))
theorem scan_tot : ∀ (ps : List ByteArray) (fl : Bool), Tot (fun k => scanF k ps fl) (fun r => r.1.length = ps.length)
  | [], fl => by simp only [scanF]; exact Tot.ret rfl
  | p :: ps, fl => by
    simp only [scanF]
    refine Tot.bind (numRead_tot p) ?_
    intro r _
    refine Tot.bind (scan_tot ps (fl || !r.2)) ?_
    intro x hx
    exact Tot.ret (by simp [hx])
theorem scan_nums : ∀ ns : List Int, (∀ n ∈ ns, 0 ≤ n ∧ n ≤ 9999) → Tot (fun k => scanF k ((ns.map Lib.itoa).map baOf) false) (fun r => r = (ns, false))
  | [], _ => by simp only [List.map_nil, scanF]; exact Tot.ret rfl
  | n :: ns, h => by
    obtain ⟨h0, h1⟩ := h n (List.mem_cons_self ..)
    obtain ⟨m, rfl⟩ := Int.eq_ofNat_of_zero_le h0
    simp only [List.map_cons, scanF]
    refine Tot.bind (numRead_tot _) ?_
    intro r hr
    obtain rfl := hr m (by omega) rfl
    refine Tot.bind (scan_nums ns (fun x hx => h x (List.mem_cons_of_mem _ hx))) ?_
    rintro _ rfl
    exact Tot.ret rfl
theorem kind_word : ∀ k : Fin 9, 1 ≤ k.val → kindGo (formW k.val) 8 1 = ((k.val : Int), true) := by decide +kernel
theorem cut_len (s : ByteArray) : (Lib.cut s.data.toList [46]).2.1.length ≤ s.size := by
  rw [ba_size]
  rcases split_at (c := (46 : UInt8)) s.data.toList with h | ⟨a, b, e, h⟩
  · rw [cut_none h]; simp
  · rw [e, cut_app h]
    simp only [List.length_append, List.length_cons]
    omega
theorem implRead_sound (s : ByteArray) (hs : s.size ≤ 1048576) : Tot (fun k => impl_OpRead.f k s) (fun r => Said s r ∨ r = zR) := by
  have fin : ∀ kd a b c d : Int, Tot (fun k => opEnd k s kd a b c d) (fun r => Said s r ∨ r = zR) := fun kd a b c d => Tot.mono (opEnd_tot s kd a b c d) (fun r h => h.elim (fun h => .inl ⟨kd, a, b, c, d, h⟩) (fun h => .inr h.2))
  unfold impl_OpRead.f
  refine Tot.pos hs (Tot.ite (fun _ => Tot.ite (fun _ => Tot.pos ?_ ?_) (fun _ => fin _ _ _ _ _)) (fun _ => Tot.ret (.inr rfl)))
  · rw [List.size_toArray]; have := cut_len s; omega
  · refine Tot.bind (scan_tot _ _) ?_
    intro x _
    exact Tot.ite (fun _ => Tot.ret (.inr rfl)) (fun _ => Tot.ite (fun _ => Tot.ret (.inr rfl)) (fun _ => fin _ _ _ _ _))
/-- The numbers of an operation, and what its text looks like. -/
theorem op_form {o a b c d : Int} (h : opOkB o a b c d = true) : ∃ k : Nat, o = k ∧ 1 ≤ k ∧ k < 9 ∧ ∃ ns : List Int, (∀ n ∈ ns, 0 ≤ n ∧ n ≤ 255) ∧ ns.length ≤ 4 ∧ [a, b, c, d] = pad4 ns ∧ (opTextF o a b c d).data.toList = opL (formW k).data.toList ns := by
  obtain ⟨k, rfl, k1, k9, hn, hr⟩ := opOk_rest h
  refine ⟨k, rfl, k1, k9, [a, b, c, d].take (formN k), fun n hm => hn n (List.mem_of_mem_take hm), by simp; omega, ?_, opTextF_list h⟩
  have h4 := formN_le k k9
  have hl : ([a, b, c, d].take (formN k)).length = formN k := by rw [List.length_take]; simp; omega
  unfold pad4
  rw [hl]
  exact hr
theorem pad4_get {a b c d : Int} {ns : List Int} (h : [a, b, c, d] = pad4 ns) : (pad4 ns).getD 0 0 = a ∧ (pad4 ns).getD 1 0 = b ∧ (pad4 ns).getD 2 0 = c ∧ (pad4 ns).getD 3 0 = d := by
  rw [← h]
  exact ⟨rfl, rfl, rfl, rfl⟩
theorem end_ok {s : ByteArray} {o a b c d : Int} (h : opOkB o a b c d = true) (e : opTextF o a b c d = s) : Tot (fun k => opEnd k s o a b c d) (fun r => r = (o, a, b, c, d, true)) :=
  Tot.mono (opEnd_tot s o a b c d) (fun r h2 => h2.elim (fun x => x.2.2) (fun x => absurd ⟨h, e⟩ x.1))
theorem implRead_complete (s : ByteArray) (hs : s.size ≤ 1048576) {o a b c d : Int} (h : opOkB o a b c d = true) (e : opTextF o a b c d = s) : Tot (fun k => impl_OpRead.f k s) (fun r => r = (o, a, b, c, d, true)) := by
  obtain ⟨k, rfl, k1, k9, ns, hns, hl, hp, ht⟩ := op_form h
  rw [e] at ht
  have hw := formW_no (c := 46) (by decide) k k9
  have hkd := kind_word ⟨k, k9⟩ k1
  dsimp only at hkd
  have hrs := cut_len s
  unfold impl_OpRead.f
  refine Tot.pos hs ?_
  cases ns with
  | nil =>
    have hc : Lib.cut s.data.toList [46] = ((formW k).data.toList, [], false) := by
      rw [ht]
      have : opL (formW k).data.toList [] = (formW k).data.toList := by simp [opL]
      rw [this]
      exact cut_none hw
    rw [hc]
    dsimp only
    rw [show (⟨(formW k).data.toList.toArray⟩ : ByteArray) = formW k from baOf_self _, hkd]
    refine Tot.pos rfl (Tot.neg (by decide) ?_)
    have e4 := pad4_get hp
    obtain ⟨rfl, rfl, rfl, rfl⟩ : a = 0 ∧ b = 0 ∧ c = 0 ∧ d = 0 := ⟨e4.1.symm, e4.2.1.symm, e4.2.2.1.symm, e4.2.2.2.symm⟩
    exact end_ok h e
  | cons n ms =>
    have hc : Lib.cut s.data.toList [46] = ((formW k).data.toList, Lib.itoa n ++ ms.flatMap (fun n => 46 :: Lib.itoa n), true) := by
      rw [ht]
      have : opL (formW k).data.toList (n :: ms) = (formW k).data.toList ++ 46 :: (Lib.itoa n ++ ms.flatMap (fun n => 46 :: Lib.itoa n)) := by simp [opL]
      rw [this]
      exact cut_app hw
    have hpr : parts 46 (Lib.itoa n ++ ms.flatMap (fun n => 46 :: Lib.itoa n)) = (n :: ms).map Lib.itoa := by
      obtain ⟨m, rfl⟩ := Int.eq_ofNat_of_zero_le (hns n (List.mem_cons_self ..)).1
      exact parts_opL (Lib.itoa (m : Int)) (itoa_no (by decide) m) ms (fun x hx => (hns x (List.mem_cons_of_mem _ hx)).1)
    rw [hc] at hrs ⊢
    dsimp only at hrs ⊢
    rw [show (⟨(formW k).data.toList.toArray⟩ : ByteArray) = formW k from baOf_self _, hkd]
    refine Tot.pos rfl (Tot.pos rfl (Tot.pos (by rw [List.size_toArray]; omega) ?_))
    rw [partsB_parts]
    show Tot (fun k_1 => (scanF k_1 ((parts 46 (Lib.itoa n ++ ms.flatMap (fun n => 46 :: Lib.itoa n))).map baOf) false).bind _) _
    rw [hpr]
    refine Tot.bind (scan_nums (n :: ms) (fun x hx => by have := hns x hx; omega)) ?_
    rintro _ rfl
    refine Tot.neg (fun hh => Bool.false_ne_true hh) (Tot.neg (by dsimp only; omega) ?_)
    dsimp only
    obtain ⟨g0, g1, g2, g3⟩ := pad4_get hp
    rw [g0, g1, g2, g3]
    exact end_ok h e
theorem implRead_tot (s : ByteArray) (hs : s.size ≤ 1048576) : Tot (fun k => impl_OpRead.f k s) (fun r => Said s r ∨ ((∀ r, ¬ Said s r) ∧ r = zR)) := by
  by_cases hx : ∃ r, Said s r
  · obtain ⟨_, o, a, b, c, d, h, e, rfl⟩ := hx
    exact Tot.mono (implRead_complete s hs h e) (fun r hr => .inl ⟨o, a, b, c, d, h, e, hr⟩)
  · exact Tot.mono (implRead_sound s hs) (fun r hr => hr.elim .inl (fun hz => .inr ⟨fun r h => hx ⟨r, h⟩, hz⟩))
/-! ### The reference -/
theorem specL1_tot (s : ByteArray) (a b c d : Int) : ∀ e i : Nat, i + e = 9 → 1 ≤ i → Tot (fun k => spec_OpRead.l1 k s [a, b, c, d] i) (fun r => (∃ o : Nat, i ≤ o ∧ opOkB o a b c d = true ∧ opTextF o a b c d = s ∧ r = ((o : Int), a, b, c, d, true)) ∨ ((∀ o : Nat, i ≤ o → o ≤ 8 → ¬ (opOkB o a b c d = true ∧ opTextF o a b c d = s)) ∧ r = zR))
  | 0, i, h, h1 => by
    refine Tot.succ ?_
    simp only [spec_OpRead.l1]
    exact Tot.neg (by omega) (Tot.ret (.inr ⟨fun o h1 h2 => absurd h1 (by omega), rfl⟩))
  | e + 1, i, h, h1 => by
    have ih := specL1_tot s a b c d e (i + 1) (by omega) (by omega)
    have next : ¬ (opOkB (i : Int) a b c d = true ∧ opTextF (i : Int) a b c d = s) → Tot (fun k => spec_OpRead.l1 k s [a, b, c, d] (wrap64 ((i : Int) + 1))) (fun r => (∃ o : Nat, i ≤ o ∧ opOkB o a b c d = true ∧ opTextF o a b c d = s ∧ r = ((o : Int), a, b, c, d, true)) ∨ ((∀ o : Nat, i ≤ o → o ≤ 8 → ¬ (opOkB o a b c d = true ∧ opTextF o a b c d = s)) ∧ r = zR)) := by
      intro hno
      rw [wr_id (by omega) (by omega)]
      refine Tot.mono ih (fun r hr => hr.elim (fun ⟨o, h1, h2⟩ => .inl ⟨o, by omega, h2⟩) (fun ⟨h1, h2⟩ => .inr ⟨fun o ho h8 => ?_, h2⟩))
      by_cases hoi : o = i
      · subst hoi; exact hno
      · exact h1 o (by omega) h8
    refine Tot.succ ?_
    simp only [spec_OpRead.l1]
    refine Tot.pos (by omega) (Tot.pos (by simp) (Tot.pos (by simp) (Tot.pos (by simp) (Tot.pos (by simp) ?_))))
    rw [show rd [a, b, c, d] 0 = a from rfl, show rd [a, b, c, d] 1 = b from rfl, show rd [a, b, c, d] 2 = c from rfl, show rd [a, b, c, d] 3 = d from rfl]
    refine Tot.bind (spec_OpText_tot _ _ _ _ _) ?_
    rintro _ rfl
    refine Tot.ite (fun he => ?_) (fun he => next (fun hh => he (toList_ba.2 hh.2)))
    have he2 := toList_ba.1 he
    refine Tot.ite (fun h0 => next (fun hh => ?_)) (fun h0 => Tot.ret (.inl ⟨i, Nat.le_refl _, ?_, he2, rfl⟩))
    · rw [Lib.toList_data] at h0
      exact opTextF_ne hh.1 (by rw [hh.2, h0])
    · cases hk : opOkB (i : Int) a b c d with
      | true => rfl
      | false =>
        rw [opTextF_no hk] at he2
        rw [← he2] at h0
        exact absurd (by rw [Lib.toList_data]) h0
theorem specJ1_tot (s : ByteArray) (a b c d : Int) : Tot (fun k => spec_OpRead.j1 k s [a, b, c, d]) (fun r => (∃ o : Nat, 1 ≤ o ∧ opOkB o a b c d = true ∧ opTextF o a b c d = s ∧ r = ((o : Int), a, b, c, d, true)) ∨ ((∀ o : Nat, 1 ≤ o → o ≤ 8 → ¬ (opOkB o a b c d = true ∧ opTextF o a b c d = s)) ∧ r = zR)) := by
  refine Tot.succ ?_
  simp only [spec_OpRead.j1]
  exact specL1_tot s a b c d 8 1 (by omega) (by omega)
theorem four {l : List Int} (h : l.length = 4) : ∃ a b c d, l = [a, b, c, d] := by
  match l, h with
  | [a, b, c, d], _ => exact ⟨a, b, c, d, rfl⟩
theorem specL0_sound (s : ByteArray) (ps : List ByteArray) (hps : ps.length ≤ 1048577) : ∀ e i : Nat, i + e = 5 → 1 ≤ i → ∀ all : List Int, all.length = 4 → Tot (fun k => spec_OpRead.l0 k s ps all i) (fun r => Said s r ∨ r = zR)
  | e, i, h, h1, all, h4 => by
    have fin : Tot (fun k => spec_OpRead.j1 k s all) (fun r => Said s r ∨ r = zR) := by
      obtain ⟨a, b, c, d, rfl⟩ := four h4
      exact Tot.mono (specJ1_tot s a b c d) (fun r hr => hr.elim (fun ⟨o, _, h2⟩ => .inl ⟨o, a, b, c, d, h2⟩) (fun hz => .inr hz.2))
    refine Tot.succ ?_
    simp only [spec_OpRead.l0]
    refine Tot.ite (fun hi => Tot.ite (fun h5 => ?_) (fun h5 => fin)) (fun hi => fin)
    obtain ⟨e, rfl⟩ : ∃ e', e = e' + 1 := ⟨e - 1, by omega⟩
    refine Tot.pos (by omega) ?_
    refine Tot.bind (l7Num_tot _) ?_
    intro v _
    rw [wr_id (x := (i : Int) - 1) (by omega) (by omega), wr_id (by omega) (by omega)]
    exact Tot.pos (by omega) (Tot.pos (by rw [h4]; omega) (specL0_sound s ps hps e (i + 1) (by omega) (by omega) _ (by rw [List.length_set]; exact h4)))
theorem pad_set (ns : List Int) (j : Nat) (h : j < ns.length) (h4 : ns.length ≤ 4) : ((ns.take j ++ List.replicate (4 - j) 0).set j (ns.getD j 0)) = ns.take (j + 1) ++ List.replicate (4 - (j + 1)) 0 := by
  have hl : (ns.take j).length = j := by rw [List.length_take]; omega
  rw [List.set_append_right _ _ (by omega), hl, Nat.sub_self, show 4 - j = (4 - (j + 1)) + 1 by omega, List.replicate_succ, List.set_cons_zero, List.take_add_one, List.getElem?_eq_getElem h, List.append_assoc]
  simp [List.getD_eq_getElem?_getD, h]
theorem specL0_nums (s W : ByteArray) (ns : List Int) (hns : ∀ n ∈ ns, 0 ≤ n ∧ n ≤ 255) (h4 : ns.length ≤ 4) {P : OpR → Prop} (fin : Tot (fun k => spec_OpRead.j1 k s (pad4 ns)) P) : ∀ e j : Nat, j + e = ns.length → Tot (fun k => spec_OpRead.l0 k s (W :: (ns.map Lib.itoa).map baOf) (ns.take j ++ List.replicate (4 - j) 0) ((j : Int) + 1)) P
  | 0, j, h => by
    refine Tot.succ ?_
    simp only [spec_OpRead.l0]
    refine Tot.neg (by simp; omega) ?_
    rw [List.take_of_length_le (by omega), show j = ns.length by omega]
    exact fin
  | e + 1, j, h => by
    have hj : j < ns.length := by omega
    obtain ⟨h0, h255⟩ := hns _ (List.getElem_mem hj)
    obtain ⟨m, hm⟩ := Int.eq_ofNat_of_zero_le h0
    have ih := specL0_nums s W ns hns h4 fin e (j + 1) (by omega)
    have hr : rdOf ByteArray.empty (W :: (ns.map Lib.itoa).map baOf) ((j : Int) + 1) = baOf (Lib.itoa (m : Int)) := by
      rw [← hm]
      have : ((j : Int) + 1).toNat = j + 1 := by omega
      unfold rdOf
      rw [this]
      simp [List.getD_eq_getElem?_getD, hj]
    refine Tot.succ ?_
    simp only [spec_OpRead.l0]
    refine Tot.pos (by simp; omega) (Tot.pos (by omega) (Tot.pos (by omega) ?_))
    rw [hr]
    refine Tot.bind (l7Num_tot _) ?_
    intro v hv
    obtain rfl := hv m (by omega) rfl
    rw [wr_id (x := (j : Int) + 1 - 1) (by omega) (by omega), wr_id (by omega) (by omega)]
    refine Tot.pos (by omega) (Tot.pos ?_ ?_)
    · rw [List.length_append, List.length_take, List.length_replicate]; omega
    · have hs := pad_set ns j hj h4
      have hg : ns.getD j 0 = (m : Int) := by rw [← hm]; simp [List.getD_eq_getElem?_getD, hj]
      rw [hg] at hs
      rw [show ((j : Int) + 1 - 1).toNat = j by omega, hs]
      exact ih
theorem specRead_sound (s : ByteArray) (hs : s.size ≤ 1048576) : Tot (fun k => spec_OpRead.f k s) (fun r => Said s r ∨ r = zR) := by
  unfold spec_OpRead.f
  refine Tot.bind (l7Cut_tot s 46 hs) ?_
  rintro _ rfl
  have hl := (parts_len (c := 46) s.data.toList).1
  rw [← ba_size] at hl
  exact specL0_sound s _ (by rw [List.length_map]; omega) 4 1 (by omega) (by omega) _ rfl
theorem specRead_complete (s : ByteArray) (hs : s.size ≤ 1048576) {o a b c d : Int} (h : opOkB o a b c d = true) (e : opTextF o a b c d = s) : Tot (fun k => spec_OpRead.f k s) (fun r => r = (o, a, b, c, d, true)) := by
  obtain ⟨k, rfl, k1, k9, ns, hns, hl, hp, ht⟩ := op_form h
  rw [e] at ht
  have hpr := parts_opL _ (formW_no (c := 46) (by decide) k k9) ns (fun x hx => (hns x hx).1)
  unfold spec_OpRead.f
  refine Tot.bind (l7Cut_tot s 46 hs) ?_
  rintro _ rfl
  rw [ht, hpr]
  refine specL0_nums s _ ns hns hl ?_ ns.length 0 (by omega)
  rw [← hp]
  refine Tot.mono (specJ1_tot s a b c d) (fun r hr => ?_)
  rcases hr with ⟨o', _, h2, h3, h4⟩ | ⟨h1, _⟩
  · obtain ⟨e0, _⟩ := opTextF_inj h h2 (e.trans h3.symm)
    rw [h4, e0]
  · exact absurd ⟨h, e⟩ (h1 k k1 (by omega))
theorem specRead_tot (s : ByteArray) (hs : s.size ≤ 1048576) : Tot (fun k => spec_OpRead.f k s) (fun r => Said s r ∨ ((∀ r, ¬ Said s r) ∧ r = zR)) := by
  by_cases hx : ∃ r, Said s r
  · obtain ⟨_, o, a, b, c, d, h, e, rfl⟩ := hx
    exact Tot.mono (specRead_complete s hs h e) (fun r hr => .inl ⟨o, a, b, c, d, h, e, hr⟩)
  · exact Tot.mono (specRead_sound s hs) (fun r hr => hr.elim .inl (fun hz => .inr ⟨fun r h => hx ⟨r, h⟩, hz⟩))
end Go.Proofs.YtfafjpfigphchaaDoor.X
namespace Go.Proofs.YtfafjpfigphchaaDoor.X
open Go.RowKit Go.Proofs.YtfafjpfigphchaaDoorW.PrintWords Go.Proofs.YtfafjpfigphchaaDoor.Pl
set_option linter.unusedSimpArgs false
set_option linter.unusedVariables false
/-- The signs of an operation's text. -/
def opSign (c : UInt8) : Prop := (97 ≤ c.toNat ∧ c.toNat ≤ 122) ∨ c.toNat = 46 ∨ (48 ≤ c.toNat ∧ c.toNat ≤ 57)
theorem opL_sign {W : List UInt8} {ns : List Int} (hW : ∀ c ∈ W, 97 ≤ c.toNat ∧ c.toNat ≤ 122) (hn : ∀ n ∈ ns, 0 ≤ n) : ∀ c ∈ opL W ns, opSign c := by
  intro c hc
  rcases List.mem_append.1 hc with h | h
  · exact .inl (hW c h)
  · obtain ⟨n, h1, h2⟩ := List.mem_flatMap.1 h
    obtain ⟨m, rfl⟩ := Int.eq_ofNat_of_zero_le (hn n h1)
    rcases List.mem_cons.1 h2 with rfl | h3
    · exact .inr (.inl rfl)
    · exact .inr (.inr (itoa_dig m c h3))
theorem opT_sign {x : Op} (h : okB x = true) : ∀ c ∈ (opT x).data.toList, opSign c := by
  obtain ⟨k, hk, k1, k9, hn, _⟩ := opOk_rest h
  unfold opT
  rw [opTextF_list h, hk]
  exact opL_sign (formW_sign k k9) (fun n h => (hn n (List.mem_of_mem_take h)).1)
theorem opT_no {x : Op} (h : okB x = true) {c : UInt8} (hc : ¬ opSign c) : c ∉ (opT x).data.toList := fun hm => hc (opT_sign h c hm)
theorem opT_inj {x y : Op} (h : okB x = true) (h' : okB y = true) (e : opT x = opT y) : x = y := by
  obtain ⟨a, b, c, d, f⟩ := x
  obtain ⟨a', b', c', d', f'⟩ := y
  obtain ⟨rfl, rfl, rfl, rfl, rfl⟩ := opTextF_inj h h' e
  rfl
theorem map_opT_inj : ∀ {a b : List Op}, (∀ x ∈ a, okB x = true) → (∀ x ∈ b, okB x = true) → a.map (fun x => (opT x).data.toList) = b.map (fun x => (opT x).data.toList) → a = b
  | [], [], _, _, _ => rfl
  | [], _ :: _, _, _, h => by cases h
  | _ :: _, [], _, _, h => by cases h
  | x :: a, y :: b, hx, hy, h => by
    simp only [List.map_cons, List.cons.injEq] at h
    rw [opT_inj (hx x (List.mem_cons_self ..)) (hy y (List.mem_cons_self ..)) (ba_ext h.1), map_opT_inj (fun z hz => hx z (List.mem_cons_of_mem _ hz)) (fun z hz => hy z (List.mem_cons_of_mem _ hz)) h.2]
theorem allOk_mem {l : List Op} (h : allOkB l = true) : ∀ x ∈ l, okB x = true := by
  intro x hx
  simp only [allOkB, Bool.and_eq_true, List.all_eq_true, List.mem_range] at h
  obtain ⟨i, hi, rfl⟩ := List.getElem_of_mem hx
  have := h.2 i hi
  unfold opAt rd_T23 at this
  rw [Int.toNat_natCast, List.getD_eq_getElem?_getD, List.getElem?_eq_getElem hi] at this
  exact this
theorem join_list (x : Op) (r : List Op) : (joinT ((x :: r).map opT)).data.toList = (opT x).data.toList ++ r.flatMap fun y => 44 :: (opT y).data.toList := by
  rw [joinT, ba_mk, List.map_cons, List.map_cons, Lib.join_cons]
  congr 1
  simp only [Lib.joinTail, List.map_map]
  rw [List.flatMap_def]
  rfl
theorem parts_join : ∀ (r : List Op) (A : List UInt8), (44 : UInt8) ∉ A → (∀ x ∈ r, okB x = true) → parts 44 (A ++ r.flatMap fun y => 44 :: (opT y).data.toList) = A :: r.map fun y => (opT y).data.toList
  | [], A, hA, _ => by rw [List.flatMap_nil, List.append_nil, parts_none hA]; rfl
  | x :: r, A, hA, h => by
    rw [List.flatMap_cons, List.cons_append, parts_app hA, parts_join r _ (opT_no (h x (List.mem_cons_self ..)) (by unfold opSign; decide)) (fun z hz => h z (List.mem_cons_of_mem _ hz))]
    rfl
/-- All that is done, sign by sign. -/
def opsL (l : List Op) : List UInt8 := (opsF l).data.toList
theorem opsL_parts {l : List Op} (h : ∀ x ∈ l, okB x = true) : parts 44 (opsL l) = if l = [] then [[45]] else l.map fun y => (opT y).data.toList := by
  unfold opsL opsF
  cases l with
  | nil => rfl
  | cons x r =>
    rw [if_neg (by simp), if_neg (by simp), join_list, parts_join r _ (opT_no (h x (List.mem_cons_self ..)) (by unfold opSign; decide)) (fun z hz => h z (List.mem_cons_of_mem _ hz))]
    rfl
theorem opsL_sign {l : List Op} (h : ∀ x ∈ l, okB x = true) : ∀ c ∈ opsL l, opSign c ∨ c.toNat = 44 ∨ c.toNat = 45 := by
  unfold opsL opsF
  cases l with
  | nil =>
    intro c hc
    obtain rfl := List.mem_singleton.1 (show c ∈ [(45 : UInt8)] from hc)
    exact .inr (.inr rfl)
  | cons x r =>
    intro c hc
    rw [if_neg (by simp), join_list] at hc
    rcases List.mem_append.1 hc with h1 | h1
    · exact .inl (opT_sign (h x (List.mem_cons_self ..)) c h1)
    · obtain ⟨y, hy, h2⟩ := List.mem_flatMap.1 h1
      rcases List.mem_cons.1 h2 with rfl | h3
      · exact .inr (.inl rfl)
      · exact .inl (opT_sign (h y (List.mem_cons_of_mem _ hy)) c h3)
theorem opsL_inj {a b : List Op} (ha : ∀ x ∈ a, okB x = true) (hb : ∀ x ∈ b, okB x = true) (e : opsL a = opsL b) : a = b := by
  have p := congrArg (parts 44) e
  rw [opsL_parts ha, opsL_parts hb] at p
  have no : ∀ {x : Op}, okB x = true → ([45] : List UInt8) ≠ (opT x).data.toList := fun h e => opT_no h (c := 45) (by unfold opSign; decide) (by rw [← e]; exact List.mem_singleton.2 rfl)
  cases a with
  | nil =>
    cases b with
    | nil => rfl
    | cons y b =>
      rw [if_pos rfl, if_neg (by simp)] at p
      simp only [List.map_cons, List.cons.injEq] at p
      exact absurd p.1 (no (hb y (List.mem_cons_self ..)))
  | cons x a =>
    cases b with
    | nil =>
      rw [if_pos rfl, if_neg (by simp)] at p
      simp only [List.map_cons, List.cons.injEq] at p
      exact absurd p.1.symm (no (ha x (List.mem_cons_self ..)))
    | cons y b =>
      rw [if_neg (by simp), if_neg (by simp)] at p
      exact map_opT_inj ha hb p
theorem askI_list (ops path : ByteArray) (till : Int) : (askI ops path till).data.toList = 47 :: (ops.data.toList ++ 47 :: (path.data.toList ++ 63 :: (101 :: 61 :: Lib.itoa till))) := by
  unfold askI
  simp only [ba_app, List.append_assoc]
  rfl
theorem path_sign {s : ByteArray} (h : nameB s = true) : ∀ c ∈ s.data.toList, (97 ≤ c.toNat ∧ c.toNat ≤ 122) ∨ (48 ≤ c.toNat ∧ c.toNat ≤ 57) := by
  intro c hc
  simp only [nameB, Bool.and_eq_true, List.all_eq_true, List.mem_range] at h
  obtain ⟨i, hi, rfl⟩ := List.getElem_of_mem hc
  have hs : i < s.size := by rw [ba_size]; exact hi
  have := h.2 i hs
  unfold signB bt at this
  rw [Int.toNat_natCast, dif_pos hs] at this
  have e : s[i] = s.data.toList[i] := by
    rw [Array.getElem_toList]
    rfl
  rw [e] at this
  simp only [Bool.or_eq_true, decide_eq_true_eq] at this
  omega
theorem ask_parts {l : List Op} {p : ByteArray} {n : Nat} (hl : ∀ x ∈ l, okB x = true) (hp : nameB p = true) : parts 47 (askI (opsF l) p n).data.toList = [[], opsL l, p.data.toList ++ 63 :: (101 :: 61 :: Lib.itoa (n : Int))] ∧ parts 63 (p.data.toList ++ 63 :: (101 :: 61 :: Lib.itoa (n : Int))) = [p.data.toList, 101 :: 61 :: Lib.itoa (n : Int)] := by
  have h1 : (47 : UInt8) ∉ opsL l := fun h => by
    rcases opsL_sign hl _ h with h | h | h
    · revert h; unfold opSign; decide
    · revert h; decide
    · revert h; decide
  have h2 : ∀ c : UInt8, c = 47 ∨ c = 63 → c ∉ p.data.toList := fun c hc h => by
    have := path_sign hp c h
    rcases hc with rfl | rfl <;> revert this <;> decide
  have h3 : ∀ c : UInt8, c = 47 ∨ c = 63 → c ∉ Lib.itoa (n : Int) := fun c hc => itoa_no (by rcases hc with rfl | rfl <;> decide) n
  refine ⟨?_, ?_⟩
  · rw [askI_list, parts, if_pos rfl]
    show [] :: parts 47 (opsL l ++ 47 :: _) = _
    rw [parts_app h1, parts_none]
    intro h
    rcases List.mem_append.1 h with h | h
    · exact h2 47 (.inl rfl) h
    · simp only [List.mem_cons] at h
      rcases h with h | h | h | h
      · revert h; decide
      · revert h; decide
      · revert h; decide
      · exact h3 47 (.inl rfl) h
  · rw [parts_app (h2 63 (.inr rfl)), parts_none]
    intro h
    simp only [List.mem_cons] at h
    rcases h with h | h | h
    · revert h; decide
    · revert h; decide
    · exact h3 63 (.inr rfl) h
theorem askB_all {l : List Op} {p : ByteArray} {t : Int} (h : askB l p t = true) : (∀ x ∈ l, okB x = true) ∧ nameB p = true := by
  simp only [askB, Bool.and_eq_true] at h
  exact ⟨allOk_mem h.1, h.2.1⟩
theorem askF_inj {l l' : List Op} {p p' : ByteArray} {t t' : Int} (h : askB l p t = true) (h' : askB l' p' t' = true) (e : askF l p t = askF l' p' t') : l = l' ∧ p = p' ∧ t = t' := by
  obtain ⟨_, _, t0, t1⟩ := askB_parts h
  obtain ⟨_, _, t0', t1'⟩ := askB_parts h'
  obtain ⟨a, b⟩ := askB_all h
  obtain ⟨a', b'⟩ := askB_all h'
  obtain ⟨n, rfl⟩ := Int.eq_ofNat_of_zero_le t0
  obtain ⟨n', rfl⟩ := Int.eq_ofNat_of_zero_le t0'
  unfold askF at e
  rw [if_pos h, if_pos h'] at e
  obtain ⟨q1, q2⟩ := ask_parts (n := n) a b
  obtain ⟨q1', q2'⟩ := ask_parts (n := n') a' b'
  rw [e, q1'] at q1
  simp only [List.cons.injEq, and_true, true_and] at q1
  rw [← q1.2, q2'] at q2
  simp only [List.cons.injEq, and_true, true_and] at q2
  exact ⟨opsL_inj a a' q1.1.symm, ba_ext q2.1.symm, by rw [itoa_inj q2.2]⟩
end Go.Proofs.YtfafjpfigphchaaDoor.X
namespace Go.Proofs.YtfafjpfigphchaaDoor.X
open Go.RowKit Go.Proofs.YtfafjpfigphchaaDoorW.PrintWords Go.Proofs.YtfafjpfigphchaaDoor.Pl
set_option linter.unusedSimpArgs false
set_option linter.unusedVariables false
def SaidA (s : ByteArray) (r : AskR) : Prop := ∃ (l : List Op) (p : ByteArray) (n : Int), askB l p n = true ∧ askF l p n = s ∧ r = (l, p, n, true)
/-! ### How long the texts are -/
theorem itoa_le3 (n : Nat) (h : n ≤ 255) : (Lib.itoa (n : Int)).length ≤ 3 := by
  rw [Lib.itoa_nonneg, Lib.decDigits_length]
  by_cases h1 : n < 10
  · rw [Lib.nDigits_small h1]; omega
  rw [Lib.nDigits_big h1]
  by_cases h2 : n / 10 < 10
  · rw [Lib.nDigits_small h2]; omega
  rw [Lib.nDigits_big h2, Lib.nDigits_small (by omega)]
  omega
theorem flat_le (ns : List Int) (h : ∀ n ∈ ns, 0 ≤ n ∧ n ≤ 255) : (ns.flatMap fun n => (46 : UInt8) :: Lib.itoa n).length ≤ 4 * ns.length := by
  induction ns with
  | nil => simp
  | cons n ns ih =>
    obtain ⟨h0, h1⟩ := h n (List.mem_cons_self ..)
    obtain ⟨m, rfl⟩ := Int.eq_ofNat_of_zero_le h0
    have := ih (fun x hx => h x (List.mem_cons_of_mem _ hx))
    have h3 := itoa_le3 m (by omega)
    rw [List.flatMap_cons, List.length_append, List.length_cons, List.length_cons]
    omega
theorem opT_21 {x : Op} (h : okB x = true) : (opT x).data.toList.length ≤ 21 := by
  obtain ⟨k, hk, k1, k9, ns, hns, hl, hp, ht⟩ := op_form h
  have e : (opT x).data.toList = opL (formW k).data.toList ns := ht
  have hw := formW_len k k9
  rw [ba_size] at hw
  rw [e, opL, List.length_append]
  have := flat_le ns hns
  omega
theorem ops_flat (r : List Op) (h : ∀ x ∈ r, okB x = true) : (r.flatMap fun y => (44 : UInt8) :: (opT y).data.toList).length ≤ 22 * r.length := by
  induction r with
  | nil => simp
  | cons x r ih =>
    have := ih (fun z hz => h z (List.mem_cons_of_mem _ hz))
    have h1 := opT_21 (h x (List.mem_cons_self ..))
    rw [List.flatMap_cons, List.length_append, List.length_cons, List.length_cons]
    omega
theorem opsL_len {l : List Op} (h : ∀ x ∈ l, okB x = true) (h5 : l.length ≤ 5) : (opsL l).length ≤ 110 := by
  unfold opsL opsF
  cases l with
  | nil => show ([45] : List UInt8).length ≤ 110; decide
  | cons x r =>
    rw [if_neg (by simp), join_list, List.length_append]
    have h1 := opT_21 (h x (List.mem_cons_self ..))
    have h2 := ops_flat r (fun z hz => h z (List.mem_cons_of_mem _ hz))
    simp only [List.length_cons] at h5
    omega
/-- What is asked, sign by sign. -/
theorem ask_form {l : List Op} {p : ByteArray} {n : Int} (h : askB l p n = true) : ∃ m : Nat, n = m ∧ m ≤ 9999 ∧ (∀ x ∈ l, okB x = true) ∧ nameB p = true ∧ l.length ≤ 5 ∧ (askF l p n).data.toList = 47 :: (opsL l ++ 47 :: (p.data.toList ++ 63 :: (101 :: 61 :: Lib.itoa (m : Int)))) ∧ (askF l p n).size ≤ 200 := by
  obtain ⟨h5, hp, t0, t1⟩ := askB_parts h
  obtain ⟨a, b⟩ := askB_all h
  obtain ⟨m, rfl⟩ := Int.eq_ofNat_of_zero_le t0
  have e : (askF l p (m : Int)).data.toList = 47 :: (opsL l ++ 47 :: (p.data.toList ++ 63 :: (101 :: 61 :: Lib.itoa (m : Int)))) := by
    unfold askF; rw [if_pos h, askI_list]; rfl
  refine ⟨m, rfl, by omega, a, b, h5, e, ?_⟩
  have h1 := opsL_len a h5
  have h2 := (itoa_le4 m (by omega)).2
  rw [ba_size] at hp
  rw [ba_size, e]
  simp only [List.length_cons, List.length_append]
  omega
theorem askF_no {l : List Op} {p : ByteArray} {n : Int} (h : askB l p n = false) : askF l p n = ⟨#[]⟩ := by
  unfold askF; rw [if_neg (by rw [h]; decide)]
/-! ### The program -/
theorem implAskOk_tot (l : List Op) (hl : l.length ≤ 4611686018427387904) (p : ByteArray) (n : Int) : Tot (fun k => impl_AskOk.f k l p n) (fun t => t = askB l p n) := Tot.of_ev (impl_AskOk_ev l hl p n)
theorem askEnd_tot (s : ByteArray) (l : List Op) (hl : l.length ≤ 4611686018427387904) (p : ByteArray) (n : Int) : Tot (fun k => askEnd k s l p n) (fun r => (askB l p n = true ∧ askF l p n = s ∧ r = (l, p, n, true)) ∨ (¬ (askB l p n = true ∧ askF l p n = s) ∧ r = zA)) := by
  unfold askEnd
  refine Tot.bind (implAskOk_tot l hl p n) ?_
  rintro _ rfl
  cases h : askB l p n with
  | false => exact Tot.neg (by decide) (Tot.ret (.inr ⟨fun hh => absurd hh.1 (by decide), rfl⟩))
  | true =>
    refine Tot.pos rfl ?_
    refine Tot.bind (impl_AskText_tot l hl p n) ?_
    rintro _ rfl
    exact Tot.ite (fun he => Tot.ret (.inl ⟨rfl, toList_ba.1 he, rfl⟩)) (fun he => Tot.ret (.inr ⟨fun hh => he (toList_ba.2 hh.2), rfl⟩))
theorem scanG_tot : ∀ (ps : List ByteArray) (fl : Bool), (∀ p ∈ ps, p.size ≤ 1048576) → Tot (fun k => scanG k ps fl) (fun r => r.1.length = ps.length)
  | [], fl, _ => by simp only [scanG]; exact Tot.ret rfl
  | p :: ps, fl, h => by
    simp only [scanG]
    refine Tot.bind (implRead_tot p (h p (List.mem_cons_self ..))) ?_
    intro r _
    refine Tot.bind (scanG_tot ps (fl || !r.2.2.2.2.2) (fun q hq => h q (List.mem_cons_of_mem _ hq))) ?_
    intro x hx
    exact Tot.ret (by simp [hx])
theorem scanG_ops : ∀ (l : List Op) (fl : Bool), (∀ x ∈ l, okB x = true) → Tot (fun k => scanG k ((l.map fun y => (opT y).data.toList).map baOf) fl) (fun r => r = (l, fl))
  | [], fl, _ => by simp only [List.map_nil, scanG]; exact Tot.ret rfl
  | x :: l, fl, h => by
    simp only [List.map_cons, scanG]
    have hx := h x (List.mem_cons_self ..)
    have hsz : (baOf (opT x).data.toList).size ≤ 1048576 := by rw [ba_size, baOf_list]; have := opT_21 hx; omega
    refine Tot.bind (implRead_complete (baOf (opT x).data.toList) hsz (o := x.f0) (a := x.f1) (b := x.f2) (c := x.f3) (d := x.f4) hx (baOf_self _).symm) ?_
    rintro _ rfl
    dsimp only
    rw [Bool.not_true, Bool.or_false]
    refine Tot.bind (scanG_ops l fl (fun z hz => h z (List.mem_cons_of_mem _ hz))) ?_
    rintro _ rfl
    exact Tot.ret rfl
theorem parts_mem {c : UInt8} : ∀ {l : List UInt8}, ∀ p ∈ parts c l, p.length ≤ l.length
  | [], p, h => by simp [parts] at h; simp [h]
  | x :: l, p, h => by
    rw [parts] at h
    split at h
    · rcases List.mem_cons.1 h with rfl | h
      · simp
      · have := parts_mem p h; simp only [List.length_cons]; omega
    · split at h
      · obtain rfl := List.mem_singleton.1 h; simp
      · rename_i hd tl e
        rcases List.mem_cons.1 h with rfl | h
        · have := parts_mem (c := c) (l := l) hd (by rw [e]; exact List.mem_cons_self ..)
          simp only [List.length_cons]; omega
        · have := parts_mem (c := c) (l := l) p (by rw [e]; exact List.mem_cons_of_mem _ h)
          simp only [List.length_cons]; omega
theorem cut_parts_len (l sep : List UInt8) : (Lib.cut l sep).1.length ≤ l.length ∧ (Lib.cut l sep).2.1.length ≤ l.length := by
  unfold Lib.cut
  split
  · simp only [List.length_take, List.length_drop]; omega
  · simp
theorem word_len (s p : ByteArray) : (wordF s p).1.size ≤ s.size := by
  rw [ba_size s]
  show (Lib.trimPrefix s.data.toList p.data.toList).toArray.size ≤ _
  rw [List.size_toArray]
  unfold Lib.trimPrefix
  split
  · rw [List.length_drop]; omega
  · exact Nat.le_refl _
theorem cutF_len (s p : ByteArray) : (cutF s p).1.size ≤ s.size ∧ (cutF s p).2.1.size ≤ s.size := by
  rw [ba_size s]
  have := cut_parts_len s.data.toList p.data.toList
  exact ⟨by show (Lib.cut s.data.toList p.data.toList).1.toArray.size ≤ _; rw [List.size_toArray]; exact this.1, by show (Lib.cut s.data.toList p.data.toList).2.1.toArray.size ≤ _; rw [List.size_toArray]; exact this.2⟩
theorem partsB_ok (s : ByteArray) (c : UInt8) (hs : s.size ≤ 1048576) : (∀ p ∈ partsB s ⟨#[c]⟩, p.size ≤ 1048576) ∧ (partsB s ⟨#[c]⟩).length ≤ 1048577 := by
  rw [partsB_parts]
  rw [ba_size] at hs
  refine ⟨fun p hp => ?_, ?_⟩
  · obtain ⟨q, hq, rfl⟩ := List.mem_map.1 hp
    have := parts_mem q hq
    rw [ba_size, baOf_list]
    omega
  · rw [List.length_map]
    have := (parts_len (c := c) s.data.toList).1
    omega
theorem askMid_sound (s ops r1 : ByteArray) (f1 : Bool) (ho : ops.size ≤ 1048576) : Tot (fun k => askMid k s ops r1 f1) (fun r => SaidA s r ∨ r = zA) := by
  have rest : ∀ (x : List Op × Bool), x.1.length ≤ 4611686018427387904 → Tot (fun k => (impl_numberRead.f k (cutF r1 ⟨#[63, 101, 61]⟩).2.1).bind fun y => if ((x.2 || !(cutF r1 ⟨#[63, 101, 61]⟩).2.2) || !y.2) = true then some zA else askEnd k s x.1 (cutF r1 ⟨#[63, 101, 61]⟩).1 y.1) (fun r => SaidA s r ∨ r = zA) := by
    intro x hx
    refine Tot.bind (numRead_tot _) ?_
    intro y _
    refine Tot.ite (fun _ => Tot.ret (.inr rfl)) (fun _ => ?_)
    exact Tot.mono (askEnd_tot s x.1 hx _ _) (fun r h => h.elim (fun h => .inl ⟨_, _, _, h⟩) (fun h => .inr h.2))
  unfold askMid
  refine Tot.bind (P := fun x => x.1.length ≤ 4611686018427387904) ?_ (fun x hx => rest x hx)
  refine Tot.ite (fun _ => Tot.ret (by simp)) (fun _ => ?_)
  have hp := partsB_ok ops 44 ho
  exact Tot.mono (scanG_tot _ f1 hp.1) (fun r hr => by rw [hr]; omega)
theorem implAsk_sound (s : ByteArray) : Tot (fun k => impl_AskRead.f k s) (fun r => SaidA s r ∨ r = zA) := by
  unfold impl_AskRead.f
  refine Tot.ite (fun _ => Tot.ret (.inr rfl)) (fun h2 => ?_)
  have w := word_len s ⟨#[47]⟩
  have c1 := cutF_len (wordF s ⟨#[47]⟩).1 ⟨#[47]⟩
  have c2 := cutF_len (cutF (wordF s ⟨#[47]⟩).1 ⟨#[47]⟩).2.1 ⟨#[63, 101, 61]⟩
  exact Tot.pos ⟨by omega, by omega, by omega, by omega⟩ (askMid_sound s _ _ _ (by omega))
theorem index_sep {a b t : List UInt8} {c : UInt8} (h : c ∉ a) : Lib.index (a ++ (c :: (t ++ b))) (c :: t) = (a.length : Int) := by
  induction a with
  | nil => simp [Lib.index]
  | cons x a ih =>
    simp only [List.mem_cons, not_or] at h
    have ih := ih h.2
    have hf : (c == x) = false := beq_eq_false_iff_ne.2 h.1
    rw [List.cons_append, Lib.index, if_neg (by simp [List.isPrefixOf, hf]), ih, if_neg (fun e => by have := beq_iff_eq.1 e; omega), List.length_cons]
    omega
theorem cut_sep {a b t : List UInt8} {c : UInt8} (h : c ∉ a) : Lib.cut (a ++ (c :: (t ++ b))) (c :: t) = (a, b, true) := by
  unfold Lib.cut
  rw [index_sep h, if_pos (by omega), Int.toNat_natCast]
  simp
theorem opsL_dash {l : List Op} (h : ∀ x ∈ l, okB x = true) : opsL l = [45] ↔ l = [] := by
  refine ⟨fun e => ?_, fun e => by subst e; rfl⟩
  cases l with
  | nil => rfl
  | cons x r =>
    have p := opsL_parts h
    rw [e, if_neg (by simp)] at p
    simp only [List.map_cons] at p
    have p2 : parts 44 [(45 : UInt8)] = [[45]] := by decide
    rw [p2] at p
    simp only [List.cons.injEq] at p
    exact absurd (by rw [← p.1]; exact List.mem_singleton.2 rfl) (opT_no (h x (List.mem_cons_self ..)) (c := 45) (by unfold opSign; decide))
theorem opsL_no47 {l : List Op} (h : ∀ x ∈ l, okB x = true) : (47 : UInt8) ∉ opsL l := fun hm => by
  rcases opsL_sign h _ hm with h | h | h
  · revert h; unfold opSign; decide
  · revert h; decide
  · revert h; decide
theorem path_no {p : ByteArray} (hp : nameB p = true) : (63 : UInt8) ∉ p.data.toList := fun h => by
  have := path_sign hp 63 h
  revert this; decide
theorem askEnd_ok {s : ByteArray} {l : List Op} {p : ByteArray} {n : Int} (hl : l.length ≤ 5) (h : askB l p n = true) (e : askF l p n = s) : Tot (fun k => askEnd k s l p n) (fun r => r = (l, p, n, true)) :=
  Tot.mono (askEnd_tot s l (by omega) p n) (fun r h2 => h2.elim (fun x => x.2.2) (fun x => absurd ⟨h, e⟩ x.1))
theorem implAsk_complete (s : ByteArray) {l : List Op} {p : ByteArray} {n : Int} (h : askB l p n = true) (e : askF l p n = s) : Tot (fun k => impl_AskRead.f k s) (fun r => r = (l, p, n, true)) := by
  obtain ⟨m, rfl, hm, hok, hnm, h5, ht, hsz⟩ := ask_form h
  rw [e] at ht hsz
  have hw : wordF s ⟨#[47]⟩ = (baOf (opsL l ++ 47 :: (p.data.toList ++ 63 :: (101 :: 61 :: Lib.itoa (m : Int)))), true) := by
    unfold wordF Lib.trimPrefix Lib.hasPrefix
    rw [ht]
    simp [List.isPrefixOf, baOf]
  have hc1 : cutF (baOf (opsL l ++ 47 :: (p.data.toList ++ 63 :: (101 :: 61 :: Lib.itoa (m : Int))))) ⟨#[47]⟩ = (baOf (opsL l), baOf (p.data.toList ++ 63 :: (101 :: 61 :: Lib.itoa (m : Int))), true) := by
    unfold cutF
    rw [baOf_list, show (⟨#[47]⟩ : ByteArray).data.toList = [47] from rfl, cut_app (opsL_no47 hok)]
    rfl
  have hc2 : cutF (baOf (p.data.toList ++ 63 :: (101 :: 61 :: Lib.itoa (m : Int)))) ⟨#[63, 101, 61]⟩ = (p, baOf (Lib.itoa (m : Int)), true) := by
    unfold cutF
    have hcs := cut_sep (t := [101, 61]) (b := Lib.itoa (m : Int)) (path_no hnm)
    rw [baOf_list, show (⟨#[63, 101, 61]⟩ : ByteArray).data.toList = [63, 101, 61] from rfl, show p.data.toList ++ 63 :: (101 :: 61 :: Lib.itoa (m : Int)) = p.data.toList ++ (63 :: ([101, 61] ++ Lib.itoa (m : Int))) from rfl, hcs]
    have : (⟨p.data.toList.toArray⟩ : ByteArray) = p := baOf_self p
    dsimp only
    rw [this]
    rfl
  have w := word_len s ⟨#[47]⟩
  have c1 := cutF_len (wordF s ⟨#[47]⟩).1 ⟨#[47]⟩
  have c2 := cutF_len (cutF (wordF s ⟨#[47]⟩).1 ⟨#[47]⟩).2.1 ⟨#[63, 101, 61]⟩
  unfold impl_AskRead.f
  refine Tot.neg (by omega) (Tot.pos ⟨by omega, by omega, by omega, by omega⟩ ?_)
  rw [hw]
  dsimp only
  rw [hc1]
  dsimp only
  unfold askMid
  rw [hc2]
  dsimp only
  have hl : Tot (fun k => if (baOf (opsL l)).toList = [45] then some (([] : List Op), ((false || !true) || !true)) else scanG k (partsB (baOf (opsL l)) ⟨#[44]⟩) ((false || !true) || !true)) (fun r => r = (l, false)) := by
    by_cases hd : opsL l = [45]
    · refine Tot.pos (by rw [Lib.toList_data, baOf_list, hd]) (Tot.ret ?_)
      rw [(opsL_dash hok).1 hd]
      rfl
    · refine Tot.neg (by rw [Lib.toList_data, baOf_list]; exact hd) ?_
      rw [partsB_parts, baOf_list, opsL_parts hok, if_neg (fun hh => hd ((opsL_dash hok).2 hh))]
      exact scanG_ops l _ hok
  refine Tot.bind hl ?_
  rintro _ rfl
  refine Tot.bind (numRead_tot _) ?_
  intro r hr
  obtain rfl := hr m hm rfl
  exact Tot.neg (fun hh => Bool.false_ne_true hh) (askEnd_ok h5 h e)
theorem implAsk_tot (s : ByteArray) : Tot (fun k => impl_AskRead.f k s) (fun r => SaidA s r ∨ ((∀ r, ¬ SaidA s r) ∧ r = zA)) := by
  by_cases hx : ∃ r, SaidA s r
  · obtain ⟨_, l, p, n, h, e, rfl⟩ := hx
    exact Tot.mono (implAsk_complete s h e) (fun r hr => .inl ⟨l, p, n, h, e, hr⟩)
  · exact Tot.mono (implAsk_sound s) (fun r hr => hr.elim .inl (fun hz => .inr ⟨fun r h => hx ⟨r, h⟩, hz⟩))
end Go.Proofs.YtfafjpfigphchaaDoor.X
namespace Go.Proofs.YtfafjpfigphchaaDoor.X
open Go.RowKit Go.Proofs.YtfafjpfigphchaaDoorW.PrintWords Go.Proofs.YtfafjpfigphchaaDoor.Pl
set_option linter.unusedSimpArgs false
set_option linter.unusedVariables false
theorem rdOf_nat (ps : List ByteArray) (i : Nat) (h : i < ps.length) : rdOf ByteArray.empty ps (i : Int) = ps[i] := by
  unfold rdOf
  simp [List.getD_eq_getElem?_getD, h]
theorem l7Read_any (ps : List ByteArray) (hps : ∀ p ∈ ps, p.size ≤ 1048576) (hl : ps.length ≤ 1048577) : ∀ e i, i + e = ps.length → ∀ acc : List Op, acc.length ≤ i → Tot (fun k => spec_l7Read.l0 k acc ps i) (fun r => r.1.length ≤ 1048577)
  | 0, i, h, acc, ha => by
    refine Tot.succ ?_
    simp only [spec_l7Read.l0]
    exact Tot.neg (by omega) (Tot.ret (by dsimp only; omega))
  | e + 1, i, h, acc, ha => by
    have hi : i < ps.length := by omega
    refine Tot.succ ?_
    simp only [spec_l7Read.l0]
    refine Tot.pos (by omega) (Tot.pos (by omega) ?_)
    rw [rdOf_nat ps i hi]
    refine Tot.bind (specRead_tot _ (hps _ (List.getElem_mem hi))) ?_
    intro r _
    refine Tot.ite (fun _ => Tot.pos (by omega) ?_) (fun _ => Tot.ret (by simp))
    rw [wr_id (by omega) (by omega)]
    exact l7Read_any ps hps hl e (i + 1) (by omega) _ (by rw [List.length_append]; simp only [List.length_cons, List.length_nil]; omega)
theorem parts_okB (s : List UInt8) (c : UInt8) (hs : s.length ≤ 1048576) : (∀ p ∈ (parts c s).map baOf, p.size ≤ 1048576) ∧ ((parts c s).map baOf).length ≤ 1048577 := by
  refine ⟨fun p hp => ?_, ?_⟩
  · obtain ⟨q, hq, rfl⟩ := List.mem_map.1 hp
    have := parts_mem q hq
    rw [ba_size, baOf_list]
    omega
  · rw [List.length_map]
    have := (parts_len (c := c) s).1
    omega
theorem l7Read_sound (s : ByteArray) (hs : s.size ≤ 1048576) : Tot (fun k => spec_l7Read.f k s) (fun r => r.1.length ≤ 1048577) := by
  unfold spec_l7Read.f
  refine Tot.some_bind (Tot.ite (fun _ => Tot.ret (by simp)) (fun _ => ?_))
  refine Tot.bind (l7Cut_tot s 44 hs) ?_
  rintro _ rfl
  have hp := parts_okB s.data.toList 44 (by rw [← ba_size]; exact hs)
  exact l7Read_any _ hp.1 hp.2 _ 0 (Nat.zero_add _) [] (by simp)
theorem l7Read_ops (l : List Op) (h : ∀ x ∈ l, okB x = true) (h5 : l.length ≤ 5) : ∀ e i, i + e = l.length → Tot (fun k => spec_l7Read.l0 k (l.take i) ((l.map fun y => (opT y).data.toList).map baOf) i) (fun r => r = (l, true))
  | 0, i, hi => by
    refine Tot.succ ?_
    simp only [spec_l7Read.l0]
    refine Tot.neg (by simp; omega) (Tot.ret ?_)
    rw [List.take_of_length_le (by omega)]
  | e + 1, i, hi => by
    have hlt : i < l.length := by omega
    have ih := l7Read_ops l h h5 e (i + 1) (by omega)
    refine Tot.succ ?_
    simp only [spec_l7Read.l0]
    refine Tot.pos (by simp; omega) (Tot.pos (by omega) ?_)
    rw [rdOf_nat _ i (by simp; exact hlt)]
    have hx := h _ (List.getElem_mem hlt)
    have hsz := opT_21 hx
    rw [show ((l.map fun y => (opT y).data.toList).map baOf)[i]'(by simp; exact hlt) = opT l[i] by simp [baOf_self]]
    refine Tot.bind (specRead_complete (opT l[i]) (by rw [ba_size]; omega) (o := (l[i]).f0) (a := (l[i]).f1) (b := (l[i]).f2) (c := (l[i]).f3) (d := (l[i]).f4) hx rfl) ?_
    rintro _ rfl
    refine Tot.pos rfl (Tot.pos (by rw [List.length_take]; omega) ?_)
    rw [wr_id (by omega) (by omega)]
    have e2 : l.take i ++ [(⟨(l[i]).f0, (l[i]).f1, (l[i]).f2, (l[i]).f3, (l[i]).f4⟩ : Op)] = l.take (i + 1) := by
      rw [List.take_add_one, List.getElem?_eq_getElem hlt]
      rfl
    rw [e2]
    exact ih
theorem l7Read_complete (l : List Op) (h : ∀ x ∈ l, okB x = true) (h5 : l.length ≤ 5) : Tot (fun k => spec_l7Read.f k (baOf (opsL l))) (fun r => r = (l, true)) := by
  have hlen := opsL_len h h5
  unfold spec_l7Read.f
  refine Tot.some_bind ?_
  by_cases hd : opsL l = [45]
  · refine Tot.pos (by rw [Lib.toList_data, baOf_list, hd]) (Tot.ret ?_)
    rw [(opsL_dash h).1 hd]
  · refine Tot.neg (by rw [Lib.toList_data, baOf_list]; exact hd) ?_
    refine Tot.bind (l7Cut_tot _ 44 (by rw [ba_size, baOf_list]; omega)) ?_
    rintro _ rfl
    rw [baOf_list, opsL_parts h, if_neg (fun hh => hd ((opsL_dash h).2 hh))]
    exact l7Read_ops l h h5 l.length 0 (by omega)
theorem specAskJ1 (s : ByteArray) (x5 : List Op) (h5 : x5.length ≤ 1048577) (x7 : List ByteArray) (c : Bool) (hc : c = false → x7.length = 2 ∧ 3 ≤ (rdOf ByteArray.empty x7 1).size) : Tot (fun k => spec_AskRead.j1 k s x5 x7 c) (fun r => SaidA s r ∨ r = zA) := by
  refine Tot.succ ?_
  simp only [spec_AskRead.j1]
  refine Tot.ite (fun _ => Tot.ret (.inr rfl)) (fun hn => ?_)
  obtain ⟨h2, h3⟩ := hc (Bool.eq_false_iff.2 hn)
  refine Tot.pos (by omega) (Tot.pos (by omega) (Tot.pos (by omega) ?_))
  refine Tot.bind (l7Num_tot _) ?_
  intro n _
  refine Tot.bind (spec_AskText_tot x5 (by omega) _ n) ?_
  rintro _ rfl
  refine Tot.ite (fun he => Tot.ite (fun _ => Tot.ret (.inr rfl)) (fun h0 => Tot.ret (.inl ⟨x5, _, n, ?_, toList_ba.1 he, rfl⟩))) (fun _ => Tot.ret (.inr rfl))
  cases hk : askB x5 (rdOf ByteArray.empty x7 0) n with
  | true => rfl
  | false =>
    have he2 := toList_ba.1 he
    rw [askF_no hk] at he2
    rw [← he2] at h0
    exact absurd (by rw [Lib.toList_data]) h0
theorem specAskJ0 (s : ByteArray) (ps : List ByteArray) (hps : ∀ p ∈ ps, p.size ≤ 1048576) (c : Bool) (hc : c = false → ps.length = 3) : Tot (fun k => spec_AskRead.j0 k s ps c) (fun r => SaidA s r ∨ r = zA) := by
  refine Tot.succ ?_
  simp only [spec_AskRead.j0]
  refine Tot.ite (fun _ => Tot.ret (.inr rfl)) (fun hn => ?_)
  have h3 := hc (Bool.eq_false_iff.2 hn)
  have r1 : rdOf ByteArray.empty ps 1 = ps[1] := rdOf_nat ps 1 (by omega)
  have r2 : rdOf ByteArray.empty ps 2 = ps[2] := rdOf_nat ps 2 (by omega)
  refine Tot.pos (by omega) ?_
  rw [r1, r2]
  refine Tot.bind (l7Read_sound _ (hps _ (List.getElem_mem _))) ?_
  intro x hx
  refine Tot.pos (by omega) ?_
  refine Tot.bind (l7Cut_tot _ 63 (hps _ (List.getElem_mem _))) ?_
  intro y _
  refine Tot.ite (fun _ => Tot.ite (fun h2 => Tot.pos (by omega) ?_) (fun _ => ?_)) (fun _ => ?_)
  · refine specAskJ1 s _ hx y _ (fun hd => ⟨by omega, ?_⟩)
    have := of_decide_eq_false hd
    omega
  · exact specAskJ1 s _ hx y _ (fun hd => by cases hd)
  · exact specAskJ1 s _ hx y _ (fun hd => by cases hd)
theorem specAsk_sound (s : ByteArray) (hs : s.size ≤ 1048576) : Tot (fun k => spec_AskRead.f k s) (fun r => SaidA s r ∨ r = zA) := by
  unfold spec_AskRead.f
  refine Tot.bind (l7Cut_tot s 47 hs) ?_
  rintro _ rfl
  have hp := parts_okB s.data.toList 47 (by rw [← ba_size]; exact hs)
  refine Tot.ite (fun _ => specAskJ0 s _ hp.1 _ (fun hd => by cases hd)) (fun _ => specAskJ0 s _ hp.1 _ (fun hd => ?_))
  have := bne_eq_false_iff_eq.1 hd
  omega
theorem specAsk_complete (s : ByteArray) {l : List Op} {p : ByteArray} {n : Int} (h : askB l p n = true) (e : askF l p n = s) : Tot (fun k => spec_AskRead.f k s) (fun r => r = (l, p, n, true)) := by
  obtain ⟨m, rfl, hm, hok, hnm, h5, ht, hsz⟩ := ask_form h
  rw [e] at ht hsz
  obtain ⟨q1, q2⟩ := ask_parts (n := m) hok hnm
  have hs : (askI (opsF l) p (m : Int)) = s := by rw [← e]; unfold askF; rw [if_pos h]
  rw [hs] at q1
  have hi := (itoa_le4 m hm).1
  unfold spec_AskRead.f
  refine Tot.bind (l7Cut_tot s 47 (by omega)) ?_
  rintro _ rfl
  rw [q1]
  refine Tot.neg (by omega) ?_
  refine Tot.succ ?_
  simp only [spec_AskRead.j0]
  refine Tot.neg (by simp) (Tot.pos (by simp) ?_)
  rw [show rdOf ByteArray.empty (([[], opsL l, p.data.toList ++ 63 :: (101 :: 61 :: Lib.itoa (m : Int))]).map baOf) 1 = baOf (opsL l) from rfl, show rdOf ByteArray.empty (([[], opsL l, p.data.toList ++ 63 :: (101 :: 61 :: Lib.itoa (m : Int))]).map baOf) 2 = baOf (p.data.toList ++ 63 :: (101 :: 61 :: Lib.itoa (m : Int))) from rfl]
  refine Tot.bind (l7Read_complete l hok h5) ?_
  rintro _ rfl
  have hlast : (baOf (p.data.toList ++ 63 :: (101 :: 61 :: Lib.itoa (m : Int)))).size ≤ 1048576 := by
    have := congrArg List.length ht
    rw [ba_size] at hsz
    rw [ba_size, baOf_list]
    simp only [List.length_cons, List.length_append] at this ⊢
    omega
  refine Tot.pos (by show (2 : Int) < ((3 : Nat) : Int); decide) ?_
  refine Tot.bind (l7Cut_tot _ 63 hlast) ?_
  rintro _ rfl
  rw [baOf_list, q2]
  have hr1 : rdOf ByteArray.empty (([p.data.toList, 101 :: 61 :: Lib.itoa (m : Int)]).map baOf) 1 = baOf (101 :: 61 :: Lib.itoa (m : Int)) := rfl
  have hr0 : rdOf ByteArray.empty (([p.data.toList, 101 :: 61 :: Lib.itoa (m : Int)]).map baOf) 0 = p := baOf_self p
  have hz : (baOf (101 :: 61 :: Lib.itoa (m : Int))).size = 2 + (Lib.itoa (m : Int)).length := by
    rw [ba_size, baOf_list]; simp only [List.length_cons]; omega
  refine Tot.pos rfl (Tot.pos (by show ((2 : Nat) : Int) = 2; decide) (Tot.pos (by show (1 : Int) < ((2 : Nat) : Int); decide) ?_))
  rw [hr1, hz, show decide (((2 + (Lib.itoa (m : Int)).length : Nat) : Int) < 3) = false from decide_eq_false (by omega)]
  refine Tot.succ ?_
  simp only [spec_AskRead.j1]
  refine Tot.neg (by decide) (Tot.pos (by show (0 : Int) < ((2 : Nat) : Int); decide) (Tot.pos (by show (1 : Int) < ((2 : Nat) : Int); decide) ?_))
  rw [hr1, hr0, hz]
  refine Tot.pos (by omega) ?_
  have hx : (baOf (101 :: 61 :: Lib.itoa (m : Int))).extract 2 (2 + (Lib.itoa (m : Int)).length) = baOf (Lib.itoa (m : Int)) := by
    apply ba_ext
    rw [ByteArray.data_extract, Array.toList_extract, baOf_list, baOf_list]
    rw [List.extract_eq_take_drop]
    simp
  rw [hx]
  refine Tot.bind (l7Num_tot _) ?_
  intro v hv
  obtain rfl := hv m hm rfl
  refine Tot.bind (spec_AskText_tot l (by omega) p (m : Int)) ?_
  rintro _ rfl
  refine Tot.pos (by rw [e]) (Tot.neg (fun hh => ?_) (Tot.ret rfl))
  rw [Lib.toList_data, ht] at hh
  cases hh
theorem specAsk_tot (s : ByteArray) (hs : s.size ≤ 1048576) : Tot (fun k => spec_AskRead.f k s) (fun r => SaidA s r ∨ ((∀ r, ¬ SaidA s r) ∧ r = zA)) := by
  by_cases hx : ∃ r, SaidA s r
  · obtain ⟨_, l, p, n, h, e, rfl⟩ := hx
    exact Tot.mono (specAsk_complete s h e) (fun r hr => .inl ⟨l, p, n, h, e, hr⟩)
  · exact Tot.mono (specAsk_sound s hs) (fun r hr => hr.elim .inl (fun hz => .inr ⟨fun r h => hx ⟨r, h⟩, hz⟩))
theorem saidA_one {s : ByteArray} {r r' : AskR} (h : SaidA s r) (h' : SaidA s r') : r = r' := by
  obtain ⟨l, p, n, h1, h2, rfl⟩ := h
  obtain ⟨l', p', n', h1', h2', rfl⟩ := h'
  obtain ⟨rfl, rfl, rfl⟩ := askF_inj h1 h1' (h2.trans h2'.symm)
  rfl
theorem asks_same {s : ByteArray} {r r' : AskR} (h : SaidA s r ∨ ((∀ r, ¬ SaidA s r) ∧ r = zA)) (h' : SaidA s r' ∨ ((∀ r, ¬ SaidA s r) ∧ r' = zA)) : r = r' := by
  rcases h with h | ⟨h, rfl⟩ <;> rcases h' with h' | ⟨h', rfl⟩
  · exact saidA_one h h'
  · exact absurd h (h' _)
  · exact absurd h' (h _)
  · rfl
end Go.Proofs.YtfafjpfigphchaaDoor.X
namespace Go.Proofs.YtfafjpfigphchaaDoor.X
open Go.RowKit Go.Proofs.YtfafjpfigphchaaDoorW.PrintWords Go.Proofs.YtfafjpfigphchaaDoor.Pl
set_option linter.unusedSimpArgs false
set_option linter.unusedVariables false
def sm23 (x : S23) : Prop := True
theorem eqOpOp_ev (v0 : Int) (v1 : Int) (v2 : Int) (v3 : Int) (v4 : Int) : Ev (fun k => laws_eqOpOp.f v0 v1 v2 v3 v4 v0 v1 v2 v3 v4) true := by
  refine ⟨0, fun k hk => ?_⟩
  simp [laws_eqOpOp.f]
theorem eqOpOpS_ev (l : List S23) (hl : l.length ≤ 1048576 ∧ ∀ y ∈ l, sm23 y) : Ev (fun k => laws_eqOpOpS.f k l l) true := by
  have hle := hl.1
  have := ev_all l.length (fun k i => laws_eqOpOpS.l0 k l l i) ?_ ?_
  · refine Ev.congr (fun k => ?_) this
    show laws_eqOpOpS.f k l l = _
    unfold laws_eqOpOpS.f
    rw [if_pos rfl]
  · intro i hi h
    have hx : sm23 (rd_T23 l (i : Int)) := hl.2 _ (getD_mem l z23 i hi)
    obtain ⟨K0, h0⟩ := eqOpOp_ev ((rd_T23 l (i : Int)).f0) ((rd_T23 l (i : Int)).f1) ((rd_T23 l (i : Int)).f2) ((rd_T23 l (i : Int)).f3) ((rd_T23 l (i : Int)).f4) 
    obtain ⟨K, h⟩ := h
    refine ⟨K + K0 + 1, fun k hk => ?_⟩
    obtain ⟨k, rfl⟩ : ∃ m, k = m + 1 := ⟨k - 1, by omega⟩
    have e0 := h0 k (by omega)
    have e1 := h k (by omega)
    dsimp only at e0 e1
    simp only [laws_eqOpOpS.l0]
    rw [if_pos (by omega), if_pos (by omega), if_pos (by omega), e0]
    simp only [Option.bind_some, if_true]
    rw [wrap_succ (by omega)]
    exact e1
  · intro k
    simp only [laws_eqOpOpS.l0]
    rw [if_neg (by omega)]
end Go.Proofs.YtfafjpfigphchaaDoor.X
namespace Go.Proofs.YtfafjpfigphchaaDoor.X
open Go.RowKit Go.Proofs.YtfafjpfigphchaaDoorW.PrintWords Go.Proofs.YtfafjpfigphchaaDoor.Pl
set_option linter.unusedSimpArgs false
set_option linter.unusedVariables false
theorem eqUrlAsk_ev (v0 : List S23) (v1 : ByteArray) (v2 : Int) (s0 : (v0.length ≤ 1048576 ∧ ∀ y ∈ v0, sm23 y)) : Ev (fun k => laws_eqUrlAsk.f k v0 v1 v2 v0 v1 v2) true := by
  obtain ⟨K0, h0⟩ := eqOpOpS_ev v0 s0
  refine ⟨K0, fun k hk => ?_⟩
  simp [laws_eqUrlAsk.f, h0 k (by omega)]
end Go.Proofs.YtfafjpfigphchaaDoor.X
namespace Go.Proofs.YtfafjpfigphchaaDoor.Pure
open Go.RowKit Go.Proofs.YtfafjpfigphchaaDoorW.PrintWords Go.Proofs.YtfafjpfigphchaaDoor.Pl Go.Proofs.YtfafjpfigphchaaDoor.X
set_option linter.unusedVariables false
set_option linter.unusedSimpArgs false
theorem wrp {x : Int} (h0 : 0 ≤ x) (h1 : x ≤ 1000000000) : wrap64 x = x := wr_id (by omega) (by omega)
/-- What is written over operations, from m on. -/
def markedO (m : Int) (n : Nat) : List X.Op := (List.range n).map fun i : Nat => (⟨m + 5 * (i : Int), m + 5 * (i : Int) + 1, m + 5 * (i : Int) + 1 + 1, m + 5 * (i : Int) + 1 + 1 + 1, m + 5 * (i : Int) + 1 + 1 + 1 + 1⟩ : X.Op)
theorem markedO_len (m : Int) (n : Nat) : (markedO m n).length = n := by simp [markedO]
theorem rd_set (l : List X.Op) (i : Nat) (h : i < l.length) (x : X.Op) : rd_T23 (l.set i x) (i : Int) = x := by
  simp [rd_T23, List.getD_eq_getElem?_getD, h]
theorem mark_loop (m : Int) (hm : 0 ≤ m ∧ m ≤ 1000) : ∀ e i : Nat, ∀ tail : List X.Op, i + e ≤ 1000 → tail.length = e → Tot (fun k => laws_markOpOpS.l0 k (markedO m i ++ tail) (m + 5 * (i : Int)) i) (fun r => r = (m + 5 * ((i + e : Nat) : Int), markedO m (i + e)))
  | 0, i, tail, hi, ht => by
    obtain rfl := List.eq_nil_of_length_eq_zero ht
    refine Tot.succ ?_
    simp only [laws_markOpOpS.l0]
    refine Tot.neg (by rw [List.append_nil, markedO_len]; omega) (Tot.ret ?_)
    rw [List.append_nil]
    rfl
  | e + 1, i, [], hi, ht => by simp at ht
  | e + 1, i, x :: tail, hi, ht => by
    have hl := markedO_len m i
    have hlt : i < (markedO m i ++ x :: tail).length := by rw [List.length_append, hl]; simp
    have ih := mark_loop m hm e (i + 1) tail (by omega) (by simpa using ht)
    have hset : ∀ y : X.Op, (markedO m i ++ x :: tail).set i y = markedO m i ++ y :: tail := fun y => by
      rw [List.set_append_right _ _ (by omega), hl, Nat.sub_self, List.set_cons_zero]
    have hmk : markedO m (i + 1) = markedO m i ++ [(⟨m + 5 * (i : Int), m + 5 * (i : Int) + 1, m + 5 * (i : Int) + 1 + 1, m + 5 * (i : Int) + 1 + 1 + 1, m + 5 * (i : Int) + 1 + 1 + 1 + 1⟩ : X.Op)] := by
      simp [markedO, List.range_succ]
    refine Tot.succ ?_
    simp only [laws_markOpOpS.l0]
    refine Tot.pos (by omega) (Tot.pos (by omega) (Tot.some_bind (Tot.some_bind (Tot.some_bind (Tot.some_bind ?_)))))
    rw [wrp (x := m + 5 * (i : Int) + 1) (by omega) (by omega), wrp (x := m + 5 * (i : Int) + 1 + 1) (by omega) (by omega), wrp (x := m + 5 * (i : Int) + 1 + 1 + 1) (by omega) (by omega), wrp (x := m + 5 * (i : Int) + 1 + 1 + 1 + 1) (by omega) (by omega), wrp (x := m + 5 * (i : Int) + 1 + 1 + 1 + 1 + 1) (by omega) (by omega), wrp (x := (i : Int) + 1) (by omega) (by omega)]
    rw [Int.toNat_natCast]
    simp only [List.set_set]
    rw [rd_set _ i hlt, rd_set _ i hlt, rd_set _ i hlt, rd_set _ i hlt]
    dsimp only
    rw [hset]
    rw [hmk, List.append_assoc] at ih
    have e1 : (m + 5 * (i : Int) + 1 + 1 + 1 + 1 + 1) = m + 5 * ((i + 1 : Nat) : Int) := by omega
    rw [e1, show i + (e + 1) = i + 1 + e by omega]
    exact ih
theorem held_loop (m : Int) (hm : 0 ≤ m ∧ m ≤ 1000) (n : Nat) (hn : n ≤ 1000) : ∀ e i : Nat, i + e = n → Tot (fun k => laws_heldOpOpS.l0 k (markedO m n) (m + 5 * (i : Int)) i) (fun r => r = m + 5 * (n : Int))
  | 0, i, hi => by
    refine Tot.succ ?_
    simp only [laws_heldOpOpS.l0]
    refine Tot.neg (by rw [markedO_len]; omega) (Tot.ret ?_)
    rw [show i = n by omega]
  | e + 1, i, hi => by
    have ih := held_loop m hm n hn e (i + 1) (by omega)
    have hr : rd_T23 (markedO m n) (i : Int) = (⟨m + 5 * (i : Int), m + 5 * (i : Int) + 1, m + 5 * (i : Int) + 1 + 1, m + 5 * (i : Int) + 1 + 1 + 1, m + 5 * (i : Int) + 1 + 1 + 1 + 1⟩ : X.Op) := by
      have : i < n := by omega
      simp [rd_T23, markedO, List.getD_eq_getElem?_getD, this]
    refine Tot.succ ?_
    simp only [laws_heldOpOpS.l0]
    rw [hr]
    rw [wrp (x := m + 5 * (i : Int) + 1) (by omega) (by omega), wrp (x := m + 5 * (i : Int) + 1 + 1) (by omega) (by omega), wrp (x := m + 5 * (i : Int) + 1 + 1 + 1) (by omega) (by omega), wrp (x := m + 5 * (i : Int) + 1 + 1 + 1 + 1) (by omega) (by omega), wrp (x := m + 5 * (i : Int) + 1 + 1 + 1 + 1 + 1) (by omega) (by omega), wrp (x := (i : Int) + 1) (by omega) (by omega)]
    refine Tot.pos (by rw [markedO_len]; omega) (Tot.pos (by omega) (Tot.pos rfl (Tot.pos rfl (Tot.pos rfl (Tot.pos rfl (Tot.pos rfl ?_))))))
    have e1 : (m + 5 * (i : Int) + 1 + 1 + 1 + 1 + 1) = m + 5 * ((i + 1 : Nat) : Int) := by omega
    rw [e1]
    exact ih
theorem mark_tot (l : List X.Op) (h : l.length ≤ 1000) (p : ByteArray) (n : Int) : Tot (fun k => laws_markUrlAsk.f k l p n 1) (fun r => r = (1 + 5 * (l.length : Int), markedO 1 l.length)) := by
  unfold laws_markUrlAsk.f laws_markOpOpS.f
  have := mark_loop 1 (by omega) l.length 0 l (by omega) rfl
  rw [Nat.zero_add, show (1 : Int) + 5 * ((0 : Nat) : Int) = 1 by omega] at this
  refine Tot.bind (P := fun r => r = (1 + 5 * (l.length : Int), markedO 1 l.length)) ?_ ?_
  · have e0 : markedO 1 0 ++ l = l := rfl
    rw [e0] at this
    exact this
  · rintro _ rfl
    exact Tot.ret rfl
theorem held_tot (c : Nat) (h : c ≤ 1000) (p : ByteArray) (n : Int) : Tot (fun k => laws_heldUrlAsk.f k (markedO 1 c) p n 1) (fun r => r = 1 + 5 * (c : Int)) := by
  unfold laws_heldUrlAsk.f laws_heldOpOpS.f
  have := held_loop 1 (by omega) c h c 0 (by omega)
  rw [show (1 : Int) + 5 * ((0 : Nat) : Int) = 1 by omega] at this
  refine Tot.bind this ?_
  rintro _ rfl
  exact Tot.neg (by omega) (Tot.ret rfl)
theorem said_small {s : ByteArray} {r : AskR} (h : SaidA s r ∨ ((∀ r, ¬ SaidA s r) ∧ r = zA)) : r.1.length ≤ 5 ∧ ∀ y ∈ r.1, sm23 y := by
  rcases h with ⟨l, p, n, h, _, rfl⟩ | ⟨_, rfl⟩
  · exact ⟨(askB_parts h).1, fun y hy => trivial⟩
  · exact ⟨by simp [zA], fun y hy => by simp [zA] at hy⟩
theorem FnExactAskRead : laws_FnExactAskRead.Pure := by
  intro s hs
  refine Tot.rounds ?_
  unfold laws_FnExactAskRead.f
  refine Tot.ite (fun _ => Tot.ret rfl) (fun hn => ?_)
  have h1 : s.size ≤ 1048576 := by omega
  refine Tot.bind (specAsk_tot s h1) ?_
  intro r hr
  refine Tot.bind (implAsk_tot s) ?_
  intro r' hr'
  obtain rfl := asks_same hr hr'
  have hsm := said_small hr
  have heq := eqUrlAsk_ev r.1 r.2.1 r.2.2.1 ⟨by omega, hsm.2⟩
  refine Tot.bind (Tot.of_ev heq) ?_; rintro _ rfl
  refine Tot.pos rfl ?_
  refine Tot.succ ?_
  simp only [laws_FnExactAskRead.j0]
  refine Tot.neg (by simp) ?_
  refine Tot.bind (mark_tot r.1 (by omega) _ _) ?_; rintro _ rfl
  refine Tot.bind (held_tot r.1.length (by omega) _ _) ?_; rintro _ rfl
  refine Tot.neg (by omega) (Tot.pos rfl ?_)
  refine Tot.bind (implAsk_tot s) ?_
  intro r2 hr2
  obtain rfl := asks_same hr hr2
  refine Tot.bind (Tot.of_ev heq) ?_; rintro _ rfl
  refine Tot.pos rfl ?_
  refine Tot.succ ?_
  simp only [laws_FnExactAskRead.j1]
  refine Tot.neg (by simp) ?_
  refine Tot.bind (held_tot r.1.length (by omega) _ _) ?_; rintro _ rfl
  exact Tot.neg (by omega) (Tot.pos rfl (Tot.ret rfl))
end Go.Proofs.YtfafjpfigphchaaDoor.Pure
namespace Go.Proofs.YtfafjpfigphchaaDoor.X
set_option linter.unusedVariables false
variable {H : Type} {enc : TypeId × Value → H}
theorem returnsBoth {a : Assume} {C : Checked} {os : Os} {f : FuncId} {fn : Func} {s : ChangeSpec} {conds : List PathCond} {apart fresh handsOn again : Bool} {X : World → Array Value → Prop}
    (hX : ∀ (w w' : World) (args : Array Value), w.heap = w'.heap → X w args → X w' args)
    (own : ownKnob C.prog.godebug = none) (started : os.Started) (noInit : C.prog.inits.idxOf? f = none) (hfn : C.prog.funcs[f]? = some fn)
    (witness : ∃ (w : World) (tape : Tape) (i : Input), w.os = os ∧ (w.forCall tape i).Shaped C.prog ∧ i.vars = [] ∧ Input.okWide C.prog (w.forCall tape i) .any w.heap.size f i ∧
      ((s.pre enc C.prog fn conds apart (w.forCall tape i).memory i.args ∧ X (w.forCall tape i).memory i.args) ∧ sizedMet enc C.prog fn (OpenSpec.ofChange s) apart (w.forCall tape i).memory i.args) ∧ a.holds C.prog (lone (Frame.enter C.prog f i.args .normal) [] (w.forCall tape i)))
    (contract : ∀ (W : World) (base : Nat) (args : Array Value) (ds gs : List (DataW H)) (before : List MemPlace),
      (∀ (j : Nat) t v, fn.params[j]? = some t → args[j]? = some v → Value.okWide C.prog W .any base t v) →
      DataW.Whole enc C.prog fn.params.toList s.vars apart W args.toList ds gs before →
      conds.all (PathCond.test C.prog ⟨fn.params.toList, ds, s.plain.varTypes C.prog, gs⟩) = true →
      (DataW.weightsEach C.prog (fn.params.toList ++ s.plain.varTypes C.prog) (ds ++ gs)).all (· ≤ reachBytes) = true → X W args ∧ W.ShapedOpen C.prog →
      a.holds C.prog (lone (Frame.enter C.prog f args .normal) [] W) →
      Calls C.prog f args W fun e W' => ∃ v, e = .returned v ∧ s.post enc C.prog fn apart fresh handsOn again W args v W') :
    ReturnsInHanded a C os f .any (fun w args => (s.pre enc C.prog fn conds apart w args ∧ X w args) ∧ sizedMet enc C.prog fn (OpenSpec.ofChange s) apart w args) (s.post enc C.prog fn apart fresh handsOn again) := by
  refine returnsInHanded_of_calls own started noInit witness ?_
  intro w tape i _ hsh _ hok hpre hholds
  obtain ⟨_, _, _, fn', hfn', _, _, _, _, hval⟩ := hok
  have e : fn' = fn := Option.some.inj (hfn'.symm.trans hfn)
  subst e
  obtain ⟨⟨⟨ds, gs, before, hw, hc⟩, hx⟩, hz⟩ := hpre
  have hw' := DataW.Whole.of_heap (w' := w.forCall tape i) (by rfl) hw
  refine (contract (w.forCall tape i) w.heap.size i.args ds gs before hval hw' hc (hz.weights hw) ⟨hX _ _ _ (by rfl) hx, hsh⟩ hholds).mono fun e W' ⟨v, he, hp⟩ => ?_
  subst he
  exact ChangeSpec.post_blind hp
end Go.Proofs.YtfafjpfigphchaaDoor.X
namespace Go.Proofs.YtfafjpfigphchaaDoor.X
set_option linter.unusedVariables false
set_option linter.unusedSimpArgs false
set_option linter.unusedSectionVars false
open Go.ChangeShapes Go.WideShapes Go.ChangeAt Go.WideMaps Go.WideElems Go.RowKit Go.Proofs.YtfafjpfigphchaaDoorW.PrintWords
abbrev laid6 : List (String × DataW Unit) := [("math/bits.deBruijn32tab", Rows.laid_math_bits_deBruijn32tab), ("math/bits.deBruijn64tab", Rows.laid_math_bits_deBruijn64tab), ("internal/strconv.uint64pow10", Rows.laid_internal_strconv_uint64pow10), ("unicode/utf8.acceptRanges", Rows.laid_unicode_utf8_acceptRanges), ("loop.example/easel/impl.opForms", Rows.laid_loop_example_easel_impl_opForms), ("unicode/utf8.first", Rows.laid_unicode_utf8_first)]
abbrev laid2 : List (String × DataW Unit) := [("internal/strconv.uint64pow10", Rows.laid_internal_strconv_uint64pow10), ("loop.example/easel/impl.opForms", Rows.laid_loop_example_easel_impl_opForms)]
set_option maxRecDepth 100000 in
theorem door_met (os : Os) (args : Array Value) : laidMetH Tryd.prog laid6 ((World.laidAll Tryd.prog os laid6).forCall (fun _ _ => 0) ⟨#[], args, []⟩).memory := by
  rw [MakeChecks.laidMetH_plain _ _ _ (by kernel_rfl)]
  exact laidMet_laidAll _ (by kernel_rfl) (by kernel_rfl)
theorem gF : Tryd.prog.globalNamed "loop.example/easel/impl.opForms" = some 0 := by kernel_rfl
theorem tF : (Tryd.prog.globals[0]?).map (·.type) = some 65 := by kernel_rfl
theorem tP : (Tryd.prog.globals[2]?).map (·.type) = some 127 := by kernel_rfl
theorem blk_of_var {w : World} {name : String} {g : Nat} {cs : Array Value} (hg : Tryd.prog.globalNamed name = some g) (h : w.var? Tryd.prog name = some cs) : ∃ t fr, w.heap[g]? = some (.cells cs t fr) := by
  unfold World.var? at h
  rw [hg] at h
  simp only [Option.bind_some] at h
  split at h
  · rename_i cs' t fr hh
    obtain rfl := Option.some.inj h
    exact ⟨t, fr, hh⟩
  · cases h
variable {H : Type} {enc : TypeId × Value → H} {P : Program} {w : World} {base : Nat} {sp : Nat → Bool} {held : Bool}
/-- The cells of an array whose elements' cells are told by their data. -/
theorem cells_of_rows {fuel : Nat} {t e : TypeId} {n : Nat} {cs : List Value} {p : List MemPlace} {ds : List (DataW H)} (L : List (List Value))
    (ht : P.underlying t = some (.array n e)) (hct : P.cellsOf t = n * P.cellsOf e) (hL : ∀ (i : Nat) (l : List Value), L[i]? = some l → l.length = P.cellsOf e) (hn : L.length = n)
    (he : ∀ (i : Nat) (m : Nat) (d : DataW H) (l c : List Value) (q : List MemPlace), ds[i]? = some d → L[i]? = some l → DataW.trod enc P w base sp held m e c = some (d, q) → c = l)
    (h : DataW.trod enc P w base sp held fuel t cs = some (.agg ds, p)) : cs = L.flatten := by
  obtain ⟨xs, m, rfl, hx, hl, hlen, hf⟩ := DataW.trod_array ht h
  obtain ⟨hd, -⟩ := Prod.mk.inj hx
  have hds : ds = xs.map (·.1) := by injection hd
  have key : ∀ (i : Nat) (l : List Value), L[i]? = some l → (cs.drop (i * P.cellsOf e)).take (P.cellsOf e) = l := by
    intro i l hi
    have hin : i < n := by have := (List.getElem?_eq_some_iff.1 hi).1; omega
    have h1 := hf i hin
    have hix : i < xs.length := by omega
    rw [List.getElem?_eq_getElem hix] at h1
    refine he i m (xs[i]).1 l _ (xs[i]).2 ?_ hi h1
    rw [hds, List.getElem?_map, List.getElem?_eq_getElem hix]
    rfl
  have gen : ∀ (L : List (List Value)) (cs : List Value), (∀ (i : Nat) (l : List Value), L[i]? = some l → (cs.drop (i * P.cellsOf e)).take (P.cellsOf e) = l) → cs.length = L.length * P.cellsOf e → cs = L.flatten := by
    intro L
    induction L with
    | nil => intro cs _ h; simp at h; simp [h]
    | cons a L ih =>
      intro cs hk hlen
      have h0 := hk 0 a rfl
      rw [Nat.zero_mul, List.drop_zero] at h0
      rw [List.length_cons, Nat.add_mul, Nat.one_mul] at hlen
      have h1 := ih (cs.drop (P.cellsOf e)) (fun i l hi => by
        rw [List.drop_drop, show P.cellsOf e + i * P.cellsOf e = (i + 1) * P.cellsOf e by rw [Nat.add_mul]; omega]
        exact hk (i + 1) l (by simpa using hi)) (by rw [List.length_drop]; omega)
      rw [List.flatten_cons, ← h1, ← h0, List.take_append_drop]
  exact gen L cs key (by rw [hl, hct, hn])
set_option maxRecDepth 100000 in
theorem form_cells {m : Nat} {c : List Value} {s : List UInt8} {n : Int} {q : List MemPlace} (h : DataW.trod enc Tryd.prog w base sp held m 64 c = some (.agg [.lit (.string s), .lit (.int .i64 n)], q)) : c = [.string ⟨s.toArray⟩, .int .i64 n] := by
  obtain ⟨y0, y1, k, hx, hl, h0, h1⟩ := trod_struct2 Tryd.underlying64 h
  have hx := (Prod.mk.inj hx).1
  injection hx with hx
  injection hx with e0 hx
  injection hx with e1 _
  obtain ⟨s', hc0, rfl, _⟩ := DataW.trod_string Tryd.underlying9 h0
  obtain ⟨n', hc1, rfl, _⟩ := DataW.trod_int Tryd.underlying3 h1
  injection e0 with e0; injection e0 with e0
  injection e1 with e1; injection e1 with _ e1
  have hl2 : c.length = 2 := hl.trans (by kernel_rfl)
  match c, hl2 with
  | [a, b], _ =>
    have ha : [a] = [Value.string s'] := hc0
    have hb : [b] = [Value.int .i64 n'] := hc1
    cases ha; cases hb
    subst e1
    rw [e0]
set_option maxRecDepth 100000 in
theorem glob_of {W : World} (hh : laidMetH Tryd.prog laid6 W ∧ W.ShapedOpen Tryd.prog) : Glob W := by
  obtain ⟨h, hsh⟩ := hh
  have h := laidMetH.filter (fun x => x.1 == "internal/strconv.uint64pow10" || x.1 == "loop.example/easel/impl.opForms") h
  rw [show laid6.filter (fun x => x.1 == "internal/strconv.uint64pow10" || x.1 == "loop.example/easel/impl.opForms") = laid2 from rfl] at h
  rw [MakeChecks.laidMetH_plain _ _ _ (by kernel_rfl)] at h
  have hmax := cell_of_shapedOpen_int (P := Tryd.prog) (g := 1) (t := 3) (zero := #[.int .i64 0]) hsh (of_decide_eq_true (by kernel_rfl)) (by kernel_rfl) rfl (by kernel_rfl) (by kernel_rfl) Tryd.underlying3
  obtain ⟨ps, ⟨g2, t2, cs2, f2, p2, q2, hg2, ht2, hv2, hd2, ⟨g3, t3, cs3, f3, p3, q3, hg3, ht3, hv3, hd3, _⟩, _⟩, _, _⟩ := h
  obtain rfl := Option.some.inj (gPow.symm.trans hg2)
  obtain rfl := Option.some.inj (gF.symm.trans hg3)
  obtain rfl := Option.some.inj (tP.symm.trans ht2)
  obtain rfl := Option.some.inj (tF.symm.trans ht3)
  have e2 := Lib.cells_of_tab (zs := Lib.pow10Tab) (k := .u64) Tryd.underlying127 Tryd.underlying112 (by kernel_rfl) (by kernel_rfl) hd2
  obtain ⟨t, fr, hh⟩ := blk_of_var gF hv3
  obtain ⟨t', fr', hh'⟩ := blk_of_var gPow hv2
  have e3 := cells_of_rows [[.string ⟨#[]⟩, .int .i64 0], [.string ⟨#[99, 114, 111, 112]⟩, .int .i64 4], [.string ⟨#[102, 108, 105, 112, 120]⟩, .int .i64 0], [.string ⟨#[102, 108, 105, 112, 121]⟩, .int .i64 0], [.string ⟨#[116, 117, 114, 110]⟩, .int .i64 0], [.string ⟨#[103, 114, 97, 121]⟩, .int .i64 0], [.string ⟨#[98, 108, 117, 114]⟩, .int .i64 0], [.string ⟨#[115, 105, 122, 101]⟩, .int .i64 2], [.string ⟨#[102, 108, 97, 116]⟩, .int .i64 3]] Tryd.underlying65 (by kernel_rfl)
    (fun i l hi => by
      have hm := List.mem_of_getElem? hi
      have : l.length = 2 := by simp only [List.mem_cons, List.not_mem_nil, or_false] at hm; rcases hm with rfl | rfl | rfl | rfl | rfl | rfl | rfl | rfl | rfl <;> rfl
      exact this.trans (by kernel_rfl)) rfl
    (fun i m d l c q hd hl hc => by
      match i, hd, hl with
      | 0, hd, hl => cases hd; cases hl; exact form_cells hc
      | 1, hd, hl => cases hd; cases hl; exact form_cells hc
      | 2, hd, hl => cases hd; cases hl; exact form_cells hc
      | 3, hd, hl => cases hd; cases hl; exact form_cells hc
      | 4, hd, hl => cases hd; cases hl; exact form_cells hc
      | 5, hd, hl => cases hd; cases hl; exact form_cells hc
      | 6, hd, hl => cases hd; cases hl; exact form_cells hc
      | 7, hd, hl => cases hd; cases hl; exact form_cells hc
      | 8, hd, hl => cases hd; cases hl; exact form_cells hc
      | _ + 9, hd, _ => cases hd) hd3
  refine ⟨⟨t, fr, ?_⟩, ⟨t', fr', ?_⟩, hmax⟩
  · rw [hh]; congr 2; rw [← Array.toArray_toList (xs := cs3), e3]; rfl
  · rw [hh']; congr 2; rw [← e2]
theorem vars1 {n1 : String} : ∀ {gs : List (DataW H)} {q : List MemPlace}, DataW.TrodVars enc Tryd.prog w sp [n1] gs q → ∃ g1, gs = [g1]
  | [], _, h => h.elim
  | [a], _, _ => ⟨a, rfl⟩
  | _ :: _ :: _, _, h => by obtain ⟨_, _, _, _, _, _, _, _, _, _, h, _⟩ := h; exact h.elim
end Go.Proofs.YtfafjpfigphchaaDoor.X
