/- Lemmas and contracts for the law FnOpsDo, part 6: of the program's functions, and over data alone. No condition. -/
import Derived.Test.YtoifpgkfpdeglaaMFnOpsDo2
import Derived.Deep.RegionHeld3
import Derived.Deep.QuietTactic
import Derived.BigQuiet
import Derived.StillTailTactics
import Derived.Laws.EntriesVeiled
import Derived.Test.YtoifpgkfpdeglaaMFnOpsDo1
namespace Go.Proofs.Ytoifpgkfpdeglaa.X
open Go.RowKit Go.Proofs.YtoifpgkfpdeglaaW.PrintWords Go.Proofs.YtoifpgkfpdeglaaW.PrintLast Go.Proofs.YtoifpgkfpdeglaaW.PrintMore
set_option linter.unusedVariables false
set_option linter.unusedSimpArgs false
set_option maxHeartbeats 400000 in
theorem row_walk (A A' : Option Addr) (n c n' c' : Nat) (y wd m M : Int) (hm : wrap64 (y * wd) = m) (hM : wrap64 ((y + 1) * wd) = M) (h0 : 0 ≤ y) (h1 : y ≤ 1000)
    (hcut : ∀ W : World, (Instr.slice 96 (.slice A n c) (some (.int .i64 m)) (some (.int .i64 M)) none).run Try.prog W = .ok (.slice A' n' c') W) (w : World) :
    Calls Try.prog 81 #[.slice A n c, .int .i64 y, .int .i64 wd] w fun e w' => e = .returned (.slice A' n' c') ∧ w = w' := by
  go_enter Try.func81, Try.ntmps81
  go_wp2
  go_ret
  exact ⟨rfl, rfl⟩
abbrev Pix := S36
abbrev kPix := k36
theorem infoPix : ∃ i, Try.prog.info? 36 = some i ∧ i.size = 4 := by
  obtain ⟨i, hi, hz⟩ := Option.map_eq_some_iff.1 (by kernel_rfl : (Try.prog.info? 36).map (fun i => i.size) = some 4)
  exact ⟨i, hi, hz⟩
set_option maxHeartbeats 1000000 in
set_option maxRecDepth 100000 in
theorem pixOf_walk (A : Option Addr) (n c : Nat) (wd hg x y : Int) (ad : Addr) (n' c' : Nat) (m M : Int) (hm : wrap64 (y * wd) = m) (hM : wrap64 ((y + 1) * wd) = M) (h0 : 0 ≤ y) (h1 : y ≤ 1000)
    (hcut : ∀ W : World, (Instr.slice 96 (.slice A n c) (some (.int .i64 m)) (some (.int .i64 M)) none).run Try.prog W = .ok (.slice (some ad) n' c') W) (w : World)
    (hx0 : 0 ≤ x) (hx1 : x < n') (p : Pix)
    (hc0 : w.cell? (ad.add (x.toNat * 4)) = some (.int .i64 p.f0)) (hc1 : w.cell? ⟨(ad.add (x.toNat * 4)).block, (ad.add (x.toNat * 4)).off + 1, none⟩ = some (.int .i64 p.f1)) (hc2 : w.cell? ⟨(ad.add (x.toNat * 4)).block, (ad.add (x.toNat * 4)).off + 2, none⟩ = some (.int .i64 p.f2)) (hc3 : w.cell? ⟨(ad.add (x.toNat * 4)).block, (ad.add (x.toNat * 4)).off + 3, none⟩ = some (.int .i64 p.f3)) :
    Calls Try.prog 54 #[.agg #[.int .i64 wd, .int .i64 hg, .slice A n c], .int .i64 x, .int .i64 y] w fun e w' => e = .returned (.agg #[.int .i64 p.f0, .int .i64 p.f1, .int .i64 p.f2, .int .i64 p.f3]) ∧ Below w.heap.size w w' := by
  have up : ∀ {a : Addr} {v : Value} (X Y : Obj), w.cell? a = some v → ((w.alloc X).alloc Y).cell? a = some v := fun {a v} X Y h => pw_cell_below (((Below.refl _ _).alloc (Nat.le_refl _) X).alloc (by simp) Y) h
  have d0 := up (.cells #[.int .i64 wd, .int .i64 hg, .slice A n c] 25) (.cells #[.int .i64 0, .int .i64 0, .int .i64 0, .int .i64 0] 36) hc0
  have d1 := up (.cells #[.int .i64 wd, .int .i64 hg, .slice A n c] 25) (.cells #[.int .i64 0, .int .i64 0, .int .i64 0, .int .i64 0] 36) hc1
  have d2 := up (.cells #[.int .i64 wd, .int .i64 hg, .slice A n c] 25) (.cells #[.int .i64 0, .int .i64 0, .int .i64 0, .int .i64 0] 36) hc2
  have d3 := up (.cells #[.int .i64 wd, .int .i64 hg, .slice A n c] 25) (.cells #[.int .i64 0, .int .i64 0, .int .i64 0, .int .i64 0] 36) hc3
  clear up hc0 hc1 hc2 hc3
  have hu := Try.underlying36
  have HC := Aside0.mk hcut
  have Hm := Aside0.mk hm
  have HM := Aside0.mk hM
  clear hcut hm hM
  go_enter Try.func54, Try.ntmps54
  go_wp2_with (go_at_call 81; refine (row_walk _ _ _ _ _ _ y wd _ _ Hm.out HM.out h0 h1 HC.out _).mono ?_; rintro e w' ⟨rfl, rfl⟩)
  refine bodyPost_ret (v := .agg #[.int .i64 p.f0, .int .i64 p.f1, .int .i64 p.f2, .int .i64 p.f3]) (by simp [results, Try.results54, go_sem]) rfl ⟨rfl, ?_⟩
  exact ((Below.refl _ _).alloc (Nat.le_refl _) _).alloc (by simp) _
def Tells (w : World) (fv : Value) (wd hg : Nat) (f : Nat → Nat → Pix) : Prop :=
  ∃ fn caps, fv = .func (.func fn) #[] caps ∧ (∀ (args : Array Value) (W : World), (callFunc fn args).run Try.prog W = .ok (.enter fn args) W) ∧ ∀ (W : World), Below w.heap.size w W → ∀ x y : Nat, x < wd → y < hg →
    Calls Try.prog fn (#[.int .i64 x, .int .i64 y] ++ caps) W fun e w' => e = .returned (.agg #[.int .i64 (f x y).f0, .int .i64 (f x y).f1, .int .i64 (f x y).f2, .int .i64 (f x y).f3]) ∧ Below W.heap.size W w'
def mk (wd hg : Nat) (f : Nat → Nat → Pix) : List Pix := (List.range (wd * hg)).map fun i => f (i % wd) (i / wd)
def Upto (wd hg : Nat) (f : Nat → Nat → Pix) (n : Nat) (l : List Pix) : Prop := l.length = wd * hg ∧ ∀ i, i < n → l[i]? = some (f (i % wd) (i / wd))
theorem Upto.start (wd hg : Nat) (f : Nat → Nat → Pix) (z : Pix) : Upto wd hg f 0 (List.replicate (wd * hg) z) := ⟨by simp, fun i hi => absurd hi (by omega)⟩
theorem Upto.step {wd hg : Nat} {f : Nat → Nat → Pix} {x y : Nat} {l : List Pix} (hx : x < wd) (hy : y < hg) (h : Upto wd hg f (y * wd + x) l) : Upto wd hg f (y * wd + x + 1) (l.set (y * wd + x) (f x y)) := by
  have hlt : y * wd + x < wd * hg := by
    have : (y + 1) * wd ≤ hg * wd := Nat.mul_le_mul_right _ (by omega)
    rw [Nat.add_mul, Nat.mul_comm hg] at this
    omega
  refine ⟨by rw [List.length_set]; exact h.1, fun i hi => ?_⟩
  by_cases e : i = y * wd + x
  · subst e
    rw [List.getElem?_set_self (by rw [h.1]; exact hlt)]
    have e1 : (y * wd + x) % wd = x := by rw [Nat.add_comm, Nat.add_mul_mod_self_right, Nat.mod_eq_of_lt hx]
    have e2 : (y * wd + x) / wd = y := by rw [Nat.add_comm, Nat.add_mul_div_right _ _ (by omega), Nat.div_eq_of_lt hx]; omega
    rw [e1, e2]
  · rw [List.getElem?_set_ne (by omega)]
    exact h.2 i (by omega)
theorem Upto.done {wd hg : Nat} {f : Nat → Nat → Pix} {l : List Pix} (h : Upto wd hg f (wd * hg) l) : l = mk wd hg f := by
  apply List.ext_getElem?
  intro i
  by_cases hi : i < wd * hg
  · rw [h.2 i hi]
    simp [mk, hi]
  · rw [List.getElem?_eq_none (by rw [h.1]; omega), List.getElem?_eq_none (by simp [mk]; omega)]
def ResBlk (w : World) (b : Nat) : Prop := w.heap[b]? = some (.cells #[.int .i64 0, .int .i64 0, .slice none 0 0] 25 (0, 0))
theorem resBlk_made {w w1 : World} (h : (w.alloc (.cells #[.int .i64 0, .int .i64 0, .slice none 0 0] 25)).grownBy w1 none) : ResBlk w1 w.heap.size := by
  refine ((pw_below_grown (Below.refl (w.alloc (.cells #[.int .i64 0, .int .i64 0, .slice none 0 0] 25)).heap.size _) none (Nat.le_refl _) h (fun k hk => by cases hk)).block w.heap.size ?_).trans ?_
  · show w.heap.size < (w.heap.push _).size
    rw [Array.size_push]; omega
  · show (w.heap.push _)[w.heap.size]? = _
    rw [Array.getElem?_push_size]
theorem ResBlk.keep {w w1 : World} {b : Nat} (h : ResBlk w b) (hb : Below w.heap.size w w1) : ResBlk w1 b := (hb.block b (by
  obtain ⟨hl, _⟩ := Array.getElem?_eq_some_iff.1 h
  exact hl)).trans h
theorem ResBlk.far {w : World} {b : Nat} (h : ResBlk w b) {p : Addr} (hp : b ≠ p.block) {u : Value} : ResBlk (w.setCell p u) b := (Below.heap_setCell w p u b hp).trans h
theorem row_cut {wd hg n g cap : Nat} {i : TypeInfo} (hn : n = wd * hg) (hi : Try.prog.info? 36 = some i) (hs : i.size = 4) (hcap : n ≤ cap) : ∀ y : Nat, y < hg → 0 < wd → ∀ W : World, (Instr.slice 96 (.slice (some ⟨g, 0, none⟩) n cap) (some (.int .i64 ((y * wd : Nat) : Int))) (some (.int .i64 (((y + 1) * wd : Nat) : Int))) none).run Try.prog W = .ok (.slice (some ⟨g, y * wd * 4, none⟩) wd (cap - y * wd)) W := by
  intro y hy hw W
  have h1 : (y + 1) * wd ≤ hg * wd := Nat.mul_le_mul_right _ (by omega)
  have h2 : (y + 1) * wd = y * wd + wd := by rw [Nat.add_mul, Nat.one_mul]
  have h3 : hg * wd = n := by rw [hn, Nat.mul_comm]
  revert h1 h2
  generalize (y + 1) * wd = b
  generalize y * wd = a
  intro h1 h2
  have := cut_mid (P := Try.prog) 96 36 .i64 .i64 Try.underlying96 hi 4 hs (some ⟨g, 0, none⟩) n cap (a : Int) (b : Int) (by omega) (by omega) (by omega) hcap W
  rw [this, if_neg (by rw [Int.toNat_natCast]; omega)]
  simp only [Int.toNat_natCast, Option.map_some, Addr.add, Nat.zero_add]
  rw [show b - a = wd by omega, show (if a * 4 = 0 then (⟨g, 0, none⟩ : Addr) else ⟨g, a * 4, none⟩) = ⟨g, a * 4, none⟩ by split <;> simp_all]
theorem mul_w {a b : Nat} (ha : a ≤ 1000) (hb : b ≤ 1000) : wrap64 ((a : Int) * (b : Int)) = ((a * b : Nat) : Int) := by
  have h : ((a * b : Nat) : Int) ≤ 1000000 := by
    have : a * b ≤ 1000 * 1000 := Nat.mul_le_mul ha hb
    omega
  rw [Int.natCast_mul] at h ⊢
  have h0 : (0 : Int) ≤ (a : Int) * (b : Int) := Int.mul_nonneg (by omega) (by omega)
  unfold wrap64
  omega
theorem mul_w1 {a b : Nat} (ha : a ≤ 1000) (hb : b ≤ 1000) : wrap64 (((a : Int) + 1) * (b : Int)) = (((a + 1) * b : Nat) : Int) := by
  have h : (((a + 1) * b : Nat) : Int) ≤ 1001000 := by
    have : (a + 1) * b ≤ 1001 * 1000 := Nat.mul_le_mul (by omega) hb
    omega
  rw [Int.natCast_mul, Int.natCast_add] at h ⊢
  have h0 : (0 : Int) ≤ ((a : Int) + 1) * (b : Int) := Int.mul_nonneg (by omega) (by omega)
  unfold wrap64
  simp only [Int.natCast_one] at h ⊢
  omega
theorem place_lt {wd hg n x y : Nat} (hx : x < wd) (hy : y < hg) (hn : n = wd * hg) : y * wd + x < n := by
  have : (y + 1) * wd ≤ hg * wd := Nat.mul_le_mul_right _ (by omega)
  rw [Nat.add_mul, Nat.mul_comm hg] at this
  omega
theorem pix_store {W : World} {base g n cap : Nat} {l : List Pix} {ok : Nat → Prop} (h : Kd.R kPix 36 W base ok (.slice (some ⟨g, 0, none⟩) n cap) l) (i o : Nat) (hi : i < n) (ho : o = i * 4) (p : Pix) :
    (∃ a b c d, W.cell? ⟨g, o, none⟩ = some a ∧ W.cell? ⟨g, o + 1, none⟩ = some b ∧ W.cell? ⟨g, o + 2, none⟩ = some c ∧ W.cell? ⟨g, o + 3, none⟩ = some d) ∧ (∀ j, W.frozen? ⟨g, j, none⟩ = false) ∧
      Kd.R kPix 36 ((((W.setCell ⟨g, o, none⟩ (.int .i64 p.f0)).setCell ⟨g, o + 1, none⟩ (.int .i64 p.f1)).setCell ⟨g, o + 2, none⟩ (.int .i64 p.f2)).setCell ⟨g, o + 3, none⟩ (.int .i64 p.f3)) base ok (.slice (some ⟨g, 0, none⟩) n cap) (l.set i p) := by
  subst ho
  obtain ⟨c, hcl, hM, hcc, hfz⟩ := Kd.R_elem h z36 (i : Int) (by omega) (by omega)
  have hc := k36_openM hM
  have hs := (Kd.R_seg h (i : Int) (by omega) (by omega) (c := c) (seg := [.int .i64 p.f0, .int .i64 p.f1, .int .i64 p.f2, .int .i64 p.f3]) (j := 0) hcl hcc (Nat.le_refl 4) (x' := p) (okp := fun k => ok k ∧ k ≠ g) (by rw [hc]; exact k36_mkM _ _ _ p) (fun _ hk => hk)).1
  subst hc
  have h0 := hcc 0 _ rfl
  have h1 := hcc 1 _ rfl
  have h2 := hcc 2 _ rfl
  have h3 := hcc 3 _ rfl
  refine ⟨⟨_, _, _, _, h0, h1, h2, h3⟩, fun j => ?_, hs⟩
  obtain ⟨cs, hcs⟩ := Kd.R_typed h g rfl
  exact blk_frozen hcs j
set_option maxHeartbeats 2000000 in
set_option maxRecDepth 100000 in
theorem newRaster_walk (wd hg : Nat) (hw0 : 1 ≤ wd) (hw1 : wd ≤ 6) (hh0 : 1 ≤ hg) (hh1 : hg ≤ 6) (f : Nat → Nat → Pix) (fv : Value) (w : World) (ht : Tells w fv wd hg f) :
    Calls Try.prog 52 #[.int .i64 wd, .int .i64 hg, fv] w fun e w' => ∃ v, e = .returned (.agg #[.int .i64 wd, .int .i64 hg, v]) ∧ Kd.R kPix 36 w' w.heap.size (fun _ => True) v (mk wd hg f) ∧ Below w.heap.size w w' := by
  obtain ⟨fn, caps, rfl, henter, hcall⟩ := ht
  have HT := Aside0.mk hcall
  clear hcall
  obtain ⟨n, hn⟩ : ∃ n, n = wd * hg := ⟨_, rfl⟩
  have hn1 : 1 ≤ n := by rw [hn]; exact Nat.mul_le_mul hw0 hh0
  have hn2 : n ≤ 36 := by rw [hn]; exact Nat.mul_le_mul hw1 hh1
  have hmul : wrap64 ((wd : Int) * (hg : Int)) = (n : Int) := by
    rw [hn, Int.natCast_mul]
    have : ((wd * hg : Nat) : Int) ≤ 36 := by rw [← hn]; omega
    rw [Int.natCast_mul] at this
    have h0 : (0 : Int) ≤ (wd : Int) * (hg : Int) := Int.mul_nonneg (by omega) (by omega)
    unfold wrap64
    omega
  obtain ⟨iP, hiP, hsP⟩ := infoPix
  have HM := Aside0.mk hmul
  have HN := Aside0.mk hn
  have HI := Aside0.mk hiP
  have HS := Aside0.mk hsP
  clear hn hiP hsP hmul
  go_enter Try.func52, Try.ntmps52
  go_wp2_with (at_make; refine Kd.R_make kPix w.heap.size 36 rfl (N := 14) rfl 96 _ _ rfl (wrap64 ((wd : Int) * (hg : Int))) rfl rfl Try.underlying96 (.agg #[(.int .i64 0), (.int .i64 0), (.int .i64 0), (.int .i64 0)]) 32 info36 rfl (by decide) (by decide) z36 (ok := fun k => w.heap.size < k) (okp := fun k => w.heap.size < k) (k36_mkM _ _ _ z36) (fun _ hk => hk) (by simp) (by rw [HM.out]; omega) (by rw [HM.out]; omega) ((Below.refl _ _).alloc (Nat.le_refl _) _) (by simp) ?_; intro v1 w1 hR hB hgr _)
  rw [HM.out] at hR
  obtain ⟨g, cap, rfl, hg1, hg2, cells, hcells⟩ := Kd.R_form hR (by simp; omega)
  have hgb : w.heap.size < g := hR.1 g rfl
  have hres := resBlk_made hgr
  simp only [HM.out, Int.toNat_natCast, List.length_replicate] at hR ⊢
  have hcap := (Kd.R_reads' hR).2.1
  have HC := Aside0.mk (row_cut HN.out HI.out HS.out hcap (g := g))
  have HU := Aside0.mk (Upto.start wd hg f z36)
  rw [← HN.out] at HU
  clear hgr hcells hcap hg1 hg2
  go_loopw [16] (fun v wr => ∃ (y : Nat) (l : List Pix), y ≤ hg ∧ v = .int .i64 y ∧ Aside0 (Upto wd hg f (y * wd) l) ∧ Aside0 (Kd.R kPix 36 wr w.heap.size (fun k => w.heap.size < k) (.slice (some ⟨g, 0, none⟩) n cap) l) ∧ Aside0 (Below w.heap.size w wr) ∧ Aside0 (ResBlk wr w.heap.size)) (fun v _ => hg - (intOf v).toNat)
  case atStart => exact ⟨0, _, Nat.zero_le _, rfl, Aside0.mk (by rw [Nat.zero_mul]; exact HU.out), Aside0.mk hR, Aside0.mk hB, Aside0.mk hres⟩
  case round =>
    clear hR hB hres HU
    obtain ⟨y, l, hy, rfl, HU, HR, HB, HRES⟩ := hrel
    by_cases hlt : (y : Int) < (hg : Int)
    · have hlt' : y < hg := by omega
      have HY1 := Aside0.mk (mul_w (a := y) (b := wd) (by omega) (by omega))
      have HY2 := Aside0.mk (mul_w1 (a := y) (b := wd) (by omega) (by omega))
      go_wp2_with (go_at_call 81; refine (row_walk (some ⟨g, 0, none⟩) (some ⟨g, y * wd * 4, none⟩) n cap wd (cap - y * wd) y wd _ _ HY1.out HY2.out (by omega) (by omega) (HC.out y hlt' hw0) _).mono ?_; rintro e w' ⟨rfl, rfl⟩)
      go_loopw [25] (fun v wr' => ∃ (x : Nat) (l' : List Pix), x ≤ wd ∧ v = .int .i64 x ∧ Aside0 (Upto wd hg f (y * wd + x) l') ∧ Aside0 (Kd.R kPix 36 wr' w.heap.size (fun k => w.heap.size < k) (.slice (some ⟨g, 0, none⟩) n cap) l') ∧ Aside0 (Below w.heap.size w wr') ∧ Aside0 (ResBlk wr' w.heap.size)) (fun v _ => wd - (intOf v).toNat)
      case atStart => exact ⟨0, l, Nat.zero_le _, rfl, HU, HR, HB, HRES⟩
      case round =>
        clear HU HR HB HRES
        obtain ⟨x, l', hx, rfl, HU, HR, HB, HRES⟩ := hrel
        by_cases hlx : (x : Int) < (wd : Int)
        · have hlx' : x < wd := by omega
          have HLT := Aside0.mk (place_lt hlx' hlt' HN.out)
          go_wp2_with (refine (HT.out _ HB.out x y hlx' hlt').mono ?_; rintro e w2 ⟨rfl, hb2⟩; obtain ⟨⟨u0, u1, u2, u3, e0, e1, e2, e3⟩, ef, hS⟩ := pix_store (Kd.R_below HR.out hb2) (y * wd + x) (y * wd * 4 + x * 4) HLT.out (by rw [Nat.add_mul]) (f x y); have HS2 := Aside0.mk hS; have HB2 := Aside0.mk hb2; clear hb2 hS)
          refine ⟨⟨x + 1, _, hlx', rfl, Aside0.mk (Upto.step hlx' hlt' HU.out), HS2, Aside0.mk ?_, Aside0.mk ?_⟩, by simp [intOf]; omega⟩
          · exact ((((HB.out.trans (HB2.out.mono HB.out.size)).setCell (Nat.le_of_lt hgb) _).setCell (Nat.le_of_lt hgb) _).setCell (Nat.le_of_lt hgb) _).setCell (Nat.le_of_lt hgb) _
          · exact (((((HRES.out).keep HB2.out).far (Nat.ne_of_lt hgb)).far (Nat.ne_of_lt hgb)).far (Nat.ne_of_lt hgb)).far (Nat.ne_of_lt hgb)
        · obtain rfl : x = wd := by omega
          go_wp2
          refine ⟨⟨y + 1, l', hlt', rfl, Aside0.mk (by rw [Nat.add_mul, Nat.one_mul]; exact HU.out), HR, HB, HRES⟩, by simp [intOf]; omega⟩
    · obtain rfl : y = hg := by omega
      have c0 := blk_cell HRES.out 0
      have c1 := blk_cell HRES.out 1
      have c2 := blk_cell HRES.out 2
      have f0 := blk_frozen HRES.out 0
      have f1 := blk_frozen HRES.out 1
      have f2 := blk_frozen HRES.out 2
      simp at c0 c1 c2
      go_wp2
      refine bodyPost_ret (results_cell_row rfl _ _ w.heap.size 25 #[.int .i64 wd, .int .i64 y, .slice (some ⟨g, 0, none⟩) n cap] (0, 0) _ rfl (by refine blk_put (cs := #[.int .i64 wd, .int .i64 y, .slice none 0 0]) ?_ 2 _ rfl; refine blk_put (cs := #[.int .i64 wd, .int .i64 0, .slice none 0 0]) ?_ 1 _ rfl; refine blk_put (cs := #[.int .i64 0, .int .i64 0, .slice none 0 0]) ?_ 0 _ rfl; exact HRES.out) Try.underlying25 rfl (by kernel_rfl)) rfl ?_
      refine ⟨_, rfl, ?_, ((HB.out.setCell (Nat.le_refl _) _).setCell (Nat.le_refl _) _).setCell (Nat.le_refl _) _⟩
      have hl : l = mk wd y f := Upto.done (by rw [Nat.mul_comm]; exact HU.out)
      rw [← hl]
      exact Kd.R_mono (Kd.R_far (p := ⟨w.heap.size, 2, none⟩) (Kd.R_far (p := ⟨w.heap.size, 1, none⟩) (Kd.R_far (p := ⟨w.heap.size, 0, none⟩) HR.out (fun _ hk => Nat.ne_of_gt hk) _) (fun _ hk => Nat.ne_of_gt hk) _) (fun _ hk => Nat.ne_of_gt hk) _) (fun _ _ => trivial)
end Go.Proofs.Ytoifpgkfpdeglaa.X
namespace Go.Proofs.Ytoifpgkfpdeglaa.X
open Go.RowKit Go.Proofs.YtoifpgkfpdeglaaW.PrintWords
set_option linter.unusedVariables false
set_option linter.unusedSimpArgs false
def pix (l : List Pix) (wd x y : Nat) : Pix := l.getD (y * wd + x) z36
theorem mk_length (w h : Nat) (f : Nat → Nat → Pix) : (mk w h f).length = w * h := by simp [mk]
theorem mod_div_lt {w h i : Nat} (hi : i < w * h) : i % w < w ∧ i / w < h := by
  have hw : 0 < w := by
    rcases Nat.eq_zero_or_pos w with h0 | h0
    · subst h0; rw [Nat.zero_mul] at hi; omega
    · exact h0
  exact ⟨Nat.mod_lt _ hw, Nat.div_lt_of_lt_mul hi⟩
theorem mk_pix {w h : Nat} {l : List Pix} (hl : l.length = w * h) : mk w h (pix l w) = l := by
  apply List.ext_getElem?
  intro i
  by_cases hi : i < w * h
  · have e : i / w * w + i % w = i := by rw [Nat.mul_comm]; exact Nat.div_add_mod i w
    unfold mk
    rw [List.getElem?_map, List.getElem?_range hi]
    simp only [Option.map_some]
    unfold pix
    rw [e, List.getD_eq_getElem?_getD, List.getElem?_eq_getElem (by omega)]
    rfl
  · rw [List.getElem?_eq_none (by rw [mk_length]; omega), List.getElem?_eq_none (by omega)]
theorem mk_mem {w h : Nat} {f : Nat → Nat → Pix} {p : Pix} (hp : p ∈ mk w h f) : ∃ x y, x < w ∧ y < h ∧ p = f x y := by
  unfold mk at hp
  obtain ⟨i, hi, rfl⟩ := List.mem_map.1 hp
  have := mod_div_lt (List.mem_range.1 hi)
  exact ⟨_, _, this.1, this.2, rfl⟩
theorem pix_mem {w h x y : Nat} {l : List Pix} (hl : l.length = w * h) (hx : x < w) (hy : y < h) : pix l w x y ∈ l := by
  have hi := place_lt hx hy hl
  unfold pix
  rw [List.getD_eq_getElem?_getD, List.getElem?_eq_getElem hi]
  exact List.getElem_mem hi
def addP (p q : Pix) : Pix := ⟨wrap64 (p.f0 + q.f0), wrap64 (p.f1 + q.f1), wrap64 (p.f2 + q.f2), wrap64 (p.f3 + q.f3)⟩
def rowSum (l : List Pix) (wd y : Nat) : Nat → Nat → Pix → Pix
  | _, 0, s => s
  | x, m + 1, s => rowSum l wd y (x + 1) m (addP s (pix l wd x y))
def boxSum (l : List Pix) (wd x m : Nat) : Nat → Nat → Pix → Pix
  | _, 0, s => s
  | y, n + 1, s => boxSum l wd x m (y + 1) n (rowSum l wd y x m s)
def nearLo (x : Nat) : Nat := x - 1
def nearMany (x n : Nat) : Nat := min (x + 2) n - (x - 1)
def meanP (s : Pix) (n : Nat) : Pix := ⟨wrap64 (Int.tdiv s.f0 n), wrap64 (Int.tdiv s.f1 n), wrap64 (Int.tdiv s.f2 n), wrap64 (Int.tdiv s.f3 n)⟩
def blurP (l : List Pix) (wd hg x y : Nat) : Pix := meanP (boxSum l wd (nearLo x) (nearMany x wd) (nearLo y) (nearMany y hg) z36) (nearMany y hg * nearMany x wd)
theorem rowSum_snoc (l : List Pix) (wd y : Nat) : ∀ (m x : Nat) (s : Pix), rowSum l wd y x (m + 1) s = addP (rowSum l wd y x m s) (pix l wd (x + m) y) := by
  intro m
  induction m with
  | zero => intro x s; rfl
  | succ m ih =>
    intro x s
    show rowSum l wd y (x + 1) (m + 1) (addP s (pix l wd x y)) = _
    rw [ih]
    show _ = addP (rowSum l wd y (x + 1) m (addP s (pix l wd x y))) _
    rw [show x + 1 + m = x + (m + 1) by omega]
theorem boxSum_snoc (l : List Pix) (wd x m : Nat) : ∀ (n y : Nat) (s : Pix), boxSum l wd x m y (n + 1) s = rowSum l wd (y + n) x m (boxSum l wd x m y n s) := by
  intro n
  induction n with
  | zero => intro y s; rfl
  | succ n ih =>
    intro y s
    show boxSum l wd x m (y + 1) (n + 1) (rowSum l wd y x m s) = _
    rw [ih]
    show _ = rowSum l wd (y + (n + 1)) x m (boxSum l wd x m (y + 1) n (rowSum l wd y x m s))
    rw [show y + 1 + n = y + (n + 1) by omega]
theorem nearMany_pos {x n : Nat} (h : x < n) : 1 ≤ nearMany x n ∧ nearLo x + nearMany x n = min (x + 2) n ∧ nearMany x n ≤ 3 := by
  unfold nearMany nearLo; omega
def grayP (p : Pix) : Pix := ⟨wrap64 (Int.tdiv (wrap64 (wrap64 (wrap64 (77 * p.f0) + wrap64 (150 * p.f1)) + wrap64 (29 * p.f2))) 256), wrap64 (Int.tdiv (wrap64 (wrap64 (wrap64 (77 * p.f0) + wrap64 (150 * p.f1)) + wrap64 (29 * p.f2))) 256), wrap64 (Int.tdiv (wrap64 (wrap64 (wrap64 (77 * p.f0) + wrap64 (150 * p.f1)) + wrap64 (29 * p.f2))) 256), p.f3⟩
def overP (front behind a : Int) : Int := wrap64 (Int.tdiv (wrap64 (wrap64 (front * a) + wrap64 (behind * wrap64 (255 - a)))) 255)
def flatP (a b c : Int) (p : Pix) : Pix := ⟨overP p.f0 a p.f3, overP p.f1 b p.f3, overP p.f2 c p.f3, 255⟩
abbrev Op := S27
def wideM (o : Op) (wd hg : Nat) : Nat := if o.f0 = 1 then o.f3.toNat else if o.f0 = 4 then hg else if o.f0 = 7 then o.f1.toNat else wd
def highM (o : Op) (wd hg : Nat) : Nat := if o.f0 = 1 then o.f4.toNat else if o.f0 = 4 then wd else if o.f0 = 7 then o.f2.toNat else hg
def colM (o : Op) (wd hg : Nat) (l : List Pix) (x y : Nat) : Pix :=
  if o.f0 = 1 then pix l wd (o.f1.toNat + x) (o.f2.toNat + y)
  else if o.f0 = 2 then pix l wd (wd - 1 - x) y
  else if o.f0 = 3 then pix l wd x (hg - 1 - y)
  else if o.f0 = 4 then pix l wd y (hg - 1 - x)
  else if o.f0 = 5 then grayP (pix l wd x y)
  else if o.f0 = 6 then blurP l wd hg x y
  else if o.f0 = 7 then pix l wd ((2 * x + 1) * wd / (2 * o.f1.toNat)) ((2 * y + 1) * hg / (2 * o.f2.toNat))
  else flatP o.f1 o.f2 o.f3 (pix l wd x y)
def hasM (o : Op) (wd hg : Nat) : Bool := if o.f0 = 1 then decide (o.f1 + o.f3 ≤ wd) && decide (o.f2 + o.f4 ≤ hg) else true
def picM (o : Op) (wd hg : Nat) (l : List Pix) : List Pix := mk (wideM o wd hg) (highM o wd hg) (colM o wd hg l)
def OkP (p : Pix) : Prop := (0 ≤ p.f0 ∧ p.f0 ≤ 255) ∧ (0 ≤ p.f1 ∧ p.f1 ≤ 255) ∧ (0 ≤ p.f2 ∧ p.f2 ≤ 255) ∧ (0 ≤ p.f3 ∧ p.f3 ≤ 255)
def Valid (wd hg : Nat) (l : List Pix) : Prop := (1 ≤ wd ∧ wd ≤ 6) ∧ (1 ≤ hg ∧ hg ≤ 6) ∧ l.length = wd * hg ∧ ∀ p ∈ l, OkP p
def OkO (o : Op) : Prop :=
  (o.f0 = 1 ∧ (0 ≤ o.f1 ∧ o.f1 ≤ 5) ∧ (0 ≤ o.f2 ∧ o.f2 ≤ 5) ∧ (1 ≤ o.f3 ∧ o.f3 ≤ 6) ∧ (1 ≤ o.f4 ∧ o.f4 ≤ 6)) ∨
  ((2 ≤ o.f0 ∧ o.f0 ≤ 6) ∧ o.f1 = 0 ∧ o.f2 = 0 ∧ o.f3 = 0 ∧ o.f4 = 0) ∨
  (o.f0 = 7 ∧ (1 ≤ o.f1 ∧ o.f1 ≤ 6) ∧ (1 ≤ o.f2 ∧ o.f2 ≤ 6) ∧ o.f3 = 0 ∧ o.f4 = 0) ∨
  (o.f0 = 8 ∧ (0 ≤ o.f1 ∧ o.f1 ≤ 255) ∧ (0 ≤ o.f2 ∧ o.f2 ≤ 255) ∧ (0 ≤ o.f3 ∧ o.f3 ≤ 255) ∧ o.f4 = 0)
def srcX (o : Op) (wd hg x y : Nat) : Nat := if o.f0 = 1 then o.f1.toNat + x else if o.f0 = 2 then wd - 1 - x else if o.f0 = 3 then x else if o.f0 = 4 then y else if o.f0 = 7 then (2 * x + 1) * wd / (2 * o.f1.toNat) else x
def srcY (o : Op) (wd hg x y : Nat) : Nat := if o.f0 = 1 then o.f2.toNat + y else if o.f0 = 2 then y else if o.f0 = 3 then hg - 1 - y else if o.f0 = 4 then hg - 1 - x else if o.f0 = 7 then (2 * y + 1) * hg / (2 * o.f2.toNat) else y
def isMove (o : Op) : Prop := o.f0 ≠ 5 ∧ o.f0 ≠ 6 ∧ o.f0 ≠ 8
theorem scale_lt {x n m : Nat} (hx : x < n) (hm : 0 < m) : (2 * x + 1) * m / (2 * n) < m := by
  rw [Nat.div_lt_iff_lt_mul (by omega), Nat.mul_comm m]
  exact Nat.mul_lt_mul_of_pos_right (by omega) hm
theorem colM_move {o : Op} (ho : OkO o) (hm : isMove o) (wd hg : Nat) (l : List Pix) (x y : Nat) : colM o wd hg l x y = pix l wd (srcX o wd hg x y) (srcY o wd hg x y) := by
  obtain ⟨h5, h6, h8⟩ := hm
  unfold colM srcX srcY
  rcases ho with ⟨e, -⟩ | ⟨e, -⟩ | ⟨e, -⟩ | ⟨e, -⟩
  · simp [e]
  · have : o.f0 = 2 ∨ o.f0 = 3 ∨ o.f0 = 4 := by omega
    rcases this with e | e | e <;> simp [e]
  · simp [e]
  · omega
theorem hasM_crop {o : Op} {wd hg : Nat} (h : hasM o wd hg = true) (e : o.f0 = 1) : o.f1 + o.f3 ≤ wd ∧ o.f2 + o.f4 ≤ hg := by
  unfold hasM at h
  rw [if_pos e] at h
  simpa using h
theorem src_lt {o : Op} (ho : OkO o) {wd hg : Nat} (hw : 1 ≤ wd) (hh : 1 ≤ hg) (h : hasM o wd hg = true) {x y : Nat} (hx : x < wideM o wd hg) (hy : y < highM o wd hg) : srcX o wd hg x y < wd ∧ srcY o wd hg x y < hg := by
  unfold srcX srcY
  unfold wideM at hx
  unfold highM at hy
  rcases ho with ⟨e, a⟩ | ⟨e, a⟩ | ⟨e, a⟩ | ⟨e, a⟩
  · have := hasM_crop h e
    simp only [e, if_true] at hx hy ⊢
    omega
  · have : o.f0 = 2 ∨ o.f0 = 3 ∨ o.f0 = 4 ∨ o.f0 = 5 ∨ o.f0 = 6 := by omega
    rcases this with e | e | e | e | e <;> simp [e] at hx hy ⊢ <;> omega
  · simp [e] at hx hy ⊢
    exact ⟨scale_lt (by omega) (by omega), scale_lt (by omega) (by omega)⟩
  · simp [e] at hx hy ⊢
    omega
theorem dims_ok {o : Op} (ho : OkO o) {wd hg : Nat} (hw : 1 ≤ wd ∧ wd ≤ 6) (hh : 1 ≤ hg ∧ hg ≤ 6) : (1 ≤ wideM o wd hg ∧ wideM o wd hg ≤ 6) ∧ (1 ≤ highM o wd hg ∧ highM o wd hg ≤ 6) := by
  unfold wideM highM
  rcases ho with ⟨e, a⟩ | ⟨e, a⟩ | ⟨e, a⟩ | ⟨e, a⟩
  · simp [e]; omega
  · have : o.f0 = 2 ∨ o.f0 = 3 ∨ o.f0 = 4 ∨ o.f0 = 5 ∨ o.f0 = 6 := by omega
    rcases this with e | e | e | e | e <;> simp [e] <;> omega
  · simp [e]; omega
  · simp [e]; omega
theorem picM_length (o : Op) (wd hg : Nat) (l : List Pix) : (picM o wd hg l).length = wideM o wd hg * highM o wd hg := mk_length _ _ _
theorem picM_mem {o : Op} {wd hg : Nat} {l : List Pix} {p : Pix} (h : p ∈ picM o wd hg l) : ∃ x y, x < wideM o wd hg ∧ y < highM o wd hg ∧ p = colM o wd hg l x y := mk_mem h
def eachM (c : Pix → Pix) (wd hg : Nat) (l : List Pix) : List Pix := mk wd hg fun x y => c (pix l wd x y)
theorem picM_turn (wd hg : Nat) (l : List Pix) : picM ⟨4, 0, 0, 0, 0⟩ wd hg l = mk hg wd fun x y => pix l wd y (hg - 1 - x) := rfl
theorem picM_flipX (wd hg : Nat) (l : List Pix) : picM ⟨2, 0, 0, 0, 0⟩ wd hg l = mk wd hg fun x y => pix l wd (wd - 1 - x) y := rfl
theorem picM_flipY (wd hg : Nat) (l : List Pix) : picM ⟨3, 0, 0, 0, 0⟩ wd hg l = mk wd hg fun x y => pix l wd x (hg - 1 - y) := rfl
theorem move_mem {o : Op} (ho : OkO o) (hm : isMove o) {wd hg : Nat} (hw : 1 ≤ wd) (hh : 1 ≤ hg) (h : hasM o wd hg = true) {l : List Pix} (hl : l.length = wd * hg) {p : Pix} (hp : p ∈ picM o wd hg l) : p ∈ l := by
  obtain ⟨x, y, hx, hy, rfl⟩ := picM_mem hp
  have hs := src_lt ho hw hh h hx hy
  rw [colM_move ho hm]
  exact pix_mem hl hs.1 hs.2
def SumBd (s : Pix) (n : Int) : Prop := (0 ≤ s.f0 ∧ s.f0 ≤ 255 * n) ∧ (0 ≤ s.f1 ∧ s.f1 ≤ 255 * n) ∧ (0 ≤ s.f2 ∧ s.f2 ≤ 255 * n) ∧ (0 ≤ s.f3 ∧ s.f3 ≤ 255 * n)
theorem addP_bd {s p : Pix} {n : Int} (hs : SumBd s n) (hp : OkP p) (hn : n ≤ 1000) : SumBd (addP s p) (n + 1) := by
  unfold SumBd OkP at *
  unfold addP wrap64
  dsimp only
  omega
theorem rowSum_bd {l : List Pix} {wd y : Nat} : ∀ (m x : Nat) (s : Pix) (n : Int), (∀ x', x ≤ x' → x' < x + m → OkP (pix l wd x' y)) → SumBd s n → n + m ≤ 1000 → SumBd (rowSum l wd y x m s) (n + m) := by
  intro m
  induction m with
  | zero => intro x s n _ hs _; show SumBd s (n + 0); rw [Int.add_zero]; exact hs
  | succ m ih =>
    intro x s n hp hs hn
    have := ih (x + 1) (addP s (pix l wd x y)) (n + 1) (fun x' h1 h2 => hp x' (by omega) (by omega)) (addP_bd hs (hp x (by omega) (by omega)) (by omega)) (by omega)
    rw [show n + 1 + (m : Int) = n + ((m + 1 : Nat) : Int) by omega] at this
    exact this
theorem boxSum_bd {l : List Pix} {wd x m : Nat} (hm : m ≤ 3) : ∀ (k y : Nat) (s : Pix) (n : Int), (∀ x' y', x ≤ x' → x' < x + m → y ≤ y' → y' < y + k → OkP (pix l wd x' y')) → SumBd s n → n + 3 * k ≤ 900 → SumBd (boxSum l wd x m y k s) (n + ((k * m : Nat) : Int)) := by
  intro k
  induction k with
  | zero => intro y s n _ hs _; rw [Nat.zero_mul]; show SumBd s (n + 0); rw [Int.add_zero]; exact hs
  | succ k ih =>
    intro y s n hp hs hn
    have h1 := rowSum_bd m x s n (fun x' a b => hp x' y a b (by omega) (by omega)) hs (by omega)
    have := ih (y + 1) (rowSum l wd y x m s) (n + m) (fun x' y' a b c d => hp x' y' a b (by omega) (by omega)) h1 (by omega)
    rw [show n + (m : Int) + ((k * m : Nat) : Int) = n + (((k + 1) * m : Nat) : Int) by rw [Nat.add_mul, Nat.one_mul]; omega] at this
    exact this
theorem div_bd {s n : Int} (hn : 1 ≤ n) (hn2 : n ≤ 1000) (h0 : 0 ≤ s) (h1 : s ≤ 255 * n) : 0 ≤ wrap64 (Int.tdiv s n) ∧ wrap64 (Int.tdiv s n) ≤ 255 := by
  rw [Int.tdiv_eq_ediv_of_nonneg h0]
  have a : 0 ≤ s / n := Int.ediv_nonneg h0 (by omega)
  have b : s / n ≤ 255 := by
    have := Int.ediv_le_ediv (c := n) (by omega) h1
    rwa [Int.mul_ediv_cancel _ (by omega)] at this
  unfold wrap64
  omega
theorem near_lt {x n x' : Nat} (hx : x < n) (h : x' < nearLo x + nearMany x n) : x' < n := by
  have := nearMany_pos hx
  omega
theorem many_bd {x y wd hg : Nat} (hx : x < wd) (hy : y < hg) : 1 ≤ nearMany y hg * nearMany x wd ∧ nearMany y hg * nearMany x wd ≤ 9 := by
  have h1 := nearMany_pos hx
  have h2 := nearMany_pos hy
  exact ⟨Nat.mul_le_mul h2.1 h1.1, Nat.mul_le_mul h2.2.2 h1.2.2⟩
theorem blurP_ok {wd hg : Nat} {l : List Pix} (hl : l.length = wd * hg) (hp : ∀ p ∈ l, OkP p) {x y : Nat} (hx : x < wd) (hy : y < hg) : OkP (blurP l wd hg x y) := by
  have h1 := nearMany_pos hx
  have h2 := nearMany_pos hy
  have h3 := many_bd hx hy
  have hb := boxSum_bd (l := l) (wd := wd) (x := nearLo x) (m := nearMany x wd) h1.2.2 (nearMany y hg) (nearLo y) z36 0 (fun x' y' a b c d => hp _ (pix_mem hl (near_lt hx b) (near_lt hy d))) (by unfold SumBd; simp [z36]) (by omega)
  rw [Int.zero_add] at hb
  obtain ⟨⟨a0, b0⟩, ⟨a1, b1⟩, ⟨a2, b2⟩, a3, b3⟩ := hb
  unfold blurP meanP
  exact ⟨div_bd (by omega) (by omega) a0 b0, div_bd (by omega) (by omega) a1 b1, div_bd (by omega) (by omega) a2 b2, div_bd (by omega) (by omega) a3 b3⟩
theorem grayP_ok {p : Pix} (h : OkP p) : OkP (grayP p) := by
  unfold OkP at h
  have e : wrap64 (wrap64 (wrap64 (77 * p.f0) + wrap64 (150 * p.f1)) + wrap64 (29 * p.f2)) = 77 * p.f0 + 150 * p.f1 + 29 * p.f2 := by
    unfold wrap64; omega
  have b := div_bd (n := 256) (by omega) (by omega) (show 0 ≤ 77 * p.f0 + 150 * p.f1 + 29 * p.f2 by omega) (by omega)
  unfold grayP OkP
  dsimp only
  rw [e]
  exact ⟨b, b, b, h.2.2.2⟩
theorem overP_ok {f b a : Int} (hf : 0 ≤ f ∧ f ≤ 255) (hb : 0 ≤ b ∧ b ≤ 255) (ha : 0 ≤ a ∧ a ≤ 255) : 0 ≤ overP f b a ∧ overP f b a ≤ 255 := by
  have h1 : 0 ≤ f * a := Int.mul_nonneg hf.1 ha.1
  have h2 : f * a ≤ 255 * a := Int.mul_le_mul_of_nonneg_right hf.2 ha.1
  have h3 : 0 ≤ b * (255 - a) := Int.mul_nonneg hb.1 (by omega)
  have h4 : b * (255 - a) ≤ 255 * (255 - a) := Int.mul_le_mul_of_nonneg_right hb.2 (by omega)
  have w : wrap64 (255 - a) = 255 - a := by unfold wrap64; omega
  unfold overP
  rw [w]
  revert h1 h2 h3 h4
  generalize f * a = u
  generalize b * (255 - a) = v
  intro h1 h2 h3 h4
  have e : wrap64 (wrap64 u + wrap64 v) = u + v := by unfold wrap64; omega
  rw [e]
  exact div_bd (by omega) (by omega) (by omega) (by omega)
theorem flatP_ok {a b c : Int} {p : Pix} (ha : 0 ≤ a ∧ a ≤ 255) (hb : 0 ≤ b ∧ b ≤ 255) (hc : 0 ≤ c ∧ c ≤ 255) (h : OkP p) : OkP (flatP a b c p) := ⟨overP_ok h.1 ha h.2.2.2, overP_ok h.2.1 hb h.2.2.2, overP_ok h.2.2.1 hc h.2.2.2, show (0 : Int) ≤ 255 by decide, show (255 : Int) ≤ 255 by decide⟩
theorem valid_picM {o : Op} (ho : OkO o) {wd hg : Nat} {l : List Pix} (hv : Valid wd hg l) (h : hasM o wd hg = true) : Valid (wideM o wd hg) (highM o wd hg) (picM o wd hg l) := by
  obtain ⟨hw, hh, hl, hp⟩ := hv
  have hd := dims_ok ho hw hh
  refine ⟨hd.1, hd.2, picM_length _ _ _ _, fun p hp' => ?_⟩
  by_cases hm : isMove o
  · exact hp p (move_mem ho hm hw.1 hh.1 h hl hp')
  · obtain ⟨x, y, hx, hy, rfl⟩ := picM_mem hp'
    have : o.f0 = 5 ∨ o.f0 = 6 ∨ o.f0 = 8 := by unfold isMove at hm; omega
    unfold wideM at hx
    unfold highM at hy
    unfold colM
    rcases this with e | e | e
    · simp [e] at hx hy ⊢
      exact grayP_ok (hp _ (pix_mem hl hx hy))
    · simp [e] at hx hy ⊢
      exact blurP_ok hl hp hx hy
    · simp [e] at hx hy ⊢
      rcases ho with ⟨e', -⟩ | ⟨e', -⟩ | ⟨e', -⟩ | ⟨e', a, b, c, -⟩
      · omega
      · omega
      · omega
      · exact flatP_ok a b c (hp _ (pix_mem hl hx hy))
end Go.Proofs.Ytoifpgkfpdeglaa.X
namespace Go.Proofs.Ytoifpgkfpdeglaa.X
open Go.RowKit Go.Proofs.YtoifpgkfpdeglaaW.PrintWords Go.Proofs.YtoifpgkfpdeglaaW.PrintLast Go.Proofs.YtoifpgkfpdeglaaW.PrintMore
set_option linter.unusedVariables false
set_option linter.unusedSimpArgs false
theorem pixOf_has (A : Option Addr) (c : Nat) (wd hg : Nat) (l : List Pix) (w : World) (hC : Kd.C kPix w A l.length l) (hc : l.length ≤ c) (hl : l.length = wd * hg) (hw0 : 1 ≤ wd) (hw1 : wd ≤ 6) (hh1 : hg ≤ 6) (x y : Nat) (hx : x < wd) (hy : y < hg) :
    Calls Try.prog 54 #[.agg #[.int .i64 wd, .int .i64 hg, .slice A l.length c], .int .i64 x, .int .i64 y] w fun e w' => e = .returned (.agg #[.int .i64 (pix l wd x y).f0, .int .i64 (pix l wd x y).f1, .int .i64 (pix l wd x y).f2, .int .i64 (pix l wd x y).f3]) ∧ Below w.heap.size w w' := by
  have y1 : y ≤ 1000 := Nat.le_trans (Nat.le_of_lt (Nat.lt_of_lt_of_le hy hh1)) (by decide)
  have wd1 : wd ≤ 1000 := Nat.le_trans hw1 (by decide)
  have HM1 := Aside0.mk (mul_w (a := y) (b := wd) y1 wd1)
  have HM2 := Aside0.mk (mul_w1 (a := y) (b := wd) y1 wd1)
  obtain ⟨iP, hiP, hsP⟩ := infoPix
  have h1 : (y + 1) * wd ≤ hg * wd := Nat.mul_le_mul_right _ (by omega)
  have h2 : (y + 1) * wd = y * wd + wd := by rw [Nat.add_mul, Nat.one_mul]
  have h3 : hg * wd = l.length := by rw [hl, Nat.mul_comm]
  obtain ⟨a, ha⟩ : ∃ a, a = y * wd := ⟨_, rfl⟩
  obtain ⟨b, hb⟩ : ∃ b, b = (y + 1) * wd := ⟨_, rfl⟩
  rw [← ha] at HM1 h2
  rw [← hb] at HM2 h1 h2
  have hcut := cut_mid (P := Try.prog) 96 36 .i64 .i64 Try.underlying96 hiP 4 hsP A l.length c (a : Int) (b : Int) (by omega) (by omega) (by omega) hc
  have hr := Kd.C_mid (lo := a) (hi := b) (c := c) hC (by omega) (by omega) hc
  have hn : ((l.take b).drop a).length = wd := by rw [List.length_drop, List.length_take]; omega
  obtain ⟨ad, had, q0, q1, q2, q3⟩ := at_T36 hr (x : Int) (by omega) (by omega)
  have hp : rd_T36 ((l.take b).drop a) (x : Int) = pix l wd x y := by
    unfold rd_T36 pix
    rw [← ha, List.getD_eq_getElem?_getD, List.getD_eq_getElem?_getD, Int.toNat_natCast, List.getElem?_drop, List.getElem?_take, if_pos (by omega)]
  rw [hp] at q0 q1 q2 q3
  refine pixOf_walk A l.length c wd hg x y ad wd (c - a) _ _ HM1.out HM2.out (by omega) (by omega) (fun W => ?_) w (by omega) (by omega) (pix l wd x y) q0 q1 q2 q3
  rw [hcut W]
  simp only [Int.toNat_natCast] at had ⊢
  rw [← had, show b - a = wd by omega]
  rfl
theorem enter_any {f : FuncId} {fn : Func} {c : Code} (hf : Try.prog.funcs[f]? = some fn) (hname : (fn.name == "runtime.NumGoroutine") = false) (hb : fn.body = some c) (args : Array Value) (w : World) :
    (callFunc f args).run Try.prog w = .ok (.enter f args) w := by
  have h1 : fn.name ≠ "runtime.NumGoroutine" := by simpa using hname
  simp [callFunc, hf, h1, hb]
def Sizes (w : World) (fv : Value) (wd hg W' H' : Nat) : Prop :=
  ∃ fn caps, fv = .func (.func fn) #[] caps ∧ (∀ (args : Array Value) (W : World), (callFunc fn args).run Try.prog W = .ok (.enter fn args) W) ∧ ∀ (W : World), Below w.heap.size w W → ∀ (A : Option Addr) (n c : Nat),
    Calls Try.prog fn (#[.agg #[.int .i64 wd, .int .i64 hg, .slice A n c]] ++ caps) W fun e w' => e = .returned (.tuple #[.int .i64 W', .int .i64 H']) ∧ Below W.heap.size W w'
def Froms (w : World) (fv : Value) (wd hg W' H' : Nat) (X Y : Nat → Nat → Nat) : Prop :=
  ∃ fn caps, fv = .func (.func fn) #[] caps ∧ (∀ (args : Array Value) (W : World), (callFunc fn args).run Try.prog W = .ok (.enter fn args) W) ∧ ∀ (W : World), Below w.heap.size w W → ∀ (A : Option Addr) (n c : Nat) (x y : Nat), x < W' → y < H' →
    Calls Try.prog fn (#[.agg #[.int .i64 wd, .int .i64 hg, .slice A n c], .int .i64 x, .int .i64 y] ++ caps) W fun e w' => e = .returned (.tuple #[.int .i64 (X x y), .int .i64 (Y x y)]) ∧ Below W.heap.size W w'
def Pixs (w : World) (fv : Value) (F : Pix → Pix) : Prop :=
  ∃ fn caps, fv = .func (.func fn) #[] caps ∧ (∀ (args : Array Value) (W : World), (callFunc fn args).run Try.prog W = .ok (.enter fn args) W) ∧ ∀ (W : World), Below w.heap.size w W → ∀ p : Pix,
    Calls Try.prog fn (#[.agg #[.int .i64 p.f0, .int .i64 p.f1, .int .i64 p.f2, .int .i64 p.f3]] ++ caps) W fun e w' => e = .returned (.agg #[.int .i64 (F p).f0, .int .i64 (F p).f1, .int .i64 (F p).f2, .int .i64 (F p).f3]) ∧ Below W.heap.size W w'
structure Pict (w : World) (wd hg : Nat) (A : Option Addr) (c : Nat) (l : List Pix) : Prop where
  rd : Kd.C kPix w A l.length l
  cap : l.length ≤ c
  len : l.length = wd * hg
  w0 : 1 ≤ wd
  w1 : wd ≤ 6
  h0 : 1 ≤ hg
  h1 : hg ≤ 6
theorem Pict.below {w W : World} {wd hg : Nat} {A : Option Addr} {c : Nat} {l : List Pix} (h : Pict w wd hg A c l) (hb : Below w.heap.size w W) : Pict W wd hg A c l :=
  ⟨Kd.C_below h.rd hb, h.cap, h.len, h.w0, h.w1, h.h0, h.h1⟩
theorem Pict.at_ {w : World} {wd hg : Nat} {A : Option Addr} {c : Nat} {l : List Pix} (h : Pict w wd hg A c l) (x y : Nat) (hx : x < wd) (hy : y < hg) :
    Calls Try.prog 54 #[.agg #[.int .i64 wd, .int .i64 hg, .slice A l.length c], .int .i64 x, .int .i64 y] w fun e w' => e = .returned (.agg #[.int .i64 (pix l wd x y).f0, .int .i64 (pix l wd x y).f1, .int .i64 (pix l wd x y).f2, .int .i64 (pix l wd x y).f3]) ∧ Below w.heap.size w w' :=
  pixOf_has A c wd hg l w h.rd h.cap h.len h.w0 h.w1 h.h1 x y hx hy
theorem below_made {W w1 : World} {O : Obj} (h : Below (W.alloc O).heap.size (W.alloc O) w1) : Below W.heap.size W w1 := ((Below.refl _ _).alloc (Nat.le_refl _) O).trans (h.mono (by simp))
theorem blk_keep {w w1 : World} {b : Nat} {O : Obj} (h : w.heap[b]? = some O) (hb : Below w.heap.size w w1) : w1.heap[b]? = some O := (hb.block b (Array.getElem?_eq_some_iff.1 h).1).trans h
theorem below_set {n : Nat} {w W : World} (h : Below n w W) {p : Addr} (hp : n ≤ p.block) (v : Value) : Below n w (W.setCell p v) := h.setCell hp v
theorem pix_block {W : World} {g : Nat} {z : Int} (h : W.heap[g]? = some (.cells #[.int .i64 z, .int .i64 z, .int .i64 z, .int .i64 z] 36 (0, 0))) (p : Pix) :
    ((((W.setCell ⟨g, 0, none⟩ (.int .i64 p.f0)).setCell ⟨g, 1, none⟩ (.int .i64 p.f1)).setCell ⟨g, 2, none⟩ (.int .i64 p.f2)).setCell ⟨g, 3, none⟩ (.int .i64 p.f3)).heap[g]? = some (.cells #[.int .i64 p.f0, .int .i64 p.f1, .int .i64 p.f2, .int .i64 p.f3] 36 (0, 0)) :=
  blk_put (cs := #[.int .i64 p.f0, .int .i64 p.f1, .int .i64 p.f2, .int .i64 z]) (blk_put (cs := #[.int .i64 p.f0, .int .i64 p.f1, .int .i64 z, .int .i64 z]) (blk_put (cs := #[.int .i64 p.f0, .int .i64 z, .int .i64 z, .int .i64 z]) (blk_put (cs := #[.int .i64 z, .int .i64 z, .int .i64 z, .int .i64 z]) h 0 _ rfl) 1 _ rfl) 2 _ rfl) 3 _ rfl
set_option maxHeartbeats 1000000 in
set_option maxRecDepth 100000 in
theorem tells_places {w : World} {wd hg W' H' : Nat} {X Y : Nat → Nat → Nat} {l : List Pix} {A : Option Addr} {c : Nat} {fv : Value} {p : Addr} {b : Nat} (hP : Pict w wd hg A c l) (hp : w.cell? p = some fv)
    (h0 : w.cell? ⟨b, 0, none⟩ = some (.int .i64 wd)) (h1 : w.cell? ⟨b, 1, none⟩ = some (.int .i64 hg)) (h2 : w.cell? ⟨b, 2, none⟩ = some (.slice A l.length c)) (hF : Froms w fv wd hg W' H' X Y) (hs : ∀ x y, x < W' → y < H' → X x y < wd ∧ Y x y < hg) :
    Tells w (.func (.func 86) #[] #[.pointer (some p), .pointer (some ⟨b, 0, none⟩)]) W' H' (fun x y => pix l wd (X x y) (Y x y)) := by
  refine ⟨_, _, rfl, enter_any Try.func86 rfl rfl, fun W hB x y hx hy => ?_⟩
  obtain ⟨fn, caps, rfl, henter, hcall⟩ := hF
  have up : ∀ {a : Addr} {v : Value}, w.cell? a = some v → ∀ O, (W.alloc O).cell? a = some v := fun h O => pw_cell_below (below_alloc (Below.refl _ _) O) (pw_cell_below hB h)
  have g0 := up h0
  have g1 := up h1
  have g2 := up h2
  have gp := up hp
  clear up
  have HP := Aside0.mk (hP.below hB)
  have HC := Aside0.mk hcall
  have HB := Aside0.mk hB
  have HS := Aside0.mk (hs x y hx hy)
  clear hcall hB hP h0 h1 h2 hp hs
  show Calls Try.prog 86 #[.int .i64 x, .int .i64 y, .pointer (some p), .pointer (some ⟨b, 0, none⟩)] W _
  go_enter Try.func86, Try.ntmps86
  go_wp2_with (first | (go_at_call 54; refine ((HP.out.below (below_made HB1.out)).at_ (X x y) (Y x y) HS.out.1 HS.out.2).mono ?_; rintro e w2 ⟨rfl, hb2⟩; have BK2 := Aside0.mk (blk_keep BK.out hb2); have r0 := (blk_cell BK2.out 0).trans rfl; have r1 := (blk_cell BK2.out 1).trans rfl; have r2 := (blk_cell BK2.out 2).trans rfl; have r3 := (blk_cell BK2.out 3).trans rfl; have s0 := blk_frozen BK2.out 0; have s1 := blk_frozen BK2.out 1; have s2 := blk_frozen BK2.out 2; have s3 := blk_frozen BK2.out 3; have HB2 := Aside0.mk hb2; clear hb2 BK) | (refine (HC.out _ (HB.out.alloc HB.out.size _) A l.length c x y hx hy).mono ?_; rintro e w1 ⟨rfl, hb1⟩; have k0 := pw_cell_below hb1 (g0 _); have k1 := pw_cell_below hb1 (g1 _); have k2 := pw_cell_below hb1 (g2 _); have BK := Aside0.mk (blk_keep (blk_new W _) hb1); have HB1 := Aside0.mk hb1; clear hb1 g0 g1 g2 gp))
  have HS2 := Aside0.mk (pix_block (BK2.out) (pix l wd (X x y) (Y x y)))
  refine bodyPost_ret (results_cell_row rfl _ _ W.heap.size 36 _ (0, 0) _ rfl HS2.out Try.underlying36 rfl (by kernel_rfl)) rfl ⟨rfl, ?_⟩
  exact below_set (below_set (below_set (below_set ((below_made HB1.out).trans (HB2.out.mono (below_made HB1.out).size)) (Nat.le_refl _) _) (Nat.le_refl _) _) (Nat.le_refl _) _) (Nat.le_refl _) _
theorem ras_block {W : World} {g : Nat} (h : ResBlk W g) (a b : Int) (v : Value) :
    (((W.setCell ⟨g, 0, none⟩ (.int .i64 a)).setCell ⟨g, 1, none⟩ (.int .i64 b)).setCell ⟨g, 2, none⟩ v).heap[g]? = some (.cells #[.int .i64 a, .int .i64 b, v] 25 (0, 0)) :=
  blk_put (cs := #[.int .i64 a, .int .i64 b, .slice none 0 0]) (blk_put (cs := #[.int .i64 a, .int .i64 0, .slice none 0 0]) (blk_put (cs := #[.int .i64 0, .int .i64 0, .slice none 0 0]) h 0 _ rfl) 1 _ rfl) 2 _ rfl
theorem Sizes.below {w W : World} {fv : Value} {wd hg W' H' : Nat} (h : Sizes w fv wd hg W' H') (hb : Below w.heap.size w W) : Sizes W fv wd hg W' H' := by
  obtain ⟨fn, caps, e, he, hc⟩ := h
  exact ⟨fn, caps, e, he, fun W2 hb2 => hc W2 (hb.trans (hb2.mono hb.size))⟩
theorem Froms.below {w W : World} {fv : Value} {wd hg W' H' : Nat} {X Y : Nat → Nat → Nat} (h : Froms w fv wd hg W' H' X Y) (hb : Below w.heap.size w W) : Froms W fv wd hg W' H' X Y := by
  obtain ⟨fn, caps, e, he, hc⟩ := h
  exact ⟨fn, caps, e, he, fun W2 hb2 => hc W2 (hb.trans (hb2.mono hb.size))⟩
theorem Pixs.below {w W : World} {fv : Value} {F : Pix → Pix} (h : Pixs w fv F) (hb : Below w.heap.size w W) : Pixs W fv F := by
  obtain ⟨fn, caps, e, he, hc⟩ := h
  exact ⟨fn, caps, e, he, fun W2 hb2 => hc W2 (hb.trans (hb2.mono hb.size))⟩
theorem below_made2 {W w1 : World} {O1 O2 : Obj} (h : Below ((W.alloc O1).alloc O2).heap.size ((W.alloc O1).alloc O2) w1) : Below W.heap.size W w1 :=
  (((Below.refl _ _).alloc (Nat.le_refl _) O1).alloc (by simp) O2).trans (h.mono (by simp; omega))
theorem below_two {w W : World} (h : Below w.heap.size w W) (O1 O2 : Obj) : Below w.heap.size w ((W.alloc O1).alloc O2) := (h.alloc h.size O1).alloc (by have := h.size; simp; omega) O2
theorem made2 {W w1 : World} {O1 O2 : Obj} (h : Below ((W.alloc O1).alloc O2).heap.size ((W.alloc O1).alloc O2) w1) : w1.heap[W.heap.size]? = some O1 ∧ w1.heap[W.heap.size + 1]? = some O2 := by
  have a : ((W.alloc O1).alloc O2).heap[W.heap.size]? = some O1 := blk_keep (by show (W.heap.push O1)[W.heap.size]? = _; simp) (below_alloc (Below.refl _ _) _)
  have b : ((W.alloc O1).alloc O2).heap[W.heap.size + 1]? = some O2 := by
    show ((W.heap.push O1).push O2)[W.heap.size + 1]? = _
    have := Array.getElem?_push_size (xs := W.heap.push O1) (x := O2)
    rwa [Array.size_push] at this
  exact ⟨blk_keep a h, blk_keep b h⟩
theorem R_ret {w2 : World} {base0 base1 g : Nat} {v : Value} {xs : List Pix} (hR : Kd.R kPix 36 w2 base1 (fun _ => True) v xs) (hlow : base0 ≤ base1) (hg : g < base1) (a b u : Value) :
    Kd.R kPix 36 (((w2.setCell ⟨g, 0, none⟩ a).setCell ⟨g, 1, none⟩ b).setCell ⟨g, 2, none⟩ u) base0 (fun _ => True) v xs :=
  Kd.R_mono (Kd.R_lower (Kd.R_far (p := ⟨g, 2, none⟩) (Kd.R_far (p := ⟨g, 1, none⟩) (Kd.R_far (p := ⟨g, 0, none⟩) (Kd.R_bound hR) (fun k hk => by have := hk.2.1; show k ≠ g; omega) a) (fun k hk => by have := hk.2.1; show k ≠ g; omega) b) (fun k hk => by have := hk.2.1; show k ≠ g; omega) u) hlow) (fun _ _ => trivial)
def Moves (w : World) (fv : Value) (dom : Nat → Nat → Prop) (G : Nat → Nat → List Pix → Nat × Nat × List Pix × Bool) : Prop :=
  ∃ fn caps, fv = .func (.func fn) #[] caps ∧ (∀ (args : Array Value) (W : World), (callFunc fn args).run Try.prog W = .ok (.enter fn args) W) ∧ ∀ (W : World), Below w.heap.size w W → ∀ (wd hg : Nat) (A : Option Addr) (c : Nat) (l : List Pix), Pict W wd hg A c l → dom wd hg →
    Calls Try.prog fn (#[.agg #[.int .i64 wd, .int .i64 hg, .slice A l.length c]] ++ caps) W fun e w' => ∃ v, e = .returned (.tuple #[.agg #[.int .i64 (G wd hg l).1, .int .i64 (G wd hg l).2.1, v], .bool (G wd hg l).2.2.2]) ∧ Kd.R kPix 36 w' W.heap.size (fun _ => True) v (G wd hg l).2.2.1 ∧ Below W.heap.size W w'
def placesG (SW SH : Nat → Nat → Nat) (X Y : Nat → Nat → Nat → Nat → Nat) (wd hg : Nat) (l : List Pix) : Nat × Nat × List Pix × Bool := (SW wd hg, SH wd hg, mk (SW wd hg) (SH wd hg) (fun x y => pix l wd (X wd hg x y) (Y wd hg x y)), true)
set_option maxHeartbeats 2000000 in
set_option maxRecDepth 100000 in
theorem moves_places {w : World} {fv1 fv2 : Value} {p1 p2 : Addr} (hp1 : w.cell? p1 = some fv1) (hp2 : w.cell? p2 = some fv2) (dom : Nat → Nat → Prop) (SW SH : Nat → Nat → Nat) (X Y : Nat → Nat → Nat → Nat → Nat)
    (hd : ∀ wd hg, dom wd hg → 1 ≤ wd → wd ≤ 6 → 1 ≤ hg → hg ≤ 6 → Sizes w fv1 wd hg (SW wd hg) (SH wd hg) ∧ Froms w fv2 wd hg (SW wd hg) (SH wd hg) (X wd hg) (Y wd hg) ∧ (1 ≤ SW wd hg ∧ SW wd hg ≤ 6 ∧ 1 ≤ SH wd hg ∧ SH wd hg ≤ 6) ∧ ∀ x y, x < SW wd hg → y < SH wd hg → X wd hg x y < wd ∧ Y wd hg x y < hg) :
    Moves w (.func (.func 85) #[] #[.pointer (some p1), .pointer (some p2)]) dom (placesG SW SH X Y) := by
  refine ⟨_, _, rfl, enter_any Try.func85 rfl rfl, fun W hB wd hg A c l hP hdom => ?_⟩
  obtain ⟨hS, hF, hz, hs⟩ := hd wd hg hdom hP.w0 hP.w1 hP.h0 hP.h1
  have HF := Aside0.mk (hF.below hB)
  have HS := Aside0.mk hs
  have HZ := Aside0.mk hz
  have HP := Aside0.mk hP
  obtain ⟨fn, caps, rfl, henter, hcall⟩ := hS
  have up : ∀ {a : Addr} {v : Value}, w.cell? a = some v → ∀ O1 O2, ((W.alloc O1).alloc O2).cell? a = some v := fun h O1 O2 => pw_cell_below (below_alloc (Below.refl _ _) O2) (pw_cell_below (below_alloc (Below.refl _ _) O1) (pw_cell_below hB h))
  have g1 := up hp1
  have g2 := up hp2
  have HC := Aside0.mk hcall
  have HB := Aside0.mk hB
  clear hcall hB hP hs hz hF hd up hp1 hp2
  show Calls Try.prog 85 #[.agg #[.int .i64 wd, .int .i64 hg, .slice A l.length c], .pointer (some p1), .pointer (some p2)] W _
  go_enter Try.func85, Try.ntmps85
  go_wp2_with (first | (go_at_call 52; refine (newRaster_walk (SW wd hg) (SH wd hg) HZ.out.1 HZ.out.2.1 HZ.out.2.2.1 HZ.out.2.2.2 (fun x y => pix l wd (X wd hg x y) (Y wd hg x y)) _ w1 (tells_places (HP.out.below HB1.out) k2 ((blk_cell BK.out 0).trans rfl) ((blk_cell BK.out 1).trans rfl) ((blk_cell BK.out 2).trans rfl) (HF.out.below HB1.out) HS.out)).mono ?_; rintro e w2 ⟨v, rfl, hR, hb2⟩; obtain ⟨A', c', rfl⟩ := Kd.R_slice hR; have BR2 : Aside0 (ResBlk w2 (W.heap.size + 1)) := Aside0.mk (BR.out.keep hb2); have r0 := (blk_cell BR2.out 0).trans rfl; have r1 := (blk_cell BR2.out 1).trans rfl; have r2 := (blk_cell BR2.out 2).trans rfl; have s0 := blk_frozen BR2.out 0; have s1 := blk_frozen BR2.out 1; have s2 := blk_frozen BR2.out 2; have HLT : Aside0 (W.heap.size + 1 < w1.heap.size) := Aside0.mk (Array.getElem?_eq_some_iff.1 BR.out).1; have HR := Aside0.mk hR; have HB2 := Aside0.mk hb2; clear hb2 hR BR BK k2) | (refine (HC.out _ (below_two HB.out _ _) A l.length c).mono ?_; rintro e w1 ⟨rfl, hb1⟩; have k2 := pw_cell_below hb1 (g2 _ _); have BK := Aside0.mk (made2 hb1).1; have BR : Aside0 (ResBlk w1 (W.heap.size + 1)) := Aside0.mk (made2 hb1).2; have HB1 := Aside0.mk (below_made2 hb1); clear hb1 g1 g2 HC))
  refine bodyPost_ret (results_ct rfl _ _ (W.heap.size + 1) 25 _ (0, 0) _ rfl (ras_block BR2.out _ _ _) Try.underlying25 rfl (by kernel_rfl)) rfl ⟨_, rfl, R_ret HR.out HB1.out.size HLT.out _ _ _, ?_⟩
  exact below_set (below_set (below_set (HB1.out.trans (HB2.out.mono HB1.out.size)) (by simp) _) (by simp) _) (by simp) _
end Go.Proofs.Ytoifpgkfpdeglaa.X
namespace Go.Proofs.Ytoifpgkfpdeglaa.X
open Go.RowKit Go.Proofs.YtoifpgkfpdeglaaW.PrintWords Go.Proofs.YtoifpgkfpdeglaaW.PrintLast Go.Proofs.YtoifpgkfpdeglaaW.PrintMore
set_option linter.unusedVariables false
set_option linter.unusedSimpArgs false
theorem below_madeD {W w1 : World} {O : Obj} (h : Below (W.alloc O).drew.heap.size (W.alloc O).drew w1) : Below W.heap.size W w1 := ((Below.refl _ _).alloc (Nat.le_refl _) O).drew.trans (h.mono (by show W.heap.size ≤ (W.alloc O).heap.size; simp))
theorem belowD (W : World) (O : Obj) : Below W.heap.size W (W.alloc O).drew := ((Below.refl _ _).alloc (Nat.le_refl _) O).drew
theorem far4 {n : Nat} {w2 : World} {a : Addr} {v : Value} (h : w2.cell? a = some v) (hlt : a.block < n) (u0 u1 u2 u3 : Value) :
    ((((w2.setCell ⟨n, 0, none⟩ u0).setCell ⟨n, 1, none⟩ u1).setCell ⟨n, 2, none⟩ u2).setCell ⟨n, 3, none⟩ u3).cell? a = some v :=
  (((((Below.refl n w2).setCell (Nat.le_refl _) u0).setCell (Nat.le_refl _) u1).setCell (Nat.le_refl _) u2).setCell (Nat.le_refl _) u3 |>.cell hlt).trans h
theorem keep_madeD {W w1 : World} {O : Obj} (h : Below (W.alloc O).drew.heap.size (W.alloc O).drew w1) : w1.heap[W.heap.size]? = some O := blk_keep (w := (W.alloc O).drew) (blk_new W _) h
theorem cell_madeD {W w1 : World} {O : Obj} {a : Addr} {v : Value} (h : Below (W.alloc O).drew.heap.size (W.alloc O).drew w1) (hc : (W.alloc O).cell? a = some v) : w1.cell? a = some v := pw_cell_below (w := (W.alloc O).drew) h hc
set_option maxHeartbeats 1000000 in
set_option maxRecDepth 100000 in
theorem tells_colours {w : World} {wd hg : Nat} {F : Pix → Pix} {l : List Pix} {A : Option Addr} {c : Nat} {fv : Value} {p : Addr} {b : Nat} (hP : Pict w wd hg A c l) (hp : w.cell? p = some fv)
    (h0 : w.cell? ⟨b, 0, none⟩ = some (.int .i64 wd)) (h1 : w.cell? ⟨b, 1, none⟩ = some (.int .i64 hg)) (h2 : w.cell? ⟨b, 2, none⟩ = some (.slice A l.length c)) (hF : Pixs w fv F) :
    Tells w (.func (.func 88) #[] #[.pointer (some p), .pointer (some ⟨b, 0, none⟩)]) wd hg (fun x y => F (pix l wd x y)) := by
  refine ⟨_, _, rfl, enter_any Try.func88 rfl rfl, fun W hB x y hx hy => ?_⟩
  obtain ⟨fn, caps, rfl, henter, hcall⟩ := hF
  have up : ∀ {a : Addr} {v : Value}, w.cell? a = some v → ∀ O, (W.alloc O).cell? a = some v := fun h O => pw_cell_below (below_alloc (Below.refl _ _) O) (pw_cell_below hB h)
  have HLP := Aside0.mk (World.block_lt_of_cell? W _ (pw_cell_below hB hp))
  have HLB : Aside0 (b < W.heap.size) := Aside0.mk (World.block_lt_of_cell? W _ (pw_cell_below hB h0))
  have g0 := up h0
  have g1 := up h1
  have g2 := up h2
  have gp := up hp
  have HP := Aside0.mk (hP.below hB)
  have HC := Aside0.mk hcall
  have HB := Aside0.mk hB
  clear hcall hB hP h0 h1 h2 hp up
  show Calls Try.prog 88 #[.int .i64 x, .int .i64 y, .pointer (some p), .pointer (some ⟨b, 0, none⟩)] W _
  go_enter Try.func88, Try.ntmps88
  go_wp2
  have dr : ∀ {a : Addr} {v : Value}, (∀ O, (W.alloc O).cell? a = some v) → ∀ O, (W.alloc O).drew.cell? a = some v := fun h O => h O
  have gpd := dr gp
  have g0d := dr g0
  have g1d := dr g1
  have g2d := dr g2
  clear dr
  go_region_held3 (fun w' : World => w'.cell? p = some (.func (.func fn) #[] caps) ∧ w'.cell? ⟨b, 0, none⟩ = some (.int .i64 wd) ∧ w'.cell? ⟨b, 1, none⟩ = some (.int .i64 hg) ∧ w'.cell? ⟨b, 2, none⟩ = some (.slice A l.length c)) (first | with_reducible exact ⟨gpd _, g0d _, g1d _, g2d _⟩ | with_reducible exact ⟨gp1, g01, g11, g21⟩ | with_reducible exact ⟨gp2, g02, g12, g22⟩ | exact ⟨far4 gp2 HLP.out _ _ _ _, far4 g02 HLB.out _ _ _ _, far4 g12 HLB.out _ _ _ _, far4 g22 HLB.out _ _ _ _⟩) (first | (go_at_call 54; refine ((HP.out.below (belowD _ _)).at_ x y hx hy).mono ?_; rintro e w1 ⟨rfl, hb1⟩; have gp1 := cell_madeD hb1 (gp _); have g01 := cell_madeD hb1 (g0 _); have g11 := cell_madeD hb1 (g1 _); have g21 := cell_madeD hb1 (g2 _); have BK := Aside0.mk (keep_madeD hb1); have HB1 := Aside0.mk (below_madeD hb1); clear hb1) | (refine (HC.out _ (HB.out.trans (HB1.out.mono HB.out.size)) (pix l wd x y)).mono ?_; rintro e w2 ⟨rfl, hb2⟩; have gp2 := pw_cell_below hb2 gp1; have g02 := pw_cell_below hb2 g01; have g12 := pw_cell_below hb2 g11; have g22 := pw_cell_below hb2 g21; have BK2 := Aside0.mk (blk_keep BK.out hb2); have r0 := (blk_cell BK2.out 0).trans rfl; have r1 := (blk_cell BK2.out 1).trans rfl; have r2 := (blk_cell BK2.out 2).trans rfl; have r3 := (blk_cell BK2.out 3).trans rfl; have s0 := blk_frozen BK2.out 0; have s1 := blk_frozen BK2.out 1; have s2 := blk_frozen BK2.out 2; have s3 := blk_frozen BK2.out 3; have HB2 := Aside0.mk hb2; clear hb2 BK))
  go_wp2
  refine bodyPost_ret (results_cell_row rfl _ _ W.heap.size 36 _ (0, 0) _ rfl (pix_block BK2.out (F (pix l wd x y))) Try.underlying36 rfl (by kernel_rfl)) rfl ⟨rfl, ?_⟩
  exact below_set (below_set (below_set (below_set (HB1.out.trans (HB2.out.mono HB1.out.size)) (Nat.le_refl _) _) (Nat.le_refl _) _) (Nat.le_refl _) _) (Nat.le_refl _) _
def coloursG (F : Nat → Nat → List Pix → Nat → Nat → Pix) (wd hg : Nat) (l : List Pix) : Nat × Nat × List Pix × Bool := (wd, hg, mk wd hg (F wd hg l), true)
theorem boxed {W : World} (a b : Int) (v : Value) (O2 : Obj) : ((W.alloc (.cells #[.int .i64 a, .int .i64 b, v] 25 (0, 0))).alloc O2).cell? ⟨W.heap.size, 0, none⟩ = some (.int .i64 a) ∧ ((W.alloc (.cells #[.int .i64 a, .int .i64 b, v] 25 (0, 0))).alloc O2).cell? ⟨W.heap.size, 1, none⟩ = some (.int .i64 b) ∧ ((W.alloc (.cells #[.int .i64 a, .int .i64 b, v] 25 (0, 0))).alloc O2).cell? ⟨W.heap.size, 2, none⟩ = some v := by
  have h := (made2 (W := W) (O1 := .cells #[.int .i64 a, .int .i64 b, v] 25 (0, 0)) (O2 := O2) (Below.refl _ _)).1
  exact ⟨(blk_cell h 0).trans rfl, (blk_cell h 1).trans rfl, (blk_cell h 2).trans rfl⟩
set_option maxHeartbeats 2000000 in
set_option maxRecDepth 100000 in
theorem moves_colours {w : World} {fv : Value} {p : Addr} (hp : w.cell? p = some fv) (F : Pix → Pix) (hF : Pixs w fv F) (dom : Nat → Nat → Prop) :
    Moves w (.func (.func 87) #[] #[.pointer (some p)]) dom (coloursG fun wd _ l x y => F (pix l wd x y)) := by
  refine ⟨_, _, rfl, enter_any Try.func87 rfl rfl, fun W hB wd hg A c l hP hdom => ?_⟩
  have HF := Aside0.mk (hF.below hB)
  have HP := Aside0.mk hP
  have GP := Aside0.mk (pw_cell_below hB hp)
  clear hB hP hF hp
  show Calls Try.prog 87 #[.agg #[.int .i64 wd, .int .i64 hg, .slice A l.length c], .pointer (some p)] W _
  go_enter Try.func87, Try.ntmps87
  go_wp2_with (go_at_call 52; refine (newRaster_walk wd hg HP.out.w0 HP.out.w1 HP.out.h0 HP.out.h1 (fun x y => F (pix l wd x y)) _ _ (tells_colours (HP.out.below (below_two (Below.refl _ _) _ _)) (pw_cell_below (below_two (Below.refl _ _) _ _) GP.out) (boxed _ _ _ _).1 (boxed _ _ _ _).2.1 (boxed _ _ _ _).2.2 (HF.out.below (below_two (Below.refl _ _) _ _)))).mono ?_; rintro e w2 ⟨v, rfl, hR, hb2⟩; obtain ⟨A', c', rfl⟩ := Kd.R_slice hR; have BR2 : Aside0 (ResBlk w2 (W.heap.size + 1)) := Aside0.mk (made2 hb2).2; have r0 := (blk_cell BR2.out 0).trans rfl; have r1 := (blk_cell BR2.out 1).trans rfl; have r2 := (blk_cell BR2.out 2).trans rfl; have s0 := blk_frozen BR2.out 0; have s1 := blk_frozen BR2.out 1; have s2 := blk_frozen BR2.out 2; have HR := Aside0.mk hR; have HB2 := Aside0.mk (below_made2 hb2); clear hb2 hR)
  refine bodyPost_ret (results_ct rfl _ _ (W.heap.size + 1) 25 _ (0, 0) _ rfl (ras_block BR2.out _ _ _) Try.underlying25 rfl (by kernel_rfl)) rfl ⟨_, rfl, R_ret HR.out (by simp; omega) (by simp) _ _ _, ?_⟩
  exact below_set (below_set (below_set HB2.out (by simp) _) (by simp) _) (by simp) _
end Go.Proofs.Ytoifpgkfpdeglaa.X
namespace Go.Proofs.Ytoifpgkfpdeglaa.X
open Go.RowKit Go.Proofs.YtoifpgkfpdeglaaW.PrintWords Go.Proofs.YtoifpgkfpdeglaaW.PrintLast Go.Proofs.YtoifpgkfpdeglaaW.PrintMore
attribute [local go_sem] max_two min_two
set_option linter.unusedVariables false
set_option linter.unusedSimpArgs false
section
def maxI (x y : Int) : Int := if x < y then y else x
def minI (x y : Int) : Int := if y < x then y else x
theorem max2_I (k k' : IntKind) (x y : Int) : Builtin.max2 (.int k x) (.int k' y) = pure (.int k (maxI x y)) := max2_int k k' x y
theorem min2_I (k k' : IntKind) (x y : Int) : Builtin.min2 (.int k x) (.int k' y) = pure (.int k (minI x y)) := min2_int k k' x y
attribute [local go_sem] max2_I min2_I
theorem lo_eq (y : Nat) : maxI ((y : Int) - 1) 0 = ((nearLo y : Nat) : Int) := by
  unfold nearLo maxI
  split <;> omega
theorem hi_eq {y n : Nat} (hy : y < n) : minI ((y : Int) + 1) ((n : Int) - 1) = ((min (y + 2) n : Nat) : Int) - 1 := by
  unfold minI
  split <;> omega
theorem far4n {n : Nat} {w2 : World} {a : Addr} {v : Value} (h : w2.cell? a = some v) (hne : a.block ≠ n) (u0 u1 u2 u3 : Value) :
    ((((w2.setCell ⟨n, 0, none⟩ u0).setCell ⟨n, 1, none⟩ u1).setCell ⟨n, 2, none⟩ u2).setCell ⟨n, 3, none⟩ u3).cell? a = some v :=
  (cell_far (p := ⟨n, 3, none⟩) hne u3).trans ((cell_far (p := ⟨n, 2, none⟩) hne u2).trans ((cell_far (p := ⟨n, 1, none⟩) hne u1).trans ((cell_far (p := ⟨n, 0, none⟩) hne u0).trans h)))
theorem sum_block {W : World} {g : Nat} {s : Pix} (h : W.heap[g]? = some (.cells #[.int .i64 s.f0, .int .i64 s.f1, .int .i64 s.f2, .int .i64 s.f3] 36 (0, 0))) (p : Pix) :
    ((((W.setCell ⟨g, 0, none⟩ (.int .i64 (wrap64 (s.f0 + p.f0)))).setCell ⟨g, 1, none⟩ (.int .i64 (wrap64 (s.f1 + p.f1)))).setCell ⟨g, 2, none⟩ (.int .i64 (wrap64 (s.f2 + p.f2)))).setCell ⟨g, 3, none⟩ (.int .i64 (wrap64 (s.f3 + p.f3)))).heap[g]? = some (.cells #[.int .i64 (addP s p).f0, .int .i64 (addP s p).f1, .int .i64 (addP s p).f2, .int .i64 (addP s p).f3] 36 (0, 0)) :=
  blk_put (cs := #[.int .i64 (addP s p).f0, .int .i64 (addP s p).f1, .int .i64 (addP s p).f2, .int .i64 s.f3]) (blk_put (cs := #[.int .i64 (addP s p).f0, .int .i64 (addP s p).f1, .int .i64 s.f2, .int .i64 s.f3]) (blk_put (cs := #[.int .i64 (addP s p).f0, .int .i64 s.f1, .int .i64 s.f2, .int .i64 s.f3]) (blk_put (cs := #[.int .i64 s.f0, .int .i64 s.f1, .int .i64 s.f2, .int .i64 s.f3]) h 0 _ rfl) 1 _ rfl) 2 _ rfl) 3 _ rfl
def tellsBlur.T15 : Bool × List (List Nat × List Nat) := (true, [([], []), ([0], [0]), ([], []), ([1, 2], [1, 2]), ([], []), ([4], [4]), ([], []), ([5, 6], [5, 6]), ([], []), ([8], [8]), ([], []), ([9, 10], [9, 10]), ([], []), ([12], [12]), ([], []), ([13, 14], [13, 14]), ([3, 7, 11, 15], [3, 7, 11, 15]), ([16, 0, 1, 2, 3, 4, 5, 6, 7, 8, 9, 10, 11, 12, 13, 14, 15, 16], [16])])
def tellsBlur.B15 : List Nat := [0, 1, 0, 7, 0, 16, 0, 112, 0, 256, 0, 1792, 0, 4096, 0, 28672, 65535, 131071]
theorem tellsBlur.tab15 : rtab .any (opsOf Try.f89 15) = tellsBlur.T15 := by kernel_rfl
theorem tellsBlur.bits15 : waitsOk tellsBlur.T15.2 tellsBlur.B15 = true := by kernel_rfl
set_option maxHeartbeats 2000000 in
set_option maxRecDepth 100000 in
theorem tells_blur {w : World} {wd hg : Nat} {l : List Pix} {A : Option Addr} {c : Nat} {b : Nat} (hP : Pict w wd hg A c l)
    (h0 : w.cell? ⟨b, 0, none⟩ = some (.int .i64 wd)) (h1 : w.cell? ⟨b, 1, none⟩ = some (.int .i64 hg)) (h2 : w.cell? ⟨b, 2, none⟩ = some (.slice A l.length c)) :
    Tells w (.func (.func 89) #[] #[.pointer (some ⟨b, 0, none⟩)]) wd hg (fun x y => blurP l wd hg x y) := by
  refine ⟨_, _, rfl, enter_any Try.func89 rfl rfl, fun W hB x y hx hy => ?_⟩
  have HG0 := Aside0.mk (pw_cell_below hB h0)
  have HG1 := Aside0.mk (pw_cell_below hB h1)
  have HG2 := Aside0.mk (pw_cell_below hB h2)
  have HP := Aside0.mk (hP.below hB)
  have x1 : x ≤ 5 := by have := hP.w1; omega
  have y1 : y ≤ 5 := by have := hP.h1; omega
  have HLY := Aside0.mk (lo_eq y)
  have HLX := Aside0.mk (lo_eq x)
  have HHY := Aside0.mk (hi_eq hy)
  have HHX := Aside0.mk (hi_eq hx)
  have HNY := Aside0.mk (nearMany_pos hy)
  have HNX := Aside0.mk (nearMany_pos hx)
  obtain ⟨ly, hly⟩ : ∃ z, z = nearLo y := ⟨_, rfl⟩
  obtain ⟨lx, hlx⟩ : ∃ z, z = nearLo x := ⟨_, rfl⟩
  obtain ⟨ny, hny⟩ : ∃ z, z = nearMany y hg := ⟨_, rfl⟩
  obtain ⟨nx, hnx⟩ : ∃ z, z = nearMany x wd := ⟨_, rfl⟩
  obtain ⟨my, hmy⟩ : ∃ z, z = min (y + 2) hg := ⟨_, rfl⟩
  obtain ⟨mx, hmx⟩ : ∃ z, z = min (x + 2) wd := ⟨_, rfl⟩
  rw [← hly] at HLY HNY
  rw [← hlx] at HLX HNX
  rw [← hny] at HNY
  rw [← hnx] at HNX
  rw [← hmy] at HNY HHY
  rw [← hmx] at HNX HHX
  have HEQ : Aside0 (blurP l wd hg x y = meanP (boxSum l wd lx nx ly ny z36) (ny * nx)) := Aside0.mk (by rw [hly, hlx, hny, hnx]; rfl)
  have hmy2 : my ≤ hg := by omega
  have hmx2 : mx ≤ wd := by omega
  have hnx3 : nx ≤ 3 := HNX.out.2.2
  have hny3 : ny ≤ 3 := HNY.out.2.2
  have hmy3 : ly + ny = my := HNY.out.2.1
  have hmx3 : lx + nx = mx := HNX.out.2.1
  have HN1 := Aside0.mk HNX.out.1
  have HN2 := Aside0.mk HNY.out.1
  have hw6 := hP.w1
  have hh6 := hP.h1
  dsimp only
  rw [HEQ.out]
  clear HEQ hly hlx hny hnx hmy hmx hB h0 h1 h2 hP HNX HNY
  show Calls Try.prog 89 #[.int .i64 x, .int .i64 y, .pointer (some ⟨b, 0, none⟩)] W _
  have hLY := HLY.out
  have hLX := HLX.out
  have hHY := HHY.out
  have hHX := HHX.out
  go_enter Try.func89, Try.ntmps89
  go_wp2
  go_loopw [7, 8] (fun v7 v8 wr => ∃ (Y C : Nat) (s : Pix), ly ≤ Y ∧ Y ≤ my ∧ C ≤ 9 ∧ v8 = .int .i64 Y ∧ v7 = .int .i64 C ∧ Aside0 (C = (Y - ly) * nx ∧ s = boxSum l wd lx nx ly (Y - ly) z36) ∧ Aside0 (wr.heap[W.heap.size + 1]? = some (.cells #[.int .i64 s.f0, .int .i64 s.f1, .int .i64 s.f2, .int .i64 s.f3] 36 (0, 0))) ∧ Aside0 (wr.heap[W.heap.size]? = some (.cells #[.int .i64 0, .int .i64 0, .int .i64 0, .int .i64 0] 36 (0, 0))) ∧ Aside0 (Below W.heap.size W wr)) (fun _ v8 _ => my - (intOf v8).toNat)
  case atStart =>
    have hm := made2 (Below.refl ((W.alloc (.cells #[.int .i64 0, .int .i64 0, .int .i64 0, .int .i64 0] 36)).alloc (.cells #[.int .i64 0, .int .i64 0, .int .i64 0, .int .i64 0] 36)).heap.size _)
    exact ⟨ly, 0, z36, Nat.le_refl _, by omega, by omega, rfl, rfl, Aside0.mk ⟨by simp, by simp [boxSum]⟩, Aside0.mk hm.2, Aside0.mk hm.1, Aside0.mk (below_two (Below.refl _ _) _ _)⟩
  case round =>
    obtain ⟨Y, C, s, hY1, hY2, hC9, rfl, rfl, HCS, HSB, HRB, HBW⟩ := hrel
    have g0 := pw_cell_below HBW.out HG0.out
    have g1 := pw_cell_below HBW.out HG1.out
    have g2 := pw_cell_below HBW.out HG2.out
    by_cases hlt : (Y : Int) ≤ (my : Int) - 1
    · go_wp2
      go_loopw [7, 9] (fun v7 v9 wq => ∃ (X C' : Nat) (s' : Pix), lx ≤ X ∧ X ≤ mx ∧ C' ≤ 100 ∧ v9 = .int .i64 X ∧ v7 = .int .i64 C' ∧ Aside0 (C' = C + (X - lx) ∧ s' = rowSum l wd Y lx (X - lx) s) ∧ Aside0 (wq.heap[W.heap.size + 1]? = some (.cells #[.int .i64 s'.f0, .int .i64 s'.f1, .int .i64 s'.f2, .int .i64 s'.f3] 36 (0, 0))) ∧ Aside0 (wq.heap[W.heap.size]? = some (.cells #[.int .i64 0, .int .i64 0, .int .i64 0, .int .i64 0] 36 (0, 0))) ∧ Aside0 (Below W.heap.size W wq)) (fun _ v9 _ => mx - (intOf v9).toNat)
      case atStart => exact ⟨lx, C, s, Nat.le_refl _, by omega, by omega, rfl, rfl, Aside0.mk ⟨by simp, by simp [rowSum]⟩, HSB, HRB, HBW⟩
      case round =>
        clear g0 g1 g2 HSB HRB HBW
        obtain ⟨X, C', s', hX1, hX2, hC9', rfl, rfl, HCS', HSB, HRB, HBW⟩ := hrel
        have g0 := pw_cell_below HBW.out HG0.out
        have g1 := pw_cell_below HBW.out HG1.out
        have g2 := pw_cell_below HBW.out HG2.out
        by_cases hltx : (X : Int) ≤ (mx : Int) - 1
        · go_wp2_with (go_at_call 54; refine ((HP.out.below HBW.out).at_ X Y (by omega) (by omega)).mono ?_; rintro e w2 ⟨rfl, hb2⟩; have HSB2 := Aside0.mk (blk_keep HSB.out hb2); have HRB2 := Aside0.mk (blk_keep HRB.out hb2); have HB2 := Aside0.mk (HBW.out.trans (hb2.mono HBW.out.size)); clear hb2 HSB HRB HBW g0 g1 g2; have KB : ∀ O, (w2.alloc O).heap[W.heap.size + 1]? = some (.cells #[.int .i64 s'.f0, .int .i64 s'.f1, .int .i64 s'.f2, .int .i64 s'.f3] 36 (0, 0)) := fun O => blk_keep HSB2.out (below_alloc (Below.refl _ _) O); have q0 : ∀ O, (w2.alloc O).cell? ⟨W.heap.size + 1, 0, none⟩ = some (.int .i64 s'.f0) := fun O => (blk_cell (KB O) 0).trans rfl; have q1 : ∀ O, (w2.alloc O).cell? ⟨W.heap.size + 1, 1, none⟩ = some (.int .i64 s'.f1) := fun O => (blk_cell (KB O) 1).trans rfl; have q2 : ∀ O, (w2.alloc O).cell? ⟨W.heap.size + 1, 2, none⟩ = some (.int .i64 s'.f2) := fun O => (blk_cell (KB O) 2).trans rfl; have q3 : ∀ O, (w2.alloc O).cell? ⟨W.heap.size + 1, 3, none⟩ = some (.int .i64 s'.f3) := fun O => (blk_cell (KB O) 3).trans rfl; have z0 : ∀ O, (w2.alloc O).frozen? ⟨W.heap.size + 1, 0, none⟩ = false := fun O => blk_frozen (KB O) 0; have z1 : ∀ O, (w2.alloc O).frozen? ⟨W.heap.size + 1, 1, none⟩ = false := fun O => blk_frozen (KB O) 1; have z2 : ∀ O, (w2.alloc O).frozen? ⟨W.heap.size + 1, 2, none⟩ = false := fun O => blk_frozen (KB O) 2; have z3 : ∀ O, (w2.alloc O).frozen? ⟨W.heap.size + 1, 3, none⟩ = false := fun O => blk_frozen (KB O) 3; have HKB := Aside0.mk KB; clear KB)
          refine ⟨⟨X + 1, C' + 1, addP s' (pix l wd X Y), by omega, by omega, by have := HCS'.out.1; omega, rfl, rfl, Aside0.mk ⟨by have := HCS'.out.1; omega, ?_⟩, Aside0.mk (sum_block (HKB.out _) (pix l wd X Y)), Aside0.mk ?_, Aside0.mk ?_⟩, by simp [intOf]; omega⟩
          · rw [show X + 1 - lx = (X - lx) + 1 by omega, rowSum_snoc, ← HCS'.out.2, show lx + (X - lx) = X by omega]
          · exact (Below.heap_setCell _ _ _ _ (by simp)).trans ((Below.heap_setCell _ _ _ _ (by simp)).trans ((Below.heap_setCell _ _ _ _ (by simp)).trans ((Below.heap_setCell _ _ _ _ (by simp)).trans (blk_keep HRB2.out (below_alloc (Below.refl _ _) _)))))
          · exact below_set (below_set (below_set (below_set (HB2.out.alloc HB2.out.size _) (by simp) _) (by simp) _) (by simp) _) (by simp) _
        · go_wp2
          obtain rfl : X = mx := by omega
          have hC := HCS'.out
          have hC0 := HCS.out
          rw [show X - lx = nx by omega] at hC
          have hle : (Y - ly + 1) * nx ≤ 3 * 3 := Nat.mul_le_mul (by omega) hnx3
          rw [Nat.add_mul, Nat.one_mul, ← hC0.1, ← hC.1] at hle
          refine ⟨⟨Y + 1, C', s', by omega, by omega, by omega, rfl, rfl, Aside0.mk ⟨?_, ?_⟩, HSB, HRB, HBW⟩, by simp [intOf]; omega⟩
          · rw [show Y + 1 - ly = (Y - ly) + 1 by omega, Nat.add_mul, Nat.one_mul, ← hC0.1, hC.1]
          · rw [show Y + 1 - ly = (Y - ly) + 1 by omega, boxSum_snoc, ← hC0.2, show ly + (Y - ly) = Y by omega, hC.2]
    · obtain rfl : Y = my := by omega
      have hC0 := HCS.out
      rw [show Y - ly = ny by omega] at hC0
      have hC1 : 1 ≤ C := by rw [hC0.1]; exact Nat.mul_le_mul HN2.out HN1.out
      have HE : Aside0 (meanP (boxSum l wd lx nx ly ny z36) (ny * nx) = meanP s C) := Aside0.mk (by rw [← hC0.1, ← hC0.2])
      clear hC0 HCS
      have hne : ¬ (C = 0) := by omega
      have q0 : wr.cell? ⟨W.heap.size + 1, 0, none⟩ = some (.int .i64 s.f0) := (blk_cell HSB.out 0).trans rfl
      have q1 : wr.cell? ⟨W.heap.size + 1, 1, none⟩ = some (.int .i64 s.f1) := (blk_cell HSB.out 1).trans rfl
      have q2 : wr.cell? ⟨W.heap.size + 1, 2, none⟩ = some (.int .i64 s.f2) := (blk_cell HSB.out 2).trans rfl
      have q3 : wr.cell? ⟨W.heap.size + 1, 3, none⟩ = some (.int .i64 s.f3) := (blk_cell HSB.out 3).trans rfl
      have r0 : wr.cell? ⟨W.heap.size, 0, none⟩ = some (.int .i64 0) := (blk_cell HRB.out 0).trans rfl
      have r1 : wr.cell? ⟨W.heap.size, 1, none⟩ = some (.int .i64 0) := (blk_cell HRB.out 1).trans rfl
      have r2 : wr.cell? ⟨W.heap.size, 2, none⟩ = some (.int .i64 0) := (blk_cell HRB.out 2).trans rfl
      have r3 : wr.cell? ⟨W.heap.size, 3, none⟩ = some (.int .i64 0) := (blk_cell HRB.out 3).trans rfl
      have s0 := blk_frozen HRB.out 0
      have s1 := blk_frozen HRB.out 1
      have s2 := blk_frozen HRB.out 2
      have s3 := blk_frozen HRB.out 3
      go_wp2
      refine start_ (n := 18) (S := fun w' => w'.cell? ⟨W.heap.size + 1, 0, none⟩ = some (.int .i64 s.f0) ∧ w'.cell? ⟨W.heap.size + 1, 1, none⟩ = some (.int .i64 s.f1) ∧ w'.cell? ⟨W.heap.size + 1, 2, none⟩ = some (.int .i64 s.f2) ∧ w'.cell? ⟨W.heap.size + 1, 3, none⟩ = some (.int .i64 s.f3)) (ds := []) #[false, false, false, false, false, false, false, false, false, false, false, false, false, false, false, false, false, false] (by kernel_rfl) rfl rfl ⟨q0, q1, q2, q3⟩ (fun hHeld => ?_); refine with_tabW tellsBlur.tab15 tellsBlur.bits15 (fun HT_ HW_ => ?_)
      have HD0 := Aside0.mk (blk_drew HRB.out); have HD1 := Aside0.mk (below_drew1 HBW.out); clear HSB HRB HBW r0 r1 r2 r3 s0 s1 s2 s3 q0 q1 q2 q3 g0 g1 g2
      generalize wr.drew = wz_ at HD0 HD1 hHeld ⊢
      refine pure_ (i := 0) (N := some 67) (v := ?_) (a' := ?_) #[true, false, false, false, false, false, false, false, false, false, false, false, false, false, false, false, false, false] rfl rfl (any_of HT_.out (by kernel_rfl)) (fun _ _ _ h => h) (Or.inl ⟨by rfl, ?_⟩) ?_ ?_
      rotate_left
      · intro w'
        go_simp
        with_reducible rfl
      rotate_left
      · simp only [Act.put, List.setIfInBounds_toArray, List.set_cons_zero, List.set_cons_succ, i64_w, i32_w]
        rfl
      refine take_ (i := 1) (N := some 68) (v := ?_) (a' := ?_) #[true, true, false, false, false, false, false, false, false, false, false, false, false, false, false, false, false, false] rfl rfl (take_ofW HT_.out HW_.out (by kernel_rfl)) (fun _ _ _ h => h) (Or.inl ⟨by rfl, ?_⟩) hHeld ?_ ?_
      rotate_left
      · rintro w' ⟨s0, s1, s2, s3⟩
        go_simp
        with_reducible rfl
      rotate_left
      · simp only [Act.put, List.setIfInBounds_toArray, List.set_cons_zero, List.set_cons_succ, i64_w, i32_w]
        rfl
      refine pure_ (i := 2) (N := some 69) (v := ?_) (a' := ?_) #[true, true, true, false, false, false, false, false, false, false, false, false, false, false, false, false, false, false] rfl rfl (any_of HT_.out (by kernel_rfl)) (fun _ _ _ h => h) (Or.inl ⟨by rfl, ?_⟩) ?_ ?_
      rotate_left
      · intro w'
        go_simp
        with_reducible rfl
      rotate_left
      · simp only [Act.put, List.setIfInBounds_toArray, List.set_cons_zero, List.set_cons_succ, i64_w, i32_w]
        rfl
      refine pure_ (i := 3) (N := some 70) (v := ?_) (a' := ?_) #[true, true, true, true, false, false, false, false, false, false, false, false, false, false, false, false, false, false] rfl rfl (any_of HT_.out (by kernel_rfl)) (fun _ _ _ h => h) (Or.inl ⟨by rfl, ?_⟩) ?_ ?_
      rotate_left
      · intro w'
        go_simp
        with_reducible rfl
      rotate_left
      · simp only [Act.put, List.setIfInBounds_toArray, List.set_cons_zero, List.set_cons_succ, i64_w, i32_w]
        rfl
      refine pure_ (i := 4) (N := some 71) (v := ?_) (a' := ?_) #[true, true, true, true, true, false, false, false, false, false, false, false, false, false, false, false, false, false] rfl rfl (any_of HT_.out (by kernel_rfl)) (fun _ _ _ h => h) (Or.inl ⟨by rfl, ?_⟩) ?_ ?_
      rotate_left
      · intro w'
        go_simp
        with_reducible rfl
      rotate_left
      · simp only [Act.put, List.setIfInBounds_toArray, List.set_cons_zero, List.set_cons_succ, i64_w, i32_w]
        rfl
      refine take_ (i := 5) (N := some 72) (v := ?_) (a' := ?_) #[true, true, true, true, true, true, false, false, false, false, false, false, false, false, false, false, false, false] rfl rfl (take_ofW HT_.out HW_.out (by kernel_rfl)) (fun _ _ _ h => h) (Or.inl ⟨by rfl, ?_⟩) hHeld ?_ ?_
      rotate_left
      · rintro w' ⟨s0, s1, s2, s3⟩
        go_simp
        with_reducible rfl
      rotate_left
      · simp only [Act.put, List.setIfInBounds_toArray, List.set_cons_zero, List.set_cons_succ, i64_w, i32_w]
        rfl
      refine pure_ (i := 6) (N := some 73) (v := ?_) (a' := ?_) #[true, true, true, true, true, true, true, false, false, false, false, false, false, false, false, false, false, false] rfl rfl (any_of HT_.out (by kernel_rfl)) (fun _ _ _ h => h) (Or.inl ⟨by rfl, ?_⟩) ?_ ?_
      rotate_left
      · intro w'
        go_simp
        with_reducible rfl
      rotate_left
      · simp only [Act.put, List.setIfInBounds_toArray, List.set_cons_zero, List.set_cons_succ, i64_w, i32_w]
        rfl
      refine pure_ (i := 7) (N := some 74) (v := ?_) (a' := ?_) #[true, true, true, true, true, true, true, true, false, false, false, false, false, false, false, false, false, false] rfl rfl (any_of HT_.out (by kernel_rfl)) (fun _ _ _ h => h) (Or.inl ⟨by rfl, ?_⟩) ?_ ?_
      rotate_left
      · intro w'
        go_simp
        with_reducible rfl
      rotate_left
      · simp only [Act.put, List.setIfInBounds_toArray, List.set_cons_zero, List.set_cons_succ, i64_w, i32_w]
        rfl
      refine pure_ (i := 8) (N := some 75) (v := ?_) (a' := ?_) #[true, true, true, true, true, true, true, true, true, false, false, false, false, false, false, false, false, false] rfl rfl (any_of HT_.out (by kernel_rfl)) (fun _ _ _ h => h) (Or.inl ⟨by rfl, ?_⟩) ?_ ?_
      rotate_left
      · intro w'
        go_simp
        with_reducible rfl
      rotate_left
      · simp only [Act.put, List.setIfInBounds_toArray, List.set_cons_zero, List.set_cons_succ, i64_w, i32_w]
        rfl
      refine take_ (i := 9) (N := some 76) (v := ?_) (a' := ?_) #[true, true, true, true, true, true, true, true, true, true, false, false, false, false, false, false, false, false] rfl rfl (take_ofW HT_.out HW_.out (by kernel_rfl)) (fun _ _ _ h => h) (Or.inl ⟨by rfl, ?_⟩) hHeld ?_ ?_
      rotate_left
      · rintro w' ⟨s0, s1, s2, s3⟩
        go_simp
        with_reducible rfl
      rotate_left
      · simp only [Act.put, List.setIfInBounds_toArray, List.set_cons_zero, List.set_cons_succ, i64_w, i32_w]
        rfl
      refine pure_ (i := 10) (N := some 77) (v := ?_) (a' := ?_) #[true, true, true, true, true, true, true, true, true, true, true, false, false, false, false, false, false, false] rfl rfl (any_of HT_.out (by kernel_rfl)) (fun _ _ _ h => h) (Or.inl ⟨by rfl, ?_⟩) ?_ ?_
      rotate_left
      · intro w'
        go_simp
        with_reducible rfl
      rotate_left
      · simp only [Act.put, List.setIfInBounds_toArray, List.set_cons_zero, List.set_cons_succ, i64_w, i32_w]
        rfl
      refine pure_ (i := 11) (N := some 78) (v := ?_) (a' := ?_) #[true, true, true, true, true, true, true, true, true, true, true, true, false, false, false, false, false, false] rfl rfl (any_of HT_.out (by kernel_rfl)) (fun _ _ _ h => h) (Or.inl ⟨by rfl, ?_⟩) ?_ ?_
      rotate_left
      · intro w'
        go_simp
        with_reducible rfl
      rotate_left
      · simp only [Act.put, List.setIfInBounds_toArray, List.set_cons_zero, List.set_cons_succ, i64_w, i32_w]
        rfl
      refine pure_ (i := 12) (N := some 79) (v := ?_) (a' := ?_) #[true, true, true, true, true, true, true, true, true, true, true, true, true, false, false, false, false, false] rfl rfl (any_of HT_.out (by kernel_rfl)) (fun _ _ _ h => h) (Or.inl ⟨by rfl, ?_⟩) ?_ ?_
      rotate_left
      · intro w'
        go_simp
        with_reducible rfl
      rotate_left
      · simp only [Act.put, List.setIfInBounds_toArray, List.set_cons_zero, List.set_cons_succ, i64_w, i32_w]
        rfl
      refine take_ (i := 13) (N := some 80) (v := ?_) (a' := ?_) #[true, true, true, true, true, true, true, true, true, true, true, true, true, true, false, false, false, false] rfl rfl (take_ofW HT_.out HW_.out (by kernel_rfl)) (fun _ _ _ h => h) (Or.inl ⟨by rfl, ?_⟩) hHeld ?_ ?_
      rotate_left
      · rintro w' ⟨s0, s1, s2, s3⟩
        go_simp
        with_reducible rfl
      rotate_left
      · simp only [Act.put, List.setIfInBounds_toArray, List.set_cons_zero, List.set_cons_succ, i64_w, i32_w]
        rfl
      refine pure_ (i := 14) (N := some 81) (v := ?_) (a' := ?_) #[true, true, true, true, true, true, true, true, true, true, true, true, true, true, true, false, false, false] rfl rfl (any_of HT_.out (by kernel_rfl)) (fun _ _ _ h => h) (Or.inl ⟨by rfl, ?_⟩) ?_ ?_
      rotate_left
      · intro w'
        go_simp
        with_reducible rfl
      rotate_left
      · simp only [Act.put, List.setIfInBounds_toArray, List.set_cons_zero, List.set_cons_succ, i64_w, i32_w]
        rfl
      refine pure_ (i := 15) (N := some 82) (v := ?_) (a' := ?_) #[true, true, true, true, true, true, true, true, true, true, true, true, true, true, true, true, false, false] rfl rfl (any_of HT_.out (by kernel_rfl)) (fun _ _ _ h => h) (Or.inl ⟨by rfl, ?_⟩) ?_ ?_
      rotate_left
      · intro w'
        go_simp
        with_reducible rfl
      rotate_left
      · simp only [Act.put, List.setIfInBounds_toArray, List.set_cons_zero, List.set_cons_succ, i64_w, i32_w]
        rfl
      refine pure_ (i := 16) (N := some 83) (v := ?_) (a' := ?_) #[true, true, true, true, true, true, true, true, true, true, true, true, true, true, true, true, true, false] rfl rfl (any_of HT_.out (by kernel_rfl)) (fun _ _ _ h => h) (Or.inl ⟨by rfl, ?_⟩) ?_ ?_
      rotate_left
      · intro w'
        go_simp
        with_reducible rfl
      rotate_left
      · simp only [Act.put, List.setIfInBounds_toArray, List.set_cons_zero, List.set_cons_succ, i64_w, i32_w]
        rfl
      refine one_ (i := 17) (N := none) #[true, true, true, true, true, true, true, true, true, true, true, true, true, true, true, true, true, true] rfl rfl (one_of HT_.out (by kernel_rfl)) (by decide) (fun K hK => ?_)
      have r0 : wz_.cell? ⟨W.heap.size, 0, none⟩ = some (.int .i64 0) := (blk_cell HD0.out 0).trans rfl; have z0 := blk_frozen HD0.out 0
      have r1 : wz_.cell? ⟨W.heap.size, 1, none⟩ = some (.int .i64 0) := (blk_cell HD0.out 1).trans rfl; have z1 := blk_frozen HD0.out 1
      have r2 : wz_.cell? ⟨W.heap.size, 2, none⟩ = some (.int .i64 0) := (blk_cell HD0.out 2).trans rfl; have z2 := blk_frozen HD0.out 2
      have r3 : wz_.cell? ⟨W.heap.size, 3, none⟩ = some (.int .i64 0) := (blk_cell HD0.out 3).trans rfl; have z3 := blk_frozen HD0.out 3
      refine skip_ (w1 := ?_) (by rfl) rfl ?_ ?_
      rotate_left
      · go_simp
        rfl
      refine hK.out _ _ ⟨far4n hHeld.1 (by simp) _ _ _ _, far4n hHeld.2.1 (by simp) _ _ _ _, far4n hHeld.2.2.1 (by simp) _ _ _ _, far4n hHeld.2.2.2 (by simp) _ _ _ _⟩ (fun hHeld => ?_)
      clear hK K
      refine done_ (done_of HT_.out (by kernel_rfl)) ?_
      try go_wp2
      refine bodyPost_ret (results_cell_row rfl _ _ W.heap.size 36 _ (0, 0) _ rfl (pix_block HD0.out (meanP s C)) Try.underlying36 rfl (by kernel_rfl)) rfl ⟨by rw [HE.out], ?_⟩
      exact below_set (below_set (below_set (below_set HD1.out (Nat.le_refl _) _) (Nat.le_refl _) _) (Nat.le_refl _) _) (Nat.le_refl _) _
set_option maxHeartbeats 2000000 in
set_option maxRecDepth 100000 in
theorem moves_blur (w : World) (dom : Nat → Nat → Prop) :
    Moves w (.func (.func 70) #[] #[]) dom (coloursG fun wd hg l x y => blurP l wd hg x y) := by
  refine ⟨_, _, rfl, enter_any Try.func70 rfl rfl, fun W hB wd hg A c l hP hdom => ?_⟩
  have HP := Aside0.mk hP
  clear hB hP
  show Calls Try.prog 70 #[.agg #[.int .i64 wd, .int .i64 hg, .slice A l.length c]] W _
  go_enter Try.func70, Try.ntmps70
  go_wp2_with (go_at_call 52; refine (newRaster_walk wd hg HP.out.w0 HP.out.w1 HP.out.h0 HP.out.h1 (fun x y => blurP l wd hg x y) _ _ (tells_blur (HP.out.below (below_two (Below.refl _ _) _ _)) (boxed _ _ _ _).1 (boxed _ _ _ _).2.1 (boxed _ _ _ _).2.2)).mono ?_; rintro e w2 ⟨v, rfl, hR, hb2⟩; obtain ⟨A', c', rfl⟩ := Kd.R_slice hR; have BR2 : Aside0 (ResBlk w2 (W.heap.size + 1)) := Aside0.mk (made2 hb2).2; have r0 := (blk_cell BR2.out 0).trans rfl; have r1 := (blk_cell BR2.out 1).trans rfl; have r2 := (blk_cell BR2.out 2).trans rfl; have s0 := blk_frozen BR2.out 0; have s1 := blk_frozen BR2.out 1; have s2 := blk_frozen BR2.out 2; have HR := Aside0.mk hR; have HB2 := Aside0.mk (below_made2 hb2); clear hb2 hR)
  refine bodyPost_ret (results_ct rfl _ _ (W.heap.size + 1) 25 _ (0, 0) _ rfl (ras_block BR2.out _ _ _) Try.underlying25 rfl (by kernel_rfl)) rfl ⟨_, rfl, R_ret HR.out (by simp; omega) (by simp) _ _ _, ?_⟩
  exact below_set (below_set (below_set HB2.out (by simp) _) (by simp) _) (by simp) _
end
end Go.Proofs.Ytoifpgkfpdeglaa.X
namespace Go.Proofs.Ytoifpgkfpdeglaa.X
open Go.RowKit Go.Proofs.YtoifpgkfpdeglaaW.PrintWords Go.Proofs.YtoifpgkfpdeglaaW.PrintLast Go.Proofs.YtoifpgkfpdeglaaW.PrintMore
set_option linter.unusedVariables false
set_option linter.unusedSimpArgs false
theorem ret2 {a b a' b' : Int} (h1 : a = a') (h2 : b = b') : Ending.returned (.tuple #[.int .i64 a, .int .i64 b]) = .returned (.tuple #[.int .i64 a', .int .i64 b']) := by rw [h1, h2]
theorem i2 (a b : Int) : #[Value.int .i64 a, .int .i64 b] = #[Value.int .i64 a, .int .i64 b] := rfl
structure OpBox (w : World) (b : Nat) (o : Op) : Prop where
  h0 : w.cell? ⟨b, 0, none⟩ = some (.int .i64 o.f0)
  h1 : w.cell? ⟨b, 1, none⟩ = some (.int .i64 o.f1)
  h2 : w.cell? ⟨b, 2, none⟩ = some (.int .i64 o.f2)
  h3 : w.cell? ⟨b, 3, none⟩ = some (.int .i64 o.f3)
  h4 : w.cell? ⟨b, 4, none⟩ = some (.int .i64 o.f4)
theorem OpBox.below {w W : World} {b : Nat} {o : Op} (h : OpBox w b o) (hb : Below w.heap.size w W) : OpBox W b o :=
  ⟨pw_cell_below hb h.h0, pw_cell_below hb h.h1, pw_cell_below hb h.h2, pw_cell_below hb h.h3, pw_cell_below hb h.h4⟩
theorem OpBox.made {w : World} {b : Nat} {o : Op} (h : OpBox w b o) (O : Obj) : OpBox (w.alloc O) b o := h.below (below_alloc (Below.refl _ _) _)
set_option maxHeartbeats 1000000 in
set_option maxRecDepth 100000 in
theorem sizes_same (w : World) (wd hg : Nat) : Sizes w (.func (.func 63) #[] #[]) wd hg wd hg := by
  refine ⟨_, _, rfl, enter_any Try.func63 rfl rfl, fun W hB A n c => ?_⟩
  show Calls Try.prog 63 #[.agg #[.int .i64 wd, .int .i64 hg, .slice A n c]] W _
  go_enter Try.func63, Try.ntmps63
  go_wp2
  go_quiet (fail)
  go_wp2
  go_ret2
  exact ⟨rfl, by repeat (first | exact Below.refl _ _ | apply below_alloc | apply pw_below_drewN | apply below_drew1)⟩
set_option maxHeartbeats 1000000 in
set_option maxRecDepth 100000 in
theorem size_turned (w : World) (wd hg : Nat) : Sizes w (.func (.func 66) #[] #[]) wd hg hg wd := by
  refine ⟨_, _, rfl, enter_any Try.func66 rfl rfl, fun W hB A n c => ?_⟩
  show Calls Try.prog 66 #[.agg #[.int .i64 wd, .int .i64 hg, .slice A n c]] W _
  go_enter Try.func66, Try.ntmps66
  go_wp2
  go_quiet (fail)
  go_wp2
  go_ret2
  exact ⟨rfl, by repeat (first | exact Below.refl _ _ | apply below_alloc | apply pw_below_drewN | apply below_drew1)⟩
set_option maxHeartbeats 1000000 in
set_option maxRecDepth 100000 in
theorem from_flipX (w : World) (wd hg : Nat) (hw : wd ≤ 6) : Froms w (.func (.func 64) #[] #[]) wd hg wd hg (fun x y => wd - 1 - x) (fun x y => y) := by
  refine ⟨_, _, rfl, enter_any Try.func64 rfl rfl, fun W hB A n c x y hx hy => ?_⟩
  show Calls Try.prog 64 #[.agg #[.int .i64 wd, .int .i64 hg, .slice A n c], .int .i64 x, .int .i64 y] W _
  go_enter Try.func64, Try.ntmps64
  go_wp2
  go_ret2
  exact ⟨ret2 (by omega) rfl, by repeat (first | exact Below.refl _ _ | apply below_alloc | apply pw_below_drewN | apply below_drew1)⟩
set_option maxHeartbeats 1000000 in
set_option maxRecDepth 100000 in
theorem from_flipY (w : World) (wd hg : Nat) (hw : hg ≤ 6) : Froms w (.func (.func 65) #[] #[]) wd hg wd hg (fun x y => x) (fun x y => hg - 1 - y) := by
  refine ⟨_, _, rfl, enter_any Try.func65 rfl rfl, fun W hB A n c x y hx hy => ?_⟩
  show Calls Try.prog 65 #[.agg #[.int .i64 wd, .int .i64 hg, .slice A n c], .int .i64 x, .int .i64 y] W _
  go_enter Try.func65, Try.ntmps65
  go_wp2
  try go_quiet (fail)
  try go_wp2
  go_ret2
  exact ⟨ret2 rfl (by omega), by repeat (first | exact Below.refl _ _ | apply below_alloc | apply pw_below_drewN | apply below_drew1)⟩
set_option maxHeartbeats 1000000 in
set_option maxRecDepth 100000 in
theorem from_turn (w : World) (wd hg : Nat) (hw : hg ≤ 6) : Froms w (.func (.func 67) #[] #[]) wd hg hg wd (fun x y => y) (fun x y => hg - 1 - x) := by
  refine ⟨_, _, rfl, enter_any Try.func67 rfl rfl, fun W hB A n c x y hx hy => ?_⟩
  show Calls Try.prog 67 #[.agg #[.int .i64 wd, .int .i64 hg, .slice A n c], .int .i64 x, .int .i64 y] W _
  go_enter Try.func67, Try.ntmps67
  go_wp2
  try go_quiet (fail)
  try go_wp2
  go_ret2
  exact ⟨ret2 rfl (by omega), by repeat (first | exact Below.refl _ _ | apply below_alloc | apply pw_below_drewN | apply below_drew1)⟩
set_option maxHeartbeats 1000000 in
set_option maxRecDepth 100000 in
theorem size_crop {w : World} {b : Nat} {o : Op} (hb : OpBox w b o) (h3 : 0 ≤ o.f3) (h4 : 0 ≤ o.f4) (wd hg : Nat) : Sizes w (.func (.func 82) #[] #[.pointer (some ⟨b, 0, none⟩)]) wd hg o.f3.toNat o.f4.toNat := by
  refine ⟨_, _, rfl, enter_any Try.func82 rfl rfl, fun W hB A n c => ?_⟩
  have HO := fun O => (hb.below hB).made O
  have c3 := fun O => (HO O).h3
  have c4 := fun O => (HO O).h4
  clear HO
  show Calls Try.prog 82 #[.agg #[.int .i64 wd, .int .i64 hg, .slice A n c], .pointer (some ⟨b, 0, none⟩)] W _
  go_enter Try.func82, Try.ntmps82
  go_wp2
  go_quiet (fail)
  go_wp2
  go_ret2
  exact ⟨ret2 (by omega) (by omega), by repeat (first | exact Below.refl _ _ | apply below_alloc | apply pw_below_drewN | apply below_drew1)⟩
set_option maxHeartbeats 1000000 in
set_option maxRecDepth 100000 in
theorem size_size {w : World} {b : Nat} {o : Op} (hb : OpBox w b o) (h3 : 0 ≤ o.f1) (h4 : 0 ≤ o.f2) (wd hg : Nat) : Sizes w (.func (.func 90) #[] #[.pointer (some ⟨b, 0, none⟩)]) wd hg o.f1.toNat o.f2.toNat := by
  refine ⟨_, _, rfl, enter_any Try.func90 rfl rfl, fun W hB A n c => ?_⟩
  have HO := fun O => (hb.below hB).made O
  have c3 := fun O => (HO O).h1
  have c4 := fun O => (HO O).h2
  clear HO
  show Calls Try.prog 90 #[.agg #[.int .i64 wd, .int .i64 hg, .slice A n c], .pointer (some ⟨b, 0, none⟩)] W _
  go_enter Try.func90, Try.ntmps90
  go_wp2
  go_quiet (fail)
  go_wp2
  go_ret2
  exact ⟨ret2 (by omega) (by omega), by repeat (first | exact Below.refl _ _ | apply below_alloc | apply pw_below_drewN | apply below_drew1)⟩
set_option maxHeartbeats 1000000 in
set_option maxRecDepth 100000 in
theorem from_crop {w : World} {b : Nat} {o : Op} (hb : OpBox w b o) (h1 : 0 ≤ o.f1 ∧ o.f1 ≤ 5) (h2 : 0 ≤ o.f2 ∧ o.f2 ≤ 5) (wd hg W' H' : Nat) (hW : W' ≤ 6) (hH : H' ≤ 6) : Froms w (.func (.func 83) #[] #[.pointer (some ⟨b, 0, none⟩)]) wd hg W' H' (fun x y => o.f1.toNat + x) (fun x y => o.f2.toNat + y) := by
  refine ⟨_, _, rfl, enter_any Try.func83 rfl rfl, fun W hB A n c x y hx hy => ?_⟩
  have HO := fun O => (hb.below hB).made O
  have c3 := fun O => (HO O).h1
  have c4 := fun O => (HO O).h2
  clear HO
  show Calls Try.prog 83 #[.agg #[.int .i64 wd, .int .i64 hg, .slice A n c], .int .i64 x, .int .i64 y, .pointer (some ⟨b, 0, none⟩)] W _
  go_enter Try.func83, Try.ntmps83
  go_wp2
  go_quiet (fail)
  go_wp2
  go_ret2
  exact ⟨ret2 (by omega) (by omega), by repeat (first | exact Below.refl _ _ | apply below_alloc | apply pw_below_drewN | apply below_drew1)⟩
theorem i64_id (x : Int) (h0 : -9223372036854775808 ≤ x) (h1 : x ≤ 9223372036854775807) : IntKind.i64.wrap x = x := by
  rw [IntKind.wrap_i64]
  omega
theorem tdiv_nat (m n : Nat) : Int.tdiv (m : Int) (n : Int) = ((m / n : Nat) : Int) := rfl
set_option maxHeartbeats 1000000 in
set_option maxRecDepth 100000 in
theorem from_size {w : World} {b : Nat} {o : Op} (hb : OpBox w b o) (h1 : 1 ≤ o.f1 ∧ o.f1 ≤ 6) (h2 : 1 ≤ o.f2 ∧ o.f2 ≤ 6) (wd hg : Nat) (hw : wd ≤ 6) (hh : hg ≤ 6) : Froms w (.func (.func 91) #[] #[.pointer (some ⟨b, 0, none⟩)]) wd hg o.f1.toNat o.f2.toNat (fun x y => (2 * x + 1) * wd / (2 * o.f1.toNat)) (fun x y => (2 * y + 1) * hg / (2 * o.f2.toNat)) := by
  refine ⟨_, _, rfl, enter_any Try.func91 rfl rfl, fun W hB A n c x y hx hy => ?_⟩
  obtain ⟨p, hp⟩ : ∃ p : Nat, o.f1 = p := ⟨o.f1.toNat, by omega⟩
  obtain ⟨q, hq⟩ : ∃ p : Nat, o.f2 = p := ⟨o.f2.toNat, by omega⟩
  have HO := fun O => (hb.below hB).made O
  have c3 := fun O => (HO O).h1
  have c4 := fun O => (HO O).h2
  clear HO
  rw [hp] at c3 h1 hx ⊢
  rw [hq] at c4 h2 hy ⊢
  rw [Int.toNat_natCast] at hx hy ⊢
  have b1 : (2 * x + 1) * wd ≤ 13 * 6 := Nat.mul_le_mul (by omega) hw
  have b2 : (2 * y + 1) * hg ≤ 13 * 6 := Nat.mul_le_mul (by omega) hh
  have e1 : ((2 * (x : Int) + 1) * (wd : Int)) = (((2 * x + 1) * wd : Nat) : Int) := by simp
  have e2 : ((2 * (y : Int) + 1) * (hg : Int)) = (((2 * y + 1) * hg : Nat) : Int) := by simp
  have n1 : ¬ (p = 0) := by omega
  have n2 : ¬ (q = 0) := by omega
  have F1 := i64_id (2 * (x : Int)) (by omega) (by omega)
  have F2 := i64_id (2 * (x : Int) + 1) (by omega) (by omega)
  have F3 := i64_id ((2 * (x : Int) + 1) * (wd : Int)) (by rw [e1]; omega) (by rw [e1]; omega)
  have F4 := i64_id (2 * (p : Int)) (by omega) (by omega)
  have G1 := i64_id (2 * (y : Int)) (by omega) (by omega)
  have G2 := i64_id (2 * (y : Int) + 1) (by omega) (by omega)
  have G3 := i64_id ((2 * (y : Int) + 1) * (hg : Int)) (by rw [e2]; omega) (by rw [e2]; omega)
  have G4 := i64_id (2 * (q : Int)) (by omega) (by omega)
  have d1 : (2 * x + 1) * wd / (2 * p) ≤ 78 := Nat.le_trans (Nat.div_le_self _ _) b1
  have d2 : (2 * y + 1) * hg / (2 * q) ≤ 78 := Nat.le_trans (Nat.div_le_self _ _) b2
  have t1 : Int.tdiv ((2 * (x : Int) + 1) * (wd : Int)) (2 * (p : Int)) = (((2 * x + 1) * wd / (2 * p) : Nat) : Int) := by rw [e1, show (2 * (p : Int)) = ((2 * p : Nat) : Int) by simp, tdiv_nat]
  have t2 : Int.tdiv ((2 * (y : Int) + 1) * (hg : Int)) (2 * (q : Int)) = (((2 * y + 1) * hg / (2 * q) : Nat) : Int) := by rw [e2, show (2 * (q : Int)) = ((2 * q : Nat) : Int) by simp, tdiv_nat]
  have D1 := i64_id (Int.tdiv ((2 * (x : Int) + 1) * (wd : Int)) (2 * (p : Int))) (by rw [t1]; exact Int.le_trans (by decide) (Int.natCast_nonneg _)) (by rw [t1]; exact Int.le_trans (Int.ofNat_le.2 d1) (by decide))
  have D2 := i64_id (Int.tdiv ((2 * (y : Int) + 1) * (hg : Int)) (2 * (q : Int))) (by rw [t2]; exact Int.le_trans (by decide) (Int.natCast_nonneg _)) (by rw [t2]; exact Int.le_trans (Int.ofNat_le.2 d2) (by decide))
  have T1 := Aside0.mk t1
  have T2 := Aside0.mk t2
  clear e1 e2 d1 d2 b1 b2 t1 t2
  show Calls Try.prog 91 #[.agg #[.int .i64 wd, .int .i64 hg, .slice A n c], .int .i64 x, .int .i64 y, .pointer (some ⟨b, 0, none⟩)] W _
  go_enter Try.func91, Try.ntmps91
  go_wp2
  go_quiet (fail)
  go_wp2
  go_ret2
  exact ⟨ret2 T1.out T2.out, by repeat (first | exact Below.refl _ _ | apply below_alloc | apply pw_below_drewN | apply below_drew1)⟩
end Go.Proofs.Ytoifpgkfpdeglaa.X
namespace Go.Proofs.Ytoifpgkfpdeglaa.X
open Go.RowKit Go.Proofs.YtoifpgkfpdeglaaW.PrintWords Go.Proofs.YtoifpgkfpdeglaaW.PrintLast Go.Proofs.YtoifpgkfpdeglaaW.PrintMore
set_option linter.unusedVariables false
set_option linter.unusedSimpArgs false
theorem Moves.imp {w : World} {fv : Value} {dom dom' : Nat → Nat → Prop} {G G' : Nat → Nat → List Pix → Nat × Nat × List Pix × Bool} (h : Moves w fv dom G)
    (hi : ∀ wd hg l, 1 ≤ wd → wd ≤ 6 → 1 ≤ hg → hg ≤ 6 → dom' wd hg → dom wd hg ∧ G wd hg l = G' wd hg l) : Moves w fv dom' G' := by
  obtain ⟨fn, caps, e, he, hc⟩ := h
  refine ⟨fn, caps, e, he, fun W hB wd hg A c l hP hd => ?_⟩
  have := hi wd hg l hP.w0 hP.w1 hP.h0 hP.h1 hd
  rw [← this.2]
  exact hc W hB wd hg A c l hP this.1
theorem Moves.below {w W : World} {fv : Value} {dom : Nat → Nat → Prop} {G : Nat → Nat → List Pix → Nat × Nat × List Pix × Bool} (h : Moves w fv dom G) (hb : Below w.heap.size w W) : Moves W fv dom G := by
  obtain ⟨fn, caps, e, he, hc⟩ := h
  exact ⟨fn, caps, e, he, fun W2 hb2 => hc W2 (hb.trans (hb2.mono hb.size))⟩
set_option maxHeartbeats 1000000 in
set_option maxRecDepth 100000 in
theorem pixs_gray (w : World) : Pixs w (.func (.func 69) #[] #[]) grayP := by
  refine ⟨_, _, rfl, enter_any Try.func69 rfl rfl, fun W hB p => ?_⟩
  show Calls Try.prog 69 #[.agg #[.int .i64 p.f0, .int .i64 p.f1, .int .i64 p.f2, .int .i64 p.f3]] W _
  go_enter Try.func69, Try.ntmps69
  go_wp2
  refine bodyPost_ret (v := .agg #[.int .i64 (grayP p).f0, .int .i64 (grayP p).f1, .int .i64 (grayP p).f2, .int .i64 (grayP p).f3]) (by simp [results, Try.results69, go_sem, grayP]) rfl ⟨rfl, ?_⟩
  exact below_two (Below.refl _ _) _ _
set_option maxHeartbeats 1000000 in
set_option maxRecDepth 100000 in
theorem over_walk (front behind a : Int) (g : Nat) (W : World) (h : W.cell? ⟨g, 3, none⟩ = some (.int .i64 a)) :
    Calls Try.prog 93 #[.int .i64 front, .int .i64 behind, .pointer (some ⟨g, 0, none⟩)] W fun e w' => e = .returned (.int .i64 (overP front behind a)) ∧ w' = W := by
  go_enter Try.func93, Try.ntmps93
  go_wp2
  go_ret
  exact ⟨rfl, rfl⟩
set_option maxHeartbeats 2000000 in
set_option maxRecDepth 100000 in
theorem pixs_flat {w : World} {b : Nat} {o : Op} (hb : OpBox w b o) : Pixs w (.func (.func 92) #[] #[.pointer (some ⟨b, 0, none⟩)]) (flatP o.f1 o.f2 o.f3) := by
  refine ⟨_, _, rfl, enter_any Try.func92 rfl rfl, fun W hB p => ?_⟩
  have HO := fun O1 O2 => ((hb.below hB).made O1).made O2
  have c1 := fun O1 O2 => (HO O1 O2).h1
  have c2 := fun O1 O2 => (HO O1 O2).h2
  have c3 := fun O1 O2 => (HO O1 O2).h3
  clear HO
  show Calls Try.prog 92 #[.agg #[.int .i64 p.f0, .int .i64 p.f1, .int .i64 p.f2, .int .i64 p.f3], .pointer (some ⟨b, 0, none⟩)] W _
  go_enter Try.func92, Try.ntmps92
  go_wp2
  generalize hw1 : ((W.alloc (.cells #[.int .i64 p.f0, .int .i64 p.f1, .int .i64 p.f2, .int .i64 p.f3] 36)).alloc (.cells #[.int .i64 0, .int .i64 0, .int .i64 0, .int .i64 0] 36)) = w1
  have d1 : w1.cell? ⟨b, 1, none⟩ = some (.int .i64 o.f1) := hw1 ▸ c1 _ _
  have d2 : w1.cell? ⟨b, 2, none⟩ = some (.int .i64 o.f2) := hw1 ▸ c2 _ _
  have d3 : w1.cell? ⟨b, 3, none⟩ = some (.int .i64 o.f3) := hw1 ▸ c3 _ _
  have hm := made2 (W := W) (O1 := .cells #[.int .i64 p.f0, .int .i64 p.f1, .int .i64 p.f2, .int .i64 p.f3] 36) (O2 := .cells #[.int .i64 0, .int .i64 0, .int .i64 0, .int .i64 0] 36) (w1 := w1) (hw1 ▸ Below.refl _ _)
  have p0 : w1.cell? ⟨W.heap.size, 0, none⟩ = some (.int .i64 p.f0) := (blk_cell hm.1 0).trans rfl
  have p1 : w1.cell? ⟨W.heap.size, 1, none⟩ = some (.int .i64 p.f1) := (blk_cell hm.1 1).trans rfl
  have p2 : w1.cell? ⟨W.heap.size, 2, none⟩ = some (.int .i64 p.f2) := (blk_cell hm.1 2).trans rfl
  have p3 : w1.cell? ⟨W.heap.size, 3, none⟩ = some (.int .i64 p.f3) := (blk_cell hm.1 3).trans rfl
  have HR := Aside0.mk hm.2
  have HB1 : Aside0 (Below W.heap.size W w1) := Aside0.mk (hw1 ▸ below_two (Below.refl _ _) _ _)
  have HBN : Aside0 (b ≠ W.heap.size + 1) := Aside0.mk (by have := World.block_lt_of_cell? W _ (hb.below hB).h1; simp at this; omega)
  clear hw1 hm c1 c2 c3 hb hB
  have dr : ∀ {a : Addr} {v : Value}, w1.cell? a = some v → w1.drew.cell? a = some v := fun h => h
  have r0 : w1.cell? ⟨W.heap.size + 1, 0, none⟩ = some (.int .i64 0) := (blk_cell HR.out 0).trans rfl
  have r1 : w1.cell? ⟨W.heap.size + 1, 1, none⟩ = some (.int .i64 0) := (blk_cell HR.out 1).trans rfl
  have r2 : w1.cell? ⟨W.heap.size + 1, 2, none⟩ = some (.int .i64 0) := (blk_cell HR.out 2).trans rfl
  have r3 : w1.cell? ⟨W.heap.size + 1, 3, none⟩ = some (.int .i64 0) := (blk_cell HR.out 3).trans rfl
  have s0 := blk_frozen HR.out 0
  have s1 := blk_frozen HR.out 1
  have s2 := blk_frozen HR.out 2
  have s3 := blk_frozen HR.out 3
  go_still_tail 19, (by kernel_rfl)
  still_call (over_walk _ _ p.f3 _ _ (dr p3))
  repeat still_step
  still_call (over_walk _ _ p.f3 _ _ (dr p3))
  repeat still_step
  still_call (over_walk _ _ p.f3 _ _ (dr p3))
  repeat still_step
  refine wpStill_nil ?_
  change wpList _ _ _ _ _ w1.drew
  have HD0 := Aside0.mk (blk_drew HR.out)
  have HD1 := Aside0.mk (below_drew1 HB1.out)
  clear HR HB1 d1 d2 d3 p0 p1 p2 p3 r0 r1 r2 r3 s0 s1 s2 s3 dr
  generalize w1.drew = w2 at HD0 HD1 ⊢
  have r0 := (blk_cell HD0.out 0).trans rfl
  have r1 := (blk_cell HD0.out 1).trans rfl
  have r2 := (blk_cell HD0.out 2).trans rfl
  have r3 := (blk_cell HD0.out 3).trans rfl
  have s0 := blk_frozen HD0.out 0
  have s1 := blk_frozen HD0.out 1
  have s2 := blk_frozen HD0.out 2
  have s3 := blk_frozen HD0.out 3
  go_wp2
  refine bodyPost_ret (results_cell_row rfl _ _ (W.heap.size + 1) 36 _ (0, 0) _ rfl (pix_block HD0.out (flatP o.f1 o.f2 o.f3 p)) Try.underlying36 rfl (by kernel_rfl)) rfl ⟨rfl, ?_⟩
  exact below_set (below_set (below_set (below_set HD1.out (by simp) _) (by simp) _) (by simp) _) (by simp) _
end Go.Proofs.Ytoifpgkfpdeglaa.X
namespace Go.Proofs.Ytoifpgkfpdeglaa.X
open Go.RowKit Go.Proofs.YtoifpgkfpdeglaaW.PrintWords Go.Proofs.YtoifpgkfpdeglaaW.PrintLast Go.Proofs.YtoifpgkfpdeglaaW.PrintMore
set_option linter.unusedVariables false
set_option linter.unusedSimpArgs false
theorem places_made (f1 f2 : Fn) (c1 c2 : Array Value) (w : World) : Calls Try.prog 62 #[.func f1 #[] c1, .func f2 #[] c2] w fun e w' => ∃ p1 p2, e = .returned (.func (.func 85) #[] #[.pointer (some p1), .pointer (some p2)]) ∧ w'.cell? p1 = some (.func f1 #[] c1) ∧ w'.cell? p2 = some (.func f2 #[] c2) ∧ Below w.heap.size w w' := by
  go_enter Try.func62, Try.ntmps62
  go_wp2
  go_ret
  have hm := made2 (W := w) (O1 := .cells #[.func f1 #[] c1] 88) (O2 := .cells #[.func f2 #[] c2] 89) (Below.refl _ _)
  exact ⟨_, _, rfl, (blk_cell hm.1 0).trans rfl, (blk_cell hm.2 0).trans rfl, below_two (Below.refl _ _) _ _⟩
theorem colours_made (f1 : Fn) (c1 : Array Value) (w : World) : Calls Try.prog 68 #[.func f1 #[] c1] w fun e w' => ∃ p1, e = .returned (.func (.func 87) #[] #[.pointer (some p1)]) ∧ w'.cell? p1 = some (.func f1 #[] c1) ∧ Below w.heap.size w w' := by
  go_enter Try.func68, Try.ntmps68
  go_wp2
  go_ret
  exact ⟨_, rfl, (blk_cell (blk_new w _) 0).trans rfl, below_alloc (Below.refl _ _) _⟩
def outM (o : Op) (wd hg : Nat) (l : List Pix) : Nat × Nat × List Pix × Bool := if hasM o wd hg then (wideM o wd hg, highM o wd hg, picM o wd hg l, true) else (0, 0, [], false)
def anyDom (_ _ : Nat) : Prop := True
def hasDom (o : Op) (wd hg : Nat) : Prop := o.f1 + o.f3 ≤ wd ∧ o.f2 + o.f4 ≤ hg
set_option maxHeartbeats 2000000 in
set_option maxRecDepth 100000 in
theorem moves_crop {w : World} {b : Nat} {o : Op} (hb : OpBox w b o) {pc : Addr} {fv : Value} (hp : w.cell? pc = some fv) (ho : OkO o) (h1 : o.f0 = 1) (hM : Moves w fv (hasDom o) (fun wd hg l => (wideM o wd hg, highM o wd hg, picM o wd hg l, true))) :
    Moves w (.func (.func 84) #[] #[.pointer (some ⟨b, 0, none⟩), .pointer (some pc)]) anyDom (outM o) := by
  refine ⟨_, _, rfl, enter_any Try.func84 rfl rfl, fun W hB wd hg A c l hP _ => ?_⟩
  obtain ⟨fn, caps, rfl, henter, hcall⟩ := hM
  have HO := fun O1 O2 => ((hb.below hB).made O1).made O2
  have c1 := fun O1 O2 => (HO O1 O2).h1
  have c2 := fun O1 O2 => (HO O1 O2).h2
  have c3 := fun O1 O2 => (HO O1 O2).h3
  have c4 := fun O1 O2 => (HO O1 O2).h4
  have gp : ∀ O1 O2, ((W.alloc O1).alloc O2).cell? pc = some (.func (.func fn) #[] caps) := fun O1 O2 => pw_cell_below (below_two (Below.refl _ _) O1 O2) (pw_cell_below hB hp)
  have hbd : (0 ≤ o.f1 ∧ o.f1 ≤ 5) ∧ (0 ≤ o.f2 ∧ o.f2 ≤ 5) ∧ (1 ≤ o.f3 ∧ o.f3 ≤ 6) ∧ (1 ≤ o.f4 ∧ o.f4 ≤ 6) := by
    rcases ho with ⟨_, h⟩ | ⟨h, _⟩ | ⟨h, _⟩ | ⟨h, _⟩
    · exact h
    · omega
    · omega
    · omega
  obtain ⟨b1, b2, b3, b4⟩ := hbd
  have HC := Aside0.mk hcall
  have HB := Aside0.mk hB
  have HP := Aside0.mk hP
  have HOUT : Aside0 (outM o wd hg l = if o.f1 + o.f3 ≤ wd ∧ o.f2 + o.f4 ≤ hg then (wideM o wd hg, highM o wd hg, picM o wd hg l, true) else (0, 0, [], false)) := Aside0.mk (by unfold outM hasM; rw [if_pos h1]; simp)
  have w1 := hP.w1
  have w2 := hP.h1
  clear HO hcall hB hP hb hp ho
  show Calls Try.prog 84 #[.agg #[.int .i64 wd, .int .i64 hg, .slice A l.length c], .pointer (some ⟨b, 0, none⟩), .pointer (some pc)] W _
  by_cases k1 : o.f1 + o.f3 > wd
  · rw [HOUT.out, if_neg (by omega)]
    go_enter Try.func84, Try.ntmps84
    go_wp2
    refine bodyPost_ret (results_ct rfl _ _ (W.heap.size + 1) 25 #[.int .i64 0, .int .i64 0, .slice none 0 0] (0, 0) _ rfl (made2 (Below.refl _ _)).2 Try.underlying25 rfl (by kernel_rfl)) rfl ⟨_, rfl, Kd.R_nil _ _ _ _ _, below_two (Below.refl _ _) _ _⟩
  · by_cases k2 : o.f2 + o.f4 > hg
    · rw [HOUT.out, if_neg (by omega)]
      go_enter Try.func84, Try.ntmps84
      go_wp2
      refine bodyPost_ret (results_ct rfl _ _ (W.heap.size + 1) 25 #[.int .i64 0, .int .i64 0, .slice none 0 0] (0, 0) _ rfl (made2 (Below.refl _ _)).2 Try.underlying25 rfl (by kernel_rfl)) rfl ⟨_, rfl, Kd.R_nil _ _ _ _ _, below_two (Below.refl _ _) _ _⟩
    · rw [HOUT.out, if_pos (by omega)]
      go_enter Try.func84, Try.ntmps84
      go_wp2_with (refine (HC.out _ (below_two HB.out _ _) wd hg A c l (HP.out.below (below_two (Below.refl _ _) _ _)) ⟨by omega, by omega⟩).mono ?_; rintro e w2 ⟨v, rfl, hR, hb2⟩; obtain ⟨A', c', rfl⟩ := Kd.R_slice hR; have BR2 : Aside0 (ResBlk w2 (W.heap.size + 1)) := Aside0.mk (made2 hb2).2; have r0 := (blk_cell BR2.out 0).trans rfl; have r1 := (blk_cell BR2.out 1).trans rfl; have r2 := (blk_cell BR2.out 2).trans rfl; have s0 := blk_frozen BR2.out 0; have s1 := blk_frozen BR2.out 1; have s2 := blk_frozen BR2.out 2; have HR := Aside0.mk hR; have HB2 := Aside0.mk (below_made2 hb2); clear hb2 hR)
      refine bodyPost_ret (results_ct rfl _ _ (W.heap.size + 1) 25 _ (0, 0) _ rfl (ras_block BR2.out _ _ _) Try.underlying25 rfl (by kernel_rfl)) rfl ⟨_, rfl, R_ret HR.out (by simp; omega) (by simp) _ _ _, ?_⟩
      exact below_set (below_set (below_set HB2.out (by simp) _) (by simp) _) (by simp) _
theorem box_made {w W : World} {o : Op} (h : Below (w.alloc (.cells #[.int .i64 o.f0, .int .i64 o.f1, .int .i64 o.f2, .int .i64 o.f3, .int .i64 o.f4] 27)).heap.size (w.alloc (.cells #[.int .i64 o.f0, .int .i64 o.f1, .int .i64 o.f2, .int .i64 o.f3, .int .i64 o.f4] 27)) W) : OpBox W w.heap.size o :=
  have k := blk_keep (blk_new w _) h
  ⟨(blk_cell k 0).trans rfl, (blk_cell k 1).trans rfl, (blk_cell k 2).trans rfl, (blk_cell k 3).trans rfl, (blk_cell k 4).trans rfl⟩
def Makes (o : Op) (w : World) (e : Ending) (w' : World) : Prop := ∃ f1 c1, e = .returned (.func f1 #[] c1) ∧ Moves w' (.func f1 #[] c1) anyDom (outM o) ∧ Below w.heap.size w w'
set_option maxHeartbeats 2000000 in
set_option maxRecDepth 100000 in
theorem crop_made {o : Op} (ho : OkO o) (h1 : o.f0 = 1) (w : World) : Calls Try.prog 61 #[.agg #[.int .i64 o.f0, .int .i64 o.f1, .int .i64 o.f2, .int .i64 o.f3, .int .i64 o.f4]] w (Makes o w) := by
  have hbd : (0 ≤ o.f1 ∧ o.f1 ≤ 5) ∧ (0 ≤ o.f2 ∧ o.f2 ≤ 5) ∧ (1 ≤ o.f3 ∧ o.f3 ≤ 6) ∧ (1 ≤ o.f4 ∧ o.f4 ≤ 6) := by
    rcases ho with ⟨_, h⟩ | ⟨h, _⟩ | ⟨h, _⟩ | ⟨h, _⟩
    · exact h
    · omega
    · omega
    · omega
  have HBD := Aside0.mk hbd
  have HO := Aside0.mk ho
  have H1 := Aside0.mk h1
  clear hbd ho h1
  go_enter Try.func61, Try.ntmps61
  go_wp2_with (go_at_call 62; refine (places_made _ _ _ _ _).mono ?_; rintro e w1 ⟨p1, p2, rfl, k1, k2, hb1⟩; have HOB := Aside0.mk (box_made hb1); have HK1 := Aside0.mk k1; have HK2 := Aside0.mk k2; have HB1 := Aside0.mk (below_made hb1); clear hb1 k1 k2)
  go_ret
  have hd := below_alloc (Below.refl w1.heap.size w1) (.cells #[.func (.func 85) #[] #[.pointer (some p1), .pointer (some p2)]] 67)
  refine ⟨_, _, rfl, moves_crop (HOB.out.below hd) ((blk_cell (blk_new w1 _) 0).trans rfl) HO.out H1.out ?_, HB1.out.trans (hd.mono HB1.out.size)⟩
  refine (moves_places (pw_cell_below hd HK1.out) (pw_cell_below hd HK2.out) (hasDom o) (fun _ _ => o.f3.toNat) (fun _ _ => o.f4.toNat) (fun _ _ x y => o.f1.toNat + x) (fun _ _ x y => o.f2.toNat + y) ?_).imp ?_
  · intro wd hg hdm a1 a2 a3 a4
    obtain ⟨b1, b2, b3, b4⟩ := HBD.out
    refine ⟨size_crop (HOB.out.below hd) (by omega) (by omega) wd hg, from_crop (HOB.out.below hd) b1 b2 wd hg _ _ (by omega) (by omega), by omega, fun x y hx hy => ?_⟩
    have := hdm.1
    have := hdm.2
    omega
  · intro wd hg l a1 a2 a3 a4 hdm
    refine ⟨hdm, ?_⟩
    have h1 := H1.out
    have e1 : wideM o wd hg = o.f3.toNat := by unfold wideM; rw [if_pos h1]
    have e2 : highM o wd hg = o.f4.toNat := by unfold highM; rw [if_pos h1]
    unfold placesG picM
    rw [e1, e2]
    have : colM o wd hg l = fun x y => pix l wd (o.f1.toNat + x) (o.f2.toNat + y) := by
      funext x y
      unfold colM
      rw [if_pos h1]
    rw [this]
set_option maxHeartbeats 2000000 in
set_option maxRecDepth 100000 in
theorem size_made {o : Op} (b1 : 1 ≤ o.f1 ∧ o.f1 ≤ 6) (b2 : 1 ≤ o.f2 ∧ o.f2 ≤ 6) (h1 : o.f0 = 7) (w : World) : Calls Try.prog 71 #[.agg #[.int .i64 o.f0, .int .i64 o.f1, .int .i64 o.f2, .int .i64 o.f3, .int .i64 o.f4]] w (Makes o w) := by
  have H1 := Aside0.mk h1
  clear h1
  go_enter Try.func71, Try.ntmps71
  go_wp2_with (go_at_call 62; refine (places_made _ _ _ _ _).mono ?_; rintro e w1 ⟨p1, p2, rfl, k1, k2, hb1⟩; have HOB := Aside0.mk (box_made hb1); have HK1 := Aside0.mk k1; have HK2 := Aside0.mk k2; have HB1 := Aside0.mk (below_made hb1); clear hb1 k1 k2)
  go_ret
  refine ⟨_, _, rfl, ?_, HB1.out⟩
  refine (moves_places HK1.out HK2.out anyDom (fun _ _ => o.f1.toNat) (fun _ _ => o.f2.toNat) (fun wd _ x y => (2 * x + 1) * wd / (2 * o.f1.toNat)) (fun _ hg x y => (2 * y + 1) * hg / (2 * o.f2.toNat)) ?_).imp ?_
  · intro wd hg _ a1 a2 a3 a4
    exact ⟨size_size HOB.out (by omega) (by omega) wd hg, from_size HOB.out b1 b2 wd hg a2 a4, by omega, fun x y hx hy => ⟨scale_lt hx (by omega), scale_lt hy (by omega)⟩⟩
  · intro wd hg l a1 a2 a3 a4 _
    refine ⟨trivial, ?_⟩
    have h1 := H1.out
    have e0 : hasM o wd hg = true := by unfold hasM; rw [if_neg (by omega)]
    have e1 : wideM o wd hg = o.f1.toNat := by unfold wideM; simp [h1]
    have e2 : highM o wd hg = o.f2.toNat := by unfold highM; simp [h1]
    unfold outM placesG picM
    rw [e0, e1, e2, if_pos rfl]
    have : colM o wd hg l = fun x y => pix l wd ((2 * x + 1) * wd / (2 * o.f1.toNat)) ((2 * y + 1) * hg / (2 * o.f2.toNat)) := by
      funext x y
      unfold colM
      simp [h1]
    rw [this]
set_option maxHeartbeats 2000000 in
set_option maxRecDepth 100000 in
theorem flat_made {o : Op} (h1 : o.f0 = 8) (w : World) : Calls Try.prog 72 #[.agg #[.int .i64 o.f0, .int .i64 o.f1, .int .i64 o.f2, .int .i64 o.f3, .int .i64 o.f4]] w (Makes o w) := by
  have H1 := Aside0.mk h1
  clear h1
  go_enter Try.func72, Try.ntmps72
  go_wp2_with (go_at_call 68; refine (colours_made _ _ _).mono ?_; rintro e w1 ⟨p1, rfl, k1, hb1⟩; have HOB := Aside0.mk (box_made hb1); have HK1 := Aside0.mk k1; have HB1 := Aside0.mk (below_made hb1); clear hb1 k1)
  go_ret
  refine ⟨_, _, rfl, ?_, HB1.out⟩
  refine (moves_colours HK1.out (flatP o.f1 o.f2 o.f3) (pixs_flat HOB.out) anyDom).imp ?_
  intro wd hg l a1 a2 a3 a4 _
  refine ⟨trivial, ?_⟩
  have h1 := H1.out
  have e0 : hasM o wd hg = true := by unfold hasM; rw [if_neg (by omega)]
  have e1 : wideM o wd hg = wd := by unfold wideM; simp [h1]
  have e2 : highM o wd hg = hg := by unfold highM; simp [h1]
  unfold outM coloursG picM
  rw [e0, e1, e2, if_pos rfl]
  have : colM o wd hg l = fun x y => flatP o.f1 o.f2 o.f3 (pix l wd x y) := by
    funext x y
    unfold colM
    simp [h1]
  rw [this]
theorem out_plain {o : Op} {k : Int} (h1 : o.f0 = k) (hk : 2 ≤ k ∧ k ≤ 6) (wd hg : Nat) (l : List Pix) : outM o wd hg l = (wideM o wd hg, highM o wd hg, picM o wd hg l, true) := by
  have e0 : hasM o wd hg = true := by unfold hasM; rw [if_neg (by omega)]
  unfold outM
  rw [e0, if_pos rfl]
theorem moves_flip {w w1 : World} {o : Op} {p1 p2 : Addr} {f2 : Fn} {X Y : Nat → Nat → Nat → Nat → Nat} (hb : Below w.heap.size w w1) (k1 : w1.cell? p1 = some (.func (.func 63) #[] #[])) (k2 : w1.cell? p2 = some (.func f2 #[] #[]))
    (hF : ∀ wd hg, wd ≤ 6 → hg ≤ 6 → Froms w1 (.func f2 #[] #[]) wd hg wd hg (X wd hg) (Y wd hg)) (hs : ∀ wd hg x y, x < wd → y < hg → X wd hg x y < wd ∧ Y wd hg x y < hg) (ho : ∀ wd hg l, outM o wd hg l = placesG (fun a _ => a) (fun _ b => b) X Y wd hg l) :
    Makes o w (.returned (.func (.func 85) #[] #[.pointer (some p1), .pointer (some p2)])) w1 :=
  ⟨_, _, rfl, (moves_places k1 k2 anyDom (fun a _ => a) (fun _ b => b) X Y (fun wd hg _ a1 a2 a3 a4 => ⟨sizes_same w1 wd hg, hF wd hg a2 a4, ⟨a1, a2, a3, a4⟩, hs wd hg⟩)).imp (fun wd hg l _ _ _ _ _ => ⟨trivial, (ho wd hg l).symm⟩), hb⟩
theorem plain2 {o : Op} (h1 : o.f0 = 2) (wd hg : Nat) (l : List Pix) : outM o wd hg l = placesG (fun a _ => a) (fun _ b => b) (fun wd _ x y => wd - 1 - x) (fun _ _ x y => y) wd hg l := by
    rw [out_plain h1 (by omega)]
    have e1 : wideM o wd hg = wd := by unfold wideM; simp [h1]
    have e2 : highM o wd hg = hg := by unfold highM; simp [h1]
    have e3 : colM o wd hg l = fun x y => pix l wd (wd - 1 - x) y := by
      funext x y
      unfold colM
      simp [h1]
    unfold placesG picM
    rw [e1, e2, e3]
theorem plain3 {o : Op} (h1 : o.f0 = 3) (wd hg : Nat) (l : List Pix) : outM o wd hg l = placesG (fun a _ => a) (fun _ b => b) (fun _ _ x y => x) (fun _ hg x y => hg - 1 - y) wd hg l := by
    rw [out_plain h1 (by omega)]
    have e1 : wideM o wd hg = wd := by unfold wideM; simp [h1]
    have e2 : highM o wd hg = hg := by unfold highM; simp [h1]
    have e3 : colM o wd hg l = fun x y => pix l wd x (hg - 1 - y) := by
      funext x y
      unfold colM
      simp [h1]
    unfold placesG picM
    rw [e1, e2, e3]
theorem plain4 {o : Op} (h1 : o.f0 = 4) (wd hg : Nat) (l : List Pix) : outM o wd hg l = placesG (fun _ b => b) (fun a _ => a) (fun _ _ x y => y) (fun _ hg x y => hg - 1 - x) wd hg l := by
    rw [out_plain h1 (by omega)]
    have e1 : wideM o wd hg = hg := by unfold wideM; simp [h1]
    have e2 : highM o wd hg = wd := by unfold highM; simp [h1]
    have e3 : colM o wd hg l = fun x y => pix l wd y (hg - 1 - x) := by
      funext x y
      unfold colM
      simp [h1]
    unfold placesG picM
    rw [e1, e2, e3]
theorem plain5 {o : Op} (h1 : o.f0 = 5) (wd hg : Nat) (l : List Pix) : outM o wd hg l = coloursG (fun wd _ l x y => grayP (pix l wd x y)) wd hg l := by
    rw [out_plain h1 (by omega)]
    have e1 : wideM o wd hg = wd := by unfold wideM; simp [h1]
    have e2 : highM o wd hg = hg := by unfold highM; simp [h1]
    have e3 : colM o wd hg l = fun x y => grayP (pix l wd x y) := by
      funext x y
      unfold colM
      simp [h1]
    unfold coloursG picM
    rw [e1, e2, e3]
theorem plain6 {o : Op} (h1 : o.f0 = 6) (wd hg : Nat) (l : List Pix) : outM o wd hg l = coloursG (fun wd hg l x y => blurP l wd hg x y) wd hg l := by
    rw [out_plain h1 (by omega)]
    have e1 : wideM o wd hg = wd := by unfold wideM; simp [h1]
    have e2 : highM o wd hg = hg := by unfold highM; simp [h1]
    have e3 : colM o wd hg l = fun x y => blurP l wd hg x y := by
      funext x y
      unfold colM
      simp [h1]
    unfold coloursG picM
    rw [e1, e2, e3]
set_option maxHeartbeats 4000000 in
set_option maxRecDepth 100000 in
theorem moveOf_walk {o : Op} (ho : OkO o) (w : World) : Calls Try.prog 37 #[.agg #[.int .i64 o.f0, .int .i64 o.f1, .int .i64 o.f2, .int .i64 o.f3, .int .i64 o.f4]] w (Makes o w) := by
  by_cases h1 : o.f0 = 1
  · have HC : ∀ W, Calls Try.prog 61 #[.agg #[.int .i64 1, .int .i64 o.f1, .int .i64 o.f2, .int .i64 o.f3, .int .i64 o.f4]] W (Makes o W) := fun W => by have := crop_made ho h1 W; rwa [h1] at this
    clear ho
    go_enter Try.func37, Try.ntmps37
    go_wp2_with (go_at_call 61; refine (HC _).mono ?_; rintro e w1 ⟨f1, c1, rfl, hM, hb⟩; have HM := Aside0.mk hM; have HB1 := Aside0.mk (below_made hb); clear hM hb)
    go_ret
    exact ⟨_, _, rfl, HM.out, HB1.out⟩
  have g1 := h1
  clear h1
  by_cases h1 : o.f0 = 2
  · clear ho
    have H1 := Aside0.mk h1
    go_enter Try.func37, Try.ntmps37
    go_wp2_with (go_at_call 62; refine (places_made _ _ _ _ _).mono ?_; rintro e w1 ⟨p1, p2, rfl, k1, k2, hb⟩; have HK1 := Aside0.mk k1; have HK2 := Aside0.mk k2; have HB1 := Aside0.mk (below_made hb); clear k1 k2 hb)
    go_ret
    exact moves_flip HB1.out HK1.out HK2.out (X := fun wd _ x y => wd - 1 - x) (Y := fun _ _ x y => y) (fun wd hg hw hh => from_flipX w1 wd hg hw) (fun wd hg x y hx hy => by omega) (plain2 H1.out)
  have g2 := h1
  clear h1
  by_cases h1 : o.f0 = 3
  · clear ho
    have H1 := Aside0.mk h1
    go_enter Try.func37, Try.ntmps37
    go_wp2_with (go_at_call 62; refine (places_made _ _ _ _ _).mono ?_; rintro e w1 ⟨p1, p2, rfl, k1, k2, hb⟩; have HK1 := Aside0.mk k1; have HK2 := Aside0.mk k2; have HB1 := Aside0.mk (below_made hb); clear k1 k2 hb)
    go_ret
    exact moves_flip HB1.out HK1.out HK2.out (X := fun _ _ x y => x) (Y := fun _ hg x y => hg - 1 - y) (fun wd hg hw hh => from_flipY w1 wd hg hh) (fun wd hg x y hx hy => by omega) (plain3 H1.out)
  have g3 := h1
  clear h1
  by_cases h1 : o.f0 = 4
  · clear ho
    have H1 := Aside0.mk h1
    go_enter Try.func37, Try.ntmps37
    go_wp2_with (go_at_call 62; refine (places_made _ _ _ _ _).mono ?_; rintro e w1 ⟨p1, p2, rfl, k1, k2, hb⟩; have HK1 := Aside0.mk k1; have HK2 := Aside0.mk k2; have HB1 := Aside0.mk (below_made hb); clear k1 k2 hb)
    go_ret
    exact ⟨_, _, rfl, (moves_places HK1.out HK2.out anyDom (fun _ b => b) (fun a _ => a) (fun _ _ x y => y) (fun _ hg x y => hg - 1 - x) (fun wd hg _ a1 a2 a3 a4 => ⟨size_turned w1 wd hg, from_turn w1 wd hg a4, ⟨a3, a4, a1, a2⟩, fun x y hx hy => by omega⟩)).imp (fun wd hg l _ _ _ _ _ => ⟨trivial, (plain4 H1.out wd hg l).symm⟩), HB1.out⟩
  have g4 := h1
  clear h1
  by_cases h1 : o.f0 = 5
  · clear ho
    have H1 := Aside0.mk h1
    go_enter Try.func37, Try.ntmps37
    go_wp2_with (go_at_call 68; refine (colours_made _ _ _).mono ?_; rintro e w1 ⟨p1, rfl, k1, hb⟩; have HK1 := Aside0.mk k1; have HB1 := Aside0.mk (below_made hb); clear k1 hb)
    go_ret
    exact ⟨_, _, rfl, (moves_colours HK1.out grayP (pixs_gray w1) anyDom).imp (fun wd hg l _ _ _ _ _ => ⟨trivial, (plain5 H1.out wd hg l).symm⟩), HB1.out⟩
  have g5 := h1
  clear h1
  by_cases h1 : o.f0 = 6
  · clear ho
    have H1 := Aside0.mk h1
    go_enter Try.func37, Try.ntmps37
    go_wp2
    go_ret
    exact ⟨_, _, rfl, (moves_blur _ anyDom).imp (fun wd hg l _ _ _ _ _ => ⟨trivial, (plain6 H1.out wd hg l).symm⟩), below_alloc (Below.refl _ _) _⟩
  have g9 := h1
  clear h1
  have h78 : (o.f0 = 7 ∧ (1 ≤ o.f1 ∧ o.f1 ≤ 6) ∧ (1 ≤ o.f2 ∧ o.f2 ≤ 6)) ∨ o.f0 = 8 := by
    rcases ho with ⟨h, _⟩ | ⟨h, _⟩ | ⟨h, a, b, _⟩ | ⟨h, _⟩
    · omega
    · omega
    · exact Or.inl ⟨h, a, b⟩
    · exact Or.inr h
  rcases h78 with ⟨h1, b1, b2⟩ | h1
  · have HC : ∀ W, Calls Try.prog 71 #[.agg #[.int .i64 7, .int .i64 o.f1, .int .i64 o.f2, .int .i64 o.f3, .int .i64 o.f4]] W (Makes o W) := fun W => by have := size_made b1 b2 h1 W; rwa [h1] at this
    clear ho b1 b2
    go_enter Try.func37, Try.ntmps37
    go_wp2_with (go_at_call 71; refine (HC _).mono ?_; rintro e w1 ⟨f1, c1, rfl, hM, hb⟩; have HM := Aside0.mk hM; have HB1 := Aside0.mk (below_made hb); clear hM hb)
    go_ret
    exact ⟨_, _, rfl, HM.out, HB1.out⟩
  · have HC : ∀ W, Calls Try.prog 72 #[.agg #[.int .i64 8, .int .i64 o.f1, .int .i64 o.f2, .int .i64 o.f3, .int .i64 o.f4]] W (Makes o W) := fun W => by have := flat_made h1 W; rwa [h1] at this
    clear ho
    go_enter Try.func37, Try.ntmps37
    go_wp2_with (go_at_call 72; refine (HC _).mono ?_; rintro e w1 ⟨f1, c1, rfl, hM, hb⟩; have HM := Aside0.mk hM; have HB1 := Aside0.mk (below_made hb); clear hM hb)
    go_ret
    exact ⟨_, _, rfl, HM.out, HB1.out⟩
end Go.Proofs.Ytoifpgkfpdeglaa.X
namespace Go.Proofs.Ytoifpgkfpdeglaa.Pl
open Go.RowKit Go.Proofs.YtoifpgkfpdeglaaW.PrintWords
theorem wrap_id {x : Int} (h0 : -9223372036854775808 ≤ x) (h1 : x ≤ 9223372036854775807) : wrap64 x = x := by
  unfold wrap64; omega
theorem wrap_succ {i : Nat} (h : i < 9223372036854775807) : wrap64 ((i : Int) + 1) = ((i + 1 : Nat) : Int) := by
  unfold wrap64; omega
theorem ev_succ {α : Type} {g : Nat → Option α} {r : α} (h : Ev (fun k => g (k + 1)) r) : Ev g r := by
  obtain ⟨K, h⟩ := h
  refine ⟨K + 1, fun n hn => ?_⟩
  obtain ⟨m, rfl⟩ : ∃ m, n = m + 1 := ⟨n - 1, by omega⟩
  exact h m (by omega)
theorem getD_mem {α : Type} (l : List α) (z : α) (i : Nat) (h : i < l.length) : l.getD i z ∈ l := by
  rw [List.getD_eq_getElem?_getD, List.getElem?_eq_getElem h]; exact List.getElem_mem h
theorem ev_all (n : Nat) (g : Nat → Int → Option Bool) (hstep : ∀ i, i < n → Ev (fun k => g k ((i + 1 : Nat) : Int)) true → Ev (fun k => g k (i : Int)) true) (hend : ∀ k, g (k + 1) (n : Int) = some true) : Ev (fun k => g k 0) true := by
  have : ∀ d j, j + d = n → Ev (fun k => g k (j : Int)) true := by
    intro d
    induction d with
    | zero => intro j hj; have : j = n := by omega
              subst this; exact ev_succ ⟨0, fun k _ => hend k⟩
    | succ d ih => intro j hj; exact hstep j (by omega) (ih (j + 1) (by omega))
  exact this n 0 (by omega)
theorem ev_allR (n : Nat) (p : Nat → Bool) (b : Bool) (g : Nat → Int → Option Bool)
    (hyes : ∀ i, i < n → p i = true → ∀ r, Ev (fun k => g k ((i + 1 : Nat) : Int)) r → Ev (fun k => g k (i : Int)) r)
    (hno : ∀ i, i < n → p i = false → Ev (fun k => g k (i : Int)) false)
    (hend : Ev (fun k => g k (n : Int)) b) : Ev (fun k => g k 0) ((List.range n).all p && b) := by
  have key : ∀ d i, i + d = n → Ev (fun k => g k (i : Int)) (((List.range' i d).all p) && b) := by
    intro d
    induction d with
    | zero => intro i hi; have : i = n := by omega
              subst this; simpa using hend
    | succ d ih =>
      intro i hi
      have := ih (i + 1) (by omega)
      rw [List.range'_succ, List.all_cons]
      cases hp : p i with
      | true => simpa using hyes i (by omega) hp _ this
      | false => simpa using hno i (by omega) hp
  have := key n 0 (by omega)
  rwa [← List.range_eq_range'] at this
theorem Ev.at_ {α : Type} {g : Nat → Option α} {r : α} (h : Ev g r) : ∃ K, ∀ k, K ≤ k → g k = some r := h
def Tot {α : Type} (g : Nat → Option α) (post : α → Prop) : Prop := ∃ r, Ev g r ∧ post r
theorem Tot.ret {α : Type} {post : α → Prop} {r : α} (h : post r) : Tot (fun _ => some r) post := ⟨r, Ev.now r, h⟩
theorem Tot.mono {α : Type} {g : Nat → Option α} {P Q : α → Prop} (h : Tot g P) (hi : ∀ r, P r → Q r) : Tot g Q := by
  obtain ⟨r, h, hp⟩ := h
  exact ⟨r, h, hi r hp⟩
theorem Tot.bind {α β : Type} {g : Nat → Option α} {f : Nat → α → Option β} {P : α → Prop} {Q : β → Prop} (h : Tot g P) (hf : ∀ a, P a → Tot (fun k => f k a) Q) : Tot (fun k => (g k).bind (f k)) Q := by
  obtain ⟨a, h, hp⟩ := h
  obtain ⟨r, h2, hq⟩ := hf a hp
  exact ⟨r, Ev.bind h h2, hq⟩
theorem Tot.some_bind {α β : Type} {f : Nat → α → Option β} {Q : β → Prop} {a : α} (hf : Tot (fun k => f k a) Q) : Tot (fun k => (some a).bind (f k)) Q := hf
theorem Tot.ite {α : Type} {c : Prop} [Decidable c] {f g : Nat → Option α} {Q : α → Prop} (h1 : c → Tot f Q) (h2 : ¬ c → Tot g Q) : Tot (fun k => if c then f k else g k) Q := by
  by_cases h : c
  · simpa [h] using h1 h
  · simpa [h] using h2 h
theorem Tot.pos {α : Type} {c : Prop} [Decidable c] {f g : Nat → Option α} {Q : α → Prop} (h : c) (h1 : Tot f Q) : Tot (fun k => if c then f k else g k) Q := by simpa [h] using h1
theorem Tot.succ {α : Type} {g : Nat → Option α} {Q : α → Prop} (h : Tot (fun k => g (k + 1)) Q) : Tot g Q := by
  obtain ⟨r, h, hp⟩ := h
  exact ⟨r, ev_succ h, hp⟩
theorem tot_ind {α σ : Type} (g : Nat → σ → Option α) (Inv : σ → Prop) (m : σ → Nat) (post : α → Prop)
    (h : ∀ s, Inv s → (∀ s', Inv s' → m s' < m s → Tot (fun k => g k s') post) → Tot (fun k => g k s) post) : ∀ s, Inv s → Tot (fun k => g k s) post := by
  have key : ∀ d s, m s < d → Inv s → Tot (fun k => g k s) post := by
    intro d
    induction d with
    | zero => intro s h; omega
    | succ d ih => intro s hd hs; exact h s hs (fun s' hs' hm => ih s' (by omega) hs')
  intro s hs
  exact key (m s + 1) s (by omega) hs
theorem Tot.rounds {g : Nat → Option Bool} (h : Tot g (fun b => b = true)) : ∃ k, g k = some true := by
  obtain ⟨r, h, rfl⟩ := h
  exact h.rounds
end Go.Proofs.Ytoifpgkfpdeglaa.Pl
namespace Go.Proofs.Ytoifpgkfpdeglaa.X
open Go.RowKit Go.Proofs.YtoifpgkfpdeglaaW.PrintWords Go.Proofs.Ytoifpgkfpdeglaa.Pl
set_option linter.unusedSimpArgs false
theorem l1In_some (a b c : Int) : spec_l1In.f a b c = some (decide (b ≤ a ∧ a ≤ c)) := by
  unfold spec_l1In.f
  by_cases h : b ≤ a <;> simp [h]
theorem within_some (a b c : Int) : impl_within.f a b c = some (decide (b ≤ a ∧ a ≤ c)) := by
  unfold impl_within.f
  by_cases h : b ≤ a <;> simp [h]
theorem sizeOk_some (a : Int) : impl_sizeOk.f a = some (decide (1 ≤ a ∧ a ≤ 6)) := by
  unfold impl_sizeOk.f
  by_cases h : 1 ≤ a <;> simp [h]
theorem partOk_some (a : Int) : impl_partOk.f a = some (decide (0 ≤ a ∧ a ≤ 255)) := by
  unfold impl_partOk.f
  by_cases h : 0 ≤ a <;> simp [h]
def opOkB (o a b c d : Int) : Bool :=
  if o = 1 then decide (0 ≤ a ∧ a ≤ 5) && (decide (0 ≤ b ∧ b ≤ 5) && (decide (1 ≤ c ∧ c ≤ 6) && decide (1 ≤ d ∧ d ≤ 6)))
  else if o = 7 then decide (1 ≤ a ∧ a ≤ 6) && (decide (1 ≤ b ∧ b ≤ 6) && (decide (c = 0) && decide (d = 0)))
  else if o = 8 then decide (0 ≤ a ∧ a ≤ 255) && (decide (0 ≤ b ∧ b ≤ 255) && (decide (0 ≤ c ∧ c ≤ 255) && decide (d = 0)))
  else decide (2 ≤ o ∧ o ≤ 6) && (decide (a = 0) && (decide (b = 0) && (decide (c = 0) && decide (d = 0))))
theorem spec_OpOk_some (o a b c d : Int) : spec_OpOk.f o a b c d = some (opOkB o a b c d) := by
  unfold spec_OpOk.f opOkB
  simp only [l1In_some, Option.bind_some]
  by_cases h1 : o = 1
  · simp only [h1, if_true]
    by_cases p : 0 ≤ a ∧ a ≤ 5 <;> by_cases q : 0 ≤ b ∧ b ≤ 5 <;> by_cases r : 1 ≤ c ∧ c ≤ 6 <;> simp [p, q, r]
  · simp only [h1, if_false]
    by_cases h7 : o = 7
    · simp only [h7, if_true]
      by_cases p : 1 ≤ a ∧ a ≤ 6 <;> by_cases q : 1 ≤ b ∧ b ≤ 6 <;> by_cases r : c = 0 <;> simp [p, q, r]; rfl
    · simp only [h7, if_false]
      by_cases h8 : o = 8
      · simp only [h8, if_true]
        by_cases p : 0 ≤ a ∧ a ≤ 255 <;> by_cases q : 0 ≤ b ∧ b ≤ 255 <;> by_cases r : 0 ≤ c ∧ c ≤ 255 <;> simp [p, q, r]; rfl
      · simp only [h8, if_false]
        by_cases p : 2 ≤ o ∧ o ≤ 6 <;> by_cases q : a = 0 <;> by_cases r : b = 0 <;> by_cases s : c = 0 <;> simp [p, q, r, s]; rfl
theorem impl_OpOk_some (k : Nat) (o a b c d : Int) : impl_OpOk.f (k + 1) o a b c d = some (opOkB o a b c d) := by
  unfold impl_OpOk.f opOkB
  simp only [impl_OpOk.j0, within_some, sizeOk_some, partOk_some, Option.bind_some]
  by_cases h1 : o = 1
  · simp only [h1, if_true]
    by_cases p : 0 ≤ a ∧ a ≤ 5 <;> by_cases q : 0 ≤ b ∧ b ≤ 5 <;> by_cases r : 1 ≤ c ∧ c ≤ 6 <;> simp [p, q, r]
  · simp only [h1, if_false]
    by_cases h2 : o = 2
    · subst h2; simp; rfl
    by_cases h3 : o = 3
    · subst h3; simp; rfl
    by_cases h4 : o = 4
    · subst h4; simp; rfl
    by_cases h5 : o = 5
    · subst h5; simp; rfl
    by_cases h6 : o = 6
    · subst h6; simp; rfl
    by_cases h7 : o = 7
    · subst h7
      simp only [show ¬ ((7 : Int) = 2) by decide, show ¬ ((7 : Int) = 3) by decide, show ¬ ((7 : Int) = 4) by decide, show ¬ ((7 : Int) = 5) by decide, if_false, if_true]
      by_cases p : 1 ≤ a ∧ a ≤ 6 <;> by_cases q : 1 ≤ b ∧ b ≤ 6 <;> by_cases r : c = 0 <;> simp [p, q, r]; rfl
    by_cases h8 : o = 8
    · subst h8
      simp only [show ¬ ((8 : Int) = 2) by decide, show ¬ ((8 : Int) = 3) by decide, show ¬ ((8 : Int) = 4) by decide, show ¬ ((8 : Int) = 5) by decide, show ¬ ((8 : Int) = 7) by decide, if_false, if_true]
      by_cases p : 0 ≤ a ∧ a ≤ 255 <;> by_cases q : 0 ≤ b ∧ b ≤ 255 <;> by_cases r : 0 ≤ c ∧ c ≤ 255 <;> simp [p, q, r]; rfl
    have h9 : ¬ (2 ≤ o ∧ o ≤ 6) := by omega
    have h6' : (o == 6) = false := by simpa using h6
    simp [h2, h3, h4, h5, h7, h8, h9, h6']
def okB (x : Op) : Bool := opOkB x.f0 x.f1 x.f2 x.f3 x.f4
def opAt (l : List Op) (i : Nat) : Op := rd_T27 l (i : Int)
def allOkB (l : List Op) : Bool := decide (l.length ≤ 5) && (List.range l.length).all fun i => okB (opAt l i)
theorem spec_l6All_ev (l : List Op) (hl : l.length ≤ 4611686018427387904) : Ev (fun k => spec_l6All.f k l) (allOkB l) := by
  have := ev_allR l.length (fun i => okB (opAt l i)) (decide ((l.length : Int) ≤ 5)) (fun k i => spec_l6All.l0 k l i) ?_ ?_ ?_
  · have e : allOkB l = ((List.range l.length).all (fun i => okB (opAt l i)) && decide ((l.length : Int) ≤ 5)) := by
      unfold allOkB
      rw [Bool.and_comm]
      congr 1
      simp only [decide_eq_decide]
      omega
    rw [e]
    exact this
  · intro i hi hp r h
    refine Ev.step (fun k => ?_) h
    have e := spec_OpOk_some (rd_T27 l (i : Int)).f0 (rd_T27 l (i : Int)).f1 (rd_T27 l (i : Int)).f2 (rd_T27 l (i : Int)).f3 (rd_T27 l (i : Int)).f4
    simp only [spec_l6All.l0]
    rw [if_pos (by omega), if_pos (by omega), e]
    simp only [Option.bind_some]
    rw [if_pos (show opOkB (rd_T27 l (i : Int)).f0 (rd_T27 l (i : Int)).f1 (rd_T27 l (i : Int)).f2 (rd_T27 l (i : Int)).f3 (rd_T27 l (i : Int)).f4 = true from hp), wrap_succ (by omega)]
  · intro i hi hp
    refine ev_succ ⟨0, fun k _ => ?_⟩
    have e := spec_OpOk_some (rd_T27 l (i : Int)).f0 (rd_T27 l (i : Int)).f1 (rd_T27 l (i : Int)).f2 (rd_T27 l (i : Int)).f3 (rd_T27 l (i : Int)).f4
    simp only [spec_l6All.l0]
    rw [if_pos (by omega), if_pos (by omega), e]
    simp only [Option.bind_some]
    rw [if_neg (show ¬ (opOkB (rd_T27 l (i : Int)).f0 (rd_T27 l (i : Int)).f1 (rd_T27 l (i : Int)).f2 (rd_T27 l (i : Int)).f3 (rd_T27 l (i : Int)).f4 = true) from by have hp2 : opOkB (rd_T27 l (i : Int)).f0 (rd_T27 l (i : Int)).f1 (rd_T27 l (i : Int)).f2 (rd_T27 l (i : Int)).f3 (rd_T27 l (i : Int)).f4 = false := hp; rw [hp2]; decide)]
  · refine ev_succ ⟨0, fun k _ => ?_⟩
    simp only [spec_l6All.l0]
    rw [if_neg (by omega)]
theorem impl_opsOk_ev (l : List Op) (hl : l.length ≤ 4611686018427387904) : Ev (fun k => impl_opsOk.f k l) (allOkB l) := by
  by_cases h5 : l.length ≤ 5
  · have := ev_allR l.length (fun i => okB (opAt l i)) true (fun k i => impl_opsOk.l0 k l (l.length : Int) i) ?_ ?_ ?_
    · have e : allOkB l = ((List.range l.length).all (fun i => okB (opAt l i)) && true) := by
        unfold allOkB
        simp [h5]
      rw [e]
      refine Ev.congr (fun k => ?_) this
      show impl_opsOk.f k l = _
      unfold impl_opsOk.f
      rw [if_neg (by omega)]
    · intro i hi hp r h
      obtain ⟨K, h⟩ := h
      refine ⟨K + 2, fun k hk => ?_⟩
      obtain ⟨k, rfl⟩ : ∃ m, k = m + 2 := ⟨k - 2, by omega⟩
      have e := impl_OpOk_some k (rd_T27 l (i : Int)).f0 (rd_T27 l (i : Int)).f1 (rd_T27 l (i : Int)).f2 (rd_T27 l (i : Int)).f3 (rd_T27 l (i : Int)).f4
      have e2 := h (k + 1) (by omega)
      dsimp only at e2 ⊢
      simp only [impl_opsOk.l0] at e2 ⊢
      rw [if_pos (by omega), if_pos (by omega), if_pos (by omega), e]
      simp only [Option.bind_some]
      rw [if_pos (show opOkB (rd_T27 l (i : Int)).f0 (rd_T27 l (i : Int)).f1 (rd_T27 l (i : Int)).f2 (rd_T27 l (i : Int)).f3 (rd_T27 l (i : Int)).f4 = true from hp), wrap_succ (by omega)]
      exact e2
    · intro i hi hp
      refine ev_succ (ev_succ ⟨0, fun k _ => ?_⟩)
      have e := impl_OpOk_some k (rd_T27 l (i : Int)).f0 (rd_T27 l (i : Int)).f1 (rd_T27 l (i : Int)).f2 (rd_T27 l (i : Int)).f3 (rd_T27 l (i : Int)).f4
      simp only [impl_opsOk.l0]
      rw [if_pos (by omega), if_pos (by omega), if_pos (by omega), e]
      simp only [Option.bind_some]
      rw [if_neg (show ¬ (opOkB (rd_T27 l (i : Int)).f0 (rd_T27 l (i : Int)).f1 (rd_T27 l (i : Int)).f2 (rd_T27 l (i : Int)).f3 (rd_T27 l (i : Int)).f4 = true) from by have hp2 : opOkB (rd_T27 l (i : Int)).f0 (rd_T27 l (i : Int)).f1 (rd_T27 l (i : Int)).f2 (rd_T27 l (i : Int)).f3 (rd_T27 l (i : Int)).f4 = false := hp; rw [hp2]; decide)]
    · refine ev_succ ⟨0, fun k _ => ?_⟩
      simp only [impl_opsOk.l0]
      rw [if_neg (by omega)]
  · have e : allOkB l = false := by
      unfold allOkB
      simp [h5]
    rw [e]
    refine ⟨0, fun k _ => ?_⟩
    show impl_opsOk.f k l = _
    unfold impl_opsOk.f
    rw [if_pos (by omega)]
def okPB (p : Pix) : Bool := decide (0 ≤ p.f0 ∧ p.f0 ≤ 255) && (decide (0 ≤ p.f1 ∧ p.f1 ≤ 255) && (decide (0 ≤ p.f2 ∧ p.f2 ≤ 255) && decide (0 ≤ p.f3 ∧ p.f3 ≤ 255)))
theorem okPB_iff (p : Pix) : okPB p = true ↔ OkP p := by unfold okPB OkP; simp [and_assoc]
theorem impl_PixOk_some (a b c d : Int) : impl_PixOk.f a b c d = some (okPB ⟨a, b, c, d⟩) := by
  unfold impl_PixOk.f okPB
  simp only [partOk_some, Option.bind_some]
  by_cases p : 0 ≤ a ∧ a ≤ 255 <;> by_cases q : 0 ≤ b ∧ b ≤ 255 <;> by_cases r : 0 ≤ c ∧ c ≤ 255 <;> simp [p, q, r]
theorem spec_PixOk_some (a b c d : Int) : spec_PixOk.f a b c d = some (okPB ⟨a, b, c, d⟩) := by
  unfold spec_PixOk.f okPB
  simp only [l1In_some, Option.bind_some]
  by_cases p : 0 ≤ a ∧ a ≤ 255 <;> by_cases q : 0 ≤ b ∧ b ≤ 255 <;> by_cases r : 0 ≤ c ∧ c ≤ 255 <;> simp [p, q, r]
def pAt (l : List Pix) (i : Nat) : Pix := rd_T36 l (i : Int)
def rasOkB (a b : Int) (l : List Pix) : Bool := decide (1 ≤ a ∧ a ≤ 6) && (decide (1 ≤ b ∧ b ≤ 6) && (decide ((l.length : Int) = a * b) && (List.range l.length).all fun i => okPB (pAt l i)))
theorem mul36 {a b : Int} (ha : 1 ≤ a ∧ a ≤ 6) (hb : 1 ≤ b ∧ b ≤ 6) : 1 ≤ a * b ∧ a * b ≤ 36 := by
  have h1 : (1 : Int) * 1 ≤ a * b := Int.mul_le_mul ha.1 hb.1 (by omega) (by omega)
  have h2 : a * b ≤ 6 * 6 := Int.mul_le_mul ha.2 hb.2 (by omega) (by omega)
  omega
theorem impl_RasOk_ev (a b : Int) (l : List Pix) : Ev (fun k => impl_RasOk.f k a b l) (rasOkB a b l) := by
  by_cases ha : 1 ≤ a ∧ a ≤ 6
  · by_cases hb : 1 ≤ b ∧ b ≤ 6
    · have hm := mul36 ha hb
      have hw : wrap64 (a * b) = a * b := wrap_id (by omega) (by omega)
      by_cases hl : (l.length : Int) = a * b
      · have := ev_allR l.length (fun i => okPB (pAt l i)) true (fun k i => impl_RasOk.l0 k l (l.length : Int) i) ?_ ?_ ?_
        · have e : rasOkB a b l = ((List.range l.length).all (fun i => okPB (pAt l i)) && true) := by
            unfold rasOkB
            simp [ha, hb, hl]
          rw [e]
          refine Ev.step (fun k => ?_) this
          unfold impl_RasOk.f
          simp only [sizeOk_some, ha, hb, and_self, decide_true, Option.bind_some, if_true, impl_RasOk.j0, hw, hl, bne_self_eq_false, Bool.false_eq_true, if_false]
        · intro i hi hp r h
          refine Ev.step (fun k => ?_) h
          simp only [impl_RasOk.l0]
          rw [if_pos (by omega), if_pos (by omega), if_pos (by omega), impl_PixOk_some]
          simp only [Option.bind_some]
          rw [if_pos (show okPB ⟨(rd_T36 l (i : Int)).f0, (rd_T36 l (i : Int)).f1, (rd_T36 l (i : Int)).f2, (rd_T36 l (i : Int)).f3⟩ = true from hp), wrap_succ (by omega)]
        · intro i hi hp
          refine ev_succ ⟨0, fun k _ => ?_⟩
          simp only [impl_RasOk.l0]
          rw [if_pos (by omega), if_pos (by omega), if_pos (by omega), impl_PixOk_some]
          simp only [Option.bind_some]
          rw [if_neg (show ¬ okPB ⟨(rd_T36 l (i : Int)).f0, (rd_T36 l (i : Int)).f1, (rd_T36 l (i : Int)).f2, (rd_T36 l (i : Int)).f3⟩ = true from by rw [show okPB ⟨(rd_T36 l (i : Int)).f0, (rd_T36 l (i : Int)).f1, (rd_T36 l (i : Int)).f2, (rd_T36 l (i : Int)).f3⟩ = false from hp]; decide)]
        · refine ev_succ ⟨0, fun k _ => ?_⟩
          simp only [impl_RasOk.l0]
          rw [if_neg (by omega)]
      · have e : rasOkB a b l = false := by unfold rasOkB; simp [hl]
        rw [e]
        refine ev_succ ⟨0, fun k _ => ?_⟩
        have hl' : ((l.length : Int) != a * b) = true := by simpa using hl
        unfold impl_RasOk.f
        simp only [sizeOk_some, ha, hb, and_self, decide_true, Option.bind_some, if_true, impl_RasOk.j0, hw, hl']
    · have e : rasOkB a b l = false := by unfold rasOkB; simp only [hb, decide_false, Bool.false_and, Bool.and_false]
      rw [e]
      refine ev_succ ⟨0, fun k _ => ?_⟩
      unfold impl_RasOk.f
      simp [sizeOk_some, ha, hb, impl_RasOk.j0]
  · have e : rasOkB a b l = false := by unfold rasOkB; simp only [ha, decide_false, Bool.false_and]
    rw [e]
    refine ev_succ ⟨0, fun k _ => ?_⟩
    unfold impl_RasOk.f
    simp only [sizeOk_some, ha, decide_false, Option.bind_some, impl_RasOk.j0, Bool.false_eq_true, if_false, if_true]
theorem spec_RasOk_ev (a b : Int) (l : List Pix) : Ev (fun k => spec_RasOk.f k a b l) (rasOkB a b l) := by
  by_cases ha : 1 ≤ a ∧ a ≤ 6
  · by_cases hb : 1 ≤ b ∧ b ≤ 6
    · have hm := mul36 ha hb
      have hw : wrap64 (a * b) = a * b := wrap_id (by omega) (by omega)
      by_cases hl : (l.length : Int) = a * b
      · have := ev_allR l.length (fun i => okPB (pAt l i)) true (fun k i => spec_RasOk.l0 k i a b l) ?_ ?_ ?_
        · have e : rasOkB a b l = ((List.range l.length).all (fun i => okPB (pAt l i)) && true) := by
            unfold rasOkB
            simp [ha, hb, hl]
          rw [e]
          refine Ev.step (fun k => ?_) this
          unfold spec_RasOk.f
          simp only [l1In_some, ha, hb, and_self, decide_true, Option.bind_some, if_true, spec_RasOk.j0, hw, hl, bne_self_eq_false, Bool.false_eq_true, if_false]
        · intro i hi hp r h
          refine Ev.step (fun k => ?_) h
          simp only [spec_RasOk.l0]
          rw [if_pos (by omega), if_pos (by omega), spec_PixOk_some]
          simp only [Option.bind_some]
          rw [if_pos (show okPB ⟨(rd_T36 l (i : Int)).f0, (rd_T36 l (i : Int)).f1, (rd_T36 l (i : Int)).f2, (rd_T36 l (i : Int)).f3⟩ = true from hp), wrap_succ (by omega)]
        · intro i hi hp
          refine ev_succ ⟨0, fun k _ => ?_⟩
          simp only [spec_RasOk.l0]
          rw [if_pos (by omega), if_pos (by omega), spec_PixOk_some]
          simp only [Option.bind_some]
          rw [if_neg (show ¬ okPB ⟨(rd_T36 l (i : Int)).f0, (rd_T36 l (i : Int)).f1, (rd_T36 l (i : Int)).f2, (rd_T36 l (i : Int)).f3⟩ = true from by rw [show okPB ⟨(rd_T36 l (i : Int)).f0, (rd_T36 l (i : Int)).f1, (rd_T36 l (i : Int)).f2, (rd_T36 l (i : Int)).f3⟩ = false from hp]; decide)]
        · refine ev_succ ⟨0, fun k _ => ?_⟩
          simp only [spec_RasOk.l0]
          rw [if_neg (by omega)]
      · have e : rasOkB a b l = false := by unfold rasOkB; simp [hl]
        rw [e]
        refine ev_succ ⟨0, fun k _ => ?_⟩
        have hl' : ((l.length : Int) != a * b) = true := by simpa using hl
        unfold spec_RasOk.f
        simp only [l1In_some, ha, hb, and_self, decide_true, Option.bind_some, if_true, spec_RasOk.j0, hw, hl']
    · have e : rasOkB a b l = false := by unfold rasOkB; simp only [hb, decide_false, Bool.false_and, Bool.and_false]
      rw [e]
      refine ev_succ ⟨0, fun k _ => ?_⟩
      unfold spec_RasOk.f
      simp [l1In_some, ha, hb, spec_RasOk.j0]
  · have e : rasOkB a b l = false := by unfold rasOkB; simp only [ha, decide_false, Bool.false_and]
    rw [e]
    refine ev_succ ⟨0, fun k _ => ?_⟩
    unfold spec_RasOk.f
    simp only [l1In_some, ha, decide_false, Option.bind_some, spec_RasOk.j0, Bool.false_eq_true, if_false, if_true]
theorem rasOkB_iff (a b : Int) (l : List Pix) : rasOkB a b l = true ↔ ∃ wd hg : Nat, a = wd ∧ b = hg ∧ Valid wd hg l := by
  unfold rasOkB
  simp only [Bool.and_eq_true, decide_eq_true_eq, List.all_eq_true, List.mem_range]
  constructor
  · rintro ⟨h1, h2, h3, h4⟩
    refine ⟨a.toNat, b.toNat, by omega, by omega, ⟨by omega, by omega⟩, ⟨by omega, by omega⟩, ?_, fun p hp => ?_⟩
    · have e1 : (a.toNat : Int) = a := by omega
      have e2 : (b.toNat : Int) = b := by omega
      have : (l.length : Int) = ((a.toNat * b.toNat : Nat) : Int) := by rw [Int.natCast_mul, e1, e2]; exact h3
      omega
    · obtain ⟨i, hi, rfl⟩ := List.getElem_of_mem hp
      have := (okPB_iff _).1 (h4 i hi)
      unfold pAt rd_T36 at this
      rwa [List.getD_eq_getElem?_getD, Int.toNat_natCast, List.getElem?_eq_getElem hi] at this
  · rintro ⟨wd, hg, rfl, rfl, h1, h2, h3, h4⟩
    refine ⟨by omega, by omega, by rw [h3, Int.natCast_mul], fun i hi => ?_⟩
    rw [okPB_iff]
    unfold pAt rd_T36
    rw [List.getD_eq_getElem?_getD, Int.toNat_natCast, List.getElem?_eq_getElem hi]
    exact h4 _ (List.getElem_mem hi)
theorem okB_iff (o : Op) : okB o = true ↔ OkO o := by
  unfold okB opOkB OkO
  by_cases h1 : o.f0 = 1
  · simp [h1]
  by_cases h7 : o.f0 = 7
  · simp [h7]
  by_cases h8 : o.f0 = 8
  · simp [h8]
  · simp [h1, h7, h8, and_assoc]
def doI (a b : Int) (l : List Pix) (o : Op) : Int × Int × List Pix × Bool :=
  if rasOkB a b l && (okB o && hasM o a.toNat b.toNat) then (wideM o a.toNat b.toNat, highM o a.toNat b.toNat, picM o a.toNat b.toNat l, true) else (0, 0, [], false)
end Go.Proofs.Ytoifpgkfpdeglaa.X
namespace Go.Proofs.Ytoifpgkfpdeglaa.X
open Go.RowKit Go.Proofs.YtoifpgkfpdeglaaW.PrintWords Go.Proofs.YtoifpgkfpdeglaaW.PrintLast Go.Proofs.YtoifpgkfpdeglaaW.PrintMore
set_option linter.unusedVariables false
set_option linter.unusedSimpArgs false
theorem made3 {w w1 : World} {O1 O2 O3 : Obj} (h : Below (((w.alloc O1).alloc O2).alloc O3).heap.size (((w.alloc O1).alloc O2).alloc O3) w1) :
    w1.heap[w.heap.size]? = some O1 ∧ w1.heap[w.heap.size + 1]? = some O2 ∧ w1.heap[w.heap.size + 1 + 1]? = some O3 ∧ Below w.heap.size w w1 := by
  have h0 := made2 (W := w) (O1 := O1) (O2 := O2) (w1 := (w.alloc O1).alloc O2) (Below.refl _ _)
  have hb : Below ((w.alloc O1).alloc O2).heap.size ((w.alloc O1).alloc O2) w1 := below_made h
  have h1 := (made2 (W := w.alloc O1) h).2
  rw [show (w.alloc O1).heap.size = w.heap.size + 1 by simp] at h1
  exact ⟨blk_keep h0.1 hb, blk_keep h0.2 hb, h1, below_made2 hb⟩
theorem far3n {n : Nat} {w2 : World} {a : Addr} {v : Value} (h : w2.cell? a = some v) (hne : a.block ≠ n) (u0 u1 u2 : Value) :
    (((w2.setCell ⟨n, 0, none⟩ u0).setCell ⟨n, 1, none⟩ u1).setCell ⟨n, 2, none⟩ u2).cell? a = some v :=
  (cell_far (p := ⟨n, 2, none⟩) hne u2).trans ((cell_far (p := ⟨n, 1, none⟩) hne u1).trans ((cell_far (p := ⟨n, 0, none⟩) hne u0).trans h))
def Boxed (w w1 : World) (a b : Int) (v : Value) (o : Op) : Prop :=
  w1.heap[w.heap.size]? = some (.cells #[.int .i64 a, .int .i64 b, v] 25 (0, 0)) ∧ OpBox w1 (w.heap.size + 1) o ∧ ResBlk w1 (w.heap.size + 1 + 1) ∧ Below w.heap.size w w1
theorem Boxed.keep {w w1 w2 : World} {a b : Int} {v : Value} {o : Op} (h : Boxed w w1 a b v o) (hb : Below w1.heap.size w1 w2) : Boxed w w2 a b v o :=
  ⟨blk_keep h.1 hb, h.2.1.below hb, h.2.2.1.keep hb, h.2.2.2.trans (hb.mono h.2.2.2.size)⟩
theorem boxes {w w1 : World} {a b : Int} {v : Value} {o : Op} (h : Below (((w.alloc (.cells #[.int .i64 a, .int .i64 b, v] 25)).alloc (.cells #[.int .i64 o.f0, .int .i64 o.f1, .int .i64 o.f2, .int .i64 o.f3, .int .i64 o.f4] 27)).alloc (.cells #[.int .i64 0, .int .i64 0, .slice none 0 0] 25)).heap.size (((w.alloc (.cells #[.int .i64 a, .int .i64 b, v] 25)).alloc (.cells #[.int .i64 o.f0, .int .i64 o.f1, .int .i64 o.f2, .int .i64 o.f3, .int .i64 o.f4] 27)).alloc (.cells #[.int .i64 0, .int .i64 0, .slice none 0 0] 25)) w1) :
    Boxed w w1 a b v o := by
  have k := made3 h
  exact ⟨k.1, ⟨(blk_cell k.2.1 0).trans rfl, (blk_cell k.2.1 1).trans rfl, (blk_cell k.2.1 2).trans rfl, (blk_cell k.2.1 3).trans rfl, (blk_cell k.2.1 4).trans rfl⟩, k.2.2.1, k.2.2.2⟩
theorem doI_out {wd hg : Nat} {l : List Pix} {o : Op} (h1 : rasOkB wd hg l = true) (h2 : okB o = true) : doI wd hg l o = (((outM o wd hg l).1 : Int), ((outM o wd hg l).2.1 : Int), (outM o wd hg l).2.2.1, (outM o wd hg l).2.2.2) := by
  unfold doI outM
  rw [h1, h2, Int.toNat_natCast, Int.toNat_natCast]
  cases hasM o wd hg <;> simp
theorem doI_no {a b : Int} {l : List Pix} {o : Op} (h : (rasOkB a b l && okB o) = false) : doI a b l o = (0, 0, [], false) := by
  unfold doI
  rw [if_neg]
  rw [← Bool.and_assoc, h]
  simp
set_option maxHeartbeats 4000000 in
set_option maxRecDepth 100000 in
theorem opDo_walk (a b : Int) (A : Option Addr) (c : Nat) (l : List Pix) (o : Op) (w : World) (hr : Kd.C kPix w A l.length l) (hc : l.length ≤ c) :
    Calls Try.prog 11 #[.agg #[.int .i64 a, .int .i64 b, .slice A l.length c], .agg #[.int .i64 o.f0, .int .i64 o.f1, .int .i64 o.f2, .int .i64 o.f3, .int .i64 o.f4]] w fun e w' => ∃ v, e = .returned (.tuple #[.agg #[.int .i64 (doI a b l o).1, .int .i64 (doI a b l o).2.1, v], .bool (doI a b l o).2.2.2]) ∧ Kd.R kPix 36 w' w.heap.size (fun _ => True) v (doI a b l o).2.2.1 ∧ Below w.heap.size w w' := by
  obtain ⟨k1, hk1⟩ := impl_RasOk_ev a b l
  have E1 := Aside0.mk (hk1 k1 (Nat.le_refl _))
  have E2 := Aside0.mk (impl_OpOk_some 0 o.f0 o.f1 o.f2 o.f3 o.f4)
  have HR := Aside0.mk hr
  have HC := Aside0.mk hc
  clear hk1
  cases h1 : rasOkB a b l with
  | false =>
    have HD : Aside0 (doI a b l o = (0, 0, [], false)) := Aside0.mk (doI_no (by rw [h1]; rfl))
    rw [HD.out]
    rw [h1] at E1
    clear h1 hr hc
    go_enter Try.func11, Try.ntmps11
    go_wp2_with (go_at_call 17; refine (impl_RasOk.calls k1 a b A c l false _ (Kd.C_below HR.out (boxes (Below.refl _ _)).2.2.2) HC.out E1.out).mono ?_; rintro e w1 ⟨rfl, hb1⟩; have HX := Aside0.mk (boxes hb1); clear hb1; have r0 := (blk_cell HX.out.2.2.1 0).trans rfl; have r1 := (blk_cell HX.out.2.2.1 1).trans rfl; have r2 := (blk_cell HX.out.2.2.1 2).trans rfl; have s0 := blk_frozen HX.out.2.2.1 0; have s1 := blk_frozen HX.out.2.2.1 1; have s2 := blk_frozen HX.out.2.2.1 2)
    refine bodyPost_ret (results_ct rfl _ _ (w.heap.size + 1 + 1) 25 _ (0, 0) _ rfl (ras_block HX.out.2.2.1 0 0 (.slice none 0 0)) Try.underlying25 rfl (by kernel_rfl)) rfl ⟨_, rfl, Kd.R_nil _ _ _ _ _, ?_⟩
    exact below_set (below_set (below_set HX.out.2.2.2 (by simp; omega) _) (by simp; omega) _) (by simp; omega) _
  | true =>
    cases h2 : okB o with
    | false =>
      have HD : Aside0 (doI a b l o = (0, 0, [], false)) := Aside0.mk (doI_no (by rw [h1, h2]; rfl))
      rw [HD.out]
      rw [h1] at E1
      rw [show opOkB o.f0 o.f1 o.f2 o.f3 o.f4 = false from h2] at E2
      clear h1 h2 hr hc
      go_enter Try.func11, Try.ntmps11
      go_wp2_with (first | (go_at_call 36; refine (impl_OpOk.calls _ o.f0 o.f1 o.f2 o.f3 o.f4 false _ E2.out).mono ?_; rintro e w2 ⟨rfl, hb2⟩; have HX2 := Aside0.mk (HX.out.keep hb2); clear hb2 p0 p1 p2 p3 p4; have r0 := (blk_cell HX2.out.2.2.1 0).trans rfl; have r1 := (blk_cell HX2.out.2.2.1 1).trans rfl; have r2 := (blk_cell HX2.out.2.2.1 2).trans rfl; have s0 := blk_frozen HX2.out.2.2.1 0; have s1 := blk_frozen HX2.out.2.2.1 1; have s2 := blk_frozen HX2.out.2.2.1 2) | (go_at_call 17; refine (impl_RasOk.calls k1 a b A c l true _ (Kd.C_below HR.out (boxes (Below.refl _ _)).2.2.2) HC.out E1.out).mono ?_; rintro e w1 ⟨rfl, hb1⟩; have HX := Aside0.mk (boxes hb1); clear hb1; have p0 := HX.out.2.1.h0; have p1 := HX.out.2.1.h1; have p2 := HX.out.2.1.h2; have p3 := HX.out.2.1.h3; have p4 := HX.out.2.1.h4))
      refine bodyPost_ret (results_ct rfl _ _ (w.heap.size + 1 + 1) 25 _ (0, 0) _ rfl (ras_block HX2.out.2.2.1 0 0 (.slice none 0 0)) Try.underlying25 rfl (by kernel_rfl)) rfl ⟨_, rfl, Kd.R_nil _ _ _ _ _, ?_⟩
      exact below_set (below_set (below_set HX2.out.2.2.2 (by simp; omega) _) (by simp; omega) _) (by simp; omega) _
    | true =>
      obtain ⟨wd, hg, rfl, rfl, hv⟩ := (rasOkB_iff a b l).1 h1
      have HD := Aside0.mk (doI_out h1 h2)
      rw [HD.out]
      rw [h1] at E1
      rw [show opOkB o.f0 o.f1 o.f2 o.f3 o.f4 = true from h2] at E2
      have HO := Aside0.mk ((okB_iff o).1 h2)
      have HP : Aside0 (Pict w wd hg A c l) := Aside0.mk ⟨hr, hc, hv.2.2.1, hv.1.1, hv.1.2, hv.2.1.1, hv.2.1.2⟩
      clear h1 h2 hv hr hc
      go_enter Try.func11, Try.ntmps11
      go_wp2_with (first | (go_at_call 36; refine (impl_OpOk.calls _ o.f0 o.f1 o.f2 o.f3 o.f4 true _ E2.out).mono ?_; rintro e w2 ⟨rfl, hb2⟩; have HX2 := Aside0.mk (HX.out.keep hb2); clear hb2 p0 p1 p2 p3 p4 HX) | (go_at_call 17; refine (impl_RasOk.calls k1 wd hg A c l true _ (Kd.C_below HR.out (boxes (Below.refl _ _)).2.2.2) HC.out E1.out).mono ?_; rintro e w1 ⟨rfl, hb1⟩; have HX := Aside0.mk (boxes hb1); clear hb1; have p0 := HX.out.2.1.h0; have p1 := HX.out.2.1.h1; have p2 := HX.out.2.1.h2; have p3 := HX.out.2.1.h3; have p4 := HX.out.2.1.h4))
      have HXD := Aside0.mk (HX2.out.keep (Below.refl w2.heap.size w2).drew)
      have HX2' := HX2
      clear HX2
      have q0d : w2.drew.cell? ⟨w.heap.size, 0, none⟩ = some (.int .i64 wd) := (blk_cell HXD.out.1 0).trans rfl; have q1d : w2.drew.cell? ⟨w.heap.size, 1, none⟩ = some (.int .i64 hg) := (blk_cell HXD.out.1 1).trans rfl; have q2d : w2.drew.cell? ⟨w.heap.size, 2, none⟩ = some (.slice A l.length c) := (blk_cell HXD.out.1 2).trans rfl; have o0d := HXD.out.2.1.h0; have o1d := HXD.out.2.1.h1; have o2d := HXD.out.2.1.h2; have o3d := HXD.out.2.1.h3; have o4d := HXD.out.2.1.h4; 
      go_region_held3 (fun w' : World => w'.cell? ⟨w.heap.size, 0, none⟩ = some (.int .i64 wd) ∧ w'.cell? ⟨w.heap.size, 1, none⟩ = some (.int .i64 hg) ∧ w'.cell? ⟨w.heap.size, 2, none⟩ = some (.slice A l.length c) ∧ w'.cell? ⟨w.heap.size + 1, 0, none⟩ = some (.int .i64 o.f0) ∧ w'.cell? ⟨w.heap.size + 1, 1, none⟩ = some (.int .i64 o.f1) ∧ w'.cell? ⟨w.heap.size + 1, 2, none⟩ = some (.int .i64 o.f2) ∧ w'.cell? ⟨w.heap.size + 1, 3, none⟩ = some (.int .i64 o.f3) ∧ w'.cell? ⟨w.heap.size + 1, 4, none⟩ = some (.int .i64 o.f4)) (first | with_reducible exact ⟨q0d, q1d, q2d, o0d, o1d, o2d, o3d, o4d⟩ | with_reducible exact ⟨q0y, q1y, q2y, o0y, o1y, o2y, o3y, o4y⟩ | with_reducible exact ⟨q0z, q1z, q2z, o0z, o1z, o2z, o3z, o4z⟩ | exact ⟨far3n q0z (by show w.heap.size ≠ w.heap.size + 1 + 1; omega) _ _ _, far3n q1z (by show w.heap.size ≠ w.heap.size + 1 + 1; omega) _ _ _, far3n q2z (by show w.heap.size ≠ w.heap.size + 1 + 1; omega) _ _ _, far3n o0z (by show w.heap.size + 1 ≠ w.heap.size + 1 + 1; omega) _ _ _, far3n o1z (by show w.heap.size + 1 ≠ w.heap.size + 1 + 1; omega) _ _ _, far3n o2z (by show w.heap.size + 1 ≠ w.heap.size + 1 + 1; omega) _ _ _, far3n o3z (by show w.heap.size + 1 ≠ w.heap.size + 1 + 1; omega) _ _ _, far3n o4z (by show w.heap.size + 1 ≠ w.heap.size + 1 + 1; omega) _ _ _⟩) (first | (go_at_call 37; refine (moveOf_walk HO.out _).mono ?_; rintro e w3 ⟨f1, c1, rfl, hM, hb3⟩; obtain ⟨fn, caps, hfe, henter, hcall⟩ := hM; cases hfe; have HMC := Aside0.mk hcall; clear hcall; have HX3 := Aside0.mk (HXD.out.keep hb3); clear hb3; have q0y : w3.cell? ⟨w.heap.size, 0, none⟩ = some (.int .i64 wd) := (blk_cell HX3.out.1 0).trans rfl; have q1y : w3.cell? ⟨w.heap.size, 1, none⟩ = some (.int .i64 hg) := (blk_cell HX3.out.1 1).trans rfl; have q2y : w3.cell? ⟨w.heap.size, 2, none⟩ = some (.slice A l.length c) := (blk_cell HX3.out.1 2).trans rfl; have o0y := HX3.out.2.1.h0; have o1y := HX3.out.2.1.h1; have o2y := HX3.out.2.1.h2; have o3y := HX3.out.2.1.h3; have o4y := HX3.out.2.1.h4; ) | (refine (HMC.out _ (Below.refl _ _) wd hg A c l (HP.out.below HX3.out.2.2.2) trivial).mono ?_; rintro e w4 ⟨v, rfl, hRv, hb4⟩; obtain ⟨A', c', rfl⟩ := Kd.R_slice hRv; have HRV := Aside0.mk hRv; have HSZ := Aside0.mk (Array.getElem?_eq_some_iff.1 HX3.out.2.2.1).1; have HX4 := Aside0.mk (HX3.out.keep hb4); clear hRv hb4; have q0z : w4.cell? ⟨w.heap.size, 0, none⟩ = some (.int .i64 wd) := (blk_cell HX4.out.1 0).trans rfl; have q1z : w4.cell? ⟨w.heap.size, 1, none⟩ = some (.int .i64 hg) := (blk_cell HX4.out.1 1).trans rfl; have q2z : w4.cell? ⟨w.heap.size, 2, none⟩ = some (.slice A l.length c) := (blk_cell HX4.out.1 2).trans rfl; have o0z := HX4.out.2.1.h0; have o1z := HX4.out.2.1.h1; have o2z := HX4.out.2.1.h2; have o3z := HX4.out.2.1.h3; have o4z := HX4.out.2.1.h4;  have r0 := (blk_cell HX4.out.2.2.1 0).trans rfl; have r1 := (blk_cell HX4.out.2.2.1 1).trans rfl; have r2 := (blk_cell HX4.out.2.2.1 2).trans rfl; have s0 := blk_frozen HX4.out.2.2.1 0; have s1 := blk_frozen HX4.out.2.2.1 1; have s2 := blk_frozen HX4.out.2.2.1 2))
      go_wp2
      refine bodyPost_ret (results_ct rfl _ _ (w.heap.size + 1 + 1) 25 _ (0, 0) _ rfl (ras_block HX4.out.2.2.1 _ _ _) Try.underlying25 rfl (by kernel_rfl)) rfl ⟨_, rfl, R_ret HRV.out (by have := HX3.out.2.2.2.size; omega) HSZ.out _ _ _, ?_⟩
      exact below_set (below_set (below_set HX4.out.2.2.2 (by simp; omega) _) (by simp; omega) _) (by simp; omega) _
end Go.Proofs.Ytoifpgkfpdeglaa.X
namespace Go.Proofs.Ytoifpgkfpdeglaa.X
open Go.RowKit Go.Proofs.YtoifpgkfpdeglaaW.PrintWords Go.Proofs.YtoifpgkfpdeglaaW.PrintLast Go.Proofs.YtoifpgkfpdeglaaW.PrintMore
attribute [local go_sem] max2_int min2_int max_two min_two max_three min_three max_four min_four
set_option linter.unusedVariables false
set_option linter.unusedSimpArgs false
section
def impl_OpDo.f (a0_0 : Int) (a0_1 : Int) (l0_2 : List (S36)) (a1_0 : Int) (a1_1 : Int) (a1_2 : Int) (a1_3 : Int) (a1_4 : Int) : Option (Int × Int × (List (S36)) × Bool) := some (doI a0_0 a0_1 l0_2 ⟨a1_0, a1_1, a1_2, a1_3, a1_4⟩)
theorem impl_OpDo.calls (a0_0 : Int) (a0_1 : Int) (A0_2 : Option Addr) (c0_2 : Nat) (l0_2 : List (S36)) (a1_0 : Int) (a1_1 : Int) (a1_2 : Int) (a1_3 : Int) (a1_4 : Int) (r1 : Int) (r2 : Int) (r3 : List (S36)) (r4 : Bool) (w : World) (hr0_2 : Kd.C k36 w A0_2 l0_2.length l0_2) (hc0_2 : l0_2.length ≤ c0_2) (h : impl_OpDo.f a0_0 a0_1 l0_2 a1_0 a1_1 a1_2 a1_3 a1_4 = some (r1, r2, r3, r4)) :
    Calls Try.prog 11 #[.agg #[.int .i64 a0_0, .int .i64 a0_1, .slice A0_2 l0_2.length c0_2], .agg #[.int .i64 a1_0, .int .i64 a1_1, .int .i64 a1_2, .int .i64 a1_3, .int .i64 a1_4]] w fun e w' => ∃ v2_ : Value, e = .returned (.tuple #[.agg #[.int .i64 r1, .int .i64 r2, v2_], .bool r4]) ∧ Kd.R k36 36 w' w.heap.size (fun _ => True) v2_ r3 ∧ Below w.heap.size w w' := by
  have hw := opDo_walk a0_0 a0_1 A0_2 c0_2 l0_2 ⟨a1_0, a1_1, a1_2, a1_3, a1_4⟩ w hr0_2 hc0_2
  unfold impl_OpDo.f at h
  simp only [Option.some.injEq] at h
  rw [h] at hw
  exact hw
end
end Go.Proofs.Ytoifpgkfpdeglaa.X
namespace Go.Proofs.Ytoifpgkfpdeglaa.X
open Go.RowKit Go.Proofs.YtoifpgkfpdeglaaW.PrintWords Go.Proofs.YtoifpgkfpdeglaaW.PrintLast Go.Proofs.YtoifpgkfpdeglaaW.PrintMore
set_option linter.unusedVariables false
set_option linter.unusedSimpArgs false
def doAll : List Op → Int → Int → List Pix → Int × Int × List Pix × Bool
  | [], a, b, l => (a, b, l, true)
  | o :: os, a, b, l => if (doI a b l o).2.2.2 then doAll os (doI a b l o).1 (doI a b l o).2.1 (doI a b l o).2.2.1 else (0, 0, [], false)
def opsI (a b : Int) (l : List Pix) (os : List Op) : Int × Int × List Pix × Bool := if rasOkB a b l && allOkB os then doAll os a b l else (0, 0, [], false)
set_option maxHeartbeats 1000000 in
set_option maxRecDepth 100000 in
theorem tells_copy {w : World} {wd hg : Nat} {l : List Pix} {A : Option Addr} {c : Nat} {b : Nat} (hP : Pict w wd hg A c l)
    (h0 : w.cell? ⟨b, 0, none⟩ = some (.int .i64 wd)) (h1 : w.cell? ⟨b, 1, none⟩ = some (.int .i64 hg)) (h2 : w.cell? ⟨b, 2, none⟩ = some (.slice A l.length c)) :
    Tells w (.func (.func 53) #[] #[.pointer (some ⟨b, 0, none⟩)]) wd hg (pix l wd) := by
  refine ⟨_, _, rfl, enter_any Try.func53 rfl rfl, fun W hB x y hx hy => ?_⟩
  have up : ∀ {a : Addr} {v : Value}, w.cell? a = some v → ∀ O, (W.alloc O).cell? a = some v := fun h O => pw_cell_below (below_alloc (Below.refl _ _) O) (pw_cell_below hB h)
  have g0 := up h0
  have g1 := up h1
  have g2 := up h2
  have HP := Aside0.mk (hP.below hB)
  clear hB hP h0 h1 h2 up
  show Calls Try.prog 53 #[.int .i64 x, .int .i64 y, .pointer (some ⟨b, 0, none⟩)] W _
  go_enter Try.func53, Try.ntmps53
  go_wp2_with (go_at_call 54; refine ((HP.out.below (below_alloc (Below.refl _ _) _)).at_ x y hx hy).mono ?_; rintro e w2 ⟨rfl, hb2⟩; have BK2 := Aside0.mk (blk_keep (blk_new W _) hb2); have r0 := (blk_cell BK2.out 0).trans rfl; have r1 := (blk_cell BK2.out 1).trans rfl; have r2 := (blk_cell BK2.out 2).trans rfl; have r3 := (blk_cell BK2.out 3).trans rfl; have s0 := blk_frozen BK2.out 0; have s1 := blk_frozen BK2.out 1; have s2 := blk_frozen BK2.out 2; have s3 := blk_frozen BK2.out 3; have HB2 := Aside0.mk (below_made hb2); clear hb2)
  refine bodyPost_ret (results_cell_row rfl _ _ W.heap.size 36 _ (0, 0) _ rfl (pix_block BK2.out (pix l wd x y)) Try.underlying36 rfl (by kernel_rfl)) rfl ⟨rfl, ?_⟩
  exact below_set (below_set (below_set (below_set HB2.out (Nat.le_refl _) _) (Nat.le_refl _) _) (Nat.le_refl _) _) (Nat.le_refl _) _
def Boxed2 (w w1 : World) (a b : Int) (v : Value) : Prop :=
  w1.heap[w.heap.size]? = some (.cells #[.int .i64 a, .int .i64 b, v] 25 (0, 0)) ∧ ResBlk w1 (w.heap.size + 1) ∧ Below w.heap.size w w1
theorem Boxed2.keep {w w1 w2 : World} {a b : Int} {v : Value} (h : Boxed2 w w1 a b v) (hb : Below w1.heap.size w1 w2) : Boxed2 w w2 a b v :=
  ⟨blk_keep h.1 hb, h.2.1.keep hb, h.2.2.trans (hb.mono h.2.2.size)⟩
theorem boxes2 {w w1 : World} {a b : Int} {v : Value} (h : Below ((w.alloc (.cells #[.int .i64 a, .int .i64 b, v] 25)).alloc (.cells #[.int .i64 0, .int .i64 0, .slice none 0 0] 25)).heap.size ((w.alloc (.cells #[.int .i64 a, .int .i64 b, v] 25)).alloc (.cells #[.int .i64 0, .int .i64 0, .slice none 0 0] 25)) w1) : Boxed2 w w1 a b v :=
  ⟨(made2 h).1, (made2 h).2, below_made2 h⟩
theorem ras_put {W : World} {g : Nat} {a0 b0 : Int} {v0 : Value} (h : W.heap[g]? = some (.cells #[.int .i64 a0, .int .i64 b0, v0] 25 (0, 0))) (a b : Int) (v : Value) :
    (((W.setCell ⟨g, 0, none⟩ (.int .i64 a)).setCell ⟨g, 1, none⟩ (.int .i64 b)).setCell ⟨g, 2, none⟩ v).heap[g]? = some (.cells #[.int .i64 a, .int .i64 b, v] 25 (0, 0)) :=
  blk_put (cs := #[.int .i64 a, .int .i64 b, v0]) (blk_put (cs := #[.int .i64 a, .int .i64 b0, v0]) (blk_put (cs := #[.int .i64 a0, .int .i64 b0, v0]) h 0 _ rfl) 1 _ rfl) 2 _ rfl
theorem heap_far3 {W : World} {g n : Nat} {O : Obj} (h : W.heap[n]? = some O) (hne : n ≠ g) (u0 u1 u2 : Value) : (((W.setCell ⟨g, 0, none⟩ u0).setCell ⟨g, 1, none⟩ u1).setCell ⟨g, 2, none⟩ u2).heap[n]? = some O :=
  (Below.heap_setCell _ _ _ _ hne).trans ((Below.heap_setCell _ _ _ _ hne).trans ((Below.heap_setCell _ _ _ _ hne).trans h))
theorem R_far3 {W : World} {g base : Nat} {v : Value} {xs : List Pix} {cells : Array Value} (hR : Kd.R kPix 36 W base (fun _ => True) v xs) (hb : W.heap[g]? = some (.cells cells 25 (0, 0))) (u0 u1 u2 : Value) :
    Kd.R kPix 36 (((W.setCell ⟨g, 0, none⟩ u0).setCell ⟨g, 1, none⟩ u1).setCell ⟨g, 2, none⟩ u2) base (fun _ => True) v xs :=
  Kd.R_mono (Kd.R_far (p := ⟨g, 2, none⟩) (Kd.R_far (p := ⟨g, 1, none⟩) (Kd.R_far (p := ⟨g, 0, none⟩) (Kd.R_types hR hb (by decide)) (fun _ hk => hk.2) u0) (fun _ hk => hk.2) u1) (fun _ hk => hk.2) u2) (fun _ _ => trivial)
theorem opAt_ok {os : List Op} (h : allOkB os = true) {i : Nat} (hi : i < os.length) : okB (rd_T27 os (i : Int)) = true := by
  unfold allOkB at h
  rw [Bool.and_eq_true, List.all_eq_true] at h
  exact h.2 i (List.mem_range.2 hi)
theorem drop_at {os : List Op} {i : Nat} (hi : i < os.length) : os.drop i = rd_T27 os (i : Int) :: os.drop (i + 1) := by
  rw [List.drop_eq_getElem_cons hi]
  unfold rd_T27
  rw [List.getD_eq_getElem?_getD, Int.toNat_natCast, List.getElem?_eq_getElem hi]
  rfl
def opsDo.T7 : Bool × List (List Nat × List Nat) := (true, [([], []), ([0], [0]), ([], []), ([1, 2, 1], [1, 2]), ([3], [3]), ([4], [4]), ([4], [4]), ([], []), ([7, 5, 3, 0, 1, 2, 3, 4, 5, 7], [5, 7]), ([6, 8, 0, 1, 2, 3, 4, 5, 6, 7, 8], [6])])
def opsDo.B7 : List Nat := [0, 1, 0, 7, 15, 31, 31, 0, 191, 511]
theorem opsDo.tab7 : rtab .any (opsOf Try.f27 7) = opsDo.T7 := by kernel_rfl
theorem opsDo.bits7 : waitsOk opsDo.T7.2 opsDo.B7 = true := by kernel_rfl
theorem outM_true {o : Op} {wd hg W2 H2 : Nat} {l l2 : List Pix} (h : outM o wd hg l = (W2, H2, l2, true)) : hasM o wd hg = true ∧ W2 = wideM o wd hg ∧ H2 = highM o wd hg ∧ l2 = picM o wd hg l := by
  unfold outM at h
  split at h
  · rename_i hm
    simp only [Prod.mk.injEq] at h
    exact ⟨hm, h.1.symm, h.2.1.symm, h.2.2.1.symm⟩
  · simp at h
theorem put3 {a : Act} {b : Nat → Bool} {x0 fv x2 v v' : Value} {W2 H2 n : Nat} {ok2 : Bool} (hb : b 3 = false) (h4 : b 4 = false) (h5 : b 5 = false) :
    (putSel a b [(0, 33, x0), (1, 34, fv), (2, 35, x2), (3, 36, .tuple #[.agg #[.int .i64 W2, .int .i64 H2, v], .bool ok2]), (4, 32, .tuple #[.agg #[.int .i64 W2, .int .i64 H2, v], .bool ok2]), (5, 37, .agg #[.int .i64 W2, .int .i64 H2, v]), (6, 38, .bool ok2), (7, 9, .pointer (some ⟨n, 0, none⟩)), (9, 10, .bool ok2)]).put (some 36) (.tuple #[.agg #[.int .i64 W2, .int .i64 H2, v'], .bool ok2]) =
      putSel a (up b 3) [(0, 33, x0), (1, 34, fv), (2, 35, x2), (3, 36, .tuple #[.agg #[.int .i64 W2, .int .i64 H2, v'], .bool ok2]), (4, 32, .tuple #[.agg #[.int .i64 W2, .int .i64 H2, v'], .bool ok2]), (5, 37, .agg #[.int .i64 W2, .int .i64 H2, v']), (6, 38, .bool ok2), (7, 9, .pointer (some ⟨n, 0, none⟩)), (9, 10, .bool ok2)] := by
  rw [putSel_upk 3 hb rfl rfl rfl (v := .tuple #[.agg #[.int .i64 W2, .int .i64 H2, v'], .bool ok2])]
  have g4 : up b 3 4 = false := h4
  have g5 : up b 3 5 = false := h5
  simp only [List.set_cons_succ, List.set_cons_zero, putSel, g4, g5, Bool.false_eq_true, if_false]
set_option maxHeartbeats 8000000 in
set_option maxRecDepth 100000 in
theorem opsDo_walk (a b : Int) (A : Option Addr) (c : Nat) (l : List Pix) (A1 : Option Addr) (c1 : Nat) (os : List Op) (w : World) (hr : Kd.C kPix w A l.length l) (hc : l.length ≤ c) (hr1 : Kd.C k27 w A1 os.length os) (hc1 : os.length ≤ c1) (hlen : os.length ≤ 4611686018427387904) :
    Calls Try.prog 27 #[.agg #[.int .i64 a, .int .i64 b, .slice A l.length c], .slice A1 os.length c1] w fun e w' => ∃ v, e = .returned (.tuple #[.agg #[.int .i64 (opsI a b l os).1, .int .i64 (opsI a b l os).2.1, v], .bool (opsI a b l os).2.2.2]) ∧ Kd.R kPix 36 w' w.heap.size (fun _ => True) v (opsI a b l os).2.2.1 ∧ Below w.heap.size w w' := by
  obtain ⟨k1, hk1⟩ := impl_RasOk_ev a b l
  obtain ⟨k2, hk2⟩ := impl_opsOk_ev os hlen
  have E1 := Aside0.mk (hk1 k1 (Nat.le_refl _))
  have E2 := Aside0.mk (hk2 k2 (Nat.le_refl _))
  have HR := Aside0.mk hr
  have HC := Aside0.mk hc
  have HR1 := Aside0.mk hr1
  have HC1 := Aside0.mk hc1
  clear hk1 hk2
  cases h1 : rasOkB a b l with
  | false =>
    have HD : Aside0 (opsI a b l os = (0, 0, [], false)) := Aside0.mk (by unfold opsI; rw [h1]; rfl)
    rw [HD.out]
    rw [h1] at E1
    clear h1 hr hc hr1 hc1
    go_enter Try.func27, Try.ntmps27
    go_wp2_with (go_at_call 17; refine (impl_RasOk.calls k1 a b A c l false _ (Kd.C_below HR.out (boxes2 (Below.refl _ _)).2.2) HC.out E1.out).mono ?_; rintro e w1 ⟨rfl, hb1⟩; have HX := Aside0.mk (boxes2 hb1); clear hb1; have r0 := (blk_cell HX.out.2.1 0).trans rfl; have r1 := (blk_cell HX.out.2.1 1).trans rfl; have r2 := (blk_cell HX.out.2.1 2).trans rfl; have s0 := blk_frozen HX.out.2.1 0; have s1 := blk_frozen HX.out.2.1 1; have s2 := blk_frozen HX.out.2.1 2)
    refine bodyPost_ret (results_ct rfl _ _ (w.heap.size + 1) 25 _ (0, 0) _ rfl (ras_block HX.out.2.1 0 0 (.slice none 0 0)) Try.underlying25 rfl (by kernel_rfl)) rfl ⟨_, rfl, Kd.R_nil _ _ _ _ _, ?_⟩
    exact below_set (below_set (below_set HX.out.2.2 (by simp) _) (by simp) _) (by simp) _
  | true =>
    cases h2 : allOkB os with
    | false =>
      have HD : Aside0 (opsI a b l os = (0, 0, [], false)) := Aside0.mk (by unfold opsI; rw [h1, h2]; rfl)
      rw [HD.out]
      rw [h1] at E1
      rw [h2] at E2
      clear h1 h2 hr hc hr1 hc1
      go_enter Try.func27, Try.ntmps27
      go_wp2_with (first | (go_at_call 51; refine (impl_opsOk.calls _ A1 c1 os false _ (Kd.C_below HR1.out HX.out.2.2) HC1.out E2.out).mono ?_; rintro e w2 ⟨rfl, hb2⟩; have HX2 := Aside0.mk (HX.out.keep hb2); clear hb2; have r0 := (blk_cell HX2.out.2.1 0).trans rfl; have r1 := (blk_cell HX2.out.2.1 1).trans rfl; have r2 := (blk_cell HX2.out.2.1 2).trans rfl; have s0 := blk_frozen HX2.out.2.1 0; have s1 := blk_frozen HX2.out.2.1 1; have s2 := blk_frozen HX2.out.2.1 2) | (go_at_call 17; refine (impl_RasOk.calls k1 a b A c l true _ (Kd.C_below HR.out (boxes2 (Below.refl _ _)).2.2) HC.out E1.out).mono ?_; rintro e w1 ⟨rfl, hb1⟩; have HX := Aside0.mk (boxes2 hb1); clear hb1))
      refine bodyPost_ret (results_ct rfl _ _ (w.heap.size + 1) 25 _ (0, 0) _ rfl (ras_block HX2.out.2.1 0 0 (.slice none 0 0)) Try.underlying25 rfl (by kernel_rfl)) rfl ⟨_, rfl, Kd.R_nil _ _ _ _ _, ?_⟩
      exact below_set (below_set (below_set HX2.out.2.2 (by simp) _) (by simp) _) (by simp) _
    | true =>
      obtain ⟨wd, hg, rfl, rfl, hv⟩ := (rasOkB_iff a b l).1 h1
      have HD : Aside0 (opsI wd hg l os = doAll os wd hg l) := Aside0.mk (by unfold opsI; rw [h1, h2]; rfl)
      rw [HD.out]
      rw [h1] at E1
      rw [h2] at E2
      have HOK := Aside0.mk h2
      have HV := Aside0.mk hv
      have HP : Aside0 (Pict w wd hg A c l) := Aside0.mk ⟨hr, hc, hv.2.2.1, hv.1.1, hv.1.2, hv.2.1.1, hv.2.1.2⟩
      have HMK : Aside0 (mk wd hg (pix l wd) = l) := Aside0.mk (mk_pix hv.2.2.1)
      clear h1 h2 hr hc hr1 hc1 hv
      go_enter Try.func27, Try.ntmps27
      go_wp2_with (first | (go_at_call 52; refine (newRaster_walk wd hg HP.out.w0 HP.out.w1 HP.out.h0 HP.out.h1 (pix l wd) _ _ (tells_copy (HP.out.below HX2.out.2.2) q0 q1 q2)).mono ?_; rintro e w3 ⟨v, rfl, hRv, hb3⟩; rw [HMK.out] at hRv; obtain ⟨A', c', rfl⟩ := Kd.R_slice hRv; have HRV := Aside0.mk (Kd.R_lower hRv HX2.out.2.2.size); have HAP := Aside0.mk (Kd.R_bound hRv); have HSZ := Aside0.mk (Array.getElem?_eq_some_iff.1 HX2.out.2.1).1; have HX3 := Aside0.mk (HX2.out.keep hb3); clear hRv hb3 q0 q1 q2) | (go_at_call 51; refine (impl_opsOk.calls _ A1 c1 os true _ (Kd.C_below HR1.out HX.out.2.2) HC1.out E2.out).mono ?_; rintro e w2 ⟨rfl, hb2⟩; have HX2 := Aside0.mk (HX.out.keep hb2); clear hb2; have q0 : w2.cell? ⟨w.heap.size, 0, none⟩ = some (.int .i64 wd) := (blk_cell HX2.out.1 0).trans rfl; have q1 : w2.cell? ⟨w.heap.size, 1, none⟩ = some (.int .i64 hg) := (blk_cell HX2.out.1 1).trans rfl; have q2 : w2.cell? ⟨w.heap.size, 2, none⟩ = some (.slice A l.length c) := (blk_cell HX2.out.1 2).trans rfl) | (go_at_call 17; refine (impl_RasOk.calls k1 wd hg A c l true _ (Kd.C_below HR.out (boxes2 (Below.refl _ _)).2.2) HC.out E1.out).mono ?_; rintro e w1 ⟨rfl, hb1⟩; have HX := Aside0.mk (boxes2 hb1); clear hb1))
      obtain ⟨g, hg0⟩ : ∃ g, g = w3.heap.size := ⟨_, rfl⟩
      have HG : Aside0 (w.heap.size + 1 < g) := Aside0.mk (by rw [hg0]; have := (Array.getElem?_eq_some_iff.1 HX3.out.2.1).1; exact this)
      rw [← hg0]
      have HX4 := Aside0.mk (HX3.out.keep (below_alloc (Below.refl w3.heap.size w3) (.cells #[.int .i64 wd, .int .i64 hg, .slice A' l.length c'] 25)))
      have HBD : Aside0 ((w3.alloc (.cells #[.int .i64 wd, .int .i64 hg, .slice A' l.length c'] 25)).heap[g]? = some (.cells #[.int .i64 wd, .int .i64 hg, .slice A' l.length c'] 25 (0, 0))) := Aside0.mk (by rw [hg0]; exact blk_new w3 _)
      have HRV2 := Aside0.mk (Kd.R_alloc HRV.out (.cells #[.int .i64 wd, .int .i64 hg, .slice A' l.length c'] 25))
      clear HX3 HRV HAP HX2 HX hg0
      go_loopw [28] (fun v wr => ∃ (i wd' hg' : Nat) (l' : List Pix) (A'' : Option Addr) (c'' : Nat), i ≤ os.length ∧ v = .int .i64 i ∧ Aside0 (doAll os wd hg l = doAll (os.drop i) wd' hg' l' ∧ Valid wd' hg' l') ∧ Aside0 (wr.heap[g]? = some (.cells #[.int .i64 wd', .int .i64 hg', .slice A'' l'.length c''] 25 (0, 0))) ∧ Aside0 (Kd.R kPix 36 wr w.heap.size (fun _ => True) (.slice A'' l'.length c'') l') ∧ Aside0 (Boxed2 w wr wd hg (.slice A l.length c))) (fun v _ => os.length - (intOf v).toNat)
      case atStart => exact ⟨0, wd, hg, l, A', c', Nat.zero_le _, rfl, Aside0.mk ⟨by rw [List.drop_zero], HV.out⟩, HBD, HRV2, HX4⟩
      case round =>
        clear HBD HRV2 HX4
        obtain ⟨i, wd', hg', l', A'', c'', hi, rfl, HDO, HBD, HRV, HX⟩ := hrel
        by_cases hlt : (i : Int) < (os.length : Int)
        · have hlt' : i < os.length := by omega
          obtain ⟨ad, had, x0, x1, x2, x3, x4⟩ := at_T27 (Kd.C_below HR1.out HX.out.2.2) (i : Int) (by omega) hlt
          cases had
          simp only [Int.toNat_natCast] at x0 x1 x2 x3 x4
          have HOB := Aside0.mk (opAt_ok HOK.out hlt')
          have HDR := Aside0.mk (drop_at hlt')
          generalize rd_T27 os (i : Int) = o at x0 x1 x2 x3 x4 HOB HDR
          have HO := Aside0.mk ((okB_iff _).1 HOB.out)
          have HPI : Aside0 (Pict wr wd' hg' A'' c'' l') := Aside0.mk ⟨(Kd.R_reads' HRV.out).2.2, (Kd.R_reads' HRV.out).2.1, HDO.out.2.2.2.1, HDO.out.2.1.1, HDO.out.2.1.2, HDO.out.2.2.1.1, HDO.out.2.2.1.2⟩
          have HDI := Aside0.mk (doI_out ((rasOkB_iff _ _ _).2 ⟨wd', hg', rfl, rfl, HDO.out.2⟩) HOB.out)
          obtain ⟨W2, H2, l2, ok2, hout⟩ : ∃ W2 H2 l2 ok2, outM o wd' hg' l' = (W2, H2, l2, ok2) := ⟨_, _, _, _, rfl⟩
          have HOUT := Aside0.mk hout
          clear hout
          have hGL : g < wr.heap.size := (Array.getElem?_eq_some_iff.1 HBD.out).1
          go_wp2
          obtain ⟨bo, hbo⟩ : ∃ bo, bo = wr.heap.size := ⟨_, rfl⟩
          have hb1 : Below wr.heap.size wr (wr.alloc (.cells #[.int .i64 o.f0, .int .i64 o.f1, .int .i64 o.f2, .int .i64 o.f3, .int .i64 o.f4] 27)).drew := (below_alloc (Below.refl _ _) _).drew
          have HW : Aside0 (OpBox (wr.alloc (.cells #[.int .i64 o.f0, .int .i64 o.f1, .int .i64 o.f2, .int .i64 o.f3, .int .i64 o.f4] 27)).drew bo o) := Aside0.mk (by rw [hbo]; exact (box_made (w := wr) (o := o) (Below.refl _ _)).below (Below.refl _ _).drew)
          have HBS := Aside0.mk hb1.size
          replace HBD := Aside0.mk (blk_keep HBD.out hb1)
          replace HPI := Aside0.mk (HPI.out.below hb1)
          replace HX := Aside0.mk (HX.out.keep hb1)
          replace HRV := Aside0.mk (Kd.R_below HRV.out hb1)
          clear x0 x1 x2 x3 x4 hb1
          rw [← hbo]
          clear hbo
          refine start_ (n := 10) (S := fun w' => True) (ds := []) #[false, false, false, false, false, false, false, false, false, false] (by kernel_rfl) rfl rfl trivial (fun hHeld => ?_); refine with_tabW opsDo.tab7 opsDo.bits7 (fun HT_ HW_ => ?_)
          generalize (wr.alloc (.cells #[.int .i64 o.f0, .int .i64 o.f1, .int .i64 o.f2, .int .i64 o.f3, .int .i64 o.f4] 27)).drew = w1 at HW HBS HBD HPI HX HRV hHeld ⊢
          refine inv_at [0, 1, 2, 3, 4, 5, 6, 7, 8, 9] (fun a0_ b a w' => ∃ (fv v : Value) (n : Nat), a = putSel a0_ b [(0, 33, .agg #[.int .i64 o.f0, .int .i64 o.f1, .int .i64 o.f2, .int .i64 o.f3, .int .i64 o.f4]), (1, 34, fv), (2, 35, .agg #[.int .i64 wd', .int .i64 hg', .slice A'' l'.length c'']), (3, 36, .tuple #[.agg #[.int .i64 W2, .int .i64 H2, v], .bool ok2]), (4, 32, .tuple #[.agg #[.int .i64 W2, .int .i64 H2, v], .bool ok2]), (5, 37, .agg #[.int .i64 W2, .int .i64 H2, v]), (6, 38, .bool ok2), (7, 9, .pointer (some ⟨n, 0, none⟩)), (9, 10, .bool ok2)] ∧ Below w1.heap.size w1 w' ∧ (b 1 = true → b 3 = false → Moves w' fv anyDom (outM o)) ∧ (b 3 = true → Kd.R kPix 36 w' w1.heap.size (fun _ => True) v l2) ∧ (b 7 = true → w1.heap.size ≤ n) ∧ (b 7 = true → b 8 = false → ResBlk w' n) ∧ (b 8 = true → w'.heap[n]? = some (.cells #[.int .i64 W2, .int .i64 H2, v] 25 (0, 0)))) HT_.out HW_.out (by kernel_rfl) (by kernel_rfl) ?_ ?_ ?_
          · exact ⟨.bool false, .bool false, 0, by simp only [putSel, Bool.false_eq_true, if_false], Below.refl _ _, fun h => absurd h (by decide), fun h => absurd h (by decide), fun h => absurd h (by decide), fun h => absurd h (by decide), fun h => absurd h (by decide)⟩
          ·
            refine steps_cons ?_ ?_
            · rintro b a w' ⟨fv, v, n, ha, hB, hM, hR, hn, hz, hf⟩ hb_ hon hoff
              refine ⟨_, rfl, fun K hK => ?_⟩
              have e8 : a.tmps[8]? = some (.pointer (some ⟨bo, 0, none⟩)) := by rw [ha]; exact (putSel_off rfl).trans rfl
              replace ha := Aside0.mk ha
              have k0 := (HW.out.below hB).h0; have k1 := (HW.out.below hB).h1; have k2 := (HW.out.below hB).h2; have k3 := (HW.out.below hB).h3; have k4 := (HW.out.below hB).h4
              refine value_ (w1 := w') (v := .agg #[.int .i64 o.f0, .int .i64 o.f1, .int .i64 o.f2, .int .i64 o.f3, .int .i64 o.f4]) (by rfl) rfl ?_ ?_
              · go_simp
                try rfl
              exact hK.out _ _ ⟨fv, v, n, (by rw [ha.out]; exact putSel_upk 0 hb_ rfl rfl rfl), hB, hM, hR, hn, hz, hf⟩
            refine steps_cons ?_ ?_
            · rintro b a w' ⟨fv, v, n, ha, hB, hM, hR, hn, hz, hf⟩ hb_ hon hoff
              refine ⟨_, rfl, fun K hK => ?_⟩
              have e33 : a.tmps[33]? = some (.agg #[.int .i64 o.f0, .int .i64 o.f1, .int .i64 o.f2, .int .i64 o.f3, .int .i64 o.f4]) := by rw [ha]; exact putSel_on (e := (0, 33, .agg #[.int .i64 o.f0, .int .i64 o.f1, .int .i64 o.f2, .int .i64 o.f3, .int .i64 o.f4])) 0 rfl rfl (hon 0 (by kernel_rfl)) rfl
              replace ha := Aside0.mk ha
              refine goes_ Try.func37 (by kernel_rfl) rfl #[.agg #[.int .i64 o.f0, .int .i64 o.f1, .int .i64 o.f2, .int .i64 o.f3, .int .i64 o.f4]] (by rfl) rfl rfl (by first | (simp only [List.map_toArray, List.map_cons, List.map_nil, Act.eval, Array.getD_eq_getD_getElem?, Option.getD_some, e33]; done) | (simp only [List.map_toArray, List.map_cons, List.map_nil, Act.eval, Array.getD_eq_getD_getElem?, Option.getD_some, e33]; rfl)) ?_
              refine (moveOf_walk HO.out _).mono ?_
              rintro e w3 ⟨f1, c1, rfl, hM', hb⟩
              refine ⟨_, rfl, ?_⟩
              exact hK.out _ _ ⟨.func f1 #[] c1, v, n, (by rw [ha.out]; exact putSel_upk 1 hb_ rfl rfl rfl), hB.trans (hb.mono hB.size), fun _ _ => hM', fun h => Kd.R_below (hR h) hb, hn, fun h1 h2 => (hz h1 h2).keep hb, fun h => blk_keep (hf h) hb⟩
            refine steps_cons ?_ ?_
            · rintro b a w' ⟨fv, v, n, ha, hB, hM, hR, hn, hz, hf⟩ hb_ hon hoff
              refine ⟨_, rfl, fun K hK => ?_⟩
              have e6 : a.tmps[6]? = some (.pointer (some ⟨g, 0, none⟩)) := by rw [ha]; exact (putSel_off rfl).trans rfl
              replace ha := Aside0.mk ha
              have hg := blk_keep HBD.out hB
              have k0 := (blk_cell hg 0).trans rfl; have k1 := (blk_cell hg 1).trans rfl; have k2 := (blk_cell hg 2).trans rfl
              clear hg
              refine value_ (w1 := w') (v := .agg #[.int .i64 wd', .int .i64 hg', .slice A'' l'.length c'']) (by rfl) rfl ?_ ?_
              · go_simp
                try rfl
              exact hK.out _ _ ⟨fv, v, n, (by rw [ha.out]; exact putSel_upk 2 hb_ rfl rfl rfl), hB, hM, hR, hn, hz, hf⟩
            refine steps_cons ?_ ?_
            · rintro b a w' ⟨fv, v, n, ha, hB, hM, hR, hn, hz, hf⟩ hb_ hon hoff
              refine ⟨_, rfl, fun K hK => ?_⟩
              have e34 : a.tmps[34]? = some (fv) := by rw [ha]; exact putSel_on (e := (1, 34, fv)) 1 rfl rfl (hon 1 (by kernel_rfl)) rfl
              have e35 : a.tmps[35]? = some (.agg #[.int .i64 wd', .int .i64 hg', .slice A'' l'.length c'']) := by rw [ha]; exact putSel_on (e := (2, 35, .agg #[.int .i64 wd', .int .i64 hg', .slice A'' l'.length c''])) 2 rfl rfl (hon 2 (by kernel_rfl)) rfl
              replace ha := Aside0.mk ha
              obtain ⟨fn, caps, hfv, henter, hcall⟩ := hM (hon 1 (by kernel_rfl)) hb_
              rw [hfv] at e34
              refine call_ fn (#[.agg #[.int .i64 wd', .int .i64 hg', .slice A'' l'.length c'']] ++ caps) (by rfl) rfl ?_ ?_
              · unfold execOp
                simp [resolve, Deferred.ofValue, invoke, Act.eval, e34, e35, henter]
              have hc := hcall w' (Below.refl _ _) wd' hg' A'' c'' l' (HPI.out.below hB) trivial
              rw [HOUT.out] at hc
              clear hcall henter
              refine hc.mono ?_
              rintro e w4 ⟨v', rfl, hRv, hb⟩
              refine ⟨_, rfl, ?_⟩
              exact hK.out _ _ ⟨fv, v', n, (by rw [ha.out]; exact put3 hb_ (hoff 4 (by kernel_rfl)) (hoff 5 (by kernel_rfl))), hB.trans (hb.mono hB.size), fun _ h => absurd ((up_self b 3).symm.trans h) (by decide), fun _ => Kd.R_lower hRv hB.size, hn, fun h1 h2 => (hz h1 h2).keep hb, offA_ (hoff 8 (by kernel_rfl))⟩
            refine steps_cons ?_ ?_
            · rintro b a w' ⟨fv, v, n, ha, hB, hM, hR, hn, hz, hf⟩ hb_ hon hoff
              refine ⟨_, rfl, fun K hK => ?_⟩
              have e36 : a.tmps[36]? = some (.tuple #[.agg #[.int .i64 W2, .int .i64 H2, v], .bool ok2]) := by rw [ha]; exact putSel_on (e := (3, 36, .tuple #[.agg #[.int .i64 W2, .int .i64 H2, v], .bool ok2])) 3 rfl rfl (hon 3 (by kernel_rfl)) rfl
              replace ha := Aside0.mk ha
              refine value_ (w1 := w') (v := .tuple #[.agg #[.int .i64 W2, .int .i64 H2, v], .bool ok2]) (by rfl) rfl ?_ ?_
              · go_simp
                try rfl
              exact hK.out _ _ ⟨fv, v, n, (by rw [ha.out]; exact putSel_upk 4 hb_ rfl rfl rfl), hB, hM, hR, hn, hz, hf⟩
            refine steps_cons ?_ ?_
            · rintro b a w' ⟨fv, v, n, ha, hB, hM, hR, hn, hz, hf⟩ hb_ hon hoff
              refine ⟨_, rfl, fun K hK => ?_⟩
              have e32 : a.tmps[32]? = some (.tuple #[.agg #[.int .i64 W2, .int .i64 H2, v], .bool ok2]) := by rw [ha]; exact putSel_on (e := (4, 32, .tuple #[.agg #[.int .i64 W2, .int .i64 H2, v], .bool ok2])) 4 rfl rfl (hon 4 (by kernel_rfl)) rfl
              replace ha := Aside0.mk ha
              refine value_ (w1 := w') (v := .agg #[.int .i64 W2, .int .i64 H2, v]) (by rfl) rfl ?_ ?_
              · go_simp
                try rfl
              exact hK.out _ _ ⟨fv, v, n, (by rw [ha.out]; exact putSel_upk 5 hb_ rfl rfl rfl), hB, hM, hR, hn, hz, hf⟩
            refine steps_cons ?_ ?_
            · rintro b a w' ⟨fv, v, n, ha, hB, hM, hR, hn, hz, hf⟩ hb_ hon hoff
              refine ⟨_, rfl, fun K hK => ?_⟩
              have e32 : a.tmps[32]? = some (.tuple #[.agg #[.int .i64 W2, .int .i64 H2, v], .bool ok2]) := by rw [ha]; exact putSel_on (e := (4, 32, .tuple #[.agg #[.int .i64 W2, .int .i64 H2, v], .bool ok2])) 4 rfl rfl (hon 4 (by kernel_rfl)) rfl
              replace ha := Aside0.mk ha
              refine value_ (w1 := w') (v := .bool ok2) (by rfl) rfl ?_ ?_
              · go_simp
                try rfl
              exact hK.out _ _ ⟨fv, v, n, (by rw [ha.out]; exact putSel_upk 6 hb_ rfl rfl rfl), hB, hM, hR, hn, hz, hf⟩
            refine steps_cons ?_ ?_
            · rintro b a w' ⟨fv, v, n, ha, hB, hM, hR, hn, hz, hf⟩ hb_ hon hoff
              refine ⟨_, rfl, fun K hK => ?_⟩
              replace ha := Aside0.mk ha
              refine value_ (w1 := w'.alloc (.cells #[.int .i64 0, .int .i64 0, .slice none 0 0] 25)) (v := .pointer (some ⟨w'.heap.size, 0, none⟩)) (by rfl) rfl ?_ ?_
              · go_simp
                try rfl
              have hb := below_alloc (Below.refl w'.heap.size w') (.cells #[.int .i64 0, .int .i64 0, .slice none 0 0] 25)
              exact hK.out _ _ ⟨fv, v, w'.heap.size, (by rw [ha.out]; exact putSel_upk 7 hb_ rfl rfl rfl), hB.trans (hb.mono hB.size), fun h1 h2 => (hM h1 h2).below hb, fun h => Kd.R_below (hR h) hb, fun _ => hB.size, fun _ _ => blk_new w' _, offA_ (hoff 8 (by kernel_rfl))⟩
            refine steps_cons ?_ ?_
            · rintro b a w' ⟨fv, v, n, ha, hB, hM, hR, hn, hz, hf⟩ hb_ hon hoff
              refine ⟨_, rfl, fun K hK => ?_⟩
              have e37 : a.tmps[37]? = some (.agg #[.int .i64 W2, .int .i64 H2, v]) := by rw [ha]; exact putSel_on (e := (5, 37, .agg #[.int .i64 W2, .int .i64 H2, v])) 5 rfl rfl (hon 5 (by kernel_rfl)) rfl
              have e9 : a.tmps[9]? = some (.pointer (some ⟨n, 0, none⟩)) := by rw [ha]; exact putSel_on (e := (7, 9, .pointer (some ⟨n, 0, none⟩))) 7 rfl rfl (hon 7 (by kernel_rfl)) rfl
              replace ha := Aside0.mk ha
              obtain ⟨Av, cv, hvv⟩ := Kd.R_slice (hR (hon 3 (by kernel_rfl)))
              subst hvv
              have hzz := hz (hon 7 (by kernel_rfl)) hb_
              have hnn := hn (hon 7 (by kernel_rfl))
              have HZ := Aside0.mk hzz
              have r0 := (blk_cell hzz 0).trans rfl; have r1 := (blk_cell hzz 1).trans rfl; have r2 := (blk_cell hzz 2).trans rfl; have s0 := blk_frozen hzz 0; have s1 := blk_frozen hzz 1; have s2 := blk_frozen hzz 2
              clear hzz
              refine skip_ (w1 := ((w'.setCell ⟨n, 0, none⟩ (.int .i64 W2)).setCell ⟨n, 1, none⟩ (.int .i64 H2)).setCell ⟨n, 2, none⟩ (.slice Av l2.length cv)) (by rfl) rfl ?_ ?_
              · go_simp
                try rfl
              exact hK.out _ _ ⟨fv, .slice Av l2.length cv, n, (by rw [ha.out]; exact (putSel_same rfl).symm), ((hB.setCell hnn _).setCell hnn _).setCell hnn _, fun _ h => absurd ((hon 3 (by kernel_rfl)).symm.trans h) (by decide), fun h => R_far3 (hR h) HZ.out _ _ _, hn, fun _ h => absurd ((up_self b 8).symm.trans h) (by decide), fun _ => ras_put HZ.out _ _ _⟩
            refine steps_cons ?_ ?_
            · rintro b a w' ⟨fv, v, n, ha, hB, hM, hR, hn, hz, hf⟩ hb_ hon hoff
              refine ⟨_, rfl, fun K hK => ?_⟩
              have e38 : a.tmps[38]? = some (.bool ok2) := by rw [ha]; exact putSel_on (e := (6, 38, .bool ok2)) 6 rfl rfl (hon 6 (by kernel_rfl)) rfl
              replace ha := Aside0.mk ha
              refine value_ (w1 := w') (v := .bool ok2) (by rfl) rfl ?_ ?_
              · go_simp
                try rfl
              exact hK.out _ _ ⟨fv, v, n, (by rw [ha.out]; exact putSel_upk 8 hb_ rfl rfl rfl), hB, hM, hR, hn, hz, hf⟩
            exact steps_nil
          rintro b a w2 hall ⟨fv, v, n, ha, hB, hM, hR, hn, hz, hf⟩
          have h0 := hall 0 (by kernel_rfl); have h1 := hall 1 (by kernel_rfl); have h2 := hall 2 (by kernel_rfl); have h3 := hall 3 (by kernel_rfl); have h4 := hall 4 (by kernel_rfl); have h5 := hall 5 (by kernel_rfl); have h6 := hall 6 (by kernel_rfl); have h7 := hall 7 (by kernel_rfl); have h8 := hall 8 (by kernel_rfl); have h9 := hall 9 (by kernel_rfl)
          subst ha
          simp only [putSel, h0, h1, h2, h3, h4, h5, h6, h7, h9, if_true, Act.put, List.setIfInBounds_toArray, List.set_cons_zero, List.set_cons_succ]
          have HRN := Aside0.mk (hR h3)
          have HN := Aside0.mk (hn h7)
          have HF := Aside0.mk (hf h8)
          have HX2 := Aside0.mk (HX.out.keep hB)
          have HBD2 := Aside0.mk (blk_keep HBD.out hB)
          have HS2 := Aside0.mk (Nat.le_trans HBS.out hB.size)
          have HS1 := Aside0.mk HX.out.2.2.size
          have HS0 := Aside0.mk (Nat.le_refl w1.heap.size)
          clear hM hR hn hz hf hall h0 h1 h2 h3 h4 h5 h6 h7 h8 h9 hB HX HBD HRV HPI HW hHeld HT_ HW_
          obtain ⟨Av, cv, hvv⟩ := Kd.R_slice HRN.out
          subst hvv
          have q0 := (blk_cell HF.out 0).trans rfl; have q1 := (blk_cell HF.out 1).trans rfl; have q2 := (blk_cell HF.out 2).trans rfl
          cases ok2 with
          | false =>
            have HDN : Aside0 (doAll os wd hg l = (0, 0, [], false)) := Aside0.mk (by rw [HDO.out.1, HDR.out]; show (if (doI wd' hg' l' o).2.2.2 = true then _ else _) = _; rw [HDI.out, HOUT.out]; rfl)
            have r0 := (blk_cell HX2.out.2.1 0).trans rfl; have r1 := (blk_cell HX2.out.2.1 1).trans rfl; have r2 := (blk_cell HX2.out.2.1 2).trans rfl; have s0 := blk_frozen HX2.out.2.1 0; have s1 := blk_frozen HX2.out.2.1 1; have s2 := blk_frozen HX2.out.2.1 2
            go_wp2
            refine bodyPost_ret (results_ct rfl _ _ (w.heap.size + 1) 25 _ (0, 0) _ rfl (ras_block HX2.out.2.1 0 0 (.slice none 0 0)) Try.underlying25 rfl (by kernel_rfl)) rfl ⟨_, by rw [HDN.out]; rfl, by rw [HDN.out]; exact Kd.R_nil _ _ _ _ _, ?_⟩
            exact below_set (below_set (below_set HX2.out.2.2 (by simp) _) (by simp) _) (by simp) _
          | true =>
            obtain ⟨hm, e1, e2, e3⟩ := outM_true HOUT.out
            have HDN : Aside0 (doAll os wd hg l = doAll (os.drop (i + 1)) W2 H2 l2 ∧ Valid W2 H2 l2) := Aside0.mk ⟨by rw [HDO.out.1, HDR.out]; show (if (doI wd' hg' l' o).2.2.2 = true then _ else _) = _; rw [HDI.out, HOUT.out]; rfl, by rw [e1, e2, e3]; exact valid_picM HO.out HDO.out.2 hm⟩
            clear hm e1 e2 e3
            have HGL : Aside0 (w.heap.size ≤ g) := Aside0.mk (by have := HG.out; omega)
            have r0 := (blk_cell HBD2.out 0).trans rfl; have r1 := (blk_cell HBD2.out 1).trans rfl; have r2 := (blk_cell HBD2.out 2).trans rfl; have s0 := blk_frozen HBD2.out 0; have s1 := blk_frozen HBD2.out 1; have s2 := blk_frozen HBD2.out 2
            go_wp2
            refine ⟨⟨i + 1, W2, H2, l2, Av, cv, hlt', by go_num, HDN, Aside0.mk (ras_put HBD2.out _ _ _), Aside0.mk (Kd.R_lower (R_far3 HRN.out HBD2.out _ _ _) (Nat.le_trans HS1.out HS0.out)), Aside0.mk ⟨heap_far3 HX2.out.1 (by have := HG.out; omega) _ _ _, heap_far3 HX2.out.2.1 (by have := HG.out; omega) _ _ _, below_set (below_set (below_set HX2.out.2.2 HGL.out _) HGL.out _) HGL.out _⟩⟩, by simp [intOf]; omega⟩
        · have hie : i = os.length := by omega
          subst hie
          have HDN : Aside0 (doAll os wd hg l = ((wd' : Int), (hg' : Int), l', true)) := Aside0.mk (by rw [HDO.out.1, List.drop_length]; rfl)
          have q0 := (blk_cell HBD.out 0).trans rfl; have q1 := (blk_cell HBD.out 1).trans rfl; have q2 := (blk_cell HBD.out 2).trans rfl
          have r0 := (blk_cell HX.out.2.1 0).trans rfl; have r1 := (blk_cell HX.out.2.1 1).trans rfl; have r2 := (blk_cell HX.out.2.1 2).trans rfl; have s0 := blk_frozen HX.out.2.1 0; have s1 := blk_frozen HX.out.2.1 1; have s2 := blk_frozen HX.out.2.1 2
          go_wp2
          refine bodyPost_ret (results_ct rfl _ _ (w.heap.size + 1) 25 _ (0, 0) _ rfl (ras_block HX.out.2.1 wd' hg' (.slice A'' l'.length c'')) Try.underlying25 rfl (by kernel_rfl)) rfl ⟨.slice A'' l'.length c'', by rw [HDN.out]; rfl, by rw [HDN.out]; exact R_far3 HRV.out HX.out.2.1 _ _ _, ?_⟩
          exact below_set (below_set (below_set HX.out.2.2 (by simp) _) (by simp) _) (by simp) _
end Go.Proofs.Ytoifpgkfpdeglaa.X
namespace Go.Proofs.Ytoifpgkfpdeglaa.X
open Go.RowKit Go.Proofs.YtoifpgkfpdeglaaW.PrintWords Go.Proofs.YtoifpgkfpdeglaaW.PrintLast Go.Proofs.YtoifpgkfpdeglaaW.PrintMore
attribute [local go_sem] max2_int min2_int max_two min_two max_three min_three max_four min_four
set_option linter.unusedVariables false
set_option linter.unusedSimpArgs false
section
def impl_OpsDo.f (a0_0 : Int) (a0_1 : Int) (l0_2 : List (S36)) (l1 : List (S27)) : Option (Int × Int × (List (S36)) × Bool) := if l1.length ≤ 4611686018427387904 then some (opsI a0_0 a0_1 l0_2 l1) else none
theorem impl_OpsDo.calls (a0_0 : Int) (a0_1 : Int) (A0_2 : Option Addr) (c0_2 : Nat) (l0_2 : List (S36)) (A1 : Option Addr) (c1 : Nat) (l1 : List (S27)) (r1 : Int) (r2 : Int) (r3 : List (S36)) (r4 : Bool) (w : World) (hr0_2 : Kd.C k36 w A0_2 l0_2.length l0_2) (hc0_2 : l0_2.length ≤ c0_2) (hr1 : Kd.C k27 w A1 l1.length l1) (hc1 : l1.length ≤ c1) (h : impl_OpsDo.f a0_0 a0_1 l0_2 l1 = some (r1, r2, r3, r4)) :
    Calls Try.prog 27 #[.agg #[.int .i64 a0_0, .int .i64 a0_1, .slice A0_2 l0_2.length c0_2], .slice A1 l1.length c1] w fun e w' => ∃ v2_ : Value, e = .returned (.tuple #[.agg #[.int .i64 r1, .int .i64 r2, v2_], .bool r4]) ∧ Kd.R k36 36 w' w.heap.size (fun _ => True) v2_ r3 ∧ Below w.heap.size w w' := by
  unfold impl_OpsDo.f at h
  split at h
  · rename_i hl
    have hw := opsDo_walk a0_0 a0_1 A0_2 c0_2 l0_2 A1 c1 l1 w hr0_2 hc0_2 hr1 hc1 hl
    simp only [Option.some.injEq] at h
    rw [h] at hw
    exact hw
  · cases h
end
end Go.Proofs.Ytoifpgkfpdeglaa.X
