/- Lemmas and contracts for the law FnOpCover, part 5: of the program's functions, and over data alone. No condition. -/
import Derived.Test.YtoifpgkfpdeglaaMFnOpCover2
import Derived.Deep.RegionHeld3
import Derived.Deep.QuietTactic
import Derived.BigQuiet
import Derived.StillTailTactics
import Derived.Laws.EntriesVeiled
import Derived.Test.YtoifpgkfpdeglaaMFnOpCover1
import Derived.Test.YtoifpgkfpdeglaaMFnOpCover3
namespace Go.Proofs.Ytoifpgkfpdeglaa.X
open Go.RowKit Go.Proofs.YtoifpgkfpdeglaaW.PrintWords Go.Proofs.YtoifpgkfpdeglaaW.PrintLast Go.Proofs.YtoifpgkfpdeglaaW.PrintMore
set_option linter.unusedVariables false
set_option linter.unusedSimpArgs false
set_option maxHeartbeats 400000 in
theorem row_walk (A A' : Option Addr) (n c n' c' : Nat) (y wd m M : Int) (hm : wrap64 (y * wd) = m) (hM : wrap64 ((y + 1) * wd) = M) (h0 : 0 ≤ y) (h1 : y ≤ 1000)
    (hcut : ∀ W : World, (Instr.slice 96 (.slice A n c) (some (.int .i64 m)) (some (.int .i64 M)) none).run Try.prog W = .ok (.slice A' n' c') W) (w : World) :
    Calls Try.prog 81 #[.slice A n c, .int .i64 y, .int .i64 wd] w fun e w' => e = .returned (.slice A' n' c') ∧ w = w' := by
  go_enter Try.func81, Try.ntmps81
  go_wp2
  go_ret
  exact ⟨rfl, rfl⟩
abbrev Pix := S36
abbrev kPix := k36
theorem infoPix : ∃ i, Try.prog.info? 36 = some i ∧ i.size = 4 := by
  obtain ⟨i, hi, hz⟩ := Option.map_eq_some_iff.1 (by kernel_rfl : (Try.prog.info? 36).map (fun i => i.size) = some 4)
  exact ⟨i, hi, hz⟩
set_option maxHeartbeats 1000000 in
set_option maxRecDepth 100000 in
theorem pixOf_walk (A : Option Addr) (n c : Nat) (wd hg x y : Int) (ad : Addr) (n' c' : Nat) (m M : Int) (hm : wrap64 (y * wd) = m) (hM : wrap64 ((y + 1) * wd) = M) (h0 : 0 ≤ y) (h1 : y ≤ 1000)
    (hcut : ∀ W : World, (Instr.slice 96 (.slice A n c) (some (.int .i64 m)) (some (.int .i64 M)) none).run Try.prog W = .ok (.slice (some ad) n' c') W) (w : World)
    (hx0 : 0 ≤ x) (hx1 : x < n') (p : Pix)
    (hc0 : w.cell? (ad.add (x.toNat * 4)) = some (.int .i64 p.f0)) (hc1 : w.cell? ⟨(ad.add (x.toNat * 4)).block, (ad.add (x.toNat * 4)).off + 1, none⟩ = some (.int .i64 p.f1)) (hc2 : w.cell? ⟨(ad.add (x.toNat * 4)).block, (ad.add (x.toNat * 4)).off + 2, none⟩ = some (.int .i64 p.f2)) (hc3 : w.cell? ⟨(ad.add (x.toNat * 4)).block, (ad.add (x.toNat * 4)).off + 3, none⟩ = some (.int .i64 p.f3)) :
    Calls Try.prog 54 #[.agg #[.int .i64 wd, .int .i64 hg, .slice A n c], .int .i64 x, .int .i64 y] w fun e w' => e = .returned (.agg #[.int .i64 p.f0, .int .i64 p.f1, .int .i64 p.f2, .int .i64 p.f3]) ∧ Below w.heap.size w w' := by
  have up : ∀ {a : Addr} {v : Value} (X Y : Obj), w.cell? a = some v → ((w.alloc X).alloc Y).cell? a = some v := fun {a v} X Y h => pw_cell_below (((Below.refl _ _).alloc (Nat.le_refl _) X).alloc (by simp) Y) h
  have d0 := up (.cells #[.int .i64 wd, .int .i64 hg, .slice A n c] 25) (.cells #[.int .i64 0, .int .i64 0, .int .i64 0, .int .i64 0] 36) hc0
  have d1 := up (.cells #[.int .i64 wd, .int .i64 hg, .slice A n c] 25) (.cells #[.int .i64 0, .int .i64 0, .int .i64 0, .int .i64 0] 36) hc1
  have d2 := up (.cells #[.int .i64 wd, .int .i64 hg, .slice A n c] 25) (.cells #[.int .i64 0, .int .i64 0, .int .i64 0, .int .i64 0] 36) hc2
  have d3 := up (.cells #[.int .i64 wd, .int .i64 hg, .slice A n c] 25) (.cells #[.int .i64 0, .int .i64 0, .int .i64 0, .int .i64 0] 36) hc3
  clear up hc0 hc1 hc2 hc3
  have hu := Try.underlying36
  have HC := Aside0.mk hcut
  have Hm := Aside0.mk hm
  have HM := Aside0.mk hM
  clear hcut hm hM
  go_enter Try.func54, Try.ntmps54
  go_wp2_with (go_at_call 81; refine (row_walk _ _ _ _ _ _ y wd _ _ Hm.out HM.out h0 h1 HC.out _).mono ?_; rintro e w' ⟨rfl, rfl⟩)
  refine bodyPost_ret (v := .agg #[.int .i64 p.f0, .int .i64 p.f1, .int .i64 p.f2, .int .i64 p.f3]) (by simp [results, Try.results54, go_sem]) rfl ⟨rfl, ?_⟩
  exact ((Below.refl _ _).alloc (Nat.le_refl _) _).alloc (by simp) _
def Tells (w : World) (fv : Value) (wd hg : Nat) (f : Nat → Nat → Pix) : Prop :=
  ∃ fn caps, fv = .func (.func fn) #[] caps ∧ (∀ (args : Array Value) (W : World), (callFunc fn args).run Try.prog W = .ok (.enter fn args) W) ∧ ∀ (W : World), Below w.heap.size w W → ∀ x y : Nat, x < wd → y < hg →
    Calls Try.prog fn (#[.int .i64 x, .int .i64 y] ++ caps) W fun e w' => e = .returned (.agg #[.int .i64 (f x y).f0, .int .i64 (f x y).f1, .int .i64 (f x y).f2, .int .i64 (f x y).f3]) ∧ Below W.heap.size W w'
def mk (wd hg : Nat) (f : Nat → Nat → Pix) : List Pix := (List.range (wd * hg)).map fun i => f (i % wd) (i / wd)
def Upto (wd hg : Nat) (f : Nat → Nat → Pix) (n : Nat) (l : List Pix) : Prop := l.length = wd * hg ∧ ∀ i, i < n → l[i]? = some (f (i % wd) (i / wd))
theorem Upto.start (wd hg : Nat) (f : Nat → Nat → Pix) (z : Pix) : Upto wd hg f 0 (List.replicate (wd * hg) z) := ⟨by simp, fun i hi => absurd hi (by omega)⟩
theorem Upto.step {wd hg : Nat} {f : Nat → Nat → Pix} {x y : Nat} {l : List Pix} (hx : x < wd) (hy : y < hg) (h : Upto wd hg f (y * wd + x) l) : Upto wd hg f (y * wd + x + 1) (l.set (y * wd + x) (f x y)) := by
  have hlt : y * wd + x < wd * hg := by
    have : (y + 1) * wd ≤ hg * wd := Nat.mul_le_mul_right _ (by omega)
    rw [Nat.add_mul, Nat.mul_comm hg] at this
    omega
  refine ⟨by rw [List.length_set]; exact h.1, fun i hi => ?_⟩
  by_cases e : i = y * wd + x
  · subst e
    rw [List.getElem?_set_self (by rw [h.1]; exact hlt)]
    have e1 : (y * wd + x) % wd = x := by rw [Nat.add_comm, Nat.add_mul_mod_self_right, Nat.mod_eq_of_lt hx]
    have e2 : (y * wd + x) / wd = y := by rw [Nat.add_comm, Nat.add_mul_div_right _ _ (by omega), Nat.div_eq_of_lt hx]; omega
    rw [e1, e2]
  · rw [List.getElem?_set_ne (by omega)]
    exact h.2 i (by omega)
theorem Upto.done {wd hg : Nat} {f : Nat → Nat → Pix} {l : List Pix} (h : Upto wd hg f (wd * hg) l) : l = mk wd hg f := by
  apply List.ext_getElem?
  intro i
  by_cases hi : i < wd * hg
  · rw [h.2 i hi]
    simp [mk, hi]
  · rw [List.getElem?_eq_none (by rw [h.1]; omega), List.getElem?_eq_none (by simp [mk]; omega)]
def ResBlk (w : World) (b : Nat) : Prop := w.heap[b]? = some (.cells #[.int .i64 0, .int .i64 0, .slice none 0 0] 25 (0, 0))
theorem resBlk_made {w w1 : World} (h : (w.alloc (.cells #[.int .i64 0, .int .i64 0, .slice none 0 0] 25)).grownBy w1 none) : ResBlk w1 w.heap.size := by
  refine ((pw_below_grown (Below.refl (w.alloc (.cells #[.int .i64 0, .int .i64 0, .slice none 0 0] 25)).heap.size _) none (Nat.le_refl _) h (fun k hk => by cases hk)).block w.heap.size ?_).trans ?_
  · show w.heap.size < (w.heap.push _).size
    rw [Array.size_push]; omega
  · show (w.heap.push _)[w.heap.size]? = _
    rw [Array.getElem?_push_size]
theorem ResBlk.keep {w w1 : World} {b : Nat} (h : ResBlk w b) (hb : Below w.heap.size w w1) : ResBlk w1 b := (hb.block b (by
  obtain ⟨hl, _⟩ := Array.getElem?_eq_some_iff.1 h
  exact hl)).trans h
theorem ResBlk.far {w : World} {b : Nat} (h : ResBlk w b) {p : Addr} (hp : b ≠ p.block) {u : Value} : ResBlk (w.setCell p u) b := (Below.heap_setCell w p u b hp).trans h
theorem row_cut {wd hg n g cap : Nat} {i : TypeInfo} (hn : n = wd * hg) (hi : Try.prog.info? 36 = some i) (hs : i.size = 4) (hcap : n ≤ cap) : ∀ y : Nat, y < hg → 0 < wd → ∀ W : World, (Instr.slice 96 (.slice (some ⟨g, 0, none⟩) n cap) (some (.int .i64 ((y * wd : Nat) : Int))) (some (.int .i64 (((y + 1) * wd : Nat) : Int))) none).run Try.prog W = .ok (.slice (some ⟨g, y * wd * 4, none⟩) wd (cap - y * wd)) W := by
  intro y hy hw W
  have h1 : (y + 1) * wd ≤ hg * wd := Nat.mul_le_mul_right _ (by omega)
  have h2 : (y + 1) * wd = y * wd + wd := by rw [Nat.add_mul, Nat.one_mul]
  have h3 : hg * wd = n := by rw [hn, Nat.mul_comm]
  revert h1 h2
  generalize (y + 1) * wd = b
  generalize y * wd = a
  intro h1 h2
  have := cut_mid (P := Try.prog) 96 36 .i64 .i64 Try.underlying96 hi 4 hs (some ⟨g, 0, none⟩) n cap (a : Int) (b : Int) (by omega) (by omega) (by omega) hcap W
  rw [this, if_neg (by rw [Int.toNat_natCast]; omega)]
  simp only [Int.toNat_natCast, Option.map_some, Addr.add, Nat.zero_add]
  rw [show b - a = wd by omega, show (if a * 4 = 0 then (⟨g, 0, none⟩ : Addr) else ⟨g, a * 4, none⟩) = ⟨g, a * 4, none⟩ by split <;> simp_all]
theorem mul_w {a b : Nat} (ha : a ≤ 1000) (hb : b ≤ 1000) : wrap64 ((a : Int) * (b : Int)) = ((a * b : Nat) : Int) := by
  have h : ((a * b : Nat) : Int) ≤ 1000000 := by
    have : a * b ≤ 1000 * 1000 := Nat.mul_le_mul ha hb
    omega
  rw [Int.natCast_mul] at h ⊢
  have h0 : (0 : Int) ≤ (a : Int) * (b : Int) := Int.mul_nonneg (by omega) (by omega)
  unfold wrap64
  omega
theorem mul_w1 {a b : Nat} (ha : a ≤ 1000) (hb : b ≤ 1000) : wrap64 (((a : Int) + 1) * (b : Int)) = (((a + 1) * b : Nat) : Int) := by
  have h : (((a + 1) * b : Nat) : Int) ≤ 1001000 := by
    have : (a + 1) * b ≤ 1001 * 1000 := Nat.mul_le_mul (by omega) hb
    omega
  rw [Int.natCast_mul, Int.natCast_add] at h ⊢
  have h0 : (0 : Int) ≤ ((a : Int) + 1) * (b : Int) := Int.mul_nonneg (by omega) (by omega)
  unfold wrap64
  simp only [Int.natCast_one] at h ⊢
  omega
theorem place_lt {wd hg n x y : Nat} (hx : x < wd) (hy : y < hg) (hn : n = wd * hg) : y * wd + x < n := by
  have : (y + 1) * wd ≤ hg * wd := Nat.mul_le_mul_right _ (by omega)
  rw [Nat.add_mul, Nat.mul_comm hg] at this
  omega
theorem pix_store {W : World} {base g n cap : Nat} {l : List Pix} {ok : Nat → Prop} (h : Kd.R kPix 36 W base ok (.slice (some ⟨g, 0, none⟩) n cap) l) (i o : Nat) (hi : i < n) (ho : o = i * 4) (p : Pix) :
    (∃ a b c d, W.cell? ⟨g, o, none⟩ = some a ∧ W.cell? ⟨g, o + 1, none⟩ = some b ∧ W.cell? ⟨g, o + 2, none⟩ = some c ∧ W.cell? ⟨g, o + 3, none⟩ = some d) ∧ (∀ j, W.frozen? ⟨g, j, none⟩ = false) ∧
      Kd.R kPix 36 ((((W.setCell ⟨g, o, none⟩ (.int .i64 p.f0)).setCell ⟨g, o + 1, none⟩ (.int .i64 p.f1)).setCell ⟨g, o + 2, none⟩ (.int .i64 p.f2)).setCell ⟨g, o + 3, none⟩ (.int .i64 p.f3)) base ok (.slice (some ⟨g, 0, none⟩) n cap) (l.set i p) := by
  subst ho
  obtain ⟨c, hcl, hM, hcc, hfz⟩ := Kd.R_elem h z36 (i : Int) (by omega) (by omega)
  have hc := k36_openM hM
  have hs := (Kd.R_seg h (i : Int) (by omega) (by omega) (c := c) (seg := [.int .i64 p.f0, .int .i64 p.f1, .int .i64 p.f2, .int .i64 p.f3]) (j := 0) hcl hcc (Nat.le_refl 4) (x' := p) (okp := fun k => ok k ∧ k ≠ g) (by rw [hc]; exact k36_mkM _ _ _ p) (fun _ hk => hk)).1
  subst hc
  have h0 := hcc 0 _ rfl
  have h1 := hcc 1 _ rfl
  have h2 := hcc 2 _ rfl
  have h3 := hcc 3 _ rfl
  refine ⟨⟨_, _, _, _, h0, h1, h2, h3⟩, fun j => ?_, hs⟩
  obtain ⟨cs, hcs⟩ := Kd.R_typed h g rfl
  exact blk_frozen hcs j
set_option maxHeartbeats 2000000 in
set_option maxRecDepth 100000 in
theorem newRaster_walk (wd hg : Nat) (hw0 : 1 ≤ wd) (hw1 : wd ≤ 6) (hh0 : 1 ≤ hg) (hh1 : hg ≤ 6) (f : Nat → Nat → Pix) (fv : Value) (w : World) (ht : Tells w fv wd hg f) :
    Calls Try.prog 52 #[.int .i64 wd, .int .i64 hg, fv] w fun e w' => ∃ v, e = .returned (.agg #[.int .i64 wd, .int .i64 hg, v]) ∧ Kd.R kPix 36 w' w.heap.size (fun _ => True) v (mk wd hg f) ∧ Below w.heap.size w w' := by
  obtain ⟨fn, caps, rfl, henter, hcall⟩ := ht
  have HT := Aside0.mk hcall
  clear hcall
  obtain ⟨n, hn⟩ : ∃ n, n = wd * hg := ⟨_, rfl⟩
  have hn1 : 1 ≤ n := by rw [hn]; exact Nat.mul_le_mul hw0 hh0
  have hn2 : n ≤ 36 := by rw [hn]; exact Nat.mul_le_mul hw1 hh1
  have hmul : wrap64 ((wd : Int) * (hg : Int)) = (n : Int) := by
    rw [hn, Int.natCast_mul]
    have : ((wd * hg : Nat) : Int) ≤ 36 := by rw [← hn]; omega
    rw [Int.natCast_mul] at this
    have h0 : (0 : Int) ≤ (wd : Int) * (hg : Int) := Int.mul_nonneg (by omega) (by omega)
    unfold wrap64
    omega
  obtain ⟨iP, hiP, hsP⟩ := infoPix
  have HM := Aside0.mk hmul
  have HN := Aside0.mk hn
  have HI := Aside0.mk hiP
  have HS := Aside0.mk hsP
  clear hn hiP hsP hmul
  go_enter Try.func52, Try.ntmps52
  go_wp2_with (at_make; refine Kd.R_make kPix w.heap.size 36 rfl (N := 14) rfl 96 _ _ rfl (wrap64 ((wd : Int) * (hg : Int))) rfl rfl Try.underlying96 (.agg #[(.int .i64 0), (.int .i64 0), (.int .i64 0), (.int .i64 0)]) 32 info36 rfl (by decide) (by decide) z36 (ok := fun k => w.heap.size < k) (okp := fun k => w.heap.size < k) (k36_mkM _ _ _ z36) (fun _ hk => hk) (by simp) (by rw [HM.out]; omega) (by rw [HM.out]; omega) ((Below.refl _ _).alloc (Nat.le_refl _) _) (by simp) ?_; intro v1 w1 hR hB hgr _)
  rw [HM.out] at hR
  obtain ⟨g, cap, rfl, hg1, hg2, cells, hcells⟩ := Kd.R_form hR (by simp; omega)
  have hgb : w.heap.size < g := hR.1 g rfl
  have hres := resBlk_made hgr
  simp only [HM.out, Int.toNat_natCast, List.length_replicate] at hR ⊢
  have hcap := (Kd.R_reads' hR).2.1
  have HC := Aside0.mk (row_cut HN.out HI.out HS.out hcap (g := g))
  have HU := Aside0.mk (Upto.start wd hg f z36)
  rw [← HN.out] at HU
  clear hgr hcells hcap hg1 hg2
  go_loopw [16] (fun v wr => ∃ (y : Nat) (l : List Pix), y ≤ hg ∧ v = .int .i64 y ∧ Aside0 (Upto wd hg f (y * wd) l) ∧ Aside0 (Kd.R kPix 36 wr w.heap.size (fun k => w.heap.size < k) (.slice (some ⟨g, 0, none⟩) n cap) l) ∧ Aside0 (Below w.heap.size w wr) ∧ Aside0 (ResBlk wr w.heap.size)) (fun v _ => hg - (intOf v).toNat)
  case atStart => exact ⟨0, _, Nat.zero_le _, rfl, Aside0.mk (by rw [Nat.zero_mul]; exact HU.out), Aside0.mk hR, Aside0.mk hB, Aside0.mk hres⟩
  case round =>
    clear hR hB hres HU
    obtain ⟨y, l, hy, rfl, HU, HR, HB, HRES⟩ := hrel
    by_cases hlt : (y : Int) < (hg : Int)
    · have hlt' : y < hg := by omega
      have HY1 := Aside0.mk (mul_w (a := y) (b := wd) (by omega) (by omega))
      have HY2 := Aside0.mk (mul_w1 (a := y) (b := wd) (by omega) (by omega))
      go_wp2_with (go_at_call 81; refine (row_walk (some ⟨g, 0, none⟩) (some ⟨g, y * wd * 4, none⟩) n cap wd (cap - y * wd) y wd _ _ HY1.out HY2.out (by omega) (by omega) (HC.out y hlt' hw0) _).mono ?_; rintro e w' ⟨rfl, rfl⟩)
      go_loopw [25] (fun v wr' => ∃ (x : Nat) (l' : List Pix), x ≤ wd ∧ v = .int .i64 x ∧ Aside0 (Upto wd hg f (y * wd + x) l') ∧ Aside0 (Kd.R kPix 36 wr' w.heap.size (fun k => w.heap.size < k) (.slice (some ⟨g, 0, none⟩) n cap) l') ∧ Aside0 (Below w.heap.size w wr') ∧ Aside0 (ResBlk wr' w.heap.size)) (fun v _ => wd - (intOf v).toNat)
      case atStart => exact ⟨0, l, Nat.zero_le _, rfl, HU, HR, HB, HRES⟩
      case round =>
        clear HU HR HB HRES
        obtain ⟨x, l', hx, rfl, HU, HR, HB, HRES⟩ := hrel
        by_cases hlx : (x : Int) < (wd : Int)
        · have hlx' : x < wd := by omega
          have HLT := Aside0.mk (place_lt hlx' hlt' HN.out)
          go_wp2_with (refine (HT.out _ HB.out x y hlx' hlt').mono ?_; rintro e w2 ⟨rfl, hb2⟩; obtain ⟨⟨u0, u1, u2, u3, e0, e1, e2, e3⟩, ef, hS⟩ := pix_store (Kd.R_below HR.out hb2) (y * wd + x) (y * wd * 4 + x * 4) HLT.out (by rw [Nat.add_mul]) (f x y); have HS2 := Aside0.mk hS; have HB2 := Aside0.mk hb2; clear hb2 hS)
          refine ⟨⟨x + 1, _, hlx', rfl, Aside0.mk (Upto.step hlx' hlt' HU.out), HS2, Aside0.mk ?_, Aside0.mk ?_⟩, by simp [intOf]; omega⟩
          · exact ((((HB.out.trans (HB2.out.mono HB.out.size)).setCell (Nat.le_of_lt hgb) _).setCell (Nat.le_of_lt hgb) _).setCell (Nat.le_of_lt hgb) _).setCell (Nat.le_of_lt hgb) _
          · exact (((((HRES.out).keep HB2.out).far (Nat.ne_of_lt hgb)).far (Nat.ne_of_lt hgb)).far (Nat.ne_of_lt hgb)).far (Nat.ne_of_lt hgb)
        · obtain rfl : x = wd := by omega
          go_wp2
          refine ⟨⟨y + 1, l', hlt', rfl, Aside0.mk (by rw [Nat.add_mul, Nat.one_mul]; exact HU.out), HR, HB, HRES⟩, by simp [intOf]; omega⟩
    · obtain rfl : y = hg := by omega
      have c0 := blk_cell HRES.out 0
      have c1 := blk_cell HRES.out 1
      have c2 := blk_cell HRES.out 2
      have f0 := blk_frozen HRES.out 0
      have f1 := blk_frozen HRES.out 1
      have f2 := blk_frozen HRES.out 2
      simp at c0 c1 c2
      go_wp2
      refine bodyPost_ret (results_cell_row rfl _ _ w.heap.size 25 #[.int .i64 wd, .int .i64 y, .slice (some ⟨g, 0, none⟩) n cap] (0, 0) _ rfl (by refine blk_put (cs := #[.int .i64 wd, .int .i64 y, .slice none 0 0]) ?_ 2 _ rfl; refine blk_put (cs := #[.int .i64 wd, .int .i64 0, .slice none 0 0]) ?_ 1 _ rfl; refine blk_put (cs := #[.int .i64 0, .int .i64 0, .slice none 0 0]) ?_ 0 _ rfl; exact HRES.out) Try.underlying25 rfl (by kernel_rfl)) rfl ?_
      refine ⟨_, rfl, ?_, ((HB.out.setCell (Nat.le_refl _) _).setCell (Nat.le_refl _) _).setCell (Nat.le_refl _) _⟩
      have hl : l = mk wd y f := Upto.done (by rw [Nat.mul_comm]; exact HU.out)
      rw [← hl]
      exact Kd.R_mono (Kd.R_far (p := ⟨w.heap.size, 2, none⟩) (Kd.R_far (p := ⟨w.heap.size, 1, none⟩) (Kd.R_far (p := ⟨w.heap.size, 0, none⟩) HR.out (fun _ hk => Nat.ne_of_gt hk) _) (fun _ hk => Nat.ne_of_gt hk) _) (fun _ hk => Nat.ne_of_gt hk) _) (fun _ _ => trivial)
end Go.Proofs.Ytoifpgkfpdeglaa.X
namespace Go.Proofs.Ytoifpgkfpdeglaa.X
open Go.RowKit Go.Proofs.YtoifpgkfpdeglaaW.PrintWords
set_option linter.unusedVariables false
set_option linter.unusedSimpArgs false
def pix (l : List Pix) (wd x y : Nat) : Pix := l.getD (y * wd + x) z36
theorem mk_length (w h : Nat) (f : Nat → Nat → Pix) : (mk w h f).length = w * h := by simp [mk]
theorem mod_div_lt {w h i : Nat} (hi : i < w * h) : i % w < w ∧ i / w < h := by
  have hw : 0 < w := by
    rcases Nat.eq_zero_or_pos w with h0 | h0
    · subst h0; rw [Nat.zero_mul] at hi; omega
    · exact h0
  exact ⟨Nat.mod_lt _ hw, Nat.div_lt_of_lt_mul hi⟩
theorem mk_mem {w h : Nat} {f : Nat → Nat → Pix} {p : Pix} (hp : p ∈ mk w h f) : ∃ x y, x < w ∧ y < h ∧ p = f x y := by
  unfold mk at hp
  obtain ⟨i, hi, rfl⟩ := List.mem_map.1 hp
  have := mod_div_lt (List.mem_range.1 hi)
  exact ⟨_, _, this.1, this.2, rfl⟩
theorem pix_mem {w h x y : Nat} {l : List Pix} (hl : l.length = w * h) (hx : x < w) (hy : y < h) : pix l w x y ∈ l := by
  have hi := place_lt hx hy hl
  unfold pix
  rw [List.getD_eq_getElem?_getD, List.getElem?_eq_getElem hi]
  exact List.getElem_mem hi
def addP (p q : Pix) : Pix := ⟨wrap64 (p.f0 + q.f0), wrap64 (p.f1 + q.f1), wrap64 (p.f2 + q.f2), wrap64 (p.f3 + q.f3)⟩
def rowSum (l : List Pix) (wd y : Nat) : Nat → Nat → Pix → Pix
  | _, 0, s => s
  | x, m + 1, s => rowSum l wd y (x + 1) m (addP s (pix l wd x y))
def boxSum (l : List Pix) (wd x m : Nat) : Nat → Nat → Pix → Pix
  | _, 0, s => s
  | y, n + 1, s => boxSum l wd x m (y + 1) n (rowSum l wd y x m s)
def nearLo (x : Nat) : Nat := x - 1
def nearMany (x n : Nat) : Nat := min (x + 2) n - (x - 1)
def meanP (s : Pix) (n : Nat) : Pix := ⟨wrap64 (Int.tdiv s.f0 n), wrap64 (Int.tdiv s.f1 n), wrap64 (Int.tdiv s.f2 n), wrap64 (Int.tdiv s.f3 n)⟩
def blurP (l : List Pix) (wd hg x y : Nat) : Pix := meanP (boxSum l wd (nearLo x) (nearMany x wd) (nearLo y) (nearMany y hg) z36) (nearMany y hg * nearMany x wd)
theorem rowSum_snoc (l : List Pix) (wd y : Nat) : ∀ (m x : Nat) (s : Pix), rowSum l wd y x (m + 1) s = addP (rowSum l wd y x m s) (pix l wd (x + m) y) := by
  intro m
  induction m with
  | zero => intro x s; rfl
  | succ m ih =>
    intro x s
    show rowSum l wd y (x + 1) (m + 1) (addP s (pix l wd x y)) = _
    rw [ih]
    show _ = addP (rowSum l wd y (x + 1) m (addP s (pix l wd x y))) _
    rw [show x + 1 + m = x + (m + 1) by omega]
theorem boxSum_snoc (l : List Pix) (wd x m : Nat) : ∀ (n y : Nat) (s : Pix), boxSum l wd x m y (n + 1) s = rowSum l wd (y + n) x m (boxSum l wd x m y n s) := by
  intro n
  induction n with
  | zero => intro y s; rfl
  | succ n ih =>
    intro y s
    show boxSum l wd x m (y + 1) (n + 1) (rowSum l wd y x m s) = _
    rw [ih]
    show _ = rowSum l wd (y + (n + 1)) x m (boxSum l wd x m (y + 1) n (rowSum l wd y x m s))
    rw [show y + 1 + n = y + (n + 1) by omega]
theorem nearMany_pos {x n : Nat} (h : x < n) : 1 ≤ nearMany x n ∧ nearLo x + nearMany x n = min (x + 2) n ∧ nearMany x n ≤ 3 := by
  unfold nearMany nearLo; omega
def grayP (p : Pix) : Pix := ⟨wrap64 (Int.tdiv (wrap64 (wrap64 (wrap64 (77 * p.f0) + wrap64 (150 * p.f1)) + wrap64 (29 * p.f2))) 256), wrap64 (Int.tdiv (wrap64 (wrap64 (wrap64 (77 * p.f0) + wrap64 (150 * p.f1)) + wrap64 (29 * p.f2))) 256), wrap64 (Int.tdiv (wrap64 (wrap64 (wrap64 (77 * p.f0) + wrap64 (150 * p.f1)) + wrap64 (29 * p.f2))) 256), p.f3⟩
def overP (front behind a : Int) : Int := wrap64 (Int.tdiv (wrap64 (wrap64 (front * a) + wrap64 (behind * wrap64 (255 - a)))) 255)
def flatP (a b c : Int) (p : Pix) : Pix := ⟨overP p.f0 a p.f3, overP p.f1 b p.f3, overP p.f2 c p.f3, 255⟩
abbrev Op := S27
def wideM (o : Op) (wd hg : Nat) : Nat := if o.f0 = 1 then o.f3.toNat else if o.f0 = 4 then hg else if o.f0 = 7 then o.f1.toNat else wd
def highM (o : Op) (wd hg : Nat) : Nat := if o.f0 = 1 then o.f4.toNat else if o.f0 = 4 then wd else if o.f0 = 7 then o.f2.toNat else hg
def colM (o : Op) (wd hg : Nat) (l : List Pix) (x y : Nat) : Pix :=
  if o.f0 = 1 then pix l wd (o.f1.toNat + x) (o.f2.toNat + y)
  else if o.f0 = 2 then pix l wd (wd - 1 - x) y
  else if o.f0 = 3 then pix l wd x (hg - 1 - y)
  else if o.f0 = 4 then pix l wd y (hg - 1 - x)
  else if o.f0 = 5 then grayP (pix l wd x y)
  else if o.f0 = 6 then blurP l wd hg x y
  else if o.f0 = 7 then pix l wd ((2 * x + 1) * wd / (2 * o.f1.toNat)) ((2 * y + 1) * hg / (2 * o.f2.toNat))
  else flatP o.f1 o.f2 o.f3 (pix l wd x y)
def hasM (o : Op) (wd hg : Nat) : Bool := if o.f0 = 1 then decide (o.f1 + o.f3 ≤ wd) && decide (o.f2 + o.f4 ≤ hg) else true
def picM (o : Op) (wd hg : Nat) (l : List Pix) : List Pix := mk (wideM o wd hg) (highM o wd hg) (colM o wd hg l)
def OkP (p : Pix) : Prop := (0 ≤ p.f0 ∧ p.f0 ≤ 255) ∧ (0 ≤ p.f1 ∧ p.f1 ≤ 255) ∧ (0 ≤ p.f2 ∧ p.f2 ≤ 255) ∧ (0 ≤ p.f3 ∧ p.f3 ≤ 255)
def Valid (wd hg : Nat) (l : List Pix) : Prop := (1 ≤ wd ∧ wd ≤ 6) ∧ (1 ≤ hg ∧ hg ≤ 6) ∧ l.length = wd * hg ∧ ∀ p ∈ l, OkP p
def OkO (o : Op) : Prop :=
  (o.f0 = 1 ∧ (0 ≤ o.f1 ∧ o.f1 ≤ 5) ∧ (0 ≤ o.f2 ∧ o.f2 ≤ 5) ∧ (1 ≤ o.f3 ∧ o.f3 ≤ 6) ∧ (1 ≤ o.f4 ∧ o.f4 ≤ 6)) ∨
  ((2 ≤ o.f0 ∧ o.f0 ≤ 6) ∧ o.f1 = 0 ∧ o.f2 = 0 ∧ o.f3 = 0 ∧ o.f4 = 0) ∨
  (o.f0 = 7 ∧ (1 ≤ o.f1 ∧ o.f1 ≤ 6) ∧ (1 ≤ o.f2 ∧ o.f2 ≤ 6) ∧ o.f3 = 0 ∧ o.f4 = 0) ∨
  (o.f0 = 8 ∧ (0 ≤ o.f1 ∧ o.f1 ≤ 255) ∧ (0 ≤ o.f2 ∧ o.f2 ≤ 255) ∧ (0 ≤ o.f3 ∧ o.f3 ≤ 255) ∧ o.f4 = 0)
def srcX (o : Op) (wd hg x y : Nat) : Nat := if o.f0 = 1 then o.f1.toNat + x else if o.f0 = 2 then wd - 1 - x else if o.f0 = 3 then x else if o.f0 = 4 then y else if o.f0 = 7 then (2 * x + 1) * wd / (2 * o.f1.toNat) else x
def srcY (o : Op) (wd hg x y : Nat) : Nat := if o.f0 = 1 then o.f2.toNat + y else if o.f0 = 2 then y else if o.f0 = 3 then hg - 1 - y else if o.f0 = 4 then hg - 1 - x else if o.f0 = 7 then (2 * y + 1) * hg / (2 * o.f2.toNat) else y
def isMove (o : Op) : Prop := o.f0 ≠ 5 ∧ o.f0 ≠ 6 ∧ o.f0 ≠ 8
theorem scale_lt {x n m : Nat} (hx : x < n) (hm : 0 < m) : (2 * x + 1) * m / (2 * n) < m := by
  rw [Nat.div_lt_iff_lt_mul (by omega), Nat.mul_comm m]
  exact Nat.mul_lt_mul_of_pos_right (by omega) hm
theorem colM_move {o : Op} (ho : OkO o) (hm : isMove o) (wd hg : Nat) (l : List Pix) (x y : Nat) : colM o wd hg l x y = pix l wd (srcX o wd hg x y) (srcY o wd hg x y) := by
  obtain ⟨h5, h6, h8⟩ := hm
  unfold colM srcX srcY
  rcases ho with ⟨e, -⟩ | ⟨e, -⟩ | ⟨e, -⟩ | ⟨e, -⟩
  · simp [e]
  · have : o.f0 = 2 ∨ o.f0 = 3 ∨ o.f0 = 4 := by omega
    rcases this with e | e | e <;> simp [e]
  · simp [e]
  · omega
theorem hasM_crop {o : Op} {wd hg : Nat} (h : hasM o wd hg = true) (e : o.f0 = 1) : o.f1 + o.f3 ≤ wd ∧ o.f2 + o.f4 ≤ hg := by
  unfold hasM at h
  rw [if_pos e] at h
  simpa using h
theorem src_lt {o : Op} (ho : OkO o) {wd hg : Nat} (hw : 1 ≤ wd) (hh : 1 ≤ hg) (h : hasM o wd hg = true) {x y : Nat} (hx : x < wideM o wd hg) (hy : y < highM o wd hg) : srcX o wd hg x y < wd ∧ srcY o wd hg x y < hg := by
  unfold srcX srcY
  unfold wideM at hx
  unfold highM at hy
  rcases ho with ⟨e, a⟩ | ⟨e, a⟩ | ⟨e, a⟩ | ⟨e, a⟩
  · have := hasM_crop h e
    simp only [e, if_true] at hx hy ⊢
    omega
  · have : o.f0 = 2 ∨ o.f0 = 3 ∨ o.f0 = 4 ∨ o.f0 = 5 ∨ o.f0 = 6 := by omega
    rcases this with e | e | e | e | e <;> simp [e] at hx hy ⊢ <;> omega
  · simp [e] at hx hy ⊢
    exact ⟨scale_lt (by omega) (by omega), scale_lt (by omega) (by omega)⟩
  · simp [e] at hx hy ⊢
    omega
theorem dims_ok {o : Op} (ho : OkO o) {wd hg : Nat} (hw : 1 ≤ wd ∧ wd ≤ 6) (hh : 1 ≤ hg ∧ hg ≤ 6) : (1 ≤ wideM o wd hg ∧ wideM o wd hg ≤ 6) ∧ (1 ≤ highM o wd hg ∧ highM o wd hg ≤ 6) := by
  unfold wideM highM
  rcases ho with ⟨e, a⟩ | ⟨e, a⟩ | ⟨e, a⟩ | ⟨e, a⟩
  · simp [e]; omega
  · have : o.f0 = 2 ∨ o.f0 = 3 ∨ o.f0 = 4 ∨ o.f0 = 5 ∨ o.f0 = 6 := by omega
    rcases this with e | e | e | e | e <;> simp [e] <;> omega
  · simp [e]; omega
  · simp [e]; omega
theorem picM_length (o : Op) (wd hg : Nat) (l : List Pix) : (picM o wd hg l).length = wideM o wd hg * highM o wd hg := mk_length _ _ _
theorem picM_mem {o : Op} {wd hg : Nat} {l : List Pix} {p : Pix} (h : p ∈ picM o wd hg l) : ∃ x y, x < wideM o wd hg ∧ y < highM o wd hg ∧ p = colM o wd hg l x y := mk_mem h
def eachM (c : Pix → Pix) (wd hg : Nat) (l : List Pix) : List Pix := mk wd hg fun x y => c (pix l wd x y)
theorem picM_turn (wd hg : Nat) (l : List Pix) : picM ⟨4, 0, 0, 0, 0⟩ wd hg l = mk hg wd fun x y => pix l wd y (hg - 1 - x) := rfl
theorem picM_flipX (wd hg : Nat) (l : List Pix) : picM ⟨2, 0, 0, 0, 0⟩ wd hg l = mk wd hg fun x y => pix l wd (wd - 1 - x) y := rfl
theorem picM_flipY (wd hg : Nat) (l : List Pix) : picM ⟨3, 0, 0, 0, 0⟩ wd hg l = mk wd hg fun x y => pix l wd x (hg - 1 - y) := rfl
theorem move_mem {o : Op} (ho : OkO o) (hm : isMove o) {wd hg : Nat} (hw : 1 ≤ wd) (hh : 1 ≤ hg) (h : hasM o wd hg = true) {l : List Pix} (hl : l.length = wd * hg) {p : Pix} (hp : p ∈ picM o wd hg l) : p ∈ l := by
  obtain ⟨x, y, hx, hy, rfl⟩ := picM_mem hp
  have hs := src_lt ho hw hh h hx hy
  rw [colM_move ho hm]
  exact pix_mem hl hs.1 hs.2
def SumBd (s : Pix) (n : Int) : Prop := (0 ≤ s.f0 ∧ s.f0 ≤ 255 * n) ∧ (0 ≤ s.f1 ∧ s.f1 ≤ 255 * n) ∧ (0 ≤ s.f2 ∧ s.f2 ≤ 255 * n) ∧ (0 ≤ s.f3 ∧ s.f3 ≤ 255 * n)
theorem addP_bd {s p : Pix} {n : Int} (hs : SumBd s n) (hp : OkP p) (hn : n ≤ 1000) : SumBd (addP s p) (n + 1) := by
  unfold SumBd OkP at *
  unfold addP wrap64
  dsimp only
  omega
theorem rowSum_bd {l : List Pix} {wd y : Nat} : ∀ (m x : Nat) (s : Pix) (n : Int), (∀ x', x ≤ x' → x' < x + m → OkP (pix l wd x' y)) → SumBd s n → n + m ≤ 1000 → SumBd (rowSum l wd y x m s) (n + m) := by
  intro m
  induction m with
  | zero => intro x s n _ hs _; show SumBd s (n + 0); rw [Int.add_zero]; exact hs
  | succ m ih =>
    intro x s n hp hs hn
    have := ih (x + 1) (addP s (pix l wd x y)) (n + 1) (fun x' h1 h2 => hp x' (by omega) (by omega)) (addP_bd hs (hp x (by omega) (by omega)) (by omega)) (by omega)
    rw [show n + 1 + (m : Int) = n + ((m + 1 : Nat) : Int) by omega] at this
    exact this
theorem boxSum_bd {l : List Pix} {wd x m : Nat} (hm : m ≤ 3) : ∀ (k y : Nat) (s : Pix) (n : Int), (∀ x' y', x ≤ x' → x' < x + m → y ≤ y' → y' < y + k → OkP (pix l wd x' y')) → SumBd s n → n + 3 * k ≤ 900 → SumBd (boxSum l wd x m y k s) (n + ((k * m : Nat) : Int)) := by
  intro k
  induction k with
  | zero => intro y s n _ hs _; rw [Nat.zero_mul]; show SumBd s (n + 0); rw [Int.add_zero]; exact hs
  | succ k ih =>
    intro y s n hp hs hn
    have h1 := rowSum_bd m x s n (fun x' a b => hp x' y a b (by omega) (by omega)) hs (by omega)
    have := ih (y + 1) (rowSum l wd y x m s) (n + m) (fun x' y' a b c d => hp x' y' a b (by omega) (by omega)) h1 (by omega)
    rw [show n + (m : Int) + ((k * m : Nat) : Int) = n + (((k + 1) * m : Nat) : Int) by rw [Nat.add_mul, Nat.one_mul]; omega] at this
    exact this
theorem div_bd {s n : Int} (hn : 1 ≤ n) (hn2 : n ≤ 1000) (h0 : 0 ≤ s) (h1 : s ≤ 255 * n) : 0 ≤ wrap64 (Int.tdiv s n) ∧ wrap64 (Int.tdiv s n) ≤ 255 := by
  rw [Int.tdiv_eq_ediv_of_nonneg h0]
  have a : 0 ≤ s / n := Int.ediv_nonneg h0 (by omega)
  have b : s / n ≤ 255 := by
    have := Int.ediv_le_ediv (c := n) (by omega) h1
    rwa [Int.mul_ediv_cancel _ (by omega)] at this
  unfold wrap64
  omega
theorem near_lt {x n x' : Nat} (hx : x < n) (h : x' < nearLo x + nearMany x n) : x' < n := by
  have := nearMany_pos hx
  omega
theorem many_bd {x y wd hg : Nat} (hx : x < wd) (hy : y < hg) : 1 ≤ nearMany y hg * nearMany x wd ∧ nearMany y hg * nearMany x wd ≤ 9 := by
  have h1 := nearMany_pos hx
  have h2 := nearMany_pos hy
  exact ⟨Nat.mul_le_mul h2.1 h1.1, Nat.mul_le_mul h2.2.2 h1.2.2⟩
theorem blurP_ok {wd hg : Nat} {l : List Pix} (hl : l.length = wd * hg) (hp : ∀ p ∈ l, OkP p) {x y : Nat} (hx : x < wd) (hy : y < hg) : OkP (blurP l wd hg x y) := by
  have h1 := nearMany_pos hx
  have h2 := nearMany_pos hy
  have h3 := many_bd hx hy
  have hb := boxSum_bd (l := l) (wd := wd) (x := nearLo x) (m := nearMany x wd) h1.2.2 (nearMany y hg) (nearLo y) z36 0 (fun x' y' a b c d => hp _ (pix_mem hl (near_lt hx b) (near_lt hy d))) (by unfold SumBd; simp [z36]) (by omega)
  rw [Int.zero_add] at hb
  obtain ⟨⟨a0, b0⟩, ⟨a1, b1⟩, ⟨a2, b2⟩, a3, b3⟩ := hb
  unfold blurP meanP
  exact ⟨div_bd (by omega) (by omega) a0 b0, div_bd (by omega) (by omega) a1 b1, div_bd (by omega) (by omega) a2 b2, div_bd (by omega) (by omega) a3 b3⟩
theorem grayP_ok {p : Pix} (h : OkP p) : OkP (grayP p) := by
  unfold OkP at h
  have e : wrap64 (wrap64 (wrap64 (77 * p.f0) + wrap64 (150 * p.f1)) + wrap64 (29 * p.f2)) = 77 * p.f0 + 150 * p.f1 + 29 * p.f2 := by
    unfold wrap64; omega
  have b := div_bd (n := 256) (by omega) (by omega) (show 0 ≤ 77 * p.f0 + 150 * p.f1 + 29 * p.f2 by omega) (by omega)
  unfold grayP OkP
  dsimp only
  rw [e]
  exact ⟨b, b, b, h.2.2.2⟩
theorem overP_ok {f b a : Int} (hf : 0 ≤ f ∧ f ≤ 255) (hb : 0 ≤ b ∧ b ≤ 255) (ha : 0 ≤ a ∧ a ≤ 255) : 0 ≤ overP f b a ∧ overP f b a ≤ 255 := by
  have h1 : 0 ≤ f * a := Int.mul_nonneg hf.1 ha.1
  have h2 : f * a ≤ 255 * a := Int.mul_le_mul_of_nonneg_right hf.2 ha.1
  have h3 : 0 ≤ b * (255 - a) := Int.mul_nonneg hb.1 (by omega)
  have h4 : b * (255 - a) ≤ 255 * (255 - a) := Int.mul_le_mul_of_nonneg_right hb.2 (by omega)
  have w : wrap64 (255 - a) = 255 - a := by unfold wrap64; omega
  unfold overP
  rw [w]
  revert h1 h2 h3 h4
  generalize f * a = u
  generalize b * (255 - a) = v
  intro h1 h2 h3 h4
  have e : wrap64 (wrap64 u + wrap64 v) = u + v := by unfold wrap64; omega
  rw [e]
  exact div_bd (by omega) (by omega) (by omega) (by omega)
theorem flatP_ok {a b c : Int} {p : Pix} (ha : 0 ≤ a ∧ a ≤ 255) (hb : 0 ≤ b ∧ b ≤ 255) (hc : 0 ≤ c ∧ c ≤ 255) (h : OkP p) : OkP (flatP a b c p) := ⟨overP_ok h.1 ha h.2.2.2, overP_ok h.2.1 hb h.2.2.2, overP_ok h.2.2.1 hc h.2.2.2, show (0 : Int) ≤ 255 by decide, show (255 : Int) ≤ 255 by decide⟩
theorem valid_picM {o : Op} (ho : OkO o) {wd hg : Nat} {l : List Pix} (hv : Valid wd hg l) (h : hasM o wd hg = true) : Valid (wideM o wd hg) (highM o wd hg) (picM o wd hg l) := by
  obtain ⟨hw, hh, hl, hp⟩ := hv
  have hd := dims_ok ho hw hh
  refine ⟨hd.1, hd.2, picM_length _ _ _ _, fun p hp' => ?_⟩
  by_cases hm : isMove o
  · exact hp p (move_mem ho hm hw.1 hh.1 h hl hp')
  · obtain ⟨x, y, hx, hy, rfl⟩ := picM_mem hp'
    have : o.f0 = 5 ∨ o.f0 = 6 ∨ o.f0 = 8 := by unfold isMove at hm; omega
    unfold wideM at hx
    unfold highM at hy
    unfold colM
    rcases this with e | e | e
    · simp [e] at hx hy ⊢
      exact grayP_ok (hp _ (pix_mem hl hx hy))
    · simp [e] at hx hy ⊢
      exact blurP_ok hl hp hx hy
    · simp [e] at hx hy ⊢
      rcases ho with ⟨e', -⟩ | ⟨e', -⟩ | ⟨e', -⟩ | ⟨e', a, b, c, -⟩
      · omega
      · omega
      · omega
      · exact flatP_ok a b c (hp _ (pix_mem hl hx hy))
theorem rowSum_alpha {l : List Pix} {wd y : Nat} {v : Int} (hv : 0 ≤ v ∧ v ≤ 255) : ∀ (m x : Nat) (s : Pix), (∀ x', x ≤ x' → x' < x + m → (pix l wd x' y).f3 = v) → 0 ≤ s.f3 → s.f3 + v * m ≤ 1000000 → (rowSum l wd y x m s).f3 = s.f3 + v * m := by
  intro m
  induction m with
  | zero => intro x s _ _ _; simp [rowSum]
  | succ m ih =>
    intro x s hp h0 h1
    have hx := hp x (by omega) (by omega)
    have e : v * ((m + 1 : Nat) : Int) = v * m + v := by rw [Int.natCast_add, Int.mul_add]; simp
    have hvm : 0 ≤ v * (m : Int) := Int.mul_nonneg hv.1 (by omega)
    rw [e] at h1 ⊢
    have ea : (addP s (pix l wd x y)).f3 = s.f3 + v := by
      show wrap64 (s.f3 + (pix l wd x y).f3) = _
      rw [hx]
      unfold wrap64
      omega
    have := ih (x + 1) (addP s (pix l wd x y)) (fun x' a b => hp x' (by omega) (by omega)) (by omega) (by omega)
    show (rowSum l wd y (x + 1) m (addP s (pix l wd x y))).f3 = _
    rw [this, ea]
    omega
theorem boxSum_alpha {l : List Pix} {wd x m : Nat} (hm : m ≤ 3) {v : Int} (hv : 0 ≤ v ∧ v ≤ 255) : ∀ (k y : Nat) (s : Pix), (∀ x' y', x ≤ x' → x' < x + m → y ≤ y' → y' < y + k → (pix l wd x' y').f3 = v) → 0 ≤ s.f3 → s.f3 + 765 * k ≤ 900000 → (boxSum l wd x m y k s).f3 = s.f3 + v * ((k * m : Nat) : Int) := by
  intro k
  induction k with
  | zero => intro y s _ _ _; simp [boxSum]
  | succ k ih =>
    intro y s hp h0 h1
    have hvm : 0 ≤ v * (m : Int) := Int.mul_nonneg hv.1 (by omega)
    have hvm2 : v * (m : Int) ≤ 255 * 3 := Int.mul_le_mul hv.2 (by omega) (by omega) (by omega)
    have hr := rowSum_alpha hv m x s (fun x' a b => hp x' y a b (by omega) (by omega)) h0 (by omega)
    have := ih (y + 1) (rowSum l wd y x m s) (fun x' y' a b c d => hp x' y' a b (by omega) (by omega)) (by omega) (by omega)
    show (boxSum l wd x m (y + 1) k (rowSum l wd y x m s)).f3 = _
    rw [this, hr, Nat.add_mul, Nat.one_mul, Int.natCast_add, Int.mul_add]
    omega
theorem alpha_keep {o : Op} (ho : OkO o) {wd hg : Nat} (hw : 1 ≤ wd) (hh : 1 ≤ hg) {l : List Pix} (hl : l.length = wd * hg) (h : hasM o wd hg = true) {v : Int} (hv : 0 ≤ v ∧ v ≤ 255) (hp : ∀ p ∈ l, p.f3 = v) (h8 : o.f0 ≠ 8 ∨ v = 255) : ∀ p ∈ picM o wd hg l, p.f3 = v := by
  intro p hp'
  by_cases hm : isMove o
  · exact hp p (move_mem ho hm hw hh h hl hp')
  · obtain ⟨x, y, hx, hy, rfl⟩ := picM_mem hp'
    have : o.f0 = 5 ∨ o.f0 = 6 ∨ o.f0 = 8 := by unfold isMove at hm; omega
    unfold wideM at hx
    unfold highM at hy
    unfold colM
    rcases this with e | e | e
    · simp [e] at hx hy ⊢
      show (pix l wd x y).f3 = v
      exact hp _ (pix_mem hl hx hy)
    · simp [e] at hx hy ⊢
      have h1 := nearMany_pos hx
      have h2 := nearMany_pos hy
      have h3 := many_bd hx hy
      have hb := boxSum_alpha (l := l) (wd := wd) (x := nearLo x) (m := nearMany x wd) h1.2.2 hv (nearMany y hg) (nearLo y) z36 (fun x' y' a b c d => hp _ (pix_mem hl (near_lt hx b) (near_lt hy d))) (by decide) (by have : (z36).f3 = 0 := rfl; omega)
      have hz : (z36).f3 = 0 := rfl
      rw [hz, Int.zero_add] at hb
      show wrap64 (Int.tdiv (boxSum l wd (nearLo x) (nearMany x wd) (nearLo y) (nearMany y hg) z36).f3 _) = v
      rw [hb, Int.mul_tdiv_cancel _ (by omega)]
      unfold wrap64
      omega
    · rcases h8 with h8 | h8
      · exact absurd e h8
      · subst h8
        simp [e]
        rfl
end Go.Proofs.Ytoifpgkfpdeglaa.X
namespace Go.Proofs.Ytoifpgkfpdeglaa.X
open Go.RowKit Go.Proofs.YtoifpgkfpdeglaaW.PrintWords Go.Proofs.YtoifpgkfpdeglaaW.PrintLast Go.Proofs.YtoifpgkfpdeglaaW.PrintMore
set_option linter.unusedVariables false
set_option linter.unusedSimpArgs false
theorem pixOf_has (A : Option Addr) (c : Nat) (wd hg : Nat) (l : List Pix) (w : World) (hC : Kd.C kPix w A l.length l) (hc : l.length ≤ c) (hl : l.length = wd * hg) (hw0 : 1 ≤ wd) (hw1 : wd ≤ 6) (hh1 : hg ≤ 6) (x y : Nat) (hx : x < wd) (hy : y < hg) :
    Calls Try.prog 54 #[.agg #[.int .i64 wd, .int .i64 hg, .slice A l.length c], .int .i64 x, .int .i64 y] w fun e w' => e = .returned (.agg #[.int .i64 (pix l wd x y).f0, .int .i64 (pix l wd x y).f1, .int .i64 (pix l wd x y).f2, .int .i64 (pix l wd x y).f3]) ∧ Below w.heap.size w w' := by
  have y1 : y ≤ 1000 := Nat.le_trans (Nat.le_of_lt (Nat.lt_of_lt_of_le hy hh1)) (by decide)
  have wd1 : wd ≤ 1000 := Nat.le_trans hw1 (by decide)
  have HM1 := Aside0.mk (mul_w (a := y) (b := wd) y1 wd1)
  have HM2 := Aside0.mk (mul_w1 (a := y) (b := wd) y1 wd1)
  obtain ⟨iP, hiP, hsP⟩ := infoPix
  have h1 : (y + 1) * wd ≤ hg * wd := Nat.mul_le_mul_right _ (by omega)
  have h2 : (y + 1) * wd = y * wd + wd := by rw [Nat.add_mul, Nat.one_mul]
  have h3 : hg * wd = l.length := by rw [hl, Nat.mul_comm]
  obtain ⟨a, ha⟩ : ∃ a, a = y * wd := ⟨_, rfl⟩
  obtain ⟨b, hb⟩ : ∃ b, b = (y + 1) * wd := ⟨_, rfl⟩
  rw [← ha] at HM1 h2
  rw [← hb] at HM2 h1 h2
  have hcut := cut_mid (P := Try.prog) 96 36 .i64 .i64 Try.underlying96 hiP 4 hsP A l.length c (a : Int) (b : Int) (by omega) (by omega) (by omega) hc
  have hr := Kd.C_mid (lo := a) (hi := b) (c := c) hC (by omega) (by omega) hc
  have hn : ((l.take b).drop a).length = wd := by rw [List.length_drop, List.length_take]; omega
  obtain ⟨ad, had, q0, q1, q2, q3⟩ := at_T36 hr (x : Int) (by omega) (by omega)
  have hp : rd_T36 ((l.take b).drop a) (x : Int) = pix l wd x y := by
    unfold rd_T36 pix
    rw [← ha, List.getD_eq_getElem?_getD, List.getD_eq_getElem?_getD, Int.toNat_natCast, List.getElem?_drop, List.getElem?_take, if_pos (by omega)]
  rw [hp] at q0 q1 q2 q3
  refine pixOf_walk A l.length c wd hg x y ad wd (c - a) _ _ HM1.out HM2.out (by omega) (by omega) (fun W => ?_) w (by omega) (by omega) (pix l wd x y) q0 q1 q2 q3
  rw [hcut W]
  simp only [Int.toNat_natCast] at had ⊢
  rw [← had, show b - a = wd by omega]
  rfl
theorem enter_any {f : FuncId} {fn : Func} {c : Code} (hf : Try.prog.funcs[f]? = some fn) (hname : (fn.name == "runtime.NumGoroutine") = false) (hb : fn.body = some c) (args : Array Value) (w : World) :
    (callFunc f args).run Try.prog w = .ok (.enter f args) w := by
  have h1 : fn.name ≠ "runtime.NumGoroutine" := by simpa using hname
  simp [callFunc, hf, h1, hb]
def Sizes (w : World) (fv : Value) (wd hg W' H' : Nat) : Prop :=
  ∃ fn caps, fv = .func (.func fn) #[] caps ∧ (∀ (args : Array Value) (W : World), (callFunc fn args).run Try.prog W = .ok (.enter fn args) W) ∧ ∀ (W : World), Below w.heap.size w W → ∀ (A : Option Addr) (n c : Nat),
    Calls Try.prog fn (#[.agg #[.int .i64 wd, .int .i64 hg, .slice A n c]] ++ caps) W fun e w' => e = .returned (.tuple #[.int .i64 W', .int .i64 H']) ∧ Below W.heap.size W w'
def Froms (w : World) (fv : Value) (wd hg W' H' : Nat) (X Y : Nat → Nat → Nat) : Prop :=
  ∃ fn caps, fv = .func (.func fn) #[] caps ∧ (∀ (args : Array Value) (W : World), (callFunc fn args).run Try.prog W = .ok (.enter fn args) W) ∧ ∀ (W : World), Below w.heap.size w W → ∀ (A : Option Addr) (n c : Nat) (x y : Nat), x < W' → y < H' →
    Calls Try.prog fn (#[.agg #[.int .i64 wd, .int .i64 hg, .slice A n c], .int .i64 x, .int .i64 y] ++ caps) W fun e w' => e = .returned (.tuple #[.int .i64 (X x y), .int .i64 (Y x y)]) ∧ Below W.heap.size W w'
def Pixs (w : World) (fv : Value) (F : Pix → Pix) : Prop :=
  ∃ fn caps, fv = .func (.func fn) #[] caps ∧ (∀ (args : Array Value) (W : World), (callFunc fn args).run Try.prog W = .ok (.enter fn args) W) ∧ ∀ (W : World), Below w.heap.size w W → ∀ p : Pix,
    Calls Try.prog fn (#[.agg #[.int .i64 p.f0, .int .i64 p.f1, .int .i64 p.f2, .int .i64 p.f3]] ++ caps) W fun e w' => e = .returned (.agg #[.int .i64 (F p).f0, .int .i64 (F p).f1, .int .i64 (F p).f2, .int .i64 (F p).f3]) ∧ Below W.heap.size W w'
structure Pict (w : World) (wd hg : Nat) (A : Option Addr) (c : Nat) (l : List Pix) : Prop where
  rd : Kd.C kPix w A l.length l
  cap : l.length ≤ c
  len : l.length = wd * hg
  w0 : 1 ≤ wd
  w1 : wd ≤ 6
  h0 : 1 ≤ hg
  h1 : hg ≤ 6
theorem Pict.below {w W : World} {wd hg : Nat} {A : Option Addr} {c : Nat} {l : List Pix} (h : Pict w wd hg A c l) (hb : Below w.heap.size w W) : Pict W wd hg A c l :=
  ⟨Kd.C_below h.rd hb, h.cap, h.len, h.w0, h.w1, h.h0, h.h1⟩
theorem Pict.at_ {w : World} {wd hg : Nat} {A : Option Addr} {c : Nat} {l : List Pix} (h : Pict w wd hg A c l) (x y : Nat) (hx : x < wd) (hy : y < hg) :
    Calls Try.prog 54 #[.agg #[.int .i64 wd, .int .i64 hg, .slice A l.length c], .int .i64 x, .int .i64 y] w fun e w' => e = .returned (.agg #[.int .i64 (pix l wd x y).f0, .int .i64 (pix l wd x y).f1, .int .i64 (pix l wd x y).f2, .int .i64 (pix l wd x y).f3]) ∧ Below w.heap.size w w' :=
  pixOf_has A c wd hg l w h.rd h.cap h.len h.w0 h.w1 h.h1 x y hx hy
theorem below_made {W w1 : World} {O : Obj} (h : Below (W.alloc O).heap.size (W.alloc O) w1) : Below W.heap.size W w1 := ((Below.refl _ _).alloc (Nat.le_refl _) O).trans (h.mono (by simp))
theorem blk_keep {w w1 : World} {b : Nat} {O : Obj} (h : w.heap[b]? = some O) (hb : Below w.heap.size w w1) : w1.heap[b]? = some O := (hb.block b (Array.getElem?_eq_some_iff.1 h).1).trans h
theorem below_set {n : Nat} {w W : World} (h : Below n w W) {p : Addr} (hp : n ≤ p.block) (v : Value) : Below n w (W.setCell p v) := h.setCell hp v
theorem pix_block {W : World} {g : Nat} {z : Int} (h : W.heap[g]? = some (.cells #[.int .i64 z, .int .i64 z, .int .i64 z, .int .i64 z] 36 (0, 0))) (p : Pix) :
    ((((W.setCell ⟨g, 0, none⟩ (.int .i64 p.f0)).setCell ⟨g, 1, none⟩ (.int .i64 p.f1)).setCell ⟨g, 2, none⟩ (.int .i64 p.f2)).setCell ⟨g, 3, none⟩ (.int .i64 p.f3)).heap[g]? = some (.cells #[.int .i64 p.f0, .int .i64 p.f1, .int .i64 p.f2, .int .i64 p.f3] 36 (0, 0)) :=
  blk_put (cs := #[.int .i64 p.f0, .int .i64 p.f1, .int .i64 p.f2, .int .i64 z]) (blk_put (cs := #[.int .i64 p.f0, .int .i64 p.f1, .int .i64 z, .int .i64 z]) (blk_put (cs := #[.int .i64 p.f0, .int .i64 z, .int .i64 z, .int .i64 z]) (blk_put (cs := #[.int .i64 z, .int .i64 z, .int .i64 z, .int .i64 z]) h 0 _ rfl) 1 _ rfl) 2 _ rfl) 3 _ rfl
set_option maxHeartbeats 1000000 in
set_option maxRecDepth 100000 in
theorem tells_places {w : World} {wd hg W' H' : Nat} {X Y : Nat → Nat → Nat} {l : List Pix} {A : Option Addr} {c : Nat} {fv : Value} {p : Addr} {b : Nat} (hP : Pict w wd hg A c l) (hp : w.cell? p = some fv)
    (h0 : w.cell? ⟨b, 0, none⟩ = some (.int .i64 wd)) (h1 : w.cell? ⟨b, 1, none⟩ = some (.int .i64 hg)) (h2 : w.cell? ⟨b, 2, none⟩ = some (.slice A l.length c)) (hF : Froms w fv wd hg W' H' X Y) (hs : ∀ x y, x < W' → y < H' → X x y < wd ∧ Y x y < hg) :
    Tells w (.func (.func 86) #[] #[.pointer (some p), .pointer (some ⟨b, 0, none⟩)]) W' H' (fun x y => pix l wd (X x y) (Y x y)) := by
  refine ⟨_, _, rfl, enter_any Try.func86 rfl rfl, fun W hB x y hx hy => ?_⟩
  obtain ⟨fn, caps, rfl, henter, hcall⟩ := hF
  have up : ∀ {a : Addr} {v : Value}, w.cell? a = some v → ∀ O, (W.alloc O).cell? a = some v := fun h O => pw_cell_below (below_alloc (Below.refl _ _) O) (pw_cell_below hB h)
  have g0 := up h0
  have g1 := up h1
  have g2 := up h2
  have gp := up hp
  clear up
  have HP := Aside0.mk (hP.below hB)
  have HC := Aside0.mk hcall
  have HB := Aside0.mk hB
  have HS := Aside0.mk (hs x y hx hy)
  clear hcall hB hP h0 h1 h2 hp hs
  show Calls Try.prog 86 #[.int .i64 x, .int .i64 y, .pointer (some p), .pointer (some ⟨b, 0, none⟩)] W _
  go_enter Try.func86, Try.ntmps86
  go_wp2_with (first | (go_at_call 54; refine ((HP.out.below (below_made HB1.out)).at_ (X x y) (Y x y) HS.out.1 HS.out.2).mono ?_; rintro e w2 ⟨rfl, hb2⟩; have BK2 := Aside0.mk (blk_keep BK.out hb2); have r0 := (blk_cell BK2.out 0).trans rfl; have r1 := (blk_cell BK2.out 1).trans rfl; have r2 := (blk_cell BK2.out 2).trans rfl; have r3 := (blk_cell BK2.out 3).trans rfl; have s0 := blk_frozen BK2.out 0; have s1 := blk_frozen BK2.out 1; have s2 := blk_frozen BK2.out 2; have s3 := blk_frozen BK2.out 3; have HB2 := Aside0.mk hb2; clear hb2 BK) | (refine (HC.out _ (HB.out.alloc HB.out.size _) A l.length c x y hx hy).mono ?_; rintro e w1 ⟨rfl, hb1⟩; have k0 := pw_cell_below hb1 (g0 _); have k1 := pw_cell_below hb1 (g1 _); have k2 := pw_cell_below hb1 (g2 _); have BK := Aside0.mk (blk_keep (blk_new W _) hb1); have HB1 := Aside0.mk hb1; clear hb1 g0 g1 g2 gp))
  have HS2 := Aside0.mk (pix_block (BK2.out) (pix l wd (X x y) (Y x y)))
  refine bodyPost_ret (results_cell_row rfl _ _ W.heap.size 36 _ (0, 0) _ rfl HS2.out Try.underlying36 rfl (by kernel_rfl)) rfl ⟨rfl, ?_⟩
  exact below_set (below_set (below_set (below_set ((below_made HB1.out).trans (HB2.out.mono (below_made HB1.out).size)) (Nat.le_refl _) _) (Nat.le_refl _) _) (Nat.le_refl _) _) (Nat.le_refl _) _
theorem ras_block {W : World} {g : Nat} (h : ResBlk W g) (a b : Int) (v : Value) :
    (((W.setCell ⟨g, 0, none⟩ (.int .i64 a)).setCell ⟨g, 1, none⟩ (.int .i64 b)).setCell ⟨g, 2, none⟩ v).heap[g]? = some (.cells #[.int .i64 a, .int .i64 b, v] 25 (0, 0)) :=
  blk_put (cs := #[.int .i64 a, .int .i64 b, .slice none 0 0]) (blk_put (cs := #[.int .i64 a, .int .i64 0, .slice none 0 0]) (blk_put (cs := #[.int .i64 0, .int .i64 0, .slice none 0 0]) h 0 _ rfl) 1 _ rfl) 2 _ rfl
theorem Sizes.below {w W : World} {fv : Value} {wd hg W' H' : Nat} (h : Sizes w fv wd hg W' H') (hb : Below w.heap.size w W) : Sizes W fv wd hg W' H' := by
  obtain ⟨fn, caps, e, he, hc⟩ := h
  exact ⟨fn, caps, e, he, fun W2 hb2 => hc W2 (hb.trans (hb2.mono hb.size))⟩
theorem Froms.below {w W : World} {fv : Value} {wd hg W' H' : Nat} {X Y : Nat → Nat → Nat} (h : Froms w fv wd hg W' H' X Y) (hb : Below w.heap.size w W) : Froms W fv wd hg W' H' X Y := by
  obtain ⟨fn, caps, e, he, hc⟩ := h
  exact ⟨fn, caps, e, he, fun W2 hb2 => hc W2 (hb.trans (hb2.mono hb.size))⟩
theorem Pixs.below {w W : World} {fv : Value} {F : Pix → Pix} (h : Pixs w fv F) (hb : Below w.heap.size w W) : Pixs W fv F := by
  obtain ⟨fn, caps, e, he, hc⟩ := h
  exact ⟨fn, caps, e, he, fun W2 hb2 => hc W2 (hb.trans (hb2.mono hb.size))⟩
theorem below_made2 {W w1 : World} {O1 O2 : Obj} (h : Below ((W.alloc O1).alloc O2).heap.size ((W.alloc O1).alloc O2) w1) : Below W.heap.size W w1 :=
  (((Below.refl _ _).alloc (Nat.le_refl _) O1).alloc (by simp) O2).trans (h.mono (by simp; omega))
theorem below_two {w W : World} (h : Below w.heap.size w W) (O1 O2 : Obj) : Below w.heap.size w ((W.alloc O1).alloc O2) := (h.alloc h.size O1).alloc (by have := h.size; simp; omega) O2
theorem made2 {W w1 : World} {O1 O2 : Obj} (h : Below ((W.alloc O1).alloc O2).heap.size ((W.alloc O1).alloc O2) w1) : w1.heap[W.heap.size]? = some O1 ∧ w1.heap[W.heap.size + 1]? = some O2 := by
  have a : ((W.alloc O1).alloc O2).heap[W.heap.size]? = some O1 := blk_keep (by show (W.heap.push O1)[W.heap.size]? = _; simp) (below_alloc (Below.refl _ _) _)
  have b : ((W.alloc O1).alloc O2).heap[W.heap.size + 1]? = some O2 := by
    show ((W.heap.push O1).push O2)[W.heap.size + 1]? = _
    have := Array.getElem?_push_size (xs := W.heap.push O1) (x := O2)
    rwa [Array.size_push] at this
  exact ⟨blk_keep a h, blk_keep b h⟩
theorem R_ret {w2 : World} {base0 base1 g : Nat} {v : Value} {xs : List Pix} (hR : Kd.R kPix 36 w2 base1 (fun _ => True) v xs) (hlow : base0 ≤ base1) (hg : g < base1) (a b u : Value) :
    Kd.R kPix 36 (((w2.setCell ⟨g, 0, none⟩ a).setCell ⟨g, 1, none⟩ b).setCell ⟨g, 2, none⟩ u) base0 (fun _ => True) v xs :=
  Kd.R_mono (Kd.R_lower (Kd.R_far (p := ⟨g, 2, none⟩) (Kd.R_far (p := ⟨g, 1, none⟩) (Kd.R_far (p := ⟨g, 0, none⟩) (Kd.R_bound hR) (fun k hk => by have := hk.2.1; show k ≠ g; omega) a) (fun k hk => by have := hk.2.1; show k ≠ g; omega) b) (fun k hk => by have := hk.2.1; show k ≠ g; omega) u) hlow) (fun _ _ => trivial)
def Moves (w : World) (fv : Value) (dom : Nat → Nat → Prop) (G : Nat → Nat → List Pix → Nat × Nat × List Pix × Bool) : Prop :=
  ∃ fn caps, fv = .func (.func fn) #[] caps ∧ (∀ (args : Array Value) (W : World), (callFunc fn args).run Try.prog W = .ok (.enter fn args) W) ∧ ∀ (W : World), Below w.heap.size w W → ∀ (wd hg : Nat) (A : Option Addr) (c : Nat) (l : List Pix), Pict W wd hg A c l → dom wd hg →
    Calls Try.prog fn (#[.agg #[.int .i64 wd, .int .i64 hg, .slice A l.length c]] ++ caps) W fun e w' => ∃ v, e = .returned (.tuple #[.agg #[.int .i64 (G wd hg l).1, .int .i64 (G wd hg l).2.1, v], .bool (G wd hg l).2.2.2]) ∧ Kd.R kPix 36 w' W.heap.size (fun _ => True) v (G wd hg l).2.2.1 ∧ Below W.heap.size W w'
def placesG (SW SH : Nat → Nat → Nat) (X Y : Nat → Nat → Nat → Nat → Nat) (wd hg : Nat) (l : List Pix) : Nat × Nat × List Pix × Bool := (SW wd hg, SH wd hg, mk (SW wd hg) (SH wd hg) (fun x y => pix l wd (X wd hg x y) (Y wd hg x y)), true)
set_option maxHeartbeats 2000000 in
set_option maxRecDepth 100000 in
theorem moves_places {w : World} {fv1 fv2 : Value} {p1 p2 : Addr} (hp1 : w.cell? p1 = some fv1) (hp2 : w.cell? p2 = some fv2) (dom : Nat → Nat → Prop) (SW SH : Nat → Nat → Nat) (X Y : Nat → Nat → Nat → Nat → Nat)
    (hd : ∀ wd hg, dom wd hg → 1 ≤ wd → wd ≤ 6 → 1 ≤ hg → hg ≤ 6 → Sizes w fv1 wd hg (SW wd hg) (SH wd hg) ∧ Froms w fv2 wd hg (SW wd hg) (SH wd hg) (X wd hg) (Y wd hg) ∧ (1 ≤ SW wd hg ∧ SW wd hg ≤ 6 ∧ 1 ≤ SH wd hg ∧ SH wd hg ≤ 6) ∧ ∀ x y, x < SW wd hg → y < SH wd hg → X wd hg x y < wd ∧ Y wd hg x y < hg) :
    Moves w (.func (.func 85) #[] #[.pointer (some p1), .pointer (some p2)]) dom (placesG SW SH X Y) := by
  refine ⟨_, _, rfl, enter_any Try.func85 rfl rfl, fun W hB wd hg A c l hP hdom => ?_⟩
  obtain ⟨hS, hF, hz, hs⟩ := hd wd hg hdom hP.w0 hP.w1 hP.h0 hP.h1
  have HF := Aside0.mk (hF.below hB)
  have HS := Aside0.mk hs
  have HZ := Aside0.mk hz
  have HP := Aside0.mk hP
  obtain ⟨fn, caps, rfl, henter, hcall⟩ := hS
  have up : ∀ {a : Addr} {v : Value}, w.cell? a = some v → ∀ O1 O2, ((W.alloc O1).alloc O2).cell? a = some v := fun h O1 O2 => pw_cell_below (below_alloc (Below.refl _ _) O2) (pw_cell_below (below_alloc (Below.refl _ _) O1) (pw_cell_below hB h))
  have g1 := up hp1
  have g2 := up hp2
  have HC := Aside0.mk hcall
  have HB := Aside0.mk hB
  clear hcall hB hP hs hz hF hd up hp1 hp2
  show Calls Try.prog 85 #[.agg #[.int .i64 wd, .int .i64 hg, .slice A l.length c], .pointer (some p1), .pointer (some p2)] W _
  go_enter Try.func85, Try.ntmps85
  go_wp2_with (first | (go_at_call 52; refine (newRaster_walk (SW wd hg) (SH wd hg) HZ.out.1 HZ.out.2.1 HZ.out.2.2.1 HZ.out.2.2.2 (fun x y => pix l wd (X wd hg x y) (Y wd hg x y)) _ w1 (tells_places (HP.out.below HB1.out) k2 ((blk_cell BK.out 0).trans rfl) ((blk_cell BK.out 1).trans rfl) ((blk_cell BK.out 2).trans rfl) (HF.out.below HB1.out) HS.out)).mono ?_; rintro e w2 ⟨v, rfl, hR, hb2⟩; obtain ⟨A', c', rfl⟩ := Kd.R_slice hR; have BR2 : Aside0 (ResBlk w2 (W.heap.size + 1)) := Aside0.mk (BR.out.keep hb2); have r0 := (blk_cell BR2.out 0).trans rfl; have r1 := (blk_cell BR2.out 1).trans rfl; have r2 := (blk_cell BR2.out 2).trans rfl; have s0 := blk_frozen BR2.out 0; have s1 := blk_frozen BR2.out 1; have s2 := blk_frozen BR2.out 2; have HLT : Aside0 (W.heap.size + 1 < w1.heap.size) := Aside0.mk (Array.getElem?_eq_some_iff.1 BR.out).1; have HR := Aside0.mk hR; have HB2 := Aside0.mk hb2; clear hb2 hR BR BK k2) | (refine (HC.out _ (below_two HB.out _ _) A l.length c).mono ?_; rintro e w1 ⟨rfl, hb1⟩; have k2 := pw_cell_below hb1 (g2 _ _); have BK := Aside0.mk (made2 hb1).1; have BR : Aside0 (ResBlk w1 (W.heap.size + 1)) := Aside0.mk (made2 hb1).2; have HB1 := Aside0.mk (below_made2 hb1); clear hb1 g1 g2 HC))
  refine bodyPost_ret (results_ct rfl _ _ (W.heap.size + 1) 25 _ (0, 0) _ rfl (ras_block BR2.out _ _ _) Try.underlying25 rfl (by kernel_rfl)) rfl ⟨_, rfl, R_ret HR.out HB1.out.size HLT.out _ _ _, ?_⟩
  exact below_set (below_set (below_set (HB1.out.trans (HB2.out.mono HB1.out.size)) (by simp) _) (by simp) _) (by simp) _
end Go.Proofs.Ytoifpgkfpdeglaa.X
namespace Go.Proofs.Ytoifpgkfpdeglaa.X
open Go.RowKit Go.Proofs.YtoifpgkfpdeglaaW.PrintWords Go.Proofs.YtoifpgkfpdeglaaW.PrintLast Go.Proofs.YtoifpgkfpdeglaaW.PrintMore
set_option linter.unusedVariables false
set_option linter.unusedSimpArgs false
theorem below_madeD {W w1 : World} {O : Obj} (h : Below (W.alloc O).drew.heap.size (W.alloc O).drew w1) : Below W.heap.size W w1 := ((Below.refl _ _).alloc (Nat.le_refl _) O).drew.trans (h.mono (by show W.heap.size ≤ (W.alloc O).heap.size; simp))
theorem belowD (W : World) (O : Obj) : Below W.heap.size W (W.alloc O).drew := ((Below.refl _ _).alloc (Nat.le_refl _) O).drew
theorem far4 {n : Nat} {w2 : World} {a : Addr} {v : Value} (h : w2.cell? a = some v) (hlt : a.block < n) (u0 u1 u2 u3 : Value) :
    ((((w2.setCell ⟨n, 0, none⟩ u0).setCell ⟨n, 1, none⟩ u1).setCell ⟨n, 2, none⟩ u2).setCell ⟨n, 3, none⟩ u3).cell? a = some v :=
  (((((Below.refl n w2).setCell (Nat.le_refl _) u0).setCell (Nat.le_refl _) u1).setCell (Nat.le_refl _) u2).setCell (Nat.le_refl _) u3 |>.cell hlt).trans h
theorem keep_madeD {W w1 : World} {O : Obj} (h : Below (W.alloc O).drew.heap.size (W.alloc O).drew w1) : w1.heap[W.heap.size]? = some O := blk_keep (w := (W.alloc O).drew) (blk_new W _) h
theorem cell_madeD {W w1 : World} {O : Obj} {a : Addr} {v : Value} (h : Below (W.alloc O).drew.heap.size (W.alloc O).drew w1) (hc : (W.alloc O).cell? a = some v) : w1.cell? a = some v := pw_cell_below (w := (W.alloc O).drew) h hc
set_option maxHeartbeats 1000000 in
set_option maxRecDepth 100000 in
theorem tells_colours {w : World} {wd hg : Nat} {F : Pix → Pix} {l : List Pix} {A : Option Addr} {c : Nat} {fv : Value} {p : Addr} {b : Nat} (hP : Pict w wd hg A c l) (hp : w.cell? p = some fv)
    (h0 : w.cell? ⟨b, 0, none⟩ = some (.int .i64 wd)) (h1 : w.cell? ⟨b, 1, none⟩ = some (.int .i64 hg)) (h2 : w.cell? ⟨b, 2, none⟩ = some (.slice A l.length c)) (hF : Pixs w fv F) :
    Tells w (.func (.func 88) #[] #[.pointer (some p), .pointer (some ⟨b, 0, none⟩)]) wd hg (fun x y => F (pix l wd x y)) := by
  refine ⟨_, _, rfl, enter_any Try.func88 rfl rfl, fun W hB x y hx hy => ?_⟩
  obtain ⟨fn, caps, rfl, henter, hcall⟩ := hF
  have up : ∀ {a : Addr} {v : Value}, w.cell? a = some v → ∀ O, (W.alloc O).cell? a = some v := fun h O => pw_cell_below (below_alloc (Below.refl _ _) O) (pw_cell_below hB h)
  have HLP := Aside0.mk (World.block_lt_of_cell? W _ (pw_cell_below hB hp))
  have HLB : Aside0 (b < W.heap.size) := Aside0.mk (World.block_lt_of_cell? W _ (pw_cell_below hB h0))
  have g0 := up h0
  have g1 := up h1
  have g2 := up h2
  have gp := up hp
  have HP := Aside0.mk (hP.below hB)
  have HC := Aside0.mk hcall
  have HB := Aside0.mk hB
  clear hcall hB hP h0 h1 h2 hp up
  show Calls Try.prog 88 #[.int .i64 x, .int .i64 y, .pointer (some p), .pointer (some ⟨b, 0, none⟩)] W _
  go_enter Try.func88, Try.ntmps88
  go_wp2
  have dr : ∀ {a : Addr} {v : Value}, (∀ O, (W.alloc O).cell? a = some v) → ∀ O, (W.alloc O).drew.cell? a = some v := fun h O => h O
  have gpd := dr gp
  have g0d := dr g0
  have g1d := dr g1
  have g2d := dr g2
  clear dr
  go_region_held3 (fun w' : World => w'.cell? p = some (.func (.func fn) #[] caps) ∧ w'.cell? ⟨b, 0, none⟩ = some (.int .i64 wd) ∧ w'.cell? ⟨b, 1, none⟩ = some (.int .i64 hg) ∧ w'.cell? ⟨b, 2, none⟩ = some (.slice A l.length c)) (first | with_reducible exact ⟨gpd _, g0d _, g1d _, g2d _⟩ | with_reducible exact ⟨gp1, g01, g11, g21⟩ | with_reducible exact ⟨gp2, g02, g12, g22⟩ | exact ⟨far4 gp2 HLP.out _ _ _ _, far4 g02 HLB.out _ _ _ _, far4 g12 HLB.out _ _ _ _, far4 g22 HLB.out _ _ _ _⟩) (first | (go_at_call 54; refine ((HP.out.below (belowD _ _)).at_ x y hx hy).mono ?_; rintro e w1 ⟨rfl, hb1⟩; have gp1 := cell_madeD hb1 (gp _); have g01 := cell_madeD hb1 (g0 _); have g11 := cell_madeD hb1 (g1 _); have g21 := cell_madeD hb1 (g2 _); have BK := Aside0.mk (keep_madeD hb1); have HB1 := Aside0.mk (below_madeD hb1); clear hb1) | (refine (HC.out _ (HB.out.trans (HB1.out.mono HB.out.size)) (pix l wd x y)).mono ?_; rintro e w2 ⟨rfl, hb2⟩; have gp2 := pw_cell_below hb2 gp1; have g02 := pw_cell_below hb2 g01; have g12 := pw_cell_below hb2 g11; have g22 := pw_cell_below hb2 g21; have BK2 := Aside0.mk (blk_keep BK.out hb2); have r0 := (blk_cell BK2.out 0).trans rfl; have r1 := (blk_cell BK2.out 1).trans rfl; have r2 := (blk_cell BK2.out 2).trans rfl; have r3 := (blk_cell BK2.out 3).trans rfl; have s0 := blk_frozen BK2.out 0; have s1 := blk_frozen BK2.out 1; have s2 := blk_frozen BK2.out 2; have s3 := blk_frozen BK2.out 3; have HB2 := Aside0.mk hb2; clear hb2 BK))
  go_wp2
  refine bodyPost_ret (results_cell_row rfl _ _ W.heap.size 36 _ (0, 0) _ rfl (pix_block BK2.out (F (pix l wd x y))) Try.underlying36 rfl (by kernel_rfl)) rfl ⟨rfl, ?_⟩
  exact below_set (below_set (below_set (below_set (HB1.out.trans (HB2.out.mono HB1.out.size)) (Nat.le_refl _) _) (Nat.le_refl _) _) (Nat.le_refl _) _) (Nat.le_refl _) _
def coloursG (F : Nat → Nat → List Pix → Nat → Nat → Pix) (wd hg : Nat) (l : List Pix) : Nat × Nat × List Pix × Bool := (wd, hg, mk wd hg (F wd hg l), true)
theorem boxed {W : World} (a b : Int) (v : Value) (O2 : Obj) : ((W.alloc (.cells #[.int .i64 a, .int .i64 b, v] 25 (0, 0))).alloc O2).cell? ⟨W.heap.size, 0, none⟩ = some (.int .i64 a) ∧ ((W.alloc (.cells #[.int .i64 a, .int .i64 b, v] 25 (0, 0))).alloc O2).cell? ⟨W.heap.size, 1, none⟩ = some (.int .i64 b) ∧ ((W.alloc (.cells #[.int .i64 a, .int .i64 b, v] 25 (0, 0))).alloc O2).cell? ⟨W.heap.size, 2, none⟩ = some v := by
  have h := (made2 (W := W) (O1 := .cells #[.int .i64 a, .int .i64 b, v] 25 (0, 0)) (O2 := O2) (Below.refl _ _)).1
  exact ⟨(blk_cell h 0).trans rfl, (blk_cell h 1).trans rfl, (blk_cell h 2).trans rfl⟩
set_option maxHeartbeats 2000000 in
set_option maxRecDepth 100000 in
theorem moves_colours {w : World} {fv : Value} {p : Addr} (hp : w.cell? p = some fv) (F : Pix → Pix) (hF : Pixs w fv F) (dom : Nat → Nat → Prop) :
    Moves w (.func (.func 87) #[] #[.pointer (some p)]) dom (coloursG fun wd _ l x y => F (pix l wd x y)) := by
  refine ⟨_, _, rfl, enter_any Try.func87 rfl rfl, fun W hB wd hg A c l hP hdom => ?_⟩
  have HF := Aside0.mk (hF.below hB)
  have HP := Aside0.mk hP
  have GP := Aside0.mk (pw_cell_below hB hp)
  clear hB hP hF hp
  show Calls Try.prog 87 #[.agg #[.int .i64 wd, .int .i64 hg, .slice A l.length c], .pointer (some p)] W _
  go_enter Try.func87, Try.ntmps87
  go_wp2_with (go_at_call 52; refine (newRaster_walk wd hg HP.out.w0 HP.out.w1 HP.out.h0 HP.out.h1 (fun x y => F (pix l wd x y)) _ _ (tells_colours (HP.out.below (below_two (Below.refl _ _) _ _)) (pw_cell_below (below_two (Below.refl _ _) _ _) GP.out) (boxed _ _ _ _).1 (boxed _ _ _ _).2.1 (boxed _ _ _ _).2.2 (HF.out.below (below_two (Below.refl _ _) _ _)))).mono ?_; rintro e w2 ⟨v, rfl, hR, hb2⟩; obtain ⟨A', c', rfl⟩ := Kd.R_slice hR; have BR2 : Aside0 (ResBlk w2 (W.heap.size + 1)) := Aside0.mk (made2 hb2).2; have r0 := (blk_cell BR2.out 0).trans rfl; have r1 := (blk_cell BR2.out 1).trans rfl; have r2 := (blk_cell BR2.out 2).trans rfl; have s0 := blk_frozen BR2.out 0; have s1 := blk_frozen BR2.out 1; have s2 := blk_frozen BR2.out 2; have HR := Aside0.mk hR; have HB2 := Aside0.mk (below_made2 hb2); clear hb2 hR)
  refine bodyPost_ret (results_ct rfl _ _ (W.heap.size + 1) 25 _ (0, 0) _ rfl (ras_block BR2.out _ _ _) Try.underlying25 rfl (by kernel_rfl)) rfl ⟨_, rfl, R_ret HR.out (by simp; omega) (by simp) _ _ _, ?_⟩
  exact below_set (below_set (below_set HB2.out (by simp) _) (by simp) _) (by simp) _
end Go.Proofs.Ytoifpgkfpdeglaa.X
namespace Go.Proofs.Ytoifpgkfpdeglaa.X
open Go.RowKit Go.Proofs.YtoifpgkfpdeglaaW.PrintWords Go.Proofs.YtoifpgkfpdeglaaW.PrintLast Go.Proofs.YtoifpgkfpdeglaaW.PrintMore
attribute [local go_sem] max_two min_two
set_option linter.unusedVariables false
set_option linter.unusedSimpArgs false
section
def maxI (x y : Int) : Int := if x < y then y else x
def minI (x y : Int) : Int := if y < x then y else x
theorem max2_I (k k' : IntKind) (x y : Int) : Builtin.max2 (.int k x) (.int k' y) = pure (.int k (maxI x y)) := max2_int k k' x y
theorem min2_I (k k' : IntKind) (x y : Int) : Builtin.min2 (.int k x) (.int k' y) = pure (.int k (minI x y)) := min2_int k k' x y
attribute [local go_sem] max2_I min2_I
theorem lo_eq (y : Nat) : maxI ((y : Int) - 1) 0 = ((nearLo y : Nat) : Int) := by
  unfold nearLo maxI
  split <;> omega
theorem hi_eq {y n : Nat} (hy : y < n) : minI ((y : Int) + 1) ((n : Int) - 1) = ((min (y + 2) n : Nat) : Int) - 1 := by
  unfold minI
  split <;> omega
theorem far4n {n : Nat} {w2 : World} {a : Addr} {v : Value} (h : w2.cell? a = some v) (hne : a.block ≠ n) (u0 u1 u2 u3 : Value) :
    ((((w2.setCell ⟨n, 0, none⟩ u0).setCell ⟨n, 1, none⟩ u1).setCell ⟨n, 2, none⟩ u2).setCell ⟨n, 3, none⟩ u3).cell? a = some v :=
  (cell_far (p := ⟨n, 3, none⟩) hne u3).trans ((cell_far (p := ⟨n, 2, none⟩) hne u2).trans ((cell_far (p := ⟨n, 1, none⟩) hne u1).trans ((cell_far (p := ⟨n, 0, none⟩) hne u0).trans h)))
theorem sum_block {W : World} {g : Nat} {s : Pix} (h : W.heap[g]? = some (.cells #[.int .i64 s.f0, .int .i64 s.f1, .int .i64 s.f2, .int .i64 s.f3] 36 (0, 0))) (p : Pix) :
    ((((W.setCell ⟨g, 0, none⟩ (.int .i64 (wrap64 (s.f0 + p.f0)))).setCell ⟨g, 1, none⟩ (.int .i64 (wrap64 (s.f1 + p.f1)))).setCell ⟨g, 2, none⟩ (.int .i64 (wrap64 (s.f2 + p.f2)))).setCell ⟨g, 3, none⟩ (.int .i64 (wrap64 (s.f3 + p.f3)))).heap[g]? = some (.cells #[.int .i64 (addP s p).f0, .int .i64 (addP s p).f1, .int .i64 (addP s p).f2, .int .i64 (addP s p).f3] 36 (0, 0)) :=
  blk_put (cs := #[.int .i64 (addP s p).f0, .int .i64 (addP s p).f1, .int .i64 (addP s p).f2, .int .i64 s.f3]) (blk_put (cs := #[.int .i64 (addP s p).f0, .int .i64 (addP s p).f1, .int .i64 s.f2, .int .i64 s.f3]) (blk_put (cs := #[.int .i64 (addP s p).f0, .int .i64 s.f1, .int .i64 s.f2, .int .i64 s.f3]) (blk_put (cs := #[.int .i64 s.f0, .int .i64 s.f1, .int .i64 s.f2, .int .i64 s.f3]) h 0 _ rfl) 1 _ rfl) 2 _ rfl) 3 _ rfl
def tellsBlur.T15 : Bool × List (List Nat × List Nat) := (true, [([], []), ([0], [0]), ([], []), ([1, 2], [1, 2]), ([], []), ([4], [4]), ([], []), ([5, 6], [5, 6]), ([], []), ([8], [8]), ([], []), ([9, 10], [9, 10]), ([], []), ([12], [12]), ([], []), ([13, 14], [13, 14]), ([3, 7, 11, 15], [3, 7, 11, 15]), ([16, 0, 1, 2, 3, 4, 5, 6, 7, 8, 9, 10, 11, 12, 13, 14, 15, 16], [16])])
def tellsBlur.B15 : List Nat := [0, 1, 0, 7, 0, 16, 0, 112, 0, 256, 0, 1792, 0, 4096, 0, 28672, 65535, 131071]
theorem tellsBlur.tab15 : rtab .any (opsOf Try.f89 15) = tellsBlur.T15 := by kernel_rfl
theorem tellsBlur.bits15 : waitsOk tellsBlur.T15.2 tellsBlur.B15 = true := by kernel_rfl
set_option maxHeartbeats 2000000 in
set_option maxRecDepth 100000 in
theorem tells_blur {w : World} {wd hg : Nat} {l : List Pix} {A : Option Addr} {c : Nat} {b : Nat} (hP : Pict w wd hg A c l)
    (h0 : w.cell? ⟨b, 0, none⟩ = some (.int .i64 wd)) (h1 : w.cell? ⟨b, 1, none⟩ = some (.int .i64 hg)) (h2 : w.cell? ⟨b, 2, none⟩ = some (.slice A l.length c)) :
    Tells w (.func (.func 89) #[] #[.pointer (some ⟨b, 0, none⟩)]) wd hg (fun x y => blurP l wd hg x y) := by
  refine ⟨_, _, rfl, enter_any Try.func89 rfl rfl, fun W hB x y hx hy => ?_⟩
  have HG0 := Aside0.mk (pw_cell_below hB h0)
  have HG1 := Aside0.mk (pw_cell_below hB h1)
  have HG2 := Aside0.mk (pw_cell_below hB h2)
  have HP := Aside0.mk (hP.below hB)
  have x1 : x ≤ 5 := by have := hP.w1; omega
  have y1 : y ≤ 5 := by have := hP.h1; omega
  have HLY := Aside0.mk (lo_eq y)
  have HLX := Aside0.mk (lo_eq x)
  have HHY := Aside0.mk (hi_eq hy)
  have HHX := Aside0.mk (hi_eq hx)
  have HNY := Aside0.mk (nearMany_pos hy)
  have HNX := Aside0.mk (nearMany_pos hx)
  obtain ⟨ly, hly⟩ : ∃ z, z = nearLo y := ⟨_, rfl⟩
  obtain ⟨lx, hlx⟩ : ∃ z, z = nearLo x := ⟨_, rfl⟩
  obtain ⟨ny, hny⟩ : ∃ z, z = nearMany y hg := ⟨_, rfl⟩
  obtain ⟨nx, hnx⟩ : ∃ z, z = nearMany x wd := ⟨_, rfl⟩
  obtain ⟨my, hmy⟩ : ∃ z, z = min (y + 2) hg := ⟨_, rfl⟩
  obtain ⟨mx, hmx⟩ : ∃ z, z = min (x + 2) wd := ⟨_, rfl⟩
  rw [← hly] at HLY HNY
  rw [← hlx] at HLX HNX
  rw [← hny] at HNY
  rw [← hnx] at HNX
  rw [← hmy] at HNY HHY
  rw [← hmx] at HNX HHX
  have HEQ : Aside0 (blurP l wd hg x y = meanP (boxSum l wd lx nx ly ny z36) (ny * nx)) := Aside0.mk (by rw [hly, hlx, hny, hnx]; rfl)
  have hmy2 : my ≤ hg := by omega
  have hmx2 : mx ≤ wd := by omega
  have hnx3 : nx ≤ 3 := HNX.out.2.2
  have hny3 : ny ≤ 3 := HNY.out.2.2
  have hmy3 : ly + ny = my := HNY.out.2.1
  have hmx3 : lx + nx = mx := HNX.out.2.1
  have HN1 := Aside0.mk HNX.out.1
  have HN2 := Aside0.mk HNY.out.1
  have hw6 := hP.w1
  have hh6 := hP.h1
  dsimp only
  rw [HEQ.out]
  clear HEQ hly hlx hny hnx hmy hmx hB h0 h1 h2 hP HNX HNY
  show Calls Try.prog 89 #[.int .i64 x, .int .i64 y, .pointer (some ⟨b, 0, none⟩)] W _
  have hLY := HLY.out
  have hLX := HLX.out
  have hHY := HHY.out
  have hHX := HHX.out
  go_enter Try.func89, Try.ntmps89
  go_wp2
  go_loopw [7, 8] (fun v7 v8 wr => ∃ (Y C : Nat) (s : Pix), ly ≤ Y ∧ Y ≤ my ∧ C ≤ 9 ∧ v8 = .int .i64 Y ∧ v7 = .int .i64 C ∧ Aside0 (C = (Y - ly) * nx ∧ s = boxSum l wd lx nx ly (Y - ly) z36) ∧ Aside0 (wr.heap[W.heap.size + 1]? = some (.cells #[.int .i64 s.f0, .int .i64 s.f1, .int .i64 s.f2, .int .i64 s.f3] 36 (0, 0))) ∧ Aside0 (wr.heap[W.heap.size]? = some (.cells #[.int .i64 0, .int .i64 0, .int .i64 0, .int .i64 0] 36 (0, 0))) ∧ Aside0 (Below W.heap.size W wr)) (fun _ v8 _ => my - (intOf v8).toNat)
  case atStart =>
    have hm := made2 (Below.refl ((W.alloc (.cells #[.int .i64 0, .int .i64 0, .int .i64 0, .int .i64 0] 36)).alloc (.cells #[.int .i64 0, .int .i64 0, .int .i64 0, .int .i64 0] 36)).heap.size _)
    exact ⟨ly, 0, z36, Nat.le_refl _, by omega, by omega, rfl, rfl, Aside0.mk ⟨by simp, by simp [boxSum]⟩, Aside0.mk hm.2, Aside0.mk hm.1, Aside0.mk (below_two (Below.refl _ _) _ _)⟩
  case round =>
    obtain ⟨Y, C, s, hY1, hY2, hC9, rfl, rfl, HCS, HSB, HRB, HBW⟩ := hrel
    have g0 := pw_cell_below HBW.out HG0.out
    have g1 := pw_cell_below HBW.out HG1.out
    have g2 := pw_cell_below HBW.out HG2.out
    by_cases hlt : (Y : Int) ≤ (my : Int) - 1
    · go_wp2
      go_loopw [7, 9] (fun v7 v9 wq => ∃ (X C' : Nat) (s' : Pix), lx ≤ X ∧ X ≤ mx ∧ C' ≤ 100 ∧ v9 = .int .i64 X ∧ v7 = .int .i64 C' ∧ Aside0 (C' = C + (X - lx) ∧ s' = rowSum l wd Y lx (X - lx) s) ∧ Aside0 (wq.heap[W.heap.size + 1]? = some (.cells #[.int .i64 s'.f0, .int .i64 s'.f1, .int .i64 s'.f2, .int .i64 s'.f3] 36 (0, 0))) ∧ Aside0 (wq.heap[W.heap.size]? = some (.cells #[.int .i64 0, .int .i64 0, .int .i64 0, .int .i64 0] 36 (0, 0))) ∧ Aside0 (Below W.heap.size W wq)) (fun _ v9 _ => mx - (intOf v9).toNat)
      case atStart => exact ⟨lx, C, s, Nat.le_refl _, by omega, by omega, rfl, rfl, Aside0.mk ⟨by simp, by simp [rowSum]⟩, HSB, HRB, HBW⟩
      case round =>
        clear g0 g1 g2 HSB HRB HBW
        obtain ⟨X, C', s', hX1, hX2, hC9', rfl, rfl, HCS', HSB, HRB, HBW⟩ := hrel
        have g0 := pw_cell_below HBW.out HG0.out
        have g1 := pw_cell_below HBW.out HG1.out
        have g2 := pw_cell_below HBW.out HG2.out
        by_cases hltx : (X : Int) ≤ (mx : Int) - 1
        · go_wp2_with (go_at_call 54; refine ((HP.out.below HBW.out).at_ X Y (by omega) (by omega)).mono ?_; rintro e w2 ⟨rfl, hb2⟩; have HSB2 := Aside0.mk (blk_keep HSB.out hb2); have HRB2 := Aside0.mk (blk_keep HRB.out hb2); have HB2 := Aside0.mk (HBW.out.trans (hb2.mono HBW.out.size)); clear hb2 HSB HRB HBW g0 g1 g2; have KB : ∀ O, (w2.alloc O).heap[W.heap.size + 1]? = some (.cells #[.int .i64 s'.f0, .int .i64 s'.f1, .int .i64 s'.f2, .int .i64 s'.f3] 36 (0, 0)) := fun O => blk_keep HSB2.out (below_alloc (Below.refl _ _) O); have q0 : ∀ O, (w2.alloc O).cell? ⟨W.heap.size + 1, 0, none⟩ = some (.int .i64 s'.f0) := fun O => (blk_cell (KB O) 0).trans rfl; have q1 : ∀ O, (w2.alloc O).cell? ⟨W.heap.size + 1, 1, none⟩ = some (.int .i64 s'.f1) := fun O => (blk_cell (KB O) 1).trans rfl; have q2 : ∀ O, (w2.alloc O).cell? ⟨W.heap.size + 1, 2, none⟩ = some (.int .i64 s'.f2) := fun O => (blk_cell (KB O) 2).trans rfl; have q3 : ∀ O, (w2.alloc O).cell? ⟨W.heap.size + 1, 3, none⟩ = some (.int .i64 s'.f3) := fun O => (blk_cell (KB O) 3).trans rfl; have z0 : ∀ O, (w2.alloc O).frozen? ⟨W.heap.size + 1, 0, none⟩ = false := fun O => blk_frozen (KB O) 0; have z1 : ∀ O, (w2.alloc O).frozen? ⟨W.heap.size + 1, 1, none⟩ = false := fun O => blk_frozen (KB O) 1; have z2 : ∀ O, (w2.alloc O).frozen? ⟨W.heap.size + 1, 2, none⟩ = false := fun O => blk_frozen (KB O) 2; have z3 : ∀ O, (w2.alloc O).frozen? ⟨W.heap.size + 1, 3, none⟩ = false := fun O => blk_frozen (KB O) 3; have HKB := Aside0.mk KB; clear KB)
          refine ⟨⟨X + 1, C' + 1, addP s' (pix l wd X Y), by omega, by omega, by have := HCS'.out.1; omega, rfl, rfl, Aside0.mk ⟨by have := HCS'.out.1; omega, ?_⟩, Aside0.mk (sum_block (HKB.out _) (pix l wd X Y)), Aside0.mk ?_, Aside0.mk ?_⟩, by simp [intOf]; omega⟩
          · rw [show X + 1 - lx = (X - lx) + 1 by omega, rowSum_snoc, ← HCS'.out.2, show lx + (X - lx) = X by omega]
          · exact (Below.heap_setCell _ _ _ _ (by simp)).trans ((Below.heap_setCell _ _ _ _ (by simp)).trans ((Below.heap_setCell _ _ _ _ (by simp)).trans ((Below.heap_setCell _ _ _ _ (by simp)).trans (blk_keep HRB2.out (below_alloc (Below.refl _ _) _)))))
          · exact below_set (below_set (below_set (below_set (HB2.out.alloc HB2.out.size _) (by simp) _) (by simp) _) (by simp) _) (by simp) _
        · go_wp2
          obtain rfl : X = mx := by omega
          have hC := HCS'.out
          have hC0 := HCS.out
          rw [show X - lx = nx by omega] at hC
          have hle : (Y - ly + 1) * nx ≤ 3 * 3 := Nat.mul_le_mul (by omega) hnx3
          rw [Nat.add_mul, Nat.one_mul, ← hC0.1, ← hC.1] at hle
          refine ⟨⟨Y + 1, C', s', by omega, by omega, by omega, rfl, rfl, Aside0.mk ⟨?_, ?_⟩, HSB, HRB, HBW⟩, by simp [intOf]; omega⟩
          · rw [show Y + 1 - ly = (Y - ly) + 1 by omega, Nat.add_mul, Nat.one_mul, ← hC0.1, hC.1]
          · rw [show Y + 1 - ly = (Y - ly) + 1 by omega, boxSum_snoc, ← hC0.2, show ly + (Y - ly) = Y by omega, hC.2]
    · obtain rfl : Y = my := by omega
      have hC0 := HCS.out
      rw [show Y - ly = ny by omega] at hC0
      have hC1 : 1 ≤ C := by rw [hC0.1]; exact Nat.mul_le_mul HN2.out HN1.out
      have HE : Aside0 (meanP (boxSum l wd lx nx ly ny z36) (ny * nx) = meanP s C) := Aside0.mk (by rw [← hC0.1, ← hC0.2])
      clear hC0 HCS
      have hne : ¬ (C = 0) := by omega
      have q0 : wr.cell? ⟨W.heap.size + 1, 0, none⟩ = some (.int .i64 s.f0) := (blk_cell HSB.out 0).trans rfl
      have q1 : wr.cell? ⟨W.heap.size + 1, 1, none⟩ = some (.int .i64 s.f1) := (blk_cell HSB.out 1).trans rfl
      have q2 : wr.cell? ⟨W.heap.size + 1, 2, none⟩ = some (.int .i64 s.f2) := (blk_cell HSB.out 2).trans rfl
      have q3 : wr.cell? ⟨W.heap.size + 1, 3, none⟩ = some (.int .i64 s.f3) := (blk_cell HSB.out 3).trans rfl
      have r0 : wr.cell? ⟨W.heap.size, 0, none⟩ = some (.int .i64 0) := (blk_cell HRB.out 0).trans rfl
      have r1 : wr.cell? ⟨W.heap.size, 1, none⟩ = some (.int .i64 0) := (blk_cell HRB.out 1).trans rfl
      have r2 : wr.cell? ⟨W.heap.size, 2, none⟩ = some (.int .i64 0) := (blk_cell HRB.out 2).trans rfl
      have r3 : wr.cell? ⟨W.heap.size, 3, none⟩ = some (.int .i64 0) := (blk_cell HRB.out 3).trans rfl
      have s0 := blk_frozen HRB.out 0
      have s1 := blk_frozen HRB.out 1
      have s2 := blk_frozen HRB.out 2
      have s3 := blk_frozen HRB.out 3
      go_wp2
      refine start_ (n := 18) (S := fun w' => w'.cell? ⟨W.heap.size + 1, 0, none⟩ = some (.int .i64 s.f0) ∧ w'.cell? ⟨W.heap.size + 1, 1, none⟩ = some (.int .i64 s.f1) ∧ w'.cell? ⟨W.heap.size + 1, 2, none⟩ = some (.int .i64 s.f2) ∧ w'.cell? ⟨W.heap.size + 1, 3, none⟩ = some (.int .i64 s.f3)) (ds := []) #[false, false, false, false, false, false, false, false, false, false, false, false, false, false, false, false, false, false] (by kernel_rfl) rfl rfl ⟨q0, q1, q2, q3⟩ (fun hHeld => ?_); refine with_tabW tellsBlur.tab15 tellsBlur.bits15 (fun HT_ HW_ => ?_)
      have HD0 := Aside0.mk (blk_drew HRB.out); have HD1 := Aside0.mk (below_drew1 HBW.out); clear HSB HRB HBW r0 r1 r2 r3 s0 s1 s2 s3 q0 q1 q2 q3 g0 g1 g2
      generalize wr.drew = wz_ at HD0 HD1 hHeld ⊢
      refine pure_ (i := 0) (N := some 67) (v := ?_) (a' := ?_) #[true, false, false, false, false, false, false, false, false, false, false, false, false, false, false, false, false, false] rfl rfl (any_of HT_.out (by kernel_rfl)) (fun _ _ _ h => h) (Or.inl ⟨by rfl, ?_⟩) ?_ ?_
      rotate_left
      · intro w'
        go_simp
        with_reducible rfl
      rotate_left
      · simp only [Act.put, List.setIfInBounds_toArray, List.set_cons_zero, List.set_cons_succ, i64_w, i32_w]
        rfl
      refine take_ (i := 1) (N := some 68) (v := ?_) (a' := ?_) #[true, true, false, false, false, false, false, false, false, false, false, false, false, false, false, false, false, false] rfl rfl (take_ofW HT_.out HW_.out (by kernel_rfl)) (fun _ _ _ h => h) (Or.inl ⟨by rfl, ?_⟩) hHeld ?_ ?_
      rotate_left
      · rintro w' ⟨s0, s1, s2, s3⟩
        go_simp
        with_reducible rfl
      rotate_left
      · simp only [Act.put, List.setIfInBounds_toArray, List.set_cons_zero, List.set_cons_succ, i64_w, i32_w]
        rfl
      refine pure_ (i := 2) (N := some 69) (v := ?_) (a' := ?_) #[true, true, true, false, false, false, false, false, false, false, false, false, false, false, false, false, false, false] rfl rfl (any_of HT_.out (by kernel_rfl)) (fun _ _ _ h => h) (Or.inl ⟨by rfl, ?_⟩) ?_ ?_
      rotate_left
      · intro w'
        go_simp
        with_reducible rfl
      rotate_left
      · simp only [Act.put, List.setIfInBounds_toArray, List.set_cons_zero, List.set_cons_succ, i64_w, i32_w]
        rfl
      refine pure_ (i := 3) (N := some 70) (v := ?_) (a' := ?_) #[true, true, true, true, false, false, false, false, false, false, false, false, false, false, false, false, false, false] rfl rfl (any_of HT_.out (by kernel_rfl)) (fun _ _ _ h => h) (Or.inl ⟨by rfl, ?_⟩) ?_ ?_
      rotate_left
      · intro w'
        go_simp
        with_reducible rfl
      rotate_left
      · simp only [Act.put, List.setIfInBounds_toArray, List.set_cons_zero, List.set_cons_succ, i64_w, i32_w]
        rfl
      refine pure_ (i := 4) (N := some 71) (v := ?_) (a' := ?_) #[true, true, true, true, true, false, false, false, false, false, false, false, false, false, false, false, false, false] rfl rfl (any_of HT_.out (by kernel_rfl)) (fun _ _ _ h => h) (Or.inl ⟨by rfl, ?_⟩) ?_ ?_
      rotate_left
      · intro w'
        go_simp
        with_reducible rfl
      rotate_left
      · simp only [Act.put, List.setIfInBounds_toArray, List.set_cons_zero, List.set_cons_succ, i64_w, i32_w]
        rfl
      refine take_ (i := 5) (N := some 72) (v := ?_) (a' := ?_) #[true, true, true, true, true, true, false, false, false, false, false, false, false, false, false, false, false, false] rfl rfl (take_ofW HT_.out HW_.out (by kernel_rfl)) (fun _ _ _ h => h) (Or.inl ⟨by rfl, ?_⟩) hHeld ?_ ?_
      rotate_left
      · rintro w' ⟨s0, s1, s2, s3⟩
        go_simp
        with_reducible rfl
      rotate_left
      · simp only [Act.put, List.setIfInBounds_toArray, List.set_cons_zero, List.set_cons_succ, i64_w, i32_w]
        rfl
      refine pure_ (i := 6) (N := some 73) (v := ?_) (a' := ?_) #[true, true, true, true, true, true, true, false, false, false, false, false, false, false, false, false, false, false] rfl rfl (any_of HT_.out (by kernel_rfl)) (fun _ _ _ h => h) (Or.inl ⟨by rfl, ?_⟩) ?_ ?_
      rotate_left
      · intro w'
        go_simp
        with_reducible rfl
      rotate_left
      · simp only [Act.put, List.setIfInBounds_toArray, List.set_cons_zero, List.set_cons_succ, i64_w, i32_w]
        rfl
      refine pure_ (i := 7) (N := some 74) (v := ?_) (a' := ?_) #[true, true, true, true, true, true, true, true, false, false, false, false, false, false, false, false, false, false] rfl rfl (any_of HT_.out (by kernel_rfl)) (fun _ _ _ h => h) (Or.inl ⟨by rfl, ?_⟩) ?_ ?_
      rotate_left
      · intro w'
        go_simp
        with_reducible rfl
      rotate_left
      · simp only [Act.put, List.setIfInBounds_toArray, List.set_cons_zero, List.set_cons_succ, i64_w, i32_w]
        rfl
      refine pure_ (i := 8) (N := some 75) (v := ?_) (a' := ?_) #[true, true, true, true, true, true, true, true, true, false, false, false, false, false, false, false, false, false] rfl rfl (any_of HT_.out (by kernel_rfl)) (fun _ _ _ h => h) (Or.inl ⟨by rfl, ?_⟩) ?_ ?_
      rotate_left
      · intro w'
        go_simp
        with_reducible rfl
      rotate_left
      · simp only [Act.put, List.setIfInBounds_toArray, List.set_cons_zero, List.set_cons_succ, i64_w, i32_w]
        rfl
      refine take_ (i := 9) (N := some 76) (v := ?_) (a' := ?_) #[true, true, true, true, true, true, true, true, true, true, false, false, false, false, false, false, false, false] rfl rfl (take_ofW HT_.out HW_.out (by kernel_rfl)) (fun _ _ _ h => h) (Or.inl ⟨by rfl, ?_⟩) hHeld ?_ ?_
      rotate_left
      · rintro w' ⟨s0, s1, s2, s3⟩
        go_simp
        with_reducible rfl
      rotate_left
      · simp only [Act.put, List.setIfInBounds_toArray, List.set_cons_zero, List.set_cons_succ, i64_w, i32_w]
        rfl
      refine pure_ (i := 10) (N := some 77) (v := ?_) (a' := ?_) #[true, true, true, true, true, true, true, true, true, true, true, false, false, false, false, false, false, false] rfl rfl (any_of HT_.out (by kernel_rfl)) (fun _ _ _ h => h) (Or.inl ⟨by rfl, ?_⟩) ?_ ?_
      rotate_left
      · intro w'
        go_simp
        with_reducible rfl
      rotate_left
      · simp only [Act.put, List.setIfInBounds_toArray, List.set_cons_zero, List.set_cons_succ, i64_w, i32_w]
        rfl
      refine pure_ (i := 11) (N := some 78) (v := ?_) (a' := ?_) #[true, true, true, true, true, true, true, true, true, true, true, true, false, false, false, false, false, false] rfl rfl (any_of HT_.out (by kernel_rfl)) (fun _ _ _ h => h) (Or.inl ⟨by rfl, ?_⟩) ?_ ?_
      rotate_left
      · intro w'
        go_simp
        with_reducible rfl
      rotate_left
      · simp only [Act.put, List.setIfInBounds_toArray, List.set_cons_zero, List.set_cons_succ, i64_w, i32_w]
        rfl
      refine pure_ (i := 12) (N := some 79) (v := ?_) (a' := ?_) #[true, true, true, true, true, true, true, true, true, true, true, true, true, false, false, false, false, false] rfl rfl (any_of HT_.out (by kernel_rfl)) (fun _ _ _ h => h) (Or.inl ⟨by rfl, ?_⟩) ?_ ?_
      rotate_left
      · intro w'
        go_simp
        with_reducible rfl
      rotate_left
      · simp only [Act.put, List.setIfInBounds_toArray, List.set_cons_zero, List.set_cons_succ, i64_w, i32_w]
        rfl
      refine take_ (i := 13) (N := some 80) (v := ?_) (a' := ?_) #[true, true, true, true, true, true, true, true, true, true, true, true, true, true, false, false, false, false] rfl rfl (take_ofW HT_.out HW_.out (by kernel_rfl)) (fun _ _ _ h => h) (Or.inl ⟨by rfl, ?_⟩) hHeld ?_ ?_
      rotate_left
      · rintro w' ⟨s0, s1, s2, s3⟩
        go_simp
        with_reducible rfl
      rotate_left
      · simp only [Act.put, List.setIfInBounds_toArray, List.set_cons_zero, List.set_cons_succ, i64_w, i32_w]
        rfl
      refine pure_ (i := 14) (N := some 81) (v := ?_) (a' := ?_) #[true, true, true, true, true, true, true, true, true, true, true, true, true, true, true, false, false, false] rfl rfl (any_of HT_.out (by kernel_rfl)) (fun _ _ _ h => h) (Or.inl ⟨by rfl, ?_⟩) ?_ ?_
      rotate_left
      · intro w'
        go_simp
        with_reducible rfl
      rotate_left
      · simp only [Act.put, List.setIfInBounds_toArray, List.set_cons_zero, List.set_cons_succ, i64_w, i32_w]
        rfl
      refine pure_ (i := 15) (N := some 82) (v := ?_) (a' := ?_) #[true, true, true, true, true, true, true, true, true, true, true, true, true, true, true, true, false, false] rfl rfl (any_of HT_.out (by kernel_rfl)) (fun _ _ _ h => h) (Or.inl ⟨by rfl, ?_⟩) ?_ ?_
      rotate_left
      · intro w'
        go_simp
        with_reducible rfl
      rotate_left
      · simp only [Act.put, List.setIfInBounds_toArray, List.set_cons_zero, List.set_cons_succ, i64_w, i32_w]
        rfl
      refine pure_ (i := 16) (N := some 83) (v := ?_) (a' := ?_) #[true, true, true, true, true, true, true, true, true, true, true, true, true, true, true, true, true, false] rfl rfl (any_of HT_.out (by kernel_rfl)) (fun _ _ _ h => h) (Or.inl ⟨by rfl, ?_⟩) ?_ ?_
      rotate_left
      · intro w'
        go_simp
        with_reducible rfl
      rotate_left
      · simp only [Act.put, List.setIfInBounds_toArray, List.set_cons_zero, List.set_cons_succ, i64_w, i32_w]
        rfl
      refine one_ (i := 17) (N := none) #[true, true, true, true, true, true, true, true, true, true, true, true, true, true, true, true, true, true] rfl rfl (one_of HT_.out (by kernel_rfl)) (by decide) (fun K hK => ?_)
      have r0 : wz_.cell? ⟨W.heap.size, 0, none⟩ = some (.int .i64 0) := (blk_cell HD0.out 0).trans rfl; have z0 := blk_frozen HD0.out 0
      have r1 : wz_.cell? ⟨W.heap.size, 1, none⟩ = some (.int .i64 0) := (blk_cell HD0.out 1).trans rfl; have z1 := blk_frozen HD0.out 1
      have r2 : wz_.cell? ⟨W.heap.size, 2, none⟩ = some (.int .i64 0) := (blk_cell HD0.out 2).trans rfl; have z2 := blk_frozen HD0.out 2
      have r3 : wz_.cell? ⟨W.heap.size, 3, none⟩ = some (.int .i64 0) := (blk_cell HD0.out 3).trans rfl; have z3 := blk_frozen HD0.out 3
      refine skip_ (w1 := ?_) (by rfl) rfl ?_ ?_
      rotate_left
      · go_simp
        rfl
      refine hK.out _ _ ⟨far4n hHeld.1 (by simp) _ _ _ _, far4n hHeld.2.1 (by simp) _ _ _ _, far4n hHeld.2.2.1 (by simp) _ _ _ _, far4n hHeld.2.2.2 (by simp) _ _ _ _⟩ (fun hHeld => ?_)
      clear hK K
      refine done_ (done_of HT_.out (by kernel_rfl)) ?_
      try go_wp2
      refine bodyPost_ret (results_cell_row rfl _ _ W.heap.size 36 _ (0, 0) _ rfl (pix_block HD0.out (meanP s C)) Try.underlying36 rfl (by kernel_rfl)) rfl ⟨by rw [HE.out], ?_⟩
      exact below_set (below_set (below_set (below_set HD1.out (Nat.le_refl _) _) (Nat.le_refl _) _) (Nat.le_refl _) _) (Nat.le_refl _) _
set_option maxHeartbeats 2000000 in
set_option maxRecDepth 100000 in
theorem moves_blur (w : World) (dom : Nat → Nat → Prop) :
    Moves w (.func (.func 70) #[] #[]) dom (coloursG fun wd hg l x y => blurP l wd hg x y) := by
  refine ⟨_, _, rfl, enter_any Try.func70 rfl rfl, fun W hB wd hg A c l hP hdom => ?_⟩
  have HP := Aside0.mk hP
  clear hB hP
  show Calls Try.prog 70 #[.agg #[.int .i64 wd, .int .i64 hg, .slice A l.length c]] W _
  go_enter Try.func70, Try.ntmps70
  go_wp2_with (go_at_call 52; refine (newRaster_walk wd hg HP.out.w0 HP.out.w1 HP.out.h0 HP.out.h1 (fun x y => blurP l wd hg x y) _ _ (tells_blur (HP.out.below (below_two (Below.refl _ _) _ _)) (boxed _ _ _ _).1 (boxed _ _ _ _).2.1 (boxed _ _ _ _).2.2)).mono ?_; rintro e w2 ⟨v, rfl, hR, hb2⟩; obtain ⟨A', c', rfl⟩ := Kd.R_slice hR; have BR2 : Aside0 (ResBlk w2 (W.heap.size + 1)) := Aside0.mk (made2 hb2).2; have r0 := (blk_cell BR2.out 0).trans rfl; have r1 := (blk_cell BR2.out 1).trans rfl; have r2 := (blk_cell BR2.out 2).trans rfl; have s0 := blk_frozen BR2.out 0; have s1 := blk_frozen BR2.out 1; have s2 := blk_frozen BR2.out 2; have HR := Aside0.mk hR; have HB2 := Aside0.mk (below_made2 hb2); clear hb2 hR)
  refine bodyPost_ret (results_ct rfl _ _ (W.heap.size + 1) 25 _ (0, 0) _ rfl (ras_block BR2.out _ _ _) Try.underlying25 rfl (by kernel_rfl)) rfl ⟨_, rfl, R_ret HR.out (by simp; omega) (by simp) _ _ _, ?_⟩
  exact below_set (below_set (below_set HB2.out (by simp) _) (by simp) _) (by simp) _
end
end Go.Proofs.Ytoifpgkfpdeglaa.X
namespace Go.Proofs.Ytoifpgkfpdeglaa.X
open Go.RowKit Go.Proofs.YtoifpgkfpdeglaaW.PrintWords Go.Proofs.YtoifpgkfpdeglaaW.PrintLast Go.Proofs.YtoifpgkfpdeglaaW.PrintMore
set_option linter.unusedVariables false
set_option linter.unusedSimpArgs false
theorem ret2 {a b a' b' : Int} (h1 : a = a') (h2 : b = b') : Ending.returned (.tuple #[.int .i64 a, .int .i64 b]) = .returned (.tuple #[.int .i64 a', .int .i64 b']) := by rw [h1, h2]
theorem i2 (a b : Int) : #[Value.int .i64 a, .int .i64 b] = #[Value.int .i64 a, .int .i64 b] := rfl
structure OpBox (w : World) (b : Nat) (o : Op) : Prop where
  h0 : w.cell? ⟨b, 0, none⟩ = some (.int .i64 o.f0)
  h1 : w.cell? ⟨b, 1, none⟩ = some (.int .i64 o.f1)
  h2 : w.cell? ⟨b, 2, none⟩ = some (.int .i64 o.f2)
  h3 : w.cell? ⟨b, 3, none⟩ = some (.int .i64 o.f3)
  h4 : w.cell? ⟨b, 4, none⟩ = some (.int .i64 o.f4)
theorem OpBox.below {w W : World} {b : Nat} {o : Op} (h : OpBox w b o) (hb : Below w.heap.size w W) : OpBox W b o :=
  ⟨pw_cell_below hb h.h0, pw_cell_below hb h.h1, pw_cell_below hb h.h2, pw_cell_below hb h.h3, pw_cell_below hb h.h4⟩
theorem OpBox.made {w : World} {b : Nat} {o : Op} (h : OpBox w b o) (O : Obj) : OpBox (w.alloc O) b o := h.below (below_alloc (Below.refl _ _) _)
set_option maxHeartbeats 1000000 in
set_option maxRecDepth 100000 in
theorem sizes_same (w : World) (wd hg : Nat) : Sizes w (.func (.func 63) #[] #[]) wd hg wd hg := by
  refine ⟨_, _, rfl, enter_any Try.func63 rfl rfl, fun W hB A n c => ?_⟩
  show Calls Try.prog 63 #[.agg #[.int .i64 wd, .int .i64 hg, .slice A n c]] W _
  go_enter Try.func63, Try.ntmps63
  go_wp2
  go_quiet (fail)
  go_wp2
  go_ret2
  exact ⟨rfl, by repeat (first | exact Below.refl _ _ | apply below_alloc | apply pw_below_drewN | apply below_drew1)⟩
set_option maxHeartbeats 1000000 in
set_option maxRecDepth 100000 in
theorem size_turned (w : World) (wd hg : Nat) : Sizes w (.func (.func 66) #[] #[]) wd hg hg wd := by
  refine ⟨_, _, rfl, enter_any Try.func66 rfl rfl, fun W hB A n c => ?_⟩
  show Calls Try.prog 66 #[.agg #[.int .i64 wd, .int .i64 hg, .slice A n c]] W _
  go_enter Try.func66, Try.ntmps66
  go_wp2
  go_quiet (fail)
  go_wp2
  go_ret2
  exact ⟨rfl, by repeat (first | exact Below.refl _ _ | apply below_alloc | apply pw_below_drewN | apply below_drew1)⟩
set_option maxHeartbeats 1000000 in
set_option maxRecDepth 100000 in
theorem from_flipX (w : World) (wd hg : Nat) (hw : wd ≤ 6) : Froms w (.func (.func 64) #[] #[]) wd hg wd hg (fun x y => wd - 1 - x) (fun x y => y) := by
  refine ⟨_, _, rfl, enter_any Try.func64 rfl rfl, fun W hB A n c x y hx hy => ?_⟩
  show Calls Try.prog 64 #[.agg #[.int .i64 wd, .int .i64 hg, .slice A n c], .int .i64 x, .int .i64 y] W _
  go_enter Try.func64, Try.ntmps64
  go_wp2
  go_ret2
  exact ⟨ret2 (by omega) rfl, by repeat (first | exact Below.refl _ _ | apply below_alloc | apply pw_below_drewN | apply below_drew1)⟩
set_option maxHeartbeats 1000000 in
set_option maxRecDepth 100000 in
theorem from_flipY (w : World) (wd hg : Nat) (hw : hg ≤ 6) : Froms w (.func (.func 65) #[] #[]) wd hg wd hg (fun x y => x) (fun x y => hg - 1 - y) := by
  refine ⟨_, _, rfl, enter_any Try.func65 rfl rfl, fun W hB A n c x y hx hy => ?_⟩
  show Calls Try.prog 65 #[.agg #[.int .i64 wd, .int .i64 hg, .slice A n c], .int .i64 x, .int .i64 y] W _
  go_enter Try.func65, Try.ntmps65
  go_wp2
  try go_quiet (fail)
  try go_wp2
  go_ret2
  exact ⟨ret2 rfl (by omega), by repeat (first | exact Below.refl _ _ | apply below_alloc | apply pw_below_drewN | apply below_drew1)⟩
set_option maxHeartbeats 1000000 in
set_option maxRecDepth 100000 in
theorem from_turn (w : World) (wd hg : Nat) (hw : hg ≤ 6) : Froms w (.func (.func 67) #[] #[]) wd hg hg wd (fun x y => y) (fun x y => hg - 1 - x) := by
  refine ⟨_, _, rfl, enter_any Try.func67 rfl rfl, fun W hB A n c x y hx hy => ?_⟩
  show Calls Try.prog 67 #[.agg #[.int .i64 wd, .int .i64 hg, .slice A n c], .int .i64 x, .int .i64 y] W _
  go_enter Try.func67, Try.ntmps67
  go_wp2
  try go_quiet (fail)
  try go_wp2
  go_ret2
  exact ⟨ret2 rfl (by omega), by repeat (first | exact Below.refl _ _ | apply below_alloc | apply pw_below_drewN | apply below_drew1)⟩
set_option maxHeartbeats 1000000 in
set_option maxRecDepth 100000 in
theorem size_crop {w : World} {b : Nat} {o : Op} (hb : OpBox w b o) (h3 : 0 ≤ o.f3) (h4 : 0 ≤ o.f4) (wd hg : Nat) : Sizes w (.func (.func 82) #[] #[.pointer (some ⟨b, 0, none⟩)]) wd hg o.f3.toNat o.f4.toNat := by
  refine ⟨_, _, rfl, enter_any Try.func82 rfl rfl, fun W hB A n c => ?_⟩
  have HO := fun O => (hb.below hB).made O
  have c3 := fun O => (HO O).h3
  have c4 := fun O => (HO O).h4
  clear HO
  show Calls Try.prog 82 #[.agg #[.int .i64 wd, .int .i64 hg, .slice A n c], .pointer (some ⟨b, 0, none⟩)] W _
  go_enter Try.func82, Try.ntmps82
  go_wp2
  go_quiet (fail)
  go_wp2
  go_ret2
  exact ⟨ret2 (by omega) (by omega), by repeat (first | exact Below.refl _ _ | apply below_alloc | apply pw_below_drewN | apply below_drew1)⟩
set_option maxHeartbeats 1000000 in
set_option maxRecDepth 100000 in
theorem size_size {w : World} {b : Nat} {o : Op} (hb : OpBox w b o) (h3 : 0 ≤ o.f1) (h4 : 0 ≤ o.f2) (wd hg : Nat) : Sizes w (.func (.func 90) #[] #[.pointer (some ⟨b, 0, none⟩)]) wd hg o.f1.toNat o.f2.toNat := by
  refine ⟨_, _, rfl, enter_any Try.func90 rfl rfl, fun W hB A n c => ?_⟩
  have HO := fun O => (hb.below hB).made O
  have c3 := fun O => (HO O).h1
  have c4 := fun O => (HO O).h2
  clear HO
  show Calls Try.prog 90 #[.agg #[.int .i64 wd, .int .i64 hg, .slice A n c], .pointer (some ⟨b, 0, none⟩)] W _
  go_enter Try.func90, Try.ntmps90
  go_wp2
  go_quiet (fail)
  go_wp2
  go_ret2
  exact ⟨ret2 (by omega) (by omega), by repeat (first | exact Below.refl _ _ | apply below_alloc | apply pw_below_drewN | apply below_drew1)⟩
set_option maxHeartbeats 1000000 in
set_option maxRecDepth 100000 in
theorem from_crop {w : World} {b : Nat} {o : Op} (hb : OpBox w b o) (h1 : 0 ≤ o.f1 ∧ o.f1 ≤ 5) (h2 : 0 ≤ o.f2 ∧ o.f2 ≤ 5) (wd hg W' H' : Nat) (hW : W' ≤ 6) (hH : H' ≤ 6) : Froms w (.func (.func 83) #[] #[.pointer (some ⟨b, 0, none⟩)]) wd hg W' H' (fun x y => o.f1.toNat + x) (fun x y => o.f2.toNat + y) := by
  refine ⟨_, _, rfl, enter_any Try.func83 rfl rfl, fun W hB A n c x y hx hy => ?_⟩
  have HO := fun O => (hb.below hB).made O
  have c3 := fun O => (HO O).h1
  have c4 := fun O => (HO O).h2
  clear HO
  show Calls Try.prog 83 #[.agg #[.int .i64 wd, .int .i64 hg, .slice A n c], .int .i64 x, .int .i64 y, .pointer (some ⟨b, 0, none⟩)] W _
  go_enter Try.func83, Try.ntmps83
  go_wp2
  go_quiet (fail)
  go_wp2
  go_ret2
  exact ⟨ret2 (by omega) (by omega), by repeat (first | exact Below.refl _ _ | apply below_alloc | apply pw_below_drewN | apply below_drew1)⟩
theorem i64_id (x : Int) (h0 : -9223372036854775808 ≤ x) (h1 : x ≤ 9223372036854775807) : IntKind.i64.wrap x = x := by
  rw [IntKind.wrap_i64]
  omega
theorem tdiv_nat (m n : Nat) : Int.tdiv (m : Int) (n : Int) = ((m / n : Nat) : Int) := rfl
set_option maxHeartbeats 1000000 in
set_option maxRecDepth 100000 in
theorem from_size {w : World} {b : Nat} {o : Op} (hb : OpBox w b o) (h1 : 1 ≤ o.f1 ∧ o.f1 ≤ 6) (h2 : 1 ≤ o.f2 ∧ o.f2 ≤ 6) (wd hg : Nat) (hw : wd ≤ 6) (hh : hg ≤ 6) : Froms w (.func (.func 91) #[] #[.pointer (some ⟨b, 0, none⟩)]) wd hg o.f1.toNat o.f2.toNat (fun x y => (2 * x + 1) * wd / (2 * o.f1.toNat)) (fun x y => (2 * y + 1) * hg / (2 * o.f2.toNat)) := by
  refine ⟨_, _, rfl, enter_any Try.func91 rfl rfl, fun W hB A n c x y hx hy => ?_⟩
  obtain ⟨p, hp⟩ : ∃ p : Nat, o.f1 = p := ⟨o.f1.toNat, by omega⟩
  obtain ⟨q, hq⟩ : ∃ p : Nat, o.f2 = p := ⟨o.f2.toNat, by omega⟩
  have HO := fun O => (hb.below hB).made O
  have c3 := fun O => (HO O).h1
  have c4 := fun O => (HO O).h2
  clear HO
  rw [hp] at c3 h1 hx ⊢
  rw [hq] at c4 h2 hy ⊢
  rw [Int.toNat_natCast] at hx hy ⊢
  have b1 : (2 * x + 1) * wd ≤ 13 * 6 := Nat.mul_le_mul (by omega) hw
  have b2 : (2 * y + 1) * hg ≤ 13 * 6 := Nat.mul_le_mul (by omega) hh
  have e1 : ((2 * (x : Int) + 1) * (wd : Int)) = (((2 * x + 1) * wd : Nat) : Int) := by simp
  have e2 : ((2 * (y : Int) + 1) * (hg : Int)) = (((2 * y + 1) * hg : Nat) : Int) := by simp
  have n1 : ¬ (p = 0) := by omega
  have n2 : ¬ (q = 0) := by omega
  have F1 := i64_id (2 * (x : Int)) (by omega) (by omega)
  have F2 := i64_id (2 * (x : Int) + 1) (by omega) (by omega)
  have F3 := i64_id ((2 * (x : Int) + 1) * (wd : Int)) (by rw [e1]; omega) (by rw [e1]; omega)
  have F4 := i64_id (2 * (p : Int)) (by omega) (by omega)
  have G1 := i64_id (2 * (y : Int)) (by omega) (by omega)
  have G2 := i64_id (2 * (y : Int) + 1) (by omega) (by omega)
  have G3 := i64_id ((2 * (y : Int) + 1) * (hg : Int)) (by rw [e2]; omega) (by rw [e2]; omega)
  have G4 := i64_id (2 * (q : Int)) (by omega) (by omega)
  have d1 : (2 * x + 1) * wd / (2 * p) ≤ 78 := Nat.le_trans (Nat.div_le_self _ _) b1
  have d2 : (2 * y + 1) * hg / (2 * q) ≤ 78 := Nat.le_trans (Nat.div_le_self _ _) b2
  have t1 : Int.tdiv ((2 * (x : Int) + 1) * (wd : Int)) (2 * (p : Int)) = (((2 * x + 1) * wd / (2 * p) : Nat) : Int) := by rw [e1, show (2 * (p : Int)) = ((2 * p : Nat) : Int) by simp, tdiv_nat]
  have t2 : Int.tdiv ((2 * (y : Int) + 1) * (hg : Int)) (2 * (q : Int)) = (((2 * y + 1) * hg / (2 * q) : Nat) : Int) := by rw [e2, show (2 * (q : Int)) = ((2 * q : Nat) : Int) by simp, tdiv_nat]
  have D1 := i64_id (Int.tdiv ((2 * (x : Int) + 1) * (wd : Int)) (2 * (p : Int))) (by rw [t1]; exact Int.le_trans (by decide) (Int.natCast_nonneg _)) (by rw [t1]; exact Int.le_trans (Int.ofNat_le.2 d1) (by decide))
  have D2 := i64_id (Int.tdiv ((2 * (y : Int) + 1) * (hg : Int)) (2 * (q : Int))) (by rw [t2]; exact Int.le_trans (by decide) (Int.natCast_nonneg _)) (by rw [t2]; exact Int.le_trans (Int.ofNat_le.2 d2) (by decide))
  have T1 := Aside0.mk t1
  have T2 := Aside0.mk t2
  clear e1 e2 d1 d2 b1 b2 t1 t2
  show Calls Try.prog 91 #[.agg #[.int .i64 wd, .int .i64 hg, .slice A n c], .int .i64 x, .int .i64 y, .pointer (some ⟨b, 0, none⟩)] W _
  go_enter Try.func91, Try.ntmps91
  go_wp2
  go_quiet (fail)
  go_wp2
  go_ret2
  exact ⟨ret2 T1.out T2.out, by repeat (first | exact Below.refl _ _ | apply below_alloc | apply pw_below_drewN | apply below_drew1)⟩
end Go.Proofs.Ytoifpgkfpdeglaa.X
namespace Go.Proofs.Ytoifpgkfpdeglaa.X
open Go.RowKit Go.Proofs.YtoifpgkfpdeglaaW.PrintWords Go.Proofs.YtoifpgkfpdeglaaW.PrintLast Go.Proofs.YtoifpgkfpdeglaaW.PrintMore
set_option linter.unusedVariables false
set_option linter.unusedSimpArgs false
theorem Moves.imp {w : World} {fv : Value} {dom dom' : Nat → Nat → Prop} {G G' : Nat → Nat → List Pix → Nat × Nat × List Pix × Bool} (h : Moves w fv dom G)
    (hi : ∀ wd hg l, 1 ≤ wd → wd ≤ 6 → 1 ≤ hg → hg ≤ 6 → dom' wd hg → dom wd hg ∧ G wd hg l = G' wd hg l) : Moves w fv dom' G' := by
  obtain ⟨fn, caps, e, he, hc⟩ := h
  refine ⟨fn, caps, e, he, fun W hB wd hg A c l hP hd => ?_⟩
  have := hi wd hg l hP.w0 hP.w1 hP.h0 hP.h1 hd
  rw [← this.2]
  exact hc W hB wd hg A c l hP this.1
theorem Moves.below {w W : World} {fv : Value} {dom : Nat → Nat → Prop} {G : Nat → Nat → List Pix → Nat × Nat × List Pix × Bool} (h : Moves w fv dom G) (hb : Below w.heap.size w W) : Moves W fv dom G := by
  obtain ⟨fn, caps, e, he, hc⟩ := h
  exact ⟨fn, caps, e, he, fun W2 hb2 => hc W2 (hb.trans (hb2.mono hb.size))⟩
set_option maxHeartbeats 1000000 in
set_option maxRecDepth 100000 in
theorem pixs_gray (w : World) : Pixs w (.func (.func 69) #[] #[]) grayP := by
  refine ⟨_, _, rfl, enter_any Try.func69 rfl rfl, fun W hB p => ?_⟩
  show Calls Try.prog 69 #[.agg #[.int .i64 p.f0, .int .i64 p.f1, .int .i64 p.f2, .int .i64 p.f3]] W _
  go_enter Try.func69, Try.ntmps69
  go_wp2
  refine bodyPost_ret (v := .agg #[.int .i64 (grayP p).f0, .int .i64 (grayP p).f1, .int .i64 (grayP p).f2, .int .i64 (grayP p).f3]) (by simp [results, Try.results69, go_sem, grayP]) rfl ⟨rfl, ?_⟩
  exact below_two (Below.refl _ _) _ _
set_option maxHeartbeats 1000000 in
set_option maxRecDepth 100000 in
theorem over_walk (front behind a : Int) (g : Nat) (W : World) (h : W.cell? ⟨g, 3, none⟩ = some (.int .i64 a)) :
    Calls Try.prog 93 #[.int .i64 front, .int .i64 behind, .pointer (some ⟨g, 0, none⟩)] W fun e w' => e = .returned (.int .i64 (overP front behind a)) ∧ w' = W := by
  go_enter Try.func93, Try.ntmps93
  go_wp2
  go_ret
  exact ⟨rfl, rfl⟩
set_option maxHeartbeats 2000000 in
set_option maxRecDepth 100000 in
theorem pixs_flat {w : World} {b : Nat} {o : Op} (hb : OpBox w b o) : Pixs w (.func (.func 92) #[] #[.pointer (some ⟨b, 0, none⟩)]) (flatP o.f1 o.f2 o.f3) := by
  refine ⟨_, _, rfl, enter_any Try.func92 rfl rfl, fun W hB p => ?_⟩
  have HO := fun O1 O2 => ((hb.below hB).made O1).made O2
  have c1 := fun O1 O2 => (HO O1 O2).h1
  have c2 := fun O1 O2 => (HO O1 O2).h2
  have c3 := fun O1 O2 => (HO O1 O2).h3
  clear HO
  show Calls Try.prog 92 #[.agg #[.int .i64 p.f0, .int .i64 p.f1, .int .i64 p.f2, .int .i64 p.f3], .pointer (some ⟨b, 0, none⟩)] W _
  go_enter Try.func92, Try.ntmps92
  go_wp2
  generalize hw1 : ((W.alloc (.cells #[.int .i64 p.f0, .int .i64 p.f1, .int .i64 p.f2, .int .i64 p.f3] 36)).alloc (.cells #[.int .i64 0, .int .i64 0, .int .i64 0, .int .i64 0] 36)) = w1
  have d1 : w1.cell? ⟨b, 1, none⟩ = some (.int .i64 o.f1) := hw1 ▸ c1 _ _
  have d2 : w1.cell? ⟨b, 2, none⟩ = some (.int .i64 o.f2) := hw1 ▸ c2 _ _
  have d3 : w1.cell? ⟨b, 3, none⟩ = some (.int .i64 o.f3) := hw1 ▸ c3 _ _
  have hm := made2 (W := W) (O1 := .cells #[.int .i64 p.f0, .int .i64 p.f1, .int .i64 p.f2, .int .i64 p.f3] 36) (O2 := .cells #[.int .i64 0, .int .i64 0, .int .i64 0, .int .i64 0] 36) (w1 := w1) (hw1 ▸ Below.refl _ _)
  have p0 : w1.cell? ⟨W.heap.size, 0, none⟩ = some (.int .i64 p.f0) := (blk_cell hm.1 0).trans rfl
  have p1 : w1.cell? ⟨W.heap.size, 1, none⟩ = some (.int .i64 p.f1) := (blk_cell hm.1 1).trans rfl
  have p2 : w1.cell? ⟨W.heap.size, 2, none⟩ = some (.int .i64 p.f2) := (blk_cell hm.1 2).trans rfl
  have p3 : w1.cell? ⟨W.heap.size, 3, none⟩ = some (.int .i64 p.f3) := (blk_cell hm.1 3).trans rfl
  have HR := Aside0.mk hm.2
  have HB1 : Aside0 (Below W.heap.size W w1) := Aside0.mk (hw1 ▸ below_two (Below.refl _ _) _ _)
  have HBN : Aside0 (b ≠ W.heap.size + 1) := Aside0.mk (by have := World.block_lt_of_cell? W _ (hb.below hB).h1; simp at this; omega)
  clear hw1 hm c1 c2 c3 hb hB
  have dr : ∀ {a : Addr} {v : Value}, w1.cell? a = some v → w1.drew.cell? a = some v := fun h => h
  have r0 : w1.cell? ⟨W.heap.size + 1, 0, none⟩ = some (.int .i64 0) := (blk_cell HR.out 0).trans rfl
  have r1 : w1.cell? ⟨W.heap.size + 1, 1, none⟩ = some (.int .i64 0) := (blk_cell HR.out 1).trans rfl
  have r2 : w1.cell? ⟨W.heap.size + 1, 2, none⟩ = some (.int .i64 0) := (blk_cell HR.out 2).trans rfl
  have r3 : w1.cell? ⟨W.heap.size + 1, 3, none⟩ = some (.int .i64 0) := (blk_cell HR.out 3).trans rfl
  have s0 := blk_frozen HR.out 0
  have s1 := blk_frozen HR.out 1
  have s2 := blk_frozen HR.out 2
  have s3 := blk_frozen HR.out 3
  go_still_tail 19, (by kernel_rfl)
  still_call (over_walk _ _ p.f3 _ _ (dr p3))
  repeat still_step
  still_call (over_walk _ _ p.f3 _ _ (dr p3))
  repeat still_step
  still_call (over_walk _ _ p.f3 _ _ (dr p3))
  repeat still_step
  refine wpStill_nil ?_
  change wpList _ _ _ _ _ w1.drew
  have HD0 := Aside0.mk (blk_drew HR.out)
  have HD1 := Aside0.mk (below_drew1 HB1.out)
  clear HR HB1 d1 d2 d3 p0 p1 p2 p3 r0 r1 r2 r3 s0 s1 s2 s3 dr
  generalize w1.drew = w2 at HD0 HD1 ⊢
  have r0 := (blk_cell HD0.out 0).trans rfl
  have r1 := (blk_cell HD0.out 1).trans rfl
  have r2 := (blk_cell HD0.out 2).trans rfl
  have r3 := (blk_cell HD0.out 3).trans rfl
  have s0 := blk_frozen HD0.out 0
  have s1 := blk_frozen HD0.out 1
  have s2 := blk_frozen HD0.out 2
  have s3 := blk_frozen HD0.out 3
  go_wp2
  refine bodyPost_ret (results_cell_row rfl _ _ (W.heap.size + 1) 36 _ (0, 0) _ rfl (pix_block HD0.out (flatP o.f1 o.f2 o.f3 p)) Try.underlying36 rfl (by kernel_rfl)) rfl ⟨rfl, ?_⟩
  exact below_set (below_set (below_set (below_set HD1.out (by simp) _) (by simp) _) (by simp) _) (by simp) _
end Go.Proofs.Ytoifpgkfpdeglaa.X
namespace Go.Proofs.Ytoifpgkfpdeglaa.X
open Go.RowKit Go.Proofs.YtoifpgkfpdeglaaW.PrintWords Go.Proofs.YtoifpgkfpdeglaaW.PrintLast Go.Proofs.YtoifpgkfpdeglaaW.PrintMore
set_option linter.unusedVariables false
set_option linter.unusedSimpArgs false
theorem places_made (f1 f2 : Fn) (c1 c2 : Array Value) (w : World) : Calls Try.prog 62 #[.func f1 #[] c1, .func f2 #[] c2] w fun e w' => ∃ p1 p2, e = .returned (.func (.func 85) #[] #[.pointer (some p1), .pointer (some p2)]) ∧ w'.cell? p1 = some (.func f1 #[] c1) ∧ w'.cell? p2 = some (.func f2 #[] c2) ∧ Below w.heap.size w w' := by
  go_enter Try.func62, Try.ntmps62
  go_wp2
  go_ret
  have hm := made2 (W := w) (O1 := .cells #[.func f1 #[] c1] 88) (O2 := .cells #[.func f2 #[] c2] 89) (Below.refl _ _)
  exact ⟨_, _, rfl, (blk_cell hm.1 0).trans rfl, (blk_cell hm.2 0).trans rfl, below_two (Below.refl _ _) _ _⟩
theorem colours_made (f1 : Fn) (c1 : Array Value) (w : World) : Calls Try.prog 68 #[.func f1 #[] c1] w fun e w' => ∃ p1, e = .returned (.func (.func 87) #[] #[.pointer (some p1)]) ∧ w'.cell? p1 = some (.func f1 #[] c1) ∧ Below w.heap.size w w' := by
  go_enter Try.func68, Try.ntmps68
  go_wp2
  go_ret
  exact ⟨_, rfl, (blk_cell (blk_new w _) 0).trans rfl, below_alloc (Below.refl _ _) _⟩
def outM (o : Op) (wd hg : Nat) (l : List Pix) : Nat × Nat × List Pix × Bool := if hasM o wd hg then (wideM o wd hg, highM o wd hg, picM o wd hg l, true) else (0, 0, [], false)
def anyDom (_ _ : Nat) : Prop := True
def hasDom (o : Op) (wd hg : Nat) : Prop := o.f1 + o.f3 ≤ wd ∧ o.f2 + o.f4 ≤ hg
set_option maxHeartbeats 2000000 in
set_option maxRecDepth 100000 in
theorem moves_crop {w : World} {b : Nat} {o : Op} (hb : OpBox w b o) {pc : Addr} {fv : Value} (hp : w.cell? pc = some fv) (ho : OkO o) (h1 : o.f0 = 1) (hM : Moves w fv (hasDom o) (fun wd hg l => (wideM o wd hg, highM o wd hg, picM o wd hg l, true))) :
    Moves w (.func (.func 84) #[] #[.pointer (some ⟨b, 0, none⟩), .pointer (some pc)]) anyDom (outM o) := by
  refine ⟨_, _, rfl, enter_any Try.func84 rfl rfl, fun W hB wd hg A c l hP _ => ?_⟩
  obtain ⟨fn, caps, rfl, henter, hcall⟩ := hM
  have HO := fun O1 O2 => ((hb.below hB).made O1).made O2
  have c1 := fun O1 O2 => (HO O1 O2).h1
  have c2 := fun O1 O2 => (HO O1 O2).h2
  have c3 := fun O1 O2 => (HO O1 O2).h3
  have c4 := fun O1 O2 => (HO O1 O2).h4
  have gp : ∀ O1 O2, ((W.alloc O1).alloc O2).cell? pc = some (.func (.func fn) #[] caps) := fun O1 O2 => pw_cell_below (below_two (Below.refl _ _) O1 O2) (pw_cell_below hB hp)
  have hbd : (0 ≤ o.f1 ∧ o.f1 ≤ 5) ∧ (0 ≤ o.f2 ∧ o.f2 ≤ 5) ∧ (1 ≤ o.f3 ∧ o.f3 ≤ 6) ∧ (1 ≤ o.f4 ∧ o.f4 ≤ 6) := by
    rcases ho with ⟨_, h⟩ | ⟨h, _⟩ | ⟨h, _⟩ | ⟨h, _⟩
    · exact h
    · omega
    · omega
    · omega
  obtain ⟨b1, b2, b3, b4⟩ := hbd
  have HC := Aside0.mk hcall
  have HB := Aside0.mk hB
  have HP := Aside0.mk hP
  have HOUT : Aside0 (outM o wd hg l = if o.f1 + o.f3 ≤ wd ∧ o.f2 + o.f4 ≤ hg then (wideM o wd hg, highM o wd hg, picM o wd hg l, true) else (0, 0, [], false)) := Aside0.mk (by unfold outM hasM; rw [if_pos h1]; simp)
  have w1 := hP.w1
  have w2 := hP.h1
  clear HO hcall hB hP hb hp ho
  show Calls Try.prog 84 #[.agg #[.int .i64 wd, .int .i64 hg, .slice A l.length c], .pointer (some ⟨b, 0, none⟩), .pointer (some pc)] W _
  by_cases k1 : o.f1 + o.f3 > wd
  · rw [HOUT.out, if_neg (by omega)]
    go_enter Try.func84, Try.ntmps84
    go_wp2
    refine bodyPost_ret (results_ct rfl _ _ (W.heap.size + 1) 25 #[.int .i64 0, .int .i64 0, .slice none 0 0] (0, 0) _ rfl (made2 (Below.refl _ _)).2 Try.underlying25 rfl (by kernel_rfl)) rfl ⟨_, rfl, Kd.R_nil _ _ _ _ _, below_two (Below.refl _ _) _ _⟩
  · by_cases k2 : o.f2 + o.f4 > hg
    · rw [HOUT.out, if_neg (by omega)]
      go_enter Try.func84, Try.ntmps84
      go_wp2
      refine bodyPost_ret (results_ct rfl _ _ (W.heap.size + 1) 25 #[.int .i64 0, .int .i64 0, .slice none 0 0] (0, 0) _ rfl (made2 (Below.refl _ _)).2 Try.underlying25 rfl (by kernel_rfl)) rfl ⟨_, rfl, Kd.R_nil _ _ _ _ _, below_two (Below.refl _ _) _ _⟩
    · rw [HOUT.out, if_pos (by omega)]
      go_enter Try.func84, Try.ntmps84
      go_wp2_with (refine (HC.out _ (below_two HB.out _ _) wd hg A c l (HP.out.below (below_two (Below.refl _ _) _ _)) ⟨by omega, by omega⟩).mono ?_; rintro e w2 ⟨v, rfl, hR, hb2⟩; obtain ⟨A', c', rfl⟩ := Kd.R_slice hR; have BR2 : Aside0 (ResBlk w2 (W.heap.size + 1)) := Aside0.mk (made2 hb2).2; have r0 := (blk_cell BR2.out 0).trans rfl; have r1 := (blk_cell BR2.out 1).trans rfl; have r2 := (blk_cell BR2.out 2).trans rfl; have s0 := blk_frozen BR2.out 0; have s1 := blk_frozen BR2.out 1; have s2 := blk_frozen BR2.out 2; have HR := Aside0.mk hR; have HB2 := Aside0.mk (below_made2 hb2); clear hb2 hR)
      refine bodyPost_ret (results_ct rfl _ _ (W.heap.size + 1) 25 _ (0, 0) _ rfl (ras_block BR2.out _ _ _) Try.underlying25 rfl (by kernel_rfl)) rfl ⟨_, rfl, R_ret HR.out (by simp; omega) (by simp) _ _ _, ?_⟩
      exact below_set (below_set (below_set HB2.out (by simp) _) (by simp) _) (by simp) _
theorem box_made {w W : World} {o : Op} (h : Below (w.alloc (.cells #[.int .i64 o.f0, .int .i64 o.f1, .int .i64 o.f2, .int .i64 o.f3, .int .i64 o.f4] 27)).heap.size (w.alloc (.cells #[.int .i64 o.f0, .int .i64 o.f1, .int .i64 o.f2, .int .i64 o.f3, .int .i64 o.f4] 27)) W) : OpBox W w.heap.size o :=
  have k := blk_keep (blk_new w _) h
  ⟨(blk_cell k 0).trans rfl, (blk_cell k 1).trans rfl, (blk_cell k 2).trans rfl, (blk_cell k 3).trans rfl, (blk_cell k 4).trans rfl⟩
def Makes (o : Op) (w : World) (e : Ending) (w' : World) : Prop := ∃ f1 c1, e = .returned (.func f1 #[] c1) ∧ Moves w' (.func f1 #[] c1) anyDom (outM o) ∧ Below w.heap.size w w'
set_option maxHeartbeats 2000000 in
set_option maxRecDepth 100000 in
theorem crop_made {o : Op} (ho : OkO o) (h1 : o.f0 = 1) (w : World) : Calls Try.prog 61 #[.agg #[.int .i64 o.f0, .int .i64 o.f1, .int .i64 o.f2, .int .i64 o.f3, .int .i64 o.f4]] w (Makes o w) := by
  have hbd : (0 ≤ o.f1 ∧ o.f1 ≤ 5) ∧ (0 ≤ o.f2 ∧ o.f2 ≤ 5) ∧ (1 ≤ o.f3 ∧ o.f3 ≤ 6) ∧ (1 ≤ o.f4 ∧ o.f4 ≤ 6) := by
    rcases ho with ⟨_, h⟩ | ⟨h, _⟩ | ⟨h, _⟩ | ⟨h, _⟩
    · exact h
    · omega
    · omega
    · omega
  have HBD := Aside0.mk hbd
  have HO := Aside0.mk ho
  have H1 := Aside0.mk h1
  clear hbd ho h1
  go_enter Try.func61, Try.ntmps61
  go_wp2_with (go_at_call 62; refine (places_made _ _ _ _ _).mono ?_; rintro e w1 ⟨p1, p2, rfl, k1, k2, hb1⟩; have HOB := Aside0.mk (box_made hb1); have HK1 := Aside0.mk k1; have HK2 := Aside0.mk k2; have HB1 := Aside0.mk (below_made hb1); clear hb1 k1 k2)
  go_ret
  have hd := below_alloc (Below.refl w1.heap.size w1) (.cells #[.func (.func 85) #[] #[.pointer (some p1), .pointer (some p2)]] 67)
  refine ⟨_, _, rfl, moves_crop (HOB.out.below hd) ((blk_cell (blk_new w1 _) 0).trans rfl) HO.out H1.out ?_, HB1.out.trans (hd.mono HB1.out.size)⟩
  refine (moves_places (pw_cell_below hd HK1.out) (pw_cell_below hd HK2.out) (hasDom o) (fun _ _ => o.f3.toNat) (fun _ _ => o.f4.toNat) (fun _ _ x y => o.f1.toNat + x) (fun _ _ x y => o.f2.toNat + y) ?_).imp ?_
  · intro wd hg hdm a1 a2 a3 a4
    obtain ⟨b1, b2, b3, b4⟩ := HBD.out
    refine ⟨size_crop (HOB.out.below hd) (by omega) (by omega) wd hg, from_crop (HOB.out.below hd) b1 b2 wd hg _ _ (by omega) (by omega), by omega, fun x y hx hy => ?_⟩
    have := hdm.1
    have := hdm.2
    omega
  · intro wd hg l a1 a2 a3 a4 hdm
    refine ⟨hdm, ?_⟩
    have h1 := H1.out
    have e1 : wideM o wd hg = o.f3.toNat := by unfold wideM; rw [if_pos h1]
    have e2 : highM o wd hg = o.f4.toNat := by unfold highM; rw [if_pos h1]
    unfold placesG picM
    rw [e1, e2]
    have : colM o wd hg l = fun x y => pix l wd (o.f1.toNat + x) (o.f2.toNat + y) := by
      funext x y
      unfold colM
      rw [if_pos h1]
    rw [this]
set_option maxHeartbeats 2000000 in
set_option maxRecDepth 100000 in
theorem size_made {o : Op} (b1 : 1 ≤ o.f1 ∧ o.f1 ≤ 6) (b2 : 1 ≤ o.f2 ∧ o.f2 ≤ 6) (h1 : o.f0 = 7) (w : World) : Calls Try.prog 71 #[.agg #[.int .i64 o.f0, .int .i64 o.f1, .int .i64 o.f2, .int .i64 o.f3, .int .i64 o.f4]] w (Makes o w) := by
  have H1 := Aside0.mk h1
  clear h1
  go_enter Try.func71, Try.ntmps71
  go_wp2_with (go_at_call 62; refine (places_made _ _ _ _ _).mono ?_; rintro e w1 ⟨p1, p2, rfl, k1, k2, hb1⟩; have HOB := Aside0.mk (box_made hb1); have HK1 := Aside0.mk k1; have HK2 := Aside0.mk k2; have HB1 := Aside0.mk (below_made hb1); clear hb1 k1 k2)
  go_ret
  refine ⟨_, _, rfl, ?_, HB1.out⟩
  refine (moves_places HK1.out HK2.out anyDom (fun _ _ => o.f1.toNat) (fun _ _ => o.f2.toNat) (fun wd _ x y => (2 * x + 1) * wd / (2 * o.f1.toNat)) (fun _ hg x y => (2 * y + 1) * hg / (2 * o.f2.toNat)) ?_).imp ?_
  · intro wd hg _ a1 a2 a3 a4
    exact ⟨size_size HOB.out (by omega) (by omega) wd hg, from_size HOB.out b1 b2 wd hg a2 a4, by omega, fun x y hx hy => ⟨scale_lt hx (by omega), scale_lt hy (by omega)⟩⟩
  · intro wd hg l a1 a2 a3 a4 _
    refine ⟨trivial, ?_⟩
    have h1 := H1.out
    have e0 : hasM o wd hg = true := by unfold hasM; rw [if_neg (by omega)]
    have e1 : wideM o wd hg = o.f1.toNat := by unfold wideM; simp [h1]
    have e2 : highM o wd hg = o.f2.toNat := by unfold highM; simp [h1]
    unfold outM placesG picM
    rw [e0, e1, e2, if_pos rfl]
    have : colM o wd hg l = fun x y => pix l wd ((2 * x + 1) * wd / (2 * o.f1.toNat)) ((2 * y + 1) * hg / (2 * o.f2.toNat)) := by
      funext x y
      unfold colM
      simp [h1]
    rw [this]
set_option maxHeartbeats 2000000 in
set_option maxRecDepth 100000 in
theorem flat_made {o : Op} (h1 : o.f0 = 8) (w : World) : Calls Try.prog 72 #[.agg #[.int .i64 o.f0, .int .i64 o.f1, .int .i64 o.f2, .int .i64 o.f3, .int .i64 o.f4]] w (Makes o w) := by
  have H1 := Aside0.mk h1
  clear h1
  go_enter Try.func72, Try.ntmps72
  go_wp2_with (go_at_call 68; refine (colours_made _ _ _).mono ?_; rintro e w1 ⟨p1, rfl, k1, hb1⟩; have HOB := Aside0.mk (box_made hb1); have HK1 := Aside0.mk k1; have HB1 := Aside0.mk (below_made hb1); clear hb1 k1)
  go_ret
  refine ⟨_, _, rfl, ?_, HB1.out⟩
  refine (moves_colours HK1.out (flatP o.f1 o.f2 o.f3) (pixs_flat HOB.out) anyDom).imp ?_
  intro wd hg l a1 a2 a3 a4 _
  refine ⟨trivial, ?_⟩
  have h1 := H1.out
  have e0 : hasM o wd hg = true := by unfold hasM; rw [if_neg (by omega)]
  have e1 : wideM o wd hg = wd := by unfold wideM; simp [h1]
  have e2 : highM o wd hg = hg := by unfold highM; simp [h1]
  unfold outM coloursG picM
  rw [e0, e1, e2, if_pos rfl]
  have : colM o wd hg l = fun x y => flatP o.f1 o.f2 o.f3 (pix l wd x y) := by
    funext x y
    unfold colM
    simp [h1]
  rw [this]
theorem out_plain {o : Op} {k : Int} (h1 : o.f0 = k) (hk : 2 ≤ k ∧ k ≤ 6) (wd hg : Nat) (l : List Pix) : outM o wd hg l = (wideM o wd hg, highM o wd hg, picM o wd hg l, true) := by
  have e0 : hasM o wd hg = true := by unfold hasM; rw [if_neg (by omega)]
  unfold outM
  rw [e0, if_pos rfl]
theorem moves_flip {w w1 : World} {o : Op} {p1 p2 : Addr} {f2 : Fn} {X Y : Nat → Nat → Nat → Nat → Nat} (hb : Below w.heap.size w w1) (k1 : w1.cell? p1 = some (.func (.func 63) #[] #[])) (k2 : w1.cell? p2 = some (.func f2 #[] #[]))
    (hF : ∀ wd hg, wd ≤ 6 → hg ≤ 6 → Froms w1 (.func f2 #[] #[]) wd hg wd hg (X wd hg) (Y wd hg)) (hs : ∀ wd hg x y, x < wd → y < hg → X wd hg x y < wd ∧ Y wd hg x y < hg) (ho : ∀ wd hg l, outM o wd hg l = placesG (fun a _ => a) (fun _ b => b) X Y wd hg l) :
    Makes o w (.returned (.func (.func 85) #[] #[.pointer (some p1), .pointer (some p2)])) w1 :=
  ⟨_, _, rfl, (moves_places k1 k2 anyDom (fun a _ => a) (fun _ b => b) X Y (fun wd hg _ a1 a2 a3 a4 => ⟨sizes_same w1 wd hg, hF wd hg a2 a4, ⟨a1, a2, a3, a4⟩, hs wd hg⟩)).imp (fun wd hg l _ _ _ _ _ => ⟨trivial, (ho wd hg l).symm⟩), hb⟩
theorem plain2 {o : Op} (h1 : o.f0 = 2) (wd hg : Nat) (l : List Pix) : outM o wd hg l = placesG (fun a _ => a) (fun _ b => b) (fun wd _ x y => wd - 1 - x) (fun _ _ x y => y) wd hg l := by
    rw [out_plain h1 (by omega)]
    have e1 : wideM o wd hg = wd := by unfold wideM; simp [h1]
    have e2 : highM o wd hg = hg := by unfold highM; simp [h1]
    have e3 : colM o wd hg l = fun x y => pix l wd (wd - 1 - x) y := by
      funext x y
      unfold colM
      simp [h1]
    unfold placesG picM
    rw [e1, e2, e3]
theorem plain3 {o : Op} (h1 : o.f0 = 3) (wd hg : Nat) (l : List Pix) : outM o wd hg l = placesG (fun a _ => a) (fun _ b => b) (fun _ _ x y => x) (fun _ hg x y => hg - 1 - y) wd hg l := by
    rw [out_plain h1 (by omega)]
    have e1 : wideM o wd hg = wd := by unfold wideM; simp [h1]
    have e2 : highM o wd hg = hg := by unfold highM; simp [h1]
    have e3 : colM o wd hg l = fun x y => pix l wd x (hg - 1 - y) := by
      funext x y
      unfold colM
      simp [h1]
    unfold placesG picM
    rw [e1, e2, e3]
theorem plain4 {o : Op} (h1 : o.f0 = 4) (wd hg : Nat) (l : List Pix) : outM o wd hg l = placesG (fun _ b => b) (fun a _ => a) (fun _ _ x y => y) (fun _ hg x y => hg - 1 - x) wd hg l := by
    rw [out_plain h1 (by omega)]
    have e1 : wideM o wd hg = hg := by unfold wideM; simp [h1]
    have e2 : highM o wd hg = wd := by unfold highM; simp [h1]
    have e3 : colM o wd hg l = fun x y => pix l wd y (hg - 1 - x) := by
      funext x y
      unfold colM
      simp [h1]
    unfold placesG picM
    rw [e1, e2, e3]
theorem plain5 {o : Op} (h1 : o.f0 = 5) (wd hg : Nat) (l : List Pix) : outM o wd hg l = coloursG (fun wd _ l x y => grayP (pix l wd x y)) wd hg l := by
    rw [out_plain h1 (by omega)]
    have e1 : wideM o wd hg = wd := by unfold wideM; simp [h1]
    have e2 : highM o wd hg = hg := by unfold highM; simp [h1]
    have e3 : colM o wd hg l = fun x y => grayP (pix l wd x y) := by
      funext x y
      unfold colM
      simp [h1]
    unfold coloursG picM
    rw [e1, e2, e3]
theorem plain6 {o : Op} (h1 : o.f0 = 6) (wd hg : Nat) (l : List Pix) : outM o wd hg l = coloursG (fun wd hg l x y => blurP l wd hg x y) wd hg l := by
    rw [out_plain h1 (by omega)]
    have e1 : wideM o wd hg = wd := by unfold wideM; simp [h1]
    have e2 : highM o wd hg = hg := by unfold highM; simp [h1]
    have e3 : colM o wd hg l = fun x y => blurP l wd hg x y := by
      funext x y
      unfold colM
      simp [h1]
    unfold coloursG picM
    rw [e1, e2, e3]
set_option maxHeartbeats 4000000 in
set_option maxRecDepth 100000 in
theorem moveOf_walk {o : Op} (ho : OkO o) (w : World) : Calls Try.prog 37 #[.agg #[.int .i64 o.f0, .int .i64 o.f1, .int .i64 o.f2, .int .i64 o.f3, .int .i64 o.f4]] w (Makes o w) := by
  by_cases h1 : o.f0 = 1
  · have HC : ∀ W, Calls Try.prog 61 #[.agg #[.int .i64 1, .int .i64 o.f1, .int .i64 o.f2, .int .i64 o.f3, .int .i64 o.f4]] W (Makes o W) := fun W => by have := crop_made ho h1 W; rwa [h1] at this
    clear ho
    go_enter Try.func37, Try.ntmps37
    go_wp2_with (go_at_call 61; refine (HC _).mono ?_; rintro e w1 ⟨f1, c1, rfl, hM, hb⟩; have HM := Aside0.mk hM; have HB1 := Aside0.mk (below_made hb); clear hM hb)
    go_ret
    exact ⟨_, _, rfl, HM.out, HB1.out⟩
  have g1 := h1
  clear h1
  by_cases h1 : o.f0 = 2
  · clear ho
    have H1 := Aside0.mk h1
    go_enter Try.func37, Try.ntmps37
    go_wp2_with (go_at_call 62; refine (places_made _ _ _ _ _).mono ?_; rintro e w1 ⟨p1, p2, rfl, k1, k2, hb⟩; have HK1 := Aside0.mk k1; have HK2 := Aside0.mk k2; have HB1 := Aside0.mk (below_made hb); clear k1 k2 hb)
    go_ret
    exact moves_flip HB1.out HK1.out HK2.out (X := fun wd _ x y => wd - 1 - x) (Y := fun _ _ x y => y) (fun wd hg hw hh => from_flipX w1 wd hg hw) (fun wd hg x y hx hy => by omega) (plain2 H1.out)
  have g2 := h1
  clear h1
  by_cases h1 : o.f0 = 3
  · clear ho
    have H1 := Aside0.mk h1
    go_enter Try.func37, Try.ntmps37
    go_wp2_with (go_at_call 62; refine (places_made _ _ _ _ _).mono ?_; rintro e w1 ⟨p1, p2, rfl, k1, k2, hb⟩; have HK1 := Aside0.mk k1; have HK2 := Aside0.mk k2; have HB1 := Aside0.mk (below_made hb); clear k1 k2 hb)
    go_ret
    exact moves_flip HB1.out HK1.out HK2.out (X := fun _ _ x y => x) (Y := fun _ hg x y => hg - 1 - y) (fun wd hg hw hh => from_flipY w1 wd hg hh) (fun wd hg x y hx hy => by omega) (plain3 H1.out)
  have g3 := h1
  clear h1
  by_cases h1 : o.f0 = 4
  · clear ho
    have H1 := Aside0.mk h1
    go_enter Try.func37, Try.ntmps37
    go_wp2_with (go_at_call 62; refine (places_made _ _ _ _ _).mono ?_; rintro e w1 ⟨p1, p2, rfl, k1, k2, hb⟩; have HK1 := Aside0.mk k1; have HK2 := Aside0.mk k2; have HB1 := Aside0.mk (below_made hb); clear k1 k2 hb)
    go_ret
    exact ⟨_, _, rfl, (moves_places HK1.out HK2.out anyDom (fun _ b => b) (fun a _ => a) (fun _ _ x y => y) (fun _ hg x y => hg - 1 - x) (fun wd hg _ a1 a2 a3 a4 => ⟨size_turned w1 wd hg, from_turn w1 wd hg a4, ⟨a3, a4, a1, a2⟩, fun x y hx hy => by omega⟩)).imp (fun wd hg l _ _ _ _ _ => ⟨trivial, (plain4 H1.out wd hg l).symm⟩), HB1.out⟩
  have g4 := h1
  clear h1
  by_cases h1 : o.f0 = 5
  · clear ho
    have H1 := Aside0.mk h1
    go_enter Try.func37, Try.ntmps37
    go_wp2_with (go_at_call 68; refine (colours_made _ _ _).mono ?_; rintro e w1 ⟨p1, rfl, k1, hb⟩; have HK1 := Aside0.mk k1; have HB1 := Aside0.mk (below_made hb); clear k1 hb)
    go_ret
    exact ⟨_, _, rfl, (moves_colours HK1.out grayP (pixs_gray w1) anyDom).imp (fun wd hg l _ _ _ _ _ => ⟨trivial, (plain5 H1.out wd hg l).symm⟩), HB1.out⟩
  have g5 := h1
  clear h1
  by_cases h1 : o.f0 = 6
  · clear ho
    have H1 := Aside0.mk h1
    go_enter Try.func37, Try.ntmps37
    go_wp2
    go_ret
    exact ⟨_, _, rfl, (moves_blur _ anyDom).imp (fun wd hg l _ _ _ _ _ => ⟨trivial, (plain6 H1.out wd hg l).symm⟩), below_alloc (Below.refl _ _) _⟩
  have g9 := h1
  clear h1
  have h78 : (o.f0 = 7 ∧ (1 ≤ o.f1 ∧ o.f1 ≤ 6) ∧ (1 ≤ o.f2 ∧ o.f2 ≤ 6)) ∨ o.f0 = 8 := by
    rcases ho with ⟨h, _⟩ | ⟨h, _⟩ | ⟨h, a, b, _⟩ | ⟨h, _⟩
    · omega
    · omega
    · exact Or.inl ⟨h, a, b⟩
    · exact Or.inr h
  rcases h78 with ⟨h1, b1, b2⟩ | h1
  · have HC : ∀ W, Calls Try.prog 71 #[.agg #[.int .i64 7, .int .i64 o.f1, .int .i64 o.f2, .int .i64 o.f3, .int .i64 o.f4]] W (Makes o W) := fun W => by have := size_made b1 b2 h1 W; rwa [h1] at this
    clear ho b1 b2
    go_enter Try.func37, Try.ntmps37
    go_wp2_with (go_at_call 71; refine (HC _).mono ?_; rintro e w1 ⟨f1, c1, rfl, hM, hb⟩; have HM := Aside0.mk hM; have HB1 := Aside0.mk (below_made hb); clear hM hb)
    go_ret
    exact ⟨_, _, rfl, HM.out, HB1.out⟩
  · have HC : ∀ W, Calls Try.prog 72 #[.agg #[.int .i64 8, .int .i64 o.f1, .int .i64 o.f2, .int .i64 o.f3, .int .i64 o.f4]] W (Makes o W) := fun W => by have := flat_made h1 W; rwa [h1] at this
    clear ho
    go_enter Try.func37, Try.ntmps37
    go_wp2_with (go_at_call 72; refine (HC _).mono ?_; rintro e w1 ⟨f1, c1, rfl, hM, hb⟩; have HM := Aside0.mk hM; have HB1 := Aside0.mk (below_made hb); clear hM hb)
    go_ret
    exact ⟨_, _, rfl, HM.out, HB1.out⟩
end Go.Proofs.Ytoifpgkfpdeglaa.X
namespace Go.Proofs.Ytoifpgkfpdeglaa.Pl
open Go.RowKit Go.Proofs.YtoifpgkfpdeglaaW.PrintWords
theorem wrap_id {x : Int} (h0 : -9223372036854775808 ≤ x) (h1 : x ≤ 9223372036854775807) : wrap64 x = x := by
  unfold wrap64; omega
theorem wrap_succ {i : Nat} (h : i < 9223372036854775807) : wrap64 ((i : Int) + 1) = ((i + 1 : Nat) : Int) := by
  unfold wrap64; omega
theorem ev_succ {α : Type} {g : Nat → Option α} {r : α} (h : Ev (fun k => g (k + 1)) r) : Ev g r := by
  obtain ⟨K, h⟩ := h
  refine ⟨K + 1, fun n hn => ?_⟩
  obtain ⟨m, rfl⟩ : ∃ m, n = m + 1 := ⟨n - 1, by omega⟩
  exact h m (by omega)
theorem getD_mem {α : Type} (l : List α) (z : α) (i : Nat) (h : i < l.length) : l.getD i z ∈ l := by
  rw [List.getD_eq_getElem?_getD, List.getElem?_eq_getElem h]; exact List.getElem_mem h
theorem ev_all (n : Nat) (g : Nat → Int → Option Bool) (hstep : ∀ i, i < n → Ev (fun k => g k ((i + 1 : Nat) : Int)) true → Ev (fun k => g k (i : Int)) true) (hend : ∀ k, g (k + 1) (n : Int) = some true) : Ev (fun k => g k 0) true := by
  have : ∀ d j, j + d = n → Ev (fun k => g k (j : Int)) true := by
    intro d
    induction d with
    | zero => intro j hj; have : j = n := by omega
              subst this; exact ev_succ ⟨0, fun k _ => hend k⟩
    | succ d ih => intro j hj; exact hstep j (by omega) (ih (j + 1) (by omega))
  exact this n 0 (by omega)
theorem ev_allR (n : Nat) (p : Nat → Bool) (b : Bool) (g : Nat → Int → Option Bool)
    (hyes : ∀ i, i < n → p i = true → ∀ r, Ev (fun k => g k ((i + 1 : Nat) : Int)) r → Ev (fun k => g k (i : Int)) r)
    (hno : ∀ i, i < n → p i = false → Ev (fun k => g k (i : Int)) false)
    (hend : Ev (fun k => g k (n : Int)) b) : Ev (fun k => g k 0) ((List.range n).all p && b) := by
  have key : ∀ d i, i + d = n → Ev (fun k => g k (i : Int)) (((List.range' i d).all p) && b) := by
    intro d
    induction d with
    | zero => intro i hi; have : i = n := by omega
              subst this; simpa using hend
    | succ d ih =>
      intro i hi
      have := ih (i + 1) (by omega)
      rw [List.range'_succ, List.all_cons]
      cases hp : p i with
      | true => simpa using hyes i (by omega) hp _ this
      | false => simpa using hno i (by omega) hp
  have := key n 0 (by omega)
  rwa [← List.range_eq_range'] at this
theorem Ev.at_ {α : Type} {g : Nat → Option α} {r : α} (h : Ev g r) : ∃ K, ∀ k, K ≤ k → g k = some r := h
def Tot {α : Type} (g : Nat → Option α) (post : α → Prop) : Prop := ∃ r, Ev g r ∧ post r
theorem Tot.ret {α : Type} {post : α → Prop} {r : α} (h : post r) : Tot (fun _ => some r) post := ⟨r, Ev.now r, h⟩
theorem Tot.mono {α : Type} {g : Nat → Option α} {P Q : α → Prop} (h : Tot g P) (hi : ∀ r, P r → Q r) : Tot g Q := by
  obtain ⟨r, h, hp⟩ := h
  exact ⟨r, h, hi r hp⟩
theorem Tot.bind {α β : Type} {g : Nat → Option α} {f : Nat → α → Option β} {P : α → Prop} {Q : β → Prop} (h : Tot g P) (hf : ∀ a, P a → Tot (fun k => f k a) Q) : Tot (fun k => (g k).bind (f k)) Q := by
  obtain ⟨a, h, hp⟩ := h
  obtain ⟨r, h2, hq⟩ := hf a hp
  exact ⟨r, Ev.bind h h2, hq⟩
theorem Tot.some_bind {α β : Type} {f : Nat → α → Option β} {Q : β → Prop} {a : α} (hf : Tot (fun k => f k a) Q) : Tot (fun k => (some a).bind (f k)) Q := hf
theorem Tot.ite {α : Type} {c : Prop} [Decidable c] {f g : Nat → Option α} {Q : α → Prop} (h1 : c → Tot f Q) (h2 : ¬ c → Tot g Q) : Tot (fun k => if c then f k else g k) Q := by
  by_cases h : c
  · simpa [h] using h1 h
  · simpa [h] using h2 h
theorem Tot.pos {α : Type} {c : Prop} [Decidable c] {f g : Nat → Option α} {Q : α → Prop} (h : c) (h1 : Tot f Q) : Tot (fun k => if c then f k else g k) Q := by simpa [h] using h1
theorem Tot.succ {α : Type} {g : Nat → Option α} {Q : α → Prop} (h : Tot (fun k => g (k + 1)) Q) : Tot g Q := by
  obtain ⟨r, h, hp⟩ := h
  exact ⟨r, ev_succ h, hp⟩
theorem Tot.ev {α : Type} {g : Nat → Option α} {P : α → Prop} (h : Tot g P) : ∃ r, Ev g r ∧ P r := h
theorem tot_ind {α σ : Type} (g : Nat → σ → Option α) (Inv : σ → Prop) (m : σ → Nat) (post : α → Prop)
    (h : ∀ s, Inv s → (∀ s', Inv s' → m s' < m s → Tot (fun k => g k s') post) → Tot (fun k => g k s) post) : ∀ s, Inv s → Tot (fun k => g k s) post := by
  have key : ∀ d s, m s < d → Inv s → Tot (fun k => g k s) post := by
    intro d
    induction d with
    | zero => intro s h; omega
    | succ d ih => intro s hd hs; exact h s hs (fun s' hs' hm => ih s' (by omega) hs')
  intro s hs
  exact key (m s + 1) s (by omega) hs
theorem Tot.rounds {g : Nat → Option Bool} (h : Tot g (fun b => b = true)) : ∃ k, g k = some true := by
  obtain ⟨r, h, rfl⟩ := h
  exact h.rounds
end Go.Proofs.Ytoifpgkfpdeglaa.Pl
namespace Go.Proofs.Ytoifpgkfpdeglaa.X
open Go.RowKit Go.Proofs.YtoifpgkfpdeglaaW.PrintWords Go.Proofs.Ytoifpgkfpdeglaa.Pl
set_option linter.unusedSimpArgs false
theorem l1In_some (a b c : Int) : spec_l1In.f a b c = some (decide (b ≤ a ∧ a ≤ c)) := by
  unfold spec_l1In.f
  by_cases h : b ≤ a <;> simp [h]
theorem within_some (a b c : Int) : impl_within.f a b c = some (decide (b ≤ a ∧ a ≤ c)) := by
  unfold impl_within.f
  by_cases h : b ≤ a <;> simp [h]
theorem sizeOk_some (a : Int) : impl_sizeOk.f a = some (decide (1 ≤ a ∧ a ≤ 6)) := by
  unfold impl_sizeOk.f
  by_cases h : 1 ≤ a <;> simp [h]
theorem partOk_some (a : Int) : impl_partOk.f a = some (decide (0 ≤ a ∧ a ≤ 255)) := by
  unfold impl_partOk.f
  by_cases h : 0 ≤ a <;> simp [h]
def opOkB (o a b c d : Int) : Bool :=
  if o = 1 then decide (0 ≤ a ∧ a ≤ 5) && (decide (0 ≤ b ∧ b ≤ 5) && (decide (1 ≤ c ∧ c ≤ 6) && decide (1 ≤ d ∧ d ≤ 6)))
  else if o = 7 then decide (1 ≤ a ∧ a ≤ 6) && (decide (1 ≤ b ∧ b ≤ 6) && (decide (c = 0) && decide (d = 0)))
  else if o = 8 then decide (0 ≤ a ∧ a ≤ 255) && (decide (0 ≤ b ∧ b ≤ 255) && (decide (0 ≤ c ∧ c ≤ 255) && decide (d = 0)))
  else decide (2 ≤ o ∧ o ≤ 6) && (decide (a = 0) && (decide (b = 0) && (decide (c = 0) && decide (d = 0))))
theorem spec_OpOk_some (o a b c d : Int) : spec_OpOk.f o a b c d = some (opOkB o a b c d) := by
  unfold spec_OpOk.f opOkB
  simp only [l1In_some, Option.bind_some]
  by_cases h1 : o = 1
  · simp only [h1, if_true]
    by_cases p : 0 ≤ a ∧ a ≤ 5 <;> by_cases q : 0 ≤ b ∧ b ≤ 5 <;> by_cases r : 1 ≤ c ∧ c ≤ 6 <;> simp [p, q, r]
  · simp only [h1, if_false]
    by_cases h7 : o = 7
    · simp only [h7, if_true]
      by_cases p : 1 ≤ a ∧ a ≤ 6 <;> by_cases q : 1 ≤ b ∧ b ≤ 6 <;> by_cases r : c = 0 <;> simp [p, q, r]; rfl
    · simp only [h7, if_false]
      by_cases h8 : o = 8
      · simp only [h8, if_true]
        by_cases p : 0 ≤ a ∧ a ≤ 255 <;> by_cases q : 0 ≤ b ∧ b ≤ 255 <;> by_cases r : 0 ≤ c ∧ c ≤ 255 <;> simp [p, q, r]; rfl
      · simp only [h8, if_false]
        by_cases p : 2 ≤ o ∧ o ≤ 6 <;> by_cases q : a = 0 <;> by_cases r : b = 0 <;> by_cases s : c = 0 <;> simp [p, q, r, s]; rfl
theorem impl_OpOk_some (k : Nat) (o a b c d : Int) : impl_OpOk.f (k + 1) o a b c d = some (opOkB o a b c d) := by
  unfold impl_OpOk.f opOkB
  simp only [impl_OpOk.j0, within_some, sizeOk_some, partOk_some, Option.bind_some]
  by_cases h1 : o = 1
  · simp only [h1, if_true]
    by_cases p : 0 ≤ a ∧ a ≤ 5 <;> by_cases q : 0 ≤ b ∧ b ≤ 5 <;> by_cases r : 1 ≤ c ∧ c ≤ 6 <;> simp [p, q, r]
  · simp only [h1, if_false]
    by_cases h2 : o = 2
    · subst h2; simp; rfl
    by_cases h3 : o = 3
    · subst h3; simp; rfl
    by_cases h4 : o = 4
    · subst h4; simp; rfl
    by_cases h5 : o = 5
    · subst h5; simp; rfl
    by_cases h6 : o = 6
    · subst h6; simp; rfl
    by_cases h7 : o = 7
    · subst h7
      simp only [show ¬ ((7 : Int) = 2) by decide, show ¬ ((7 : Int) = 3) by decide, show ¬ ((7 : Int) = 4) by decide, show ¬ ((7 : Int) = 5) by decide, if_false, if_true]
      by_cases p : 1 ≤ a ∧ a ≤ 6 <;> by_cases q : 1 ≤ b ∧ b ≤ 6 <;> by_cases r : c = 0 <;> simp [p, q, r]; rfl
    by_cases h8 : o = 8
    · subst h8
      simp only [show ¬ ((8 : Int) = 2) by decide, show ¬ ((8 : Int) = 3) by decide, show ¬ ((8 : Int) = 4) by decide, show ¬ ((8 : Int) = 5) by decide, show ¬ ((8 : Int) = 7) by decide, if_false, if_true]
      by_cases p : 0 ≤ a ∧ a ≤ 255 <;> by_cases q : 0 ≤ b ∧ b ≤ 255 <;> by_cases r : 0 ≤ c ∧ c ≤ 255 <;> simp [p, q, r]; rfl
    have h9 : ¬ (2 ≤ o ∧ o ≤ 6) := by omega
    have h6' : (o == 6) = false := by simpa using h6
    simp [h2, h3, h4, h5, h7, h8, h9, h6']
def okB (x : Op) : Bool := opOkB x.f0 x.f1 x.f2 x.f3 x.f4
def okPB (p : Pix) : Bool := decide (0 ≤ p.f0 ∧ p.f0 ≤ 255) && (decide (0 ≤ p.f1 ∧ p.f1 ≤ 255) && (decide (0 ≤ p.f2 ∧ p.f2 ≤ 255) && decide (0 ≤ p.f3 ∧ p.f3 ≤ 255)))
theorem okPB_iff (p : Pix) : okPB p = true ↔ OkP p := by unfold okPB OkP; simp [and_assoc]
theorem impl_PixOk_some (a b c d : Int) : impl_PixOk.f a b c d = some (okPB ⟨a, b, c, d⟩) := by
  unfold impl_PixOk.f okPB
  simp only [partOk_some, Option.bind_some]
  by_cases p : 0 ≤ a ∧ a ≤ 255 <;> by_cases q : 0 ≤ b ∧ b ≤ 255 <;> by_cases r : 0 ≤ c ∧ c ≤ 255 <;> simp [p, q, r]
theorem spec_PixOk_some (a b c d : Int) : spec_PixOk.f a b c d = some (okPB ⟨a, b, c, d⟩) := by
  unfold spec_PixOk.f okPB
  simp only [l1In_some, Option.bind_some]
  by_cases p : 0 ≤ a ∧ a ≤ 255 <;> by_cases q : 0 ≤ b ∧ b ≤ 255 <;> by_cases r : 0 ≤ c ∧ c ≤ 255 <;> simp [p, q, r]
def pAt (l : List Pix) (i : Nat) : Pix := rd_T36 l (i : Int)
def rasOkB (a b : Int) (l : List Pix) : Bool := decide (1 ≤ a ∧ a ≤ 6) && (decide (1 ≤ b ∧ b ≤ 6) && (decide ((l.length : Int) = a * b) && (List.range l.length).all fun i => okPB (pAt l i)))
theorem mul36 {a b : Int} (ha : 1 ≤ a ∧ a ≤ 6) (hb : 1 ≤ b ∧ b ≤ 6) : 1 ≤ a * b ∧ a * b ≤ 36 := by
  have h1 : (1 : Int) * 1 ≤ a * b := Int.mul_le_mul ha.1 hb.1 (by omega) (by omega)
  have h2 : a * b ≤ 6 * 6 := Int.mul_le_mul ha.2 hb.2 (by omega) (by omega)
  omega
theorem impl_RasOk_ev (a b : Int) (l : List Pix) : Ev (fun k => impl_RasOk.f k a b l) (rasOkB a b l) := by
  by_cases ha : 1 ≤ a ∧ a ≤ 6
  · by_cases hb : 1 ≤ b ∧ b ≤ 6
    · have hm := mul36 ha hb
      have hw : wrap64 (a * b) = a * b := wrap_id (by omega) (by omega)
      by_cases hl : (l.length : Int) = a * b
      · have := ev_allR l.length (fun i => okPB (pAt l i)) true (fun k i => impl_RasOk.l0 k l (l.length : Int) i) ?_ ?_ ?_
        · have e : rasOkB a b l = ((List.range l.length).all (fun i => okPB (pAt l i)) && true) := by
            unfold rasOkB
            simp [ha, hb, hl]
          rw [e]
          refine Ev.step (fun k => ?_) this
          unfold impl_RasOk.f
          simp only [sizeOk_some, ha, hb, and_self, decide_true, Option.bind_some, if_true, impl_RasOk.j0, hw, hl, bne_self_eq_false, Bool.false_eq_true, if_false]
        · intro i hi hp r h
          refine Ev.step (fun k => ?_) h
          simp only [impl_RasOk.l0]
          rw [if_pos (by omega), if_pos (by omega), if_pos (by omega), impl_PixOk_some]
          simp only [Option.bind_some]
          rw [if_pos (show okPB ⟨(rd_T36 l (i : Int)).f0, (rd_T36 l (i : Int)).f1, (rd_T36 l (i : Int)).f2, (rd_T36 l (i : Int)).f3⟩ = true from hp), wrap_succ (by omega)]
        · intro i hi hp
          refine ev_succ ⟨0, fun k _ => ?_⟩
          simp only [impl_RasOk.l0]
          rw [if_pos (by omega), if_pos (by omega), if_pos (by omega), impl_PixOk_some]
          simp only [Option.bind_some]
          rw [if_neg (show ¬ okPB ⟨(rd_T36 l (i : Int)).f0, (rd_T36 l (i : Int)).f1, (rd_T36 l (i : Int)).f2, (rd_T36 l (i : Int)).f3⟩ = true from by rw [show okPB ⟨(rd_T36 l (i : Int)).f0, (rd_T36 l (i : Int)).f1, (rd_T36 l (i : Int)).f2, (rd_T36 l (i : Int)).f3⟩ = false from hp]; decide)]
        · refine ev_succ ⟨0, fun k _ => ?_⟩
          simp only [impl_RasOk.l0]
          rw [if_neg (by omega)]
      · have e : rasOkB a b l = false := by unfold rasOkB; simp [hl]
        rw [e]
        refine ev_succ ⟨0, fun k _ => ?_⟩
        have hl' : ((l.length : Int) != a * b) = true := by simpa using hl
        unfold impl_RasOk.f
        simp only [sizeOk_some, ha, hb, and_self, decide_true, Option.bind_some, if_true, impl_RasOk.j0, hw, hl']
    · have e : rasOkB a b l = false := by unfold rasOkB; simp only [hb, decide_false, Bool.false_and, Bool.and_false]
      rw [e]
      refine ev_succ ⟨0, fun k _ => ?_⟩
      unfold impl_RasOk.f
      simp [sizeOk_some, ha, hb, impl_RasOk.j0]
  · have e : rasOkB a b l = false := by unfold rasOkB; simp only [ha, decide_false, Bool.false_and]
    rw [e]
    refine ev_succ ⟨0, fun k _ => ?_⟩
    unfold impl_RasOk.f
    simp only [sizeOk_some, ha, decide_false, Option.bind_some, impl_RasOk.j0, Bool.false_eq_true, if_false, if_true]
theorem spec_RasOk_ev (a b : Int) (l : List Pix) : Ev (fun k => spec_RasOk.f k a b l) (rasOkB a b l) := by
  by_cases ha : 1 ≤ a ∧ a ≤ 6
  · by_cases hb : 1 ≤ b ∧ b ≤ 6
    · have hm := mul36 ha hb
      have hw : wrap64 (a * b) = a * b := wrap_id (by omega) (by omega)
      by_cases hl : (l.length : Int) = a * b
      · have := ev_allR l.length (fun i => okPB (pAt l i)) true (fun k i => spec_RasOk.l0 k i a b l) ?_ ?_ ?_
        · have e : rasOkB a b l = ((List.range l.length).all (fun i => okPB (pAt l i)) && true) := by
            unfold rasOkB
            simp [ha, hb, hl]
          rw [e]
          refine Ev.step (fun k => ?_) this
          unfold spec_RasOk.f
          simp only [l1In_some, ha, hb, and_self, decide_true, Option.bind_some, if_true, spec_RasOk.j0, hw, hl, bne_self_eq_false, Bool.false_eq_true, if_false]
        · intro i hi hp r h
          refine Ev.step (fun k => ?_) h
          simp only [spec_RasOk.l0]
          rw [if_pos (by omega), if_pos (by omega), spec_PixOk_some]
          simp only [Option.bind_some]
          rw [if_pos (show okPB ⟨(rd_T36 l (i : Int)).f0, (rd_T36 l (i : Int)).f1, (rd_T36 l (i : Int)).f2, (rd_T36 l (i : Int)).f3⟩ = true from hp), wrap_succ (by omega)]
        · intro i hi hp
          refine ev_succ ⟨0, fun k _ => ?_⟩
          simp only [spec_RasOk.l0]
          rw [if_pos (by omega), if_pos (by omega), spec_PixOk_some]
          simp only [Option.bind_some]
          rw [if_neg (show ¬ okPB ⟨(rd_T36 l (i : Int)).f0, (rd_T36 l (i : Int)).f1, (rd_T36 l (i : Int)).f2, (rd_T36 l (i : Int)).f3⟩ = true from by rw [show okPB ⟨(rd_T36 l (i : Int)).f0, (rd_T36 l (i : Int)).f1, (rd_T36 l (i : Int)).f2, (rd_T36 l (i : Int)).f3⟩ = false from hp]; decide)]
        · refine ev_succ ⟨0, fun k _ => ?_⟩
          simp only [spec_RasOk.l0]
          rw [if_neg (by omega)]
      · have e : rasOkB a b l = false := by unfold rasOkB; simp [hl]
        rw [e]
        refine ev_succ ⟨0, fun k _ => ?_⟩
        have hl' : ((l.length : Int) != a * b) = true := by simpa using hl
        unfold spec_RasOk.f
        simp only [l1In_some, ha, hb, and_self, decide_true, Option.bind_some, if_true, spec_RasOk.j0, hw, hl']
    · have e : rasOkB a b l = false := by unfold rasOkB; simp only [hb, decide_false, Bool.false_and, Bool.and_false]
      rw [e]
      refine ev_succ ⟨0, fun k _ => ?_⟩
      unfold spec_RasOk.f
      simp [l1In_some, ha, hb, spec_RasOk.j0]
  · have e : rasOkB a b l = false := by unfold rasOkB; simp only [ha, decide_false, Bool.false_and]
    rw [e]
    refine ev_succ ⟨0, fun k _ => ?_⟩
    unfold spec_RasOk.f
    simp only [l1In_some, ha, decide_false, Option.bind_some, spec_RasOk.j0, Bool.false_eq_true, if_false, if_true]
theorem rasOkB_iff (a b : Int) (l : List Pix) : rasOkB a b l = true ↔ ∃ wd hg : Nat, a = wd ∧ b = hg ∧ Valid wd hg l := by
  unfold rasOkB
  simp only [Bool.and_eq_true, decide_eq_true_eq, List.all_eq_true, List.mem_range]
  constructor
  · rintro ⟨h1, h2, h3, h4⟩
    refine ⟨a.toNat, b.toNat, by omega, by omega, ⟨by omega, by omega⟩, ⟨by omega, by omega⟩, ?_, fun p hp => ?_⟩
    · have e1 : (a.toNat : Int) = a := by omega
      have e2 : (b.toNat : Int) = b := by omega
      have : (l.length : Int) = ((a.toNat * b.toNat : Nat) : Int) := by rw [Int.natCast_mul, e1, e2]; exact h3
      omega
    · obtain ⟨i, hi, rfl⟩ := List.getElem_of_mem hp
      have := (okPB_iff _).1 (h4 i hi)
      unfold pAt rd_T36 at this
      rwa [List.getD_eq_getElem?_getD, Int.toNat_natCast, List.getElem?_eq_getElem hi] at this
  · rintro ⟨wd, hg, rfl, rfl, h1, h2, h3, h4⟩
    refine ⟨by omega, by omega, by rw [h3, Int.natCast_mul], fun i hi => ?_⟩
    rw [okPB_iff]
    unfold pAt rd_T36
    rw [List.getD_eq_getElem?_getD, Int.toNat_natCast, List.getElem?_eq_getElem hi]
    exact h4 _ (List.getElem_mem hi)
theorem okB_iff (o : Op) : okB o = true ↔ OkO o := by
  unfold okB opOkB OkO
  by_cases h1 : o.f0 = 1
  · simp [h1]
  by_cases h7 : o.f0 = 7
  · simp [h7]
  by_cases h8 : o.f0 = 8
  · simp [h8]
  · simp [h1, h7, h8, and_assoc]
def doI (a b : Int) (l : List Pix) (o : Op) : Int × Int × List Pix × Bool :=
  if rasOkB a b l && (okB o && hasM o a.toNat b.toNat) then (wideM o a.toNat b.toNat, highM o a.toNat b.toNat, picM o a.toNat b.toNat l, true) else (0, 0, [], false)
end Go.Proofs.Ytoifpgkfpdeglaa.X
namespace Go.Proofs.Ytoifpgkfpdeglaa.X
open Go.RowKit Go.Proofs.YtoifpgkfpdeglaaW.PrintWords Go.Proofs.YtoifpgkfpdeglaaW.PrintLast Go.Proofs.YtoifpgkfpdeglaaW.PrintMore
set_option linter.unusedVariables false
set_option linter.unusedSimpArgs false
theorem made3 {w w1 : World} {O1 O2 O3 : Obj} (h : Below (((w.alloc O1).alloc O2).alloc O3).heap.size (((w.alloc O1).alloc O2).alloc O3) w1) :
    w1.heap[w.heap.size]? = some O1 ∧ w1.heap[w.heap.size + 1]? = some O2 ∧ w1.heap[w.heap.size + 1 + 1]? = some O3 ∧ Below w.heap.size w w1 := by
  have h0 := made2 (W := w) (O1 := O1) (O2 := O2) (w1 := (w.alloc O1).alloc O2) (Below.refl _ _)
  have hb : Below ((w.alloc O1).alloc O2).heap.size ((w.alloc O1).alloc O2) w1 := below_made h
  have h1 := (made2 (W := w.alloc O1) h).2
  rw [show (w.alloc O1).heap.size = w.heap.size + 1 by simp] at h1
  exact ⟨blk_keep h0.1 hb, blk_keep h0.2 hb, h1, below_made2 hb⟩
theorem far3n {n : Nat} {w2 : World} {a : Addr} {v : Value} (h : w2.cell? a = some v) (hne : a.block ≠ n) (u0 u1 u2 : Value) :
    (((w2.setCell ⟨n, 0, none⟩ u0).setCell ⟨n, 1, none⟩ u1).setCell ⟨n, 2, none⟩ u2).cell? a = some v :=
  (cell_far (p := ⟨n, 2, none⟩) hne u2).trans ((cell_far (p := ⟨n, 1, none⟩) hne u1).trans ((cell_far (p := ⟨n, 0, none⟩) hne u0).trans h))
def Boxed (w w1 : World) (a b : Int) (v : Value) (o : Op) : Prop :=
  w1.heap[w.heap.size]? = some (.cells #[.int .i64 a, .int .i64 b, v] 25 (0, 0)) ∧ OpBox w1 (w.heap.size + 1) o ∧ ResBlk w1 (w.heap.size + 1 + 1) ∧ Below w.heap.size w w1
theorem Boxed.keep {w w1 w2 : World} {a b : Int} {v : Value} {o : Op} (h : Boxed w w1 a b v o) (hb : Below w1.heap.size w1 w2) : Boxed w w2 a b v o :=
  ⟨blk_keep h.1 hb, h.2.1.below hb, h.2.2.1.keep hb, h.2.2.2.trans (hb.mono h.2.2.2.size)⟩
theorem boxes {w w1 : World} {a b : Int} {v : Value} {o : Op} (h : Below (((w.alloc (.cells #[.int .i64 a, .int .i64 b, v] 25)).alloc (.cells #[.int .i64 o.f0, .int .i64 o.f1, .int .i64 o.f2, .int .i64 o.f3, .int .i64 o.f4] 27)).alloc (.cells #[.int .i64 0, .int .i64 0, .slice none 0 0] 25)).heap.size (((w.alloc (.cells #[.int .i64 a, .int .i64 b, v] 25)).alloc (.cells #[.int .i64 o.f0, .int .i64 o.f1, .int .i64 o.f2, .int .i64 o.f3, .int .i64 o.f4] 27)).alloc (.cells #[.int .i64 0, .int .i64 0, .slice none 0 0] 25)) w1) :
    Boxed w w1 a b v o := by
  have k := made3 h
  exact ⟨k.1, ⟨(blk_cell k.2.1 0).trans rfl, (blk_cell k.2.1 1).trans rfl, (blk_cell k.2.1 2).trans rfl, (blk_cell k.2.1 3).trans rfl, (blk_cell k.2.1 4).trans rfl⟩, k.2.2.1, k.2.2.2⟩
theorem doI_out {wd hg : Nat} {l : List Pix} {o : Op} (h1 : rasOkB wd hg l = true) (h2 : okB o = true) : doI wd hg l o = (((outM o wd hg l).1 : Int), ((outM o wd hg l).2.1 : Int), (outM o wd hg l).2.2.1, (outM o wd hg l).2.2.2) := by
  unfold doI outM
  rw [h1, h2, Int.toNat_natCast, Int.toNat_natCast]
  cases hasM o wd hg <;> simp
theorem doI_no {a b : Int} {l : List Pix} {o : Op} (h : (rasOkB a b l && okB o) = false) : doI a b l o = (0, 0, [], false) := by
  unfold doI
  rw [if_neg]
  rw [← Bool.and_assoc, h]
  simp
set_option maxHeartbeats 4000000 in
set_option maxRecDepth 100000 in
theorem opDo_walk (a b : Int) (A : Option Addr) (c : Nat) (l : List Pix) (o : Op) (w : World) (hr : Kd.C kPix w A l.length l) (hc : l.length ≤ c) :
    Calls Try.prog 11 #[.agg #[.int .i64 a, .int .i64 b, .slice A l.length c], .agg #[.int .i64 o.f0, .int .i64 o.f1, .int .i64 o.f2, .int .i64 o.f3, .int .i64 o.f4]] w fun e w' => ∃ v, e = .returned (.tuple #[.agg #[.int .i64 (doI a b l o).1, .int .i64 (doI a b l o).2.1, v], .bool (doI a b l o).2.2.2]) ∧ Kd.R kPix 36 w' w.heap.size (fun _ => True) v (doI a b l o).2.2.1 ∧ Below w.heap.size w w' := by
  obtain ⟨k1, hk1⟩ := impl_RasOk_ev a b l
  have E1 := Aside0.mk (hk1 k1 (Nat.le_refl _))
  have E2 := Aside0.mk (impl_OpOk_some 0 o.f0 o.f1 o.f2 o.f3 o.f4)
  have HR := Aside0.mk hr
  have HC := Aside0.mk hc
  clear hk1
  cases h1 : rasOkB a b l with
  | false =>
    have HD : Aside0 (doI a b l o = (0, 0, [], false)) := Aside0.mk (doI_no (by rw [h1]; rfl))
    rw [HD.out]
    rw [h1] at E1
    clear h1 hr hc
    go_enter Try.func11, Try.ntmps11
    go_wp2_with (go_at_call 17; refine (impl_RasOk.calls k1 a b A c l false _ (Kd.C_below HR.out (boxes (Below.refl _ _)).2.2.2) HC.out E1.out).mono ?_; rintro e w1 ⟨rfl, hb1⟩; have HX := Aside0.mk (boxes hb1); clear hb1; have r0 := (blk_cell HX.out.2.2.1 0).trans rfl; have r1 := (blk_cell HX.out.2.2.1 1).trans rfl; have r2 := (blk_cell HX.out.2.2.1 2).trans rfl; have s0 := blk_frozen HX.out.2.2.1 0; have s1 := blk_frozen HX.out.2.2.1 1; have s2 := blk_frozen HX.out.2.2.1 2)
    refine bodyPost_ret (results_ct rfl _ _ (w.heap.size + 1 + 1) 25 _ (0, 0) _ rfl (ras_block HX.out.2.2.1 0 0 (.slice none 0 0)) Try.underlying25 rfl (by kernel_rfl)) rfl ⟨_, rfl, Kd.R_nil _ _ _ _ _, ?_⟩
    exact below_set (below_set (below_set HX.out.2.2.2 (by simp; omega) _) (by simp; omega) _) (by simp; omega) _
  | true =>
    cases h2 : okB o with
    | false =>
      have HD : Aside0 (doI a b l o = (0, 0, [], false)) := Aside0.mk (doI_no (by rw [h1, h2]; rfl))
      rw [HD.out]
      rw [h1] at E1
      rw [show opOkB o.f0 o.f1 o.f2 o.f3 o.f4 = false from h2] at E2
      clear h1 h2 hr hc
      go_enter Try.func11, Try.ntmps11
      go_wp2_with (first | (go_at_call 36; refine (impl_OpOk.calls _ o.f0 o.f1 o.f2 o.f3 o.f4 false _ E2.out).mono ?_; rintro e w2 ⟨rfl, hb2⟩; have HX2 := Aside0.mk (HX.out.keep hb2); clear hb2 p0 p1 p2 p3 p4; have r0 := (blk_cell HX2.out.2.2.1 0).trans rfl; have r1 := (blk_cell HX2.out.2.2.1 1).trans rfl; have r2 := (blk_cell HX2.out.2.2.1 2).trans rfl; have s0 := blk_frozen HX2.out.2.2.1 0; have s1 := blk_frozen HX2.out.2.2.1 1; have s2 := blk_frozen HX2.out.2.2.1 2) | (go_at_call 17; refine (impl_RasOk.calls k1 a b A c l true _ (Kd.C_below HR.out (boxes (Below.refl _ _)).2.2.2) HC.out E1.out).mono ?_; rintro e w1 ⟨rfl, hb1⟩; have HX := Aside0.mk (boxes hb1); clear hb1; have p0 := HX.out.2.1.h0; have p1 := HX.out.2.1.h1; have p2 := HX.out.2.1.h2; have p3 := HX.out.2.1.h3; have p4 := HX.out.2.1.h4))
      refine bodyPost_ret (results_ct rfl _ _ (w.heap.size + 1 + 1) 25 _ (0, 0) _ rfl (ras_block HX2.out.2.2.1 0 0 (.slice none 0 0)) Try.underlying25 rfl (by kernel_rfl)) rfl ⟨_, rfl, Kd.R_nil _ _ _ _ _, ?_⟩
      exact below_set (below_set (below_set HX2.out.2.2.2 (by simp; omega) _) (by simp; omega) _) (by simp; omega) _
    | true =>
      obtain ⟨wd, hg, rfl, rfl, hv⟩ := (rasOkB_iff a b l).1 h1
      have HD := Aside0.mk (doI_out h1 h2)
      rw [HD.out]
      rw [h1] at E1
      rw [show opOkB o.f0 o.f1 o.f2 o.f3 o.f4 = true from h2] at E2
      have HO := Aside0.mk ((okB_iff o).1 h2)
      have HP : Aside0 (Pict w wd hg A c l) := Aside0.mk ⟨hr, hc, hv.2.2.1, hv.1.1, hv.1.2, hv.2.1.1, hv.2.1.2⟩
      clear h1 h2 hv hr hc
      go_enter Try.func11, Try.ntmps11
      go_wp2_with (first | (go_at_call 36; refine (impl_OpOk.calls _ o.f0 o.f1 o.f2 o.f3 o.f4 true _ E2.out).mono ?_; rintro e w2 ⟨rfl, hb2⟩; have HX2 := Aside0.mk (HX.out.keep hb2); clear hb2 p0 p1 p2 p3 p4 HX) | (go_at_call 17; refine (impl_RasOk.calls k1 wd hg A c l true _ (Kd.C_below HR.out (boxes (Below.refl _ _)).2.2.2) HC.out E1.out).mono ?_; rintro e w1 ⟨rfl, hb1⟩; have HX := Aside0.mk (boxes hb1); clear hb1; have p0 := HX.out.2.1.h0; have p1 := HX.out.2.1.h1; have p2 := HX.out.2.1.h2; have p3 := HX.out.2.1.h3; have p4 := HX.out.2.1.h4))
      have HXD := Aside0.mk (HX2.out.keep (Below.refl w2.heap.size w2).drew)
      have HX2' := HX2
      clear HX2
      have q0d : w2.drew.cell? ⟨w.heap.size, 0, none⟩ = some (.int .i64 wd) := (blk_cell HXD.out.1 0).trans rfl; have q1d : w2.drew.cell? ⟨w.heap.size, 1, none⟩ = some (.int .i64 hg) := (blk_cell HXD.out.1 1).trans rfl; have q2d : w2.drew.cell? ⟨w.heap.size, 2, none⟩ = some (.slice A l.length c) := (blk_cell HXD.out.1 2).trans rfl; have o0d := HXD.out.2.1.h0; have o1d := HXD.out.2.1.h1; have o2d := HXD.out.2.1.h2; have o3d := HXD.out.2.1.h3; have o4d := HXD.out.2.1.h4; 
      go_region_held3 (fun w' : World => w'.cell? ⟨w.heap.size, 0, none⟩ = some (.int .i64 wd) ∧ w'.cell? ⟨w.heap.size, 1, none⟩ = some (.int .i64 hg) ∧ w'.cell? ⟨w.heap.size, 2, none⟩ = some (.slice A l.length c) ∧ w'.cell? ⟨w.heap.size + 1, 0, none⟩ = some (.int .i64 o.f0) ∧ w'.cell? ⟨w.heap.size + 1, 1, none⟩ = some (.int .i64 o.f1) ∧ w'.cell? ⟨w.heap.size + 1, 2, none⟩ = some (.int .i64 o.f2) ∧ w'.cell? ⟨w.heap.size + 1, 3, none⟩ = some (.int .i64 o.f3) ∧ w'.cell? ⟨w.heap.size + 1, 4, none⟩ = some (.int .i64 o.f4)) (first | with_reducible exact ⟨q0d, q1d, q2d, o0d, o1d, o2d, o3d, o4d⟩ | with_reducible exact ⟨q0y, q1y, q2y, o0y, o1y, o2y, o3y, o4y⟩ | with_reducible exact ⟨q0z, q1z, q2z, o0z, o1z, o2z, o3z, o4z⟩ | exact ⟨far3n q0z (by show w.heap.size ≠ w.heap.size + 1 + 1; omega) _ _ _, far3n q1z (by show w.heap.size ≠ w.heap.size + 1 + 1; omega) _ _ _, far3n q2z (by show w.heap.size ≠ w.heap.size + 1 + 1; omega) _ _ _, far3n o0z (by show w.heap.size + 1 ≠ w.heap.size + 1 + 1; omega) _ _ _, far3n o1z (by show w.heap.size + 1 ≠ w.heap.size + 1 + 1; omega) _ _ _, far3n o2z (by show w.heap.size + 1 ≠ w.heap.size + 1 + 1; omega) _ _ _, far3n o3z (by show w.heap.size + 1 ≠ w.heap.size + 1 + 1; omega) _ _ _, far3n o4z (by show w.heap.size + 1 ≠ w.heap.size + 1 + 1; omega) _ _ _⟩) (first | (go_at_call 37; refine (moveOf_walk HO.out _).mono ?_; rintro e w3 ⟨f1, c1, rfl, hM, hb3⟩; obtain ⟨fn, caps, hfe, henter, hcall⟩ := hM; cases hfe; have HMC := Aside0.mk hcall; clear hcall; have HX3 := Aside0.mk (HXD.out.keep hb3); clear hb3; have q0y : w3.cell? ⟨w.heap.size, 0, none⟩ = some (.int .i64 wd) := (blk_cell HX3.out.1 0).trans rfl; have q1y : w3.cell? ⟨w.heap.size, 1, none⟩ = some (.int .i64 hg) := (blk_cell HX3.out.1 1).trans rfl; have q2y : w3.cell? ⟨w.heap.size, 2, none⟩ = some (.slice A l.length c) := (blk_cell HX3.out.1 2).trans rfl; have o0y := HX3.out.2.1.h0; have o1y := HX3.out.2.1.h1; have o2y := HX3.out.2.1.h2; have o3y := HX3.out.2.1.h3; have o4y := HX3.out.2.1.h4; ) | (refine (HMC.out _ (Below.refl _ _) wd hg A c l (HP.out.below HX3.out.2.2.2) trivial).mono ?_; rintro e w4 ⟨v, rfl, hRv, hb4⟩; obtain ⟨A', c', rfl⟩ := Kd.R_slice hRv; have HRV := Aside0.mk hRv; have HSZ := Aside0.mk (Array.getElem?_eq_some_iff.1 HX3.out.2.2.1).1; have HX4 := Aside0.mk (HX3.out.keep hb4); clear hRv hb4; have q0z : w4.cell? ⟨w.heap.size, 0, none⟩ = some (.int .i64 wd) := (blk_cell HX4.out.1 0).trans rfl; have q1z : w4.cell? ⟨w.heap.size, 1, none⟩ = some (.int .i64 hg) := (blk_cell HX4.out.1 1).trans rfl; have q2z : w4.cell? ⟨w.heap.size, 2, none⟩ = some (.slice A l.length c) := (blk_cell HX4.out.1 2).trans rfl; have o0z := HX4.out.2.1.h0; have o1z := HX4.out.2.1.h1; have o2z := HX4.out.2.1.h2; have o3z := HX4.out.2.1.h3; have o4z := HX4.out.2.1.h4;  have r0 := (blk_cell HX4.out.2.2.1 0).trans rfl; have r1 := (blk_cell HX4.out.2.2.1 1).trans rfl; have r2 := (blk_cell HX4.out.2.2.1 2).trans rfl; have s0 := blk_frozen HX4.out.2.2.1 0; have s1 := blk_frozen HX4.out.2.2.1 1; have s2 := blk_frozen HX4.out.2.2.1 2))
      go_wp2
      refine bodyPost_ret (results_ct rfl _ _ (w.heap.size + 1 + 1) 25 _ (0, 0) _ rfl (ras_block HX4.out.2.2.1 _ _ _) Try.underlying25 rfl (by kernel_rfl)) rfl ⟨_, rfl, R_ret HRV.out (by have := HX3.out.2.2.2.size; omega) HSZ.out _ _ _, ?_⟩
      exact below_set (below_set (below_set HX4.out.2.2.2 (by simp; omega) _) (by simp; omega) _) (by simp; omega) _
end Go.Proofs.Ytoifpgkfpdeglaa.X
namespace Go.Proofs.Ytoifpgkfpdeglaa.X
open Go.RowKit Go.Proofs.YtoifpgkfpdeglaaW.PrintWords Go.Proofs.YtoifpgkfpdeglaaW.PrintLast Go.Proofs.YtoifpgkfpdeglaaW.PrintMore
attribute [local go_sem] max2_int min2_int max_two min_two max_three min_three max_four min_four
set_option linter.unusedVariables false
set_option linter.unusedSimpArgs false
section
def impl_OpDo.f (a0_0 : Int) (a0_1 : Int) (l0_2 : List (S36)) (a1_0 : Int) (a1_1 : Int) (a1_2 : Int) (a1_3 : Int) (a1_4 : Int) : Option (Int × Int × (List (S36)) × Bool) := some (doI a0_0 a0_1 l0_2 ⟨a1_0, a1_1, a1_2, a1_3, a1_4⟩)
theorem impl_OpDo.calls (a0_0 : Int) (a0_1 : Int) (A0_2 : Option Addr) (c0_2 : Nat) (l0_2 : List (S36)) (a1_0 : Int) (a1_1 : Int) (a1_2 : Int) (a1_3 : Int) (a1_4 : Int) (r1 : Int) (r2 : Int) (r3 : List (S36)) (r4 : Bool) (w : World) (hr0_2 : Kd.C k36 w A0_2 l0_2.length l0_2) (hc0_2 : l0_2.length ≤ c0_2) (h : impl_OpDo.f a0_0 a0_1 l0_2 a1_0 a1_1 a1_2 a1_3 a1_4 = some (r1, r2, r3, r4)) :
    Calls Try.prog 11 #[.agg #[.int .i64 a0_0, .int .i64 a0_1, .slice A0_2 l0_2.length c0_2], .agg #[.int .i64 a1_0, .int .i64 a1_1, .int .i64 a1_2, .int .i64 a1_3, .int .i64 a1_4]] w fun e w' => ∃ v2_ : Value, e = .returned (.tuple #[.agg #[.int .i64 r1, .int .i64 r2, v2_], .bool r4]) ∧ Kd.R k36 36 w' w.heap.size (fun _ => True) v2_ r3 ∧ Below w.heap.size w w' := by
  have hw := opDo_walk a0_0 a0_1 A0_2 c0_2 l0_2 ⟨a1_0, a1_1, a1_2, a1_3, a1_4⟩ w hr0_2 hc0_2
  unfold impl_OpDo.f at h
  simp only [Option.some.injEq] at h
  rw [h] at hw
  exact hw
end
section
open Go.Proofs.YtoifpgkfpdeglaaW.PrintWords renaming add_block → yaa, pw_below_drewN → yac, below_drew1 → yad, below_alloc → yae, cell_far → yaf, below_set → yag
open Go.Proofs.YtoifpgkfpdeglaaW.PrintWords.Aside0 renaming mk → yab
open Go.Proofs.Ytoifpgkfpdeglaa.X renaming rd_T27 → yah
abbrev q15_0 : Array Bool := Array.replicate 12 false
abbrev q15_1 : Array Bool := bl_ 12 2
abbrev q15_2 : Array Bool := bl_ 12 6
abbrev q15_3 : Array Bool := bl_ 12 14
abbrev q15_4 : Array Bool := bl_ 12 15
abbrev q15_5 : Array Bool := bl_ 12 31
abbrev q15_6 : Array Bool := bl_ 12 1023
abbrev q15_7 : Array Bool := bl_ 12 63
abbrev q15_8 : Array Bool := bl_ 12 543
abbrev q15_9 : Array Bool := bl_ 12 127
abbrev q15_10 : Array Bool := bl_ 12 255
abbrev q15_11 : Array Bool := bl_ 12 511
abbrev q15_12 : Array Bool := bl_ 12 575
abbrev q15_13 : Array Bool := bl_ 12 639
abbrev q15_14 : Array Bool := bl_ 12 767
abbrev q15_15 : Array Bool := bl_ 12 2047
abbrev q15_16 : Array Bool := bl_ 12 4095
def laws_eaDo.l0 : Nat → List (S27) → Int → Int → Int → List (S36) → Option (Int × Int × (List (S36)))
 | 0, _, _, _, _, _ => none
 | k + 1, x1, x5, x102000, x102001, x102002 => if x5 < (x1.length : Int) then (if 0 ≤ x5 then ((impl_OpDo.f x102000 x102001 x102002 ((rd_T27 x1 x5).f0) ((rd_T27 x1 x5).f1) ((rd_T27 x1 x5).f2) ((rd_T27 x1 x5).f3) ((rd_T27 x1 x5).f4)).bind fun bt104 => (laws_eaDo.l0 k x1 (wrap64 (x5 + 1)) bt104.1 bt104.2.1 bt104.2.2.1)) else (none)) else (some (x102000, x102001, x102002))
def laws_eaDo.f (k : Nat) (a0_0 : Int) (a0_1 : Int) (l0_2 : List (S36)) (l1 : List (S27)) : Option (Int × Int × (List (S36))) := laws_eaDo.l0 k l1 0 a0_0 a0_1 l0_2
def laws_eaDo.T4 : Bool × List (List Nat × List Nat) := (true, [([], []), ([], []), ([], []), ([1, 2], [1, 2]), ([3], [3]), ([0, 4], [0, 4]), ([5], [5]), ([6], [6]), ([6], [6]), ([], []), ([9, 7, 5, 0, 1, 2, 3, 4, 5, 6, 7, 9], [7, 9]), ([8, 10, 0, 1, 2, 3, 4, 5, 6, 7, 8, 9, 10], [8])])
def laws_eaDo.B4 : List Nat := [0, 0, 0, 6, 14, 31, 63, 127, 127, 0, 767, 2047]
theorem laws_eaDo.tab4 : rtab .any (opsOf Try.f15 4) = laws_eaDo.T4 := by kernel_rfl
theorem laws_eaDo.bits4 : waitsOk laws_eaDo.T4.2 laws_eaDo.B4 = true := by kernel_rfl
set_option maxHeartbeats 8000000 in
set_option maxRecDepth 100000 in
theorem laws_eaDo.calls (k : Nat) (a0_0 : Int) (a0_1 : Int) (P0_2_ : Nat → Prop) (A0_2 : Option Addr) (c0_2 : Nat) (l0_2 : List (S36)) (A1 : Option Addr) (c1 : Nat) (l1 : List (S27)) (r1 : Int) (r2 : Int) (r3 : List (S36)) (w : World) (hs0_2 : Kd.V k36 36 w w.heap.size (fun k_ => P0_2_ k_) (.slice A0_2 l0_2.length c0_2) l0_2) (hr1 : Kd.C k27 w A1 l1.length l1) (hc1 : l1.length ≤ c1) (h : laws_eaDo.f k a0_0 a0_1 l0_2 l1 = some (r1, r2, r3)) :
  Calls Try.prog 15 #[.agg #[.int .i64 a0_0, .int .i64 a0_1, .slice A0_2 l0_2.length c0_2], .slice A1 l1.length c1] w fun e w' => ∃ v2_ : Value, e = .returned (.agg #[.int .i64 r1, .int .i64 r2, v2_]) ∧ Kd.V k36 36 w' w.heap.size (fun k_ => (P0_2_ k_ ∨ w.heap.size ≤ k_)) v2_ r3 ∧ Below w.heap.size w w' := by
 have hu25 := Try.underlying25; have hu27 := Try.underlying27; have d8 := yab (show Kd.V k36 36 w w.heap.size (fun k_ => (P0_2_ k_ ∨ w.heap.size ≤ k_)) (.slice A0_2 l0_2.length c0_2) l0_2 from Kd.V_mono hs0_2 (fun k_ hk => .inl hk)); have HR1 := yab hr1; have HC1 := yab hc1; clear hr1 hc1; have HB := yab (Below.refl w.heap.size w); have H : (laws_eaDo.l0 k l1 0 a0_0 a0_1 l0_2) = some (r1, r2, r3) := h; clear h; have H' := yab H; clear H
 go_enter Try.func15, Try.ntmps15
 go_wp2_with (first | ((with_reducible refine gd_ 2 rfl ?_); refine bx_ 2 rfl #[.int .i64 a0_0, .int .i64 a0_1, .slice A0_2 l0_2.length c0_2] 25 ?_; intro b4 hg w3 hbox hb; replace d8 := yab (Kd.V_below (Kd.V_elderB (upV d8.out) b4 (Nat.le_of_eq hg.symm)) hb); have a8 := yab (hbox); have e9 := yab ((by rw [hg]; exact (below_size (upH HB.out)) : w.heap.size ≤ b4)); replace HB := yab (below_step (upH HB.out) hb); have j8 := e9; clear hb hbox hg) | ((with_reducible refine gd_ 4 rfl ?_); refine bx_ 4 rfl #[.int .i64 0, .int .i64 0, .slice none 0 0] 25 ?_; intro c2 hg w4 hbox hb; replace d8 := yab (Kd.V_below (Kd.V_elderB (upV d8.out) c2 (Nat.le_of_eq hg.symm)) hb); have b3 := yab (hbox); have f5 := yab ((by rw [hg]; exact (below_size (by repeat (with_reducible first | exact HB.out | apply yae | apply yac | apply yad | refine yag ?_ (Aside0.out ‹_›)))) : w.heap.size ≤ c2)); replace HB := yab (below_step (by repeat (with_reducible first | exact HB.out | apply yae | apply yac | apply yad | refine yag ?_ (Aside0.out ‹_›))) hb); have j9 := f5; have c9 := yab ((by rw [hg]; exact Nat.ne_of_lt (blk_lt (upB a8.out)) : b4 ≠ c2)); replace a8 := yab (blk_below (upB a8.out) hb); have d0 := yab c9.out.symm; clear hb hbox hg))
 (try simp only [Act.put, List.setIfInBounds_toArray, List.set_cons_zero, List.set_cons_succ])
 go_loopg [5] k (fun kq v5 w' => ∃ (a9 : Int) (b1 : Int) (b2 : Int) (a7 : List (S36)) (u102002 : Value), v5 = .int .i64 a9 ∧ Aside0 (laws_eaDo.l0 kq l1 a9 b1 b2 a7 = some (r1, r2, r3)) ∧ Aside0 (kq ≤ k) ∧ Aside0 (Kd.V k36 36 w' w.heap.size (fun k_ => (P0_2_ k_ ∨ w.heap.size ≤ k_) ∧ k_ ≠ b4 ∧ k_ ≠ c2) u102002 a7) ∧ Aside0 (w'.heap[b4]? = some (.cells #[.int .i64 b1, .int .i64 b2, u102002] 25 (0, 0))) ∧ Aside0 (w'.heap[c2]? = some (.cells #[.int .i64 0, .int .i64 0, (.slice none 0 0)] 25 (0, 0))) ∧ Aside0 (Below w.heap.size w w'))
 case atStart => exact ⟨(0), (a0_0), (a0_1), (l0_2), (.slice A0_2 l0_2.length c0_2), (by first | rfl | (simp; done) | (simp [*]; done)), H', ⟨Nat.le_refl _⟩, ⟨by (with_reducible repeat (first | apply Kd.V_alloc | apply Kd.V_drewN | apply Kd.V_drew)); exact Kd.V_mono d8.out (fun _ hk => ⟨hk.1.1, ⟨hk.1.2, hk.2⟩⟩)⟩, ⟨by exact upB a8.out⟩, ⟨by exact upB b3.out⟩, ⟨by repeat (with_reducible first | exact HB.out | apply yae | apply yac | apply yad | refine yag ?_ (Aside0.out ‹_›))⟩⟩
 case round =>
  clear H'; (try clear c1); (try clear p2); obtain ⟨a9, b1, b2, a7, u102002, rfl, HA, HK1, a5, a8, b3, HB⟩ := hrel
  cases gk with
  | zero => exact absurd HA.out (by simp [laws_eaDo.l0])
  | succ k1 =>
   have H := HA.out; clear HA
   simp only [laws_eaDo.l0] at H
   by_cases c5 : a9 < (l1.length : Int)
   rotate_left
   ·
    rw [if_neg c5] at H
    have j5 : decide (a9 < (l1.length : Int)) = false := decide_eq_false c5; clear c5
    simp only [Option.some.injEq, Prod.mk.injEq] at H
    obtain ⟨rfl, rfl, rfl⟩ := H; have l2 := c9.out; have l3 := d0.out; obtain ⟨i3, i4, i5⟩ := cc3_ a8.out; obtain ⟨i6, i7, i8⟩ := cf3_ a8.out; obtain ⟨i9, j0, j1⟩ := cc3_ b3.out; obtain ⟨j2, j3, j4⟩ := cf3_ b3.out; obtain ⟨f7, f8, j7⟩ := Kd.V_slice a5.out; subst j7
    go_wp2
    refine bodyPost_ret (results_cell_row rfl _ _ c2 25 #[.int .i64 b1, .int .i64 b2, .slice f7 a7.length f8] (0, 0) _ rfl (by (repeat refine oneB ?_); refine blk_put (cs := #[.int .i64 b1, .int .i64 b2, .slice none 0 0]) ?_ 2 _ rfl; refine blk_put (cs := #[.int .i64 b1, .int .i64 0, .slice none 0 0]) ?_ 1 _ rfl; refine blk_put (cs := #[.int .i64 0, .int .i64 0, .slice none 0 0]) ?_ 0 _ rfl; exact upB b3.out) Try.underlying25 rfl (by kernel_rfl)) rfl ?_
    exact ⟨_, by first | rfl | (simp [*, errW_none, errW_some] <;> rfl), by (with_reducible repeat (first | apply Kd.V_alloc | apply Kd.V_drewN | apply Kd.V_drew)); exact Kd.V_mono (Kd.V_far (p := ⟨c2, 2, none⟩) (Kd.V_far (p := ⟨c2, 1, none⟩) (Kd.V_far (p := ⟨c2, 0, none⟩) (Kd.V_mono a5.out (fun k_ hk => (⟨hk, hk.2.2⟩ : _ ∧ k_ ≠ c2))) (fun _ hk => hk.2) (.int .i64 b1)) (fun _ hk => hk.2) (.int .i64 b2)) (fun _ hk => hk.2) (.slice f7 a7.length f8)) (fun _ hk => hk.1.1), by repeat (with_reducible first | exact HB.out | apply yae | apply yac | apply yad | refine yag ?_ (Aside0.out ‹_›))⟩
   rw [if_pos c5] at H
   have j5 : decide (a9 < (l1.length : Int)) = true := decide_eq_true c5; clear c5
   by_cases c6 : 0 ≤ a9
   rotate_left
   ·
    rw [if_neg c6] at H
    exact absurd H (by simp)
   rw [if_pos c6] at H
   replace c6 := decide_eq_true c6; obtain ⟨⟨d6, d7, d9, e3⟩, A7, H⟩ := bindA H; (try dsimp only at H); have H' := yab H; clear H; obtain ⟨Ao8, co8, eo8⟩ := Kd.V_slice a5.out; subst eo8
   try go_wp2
   replace a5 := yab (Kd.V_drew a5.out); replace a8 := yab (blk_drew a8.out); replace b3 := yab (blk_drew b3.out); replace HB := yab (yad HB.out); have p103 : 0 ≤ (a9 : Int) := of_decide_eq_true (by assumption); have q103 : a9 < (l1.length : Int) := of_decide_eq_true (by assumption); obtain ⟨ad103, j6, d1, d2, d3, d4, d5⟩ := at_T27 HR1.out a9 p103 q103; have b5 := d5; have b6 := d4; have b7 := d3; have b8 := d2; have b9 := d1
   cases j6
   replace d1 := (upc_ HB.out d1 :); replace d2 := (upc_ HB.out d2 :); replace d3 := (upc_ HB.out d3 :); replace d4 := (upc_ HB.out d4 :); replace d5 := (upc_ HB.out d5 :); replace p103 := eq_true p103; replace q103 := eq_true q103
   refine start_ (n := 12) (S := fun w' => w'.cell? ⟨b4, 0, none⟩ = some (.int .i64 b1) ∧ w'.cell? ⟨b4, 1, none⟩ = some (.int .i64 b2) ∧ w'.cell? ⟨b4, 2, none⟩ = some (.slice Ao8 a7.length co8) ∧ w'.cell? (ad103.add ((a9).toNat * 5)) = some (.int .i64 ((yah l1 a9).f0)) ∧ w'.cell? ⟨(ad103.add ((a9).toNat * 5)).block, (ad103.add ((a9).toNat * 5)).off + 1, none⟩ = some (.int .i64 ((yah l1 a9).f1)) ∧ w'.cell? ⟨(ad103.add ((a9).toNat * 5)).block, (ad103.add ((a9).toNat * 5)).off + 2, none⟩ = some (.int .i64 ((yah l1 a9).f2)) ∧ w'.cell? ⟨(ad103.add ((a9).toNat * 5)).block, (ad103.add ((a9).toNat * 5)).off + 3, none⟩ = some (.int .i64 ((yah l1 a9).f3)) ∧ w'.cell? ⟨(ad103.add ((a9).toNat * 5)).block, (ad103.add ((a9).toNat * 5)).off + 4, none⟩ = some (.int .i64 ((yah l1 a9).f4))) (ds := []) q15_0 (by kernel_rfl) rfl rfl ⟨(blk_cell a8.out 0).trans rfl, (blk_cell a8.out 1).trans rfl, (blk_cell a8.out 2).trans rfl, (upc_ HB.out b9 :), (upc_ HB.out b8 :), (upc_ HB.out b7 :), (upc_ HB.out b6 :), (upc_ HB.out b5 :)⟩ (fun hHeld => ?_); refine with_tabW laws_eaDo.tab4 laws_eaDo.bits4 (fun HT_ HW_ => ?_)
   generalize wr.drew = w9 at a5 a8 b3 HB d1 d2 d3 d4 d5 hHeld ⊢
   refine pz_ 1 16 q15_1 HT_ (by kernel_rfl) ?_
   refine pz_ 2 17 q15_2 HT_ (by kernel_rfl) ?_
   refine pz_ 3 18 q15_3 HT_ (by kernel_rfl) ?_
   refine tz_ 0 15 q15_4 HT_ HW_ (by kernel_rfl) hHeld ?_
   refine tz_ 4 19 q15_5 HT_ HW_ (by kernel_rfl) hHeld ?_
   refine join_ (σ := Value × Nat) 2 q15_6 (fun s_ => [(20, .tuple #[.agg #[.int .i64 d6, .int .i64 d7, s_.1], .bool e3]), (6, .pointer (some ⟨s_.2, 0, none⟩)), (14, .tuple #[.agg #[.int .i64 d6, .int .i64 d7, s_.1], .bool e3]), (21, .agg #[.int .i64 d6, .int .i64 d7, s_.1]), (22, .bool e3)]) (fun s_ w' => (w'.cell? ⟨b4, 0, none⟩ = some (.int .i64 b1) ∧ w'.cell? ⟨b4, 1, none⟩ = some (.int .i64 b2) ∧ w'.cell? ⟨b4, 2, none⟩ = some (.slice Ao8 a7.length co8) ∧ w'.cell? (ad103.add ((a9).toNat * 5)) = some (.int .i64 ((yah l1 a9).f0)) ∧ w'.cell? ⟨(ad103.add ((a9).toNat * 5)).block, (ad103.add ((a9).toNat * 5)).off + 1, none⟩ = some (.int .i64 ((yah l1 a9).f1)) ∧ w'.cell? ⟨(ad103.add ((a9).toNat * 5)).block, (ad103.add ((a9).toNat * 5)).off + 2, none⟩ = some (.int .i64 ((yah l1 a9).f2)) ∧ w'.cell? ⟨(ad103.add ((a9).toNat * 5)).block, (ad103.add ((a9).toNat * 5)).off + 3, none⟩ = some (.int .i64 ((yah l1 a9).f3)) ∧ w'.cell? ⟨(ad103.add ((a9).toNat * 5)).block, (ad103.add ((a9).toNat * 5)).off + 4, none⟩ = some (.int .i64 ((yah l1 a9).f4))) ∧ (Kd.R k36 36 w' w.heap.size (fun k_ => (w.heap.size ≤ k_)) s_.1 d9) ∧ (Kd.V k36 36 w' w.heap.size (fun k_ => (P0_2_ k_ ∨ w.heap.size ≤ k_) ∧ some k_ ≠ (s_.1 : Value).ownBlock ∧ k_ ≠ b4 ∧ k_ ≠ c2 ∧ k_ ≠ s_.2) (.slice Ao8 a7.length co8) a7) ∧ (w'.heap[b4]? = some (.cells #[.int .i64 b1, .int .i64 b2, .slice Ao8 a7.length co8] 25 (0, 0))) ∧ (w'.heap[c2]? = some (.cells #[.int .i64 0, .int .i64 0, .slice none 0 0] 25 (0, 0))) ∧ (w'.heap[s_.2]? = some (.cells #[.int .i64 0, .int .i64 0, .slice none 0 0] 25 (0, 0))) ∧ (w.heap.size ≤ s_.2) ∧ (w.heap.size ≤ s_.2) ∧ (b4 ≠ s_.2) ∧ (s_.2 ≠ b4) ∧ (c2 ≠ s_.2) ∧ (s_.2 ≠ c2) ∧ (Below w.heap.size w w')) ?_ ?_
   rotate_left
   ·
    intro hCont
    refine two_ (i := 5) (j := 9) (Ni := some 20) (Nj := some 6) q15_7 q15_8 rfl rfl rfl rfl (two_of HT_.out (by kernel_rfl)) (by decide) (by decide) (fun K hK => ?_) (fun K hK => ?_)
    ·
     skip
     refine goes_ Try.func11 (by kernel_rfl) rfl #[.agg #[.int .i64 b1, .int .i64 b2, .slice Ao8 a7.length co8], .agg #[.int .i64 ((yah l1 a9).f0), .int .i64 ((yah l1 a9).f1), .int .i64 ((yah l1 a9).f2), .int .i64 ((yah l1 a9).f3), .int .i64 ((yah l1 a9).f4)]] (by rfl) rfl rfl (by (try simp only [List.map_toArray, List.map_cons, List.map_nil]); first | done | rfl | (simp only [List.length_drop, List.length_take]; rfl)) ?_
     with_reducible refine (impl_OpDo.calls b1 b2 _ _ a7 ((yah l1 a9).f0) ((yah l1 a9).f1) ((yah l1 a9).f2) ((yah l1 a9).f3) ((yah l1 a9).f4) d6 d7 d9 e3 _ ?side1 ?side2 A7.out).mono ?_
     (case side1 => repeat (first | exact (Kd.V_reads' a5.out).2.2 | (with_reducible refine Kd.C_alloc ?_ _) | (with_reducible refine Kd.C_drewN ?_ _) | (with_reducible refine Kd.C_drew ?_)))
     (case side2 => exact (Kd.V_reads' a5.out).2.1)
     rintro e w10 ⟨e2, rfl, ho0, hb⟩; refine ⟨_, rfl, ?_⟩; have n0_ := yab (Kd.V_elder' (upV a5.out) (Kd.R_base ho0) hb)
     have n1_ := yab (Kd.R_lower (Kd.R_newM (M := fun k_ => (w.heap.size ≤ k_)) ho0 (below_size (by repeat (with_reducible first | exact HB.out | apply yae | apply yac | apply yad | refine yag ?_ (Aside0.out ‹_›)))) (fun k_ h_ => h_)) (below_size (by repeat (with_reducible first | exact HB.out | apply yae | apply yac | apply yad | refine yag ?_ (Aside0.out ‹_›)))))
     have n2_ := yab (blk_below (upB a8.out) hb); have n3_ := yab (blk_below (upB b3.out) hb)
     have n4_ := yab (below_step (by repeat (with_reducible first | exact HB.out | apply yae | apply yac | apply yad | refine yag ?_ (Aside0.out ‹_›))) hb)
     clear a5; clear a8; clear b3; clear HB; have a5 := n0_; have c8 := n1_; have a8 := n2_; have b3 := n3_; have HB := n4_; clear n0_ n1_ n2_ n3_ n4_; (try clear hb); (try clear hb2); (try clear hk); (try clear hi); (try clear ho0)
     refine hK.out _ _ ⟨(blk_cell a8.out 0).trans rfl, (blk_cell a8.out 1).trans rfl, (blk_cell a8.out 2).trans rfl, (upc_ HB.out b9 :), (upc_ HB.out b8 :), (upc_ HB.out b7 :), (upc_ HB.out b6 :), (upc_ HB.out b5 :)⟩ (fun hHeld => ?_)
     clear hK K
     refine norm_ (a' := ?_) ?_ ?_
     rotate_left
     ·
      show Act.put _ (some 20) _ = _
      simp only [Act.put, List.setIfInBounds_toArray, List.set_cons_zero, List.set_cons_succ, i64_w, i32_w]
      rfl
     refine pz_ 6 14 q15_9 HT_ (by kernel_rfl) ?_
     refine pz_ 7 21 q15_10 HT_ (by kernel_rfl) ?_
     refine pz_ 8 22 q15_11 HT_ (by kernel_rfl) ?_
     refine one_ (i := 9) (N := some 6) q15_6 rfl rfl (one_of HT_.out (by kernel_rfl)) (by decide) (fun K hK => ?_)
     refine box_step ?hg (N := 6) ?hd (cs := #[.int .i64 0, .int .i64 0, .slice none 0 0]) (t := 25) ?hr ?_; (case hd => rfl); (case hg => rfl); (case hr => first | (go_simp; done) | (go_simp; rfl))
     intro a6 hg w11 hbox hb; have n0_ := yab (Kd.V_below (Kd.V_elderB (upV a5.out) a6 (Nat.le_of_eq hg.symm)) hb); have n1_ := yab (Kd.R_below (upR c8.out) hb); have n2_ := yab (blk_below (upB a8.out) hb); have n3_ := yab (blk_below (upB b3.out) hb)
     have n4_ := yab (below_step (by repeat (with_reducible first | exact HB.out | apply yae | apply yac | apply yad | refine yag ?_ (Aside0.out ‹_›))) hb)
     have n5_ := yab (hbox)
     have n6_ := yab ((by rw [hg]; exact (below_size (by repeat (with_reducible first | exact HB.out | apply yae | apply yac | apply yad | refine yag ?_ (Aside0.out ‹_›)))) : w.heap.size ≤ a6))
     have n7_ := yab ((by rw [hg]; exact (below_size (by repeat (with_reducible first | exact HB.out | apply yae | apply yac | apply yad | refine yag ?_ (Aside0.out ‹_›)))) : w.heap.size ≤ a6))
     have n8_ := yab ((by rw [hg]; exact Nat.ne_of_lt (blk_lt (upB a8.out)) : b4 ≠ a6)); have n9_ := yab ((by rw [hg]; exact Nat.ne_of_gt (blk_lt (upB a8.out)) : a6 ≠ b4)); have e0 := yab ((by rw [hg]; exact Nat.ne_of_lt (blk_lt (upB b3.out)) : c2 ≠ a6)); have e4 := yab ((by rw [hg]; exact Nat.ne_of_gt (blk_lt (upB b3.out)) : a6 ≠ c2)); clear a5; clear c8; clear a8; clear b3; clear HB; have a5 := n0_; have c8 := n1_; have a8 := n2_; have b3 := n3_; have HB := n4_; have c7 := n5_; have a4 := n6_; have e1 := n7_; have b0 := n8_; have c3 := n9_; have c0 := e0; have c4 := e4; clear n0_ n1_ n2_ n3_ n4_ n5_ n6_ n7_ n8_ n9_ e0 e4; clear hb hbox hg
     refine hK.out _ _ ⟨(blk_cell a8.out 0).trans rfl, (blk_cell a8.out 1).trans rfl, (blk_cell a8.out 2).trans rfl, (upc_ HB.out b9 :), (upc_ HB.out b8 :), (upc_ HB.out b7 :), (upc_ HB.out b6 :), (upc_ HB.out b5 :)⟩ (fun hHeld => ?_)
     clear hK K
     refine norm_ (a' := ?_) ?_ ?_
     rotate_left
     ·
      show Act.put _ (some 6) _ = _
      simp only [Act.put, List.setIfInBounds_toArray, List.set_cons_zero, List.set_cons_succ, i64_w, i32_w]
      rfl
     exact norm_ (by simp only [putAll, Act.put, List.setIfInBounds_toArray, List.set_cons_zero, List.set_cons_succ]) (hCont (e2, a6) _ ⟨hHeld, (by (with_reducible repeat (first | apply Kd.R_alloc | apply Kd.R_drewN | apply Kd.R_drew)); exact Kd.R_mono c8.out (fun _ hk => hk.1)), (by (with_reducible repeat (first | apply Kd.V_alloc | apply Kd.V_drewN | apply Kd.V_drew)); exact Kd.V_mono a5.out (fun _ hk => ⟨hk.1.1.1, ⟨hk.1.2, ⟨hk.1.1.2.1, ⟨hk.1.1.2.2, hk.2⟩⟩⟩⟩)), (upB a8.out), (upB b3.out), (upB c7.out), a4.out, e1.out, b0.out, c3.out, c0.out, c4.out, (by repeat (with_reducible first | exact HB.out | apply yae | apply yac | apply yad | refine yag ?_ (Aside0.out ‹_›)))⟩)
    ·
     skip
     refine box_step ?hg (N := 6) ?hd (cs := #[.int .i64 0, .int .i64 0, .slice none 0 0]) (t := 25) ?hr ?_; (case hd => rfl); (case hg => rfl); (case hr => first | (go_simp; done) | (go_simp; rfl))
     intro a6 hg w10 hbox hb; have n0_ := yab (Kd.V_below (Kd.V_elderB (upV a5.out) a6 (Nat.le_of_eq hg.symm)) hb); have n1_ := yab (blk_below (upB a8.out) hb); have n2_ := yab (blk_below (upB b3.out) hb)
     have n3_ := yab (below_step (by repeat (with_reducible first | exact HB.out | apply yae | apply yac | apply yad | refine yag ?_ (Aside0.out ‹_›))) hb)
     have n4_ := yab (hbox)
     have n5_ := yab ((by rw [hg]; exact (below_size (by repeat (with_reducible first | exact HB.out | apply yae | apply yac | apply yad | refine yag ?_ (Aside0.out ‹_›)))) : w.heap.size ≤ a6))
     have n6_ := yab ((by rw [hg]; exact (below_size (by repeat (with_reducible first | exact HB.out | apply yae | apply yac | apply yad | refine yag ?_ (Aside0.out ‹_›)))) : w.heap.size ≤ a6))
     have n7_ := yab ((by rw [hg]; exact Nat.ne_of_lt (blk_lt (upB a8.out)) : b4 ≠ a6)); have n8_ := yab ((by rw [hg]; exact Nat.ne_of_gt (blk_lt (upB a8.out)) : a6 ≠ b4)); have n9_ := yab ((by rw [hg]; exact Nat.ne_of_lt (blk_lt (upB b3.out)) : c2 ≠ a6)); have e0 := yab ((by rw [hg]; exact Nat.ne_of_gt (blk_lt (upB b3.out)) : a6 ≠ c2)); clear a5; clear a8; clear b3; clear HB; have a5 := n0_; have a8 := n1_; have b3 := n2_; have HB := n3_; have c7 := n4_; have a4 := n5_; have e1 := n6_; have b0 := n7_; have c3 := n8_; have c0 := n9_; have c4 := e0; clear n0_ n1_ n2_ n3_ n4_ n5_ n6_ n7_ n8_ n9_ e0; clear hb hbox hg
     refine hK.out _ _ ⟨(blk_cell a8.out 0).trans rfl, (blk_cell a8.out 1).trans rfl, (blk_cell a8.out 2).trans rfl, (upc_ HB.out b9 :), (upc_ HB.out b8 :), (upc_ HB.out b7 :), (upc_ HB.out b6 :), (upc_ HB.out b5 :)⟩ (fun hHeld => ?_)
     clear hK K
     refine norm_ (a' := ?_) ?_ ?_
     rotate_left
     ·
      show Act.put _ (some 6) _ = _
      simp only [Act.put, List.setIfInBounds_toArray, List.set_cons_zero, List.set_cons_succ, i64_w, i32_w]
      rfl
     refine one_ (i := 5) (N := some 20) q15_12 rfl rfl (one_of HT_.out (by kernel_rfl)) (by decide) (fun K hK => ?_)
     refine goes_ Try.func11 (by kernel_rfl) rfl #[.agg #[.int .i64 b1, .int .i64 b2, .slice Ao8 a7.length co8], .agg #[.int .i64 ((yah l1 a9).f0), .int .i64 ((yah l1 a9).f1), .int .i64 ((yah l1 a9).f2), .int .i64 ((yah l1 a9).f3), .int .i64 ((yah l1 a9).f4)]] (by rfl) rfl rfl (by (try simp only [List.map_toArray, List.map_cons, List.map_nil]); first | done | rfl | (simp only [List.length_drop, List.length_take]; rfl)) ?_
     with_reducible refine (impl_OpDo.calls b1 b2 _ _ a7 ((yah l1 a9).f0) ((yah l1 a9).f1) ((yah l1 a9).f2) ((yah l1 a9).f3) ((yah l1 a9).f4) d6 d7 d9 e3 _ ?side1 ?side2 A7.out).mono ?_
     (case side1 => repeat (first | exact (Kd.V_reads' a5.out).2.2 | (with_reducible refine Kd.C_alloc ?_ _) | (with_reducible refine Kd.C_drewN ?_ _) | (with_reducible refine Kd.C_drew ?_)))
     (case side2 => exact (Kd.V_reads' a5.out).2.1)
     rintro e w11 ⟨e2, rfl, ho0, hb⟩; refine ⟨_, rfl, ?_⟩; have n0_ := yab (Kd.V_elder' (upV a5.out) (Kd.R_base ho0) hb)
     have n1_ := yab (Kd.R_lower (Kd.R_newM (M := fun k_ => (w.heap.size ≤ k_)) ho0 (below_size (by repeat (with_reducible first | exact HB.out | apply yae | apply yac | apply yad | refine yag ?_ (Aside0.out ‹_›)))) (fun k_ h_ => h_)) (below_size (by repeat (with_reducible first | exact HB.out | apply yae | apply yac | apply yad | refine yag ?_ (Aside0.out ‹_›)))))
     have n2_ := yab (blk_below (upB a8.out) hb); have n3_ := yab (blk_below (upB b3.out) hb); have n4_ := yab (blk_below (upB c7.out) hb)
     have n5_ := yab (below_step (by repeat (with_reducible first | exact HB.out | apply yae | apply yac | apply yad | refine yag ?_ (Aside0.out ‹_›))) hb)
     clear a5; clear a8; clear b3; clear c7; clear HB; have a5 := n0_; have c8 := n1_; have a8 := n2_; have b3 := n3_; have c7 := n4_; have HB := n5_; clear n0_ n1_ n2_ n3_ n4_ n5_; (try clear hb); (try clear hb2); (try clear hk); (try clear hi); (try clear ho0)
     refine hK.out _ _ ⟨(blk_cell a8.out 0).trans rfl, (blk_cell a8.out 1).trans rfl, (blk_cell a8.out 2).trans rfl, (upc_ HB.out b9 :), (upc_ HB.out b8 :), (upc_ HB.out b7 :), (upc_ HB.out b6 :), (upc_ HB.out b5 :)⟩ (fun hHeld => ?_)
     clear hK K
     refine norm_ (a' := ?_) ?_ ?_
     rotate_left
     ·
      show Act.put _ (some 20) _ = _
      simp only [Act.put, List.setIfInBounds_toArray, List.set_cons_zero, List.set_cons_succ, i64_w, i32_w]
      rfl
     refine pz_ 6 14 q15_13 HT_ (by kernel_rfl) ?_
     refine pz_ 7 21 q15_14 HT_ (by kernel_rfl) ?_
     refine pz_ 8 22 q15_6 HT_ (by kernel_rfl) ?_
     exact norm_ (by simp only [putAll, Act.put, List.setIfInBounds_toArray, List.set_cons_zero, List.set_cons_succ]) (hCont (e2, a6) _ ⟨hHeld, (by (with_reducible repeat (first | apply Kd.R_alloc | apply Kd.R_drewN | apply Kd.R_drew)); exact Kd.R_mono c8.out (fun _ hk => hk.1)), (by (with_reducible repeat (first | apply Kd.V_alloc | apply Kd.V_drewN | apply Kd.V_drew)); exact Kd.V_mono a5.out (fun _ hk => ⟨hk.1.1.1, ⟨hk.2, ⟨hk.1.1.2.1, ⟨hk.1.1.2.2, hk.1.2⟩⟩⟩⟩)), (upB a8.out), (upB b3.out), (upB c7.out), a4.out, e1.out, b0.out, c3.out, c0.out, c4.out, (by repeat (with_reducible first | exact HB.out | apply yae | apply yac | apply yad | refine yag ?_ (Aside0.out ‹_›)))⟩)
   rintro ⟨e2, a6⟩ w12 ⟨hS_, h0_, h1_, h2_, h3_, h4_, h5_, h6_, h7_, h8_, h9_, h10_, h11_⟩; have n0_ : Aside0 (Kd.R k36 36 w12 w.heap.size (fun k_ => (w.heap.size ≤ k_)) e2 d9) := ⟨h0_⟩; have n1_ : Aside0 (Kd.V k36 36 w12 w.heap.size (fun k_ => (P0_2_ k_ ∨ w.heap.size ≤ k_) ∧ some k_ ≠ (e2 : Value).ownBlock ∧ k_ ≠ b4 ∧ k_ ≠ c2 ∧ k_ ≠ a6) (.slice Ao8 a7.length co8) a7) := ⟨h1_⟩; have n2_ : Aside0 (w12.heap[b4]? = some (.cells #[.int .i64 b1, .int .i64 b2, .slice Ao8 a7.length co8] 25 (0, 0))) := ⟨h2_⟩; have n3_ : Aside0 (w12.heap[c2]? = some (.cells #[.int .i64 0, .int .i64 0, .slice none 0 0] 25 (0, 0))) := ⟨h3_⟩; have n4_ : Aside0 (w12.heap[a6]? = some (.cells #[.int .i64 0, .int .i64 0, .slice none 0 0] 25 (0, 0))) := ⟨h4_⟩; have n5_ : Aside0 (w.heap.size ≤ a6) := ⟨h5_⟩; have n6_ : Aside0 (w.heap.size ≤ a6) := ⟨h6_⟩; have n7_ : Aside0 (b4 ≠ a6) := ⟨h7_⟩; have n8_ : Aside0 (a6 ≠ b4) := ⟨h8_⟩; have n9_ : Aside0 (c2 ≠ a6) := ⟨h9_⟩; have e0 : Aside0 (a6 ≠ c2) := ⟨h10_⟩; have e4 : Aside0 (Below w.heap.size w w12) := ⟨h11_⟩; clear a5; clear a8; clear b3; clear HB; clear h0_ h1_ h2_ h3_ h4_ h5_ h6_ h7_ h8_ h9_ h10_ h11_; have c8 := n0_; have a5 := n1_; have a8 := n2_; have b3 := n3_; have c7 := n4_; have a4 := n5_; have e1 := n6_; have b0 := n7_; have c3 := n8_; have c0 := n9_; have c4 := e0; have HB := e4; clear n0_ n1_ n2_ n3_ n4_ n5_ n6_ n7_ n8_ n9_ e0 e4; have hHeld : w12.cell? ⟨b4, 0, none⟩ = some (.int .i64 b1) ∧ w12.cell? ⟨b4, 1, none⟩ = some (.int .i64 b2) ∧ w12.cell? ⟨b4, 2, none⟩ = some (.slice Ao8 a7.length co8) ∧ w12.cell? (ad103.add ((a9).toNat * 5)) = some (.int .i64 ((yah l1 a9).f0)) ∧ w12.cell? ⟨(ad103.add ((a9).toNat * 5)).block, (ad103.add ((a9).toNat * 5)).off + 1, none⟩ = some (.int .i64 ((yah l1 a9).f1)) ∧ w12.cell? ⟨(ad103.add ((a9).toNat * 5)).block, (ad103.add ((a9).toNat * 5)).off + 2, none⟩ = some (.int .i64 ((yah l1 a9).f2)) ∧ w12.cell? ⟨(ad103.add ((a9).toNat * 5)).block, (ad103.add ((a9).toNat * 5)).off + 3, none⟩ = some (.int .i64 ((yah l1 a9).f3)) ∧ w12.cell? ⟨(ad103.add ((a9).toNat * 5)).block, (ad103.add ((a9).toNat * 5)).off + 4, none⟩ = some (.int .i64 ((yah l1 a9).f4)) := hS_; obtain ⟨e5, e6, f6⟩ := Kd.R_slice c8.out
   (first | subst f6 | (injection f6 with f1_ f2_ f3_; have f4_ := f1_.symm; have f5_ := f3_.symm; clear f1_ f2_ f3_; subst f4_; subst f5_))
   refine norm_ (a' := ?_) ?_ ?_
   rotate_left
   ·
    simp only [putAll, Act.put, List.setIfInBounds_toArray, List.set_cons_zero, List.set_cons_succ]
    rfl
   refine one_ (i := 10) (N := none) q15_15 rfl rfl (one_of HT_.out (by kernel_rfl)) (by decide) (fun K hK => ?_)
   have l4 : w12.cell? ⟨a6, 0, none⟩ = some (.int .i64 0) := (blk_cell c7.out 0).trans rfl; have k0 := blk_frozen c7.out 0; have f9 := b0.out; have g0 := c0.out; have g1 := c3.out; have g2 := c4.out; have l5 : w12.cell? ⟨a6, 1, none⟩ = some (.int .i64 0) := (blk_cell c7.out 1).trans rfl; have k2 := blk_frozen c7.out 1; have g3 := b0.out; have g4 := c0.out; have g5 := c3.out; have g6 := c4.out; have l6 : w12.cell? ⟨a6, 2, none⟩ = some (.slice none 0 0) := (blk_cell c7.out 2).trans rfl; have k3 := blk_frozen c7.out 2; have g7 := b0.out; have g8 := c0.out; have g9 := c3.out; have h0 := c4.out
   refine skip_ (w1 := ?_) (by rfl) rfl ?_ ?_
   rotate_left
   ·
    go_simp
    rfl
   refine hK.out _ _ ⟨((yaf (p := ⟨a6, _, none⟩) b0.out _).trans (((yaf (p := ⟨a6, _, none⟩) b0.out _).trans (((yaf (p := ⟨a6, _, none⟩) b0.out _).trans (hHeld.1)))))), ((yaf (p := ⟨a6, _, none⟩) b0.out _).trans (((yaf (p := ⟨a6, _, none⟩) b0.out _).trans (((yaf (p := ⟨a6, _, none⟩) b0.out _).trans (hHeld.2.1)))))), ((yaf (p := ⟨a6, _, none⟩) b0.out _).trans (((yaf (p := ⟨a6, _, none⟩) b0.out _).trans (((yaf (p := ⟨a6, _, none⟩) b0.out _).trans (hHeld.2.2.1)))))), ((yaf (p := ⟨a6, _, none⟩) (by first | exact Nat.ne_of_lt (Nat.lt_of_lt_of_le (by have := World.block_lt_of_cell? _ _ b9; first | rwa [yaa] at this | exact this) a4.out) | (rw [yaa]; exact Nat.ne_of_lt (Nat.lt_of_lt_of_le (by have := World.block_lt_of_cell? _ _ b9; first | rwa [yaa] at this | exact this) a4.out)) | (show (Addr.add _ _).block ≠ _; rw [yaa]; exact Nat.ne_of_lt (Nat.lt_of_lt_of_le (by have := World.block_lt_of_cell? _ _ b9; first | rwa [yaa] at this | exact this) a4.out)) | (dsimp only; exact Nat.ne_of_lt (Nat.lt_of_lt_of_le (by have := World.block_lt_of_cell? _ _ b9; first | rwa [yaa] at this | exact this) a4.out))) _).trans (((yaf (p := ⟨a6, _, none⟩) (by first | exact Nat.ne_of_lt (Nat.lt_of_lt_of_le (by have := World.block_lt_of_cell? _ _ b9; first | rwa [yaa] at this | exact this) a4.out) | (rw [yaa]; exact Nat.ne_of_lt (Nat.lt_of_lt_of_le (by have := World.block_lt_of_cell? _ _ b9; first | rwa [yaa] at this | exact this) a4.out)) | (show (Addr.add _ _).block ≠ _; rw [yaa]; exact Nat.ne_of_lt (Nat.lt_of_lt_of_le (by have := World.block_lt_of_cell? _ _ b9; first | rwa [yaa] at this | exact this) a4.out)) | (dsimp only; exact Nat.ne_of_lt (Nat.lt_of_lt_of_le (by have := World.block_lt_of_cell? _ _ b9; first | rwa [yaa] at this | exact this) a4.out))) _).trans (((yaf (p := ⟨a6, _, none⟩) (by first | exact Nat.ne_of_lt (Nat.lt_of_lt_of_le (by have := World.block_lt_of_cell? _ _ b9; first | rwa [yaa] at this | exact this) a4.out) | (rw [yaa]; exact Nat.ne_of_lt (Nat.lt_of_lt_of_le (by have := World.block_lt_of_cell? _ _ b9; first | rwa [yaa] at this | exact this) a4.out)) | (show (Addr.add _ _).block ≠ _; rw [yaa]; exact Nat.ne_of_lt (Nat.lt_of_lt_of_le (by have := World.block_lt_of_cell? _ _ b9; first | rwa [yaa] at this | exact this) a4.out)) | (dsimp only; exact Nat.ne_of_lt (Nat.lt_of_lt_of_le (by have := World.block_lt_of_cell? _ _ b9; first | rwa [yaa] at this | exact this) a4.out))) _).trans (hHeld.2.2.2.1)))))), ((yaf (p := ⟨a6, _, none⟩) (by first | exact Nat.ne_of_lt (Nat.lt_of_lt_of_le (by have := World.block_lt_of_cell? _ _ b8; first | rwa [yaa] at this | exact this) a4.out) | (rw [yaa]; exact Nat.ne_of_lt (Nat.lt_of_lt_of_le (by have := World.block_lt_of_cell? _ _ b8; first | rwa [yaa] at this | exact this) a4.out)) | (show (Addr.add _ _).block ≠ _; rw [yaa]; exact Nat.ne_of_lt (Nat.lt_of_lt_of_le (by have := World.block_lt_of_cell? _ _ b8; first | rwa [yaa] at this | exact this) a4.out)) | (dsimp only; exact Nat.ne_of_lt (Nat.lt_of_lt_of_le (by have := World.block_lt_of_cell? _ _ b8; first | rwa [yaa] at this | exact this) a4.out))) _).trans (((yaf (p := ⟨a6, _, none⟩) (by first | exact Nat.ne_of_lt (Nat.lt_of_lt_of_le (by have := World.block_lt_of_cell? _ _ b8; first | rwa [yaa] at this | exact this) a4.out) | (rw [yaa]; exact Nat.ne_of_lt (Nat.lt_of_lt_of_le (by have := World.block_lt_of_cell? _ _ b8; first | rwa [yaa] at this | exact this) a4.out)) | (show (Addr.add _ _).block ≠ _; rw [yaa]; exact Nat.ne_of_lt (Nat.lt_of_lt_of_le (by have := World.block_lt_of_cell? _ _ b8; first | rwa [yaa] at this | exact this) a4.out)) | (dsimp only; exact Nat.ne_of_lt (Nat.lt_of_lt_of_le (by have := World.block_lt_of_cell? _ _ b8; first | rwa [yaa] at this | exact this) a4.out))) _).trans (((yaf (p := ⟨a6, _, none⟩) (by first | exact Nat.ne_of_lt (Nat.lt_of_lt_of_le (by have := World.block_lt_of_cell? _ _ b8; first | rwa [yaa] at this | exact this) a4.out) | (rw [yaa]; exact Nat.ne_of_lt (Nat.lt_of_lt_of_le (by have := World.block_lt_of_cell? _ _ b8; first | rwa [yaa] at this | exact this) a4.out)) | (show (Addr.add _ _).block ≠ _; rw [yaa]; exact Nat.ne_of_lt (Nat.lt_of_lt_of_le (by have := World.block_lt_of_cell? _ _ b8; first | rwa [yaa] at this | exact this) a4.out)) | (dsimp only; exact Nat.ne_of_lt (Nat.lt_of_lt_of_le (by have := World.block_lt_of_cell? _ _ b8; first | rwa [yaa] at this | exact this) a4.out))) _).trans (hHeld.2.2.2.2.1)))))), ((yaf (p := ⟨a6, _, none⟩) (by first | exact Nat.ne_of_lt (Nat.lt_of_lt_of_le (by have := World.block_lt_of_cell? _ _ b7; first | rwa [yaa] at this | exact this) a4.out) | (rw [yaa]; exact Nat.ne_of_lt (Nat.lt_of_lt_of_le (by have := World.block_lt_of_cell? _ _ b7; first | rwa [yaa] at this | exact this) a4.out)) | (show (Addr.add _ _).block ≠ _; rw [yaa]; exact Nat.ne_of_lt (Nat.lt_of_lt_of_le (by have := World.block_lt_of_cell? _ _ b7; first | rwa [yaa] at this | exact this) a4.out)) | (dsimp only; exact Nat.ne_of_lt (Nat.lt_of_lt_of_le (by have := World.block_lt_of_cell? _ _ b7; first | rwa [yaa] at this | exact this) a4.out))) _).trans (((yaf (p := ⟨a6, _, none⟩) (by first | exact Nat.ne_of_lt (Nat.lt_of_lt_of_le (by have := World.block_lt_of_cell? _ _ b7; first | rwa [yaa] at this | exact this) a4.out) | (rw [yaa]; exact Nat.ne_of_lt (Nat.lt_of_lt_of_le (by have := World.block_lt_of_cell? _ _ b7; first | rwa [yaa] at this | exact this) a4.out)) | (show (Addr.add _ _).block ≠ _; rw [yaa]; exact Nat.ne_of_lt (Nat.lt_of_lt_of_le (by have := World.block_lt_of_cell? _ _ b7; first | rwa [yaa] at this | exact this) a4.out)) | (dsimp only; exact Nat.ne_of_lt (Nat.lt_of_lt_of_le (by have := World.block_lt_of_cell? _ _ b7; first | rwa [yaa] at this | exact this) a4.out))) _).trans (((yaf (p := ⟨a6, _, none⟩) (by first | exact Nat.ne_of_lt (Nat.lt_of_lt_of_le (by have := World.block_lt_of_cell? _ _ b7; first | rwa [yaa] at this | exact this) a4.out) | (rw [yaa]; exact Nat.ne_of_lt (Nat.lt_of_lt_of_le (by have := World.block_lt_of_cell? _ _ b7; first | rwa [yaa] at this | exact this) a4.out)) | (show (Addr.add _ _).block ≠ _; rw [yaa]; exact Nat.ne_of_lt (Nat.lt_of_lt_of_le (by have := World.block_lt_of_cell? _ _ b7; first | rwa [yaa] at this | exact this) a4.out)) | (dsimp only; exact Nat.ne_of_lt (Nat.lt_of_lt_of_le (by have := World.block_lt_of_cell? _ _ b7; first | rwa [yaa] at this | exact this) a4.out))) _).trans (hHeld.2.2.2.2.2.1)))))), ((yaf (p := ⟨a6, _, none⟩) (by first | exact Nat.ne_of_lt (Nat.lt_of_lt_of_le (by have := World.block_lt_of_cell? _ _ b6; first | rwa [yaa] at this | exact this) a4.out) | (rw [yaa]; exact Nat.ne_of_lt (Nat.lt_of_lt_of_le (by have := World.block_lt_of_cell? _ _ b6; first | rwa [yaa] at this | exact this) a4.out)) | (show (Addr.add _ _).block ≠ _; rw [yaa]; exact Nat.ne_of_lt (Nat.lt_of_lt_of_le (by have := World.block_lt_of_cell? _ _ b6; first | rwa [yaa] at this | exact this) a4.out)) | (dsimp only; exact Nat.ne_of_lt (Nat.lt_of_lt_of_le (by have := World.block_lt_of_cell? _ _ b6; first | rwa [yaa] at this | exact this) a4.out))) _).trans (((yaf (p := ⟨a6, _, none⟩) (by first | exact Nat.ne_of_lt (Nat.lt_of_lt_of_le (by have := World.block_lt_of_cell? _ _ b6; first | rwa [yaa] at this | exact this) a4.out) | (rw [yaa]; exact Nat.ne_of_lt (Nat.lt_of_lt_of_le (by have := World.block_lt_of_cell? _ _ b6; first | rwa [yaa] at this | exact this) a4.out)) | (show (Addr.add _ _).block ≠ _; rw [yaa]; exact Nat.ne_of_lt (Nat.lt_of_lt_of_le (by have := World.block_lt_of_cell? _ _ b6; first | rwa [yaa] at this | exact this) a4.out)) | (dsimp only; exact Nat.ne_of_lt (Nat.lt_of_lt_of_le (by have := World.block_lt_of_cell? _ _ b6; first | rwa [yaa] at this | exact this) a4.out))) _).trans (((yaf (p := ⟨a6, _, none⟩) (by first | exact Nat.ne_of_lt (Nat.lt_of_lt_of_le (by have := World.block_lt_of_cell? _ _ b6; first | rwa [yaa] at this | exact this) a4.out) | (rw [yaa]; exact Nat.ne_of_lt (Nat.lt_of_lt_of_le (by have := World.block_lt_of_cell? _ _ b6; first | rwa [yaa] at this | exact this) a4.out)) | (show (Addr.add _ _).block ≠ _; rw [yaa]; exact Nat.ne_of_lt (Nat.lt_of_lt_of_le (by have := World.block_lt_of_cell? _ _ b6; first | rwa [yaa] at this | exact this) a4.out)) | (dsimp only; exact Nat.ne_of_lt (Nat.lt_of_lt_of_le (by have := World.block_lt_of_cell? _ _ b6; first | rwa [yaa] at this | exact this) a4.out))) _).trans (hHeld.2.2.2.2.2.2.1)))))), ((yaf (p := ⟨a6, _, none⟩) (by first | exact Nat.ne_of_lt (Nat.lt_of_lt_of_le (by have := World.block_lt_of_cell? _ _ b5; first | rwa [yaa] at this | exact this) a4.out) | (rw [yaa]; exact Nat.ne_of_lt (Nat.lt_of_lt_of_le (by have := World.block_lt_of_cell? _ _ b5; first | rwa [yaa] at this | exact this) a4.out)) | (show (Addr.add _ _).block ≠ _; rw [yaa]; exact Nat.ne_of_lt (Nat.lt_of_lt_of_le (by have := World.block_lt_of_cell? _ _ b5; first | rwa [yaa] at this | exact this) a4.out)) | (dsimp only; exact Nat.ne_of_lt (Nat.lt_of_lt_of_le (by have := World.block_lt_of_cell? _ _ b5; first | rwa [yaa] at this | exact this) a4.out))) _).trans (((yaf (p := ⟨a6, _, none⟩) (by first | exact Nat.ne_of_lt (Nat.lt_of_lt_of_le (by have := World.block_lt_of_cell? _ _ b5; first | rwa [yaa] at this | exact this) a4.out) | (rw [yaa]; exact Nat.ne_of_lt (Nat.lt_of_lt_of_le (by have := World.block_lt_of_cell? _ _ b5; first | rwa [yaa] at this | exact this) a4.out)) | (show (Addr.add _ _).block ≠ _; rw [yaa]; exact Nat.ne_of_lt (Nat.lt_of_lt_of_le (by have := World.block_lt_of_cell? _ _ b5; first | rwa [yaa] at this | exact this) a4.out)) | (dsimp only; exact Nat.ne_of_lt (Nat.lt_of_lt_of_le (by have := World.block_lt_of_cell? _ _ b5; first | rwa [yaa] at this | exact this) a4.out))) _).trans (((yaf (p := ⟨a6, _, none⟩) (by first | exact Nat.ne_of_lt (Nat.lt_of_lt_of_le (by have := World.block_lt_of_cell? _ _ b5; first | rwa [yaa] at this | exact this) a4.out) | (rw [yaa]; exact Nat.ne_of_lt (Nat.lt_of_lt_of_le (by have := World.block_lt_of_cell? _ _ b5; first | rwa [yaa] at this | exact this) a4.out)) | (show (Addr.add _ _).block ≠ _; rw [yaa]; exact Nat.ne_of_lt (Nat.lt_of_lt_of_le (by have := World.block_lt_of_cell? _ _ b5; first | rwa [yaa] at this | exact this) a4.out)) | (dsimp only; exact Nat.ne_of_lt (Nat.lt_of_lt_of_le (by have := World.block_lt_of_cell? _ _ b5; first | rwa [yaa] at this | exact this) a4.out))) _).trans (hHeld.2.2.2.2.2.2.2))))))⟩ (fun hHeld => ?_)
   clear hK K
   refine pz_ 11 7 q15_16 HT_ (by kernel_rfl) ?_
   refine done_ (done_of HT_.out (by kernel_rfl)) ?_
   have k4 := c3.out; have k5 := b0.out; have k6 := c4.out; have k7 := c0.out; obtain ⟨h1, h2, h3⟩ := cc3_ c7.out; obtain ⟨h4, h5, h6⟩ := cf3_ c7.out; have k8 := c9.out; have k9 := d0.out; obtain ⟨h7, h8, h9⟩ := cc3_ a8.out; obtain ⟨i0, i1, i2⟩ := cf3_ a8.out
   try go_wp2
   go_roundg k1
   case measure => have := HK1.out; omega
   case rel => exact ⟨(wrap64 (a9 + 1)), (d6), (d7), (d9), (.slice e5 d9.length e6), (by first | rfl | (simp; done) | (simp [*]; done)), H', ⟨by have := HK1.out; omega⟩, ⟨Kd.V_mono (Kd.R_V (by (with_reducible repeat (first | apply Kd.R_alloc | apply Kd.R_drewN | apply Kd.R_drew)); exact Kd.R_mono (Kd.R_far (p := ⟨b4, 2, none⟩) (Kd.R_far (p := ⟨b4, 1, none⟩) (Kd.R_far (p := ⟨b4, 0, none⟩) (Kd.R_far (p := ⟨a6, 2, none⟩) (Kd.R_far (p := ⟨a6, 1, none⟩) (Kd.R_far (p := ⟨a6, 0, none⟩) (Kd.R_types (Kd.R_types (Kd.R_types (Kd.R_types c8.out a8.out (by decide)) b3.out (by decide)) c7.out (by decide)) a8.out (by decide)) (fun _ hk => hk.1.2) (.int .i64 d6)) (fun _ hk => hk.1.2) (.int .i64 d7)) (fun _ hk => hk.1.2) (.slice e5 d9.length e6)) (fun _ hk => hk.2) (.int .i64 d6)) (fun _ hk => hk.2) (.int .i64 d7)) (fun _ hk => hk.2) (.slice e5 d9.length e6)) (fun _ hk => hk))) (fun k_ hk => by exact ⟨.inr hk.1.1.1.1, hk.1.1.1.2, hk.1.1.2⟩)⟩, ⟨by (repeat refine oneB ?_); refine blk_put (cs := #[.int .i64 d6, .int .i64 d7, .slice Ao8 a7.length co8]) ?_ 2 _ rfl; refine blk_put (cs := #[.int .i64 d6, .int .i64 b2, .slice Ao8 a7.length co8]) ?_ 1 _ rfl; refine blk_put (cs := #[.int .i64 b1, .int .i64 b2, .slice Ao8 a7.length co8]) ?_ 0 _ rfl; (repeat refine oneB ?_); refine blk_far ?_ b0.out _; (repeat refine oneB ?_); refine blk_far ?_ b0.out _; (repeat refine oneB ?_); refine blk_far ?_ b0.out _; exact upB a8.out⟩, ⟨by repeat (with_reducible first | exact b3.out | refine oneB ?_ | refine blk_far ?_ d0.out _ | refine blk_far ?_ c0.out _)⟩, ⟨by repeat (with_reducible first | exact HB.out | apply yae | apply yac | apply yad | refine yag ?_ (Aside0.out ‹_›))⟩⟩
end
end Go.Proofs.Ytoifpgkfpdeglaa.X
