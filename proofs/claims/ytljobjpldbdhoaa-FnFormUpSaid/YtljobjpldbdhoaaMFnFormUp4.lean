/- Lemmas and contracts for the law FnFormUp, part 4: of the program's functions, and over data alone. No condition. -/
import Derived.Test.YtljobjpldbdhoaaMFnFormUp2
import Derived.Test.YtljobjpldbdhoaaMFnFormUp1
import Derived.Test.YtljobjpldbdhoaaMFnFormUp3
import Derived.Laws.EntriesVeiled
import Derived.Deep.QuietTactic
import Derived.BigQuiet
import Derived.ChangeMaps4
import Derived.Laws.Rows
import Derived.Deep.RegionHeld3
namespace Go.Proofs.Ytljobjpldbdhoaa.X
open Go.RowKit Go.Proofs.YtljobjpldbdhoaaW.PrintWords Go.Proofs.YtljobjpldbdhoaaW.PrintLast Go.Proofs.YtljobjpldbdhoaaW.PrintMore
set_option linter.unusedVariables false
set_option linter.unusedSimpArgs false

set_option maxHeartbeats 400000 in
theorem row_walk (A A' : Option Addr) (n c n' c' : Nat) (y wd m M : Int) (hm : wrap64 (y * wd) = m) (hM : wrap64 ((y + 1) * wd) = M) (h0 : 0 ≤ y) (h1 : y ≤ 1000)
    (hcut : ∀ W : World, (Instr.slice 93 (.slice A n c) (some (.int .i64 m)) (some (.int .i64 M)) none).run Try.prog W = .ok (.slice A' n' c') W) (w : World) :
    Calls Try.prog 70 #[.slice A n c, .int .i64 y, .int .i64 wd] w fun e w' => e = .returned (.slice A' n' c') ∧ w = w' := by
  go_enter Try.func70, Try.ntmps70
  go_wp2
  go_ret
  exact ⟨rfl, rfl⟩

abbrev Pix := S53
abbrev kPix := k53
theorem infoPix : ∃ i, Try.prog.info? 53 = some i ∧ i.size = 4 := by
  obtain ⟨i, hi, hz⟩ := Option.map_eq_some_iff.1 (by kernel_rfl : (Try.prog.info? 53).map (fun i => i.size) = some 4)
  exact ⟨i, hi, hz⟩

set_option maxHeartbeats 1000000 in
set_option maxRecDepth 100000 in
theorem pixOf_walk (A : Option Addr) (n c : Nat) (wd hg x y : Int) (ad : Addr) (n' c' : Nat) (m M : Int) (hm : wrap64 (y * wd) = m) (hM : wrap64 ((y + 1) * wd) = M) (h0 : 0 ≤ y) (h1 : y ≤ 1000)
    (hcut : ∀ W : World, (Instr.slice 93 (.slice A n c) (some (.int .i64 m)) (some (.int .i64 M)) none).run Try.prog W = .ok (.slice (some ad) n' c') W) (w : World)
    (hx0 : 0 ≤ x) (hx1 : x < n') (p : Pix)
    (hc0 : w.cell? (ad.add (x.toNat * 4)) = some (.int .i64 p.f0)) (hc1 : w.cell? ⟨(ad.add (x.toNat * 4)).block, (ad.add (x.toNat * 4)).off + 1, none⟩ = some (.int .i64 p.f1)) (hc2 : w.cell? ⟨(ad.add (x.toNat * 4)).block, (ad.add (x.toNat * 4)).off + 2, none⟩ = some (.int .i64 p.f2)) (hc3 : w.cell? ⟨(ad.add (x.toNat * 4)).block, (ad.add (x.toNat * 4)).off + 3, none⟩ = some (.int .i64 p.f3)) :
    Calls Try.prog 60 #[.agg #[.int .i64 wd, .int .i64 hg, .slice A n c], .int .i64 x, .int .i64 y] w fun e w' => e = .returned (.agg #[.int .i64 p.f0, .int .i64 p.f1, .int .i64 p.f2, .int .i64 p.f3]) ∧ Below w.heap.size w w' := by
  have up : ∀ {a : Addr} {v : Value} (X Y : Obj), w.cell? a = some v → ((w.alloc X).alloc Y).cell? a = some v := fun {a v} X Y h => pw_cell_below (((Below.refl _ _).alloc (Nat.le_refl _) X).alloc (by simp) Y) h
  have d0 := up (.cells #[.int .i64 wd, .int .i64 hg, .slice A n c] 25) (.cells #[.int .i64 0, .int .i64 0, .int .i64 0, .int .i64 0] 53) hc0
  have d1 := up (.cells #[.int .i64 wd, .int .i64 hg, .slice A n c] 25) (.cells #[.int .i64 0, .int .i64 0, .int .i64 0, .int .i64 0] 53) hc1
  have d2 := up (.cells #[.int .i64 wd, .int .i64 hg, .slice A n c] 25) (.cells #[.int .i64 0, .int .i64 0, .int .i64 0, .int .i64 0] 53) hc2
  have d3 := up (.cells #[.int .i64 wd, .int .i64 hg, .slice A n c] 25) (.cells #[.int .i64 0, .int .i64 0, .int .i64 0, .int .i64 0] 53) hc3
  clear up hc0 hc1 hc2 hc3
  have hu := Try.underlying53
  have HC := Aside0.mk hcut
  have Hm := Aside0.mk hm
  have HM := Aside0.mk hM
  clear hcut hm hM
  go_enter Try.func60, Try.ntmps60
  go_wp2_with (go_at_call 70; refine (row_walk _ _ _ _ _ _ y wd _ _ Hm.out HM.out h0 h1 HC.out _).mono ?_; rintro e w' ⟨rfl, rfl⟩)
  refine bodyPost_ret (v := .agg #[.int .i64 p.f0, .int .i64 p.f1, .int .i64 p.f2, .int .i64 p.f3]) (by simp [results, Try.results60, go_sem]) rfl ⟨rfl, ?_⟩
  exact ((Below.refl _ _).alloc (Nat.le_refl _) _).alloc (by simp) _

/-- A function value that tells the colour at a column and a row, from w on, whatever is made since. -/
def Tells (w : World) (fv : Value) (wd hg : Nat) (f : Nat → Nat → Pix) : Prop :=
  ∃ fn caps, fv = .func (.func fn) #[] caps ∧ (∀ (args : Array Value) (W : World), (callFunc fn args).run Try.prog W = .ok (.enter fn args) W) ∧ ∀ (W : World), Below w.heap.size w W → ∀ x y : Nat, x < wd → y < hg →
    Calls Try.prog fn (#[.int .i64 x, .int .i64 y] ++ caps) W fun e w' => e = .returned (.agg #[.int .i64 (f x y).f0, .int .i64 (f x y).f1, .int .i64 (f x y).f2, .int .i64 (f x y).f3]) ∧ Below W.heap.size W w'
/-- The colours of a picture, row by row. -/
def mk (wd hg : Nat) (f : Nat → Nat → Pix) : List Pix := (List.range (wd * hg)).map fun i => f (i % wd) (i / wd)
/-- So many colours are told already. -/
def Upto (wd hg : Nat) (f : Nat → Nat → Pix) (n : Nat) (l : List Pix) : Prop := l.length = wd * hg ∧ ∀ i, i < n → l[i]? = some (f (i % wd) (i / wd))
theorem Upto.start (wd hg : Nat) (f : Nat → Nat → Pix) (z : Pix) : Upto wd hg f 0 (List.replicate (wd * hg) z) := ⟨by simp, fun i hi => absurd hi (by omega)⟩
theorem Upto.step {wd hg : Nat} {f : Nat → Nat → Pix} {x y : Nat} {l : List Pix} (hx : x < wd) (hy : y < hg) (h : Upto wd hg f (y * wd + x) l) : Upto wd hg f (y * wd + x + 1) (l.set (y * wd + x) (f x y)) := by
  have hlt : y * wd + x < wd * hg := by
    have : (y + 1) * wd ≤ hg * wd := Nat.mul_le_mul_right _ (by omega)
    rw [Nat.add_mul, Nat.mul_comm hg] at this
    omega
  refine ⟨by rw [List.length_set]; exact h.1, fun i hi => ?_⟩
  by_cases e : i = y * wd + x
  · subst e
    rw [List.getElem?_set_self (by rw [h.1]; exact hlt)]
    have e1 : (y * wd + x) % wd = x := by rw [Nat.add_comm, Nat.add_mul_mod_self_right, Nat.mod_eq_of_lt hx]
    have e2 : (y * wd + x) / wd = y := by rw [Nat.add_comm, Nat.add_mul_div_right _ _ (by omega), Nat.div_eq_of_lt hx]; omega
    rw [e1, e2]
  · rw [List.getElem?_set_ne (by omega)]
    exact h.2 i (by omega)
theorem Upto.done {wd hg : Nat} {f : Nat → Nat → Pix} {l : List Pix} (h : Upto wd hg f (wd * hg) l) : l = mk wd hg f := by
  apply List.ext_getElem?
  intro i
  by_cases hi : i < wd * hg
  · rw [h.2 i hi]
    simp [mk, hi]
  · rw [List.getElem?_eq_none (by rw [h.1]; omega), List.getElem?_eq_none (by simp [mk]; omega)]

/-- The block of a picture that is to be handed back, before anything is stored in it. -/
def ResBlk (w : World) (b : Nat) : Prop := w.heap[b]? = some (.cells #[.int .i64 0, .int .i64 0, .slice none 0 0] 25 (0, 0))

theorem resBlk_made {w w1 : World} (h : (w.alloc (.cells #[.int .i64 0, .int .i64 0, .slice none 0 0] 25)).grownBy w1 none) : ResBlk w1 w.heap.size := by
  refine ((pw_below_grown (Below.refl (w.alloc (.cells #[.int .i64 0, .int .i64 0, .slice none 0 0] 25)).heap.size _) none (Nat.le_refl _) h (fun k hk => by cases hk)).block w.heap.size ?_).trans ?_
  · show w.heap.size < (w.heap.push _).size
    rw [Array.size_push]; omega
  · show (w.heap.push _)[w.heap.size]? = _
    rw [Array.getElem?_push_size]
theorem ResBlk.keep {w w1 : World} {b : Nat} (h : ResBlk w b) (hb : Below w.heap.size w w1) : ResBlk w1 b := (hb.block b (by
  obtain ⟨hl, _⟩ := Array.getElem?_eq_some_iff.1 h
  exact hl)).trans h
theorem ResBlk.far {w : World} {b : Nat} (h : ResBlk w b) {p : Addr} (hp : b ≠ p.block) {u : Value} : ResBlk (w.setCell p u) b := (Below.heap_setCell w p u b hp).trans h
theorem row_cut {wd hg n g cap : Nat} {i : TypeInfo} (hn : n = wd * hg) (hi : Try.prog.info? 53 = some i) (hs : i.size = 4) (hcap : n ≤ cap) : ∀ y : Nat, y < hg → 0 < wd → ∀ W : World, (Instr.slice 93 (.slice (some ⟨g, 0, none⟩) n cap) (some (.int .i64 ((y * wd : Nat) : Int))) (some (.int .i64 (((y + 1) * wd : Nat) : Int))) none).run Try.prog W = .ok (.slice (some ⟨g, y * wd * 4, none⟩) wd (cap - y * wd)) W := by
  intro y hy hw W
  have h1 : (y + 1) * wd ≤ hg * wd := Nat.mul_le_mul_right _ (by omega)
  have h2 : (y + 1) * wd = y * wd + wd := by rw [Nat.add_mul, Nat.one_mul]
  have h3 : hg * wd = n := by rw [hn, Nat.mul_comm]
  revert h1 h2
  generalize (y + 1) * wd = b
  generalize y * wd = a
  intro h1 h2
  have := cut_mid (P := Try.prog) 93 53 .i64 .i64 Try.underlying93 hi 4 hs (some ⟨g, 0, none⟩) n cap (a : Int) (b : Int) (by omega) (by omega) (by omega) hcap W
  rw [this, if_neg (by rw [Int.toNat_natCast]; omega)]
  simp only [Int.toNat_natCast, Option.map_some, Addr.add, Nat.zero_add]
  rw [show b - a = wd by omega, show (if a * 4 = 0 then (⟨g, 0, none⟩ : Addr) else ⟨g, a * 4, none⟩) = ⟨g, a * 4, none⟩ by split <;> simp_all]
theorem mul_w {a b : Nat} (ha : a ≤ 1000) (hb : b ≤ 1000) : wrap64 ((a : Int) * (b : Int)) = ((a * b : Nat) : Int) := by
  have h : ((a * b : Nat) : Int) ≤ 1000000 := by
    have : a * b ≤ 1000 * 1000 := Nat.mul_le_mul ha hb
    omega
  rw [Int.natCast_mul] at h ⊢
  have h0 : (0 : Int) ≤ (a : Int) * (b : Int) := Int.mul_nonneg (by omega) (by omega)
  unfold wrap64
  omega
theorem mul_w1 {a b : Nat} (ha : a ≤ 1000) (hb : b ≤ 1000) : wrap64 (((a : Int) + 1) * (b : Int)) = (((a + 1) * b : Nat) : Int) := by
  have h : (((a + 1) * b : Nat) : Int) ≤ 1001000 := by
    have : (a + 1) * b ≤ 1001 * 1000 := Nat.mul_le_mul (by omega) hb
    omega
  rw [Int.natCast_mul, Int.natCast_add] at h ⊢
  have h0 : (0 : Int) ≤ ((a : Int) + 1) * (b : Int) := Int.mul_nonneg (by omega) (by omega)
  unfold wrap64
  simp only [Int.natCast_one] at h ⊢
  omega

theorem place_lt {wd hg n x y : Nat} (hx : x < wd) (hy : y < hg) (hn : n = wd * hg) : y * wd + x < n := by
  have : (y + 1) * wd ≤ hg * wd := Nat.mul_le_mul_right _ (by omega)
  rw [Nat.add_mul, Nat.mul_comm hg] at this
  omega
/-- A colour is stored at its place in a picture of one's own. -/
theorem pix_store {W : World} {base g n cap : Nat} {l : List Pix} {ok : Nat → Prop} (h : Kd.R kPix 53 W base ok (.slice (some ⟨g, 0, none⟩) n cap) l) (i o : Nat) (hi : i < n) (ho : o = i * 4) (p : Pix) :
    (∃ a b c d, W.cell? ⟨g, o, none⟩ = some a ∧ W.cell? ⟨g, o + 1, none⟩ = some b ∧ W.cell? ⟨g, o + 2, none⟩ = some c ∧ W.cell? ⟨g, o + 3, none⟩ = some d) ∧ (∀ j, W.frozen? ⟨g, j, none⟩ = false) ∧
      Kd.R kPix 53 ((((W.setCell ⟨g, o, none⟩ (.int .i64 p.f0)).setCell ⟨g, o + 1, none⟩ (.int .i64 p.f1)).setCell ⟨g, o + 2, none⟩ (.int .i64 p.f2)).setCell ⟨g, o + 3, none⟩ (.int .i64 p.f3)) base ok (.slice (some ⟨g, 0, none⟩) n cap) (l.set i p) := by
  subst ho
  obtain ⟨c, hcl, hM, hcc, hfz⟩ := Kd.R_elem h z53 (i : Int) (by omega) (by omega)
  have hc := k53_openM hM
  have hs := (Kd.R_seg h (i : Int) (by omega) (by omega) (c := c) (seg := [.int .i64 p.f0, .int .i64 p.f1, .int .i64 p.f2, .int .i64 p.f3]) (j := 0) hcl hcc (Nat.le_refl 4) (x' := p) (okp := fun k => ok k ∧ k ≠ g) (by rw [hc]; exact k53_mkM _ _ _ p) (fun _ hk => hk)).1
  subst hc
  have h0 := hcc 0 _ rfl
  have h1 := hcc 1 _ rfl
  have h2 := hcc 2 _ rfl
  have h3 := hcc 3 _ rfl
  refine ⟨⟨_, _, _, _, h0, h1, h2, h3⟩, fun j => ?_, hs⟩
  obtain ⟨cs, hcs⟩ := Kd.R_typed h g rfl
  exact blk_frozen hcs j

set_option maxHeartbeats 2000000 in
set_option maxRecDepth 100000 in
theorem newRaster_walk (wd hg : Nat) (hw0 : 1 ≤ wd) (hw1 : wd ≤ 6) (hh0 : 1 ≤ hg) (hh1 : hg ≤ 6) (f : Nat → Nat → Pix) (fv : Value) (w : World) (ht : Tells w fv wd hg f) :
    Calls Try.prog 58 #[.int .i64 wd, .int .i64 hg, fv] w fun e w' => ∃ v, e = .returned (.agg #[.int .i64 wd, .int .i64 hg, v]) ∧ Kd.R kPix 53 w' w.heap.size (fun _ => True) v (mk wd hg f) ∧ Below w.heap.size w w' := by
  obtain ⟨fn, caps, rfl, henter, hcall⟩ := ht
  have HT := Aside0.mk hcall
  clear hcall
  obtain ⟨n, hn⟩ : ∃ n, n = wd * hg := ⟨_, rfl⟩
  have hn1 : 1 ≤ n := by rw [hn]; exact Nat.mul_le_mul hw0 hh0
  have hn2 : n ≤ 36 := by rw [hn]; exact Nat.mul_le_mul hw1 hh1
  have hmul : wrap64 ((wd : Int) * (hg : Int)) = (n : Int) := by
    rw [hn, Int.natCast_mul]
    have : ((wd * hg : Nat) : Int) ≤ 36 := by rw [← hn]; omega
    rw [Int.natCast_mul] at this
    have h0 : (0 : Int) ≤ (wd : Int) * (hg : Int) := Int.mul_nonneg (by omega) (by omega)
    unfold wrap64
    omega
  obtain ⟨iP, hiP, hsP⟩ := infoPix
  have HM := Aside0.mk hmul
  have HN := Aside0.mk hn
  have HI := Aside0.mk hiP
  have HS := Aside0.mk hsP
  clear hn hiP hsP hmul
  go_enter Try.func58, Try.ntmps58
  go_wp2_with (at_make; refine Kd.R_make kPix w.heap.size 53 rfl (N := 14) rfl 93 _ _ rfl (wrap64 ((wd : Int) * (hg : Int))) rfl rfl Try.underlying93 (.agg #[(.int .i64 0), (.int .i64 0), (.int .i64 0), (.int .i64 0)]) 32 info53 rfl (by decide) (by decide) z53 (ok := fun k => w.heap.size < k) (okp := fun k => w.heap.size < k) (k53_mkM _ _ _ z53) (fun _ hk => hk) (by simp) (by rw [HM.out]; omega) (by rw [HM.out]; omega) ((Below.refl _ _).alloc (Nat.le_refl _) _) (by simp) ?_; intro v1 w1 hR hB hgr _)
  rw [HM.out] at hR
  obtain ⟨g, cap, rfl, hg1, hg2, cells, hcells⟩ := Kd.R_form hR (by simp; omega)
  have hgb : w.heap.size < g := hR.1 g rfl
  have hres := resBlk_made hgr
  simp only [HM.out, Int.toNat_natCast, List.length_replicate] at hR ⊢
  have hcap := (Kd.R_reads' hR).2.1
  have HC := Aside0.mk (row_cut HN.out HI.out HS.out hcap (g := g))
  have HU := Aside0.mk (Upto.start wd hg f z53)
  rw [← HN.out] at HU
  clear hgr hcells hcap hg1 hg2
  go_loopw [16] (fun v wr => ∃ (y : Nat) (l : List Pix), y ≤ hg ∧ v = .int .i64 y ∧ Aside0 (Upto wd hg f (y * wd) l) ∧ Aside0 (Kd.R kPix 53 wr w.heap.size (fun k => w.heap.size < k) (.slice (some ⟨g, 0, none⟩) n cap) l) ∧ Aside0 (Below w.heap.size w wr) ∧ Aside0 (ResBlk wr w.heap.size)) (fun v _ => hg - (intOf v).toNat)
  case atStart => exact ⟨0, _, Nat.zero_le _, rfl, Aside0.mk (by rw [Nat.zero_mul]; exact HU.out), Aside0.mk hR, Aside0.mk hB, Aside0.mk hres⟩
  case round =>
    clear hR hB hres HU
    obtain ⟨y, l, hy, rfl, HU, HR, HB, HRES⟩ := hrel
    by_cases hlt : (y : Int) < (hg : Int)
    · have hlt' : y < hg := by omega
      have HY1 := Aside0.mk (mul_w (a := y) (b := wd) (by omega) (by omega))
      have HY2 := Aside0.mk (mul_w1 (a := y) (b := wd) (by omega) (by omega))
      go_wp2_with (go_at_call 70; refine (row_walk (some ⟨g, 0, none⟩) (some ⟨g, y * wd * 4, none⟩) n cap wd (cap - y * wd) y wd _ _ HY1.out HY2.out (by omega) (by omega) (HC.out y hlt' hw0) _).mono ?_; rintro e w' ⟨rfl, rfl⟩)
      go_loopw [25] (fun v wr' => ∃ (x : Nat) (l' : List Pix), x ≤ wd ∧ v = .int .i64 x ∧ Aside0 (Upto wd hg f (y * wd + x) l') ∧ Aside0 (Kd.R kPix 53 wr' w.heap.size (fun k => w.heap.size < k) (.slice (some ⟨g, 0, none⟩) n cap) l') ∧ Aside0 (Below w.heap.size w wr') ∧ Aside0 (ResBlk wr' w.heap.size)) (fun v _ => wd - (intOf v).toNat)
      case atStart => exact ⟨0, l, Nat.zero_le _, rfl, HU, HR, HB, HRES⟩
      case round =>
        clear HU HR HB HRES
        obtain ⟨x, l', hx, rfl, HU, HR, HB, HRES⟩ := hrel
        by_cases hlx : (x : Int) < (wd : Int)
        · have hlx' : x < wd := by omega
          have HLT := Aside0.mk (place_lt hlx' hlt' HN.out)
          go_wp2_with (refine (HT.out _ HB.out x y hlx' hlt').mono ?_; rintro e w2 ⟨rfl, hb2⟩; obtain ⟨⟨u0, u1, u2, u3, e0, e1, e2, e3⟩, ef, hS⟩ := pix_store (Kd.R_below HR.out hb2) (y * wd + x) (y * wd * 4 + x * 4) HLT.out (by rw [Nat.add_mul]) (f x y); have HS2 := Aside0.mk hS; have HB2 := Aside0.mk hb2; clear hb2 hS)
          refine ⟨⟨x + 1, _, hlx', rfl, Aside0.mk (Upto.step hlx' hlt' HU.out), HS2, Aside0.mk ?_, Aside0.mk ?_⟩, by simp [intOf]; omega⟩
          · exact ((((HB.out.trans (HB2.out.mono HB.out.size)).setCell (Nat.le_of_lt hgb) _).setCell (Nat.le_of_lt hgb) _).setCell (Nat.le_of_lt hgb) _).setCell (Nat.le_of_lt hgb) _
          · exact (((((HRES.out).keep HB2.out).far (Nat.ne_of_lt hgb)).far (Nat.ne_of_lt hgb)).far (Nat.ne_of_lt hgb)).far (Nat.ne_of_lt hgb)
        · obtain rfl : x = wd := by omega
          go_wp2
          refine ⟨⟨y + 1, l', hlt', rfl, Aside0.mk (by rw [Nat.add_mul, Nat.one_mul]; exact HU.out), HR, HB, HRES⟩, by simp [intOf]; omega⟩
    · obtain rfl : y = hg := by omega
      have c0 := blk_cell HRES.out 0
      have c1 := blk_cell HRES.out 1
      have c2 := blk_cell HRES.out 2
      have f0 := blk_frozen HRES.out 0
      have f1 := blk_frozen HRES.out 1
      have f2 := blk_frozen HRES.out 2
      simp at c0 c1 c2
      go_wp2
      refine bodyPost_ret (results_cell_row rfl _ _ w.heap.size 25 #[.int .i64 wd, .int .i64 y, .slice (some ⟨g, 0, none⟩) n cap] (0, 0) _ rfl (by refine blk_put (cs := #[.int .i64 wd, .int .i64 y, .slice none 0 0]) ?_ 2 _ rfl; refine blk_put (cs := #[.int .i64 wd, .int .i64 0, .slice none 0 0]) ?_ 1 _ rfl; refine blk_put (cs := #[.int .i64 0, .int .i64 0, .slice none 0 0]) ?_ 0 _ rfl; exact HRES.out) Try.underlying25 rfl (by kernel_rfl)) rfl ?_
      refine ⟨_, rfl, ?_, ((HB.out.setCell (Nat.le_refl _) _).setCell (Nat.le_refl _) _).setCell (Nat.le_refl _) _⟩
      have hl : l = mk wd y f := Upto.done (by rw [Nat.mul_comm]; exact HU.out)
      rw [← hl]
      exact Kd.R_mono (Kd.R_far (p := ⟨w.heap.size, 2, none⟩) (Kd.R_far (p := ⟨w.heap.size, 1, none⟩) (Kd.R_far (p := ⟨w.heap.size, 0, none⟩) HR.out (fun _ hk => Nat.ne_of_gt hk) _) (fun _ hk => Nat.ne_of_gt hk) _) (fun _ hk => Nat.ne_of_gt hk) _) (fun _ _ => trivial)
end Go.Proofs.Ytljobjpldbdhoaa.X
namespace Go.Proofs.YtljobjpldbdhoaaW.PrintWords
open Go.RowKit
set_option linter.unusedVariables false
variable {α : Type} {P : Program} {ops : Array Oper} {o : Oper} {a : Act} {Q : Exit → Act → World → Prop} {rest : List Oper}
theorem Kd.R_make0 (d : Kd α) {w0 W : World} (base e : Nat) (hgd : o.guard = none) {N : Tmp} (hd : o.dst = some N) (t : TypeId) (x y : Operand) (ho : o.op = .makeSlice t x y) (n : Int) (hx : a.eval x = .int .i64 0) (hy : a.eval y = .int .i64 n)
    (ht : P.underlying t = some (.slice e)) (z : Value) (bytes : Nat) (hinfo : (P.info? e).map (fun i => (i.zero, i.size, i.bytes)) = some (some z, d.sz, bytes)) (hz : z.cells.size = d.sz) (hs0 : 0 < d.sz) (hb0 : 0 < bytes)
    (z0 : α) {ok okp : Nat → Prop} (hzero : d.M W base okp z0 z.cells.toList) (hok : ∀ k, okp k → ok k) (hfresh : ok W.heap.size) (h0 : 0 ≤ n) (hl : n.toNat * bytes ≤ 281474976710656) (HB : Below base w0 W) (hbase : base ≤ W.heap.size)
    (h : ∀ v1 w1, d.R e w1 base ok v1 [] → Below base w0 w1 → W.grownBy w1 none → (∃ b, v1.ownBlock = some b ∧ W.heap.size ≤ b) → wpList P ops Q rest (a.put o.dst v1) w1) : wpList P ops Q (o :: rest) a W := by
  obtain ⟨m, rfl⟩ := Int.eq_ofNat_of_zero_le h0
  simp only [Int.toNat_natCast] at hl
  obtain ⟨i0, hi, hzz⟩ := Option.map_eq_some_iff.1 hinfo
  simp only [Prod.mk.injEq] at hzz
  obtain ⟨hz0, hz1, hz2⟩ := hzz
  have hm : m ≤ 281474976710656 := Nat.le_trans (Nat.le_mul_of_pos_right _ hb0) hl
  have hr := run_make (P := P) (w := W) t e i0 z ht hi hz0 .i64 .i64 0 (m : Int) (by omega) (by omega)
    (by
      have h3 : ((i0.bytes * m : Nat) : Int) ≤ 281474976710656 := by rw [hz2, Nat.mul_comm]; omega
      rwa [Int.natCast_mul] at h3) (by omega)
  simp only [Int.toNat_natCast] at hr
  rw [hz1] at hr
  have h1 : d.R e (W.alloc (.cells (madeCells z.cells (m * d.sz)) e)) base ok (.slice (some ⟨W.heap.size, 0, none⟩) m m) (List.replicate m z0) := by
    have hrep := Kd.reps_made hz hs0 hzero m
    refine ⟨fun k hk => ?_, (madeCells z.cells (m * d.sz)).toList, ?_, ?_⟩
    · have : W.heap.size = k := by simpa [Value.ownBlock] using hk
      subst this
      exact hfresh
    · have h2 := World.ownsRow_lit (base := base) (e := e) (size := d.sz) W (madeCells z.cells (m * d.sz)) m hbase (by show m ≤ 9223372036854775807; omega) (by simp [size_madeCells])
      simpa using h2
    · refine hrep.imp_ (fun p c hp => d.M_mono (fun k hk => ⟨hok k hk.1, fun he => ?_⟩) (Kd.M_below (d.M_bound hp) (below_alloc (Below.refl _ _) _)))
      have h3 : k = W.heap.size := by simpa [Value.ownBlock] using he
      have := hk.2.2.1
      omega
  have h2 := Kd.R_take h1 (m := 0) (Nat.zero_le _)
  refine Kd.event_run hgd (by simp [execOp, ho, hx, hy, hr]) (h _ _ h2 (HB.alloc hbase _) (World.grownBy_alloc W _ none) ⟨W.heap.size, by simp [Value.ownBlock], Nat.le_refl _⟩)
end Go.Proofs.YtljobjpldbdhoaaW.PrintWords
namespace Go.Proofs.Ytljobjpldbdhoaa.X
open Go.RowKit Go.Proofs.YtljobjpldbdhoaaW.PrintWords Go.Proofs.YtljobjpldbdhoaaW.PrintLast Go.Proofs.YtljobjpldbdhoaaW.PrintMore
attribute [local go_sem] max2_int min2_int max_two min_two max_three min_three max_four min_four
set_option linter.unusedVariables false
set_option linter.unusedSimpArgs false

section
/-- A colour's bytes; all colours'. -/
def px4 (p : Pix) : List Int := [p.f0 % 256, p.f1 % 256, p.f2 % 256, p.f3 % 256]
def pxs (l : List Pix) : List Int := l.flatMap px4
def rasL (wd hg : Int) (l : List Pix) : List Int := [wd % 256, hg % 256] ++ pxs l
theorem pxs_len (l : List Pix) : (pxs l).length = 4 * l.length := by
  induction l with
  | nil => rfl
  | cons p l ih => rw [pxs, List.flatMap_cons, List.length_append]; show 4 + (pxs l).length = _; rw [ih, List.length_cons]; omega
theorem pixBytes_eq (l0 : List Int) (p : Pix) (h : l0.length ≤ 100000) : impl_pixBytes.f l0 p.f0 p.f1 p.f2 p.f3 = some (l0 ++ px4 p) := by
  unfold impl_pixBytes.f
  simp only [Option.bind_some, List.length_cons, List.length_nil]
  rw [if_pos (by omega)]
  rfl
/-- The block of the picture that one reads. -/
def PicBlk (w : World) (b : Nat) (wd hg : Int) (A : Option Addr) (n c : Nat) : Prop := w.heap[b]? = some (.cells #[.int .i64 wd, .int .i64 hg, .slice A n c] 25 (0, 0))
theorem take_next (l : List Pix) (i : Nat) (h : i < l.length) : pxs (l.take (i + 1)) = pxs (l.take i) ++ px4 (rd_T53 l (i : Int)) := by
  rw [List.take_add_one, pxs, List.flatMap_append, List.getElem?_eq_getElem h]
  simp [rd_T53, h, pxs]
set_option maxHeartbeats 8000000 in
set_option maxRecDepth 100000 in
theorem rasBytes_walk (k : Nat) (wd hg : Nat) (hw0 : 1 ≤ wd) (hw1 : wd ≤ 6) (hh0 : 1 ≤ hg) (hh1 : hg ≤ 6) (A : Option Addr) (c : Nat) (l : List Pix) (hl : l.length = wd * hg) (w : World) (hr : Kd.C kPix w A l.length l) (hc : l.length ≤ c) (hok : impl_RasOk.f k (wd : Int) (hg : Int) l = some true) :
    Calls Try.prog 88 #[.agg #[.int .i64 wd, .int .i64 hg, .slice A l.length c]] w fun e w' => ∃ v, e = .returned v ∧ Kd.R (Kd.int .u8) 5 w' w.heap.size (fun _ => True) v (rasL wd hg l) ∧ Below w.heap.size w w' := by
  obtain ⟨n, hn⟩ : ∃ n, n = l.length := ⟨_, rfl⟩
  have hn1 : 1 ≤ n := by rw [hn, hl]; exact Nat.mul_le_mul hw0 hh0
  have hn2 : n ≤ 36 := by rw [hn, hl]; exact Nat.mul_le_mul hw1 hh1
  have HR := Aside0.mk hr; have HCc := Aside0.mk hc; have HOK := Aside0.mk hok; have HL := Aside0.mk hl; have HN := Aside0.mk hn
  clear hr hc hok hl
  have e1 : wrap64 (4 * (n : Int)) = 4 * (n : Int) := by unfold wrap64; omega
  have e2 : wrap64 (2 + 4 * (n : Int)) = 2 + 4 * (n : Int) := by unfold wrap64; omega
  rw [← hn]
  clear hn
  have HW := Aside0.mk hw0; have HW1 := Aside0.mk hw1; have HH := Aside0.mk hh0; have HH1 := Aside0.mk hh1; have HN1 := Aside0.mk hn1; have HN2 := Aside0.mk hn2
  clear hw0 hw1 hh0 hh1 hn1 hn2
  have hu := Try.underlying25
  have hup := Try.underlying53
  have hz : ∀ W : World, (zeroValue 53).run Try.prog W = .ok (.agg #[.int .i64 0, .int .i64 0, .int .i64 0, .int .i64 0]) W := fun W => (by kernel_rfl)
  go_enter Try.func88, Try.ntmps88
  go_wp2_with (first
    | ((with_reducible refine gd_ 1 rfl ?_); refine bx_ 1 rfl #[.int .i64 wd, .int .i64 hg, .slice A n c] 25 ?_; intro b1 hg_ w2 hbox hb; have HX2 := Aside0.mk hbox; have HB2 := Aside0.mk hb; have HG := Aside0.mk hg_; obtain ⟨x0, x1, x2⟩ := cc3_ hbox; clear hb hbox hg_)
    | (go_at_call 18; rw [HN.out]; refine (impl_RasOk.calls k wd hg A c l true _ (Kd.C_below HR.out HB2.out) HCc.out HOK.out).mono ?_; rw [← HN.out]; rintro e w3 ⟨rfl, hb⟩; have HX3 := Aside0.mk (blk_below HX2.out hb); have HB3 := Aside0.mk (below_step HB2.out hb); clear x0 x1 x2 hb; obtain ⟨x0, x1, x2⟩ := cc3_ HX3.out)
    | ((with_reducible refine gd_ 15 rfl ?_); refine Kd.R_make0 (Kd.int .u8) _ 5 rfl (N := 15) rfl 22 _ _ rfl _ rfl rfl Try.underlying22 (.int .u8 0) 1 info5 rfl (by decide) (by omega) 0 (ok := fun k => b1 < k) (okp := fun _ => False) rfl (fun _ hk => hk.elim) (blk_lt HX3.out) (by first | (rw [e2]; omega) | (simp only [e1, e2]; omega)) (by have := HN2.out; first | (rw [e2]; omega) | (simp only [e1, e2]; omega)) (Below.refl _ _) (Nat.le_refl _) ?_; intro v3 w4 ho hb hg_ hnew_; clear hg_ hnew_; have HX4 := Aside0.mk (blk_below HX3.out hb); have HF4 := Aside0.mk (Kd.R_lower ho HB3.out.size); have HB4 := Aside0.mk (below_step HB3.out hb); clear x0 x1 x2; obtain ⟨x0, x1, x2⟩ := cc3_ HX4.out; clear ho hb)
    | ((with_reducible refine gd_ 23 rfl ?_); refine Kd.R_lit (Kd.int .u8) _ 5 ?hg (N := 23) ?hd (xs := ([(wd : Int) % 256, (hg : Int) % 256] : List Int)) (inner := [.int .u8 ((wd : Int) % 256), .int .u8 ((hg : Int) % 256)]) (ok := fun _ => True) (okp := fun _ => True) ?hr ?hp (fun _ hk => hk) trivial (Below.refl _ _) (Nat.le_refl _) (by simp) ?_; (case hd => rfl); (case hg => rfl); (case hr => first | (go_simp; done) | (go_simp; rfl)); (case hp => exact (Reps.one (show Kd.M (Kd.int .u8) _ _ _ ((wd : Int) % 256) [.int .u8 ((wd : Int) % 256)] from rfl) (Reps.one (show Kd.M (Kd.int .u8) _ _ _ ((hg : Int) % 256) [.int .u8 ((hg : Int) % 256)] from rfl) (Reps.none _ _)))); intro v23 w5 ho hb hg_ hnew_; clear hg_ hnew_; have HX5 := Aside0.mk (blk_below HX4.out hb); have HF5 := Aside0.mk (Kd.R_below HF4.out hb); have HL5 := Aside0.mk ho; have HB5 := Aside0.mk (below_step HB4.out hb); obtain ⟨A23, c23, e23⟩ := Kd.R_slice HL5.out; subst e23; clear x0 x1 x2; obtain ⟨x0, x1, x2⟩ := cc3_ HX5.out; clear ho hb)
    | ((with_reducible refine gate_builtin (b := .append) (xs := #[.tmp 16, .tmp 23]) rfl ?_); at_builtin; refine Kd.R_append_rows (Kd.int .u8) (w0 := w) w.heap.size rfl (.tmp 16) (.tmp 23) 22 5 (.int .u8 0) 1 rfl Try.underlying22 info5 rfl (by decide) (by omega) v3 [] ([(wd : Int) % 256, (hg : Int) % 256] : List Int) _ _ _ (fun k => b1 < k) (fun _ => False) rfl rfl HF5.out ((Kd.R_reads' HL5.out).2.2) (fun _ _ h => h) (fun _ h => h.elim) (fun k_ hk => Nat.lt_of_lt_of_le (blk_lt HX5.out) hk) HB5.out HB5.out.size (by simp) ?_; intro v24 w6 ho hb hg_ hat; have HX6 := Aside0.mk (blk_grown HX5.out hg_ (Kd.R_ne HF5.out HX5.out (by decide))); have HF6 := Aside0.mk ho; have HB6 := Aside0.mk hb; clear x0 x1 x2; obtain ⟨x0, x1, x2⟩ := cc3_ HX6.out; clear ho hb hg_ hat))
  clear x0 x1 x2
  go_loopw [27, 3] (fun v u wr => ∃ (y : Nat), y ≤ hg ∧ v = .int .i64 y ∧ Aside0 (Kd.R (Kd.int .u8) 5 wr w.heap.size (fun k => b1 < k) u (([(wd : Int) % 256, (hg : Int) % 256] : List Int) ++ pxs (l.take (y * wd)))) ∧ Aside0 (Below w.heap.size w wr) ∧ Aside0 (PicBlk wr b1 wd hg A n c)) (fun v _ _ => hg - (intOf v).toNat)
  case atStart => exact ⟨0, Nat.zero_le _, rfl, Aside0.mk (by rw [Nat.zero_mul, List.take_zero]; exact HF6.out), HB6, ⟨HX6.out⟩⟩
  case round =>
    clear HX2 HB2 HX3 HB3 HX4 HF4 HB4 HX5 HF5 HL5 HB5 HX6 HF6 HB6
    obtain ⟨y, hy, rfl, HF, HB, HX⟩ := hrel
    obtain ⟨x0, x1, x2⟩ := cc3_ HX.out
    by_cases hlt : (y : Int) < (hg : Int)
    · have hlt' : y < hg := by omega
      have hh1 := HH1.out; have hw1 := HW1.out; have hw0 := HW.out; have hn2 := HN2.out
      have HY1 := Aside0.mk (mul_w (a := y) (b := wd) (by omega) (by omega))
      have HY2 := Aside0.mk (mul_w1 (a := y) (b := wd) (by omega) (by omega))
      have h1 : (y + 1) * wd ≤ hg * wd := Nat.mul_le_mul_right _ (by omega)
      have h2 : (y + 1) * wd = y * wd + wd := by rw [Nat.add_mul, Nat.one_mul]
      have h3 : hg * wd = n := by rw [HN.out, HL.out, Nat.mul_comm]
      obtain ⟨a, ha⟩ : ∃ a, a = y * wd := ⟨_, rfl⟩
      obtain ⟨b, hb⟩ : ∃ b, b = (y + 1) * wd := ⟨_, rfl⟩
      rw [← ha] at HY1 h2 HF
      rw [← hb] at HY2 h1 h2
      have HA := Aside0.mk ha; have HBB := Aside0.mk hb
      have hcn : n ≤ c := by rw [HN.out]; exact HCc.out
      obtain ⟨iP, hiP, hsP⟩ := infoPix
      have hcut := cut_mid (P := Try.prog) 93 53 .i64 .i64 Try.underlying93 hiP 4 hsP A n c (a : Int) (b : Int) (by omega) (by omega) (by omega) hcn
      have hmid : ∀ W : World, Below w.heap.size w W → Kd.C kPix W (if c = a then A else A.map (·.add (a * 4))) wd ((l.take b).drop a) := fun W hW => by
        have h := Kd.C_mid (lo := a) (hi := b) (c := c) (Kd.C_below HR.out hW) (by omega) (by rw [← HN.out]; omega) HCc.out
        have e : ((l.take b).drop a).length = wd := by have := HN.out; rw [List.length_drop, List.length_take]; omega
        rw [e] at h
        exact h
      obtain ⟨A', hA'⟩ : ∃ A', A' = (if c = a then A else A.map (·.add (a * 4))) := ⟨_, rfl⟩
      rw [← hA'] at hmid
      have HC : Aside0 (∀ W : World, (Instr.slice 93 (.slice A n c) (some (.int .i64 (a : Int))) (some (.int .i64 (b : Int))) none).run Try.prog W = .ok (.slice A' wd (c - a)) W) := ⟨fun W => by
        rw [hcut W]
        simp only [Int.toNat_natCast]
        rw [← hA', show b - a = wd by omega]⟩
      have HM := Aside0.mk hmid
      have Ha : Aside0 (a + wd ≤ n) := ⟨by omega⟩
      clear hh1 hw1 hw0 hn2 h1 h2 h3 ha hb hcn hiP hsP hcut hmid hA'
      go_wp2_with (go_at_call 70; refine (row_walk A A' n c wd (c - a) y wd _ _ HY1.out HY2.out (by omega) (by have := HH1.out; omega) HC.out _).mono ?_; rintro e w' ⟨rfl, rfl⟩)
      clear x0 x1 x2
      go_loopw [37, 3] (fun v u wr' => ∃ (x : Nat), x ≤ wd ∧ v = .int .i64 x ∧ Aside0 (Kd.R (Kd.int .u8) 5 wr' w.heap.size (fun k => b1 < k) u (([(wd : Int) % 256, (hg : Int) % 256] : List Int) ++ pxs (l.take (a + x)))) ∧ Aside0 (Below w.heap.size w wr') ∧ Aside0 (PicBlk wr' b1 wd hg A n c)) (fun v _ _ => wd - (intOf v).toNat)
      case atStart => exact ⟨0, Nat.zero_le _, rfl, HF, HB, HX⟩
      case round =>
        clear HF HB HX
        obtain ⟨x, hx, rfl, HF, HB, HX⟩ := hrel
        by_cases hlx : (x : Int) < (wd : Int)
        · have hlx' : x < wd := by omega
          obtain ⟨ad, had, q0, q1, q2, q3⟩ := at_T53 (HM.out _ HB.out) (x : Int) (by omega) (by omega)
          have hp : rd_T53 ((l.take b).drop a) (x : Int) = rd_T53 l ((a + x : Nat) : Int) := by
            have hb : b = a + wd := by rw [HBB.out, Nat.add_mul, Nat.one_mul, HA.out]
            unfold rd_T53
            rw [List.getD_eq_getElem?_getD, List.getD_eq_getElem?_getD, Int.toNat_natCast, Int.toNat_natCast, List.getElem?_drop, List.getElem?_take, if_pos (by omega)]
          rw [hp] at q0 q1 q2 q3
          obtain ⟨p, hpp⟩ : ∃ p, p = rd_T53 l ((a + x : Nat) : Int) := ⟨_, rfl⟩
          rw [← hpp] at q0 q1 q2 q3
          have HP := Aside0.mk hpp
          subst had
          clear hpp hp
          simp only [Int.toNat_natCast] at q0 q1 q2 q3
          go_upto_region 11 with ((with_reducible refine gd_ 6 rfl ?_); refine bx_ 6 rfl #[.int .i64 0, .int .i64 0, .int .i64 0, .int .i64 0] 53 ?_; intro b6 hg6 w7 hbox hb; have HX7 := Aside0.mk (blk_below HX.out hb); have HF7 := Aside0.mk (Kd.R_below (Kd.R_elderB HF.out b6 (Nat.le_of_eq hg6.symm)) hb); have HB7 := Aside0.mk (below_step HB.out hb); have H67 := Aside0.mk hbox; have HG6 := Aside0.mk (show w.heap.size ≤ b6 by rw [hg6]; exact HB.out.size); have H16 := Aside0.mk (show b1 < b6 by rw [hg6]; exact blk_lt HX.out); obtain ⟨y0, y1, y2, y3⟩ := cc4_ hbox; obtain ⟨f0, f1, f2, f3⟩ := cf4_ hbox; clear hb hbox hg6)
          generalize hw8 : (((w7.setCell ⟨b6, 0, none⟩ (.int .i64 p.f0)).setCell ⟨b6, 1, none⟩ (.int .i64 p.f1)).setCell ⟨b6, 2, none⟩ (.int .i64 p.f2)).setCell ⟨b6, 3, none⟩ (.int .i64 p.f3) = w8
          have H8 : Aside0 (w8.heap[b6]? = some (.cells #[.int .i64 p.f0, .int .i64 p.f1, .int .i64 p.f2, .int .i64 p.f3] 53 (0, 0))) := ⟨by rw [← hw8]; exact blk_set (blk_set (blk_set (blk_set H67.out 0 _) 1 _) 2 _) 3 _⟩
          have HF8 : Aside0 (Kd.R (Kd.int .u8) 5 w8 w.heap.size (fun k => b1 < k) u3 (([(wd : Int) % 256, (hg : Int) % 256] : List Int) ++ pxs (l.take (a + x)))) := ⟨by
            rw [← hw8]
            have far : ∀ j : Nat, (b1 < j ∧ j ≠ b6) → j ≠ b6 := fun j hj => hj.2
            exact Kd.R_mono (Kd.R_far (p := ⟨b6, 3, none⟩) (Kd.R_far (p := ⟨b6, 2, none⟩) (Kd.R_far (p := ⟨b6, 1, none⟩) (Kd.R_far (p := ⟨b6, 0, none⟩) HF7.out far _) far _) far _) far _) (fun _ h => h.1)⟩
          have HB8 : Aside0 (Below w.heap.size w w8) := ⟨by
            rw [← hw8]
            exact (((HB7.out.setCell (p := ⟨b6, 0, none⟩) HG6.out _).setCell (p := ⟨b6, 1, none⟩) HG6.out _).setCell (p := ⟨b6, 2, none⟩) HG6.out _).setCell (p := ⟨b6, 3, none⟩) HG6.out _⟩
          have HX8 : Aside0 (PicBlk w8 b1 wd hg A n c) := ⟨by
            rw [← hw8]
            have ne : b1 ≠ b6 := Nat.ne_of_lt H16.out
            exact blk_far (p := ⟨b6, 3, none⟩) (blk_far (p := ⟨b6, 2, none⟩) (blk_far (p := ⟨b6, 1, none⟩) (blk_far (p := ⟨b6, 0, none⟩) HX7.out ne _) ne _) ne _) ne _⟩
          clear hw8 y0 y1 y2 y3 f0 f1 f2 f3 q0 q1 q2 q3
          obtain ⟨y0, y1, y2, y3⟩ := cc4_ H8.out
          have hw1 := HW1.out
          go_wp2_with (go_at_call 89; refine (impl_pixBytes.calls (fun k => b1 < k) u3 _ p.f0 p.f1 p.f2 p.f3 _ w _ HB8.out HF8.out (pixBytes_eq _ p (by have := Ha.out; have := HN2.out; rw [List.length_append, pxs_len, List.length_take, List.length_cons, List.length_cons, List.length_nil]; omega))).mono ?_; rintro e w9 ⟨v9, rfl, hR, hb, hk⟩; have HF9 := Aside0.mk hR; have HB9 := Aside0.mk hb; have HK9 := Aside0.mk hk; clear hR hb hk)
          refine ⟨⟨x + 1, hlx', rfl, ⟨?_⟩, HB9, ⟨?_⟩⟩, by simp [intOf]; omega⟩
          · have h := Kd.R_mono (ok' := fun k => b1 < k) HF9.out (fun k hk => hk.elim (fun h => h) (fun h => Nat.lt_of_lt_of_le (blk_lt HX8.out) h))
            rw [HP.out, List.append_assoc, ← take_next l (a + x) (by have := Ha.out; have := HN.out; omega)] at h
            exact h
          · exact (HK9.out.2 b1 (blk_lt HX8.out) (Nat.lt_irrefl _)).trans HX8.out
        · obtain rfl : x = wd := by omega
          have hh1 := HH1.out
          go_wp2
          refine ⟨⟨y + 1, hlt', rfl, Aside0.mk ?_, HB, HX⟩, by simp [intOf]; omega⟩
          have hb : (y + 1) * x = a + x := by rw [Nat.add_mul, Nat.one_mul, HA.out]
          rw [hb]
          exact HF.out
    · obtain rfl : y = hg := by omega
      go_wp2
      go_ret
      refine ⟨u3, rfl, ?_, HB.out⟩
      have e : l.take (y * wd) = l := List.take_of_length_le (by rw [HL.out, Nat.mul_comm]; exact Nat.le_refl _)
      have h := HF.out
      rw [e] at h
      exact Kd.R_mono h (fun _ _ => trivial)
end
end Go.Proofs.Ytljobjpldbdhoaa.X
namespace Go.Proofs.Ytljobjpldbdhoaa.Pl
open Go.RowKit Go.Proofs.YtljobjpldbdhoaaW.PrintWords

theorem wrap_id {x : Int} (h0 : -9223372036854775808 ≤ x) (h1 : x ≤ 9223372036854775807) : wrap64 x = x := by
  unfold wrap64; omega
theorem wrap_succ {i : Nat} (h : i < 9223372036854775807) : wrap64 ((i : Int) + 1) = ((i + 1 : Nat) : Int) := by
  unfold wrap64; omega

/-- From a round on: with a round more. -/
theorem ev_succ {α : Type} {g : Nat → Option α} {r : α} (h : Ev (fun k => g (k + 1)) r) : Ev g r := by
  obtain ⟨K, h⟩ := h
  refine ⟨K + 1, fun n hn => ?_⟩
  obtain ⟨m, rfl⟩ : ∃ m, n = m + 1 := ⟨n - 1, by omega⟩
  exact h m (by omega)

theorem getD_mem {α : Type} (l : List α) (z : α) (i : Nat) (h : i < l.length) : l.getD i z ∈ l := by
  rw [List.getD_eq_getElem?_getD, List.getElem?_eq_getElem h]; exact List.getElem_mem h

/-- A loop that asks something at each place, and stops with a no. -/
theorem ev_allR (n : Nat) (p : Nat → Bool) (b : Bool) (g : Nat → Int → Option Bool)
    (hyes : ∀ i, i < n → p i = true → ∀ r, Ev (fun k => g k ((i + 1 : Nat) : Int)) r → Ev (fun k => g k (i : Int)) r)
    (hno : ∀ i, i < n → p i = false → Ev (fun k => g k (i : Int)) false)
    (hend : Ev (fun k => g k (n : Int)) b) : Ev (fun k => g k 0) ((List.range n).all p && b) := by
  have key : ∀ d i, i + d = n → Ev (fun k => g k (i : Int)) (((List.range' i d).all p) && b) := by
    intro d
    induction d with
    | zero => intro i hi; have : i = n := by omega
              subst this; simpa using hend
    | succ d ih =>
      intro i hi
      have := ih (i + 1) (by omega)
      rw [List.range'_succ, List.all_cons]
      cases hp : p i with
      | true => simpa using hyes i (by omega) hp _ this
      | false => simpa using hno i (by omega) hp
  have := key n 0 (by omega)
  rwa [← List.range_eq_range'] at this

/-- From a number of rounds on, through a step. -/
theorem Ev.at_ {α : Type} {g : Nat → Option α} {r : α} (h : Ev g r) : ∃ K, ∀ k, K ≤ k → g k = some r := h
theorem ev_const {α : Type} {x : Option α} {r : α} (h : x = some r) : Ev (fun _ => x) r := ⟨0, fun _ _ => h⟩

/-! ### What a told function comes to, from some number of rounds on -/
/-- It answers, and the answer is so. -/
def Tot {α : Type} (g : Nat → Option α) (post : α → Prop) : Prop := ∃ r, Ev g r ∧ post r
theorem Tot.ret {α : Type} {post : α → Prop} {r : α} (h : post r) : Tot (fun _ => some r) post := ⟨r, Ev.now r, h⟩
theorem Tot.mono {α : Type} {g : Nat → Option α} {P Q : α → Prop} (h : Tot g P) (hi : ∀ r, P r → Q r) : Tot g Q := by
  obtain ⟨r, h, hp⟩ := h
  exact ⟨r, h, hi r hp⟩
theorem Tot.bind {α β : Type} {g : Nat → Option α} {f : Nat → α → Option β} {P : α → Prop} {Q : β → Prop} (h : Tot g P) (hf : ∀ a, P a → Tot (fun k => f k a) Q) : Tot (fun k => (g k).bind (f k)) Q := by
  obtain ⟨a, h, hp⟩ := h
  obtain ⟨r, h2, hq⟩ := hf a hp
  exact ⟨r, Ev.bind h h2, hq⟩
theorem Tot.some_bind {α β : Type} {f : Nat → α → Option β} {Q : β → Prop} {a : α} (hf : Tot (fun k => f k a) Q) : Tot (fun k => (some a).bind (f k)) Q := hf
theorem Tot.ite {α : Type} {c : Prop} [Decidable c] {f g : Nat → Option α} {Q : α → Prop} (h1 : c → Tot f Q) (h2 : ¬ c → Tot g Q) : Tot (fun k => if c then f k else g k) Q := by
  by_cases h : c
  · simpa [h] using h1 h
  · simpa [h] using h2 h
theorem Tot.pos {α : Type} {c : Prop} [Decidable c] {f g : Nat → Option α} {Q : α → Prop} (h : c) (h1 : Tot f Q) : Tot (fun k => if c then f k else g k) Q := by simpa [h] using h1
theorem Tot.neg {α : Type} {c : Prop} [Decidable c] {f g : Nat → Option α} {Q : α → Prop} (h : ¬ c) (h1 : Tot g Q) : Tot (fun k => if c then f k else g k) Q := by simpa [h] using h1
theorem Tot.succ {α : Type} {g : Nat → Option α} {Q : α → Prop} (h : Tot (fun k => g (k + 1)) Q) : Tot g Q := by
  obtain ⟨r, h, hp⟩ := h
  exact ⟨r, ev_succ h, hp⟩
theorem Tot.of_ev {α : Type} {g : Nat → Option α} {r : α} (h : Ev g r) : Tot g (fun x => x = r) := ⟨r, h, rfl⟩
theorem Tot.of_eq {α : Type} {x : Option α} {r : α} (h : x = some r) : Tot (fun _ => x) (fun y => y = r) := ⟨r, ev_const h, rfl⟩
/-- A loop, or a call of itself: what is smaller comes to its answer. -/
theorem tot_ind {α σ : Type} (g : Nat → σ → Option α) (Inv : σ → Prop) (m : σ → Nat) (post : α → Prop)
    (h : ∀ s, Inv s → (∀ s', Inv s' → m s' < m s → Tot (fun k => g k s') post) → Tot (fun k => g k s) post) : ∀ s, Inv s → Tot (fun k => g k s) post := by
  have key : ∀ d s, m s < d → Inv s → Tot (fun k => g k s) post := by
    intro d
    induction d with
    | zero => intro s h; omega
    | succ d ih => intro s hd hs; exact h s hs (fun s' hs' hm => ih s' (by omega) hs')
  intro s hs
  exact key (m s + 1) s (by omega) hs
theorem Tot.rounds {g : Nat → Option Bool} (h : Tot g (fun b => b = true)) : ∃ k, g k = some true := by
  obtain ⟨r, h, rfl⟩ := h
  exact h.rounds

end Go.Proofs.Ytljobjpldbdhoaa.Pl
namespace Go.Proofs.Ytljobjpldbdhoaa.X
open Go.RowKit Go.Proofs.YtljobjpldbdhoaaW.PrintWords Go.Proofs.Ytljobjpldbdhoaa.Pl
set_option linter.unusedSimpArgs false
set_option linter.unusedVariables false
def OkP (p : Pix) : Prop := (0 ≤ p.f0 ∧ p.f0 ≤ 255) ∧ (0 ≤ p.f1 ∧ p.f1 ≤ 255) ∧ (0 ≤ p.f2 ∧ p.f2 ≤ 255) ∧ (0 ≤ p.f3 ∧ p.f3 ≤ 255)
def Valid (wd hg : Nat) (l : List Pix) : Prop := (1 ≤ wd ∧ wd ≤ 6) ∧ (1 ≤ hg ∧ hg ≤ 6) ∧ l.length = wd * hg ∧ ∀ p ∈ l, OkP p
theorem l1In_some (a b c : Int) : spec_l1In.f a b c = some (decide (b ≤ a ∧ a ≤ c)) := by
  unfold spec_l1In.f
  by_cases h : b ≤ a <;> simp [h]
theorem sizeOk_some (a : Int) : impl_sizeOk.f a = some (decide (1 ≤ a ∧ a ≤ 6)) := by
  unfold impl_sizeOk.f
  by_cases h : 1 ≤ a <;> simp [h]
theorem partOk_some (a : Int) : impl_partOk.f a = some (decide (0 ≤ a ∧ a ≤ 255)) := by
  unfold impl_partOk.f
  by_cases h : 0 ≤ a <;> simp [h]

/-! ### Pictures -/
def okPB (p : Pix) : Bool := decide (0 ≤ p.f0 ∧ p.f0 ≤ 255) && (decide (0 ≤ p.f1 ∧ p.f1 ≤ 255) && (decide (0 ≤ p.f2 ∧ p.f2 ≤ 255) && decide (0 ≤ p.f3 ∧ p.f3 ≤ 255)))
theorem okPB_iff (p : Pix) : okPB p = true ↔ OkP p := by unfold okPB OkP; simp [and_assoc]
theorem impl_PixOk_some (a b c d : Int) : impl_PixOk.f a b c d = some (okPB ⟨a, b, c, d⟩) := by
  unfold impl_PixOk.f okPB
  simp only [partOk_some, Option.bind_some]
  by_cases p : 0 ≤ a ∧ a ≤ 255 <;> by_cases q : 0 ≤ b ∧ b ≤ 255 <;> by_cases r : 0 ≤ c ∧ c ≤ 255 <;> simp [p, q, r]
theorem spec_PixOk_some (a b c d : Int) : spec_PixOk.f a b c d = some (okPB ⟨a, b, c, d⟩) := by
  unfold spec_PixOk.f okPB
  simp only [l1In_some, Option.bind_some]
  by_cases p : 0 ≤ a ∧ a ≤ 255 <;> by_cases q : 0 ≤ b ∧ b ≤ 255 <;> by_cases r : 0 ≤ c ∧ c ≤ 255 <;> simp [p, q, r]
def pAt (l : List Pix) (i : Nat) : Pix := rd_T53 l (i : Int)
def rasOkB (a b : Int) (l : List Pix) : Bool := decide (1 ≤ a ∧ a ≤ 6) && (decide (1 ≤ b ∧ b ≤ 6) && (decide ((l.length : Int) = a * b) && (List.range l.length).all fun i => okPB (pAt l i)))
theorem mul36 {a b : Int} (ha : 1 ≤ a ∧ a ≤ 6) (hb : 1 ≤ b ∧ b ≤ 6) : 1 ≤ a * b ∧ a * b ≤ 36 := by
  have h1 : (1 : Int) * 1 ≤ a * b := Int.mul_le_mul ha.1 hb.1 (by omega) (by omega)
  have h2 : a * b ≤ 6 * 6 := Int.mul_le_mul ha.2 hb.2 (by omega) (by omega)
  omega
theorem impl_RasOk_ev (a b : Int) (l : List Pix) : Ev (fun k => impl_RasOk.f k a b l) (rasOkB a b l) := by
  by_cases ha : 1 ≤ a ∧ a ≤ 6
  · by_cases hb : 1 ≤ b ∧ b ≤ 6
    · have hm := mul36 ha hb
      have hw : wrap64 (a * b) = a * b := wrap_id (by omega) (by omega)
      by_cases hl : (l.length : Int) = a * b
      · have := ev_allR l.length (fun i => okPB (pAt l i)) true (fun k i => impl_RasOk.l0 k l (l.length : Int) i) ?_ ?_ ?_
        · have e : rasOkB a b l = ((List.range l.length).all (fun i => okPB (pAt l i)) && true) := by
            unfold rasOkB
            simp [ha, hb, hl]
          rw [e]
          refine Ev.step (fun k => ?_) this
          unfold impl_RasOk.f
          simp only [sizeOk_some, ha, hb, and_self, decide_true, Option.bind_some, if_true, impl_RasOk.j0, hw, hl, bne_self_eq_false, Bool.false_eq_true, if_false]
        · intro i hi hp r h
          refine Ev.step (fun k => ?_) h
          simp only [impl_RasOk.l0]
          rw [if_pos (by omega), if_pos (by omega), if_pos (by omega), impl_PixOk_some]
          simp only [Option.bind_some]
          rw [if_pos (show okPB ⟨(rd_T53 l (i : Int)).f0, (rd_T53 l (i : Int)).f1, (rd_T53 l (i : Int)).f2, (rd_T53 l (i : Int)).f3⟩ = true from hp), wrap_succ (by omega)]
        · intro i hi hp
          refine ev_succ ⟨0, fun k _ => ?_⟩
          simp only [impl_RasOk.l0]
          rw [if_pos (by omega), if_pos (by omega), if_pos (by omega), impl_PixOk_some]
          simp only [Option.bind_some]
          rw [if_neg (show ¬ okPB ⟨(rd_T53 l (i : Int)).f0, (rd_T53 l (i : Int)).f1, (rd_T53 l (i : Int)).f2, (rd_T53 l (i : Int)).f3⟩ = true from by rw [show okPB ⟨(rd_T53 l (i : Int)).f0, (rd_T53 l (i : Int)).f1, (rd_T53 l (i : Int)).f2, (rd_T53 l (i : Int)).f3⟩ = false from hp]; decide)]
        · refine ev_succ ⟨0, fun k _ => ?_⟩
          simp only [impl_RasOk.l0]
          rw [if_neg (by omega)]
      · have e : rasOkB a b l = false := by unfold rasOkB; simp [hl]
        rw [e]
        refine ev_succ ⟨0, fun k _ => ?_⟩
        have hl' : ((l.length : Int) != a * b) = true := by simpa using hl
        unfold impl_RasOk.f
        simp only [sizeOk_some, ha, hb, and_self, decide_true, Option.bind_some, if_true, impl_RasOk.j0, hw, hl']
    · have e : rasOkB a b l = false := by unfold rasOkB; simp only [hb, decide_false, Bool.false_and, Bool.and_false]
      rw [e]
      refine ev_succ ⟨0, fun k _ => ?_⟩
      unfold impl_RasOk.f
      simp [sizeOk_some, ha, hb, impl_RasOk.j0]
  · have e : rasOkB a b l = false := by unfold rasOkB; simp only [ha, decide_false, Bool.false_and]
    rw [e]
    refine ev_succ ⟨0, fun k _ => ?_⟩
    unfold impl_RasOk.f
    simp only [sizeOk_some, ha, decide_false, Option.bind_some, impl_RasOk.j0, Bool.false_eq_true, if_false, if_true]
theorem spec_RasOk_ev (a b : Int) (l : List Pix) : Ev (fun k => spec_RasOk.f k a b l) (rasOkB a b l) := by
  by_cases ha : 1 ≤ a ∧ a ≤ 6
  · by_cases hb : 1 ≤ b ∧ b ≤ 6
    · have hm := mul36 ha hb
      have hw : wrap64 (a * b) = a * b := wrap_id (by omega) (by omega)
      by_cases hl : (l.length : Int) = a * b
      · have := ev_allR l.length (fun i => okPB (pAt l i)) true (fun k i => spec_RasOk.l0 k i a b l) ?_ ?_ ?_
        · have e : rasOkB a b l = ((List.range l.length).all (fun i => okPB (pAt l i)) && true) := by
            unfold rasOkB
            simp [ha, hb, hl]
          rw [e]
          refine Ev.step (fun k => ?_) this
          unfold spec_RasOk.f
          simp only [l1In_some, ha, hb, and_self, decide_true, Option.bind_some, if_true, spec_RasOk.j0, hw, hl, bne_self_eq_false, Bool.false_eq_true, if_false]
        · intro i hi hp r h
          refine Ev.step (fun k => ?_) h
          simp only [spec_RasOk.l0]
          rw [if_pos (by omega), if_pos (by omega), spec_PixOk_some]
          simp only [Option.bind_some]
          rw [if_pos (show okPB ⟨(rd_T53 l (i : Int)).f0, (rd_T53 l (i : Int)).f1, (rd_T53 l (i : Int)).f2, (rd_T53 l (i : Int)).f3⟩ = true from hp), wrap_succ (by omega)]
        · intro i hi hp
          refine ev_succ ⟨0, fun k _ => ?_⟩
          simp only [spec_RasOk.l0]
          rw [if_pos (by omega), if_pos (by omega), spec_PixOk_some]
          simp only [Option.bind_some]
          rw [if_neg (show ¬ okPB ⟨(rd_T53 l (i : Int)).f0, (rd_T53 l (i : Int)).f1, (rd_T53 l (i : Int)).f2, (rd_T53 l (i : Int)).f3⟩ = true from by rw [show okPB ⟨(rd_T53 l (i : Int)).f0, (rd_T53 l (i : Int)).f1, (rd_T53 l (i : Int)).f2, (rd_T53 l (i : Int)).f3⟩ = false from hp]; decide)]
        · refine ev_succ ⟨0, fun k _ => ?_⟩
          simp only [spec_RasOk.l0]
          rw [if_neg (by omega)]
      · have e : rasOkB a b l = false := by unfold rasOkB; simp [hl]
        rw [e]
        refine ev_succ ⟨0, fun k _ => ?_⟩
        have hl' : ((l.length : Int) != a * b) = true := by simpa using hl
        unfold spec_RasOk.f
        simp only [l1In_some, ha, hb, and_self, decide_true, Option.bind_some, if_true, spec_RasOk.j0, hw, hl']
    · have e : rasOkB a b l = false := by unfold rasOkB; simp only [hb, decide_false, Bool.false_and, Bool.and_false]
      rw [e]
      refine ev_succ ⟨0, fun k _ => ?_⟩
      unfold spec_RasOk.f
      simp [l1In_some, ha, hb, spec_RasOk.j0]
  · have e : rasOkB a b l = false := by unfold rasOkB; simp only [ha, decide_false, Bool.false_and]
    rw [e]
    refine ev_succ ⟨0, fun k _ => ?_⟩
    unfold spec_RasOk.f
    simp only [l1In_some, ha, decide_false, Option.bind_some, spec_RasOk.j0, Bool.false_eq_true, if_false, if_true]
theorem rasOkB_iff (a b : Int) (l : List Pix) : rasOkB a b l = true ↔ ∃ wd hg : Nat, a = wd ∧ b = hg ∧ Valid wd hg l := by
  unfold rasOkB
  simp only [Bool.and_eq_true, decide_eq_true_eq, List.all_eq_true, List.mem_range]
  constructor
  · rintro ⟨h1, h2, h3, h4⟩
    refine ⟨a.toNat, b.toNat, by omega, by omega, ⟨by omega, by omega⟩, ⟨by omega, by omega⟩, ?_, fun p hp => ?_⟩
    · have e1 : (a.toNat : Int) = a := by omega
      have e2 : (b.toNat : Int) = b := by omega
      have : (l.length : Int) = ((a.toNat * b.toNat : Nat) : Int) := by rw [Int.natCast_mul, e1, e2]; exact h3
      omega
    · obtain ⟨i, hi, rfl⟩ := List.getElem_of_mem hp
      have := (okPB_iff _).1 (h4 i hi)
      unfold pAt rd_T53 at this
      rwa [List.getD_eq_getElem?_getD, Int.toNat_natCast, List.getElem?_eq_getElem hi] at this
  · rintro ⟨wd, hg, rfl, rfl, h1, h2, h3, h4⟩
    refine ⟨by omega, by omega, by rw [h3, Int.natCast_mul], fun i hi => ?_⟩
    rw [okPB_iff]
    unfold pAt rd_T53
    rw [List.getD_eq_getElem?_getD, Int.toNat_natCast, List.getElem?_eq_getElem hi]
    exact h4 _ (List.getElem_mem hi)
end Go.Proofs.Ytljobjpldbdhoaa.X
namespace Go.Proofs.Ytljobjpldbdhoaa.X
open Go.RowKit Go.Proofs.YtljobjpldbdhoaaW.PrintWords Go.Proofs.YtljobjpldbdhoaaW.PrintLast Go.Proofs.YtljobjpldbdhoaaW.PrintMore
attribute [local go_sem] max2_int min2_int max_two min_two max_three min_three max_four min_four
set_option linter.unusedVariables false
set_option linter.unusedSimpArgs false

section
def impl_RasBytes.f (k : Nat) (a0_0 : Int) (a0_1 : Int) (l0_2 : List (S53)) : Option (List Int) := (impl_RasOk.f k a0_0 a0_1 l0_2).bind fun ok => if ok = true then some (rasL a0_0 a0_1 l0_2) else some []
theorem rasOk_of {k : Nat} {a b : Int} {l : List (S53)} {v : Bool} (h : impl_RasOk.f k a b l = some v) : rasOkB a b l = v := by
 obtain ⟨K, hK⟩ := impl_RasOk_ev a b l
 obtain ⟨K2, hK2⟩ := Ev.of (impl_RasOk.mono a b l) (k := k) h
 have e := (hK (K + K2) (by omega)).symm.trans (hK2 (K + K2) (by omega))
 exact Option.some.inj e
set_option maxHeartbeats 8000000 in
set_option maxRecDepth 100000 in
theorem rasBytesN_calls (k : Nat) (a b : Int) (A : Option Addr) (c : Nat) (l : List (S53)) (w : World) (hr : Kd.C k53 w A l.length l) (hc : l.length ≤ c) (h : impl_RasOk.f k a b l = some false) :
  Calls Try.prog 88 #[.agg #[.int .i64 a, .int .i64 b, .slice A l.length c]] w fun e w' => e = .returned (.slice none 0 0) ∧ Below w.heap.size w w' := by
 have HR := Aside0.mk hr; have HC := Aside0.mk hc; have HOK := Aside0.mk h; clear hr hc h; have hu := Try.underlying25
 go_enter Try.func88, Try.ntmps88
 go_wp2_with (first
   | ((with_reducible refine gd_ 1 rfl ?_); refine bx_ 1 rfl #[.int .i64 a, .int .i64 b, .slice A l.length c] 25 ?_; intro b1 hg_ w2 hbox hb; have HB2 := Aside0.mk hb; obtain ⟨x0, x1, x2⟩ := cc3_ hbox; clear hb hbox hg_)
   | (go_at_call 18; refine (impl_RasOk.calls k a b A c l false _ (Kd.C_below HR.out HB2.out) HC.out HOK.out).mono ?_; rintro e w3 ⟨rfl, hb⟩; have HB3 := Aside0.mk (below_step HB2.out hb); clear x0 x1 x2 hb))
 go_ret
 exact ⟨rfl, HB3.out⟩
theorem impl_RasBytes.calls (k : Nat) (a0_0 : Int) (a0_1 : Int) (A0_2 : Option Addr) (c0_2 : Nat) (l0_2 : List (S53)) (r : List Int) (w : World) (hr0_2 : Kd.C k53 w A0_2 l0_2.length l0_2) (hc0_2 : l0_2.length ≤ c0_2) (h : impl_RasBytes.f k a0_0 a0_1 l0_2 = some r) :
  Calls Try.prog 88 #[.agg #[.int .i64 a0_0, .int .i64 a0_1, .slice A0_2 l0_2.length c0_2]] w fun e w' => ∃ v0_ : Value, e = .returned (v0_) ∧ Kd.R (Kd.int .u8) 5 w' w.heap.size (fun _ => True) v0_ r ∧ Below w.heap.size w w' := by
 unfold impl_RasBytes.f at h
 obtain ⟨ok, hok, h⟩ := Option.bind_eq_some_iff.1 h
 cases ok with
 | true =>
   rw [if_pos rfl] at h
   obtain rfl := Option.some.inj h; obtain ⟨wd, hg, rfl, rfl, ⟨w0, w1⟩, ⟨h0, h1⟩, hl, _⟩ := (rasOkB_iff _ _ _).1 (rasOk_of hok)
   exact rasBytes_walk k wd hg w0 w1 h0 h1 A0_2 c0_2 l0_2 hl w hr0_2 hc0_2 hok
 | false =>
   rw [if_neg (by decide)] at h
   obtain rfl := Option.some.inj h
   exact (rasBytesN_calls k _ _ A0_2 c0_2 l0_2 w hr0_2 hc0_2 hok).mono fun e w' ⟨he, hb⟩ => ⟨_, he, Kd.R_nil _ _ _ _ _, hb⟩
end
end Go.Proofs.Ytljobjpldbdhoaa.X
namespace Go.Proofs.Ytljobjpldbdhoaa.X
open Go.RowKit Go.Proofs.YtljobjpldbdhoaaW.PrintWords Go.Proofs.YtljobjpldbdhoaaW.PrintLast Go.Proofs.YtljobjpldbdhoaaW.PrintMore
set_option linter.unusedVariables false
set_option linter.unusedSimpArgs false
def pix (l : List Pix) (wd x y : Nat) : Pix := l.getD (y * wd + x) z53
theorem pixOf_has (A : Option Addr) (c : Nat) (wd hg : Nat) (l : List Pix) (w : World) (hC : Kd.C kPix w A l.length l) (hc : l.length ≤ c) (hl : l.length = wd * hg) (hw0 : 1 ≤ wd) (hw1 : wd ≤ 6) (hh1 : hg ≤ 6) (x y : Nat) (hx : x < wd) (hy : y < hg) :
    Calls Try.prog 60 #[.agg #[.int .i64 wd, .int .i64 hg, .slice A l.length c], .int .i64 x, .int .i64 y] w fun e w' => e = .returned (.agg #[.int .i64 (pix l wd x y).f0, .int .i64 (pix l wd x y).f1, .int .i64 (pix l wd x y).f2, .int .i64 (pix l wd x y).f3]) ∧ Below w.heap.size w w' := by
  have y1 : y ≤ 1000 := Nat.le_trans (Nat.le_of_lt (Nat.lt_of_lt_of_le hy hh1)) (by decide)
  have wd1 : wd ≤ 1000 := Nat.le_trans hw1 (by decide)
  have HM1 := Aside0.mk (mul_w (a := y) (b := wd) y1 wd1)
  have HM2 := Aside0.mk (mul_w1 (a := y) (b := wd) y1 wd1)
  obtain ⟨iP, hiP, hsP⟩ := infoPix
  have h1 : (y + 1) * wd ≤ hg * wd := Nat.mul_le_mul_right _ (by omega)
  have h2 : (y + 1) * wd = y * wd + wd := by rw [Nat.add_mul, Nat.one_mul]
  have h3 : hg * wd = l.length := by rw [hl, Nat.mul_comm]
  obtain ⟨a, ha⟩ : ∃ a, a = y * wd := ⟨_, rfl⟩
  obtain ⟨b, hb⟩ : ∃ b, b = (y + 1) * wd := ⟨_, rfl⟩
  rw [← ha] at HM1 h2
  rw [← hb] at HM2 h1 h2
  have hcut := cut_mid (P := Try.prog) 93 53 .i64 .i64 Try.underlying93 hiP 4 hsP A l.length c (a : Int) (b : Int) (by omega) (by omega) (by omega) hc
  have hr := Kd.C_mid (lo := a) (hi := b) (c := c) hC (by omega) (by omega) hc
  have hn : ((l.take b).drop a).length = wd := by rw [List.length_drop, List.length_take]; omega
  obtain ⟨ad, had, q0, q1, q2, q3⟩ := at_T53 hr (x : Int) (by omega) (by omega)
  have hp : rd_T53 ((l.take b).drop a) (x : Int) = pix l wd x y := by
    unfold rd_T53 pix
    rw [← ha, List.getD_eq_getElem?_getD, List.getD_eq_getElem?_getD, Int.toNat_natCast, List.getElem?_drop, List.getElem?_take, if_pos (by omega)]
  rw [hp] at q0 q1 q2 q3
  refine pixOf_walk A l.length c wd hg x y ad wd (c - a) _ _ HM1.out HM2.out (by omega) (by omega) (fun W => ?_) w (by omega) (by omega) (pix l wd x y) q0 q1 q2 q3
  rw [hcut W]
  simp only [Int.toNat_natCast] at had ⊢
  rw [← had, show b - a = wd by omega]
  rfl

theorem enter_any {f : FuncId} {fn : Func} {c : Code} (hf : Try.prog.funcs[f]? = some fn) (hname : (fn.name == "runtime.NumGoroutine") = false) (hb : fn.body = some c) (args : Array Value) (w : World) :
    (callFunc f args).run Try.prog w = .ok (.enter f args) w := by
  have h1 : fn.name ≠ "runtime.NumGoroutine" := by simpa using hname
  simp [callFunc, hf, h1, hb]
/-- A function value that tells a size of a picture; that tells a place of a picture's place. -/
def Sizes (w : World) (fv : Value) (wd hg W' H' : Nat) : Prop :=
  ∃ fn caps, fv = .func (.func fn) #[] caps ∧ (∀ (args : Array Value) (W : World), (callFunc fn args).run Try.prog W = .ok (.enter fn args) W) ∧ ∀ (W : World), Below w.heap.size w W → ∀ (A : Option Addr) (n c : Nat),
    Calls Try.prog fn (#[.agg #[.int .i64 wd, .int .i64 hg, .slice A n c]] ++ caps) W fun e w' => e = .returned (.tuple #[.int .i64 W', .int .i64 H']) ∧ Below W.heap.size W w'
def Froms (w : World) (fv : Value) (wd hg W' H' : Nat) (X Y : Nat → Nat → Nat) : Prop :=
  ∃ fn caps, fv = .func (.func fn) #[] caps ∧ (∀ (args : Array Value) (W : World), (callFunc fn args).run Try.prog W = .ok (.enter fn args) W) ∧ ∀ (W : World), Below w.heap.size w W → ∀ (A : Option Addr) (n c : Nat) (x y : Nat), x < W' → y < H' →
    Calls Try.prog fn (#[.agg #[.int .i64 wd, .int .i64 hg, .slice A n c], .int .i64 x, .int .i64 y] ++ caps) W fun e w' => e = .returned (.tuple #[.int .i64 (X x y), .int .i64 (Y x y)]) ∧ Below W.heap.size W w'
def Pixs (w : World) (fv : Value) (F : Pix → Pix) : Prop :=
  ∃ fn caps, fv = .func (.func fn) #[] caps ∧ (∀ (args : Array Value) (W : World), (callFunc fn args).run Try.prog W = .ok (.enter fn args) W) ∧ ∀ (W : World), Below w.heap.size w W → ∀ p : Pix,
    Calls Try.prog fn (#[.agg #[.int .i64 p.f0, .int .i64 p.f1, .int .i64 p.f2, .int .i64 p.f3]] ++ caps) W fun e w' => e = .returned (.agg #[.int .i64 (F p).f0, .int .i64 (F p).f1, .int .i64 (F p).f2, .int .i64 (F p).f3]) ∧ Below W.heap.size W w'
/-- A picture that one may read. -/
structure Pict (w : World) (wd hg : Nat) (A : Option Addr) (c : Nat) (l : List Pix) : Prop where
  rd : Kd.C kPix w A l.length l
  cap : l.length ≤ c
  len : l.length = wd * hg
  w0 : 1 ≤ wd
  w1 : wd ≤ 6
  h0 : 1 ≤ hg
  h1 : hg ≤ 6
theorem Pict.below {w W : World} {wd hg : Nat} {A : Option Addr} {c : Nat} {l : List Pix} (h : Pict w wd hg A c l) (hb : Below w.heap.size w W) : Pict W wd hg A c l :=
  ⟨Kd.C_below h.rd hb, h.cap, h.len, h.w0, h.w1, h.h0, h.h1⟩
theorem Pict.at_ {w : World} {wd hg : Nat} {A : Option Addr} {c : Nat} {l : List Pix} (h : Pict w wd hg A c l) (x y : Nat) (hx : x < wd) (hy : y < hg) :
    Calls Try.prog 60 #[.agg #[.int .i64 wd, .int .i64 hg, .slice A l.length c], .int .i64 x, .int .i64 y] w fun e w' => e = .returned (.agg #[.int .i64 (pix l wd x y).f0, .int .i64 (pix l wd x y).f1, .int .i64 (pix l wd x y).f2, .int .i64 (pix l wd x y).f3]) ∧ Below w.heap.size w w' :=
  pixOf_has A c wd hg l w h.rd h.cap h.len h.w0 h.w1 h.h1 x y hx hy

theorem below_made {W w1 : World} {O : Obj} (h : Below (W.alloc O).heap.size (W.alloc O) w1) : Below W.heap.size W w1 := ((Below.refl _ _).alloc (Nat.le_refl _) O).trans (h.mono (by simp))
theorem blk_keep {w w1 : World} {b : Nat} {O : Obj} (h : w.heap[b]? = some O) (hb : Below w.heap.size w w1) : w1.heap[b]? = some O := (hb.block b (Array.getElem?_eq_some_iff.1 h).1).trans h
theorem below_set {n : Nat} {w W : World} (h : Below n w W) {p : Addr} (hp : n ≤ p.block) (v : Value) : Below n w (W.setCell p v) := h.setCell hp v

theorem pix_block {W : World} {g : Nat} {z : Int} (h : W.heap[g]? = some (.cells #[.int .i64 z, .int .i64 z, .int .i64 z, .int .i64 z] 53 (0, 0))) (p : Pix) :
    ((((W.setCell ⟨g, 0, none⟩ (.int .i64 p.f0)).setCell ⟨g, 1, none⟩ (.int .i64 p.f1)).setCell ⟨g, 2, none⟩ (.int .i64 p.f2)).setCell ⟨g, 3, none⟩ (.int .i64 p.f3)).heap[g]? = some (.cells #[.int .i64 p.f0, .int .i64 p.f1, .int .i64 p.f2, .int .i64 p.f3] 53 (0, 0)) :=
  blk_put (cs := #[.int .i64 p.f0, .int .i64 p.f1, .int .i64 p.f2, .int .i64 z]) (blk_put (cs := #[.int .i64 p.f0, .int .i64 p.f1, .int .i64 z, .int .i64 z]) (blk_put (cs := #[.int .i64 p.f0, .int .i64 z, .int .i64 z, .int .i64 z]) (blk_put (cs := #[.int .i64 z, .int .i64 z, .int .i64 z, .int .i64 z]) h 0 _ rfl) 1 _ rfl) 2 _ rfl) 3 _ rfl

set_option maxHeartbeats 1000000 in
set_option maxRecDepth 100000 in
theorem tells_places {w : World} {wd hg W' H' : Nat} {X Y : Nat → Nat → Nat} {l : List Pix} {A : Option Addr} {c : Nat} {fv : Value} {p : Addr} {b : Nat} (hP : Pict w wd hg A c l) (hp : w.cell? p = some fv)
    (h0 : w.cell? ⟨b, 0, none⟩ = some (.int .i64 wd)) (h1 : w.cell? ⟨b, 1, none⟩ = some (.int .i64 hg)) (h2 : w.cell? ⟨b, 2, none⟩ = some (.slice A l.length c)) (hF : Froms w fv wd hg W' H' X Y) (hs : ∀ x y, x < W' → y < H' → X x y < wd ∧ Y x y < hg) :
    Tells w (.func (.func 59) #[] #[.pointer (some p), .pointer (some ⟨b, 0, none⟩)]) W' H' (fun x y => pix l wd (X x y) (Y x y)) := by
  refine ⟨_, _, rfl, enter_any Try.func59 rfl rfl, fun W hB x y hx hy => ?_⟩
  obtain ⟨fn, caps, rfl, henter, hcall⟩ := hF
  have up : ∀ {a : Addr} {v : Value}, w.cell? a = some v → ∀ O, (W.alloc O).cell? a = some v := fun h O => pw_cell_below (below_alloc (Below.refl _ _) O) (pw_cell_below hB h)
  have g0 := up h0
  have g1 := up h1
  have g2 := up h2
  have gp := up hp
  clear up
  have HP := Aside0.mk (hP.below hB)
  have HC := Aside0.mk hcall
  have HB := Aside0.mk hB
  have HS := Aside0.mk (hs x y hx hy)
  clear hcall hB hP h0 h1 h2 hp hs
  show Calls Try.prog 59 #[.int .i64 x, .int .i64 y, .pointer (some p), .pointer (some ⟨b, 0, none⟩)] W _
  go_enter Try.func59, Try.ntmps59
  go_wp2_with (first | (go_at_call 60; refine ((HP.out.below (below_made HB1.out)).at_ (X x y) (Y x y) HS.out.1 HS.out.2).mono ?_; rintro e w2 ⟨rfl, hb2⟩; have BK2 := Aside0.mk (blk_keep BK.out hb2); have r0 := (blk_cell BK2.out 0).trans rfl; have r1 := (blk_cell BK2.out 1).trans rfl; have r2 := (blk_cell BK2.out 2).trans rfl; have r3 := (blk_cell BK2.out 3).trans rfl; have s0 := blk_frozen BK2.out 0; have s1 := blk_frozen BK2.out 1; have s2 := blk_frozen BK2.out 2; have s3 := blk_frozen BK2.out 3; have HB2 := Aside0.mk hb2; clear hb2 BK) | (refine (HC.out _ (HB.out.alloc HB.out.size _) A l.length c x y hx hy).mono ?_; rintro e w1 ⟨rfl, hb1⟩; have k0 := pw_cell_below hb1 (g0 _); have k1 := pw_cell_below hb1 (g1 _); have k2 := pw_cell_below hb1 (g2 _); have BK := Aside0.mk (blk_keep (blk_new W _) hb1); have HB1 := Aside0.mk hb1; clear hb1 g0 g1 g2 gp))
  have HS2 := Aside0.mk (pix_block (BK2.out) (pix l wd (X x y) (Y x y)))
  refine bodyPost_ret (results_cell_row rfl _ _ W.heap.size 53 _ (0, 0) _ rfl HS2.out Try.underlying53 rfl (by kernel_rfl)) rfl ⟨rfl, ?_⟩
  exact below_set (below_set (below_set (below_set ((below_made HB1.out).trans (HB2.out.mono (below_made HB1.out).size)) (Nat.le_refl _) _) (Nat.le_refl _) _) (Nat.le_refl _) _) (Nat.le_refl _) _

theorem ras_block {W : World} {g : Nat} (h : ResBlk W g) (a b : Int) (v : Value) :
    (((W.setCell ⟨g, 0, none⟩ (.int .i64 a)).setCell ⟨g, 1, none⟩ (.int .i64 b)).setCell ⟨g, 2, none⟩ v).heap[g]? = some (.cells #[.int .i64 a, .int .i64 b, v] 25 (0, 0)) :=
  blk_put (cs := #[.int .i64 a, .int .i64 b, .slice none 0 0]) (blk_put (cs := #[.int .i64 a, .int .i64 0, .slice none 0 0]) (blk_put (cs := #[.int .i64 0, .int .i64 0, .slice none 0 0]) h 0 _ rfl) 1 _ rfl) 2 _ rfl
theorem Sizes.below {w W : World} {fv : Value} {wd hg W' H' : Nat} (h : Sizes w fv wd hg W' H') (hb : Below w.heap.size w W) : Sizes W fv wd hg W' H' := by
  obtain ⟨fn, caps, e, he, hc⟩ := h
  exact ⟨fn, caps, e, he, fun W2 hb2 => hc W2 (hb.trans (hb2.mono hb.size))⟩
theorem Froms.below {w W : World} {fv : Value} {wd hg W' H' : Nat} {X Y : Nat → Nat → Nat} (h : Froms w fv wd hg W' H' X Y) (hb : Below w.heap.size w W) : Froms W fv wd hg W' H' X Y := by
  obtain ⟨fn, caps, e, he, hc⟩ := h
  exact ⟨fn, caps, e, he, fun W2 hb2 => hc W2 (hb.trans (hb2.mono hb.size))⟩
theorem Pixs.below {w W : World} {fv : Value} {F : Pix → Pix} (h : Pixs w fv F) (hb : Below w.heap.size w W) : Pixs W fv F := by
  obtain ⟨fn, caps, e, he, hc⟩ := h
  exact ⟨fn, caps, e, he, fun W2 hb2 => hc W2 (hb.trans (hb2.mono hb.size))⟩
/-- What is behind a call: two blocks were made ahead of it. -/
theorem below_made2 {W w1 : World} {O1 O2 : Obj} (h : Below ((W.alloc O1).alloc O2).heap.size ((W.alloc O1).alloc O2) w1) : Below W.heap.size W w1 :=
  (((Below.refl _ _).alloc (Nat.le_refl _) O1).alloc (by simp) O2).trans (h.mono (by simp; omega))
theorem below_two {w W : World} (h : Below w.heap.size w W) (O1 O2 : Obj) : Below w.heap.size w ((W.alloc O1).alloc O2) := (h.alloc h.size O1).alloc (by have := h.size; simp; omega) O2
theorem made2 {W w1 : World} {O1 O2 : Obj} (h : Below ((W.alloc O1).alloc O2).heap.size ((W.alloc O1).alloc O2) w1) : w1.heap[W.heap.size]? = some O1 ∧ w1.heap[W.heap.size + 1]? = some O2 := by
  have a : ((W.alloc O1).alloc O2).heap[W.heap.size]? = some O1 := blk_keep (by show (W.heap.push O1)[W.heap.size]? = _; simp) (below_alloc (Below.refl _ _) _)
  have b : ((W.alloc O1).alloc O2).heap[W.heap.size + 1]? = some O2 := by
    show ((W.heap.push O1).push O2)[W.heap.size + 1]? = _
    have := Array.getElem?_push_size (xs := W.heap.push O1) (x := O2)
    rwa [Array.size_push] at this
  exact ⟨blk_keep a h, blk_keep b h⟩
theorem R_ret {w2 : World} {base0 base1 g : Nat} {v : Value} {xs : List Pix} (hR : Kd.R kPix 53 w2 base1 (fun _ => True) v xs) (hlow : base0 ≤ base1) (hg : g < base1) (a b u : Value) :
    Kd.R kPix 53 (((w2.setCell ⟨g, 0, none⟩ a).setCell ⟨g, 1, none⟩ b).setCell ⟨g, 2, none⟩ u) base0 (fun _ => True) v xs :=
  Kd.R_mono (Kd.R_lower (Kd.R_far (p := ⟨g, 2, none⟩) (Kd.R_far (p := ⟨g, 1, none⟩) (Kd.R_far (p := ⟨g, 0, none⟩) (Kd.R_bound hR) (fun k hk => by have := hk.2.1; show k ≠ g; omega) a) (fun k hk => by have := hk.2.1; show k ≠ g; omega) b) (fun k hk => by have := hk.2.1; show k ≠ g; omega) u) hlow) (fun _ _ => trivial)
/-- A function value that makes a picture of a picture. -/
def Moves (w : World) (fv : Value) (dom : Nat → Nat → Prop) (G : Nat → Nat → List Pix → Nat × Nat × List Pix × Bool) : Prop :=
  ∃ fn caps, fv = .func (.func fn) #[] caps ∧ (∀ (args : Array Value) (W : World), (callFunc fn args).run Try.prog W = .ok (.enter fn args) W) ∧ ∀ (W : World), Below w.heap.size w W → ∀ (wd hg : Nat) (A : Option Addr) (c : Nat) (l : List Pix), Pict W wd hg A c l → dom wd hg →
    Calls Try.prog fn (#[.agg #[.int .i64 wd, .int .i64 hg, .slice A l.length c]] ++ caps) W fun e w' => ∃ v, e = .returned (.tuple #[.agg #[.int .i64 (G wd hg l).1, .int .i64 (G wd hg l).2.1, v], .bool (G wd hg l).2.2.2]) ∧ Kd.R kPix 53 w' W.heap.size (fun _ => True) v (G wd hg l).2.2.1 ∧ Below W.heap.size W w'
def placesG (SW SH : Nat → Nat → Nat) (X Y : Nat → Nat → Nat → Nat → Nat) (wd hg : Nat) (l : List Pix) : Nat × Nat × List Pix × Bool := (SW wd hg, SH wd hg, mk (SW wd hg) (SH wd hg) (fun x y => pix l wd (X wd hg x y) (Y wd hg x y)), true)

set_option maxHeartbeats 2000000 in
set_option maxRecDepth 100000 in
theorem moves_places {w : World} {fv1 fv2 : Value} {p1 p2 : Addr} (hp1 : w.cell? p1 = some fv1) (hp2 : w.cell? p2 = some fv2) (dom : Nat → Nat → Prop) (SW SH : Nat → Nat → Nat) (X Y : Nat → Nat → Nat → Nat → Nat)
    (hd : ∀ wd hg, dom wd hg → 1 ≤ wd → wd ≤ 6 → 1 ≤ hg → hg ≤ 6 → Sizes w fv1 wd hg (SW wd hg) (SH wd hg) ∧ Froms w fv2 wd hg (SW wd hg) (SH wd hg) (X wd hg) (Y wd hg) ∧ (1 ≤ SW wd hg ∧ SW wd hg ≤ 6 ∧ 1 ≤ SH wd hg ∧ SH wd hg ≤ 6) ∧ ∀ x y, x < SW wd hg → y < SH wd hg → X wd hg x y < wd ∧ Y wd hg x y < hg) :
    Moves w (.func (.func 57) #[] #[.pointer (some p1), .pointer (some p2)]) dom (placesG SW SH X Y) := by
  refine ⟨_, _, rfl, enter_any Try.func57 rfl rfl, fun W hB wd hg A c l hP hdom => ?_⟩
  obtain ⟨hS, hF, hz, hs⟩ := hd wd hg hdom hP.w0 hP.w1 hP.h0 hP.h1
  have HF := Aside0.mk (hF.below hB)
  have HS := Aside0.mk hs
  have HZ := Aside0.mk hz
  have HP := Aside0.mk hP
  obtain ⟨fn, caps, rfl, henter, hcall⟩ := hS
  have up : ∀ {a : Addr} {v : Value}, w.cell? a = some v → ∀ O1 O2, ((W.alloc O1).alloc O2).cell? a = some v := fun h O1 O2 => pw_cell_below (below_alloc (Below.refl _ _) O2) (pw_cell_below (below_alloc (Below.refl _ _) O1) (pw_cell_below hB h))
  have g1 := up hp1
  have g2 := up hp2
  have HC := Aside0.mk hcall
  have HB := Aside0.mk hB
  clear hcall hB hP hs hz hF hd up hp1 hp2
  show Calls Try.prog 57 #[.agg #[.int .i64 wd, .int .i64 hg, .slice A l.length c], .pointer (some p1), .pointer (some p2)] W _
  go_enter Try.func57, Try.ntmps57
  go_wp2_with (first | (go_at_call 58; refine (newRaster_walk (SW wd hg) (SH wd hg) HZ.out.1 HZ.out.2.1 HZ.out.2.2.1 HZ.out.2.2.2 (fun x y => pix l wd (X wd hg x y) (Y wd hg x y)) _ w1 (tells_places (HP.out.below HB1.out) k2 ((blk_cell BK.out 0).trans rfl) ((blk_cell BK.out 1).trans rfl) ((blk_cell BK.out 2).trans rfl) (HF.out.below HB1.out) HS.out)).mono ?_; rintro e w2 ⟨v, rfl, hR, hb2⟩; obtain ⟨A', c', rfl⟩ := Kd.R_slice hR; have BR2 : Aside0 (ResBlk w2 (W.heap.size + 1)) := Aside0.mk (BR.out.keep hb2); have r0 := (blk_cell BR2.out 0).trans rfl; have r1 := (blk_cell BR2.out 1).trans rfl; have r2 := (blk_cell BR2.out 2).trans rfl; have s0 := blk_frozen BR2.out 0; have s1 := blk_frozen BR2.out 1; have s2 := blk_frozen BR2.out 2; have HLT : Aside0 (W.heap.size + 1 < w1.heap.size) := Aside0.mk (Array.getElem?_eq_some_iff.1 BR.out).1; have HR := Aside0.mk hR; have HB2 := Aside0.mk hb2; clear hb2 hR BR BK k2) | (refine (HC.out _ (below_two HB.out _ _) A l.length c).mono ?_; rintro e w1 ⟨rfl, hb1⟩; have k2 := pw_cell_below hb1 (g2 _ _); have BK := Aside0.mk (made2 hb1).1; have BR : Aside0 (ResBlk w1 (W.heap.size + 1)) := Aside0.mk (made2 hb1).2; have HB1 := Aside0.mk (below_made2 hb1); clear hb1 g1 g2 HC))
  refine bodyPost_ret (results_ct rfl _ _ (W.heap.size + 1) 25 _ (0, 0) _ rfl (ras_block BR2.out _ _ _) Try.underlying25 rfl (by kernel_rfl)) rfl ⟨_, rfl, R_ret HR.out HB1.out.size HLT.out _ _ _, ?_⟩
  exact below_set (below_set (below_set (HB1.out.trans (HB2.out.mono HB1.out.size)) (by simp) _) (by simp) _) (by simp) _
theorem ret2 {a b a' b' : Int} (h1 : a = a') (h2 : b = b') : Ending.returned (.tuple #[.int .i64 a, .int .i64 b]) = .returned (.tuple #[.int .i64 a', .int .i64 b']) := by rw [h1, h2]
set_option maxHeartbeats 4000000 in
set_option maxRecDepth 100000 in
theorem sizes_same (w : World) (wd hg : Nat) : Sizes w (.func (.func 42) #[] #[]) wd hg wd hg := by
  refine ⟨_, _, rfl, enter_any Try.func42 rfl rfl, fun W hB A n c => ?_⟩
  show Calls Try.prog 42 #[.agg #[.int .i64 wd, .int .i64 hg, .slice A n c]] W _
  go_enter Try.func42, Try.ntmps42
  go_wp2
  go_quiet (fail)
  go_wp2
  go_ret2
  exact ⟨rfl, by repeat (first | exact Below.refl _ _ | apply below_alloc | apply pw_below_drewN | apply below_drew1)⟩
set_option maxHeartbeats 4000000 in
set_option maxRecDepth 100000 in
theorem from_flipY (w : World) (wd hg : Nat) (hw : hg ≤ 6) : Froms w (.func (.func 44) #[] #[]) wd hg wd hg (fun x y => x) (fun x y => hg - 1 - y) := by
  refine ⟨_, _, rfl, enter_any Try.func44 rfl rfl, fun W hB A n c x y hx hy => ?_⟩
  show Calls Try.prog 44 #[.agg #[.int .i64 wd, .int .i64 hg, .slice A n c], .int .i64 x, .int .i64 y] W _
  go_enter Try.func44, Try.ntmps44
  go_wp2
  try go_quiet (fail)
  try go_wp2
  go_ret2
  exact ⟨ret2 rfl (by omega), by repeat (first | exact Below.refl _ _ | apply below_alloc | apply pw_below_drewN | apply below_drew1)⟩
set_option maxHeartbeats 4000000 in
set_option maxRecDepth 100000 in
theorem places_made (f1 f2 : Fn) (c1 c2 : Array Value) (w : World) : Calls Try.prog 41 #[.func f1 #[] c1, .func f2 #[] c2] w fun e w' => ∃ p1 p2, e = .returned (.func (.func 57) #[] #[.pointer (some p1), .pointer (some p2)]) ∧ w'.cell? p1 = some (.func f1 #[] c1) ∧ w'.cell? p2 = some (.func f2 #[] c2) ∧ Below w.heap.size w w' := by
  go_enter Try.func41, Try.ntmps41
  go_wp2
  go_ret
  have hm := made2 (W := w) (O1 := .cells #[.func f1 #[] c1] 77) (O2 := .cells #[.func f2 #[] c2] 78) (Below.refl _ _)
  exact ⟨_, _, rfl, (blk_cell hm.1 0).trans rfl, (blk_cell hm.2 0).trans rfl, below_two (Below.refl _ _) _ _⟩
end Go.Proofs.Ytljobjpldbdhoaa.X
namespace Go.Proofs.Ytljobjpldbdhoaa.X
open Go.RowKit Go.Proofs.YtljobjpldbdhoaaW.PrintWords Go.Proofs.YtljobjpldbdhoaaW.PrintLast Go.Proofs.YtljobjpldbdhoaaW.PrintMore
set_option linter.unusedVariables false
set_option linter.unusedSimpArgs false
/-- All rows the other way round. -/
def flipL (wd hg : Nat) (l : List Pix) : List Pix := mk wd hg fun x y => pix l wd x (hg - 1 - y)
set_option maxHeartbeats 8000000 in
set_option maxRecDepth 100000 in
theorem back1_calls (A : Option Addr) (c : Nat) (wd hg : Nat) (l : List Pix) (b1 : Nat) (w : World) (hC : Kd.C kPix w A l.length l) (hc : l.length ≤ c) (hl : l.length = wd * hg) (hw0 : 1 ≤ wd) (hw1 : wd ≤ 6) (hh0 : 1 ≤ hg) (hh1 : hg ≤ 6) (hB : PicBlk w b1 wd hg A l.length c) (x y : Nat) (hx : x < wd) (hy : y < hg) :
    Calls Try.prog 93 #[.int .i64 x, .int .i64 y, .pointer (some ⟨b1, 0, none⟩)] w fun e w' => e = .returned (.agg #[.int .i64 (pix l wd x (hg - 1 - y)).f0, .int .i64 (pix l wd x (hg - 1 - y)).f1, .int .i64 (pix l wd x (hg - 1 - y)).f2, .int .i64 (pix l wd x (hg - 1 - y)).f3]) ∧ Below w.heap.size w w' := by
  have HP : Aside0 (∀ W : World, Below w.heap.size w W → Calls Try.prog 60 #[.agg #[.int .i64 wd, .int .i64 hg, .slice A l.length c], .int .i64 x, .int .i64 ((hg - 1 - y : Nat) : Int)] W fun e w' => e = .returned (.agg #[.int .i64 (pix l wd x (hg - 1 - y)).f0, .int .i64 (pix l wd x (hg - 1 - y)).f1, .int .i64 (pix l wd x (hg - 1 - y)).f2, .int .i64 (pix l wd x (hg - 1 - y)).f3]) ∧ Below W.heap.size W w') := ⟨fun W hW => pixOf_has A c wd hg l W (Kd.C_below hC hW) hc hl hw0 hw1 hh1 x (hg - 1 - y) hx (by omega)⟩
  have HBk := Aside0.mk hB
  have e1 : wrap64 ((hg : Int) - 1) = (hg : Int) - 1 := by unfold wrap64; omega
  have e2 : wrap64 ((hg : Int) - 1 - (y : Int)) = ((hg - 1 - y : Nat) : Int) := by unfold wrap64; omega
  generalize hp : pix l wd x (hg - 1 - y) = p at HP ⊢
  generalize hq : ((hg - 1 - y : Nat) : Int) = q at HP e2
  generalize l.length = n at HP HBk ⊢
  clear hC hc hl hw0 hw1 hh0 hh1 hB hx hy hp hq
  have hu := Try.underlying25
  have hup := Try.underlying53
  have hz : ∀ W : World, (zeroValue 53).run Try.prog W = .ok (.agg #[.int .i64 0, .int .i64 0, .int .i64 0, .int .i64 0]) W := fun W => (by kernel_rfl)
  go_enter Try.func93, Try.ntmps93
  go_wp2_with (first
    | ((with_reducible refine gd_ 5 rfl ?_); refine bx_ 5 rfl #[.int .i64 0, .int .i64 0, .int .i64 0, .int .i64 0] 53 ?_; intro b5 hg_ w2 hbox hb; have HX2 := Aside0.mk (blk_below HBk.out hb); have H52 := Aside0.mk hbox; have HB2 := Aside0.mk hb; have HG5 := Aside0.mk (show w.heap.size ≤ b5 by rw [hg_]; exact Nat.le_refl _); obtain ⟨x0, x1, x2⟩ := cc3_ HX2.out; clear hb hbox hg_)
    | (go_at_call 60; refine (HP.out _ HB2.out).mono ?_; rintro e w3 ⟨rfl, hb⟩; have H53 := Aside0.mk (blk_below H52.out hb); have HB3 := Aside0.mk (below_step HB2.out hb); obtain ⟨y0, y1, y2, y3⟩ := cc4_ H53.out; obtain ⟨f0, f1, f2, f3⟩ := cf4_ H53.out; clear x0 x1 x2 hb))
  refine bodyPost_ret (results_cell_row rfl _ _ b5 53 #[.int .i64 p.f0, .int .i64 p.f1, .int .i64 p.f2, .int .i64 p.f3] (0, 0) _ rfl (blk_set (blk_set (blk_set (blk_set H53.out 0 _) 1 _) 2 _) 3 _) Try.underlying53 rfl (by kernel_rfl)) rfl ⟨rfl, ?_⟩
  exact (((HB3.out.setCell (p := ⟨b5, 0, none⟩) HG5.out _).setCell (p := ⟨b5, 1, none⟩) HG5.out _).setCell (p := ⟨b5, 2, none⟩) HG5.out _).setCell (p := ⟨b5, 3, none⟩) HG5.out _
set_option maxHeartbeats 8000000 in
set_option maxRecDepth 100000 in
theorem rowsBack_calls (A : Option Addr) (c : Nat) (wd hg : Nat) (l : List Pix) (w : World) (hC : Kd.C kPix w A l.length l) (hc : l.length ≤ c) (hl : l.length = wd * hg) (hw0 : 1 ≤ wd) (hw1 : wd ≤ 6) (hh0 : 1 ≤ hg) (hh1 : hg ≤ 6) :
    Calls Try.prog 92 #[.agg #[.int .i64 wd, .int .i64 hg, .slice A l.length c]] w fun e w' => ∃ v, e = .returned (.agg #[.int .i64 wd, .int .i64 hg, v]) ∧ Kd.R kPix 53 w' w.heap.size (fun _ => True) v (flipL wd hg l) ∧ Below w.heap.size w w' := by
  have HC := Aside0.mk hC; have HCc := Aside0.mk hc; have HL := Aside0.mk hl; have HW0 := Aside0.mk hw0; have HW1 := Aside0.mk hw1; have HH0 := Aside0.mk hh0; have HH1 := Aside0.mk hh1
  obtain ⟨n, hn⟩ : ∃ n, n = l.length := ⟨_, rfl⟩
  have HN := Aside0.mk hn
  rw [← hn]
  clear hC hc hl hw0 hw1 hh0 hh1 hn
  have hu := Try.underlying25
  have hz : ∀ W : World, (zeroValue 25).run Try.prog W = .ok (.agg #[.int .i64 0, .int .i64 0, .slice none 0 0]) W := fun W => (by kernel_rfl)
  go_enter Try.func92, Try.ntmps92
  go_wp2_with (first
    | ((with_reducible refine gd_ 1 rfl ?_); refine bx_ 1 rfl #[.int .i64 wd, .int .i64 hg, .slice A n c] 25 ?_; intro b1 hg_ w2 hbox hb; have HX2 := Aside0.mk hbox; have HB2 := Aside0.mk hb; clear hb hbox hg_)
    | ((with_reducible refine gd_ 2 rfl ?_); refine bx_ 2 rfl #[.int .i64 0, .int .i64 0, .slice none 0 0] 25 ?_; intro b2 hg_ w3 hbox hb; have HX3 := Aside0.mk (blk_below HX2.out hb); have HR3 := Aside0.mk hbox; have HB3 := Aside0.mk (below_step HB2.out hb); have HG2 := Aside0.mk (show w.heap.size ≤ b2 by rw [hg_]; exact HB2.out.size); obtain ⟨x0, x1, x2⟩ := cc3_ HX3.out; clear hb hbox hg_)
    | (go_at_call 58; refine (newRaster_walk wd hg HW0.out HW1.out HH0.out HH1.out (fun x y => pix l wd x (hg - 1 - y)) _ _ ⟨93, _, rfl, enter_any Try.func93 rfl rfl, fun W hB x y hx hy => ?tells⟩).mono ?_; (case tells => exact back1_calls A c wd hg l b1 W (Kd.C_below HC.out (HB3.out.trans (hB.mono HB3.out.size))) HCc.out HL.out HW0.out HW1.out HH0.out HH1.out (by rw [← HN.out]; exact (hB.block b1 (blk_lt HX3.out)).trans HX3.out) x y hx hy); rintro e w4 ⟨v, rfl, hR, hb⟩; have HR4 := Aside0.mk (blk_below HR3.out hb); have HO4 := Aside0.mk (Kd.R_lower (Kd.R_newB hR HR3.out) HB3.out.size); have HB4 := Aside0.mk (below_step HB3.out hb); clear x0 x1 x2; obtain ⟨x0, x1, x2⟩ := cc3_ HR4.out; obtain ⟨f0, f1, f2⟩ := cf3_ HR4.out; obtain ⟨A4, c4, rfl, hc4, hr4⟩ := Kd.R_reads hR; clear hb hR hc4 hr4))
  refine bodyPost_ret (results_cell_row rfl _ _ b2 25 #[.int .i64 wd, .int .i64 hg, .slice A4 (mk wd hg fun x y => pix l wd x (hg - 1 - y)).length c4] (0, 0) _ rfl (blk_set (blk_set (blk_set HR4.out 0 _) 1 _) 2 _) Try.underlying25 rfl (by kernel_rfl)) rfl ⟨_, rfl, ?_, ?_⟩
  · have far : ∀ j : Nat, (True ∧ j ≠ b2) → j ≠ b2 := fun j hj => hj.2
    exact Kd.R_mono (Kd.R_far (p := ⟨b2, 2, none⟩) (Kd.R_far (p := ⟨b2, 1, none⟩) (Kd.R_far (p := ⟨b2, 0, none⟩) HO4.out far _) far _) far _) (fun _ _ => trivial)
  · exact ((HB4.out.setCell (p := ⟨b2, 0, none⟩) HG2.out _).setCell (p := ⟨b2, 1, none⟩) HG2.out _).setCell (p := ⟨b2, 2, none⟩) HG2.out _
end Go.Proofs.Ytljobjpldbdhoaa.X
namespace Go.Proofs.Ytljobjpldbdhoaa.X
open Go.RowKit Go.Proofs.YtljobjpldbdhoaaW.PrintWords Go.Proofs.YtljobjpldbdhoaaW.PrintLast Go.Proofs.YtljobjpldbdhoaaW.PrintMore
attribute [local go_sem] max2_int min2_int max_two min_two max_three min_three max_four min_four
set_option linter.unusedVariables false
set_option linter.unusedSimpArgs false

section
def impl_rowsBack.f (a0_0 : Int) (a0_1 : Int) (l0_2 : List (S53)) : Option (Int × Int × (List (S53))) := if rasOkB a0_0 a0_1 l0_2 = true then some (a0_0, a0_1, flipL a0_0.toNat a0_1.toNat l0_2) else none
theorem impl_rowsBack.calls (a0_0 : Int) (a0_1 : Int) (A0_2 : Option Addr) (c0_2 : Nat) (l0_2 : List (S53)) (r0 : Int) (r1 : Int) (r2 : List (S53)) (w : World) (hr0_2 : Kd.C k53 w A0_2 l0_2.length l0_2) (hc0_2 : l0_2.length ≤ c0_2) (h : impl_rowsBack.f a0_0 a0_1 l0_2 = some (r0, r1, r2)) :
  Calls Try.prog 92 #[.agg #[.int .i64 a0_0, .int .i64 a0_1, .slice A0_2 l0_2.length c0_2]] w fun e w' => ∃ v0_ : Value, e = .returned (.agg #[.int .i64 r0, .int .i64 r1, v0_]) ∧ Kd.R k53 53 w' w.heap.size (fun _ => True) v0_ r2 ∧ Below w.heap.size w w' := by
 unfold impl_rowsBack.f at h
 split at h
 case isFalse => cases h
 rename_i hv
 obtain ⟨wd, hg, rfl, rfl, ⟨w0, w1⟩, ⟨h0, h1⟩, hl, _⟩ := (rasOkB_iff _ _ _).1 hv
 have h := Option.some.inj h
 simp only [Prod.mk.injEq, Int.toNat_natCast] at h
 obtain ⟨rfl, rfl, rfl⟩ := h
 exact rowsBack_calls A0_2 c0_2 wd hg l0_2 w hr0_2 hc0_2 hl w0 w1 h0 h1
end
section
def impl_formUp_write.f (k : Nat) (a0 : Bool) (a1_0 : Int) (a1_1 : Int) (l1_2 : List (S53)) : Option (List Int) := (impl_rowsBack.f a1_0 a1_1 l1_2).bind fun bt102 => ((impl_RasBytes.f k bt102.1 bt102.2.1 bt102.2.2).bind fun t107 => (some t107))
set_option maxHeartbeats 8000000 in
set_option maxRecDepth 100000 in
theorem impl_formUp_write.calls (k : Nat) (a0 : Bool) (a1_0 : Int) (a1_1 : Int) (A1_2 : Option Addr) (c1_2 : Nat) (l1_2 : List (S53)) (r : List Int) (w : World) (hr1_2 : Kd.C k53 w A1_2 l1_2.length l1_2) (hc1_2 : l1_2.length ≤ c1_2) (h : impl_formUp_write.f k a0 a1_0 a1_1 l1_2 = some r) :
    Calls Try.prog 91 #[.agg #[], .agg #[.int .i64 a1_0, .int .i64 a1_1, .slice A1_2 l1_2.length c1_2]] w fun e w' => ∃ v0_ : Value, e = .returned (v0_) ∧ Kd.R (Kd.int .u8) 5 w' w.heap.size (fun _ => True) v0_ r ∧ Below w.heap.size w w' := by
  have hu25 := Try.underlying25; have HR1_2 := Aside0.mk hr1_2; have HC1_2 := Aside0.mk hc1_2; clear hr1_2 hc1_2; have HB := Aside0.mk (Below.refl w.heap.size w); have H : ((impl_rowsBack.f a1_0 a1_1 l1_2).bind fun bt102 => ((impl_RasBytes.f k bt102.1 bt102.2.1 bt102.2.2).bind fun t107 => (some t107))) = some r := h; clear h; obtain ⟨⟨t102, t103, t104⟩, A3, H⟩ := bindA H; (try dsimp only at H); obtain ⟨t107, A4, H⟩ := bindA H; (try dsimp only at H); obtain rfl := Option.some.inj H
  go_enter Try.func91, Try.ntmps91
  go_wp2_with (first | ((with_reducible refine gd_ 3 rfl ?_); refine bx_ 3 rfl #[.int .i64 a1_0, .int .i64 a1_1, .slice A1_2 l1_2.length c1_2] 25 ?_; intro gb101 hg w5 hbox hb; have BK101 := Aside0.mk (hbox); have GW101 := Aside0.mk ((by rw [hg]; exact (below_size (upH HB.out)) : w.heap.size ≤ gb101)); replace HB := Aside0.mk (below_step (upH HB.out) hb); have GE101 := GW101; clear hb hbox hg; obtain ⟨hcz6_0, hcz6_1, hcz6_2⟩ := cc3_ BK101.out; obtain ⟨hfz6_0, hfz6_1⟩ := cf2_ BK101.out; have hfz6_2 := blk_frozen BK101.out 2) | ((with_reducible refine gc_ 92 rfl ?_); refine gl_ (some 6) rfl Try.func92 #[.agg #[.int .i64 a1_0, .int .i64 a1_1, .slice A1_2 l1_2.length c1_2]] ?_; (with_reducible refine (impl_rowsBack.calls a1_0 a1_1 _ _ l1_2 t102 t103 t104 _ ?side1 ?side2 A3.out).mono ?_); (case side1 => repeat (first | exact (Kd.C_below HR1_2.out HB.out) | (with_reducible refine Kd.C_alloc ?_ _) | (with_reducible refine Kd.C_drewN ?_ _) | (with_reducible refine Kd.C_drew ?_))); (case side2 => exact HC1_2.out); rintro e w7 ⟨v105, rfl, ho0, hb⟩; refine ⟨_, rfl, ?_⟩; have HO106 := Aside0.mk (Kd.R_lower ho0 (below_size (by repeat (with_reducible first | exact HB.out | apply below_alloc | apply pw_below_drewN | apply below_drew1 | refine below_set ?_ (Aside0.out ‹_›))))); replace BK101 := Aside0.mk (blk_below (upB BK101.out) hb); replace HB := Aside0.mk (below_step (by repeat (with_reducible first | exact HB.out | apply below_alloc | apply pw_below_drewN | apply below_drew1 | refine below_set ?_ (Aside0.out ‹_›))) hb); (try clear hb ho0); obtain ⟨Ao8, co8, eo8⟩ := Kd.R_slice HO106.out; subst eo8) | ((with_reducible refine gc_ 88 rfl ?_); refine gl_ (some 7) rfl Try.func88 #[.agg #[.int .i64 t102, .int .i64 t103, .slice Ao8 t104.length co8]] ?_; (with_reducible refine (impl_RasBytes.calls k t102 t103 _ _ t104 t107 _ ?side1 ?side2 A4.out).mono ?_); (case side1 => repeat (first | exact (Kd.R_reads' HO106.out).2.2 | (with_reducible refine Kd.C_alloc ?_ _) | (with_reducible refine Kd.C_drewN ?_ _) | (with_reducible refine Kd.C_drew ?_))); (case side2 => exact (Kd.R_reads' HO106.out).2.1); rintro e w9 ⟨v108, rfl, ho0, hb⟩; refine ⟨_, rfl, ?_⟩; replace HO106 := Aside0.mk (Kd.R_below (upR HO106.out) hb); have HO109 := Aside0.mk (Kd.R_lower ho0 (below_size (by repeat (with_reducible first | exact HB.out | apply below_alloc | apply pw_below_drewN | apply below_drew1 | refine below_set ?_ (Aside0.out ‹_›))))); replace BK101 := Aside0.mk (blk_below (upB BK101.out) hb); replace HB := Aside0.mk (below_step (by repeat (with_reducible first | exact HB.out | apply below_alloc | apply pw_below_drewN | apply below_drew1 | refine below_set ?_ (Aside0.out ‹_›))) hb); (try clear hb ho0)))
  go_ret
  exact ⟨_, by first | rfl | (simp [*, errW_none, errW_some] <;> rfl), by first | exact HO109.out | exact upR HO109.out, by repeat (with_reducible first | exact HB.out | apply below_alloc | apply pw_below_drewN | apply below_drew1 | refine below_set ?_ (Aside0.out ‹_›))⟩
end
section
def impl_formDown_write.f (k : Nat) (a0 : Bool) (a1_0 : Int) (a1_1 : Int) (l1_2 : List (S53)) : Option (List Int) := (impl_RasBytes.f k a1_0 a1_1 l1_2).bind fun t102 => (some t102)
set_option maxHeartbeats 8000000 in
set_option maxRecDepth 100000 in
theorem impl_formDown_write.calls (k : Nat) (a0 : Bool) (a1_0 : Int) (a1_1 : Int) (A1_2 : Option Addr) (c1_2 : Nat) (l1_2 : List (S53)) (r : List Int) (w : World) (hr1_2 : Kd.C k53 w A1_2 l1_2.length l1_2) (hc1_2 : l1_2.length ≤ c1_2) (h : impl_formDown_write.f k a0 a1_0 a1_1 l1_2 = some r) :
    Calls Try.prog 87 #[.agg #[], .agg #[.int .i64 a1_0, .int .i64 a1_1, .slice A1_2 l1_2.length c1_2]] w fun e w' => ∃ v0_ : Value, e = .returned (v0_) ∧ Kd.R (Kd.int .u8) 5 w' w.heap.size (fun _ => True) v0_ r ∧ Below w.heap.size w w' := by
  have hu25 := Try.underlying25; have HR1_2 := Aside0.mk hr1_2; have HC1_2 := Aside0.mk hc1_2; clear hr1_2 hc1_2; have HB := Aside0.mk (Below.refl w.heap.size w); have H : ((impl_RasBytes.f k a1_0 a1_1 l1_2).bind fun t102 => (some t102)) = some r := h; clear h; obtain ⟨t102, A3, H⟩ := bindA H; (try dsimp only at H); obtain rfl := Option.some.inj H
  go_enter Try.func87, Try.ntmps87
  go_wp2_with (first | ((with_reducible refine gd_ 3 rfl ?_); refine bx_ 3 rfl #[.int .i64 a1_0, .int .i64 a1_1, .slice A1_2 l1_2.length c1_2] 25 ?_; intro gb101 hg w4 hbox hb; have BK101 := Aside0.mk (hbox); have GW101 := Aside0.mk ((by rw [hg]; exact (below_size (upH HB.out)) : w.heap.size ≤ gb101)); replace HB := Aside0.mk (below_step (upH HB.out) hb); have GE101 := GW101; clear hb hbox hg; obtain ⟨hcz5_0, hcz5_1, hcz5_2⟩ := cc3_ BK101.out; obtain ⟨hfz5_0, hfz5_1⟩ := cf2_ BK101.out; have hfz5_2 := blk_frozen BK101.out 2) | ((with_reducible refine gc_ 88 rfl ?_); refine gl_ (some 6) rfl Try.func88 #[.agg #[.int .i64 a1_0, .int .i64 a1_1, .slice A1_2 l1_2.length c1_2]] ?_; (with_reducible refine (impl_RasBytes.calls k a1_0 a1_1 _ _ l1_2 t102 _ ?side1 ?side2 A3.out).mono ?_); (case side1 => repeat (first | exact (Kd.C_below HR1_2.out HB.out) | (with_reducible refine Kd.C_alloc ?_ _) | (with_reducible refine Kd.C_drewN ?_ _) | (with_reducible refine Kd.C_drew ?_))); (case side2 => exact HC1_2.out); rintro e w6 ⟨v103, rfl, ho0, hb⟩; refine ⟨_, rfl, ?_⟩; have HO104 := Aside0.mk (Kd.R_lower ho0 (below_size (by repeat (with_reducible first | exact HB.out | apply below_alloc | apply pw_below_drewN | apply below_drew1 | refine below_set ?_ (Aside0.out ‹_›))))); replace BK101 := Aside0.mk (blk_below (upB BK101.out) hb); replace HB := Aside0.mk (below_step (by repeat (with_reducible first | exact HB.out | apply below_alloc | apply pw_below_drewN | apply below_drew1 | refine below_set ?_ (Aside0.out ‹_›))) hb); (try clear hb ho0)))
  go_ret
  exact ⟨_, by first | rfl | (simp [*, errW_none, errW_some] <;> rfl), by first | exact HO104.out | exact upR HO104.out, by repeat (with_reducible first | exact HB.out | apply below_alloc | apply pw_below_drewN | apply below_drew1 | refine below_set ?_ (Aside0.out ‹_›))⟩
end
end Go.Proofs.Ytljobjpldbdhoaa.X
namespace Go.Proofs.Ytljobjpldbdhoaa.X
open Go.RowKit Go.Proofs.YtljobjpldbdhoaaW.PrintWords
set_option linter.unusedVariables false
variable {P : Program} {w : World} {t kt et : TypeId} {r clock : Nat} {es : Array MapEntry}
/-- Where a byte stands among a map's entries. -/
def findB (k : Int) : List MapEntry → Nat → Option (Nat × Value)
  | [], _ => none
  | e :: es, i => match e.key with
    | .int _ x => if k = x then some (i, e.val) else findB k es (i + 1)
    | _ => none
def KeysB (l : List MapEntry) : Prop := ∀ e ∈ l, ∃ x, e.key = .int .u8 x
theorem findNow_B (k : Int) : ∀ (l : List MapEntry) (i : Nat), KeysB l → Instr.findNow (.int .u8) (.int .u8 k) l i = some (findB k l i)
  | [], i, _ => rfl
  | e :: l, i, h => by
    obtain ⟨x, hx⟩ := h e (List.mem_cons_self ..)
    have ih := findNow_B k l (i + 1) (fun y hy => h y (List.mem_cons_of_mem _ hy))
    unfold Instr.findNow findB
    rw [hx]
    simp only [Instr.sameNow, if_true]
    by_cases hk : k = x
    · simp [hk]
    · rw [if_neg hk]
      have : (k == x) = false := by simpa using hk
      rw [this]
      exact ih
theorem isKey_B (k : Int) : MapKept.IsKey (.int .u8) (.int .u8 k) := by trivial
theorem run_lookup_B (ht : P.underlying t = some (.map kt et)) (hk : P.underlying kt = some (.int .u8)) (hb : w.heap[r]? = some (.map es clock)) (hs : KeysB es.toList) {z : Value} (hz : (zeroValue et).run P w = .ok z w) (k : Int) :
    (Instr.lookup t (.map (some r)) (.int .u8 k) false).run P w = .ok (((findB k es.toList 0).map (·.2)).getD z) w := by
  have h1 := findNow_B k es.toList 0 hs
  cases hf : findB k es.toList 0 with
  | none => rw [hf] at h1; simp [Instr.lookup, run_underlying ht, MapKept.run_getObj_map hb, MapKept.run_checkKey hk (isKey_B k), MapKept.run_findKey hk h1, hz, Result.andThen]
  | some x => rw [hf] at h1; simp [Instr.lookup, run_underlying ht, MapKept.run_getObj_map hb, MapKept.run_checkKey hk (isKey_B k), MapKept.run_findKey hk h1, Result.andThen]
theorem run_update_B (ht : P.underlying t = some (.map kt et)) (hk : P.underlying kt = some (.int .u8)) (hb : w.heap[r]? = some (.map es clock)) (hs : KeysB es.toList) (k : Int) (hn : findB k es.toList 0 = none) (v : Value) :
    (Instr.mapUpdate t (.map (some r)) (.int .u8 k) v).run P w = .ok () { w with heap := w.heap.setIfInBounds r (.map (es.push ⟨.int .u8 k, v, clock⟩) (clock + 1)) } := by
  have h1 := findNow_B k es.toList 0 hs
  rw [hn] at h1
  simp [Instr.mapUpdate, run_underlying ht, MapKept.run_getObj_map hb, MapKept.run_checkKey hk (isKey_B k), MapKept.run_findKey hk h1, MapKept.run_setObj_map _ hb, Result.andThen]
/-- A world with one block put anew. -/
def setB (w : World) (r : Nat) (o : Obj) : World := { w with heap := w.heap.setIfInBounds r o }
theorem setB_at {r : Nat} (h : r < w.heap.size) (o : Obj) : (setB w r o).heap[r]? = some o := by
  unfold setB
  simp [h]
theorem setB_ne {b r : Nat} (h : b ≠ r) (o : Obj) : (setB w r o).heap[b]? = w.heap[b]? := by
  unfold setB
  exact Array.getElem?_setIfInBounds_ne (fun e => h e.symm)
theorem setB_size (r : Nat) (o : Obj) : (setB w r o).heap.size = w.heap.size := by
  unfold setB
  simp
theorem below_setB {B r : Nat} {a : World} (h : Below B a w) (hr : B ≤ r) (o : Obj) : Below B a (setB w r o) :=
  ⟨h.os, h.tape, h.output, by rw [setB_size]; exact h.size, fun k hk => (setB_ne (by omega) o).trans (h.block k hk)⟩
section
variable {ops : Array Oper} {rest : List Oper} {o : Oper} {a : Act} {Q : Exit → Act → World → Prop} {W : World}
theorem makeMap_event (hgd : o.guard = none) {t : TypeId} (ho : o.op = .makeMap t none)
    (h : ∀ b, b = W.heap.size → ∀ w1, w1.heap[b]? = some (.map #[] 0) → Below W.heap.size W w1 → w1.heap.size = W.heap.size + 1 → wpList P ops Q rest (a.put o.dst (.map (some b))) w1) : wpList P ops Q (o :: rest) a W :=
  Kd.event_run hgd (v := .map (some W.heap.size)) (w1 := W.alloc (.map #[] 0)) (by simp [execOp, ho, run_makeMap]) (h _ rfl _ (heap_alloc_new W _) (below_alloc (Below.refl _ _) _) (by show (W.heap.push _).size = _; rw [Array.size_push]))
theorem insert_event (hgd : o.guard = none) (hN : o.dst = none) (t kt et : TypeId) (m k x : Operand) (ho : o.op = .insert t m k x) (r clock : Nat) (es : Array MapEntry) (kk : Int) (v : Value) (hm : a.eval m = .map (some r)) (hk : a.eval k = .int .u8 kk) (hx : a.eval x = v)
    (ht : P.underlying t = some (.map kt et)) (hkt : P.underlying kt = some (.int .u8)) (hb : W.heap[r]? = some (.map es clock)) (hs : KeysB es.toList) (hn : findB kk es.toList 0 = none)
    (h : ∀ w1, w1 = setB W r (.map (es.push ⟨.int .u8 kk, v, clock⟩) (clock + 1)) → wpList P ops Q rest a w1) : wpList P ops Q (o :: rest) a W := by
  refine wpList_plain hgd fun K hK => ?_
  unfold Oper.wp
  have hr := run_update_B ht hkt hb hs kk hn v
  have e : (execOp a.eval o).run P W = .ok .skip (setB W r (.map (es.push ⟨.int .u8 kk, v, clock⟩) (clock + 1))) := by
    simp [execOp, ho, hm, hk, hx, hr, setB]
  rw [e]
  show K (a.put o.dst undef) _
  rw [hN]
  exact hK _ _ (h _ rfl)
end
end Go.Proofs.Ytljobjpldbdhoaa.X
namespace Go.Proofs.Ytljobjpldbdhoaa.X
open Go.RowKit Go.Proofs.YtljobjpldbdhoaaW.PrintWords Go.Proofs.YtljobjpldbdhoaaW.PrintLast Go.Proofs.YtljobjpldbdhoaaW.PrintMore
set_option linter.unusedVariables false
set_option linter.unusedSimpArgs false
/-- The value that writes and reads a kind; none. -/
def codecV (k : Int) : Value := if k = 68 then .iface 62 (.agg #[]) else if k = 85 then .iface 63 (.agg #[]) else if k = 82 then .iface 64 (.agg #[]) else if k = 80 then .iface 65 (.agg #[]) else .nilIface
def ent (k : Int) (t : TypeId) (i : Nat) : MapEntry := ⟨.int .u8 k, .iface t (.agg #[]), i⟩
def codecs : Array MapEntry := #[ent 68 62 0, ent 85 63 1, ent 82 64 2, ent 80 65 3]
theorem codec_find (k : Int) : ((findB k codecs.toList 0).map (·.2)).getD .nilIface = codecV k := by
  simp only [codecs, findB, ent, codecV]
  split
  · rfl
  split
  · rfl
  split
  · rfl
  split <;> rfl
set_option maxHeartbeats 8000000 in
set_option maxRecDepth 100000 in
theorem codecOf_calls (k : Int) (w : World) : Calls Try.prog 17 #[.int .u8 k] w fun e w' => e = .returned (codecV k) ∧ Below w.heap.size w w' := by
  have HT := Aside0.mk (Try.underlying66); have HK := Aside0.mk Try.underlying5
  have hz : ∀ W : World, (zeroValue 44).run Try.prog W = .ok .nilIface W := fun W => (by kernel_rfl)
  go_enter Try.func17, Try.ntmps17
  go_upto_region 2 with (first
    | ((with_reducible refine gd_ 4 rfl ?_); refine makeMap_event rfl rfl ?_; intro b hb w1 h1 hB hsz; have H1 := Aside0.mk h1; have HB := Aside0.mk hB; have HL := Aside0.mk (show w.heap.size ≤ b by rw [hb]; exact Nat.le_refl _); have HS := Aside0.mk (show b < w1.heap.size by rw [hb, hsz]; exact Nat.lt_succ_self _); clear h1 hB hb hsz)
    | (refine insert_event rfl rfl _ _ _ _ (.const (.int .u8 68)) _ rfl b 0 #[] 68 _ rfl rfl rfl HT.out HK.out H1.out (fun e he => by cases he) rfl ?_; intro w2 h2; have H2 : Aside0 (w2.heap[b]? = some (.map #[ent 68 62 0] 1)) := ⟨by rw [h2]; exact setB_at HS.out _⟩; have HB2 : Aside0 (Below w.heap.size w w2) := ⟨by rw [h2]; exact below_setB HB.out HL.out _⟩; have HS2 : Aside0 (b < w2.heap.size) := ⟨by rw [h2, setB_size]; exact HS.out⟩; clear h2)
    | (refine insert_event rfl rfl _ _ _ _ (.const (.int .u8 85)) _ rfl b 1 #[ent 68 62 0] 85 _ rfl rfl rfl HT.out HK.out H2.out (by intro e he; simp at he; subst he; exact ⟨_, rfl⟩) rfl ?_; intro w3 h2; have H3 : Aside0 (w3.heap[b]? = some (.map #[ent 68 62 0, ent 85 63 1] 2)) := ⟨by rw [h2]; exact setB_at HS2.out _⟩; have HB3 : Aside0 (Below w.heap.size w w3) := ⟨by rw [h2]; exact below_setB HB2.out HL.out _⟩; have HS3 : Aside0 (b < w3.heap.size) := ⟨by rw [h2, setB_size]; exact HS2.out⟩; clear h2)
    | (refine insert_event rfl rfl _ _ _ _ (.const (.int .u8 82)) _ rfl b 2 #[ent 68 62 0, ent 85 63 1] 82 _ rfl rfl rfl HT.out HK.out H3.out (by intro e he; simp at he; rcases he with rfl | rfl <;> exact ⟨_, rfl⟩) rfl ?_; intro w4 h2; have H4 : Aside0 (w4.heap[b]? = some (.map #[ent 68 62 0, ent 85 63 1, ent 82 64 2] 3)) := ⟨by rw [h2]; exact setB_at HS3.out _⟩; have HB4 : Aside0 (Below w.heap.size w w4) := ⟨by rw [h2]; exact below_setB HB3.out HL.out _⟩; have HS4 : Aside0 (b < w4.heap.size) := ⟨by rw [h2, setB_size]; exact HS3.out⟩; clear h2)
    | (refine insert_event rfl rfl _ _ _ _ (.const (.int .u8 80)) _ rfl b 3 #[ent 68 62 0, ent 85 63 1, ent 82 64 2] 80 _ rfl rfl rfl HT.out HK.out H4.out (by intro e he; simp at he; rcases he with rfl | rfl | rfl <;> exact ⟨_, rfl⟩) rfl ?_; intro w5 h2; have H5 : Aside0 (w5.heap[b]? = some (.map codecs 4)) := ⟨by rw [h2]; exact setB_at HS4.out _⟩; have HB5 : Aside0 (Below w.heap.size w w5) := ⟨by rw [h2]; exact below_setB HB4.out HL.out _⟩; clear h2))
  have hl : (Instr.lookup 66 (.map (some b)) (.int .u8 k) false).run Try.prog w5 = .ok (codecV k) w5 := by
    rw [run_lookup_B HT.out HK.out H5.out (by intro e he; simp [codecs] at he; rcases he with rfl | rfl | rfl | rfl <;> exact ⟨_, rfl⟩) (hz w5) k, codec_find]
  go_wp2
  go_ret
  exact ⟨rfl, HB5.out⟩
end Go.Proofs.Ytljobjpldbdhoaa.X
namespace Go.Proofs.Ytljobjpldbdhoaa.X
open Go.RowKit Go.Proofs.YtljobjpldbdhoaaW.PrintWords Go.Proofs.YtljobjpldbdhoaaW.PrintLast Go.Proofs.YtljobjpldbdhoaaW.PrintMore
attribute [local go_sem] max2_int min2_int max_two min_two max_three min_three max_four min_four
set_option linter.unusedVariables false
set_option linter.unusedSimpArgs false

section
/-- A sum's four bytes, the highest first. -/
def sum4 (s : Int) : List Int := [(s / 16777216) % 256, (s / 65536) % 256, (s / 256) % 256, s % 256]
set_option maxHeartbeats 8000000 in
set_option maxRecDepth 100000 in
theorem formSum_calls (k : Nat) (A0 : Option Addr) (c0 : Nat) (l0 : List Int) (s : Int) (w : World) (hr0 : Kd.C (Kd.int .u8) w A0 l0.length l0) (hc0 : l0.length ≤ c0) (h : impl_SumOf.f k l0 = some s) :
    Calls Try.prog 19 #[.slice A0 l0.length c0] w fun e w' => e = .returned (.agg #[.int .u8 ((s / 16777216) % 256), .int .u8 ((s / 65536) % 256), .int .u8 ((s / 256) % 256), .int .u8 (s % 256)]) ∧ Below w.heap.size w w' := by
  have HC0 := Aside0.mk hr0; have HCc := Aside0.mk hc0; have HS := Aside0.mk h; clear hr0 hc0 h
  have hu := Try.underlying47
  have hz : ∀ W : World, (zeroValue 47).run Try.prog W = .ok (.agg #[.int .u8 0, .int .u8 0, .int .u8 0, .int .u8 0]) W := fun W => (by kernel_rfl)
  go_enter Try.func19, Try.ntmps19
  go_wp2_with (first
    | ((with_reducible refine gd_ 2 rfl ?_); refine bx_ 2 rfl #[.int .u8 0, .int .u8 0, .int .u8 0, .int .u8 0] 47 ?_; intro b2 hg w2 hbox hb; have HX2 := Aside0.mk hbox; have HB2 := Aside0.mk hb; have HG2 := Aside0.mk (show w.heap.size ≤ b2 by rw [hg]; exact Nat.le_refl _); clear hb hbox hg)
    | (go_at_call 28; refine (impl_SumOf.calls k A0 c0 l0 s _ (Kd.C_below HC0.out HB2.out) HCc.out HS.out).mono ?_; rintro e w3 ⟨rfl, hd⟩; have hb := hd.below; have HX3 := Aside0.mk (blk_below HX2.out hb); have HB3 := Aside0.mk (below_step HB2.out hb); obtain ⟨x0, x1, x2, x3⟩ := cc4_ HX3.out; obtain ⟨f0, f1, f2, f3⟩ := cf4_ HX3.out; clear hd hb))
  refine bodyPost_ret (results_cell_row rfl _ _ b2 47 #[.int .u8 ((s / 16777216) % 256), .int .u8 ((s / 65536) % 256), .int .u8 ((s / 256) % 256), .int .u8 (s % 256)] (0, 0) _ rfl (blk_set (blk_set (blk_set (blk_set HX3.out 0 _) 1 _) 2 _) 3 _) Try.underlying47 rfl (by kernel_rfl)) rfl ⟨rfl, ?_⟩
  exact (((HB3.out.setCell (p := ⟨b2, 0, none⟩) HG2.out _).setCell (p := ⟨b2, 1, none⟩) HG2.out _).setCell (p := ⟨b2, 2, none⟩) HG2.out _).setCell (p := ⟨b2, 3, none⟩) HG2.out _
end
section
/-- A file: what it is, how long its note is, the note, the body, its sum. -/
def fileL (a0 : Int) (l1 body : List Int) (s : Int) : List Int := (([a0, (l1.length : Int) % 256] ++ l1) ++ body) ++ sum4 s
def fileE (k : Nat) (a0 : Int) (l1 body : List Int) : Option (List Int) := (impl_SumOf.f k body).bind fun s => if body.length ≤ 100000 then some (fileL a0 l1 body s) else none
theorem sum4_C {w : World} {b : Nat} {s : Int} (h : w.heap[b]? = some (.cells #[.int .u8 (s / 16777216 % 256), .int .u8 (s / 65536 % 256), .int .u8 (s / 256 % 256), .int .u8 (s % 256)] 47 (0, 0))) : Kd.C (Kd.int .u8) w (some ⟨b, 0, none⟩) 4 (sum4 s) :=
  Kd.C_of_reads (d := (0 : Int)) (h1 := fun _ => rfl) ⟨rfl, by decide, fun _ => ⟨_, rfl, fun j hj => by
    rw [add_plain]
    match j, hj with
    | 0, _ => exact (blk_cell h 0).trans rfl
    | 1, _ => exact (blk_cell h 1).trans rfl
    | 2, _ => exact (blk_cell h 2).trans rfl
    | 3, _ => exact (blk_cell h 3).trans rfl⟩⟩
set_option maxHeartbeats 8000000 in
set_option maxRecDepth 100000 in
theorem formWriteD_calls (k : Nat) (A1 : Option Addr) (c1 : Nat) (l1 : List Int) (a0 a1 : Int) (A2 : Option Addr) (c2 : Nat) (l2 : List (S53)) (body r : List Int) (w : World) (hr1 : Kd.C (Kd.int .u8) w A1 l1.length l1) (hc1 : l1.length ≤ c1) (hr2 : Kd.C k53 w A2 l2.length l2) (hc2 : l2.length ≤ c2)
    (h9 : l1.length ≤ 9) (hok : impl_RasOk.f k a0 a1 l2 = some true) (hW : ∀ W : World, Below w.heap.size w W → Calls Try.prog 87 #[.agg #[], .agg #[.int .i64 a0, .int .i64 a1, .slice A2 l2.length c2]] W fun e w' => ∃ v, e = .returned v ∧ Kd.R (Kd.int .u8) 5 w' W.heap.size (fun _ => True) v body ∧ Below W.heap.size W w') (h : fileE k 68 l1 body = some r) :
    Calls Try.prog 5 #[.int .u8 68, .slice A1 l1.length c1, .agg #[.int .i64 a0, .int .i64 a1, .slice A2 l2.length c2]] w fun e w' => ∃ v0_ : Value, e = .returned v0_ ∧ Kd.R (Kd.int .u8) 5 w' w.heap.size (fun _ => True) v0_ r ∧ Below w.heap.size w w' := by
  unfold fileE at h
  obtain ⟨s, hs, h⟩ := Option.bind_eq_some_iff.1 h
  by_cases hl : body.length ≤ 100000
  case neg => rw [if_neg hl] at h; cases h
  rw [if_pos hl] at h
  have hr := Option.some.inj h
  have HR := Aside0.mk hr; have HL := Aside0.mk hl; have HS := Aside0.mk hs; have HBD := Aside0.mk hW; have HOK := Aside0.mk hok; have HR1 := Aside0.mk hr1; have HC1 := Aside0.mk hc1; have HR2 := Aside0.mk hr2; have HC2 := Aside0.mk hc2; have H9n := Aside0.mk h9
  clear hr h hl hs hW hok hr1 hc1 hr2 hc2
  have g9 : decide ((9 : Int) < (l1.length : Int)) = false := decide_eq_false (by omega)
  have g9' : decide (9 < l1.length) = false := decide_eq_false (by omega)
  have e1 : wrap64 (2 + (l1.length : Int)) = 2 + (l1.length : Int) := by unfold wrap64; omega
  have e2 : wrap64 (2 + (l1.length : Int) + (body.length : Int)) = 2 + (l1.length : Int) + (body.length : Int) := by have := HL.out; unfold wrap64; omega
  have e3 : wrap64 (2 + (l1.length : Int) + (body.length : Int) + 4) = 2 + (l1.length : Int) + (body.length : Int) + 4 := by have := HL.out; unfold wrap64; omega
  clear h9
  have hu := Try.underlying47
  have hur := Try.underlying25
  have qe : ∀ W : World, (binOp .eql 44 (.iface 62 (.agg #[])) .nilIface).run Try.prog W = .ok (.bool false) W := fun W => (by kernel_rfl)
  have hm : ∀ W : World, (method 227 62 (.agg #[]) "loop.example/easel/impl.write").run Try.prog W = .ok (87, .agg #[]) W := fun W => (by kernel_rfl)   -- 228: the types and 100
  have hz : ∀ W : World, (zeroValue 47).run Try.prog W = .ok (.agg #[.int .u8 0, .int .u8 0, .int .u8 0, .int .u8 0]) W := fun W => (by kernel_rfl)
  go_enter Try.func5, Try.ntmps5
  go_upto_region 6 with (first
    | ((with_reducible refine gd_ 5 rfl ?_); refine bx_ 5 rfl #[.int .i64 a0, .int .i64 a1, .slice A2 l2.length c2] 25 ?_; intro b5 hg w2 hbox hb; have HX2 := Aside0.mk hbox; have HB2 := Aside0.mk hb; obtain ⟨x0, x1, x2⟩ := cc3_ hbox; clear hb hbox hg)
    | (go_at_call 17; refine (codecOf_calls 68 _).mono ?_; rintro e w3 ⟨rfl, hb⟩; have HX3 := Aside0.mk (blk_below HX2.out hb); have HB3 := Aside0.mk (below_step HB2.out hb); rw [show codecV 68 = .iface 62 (.agg #[]) from rfl]; clear x0 x1 x2 hb; obtain ⟨x0, x1, x2⟩ := cc3_ HX3.out)
    | (go_at_call 18; refine (impl_RasOk.calls k a0 a1 A2 c2 l2 true _ (Kd.C_below HR2.out HB3.out) HC2.out HOK.out).mono ?_; rintro e w4 ⟨rfl, hb⟩; have HX4 := Aside0.mk (blk_below HX3.out hb); have HB4 := Aside0.mk (below_step HB3.out hb); clear x0 x1 x2 hb; obtain ⟨x0, x1, x2⟩ := cc3_ HX4.out)
    | (go_at_call 87; refine (HBD.out _ HB4.out).mono ?_; rintro e w5 ⟨v8, rfl, hR, hb⟩; have HO8 := Aside0.mk (Kd.R_lower hR HB4.out.size); have HB5 := Aside0.mk (below_step HB4.out hb); obtain ⟨A8, c8, rfl, hc8, hr8⟩ := Kd.R_reads hR; clear x0 x1 x2 hb hR hc8 hr8)
    | (go_at_call 19; refine (formSum_calls k A8 c8 body s _ (Kd.R_reads' HO8.out).2.2 (Kd.R_reads' HO8.out).2.1 HS.out).mono ?_; rintro e w6 ⟨rfl, hb⟩; have HO6 := Aside0.mk (Kd.R_below HO8.out hb); have HB6 := Aside0.mk (below_step HB5.out hb); clear hb)
    | ((with_reducible refine gd_ 9 rfl ?_); refine bx_ 9 rfl #[.int .u8 0, .int .u8 0, .int .u8 0, .int .u8 0] 47 ?_; intro b9 hg w7 hbox hb; have HX7 := Aside0.mk hbox; have HO7 := Aside0.mk (Kd.R_below (Kd.R_elderB HO6.out b9 (Nat.le_of_eq hg.symm)) hb); have HB7 := Aside0.mk (below_step HB6.out hb); have HG9 := Aside0.mk (show w.heap.size ≤ b9 by rw [hg]; exact HB6.out.size); obtain ⟨y0, y1, y2, y3⟩ := cc4_ hbox; obtain ⟨f0, f1, f2, f3⟩ := cf4_ hbox; clear hb hbox hg))
  generalize hw8 : (((w7.setCell ⟨b9, 0, none⟩ (.int .u8 (s / 16777216 % 256))).setCell ⟨b9, 1, none⟩ (.int .u8 (s / 65536 % 256))).setCell ⟨b9, 2, none⟩ (.int .u8 (s / 256 % 256))).setCell ⟨b9, 3, none⟩ (.int .u8 (s % 256)) = w8
  have H9 : Aside0 (w8.heap[b9]? = some (.cells #[.int .u8 (s / 16777216 % 256), .int .u8 (s / 65536 % 256), .int .u8 (s / 256 % 256), .int .u8 (s % 256)] 47 (0, 0))) := ⟨by rw [← hw8]; exact blk_set (blk_set (blk_set (blk_set HX7.out 0 _) 1 _) 2 _) 3 _⟩
  have H8 : Aside0 (Kd.R (Kd.int .u8) 5 w8 w.heap.size (fun _ => True) (.slice A8 body.length c8) body) := ⟨by
    rw [← hw8]
    have far : ∀ j : Nat, (True ∧ j ≠ b9) → j ≠ b9 := fun j hj => hj.2
    exact Kd.R_mono (Kd.R_far (p := ⟨b9, 3, none⟩) (Kd.R_far (p := ⟨b9, 2, none⟩) (Kd.R_far (p := ⟨b9, 1, none⟩) (Kd.R_far (p := ⟨b9, 0, none⟩) HO7.out far _) far _) far _) far _) (fun _ _ => trivial)⟩
  have HB8 : Aside0 (Below w.heap.size w w8) := ⟨by
    rw [← hw8]
    exact (((HB7.out.setCell (p := ⟨b9, 0, none⟩) HG9.out _).setCell (p := ⟨b9, 1, none⟩) HG9.out _).setCell (p := ⟨b9, 2, none⟩) HG9.out _).setCell (p := ⟨b9, 3, none⟩) HG9.out _⟩
  clear hw8 y0 y1 y2 y3 f0 f1 f2 f3
  go_wp2_with (first
    | ((with_reducible refine gd_ 37 rfl ?_); refine Kd.R_make0 (Kd.int .u8) _ 5 rfl (N := 37) rfl 22 _ _ rfl _ rfl rfl Try.underlying22 (.int .u8 0) 1 info5 rfl (by decide) (by omega) 0 (ok := fun _ => True) (okp := fun _ => True) rfl (fun _ hk => hk) trivial (by first | (rw [e3]; omega) | (simp only [e1, e2, e3]; omega)) (by have := HL.out; have := H9n.out; first | (rw [e3]; omega) | (simp only [e1, e2, e3]; omega)) (Below.refl _ _) (Nat.le_refl _) ?_; intro v10 w9 ho hb hg_ hnew_; clear hg_ hnew_; have H9a := Aside0.mk (blk_below H9.out hb); have HO9 := Aside0.mk (Kd.R_elder' H8.out (Kd.R_base ho) hb); have HF9 := Aside0.mk (Kd.R_lower (Kd.R_new' ho (Kd.R_lt H8.out)) HB8.out.size); have HB9 := Aside0.mk (below_step HB8.out hb); clear ho hb)
    | ((with_reducible refine gd_ 43 rfl ?_); refine Kd.R_lit (Kd.int .u8) _ 5 ?hg (N := 43) ?hd (xs := ([68, (l1.length : Int) % 256] : List Int)) (inner := [.int .u8 68, .int .u8 ((l1.length : Int) % 256)]) (ok := fun _ => True) (okp := fun _ => True) ?hr ?hp (fun _ hk => hk) trivial (Below.refl _ _) (Nat.le_refl _) (by simp) ?_; (case hd => rfl); (case hg => rfl); (case hr => first | (go_simp; done) | (go_simp; rfl)); (case hp => exact (Reps.one (show Kd.M (Kd.int .u8) _ _ _ 68 [.int .u8 68] from rfl) (Reps.one (show Kd.M (Kd.int .u8) _ _ _ ((l1.length : Int) % 256) [.int .u8 ((l1.length : Int) % 256)] from rfl) (Reps.none _ _)))); intro v12 w10 ho hb hg_ hnew_; clear hg_ hnew_; have H9b := Aside0.mk (blk_below H9a.out hb); have HO10 := Aside0.mk (Kd.R_mono (Kd.R_elder' HO9.out (Kd.R_base ho) hb) (fun _ hk => hk.1)); have HF10 := Aside0.mk (Kd.R_mono (Kd.R_elder' HF9.out (Kd.R_base ho) hb) (fun _ hk => hk.1)); have HL10 := Aside0.mk ho; have HB10 := Aside0.mk (below_step HB9.out hb); obtain ⟨A12, c12, e12⟩ := Kd.R_slice HL10.out; subst e12; clear ho hb)
    | ((with_reducible refine gate_builtin (b := .append) (xs := #[.tmp 38, .tmp 43]) rfl ?_); at_builtin; refine Kd.R_append_rows (Kd.int .u8) (w0 := w) w.heap.size rfl (.tmp 38) (.tmp 43) 22 5 (.int .u8 0) 1 rfl Try.underlying22 info5 rfl (by decide) (by omega) v10 [] ([68, (l1.length : Int) % 256] : List Int) _ _ _ (fun k_ => True ∧ some k_ ≠ (.slice A8 body.length c8 : Value).ownBlock) (fun _ => False) rfl rfl HF10.out ((Kd.R_reads' HL10.out).2.2) (fun _ _ h => h) (fun _ h => h.elim) (fun k_ hk => ⟨trivial, Kd.fresh' (Kd.R_lt HO10.out) k_ hk⟩) HB10.out HB10.out.size (by simp) ?_; intro v13 w11 ho hb hg hat; have H9c := Aside0.mk (blk_grown H9b.out hg (Kd.R_ne HF10.out H9b.out (by decide))); have HO11 := Aside0.mk (Kd.R_after (ok := fun _ => True) HO10.out hg hat); have HB11 := Aside0.mk hb; have HF11 := Aside0.mk ho; clear ho hb hg hat)
    | ((with_reducible refine gate_builtin (b := .append) (xs := #[.tmp 45, .tmp 46]) rfl ?_); at_builtin; refine Kd.R_append_rows (Kd.int .u8) (w0 := w) w.heap.size rfl (.tmp 45) (.tmp 46) 22 5 (.int .u8 0) 1 rfl Try.underlying22 info5 rfl (by decide) (by omega) v13 ([] ++ ([68, (l1.length : Int) % 256] : List Int)) l1 _ _ _ (fun k_ => True ∧ some k_ ≠ (.slice A8 body.length c8 : Value).ownBlock) (fun _ => False) rfl rfl HF11.out (Kd.C_below HR1.out HB11.out) (fun _ _ h => h) (fun _ h => h.elim) (fun k_ hk => ⟨trivial, Kd.fresh' (Kd.R_lt HO11.out) k_ hk⟩) HB11.out HB11.out.size (by have := H9n.out; simp only [List.nil_append, List.length_cons, List.length_nil]; omega) ?_; intro v14 w12 ho hb hg hat; have H9d := Aside0.mk (blk_grown H9c.out hg (Kd.R_ne HF11.out H9c.out (by decide))); have HO12 := Aside0.mk (Kd.R_after (ok := fun _ => True) HO11.out hg hat); have HB12 := Aside0.mk hb; have HF12 := Aside0.mk ho; clear ho hb hg hat)
    | ((with_reducible refine gate_builtin (b := .append) (xs := #[.tmp 48, .tmp 49]) rfl ?_); at_builtin; refine Kd.R_append_rows (Kd.int .u8) (w0 := w) w.heap.size rfl (.tmp 48) (.tmp 49) 22 5 (.int .u8 0) 1 rfl Try.underlying22 info5 rfl (by decide) (by omega) v14 (([] ++ ([68, (l1.length : Int) % 256] : List Int)) ++ l1) body _ _ _ (fun k_ => True ∧ some k_ ≠ (.slice A8 body.length c8 : Value).ownBlock) (fun _ => False) rfl rfl HF12.out ((Kd.R_reads' HO12.out).2.2) (fun _ _ h => h) (fun _ h => h.elim) (fun k_ hk => ⟨trivial, Kd.fresh' (Kd.R_lt HO12.out) k_ hk⟩) HB12.out HB12.out.size (by have := H9n.out; have := HL.out; simp only [List.nil_append, List.length_append, List.length_cons, List.length_nil]; omega) ?_; intro v15 w13 ho hb hg hat; have H9e := Aside0.mk (blk_grown H9d.out hg (Kd.R_ne HF12.out H9d.out (by decide))); have HO13 := Aside0.mk (Kd.R_after (ok := fun _ => True) HO12.out hg hat); have HB13 := Aside0.mk hb; have HF13 := Aside0.mk ho; clear ho hb hg hat)
    | ((with_reducible refine gate_builtin (b := .append) (xs := #[.tmp 51, .tmp 52]) rfl ?_); at_builtin; refine Kd.R_append_rows (Kd.int .u8) (w0 := w) w.heap.size rfl (.tmp 51) (.tmp 52) 22 5 (.int .u8 0) 1 rfl Try.underlying22 info5 rfl (by decide) (by omega) v15 ((([] ++ ([68, (l1.length : Int) % 256] : List Int)) ++ l1) ++ body) (sum4 s) _ _ _ (fun k_ => True ∧ some k_ ≠ (.slice A8 body.length c8 : Value).ownBlock) (fun _ => False) rfl rfl HF13.out (sum4_C H9e.out) (fun _ _ h => h) (fun _ h => h.elim) (fun k_ hk => ⟨trivial, Kd.fresh' (Kd.R_lt HO13.out) k_ hk⟩) HB13.out HB13.out.size (by have := H9n.out; have := HL.out; simp only [List.nil_append, List.length_append, List.length_cons, List.length_nil]; omega) ?_; intro v16 w14 ho hb hg hat; have H9f := Aside0.mk (blk_grown H9e.out hg (Kd.R_ne HF13.out H9e.out (by decide))); have HO14 := Aside0.mk (Kd.R_after (ok := fun _ => True) HO13.out hg hat); have HB14 := Aside0.mk hb; have HF14 := Aside0.mk ho; clear ho hb hg hat))
  go_ret
  refine ⟨v16, rfl, ?_, HB14.out⟩
  rw [← HR.out]
  exact Kd.R_mono HF14.out (fun _ _ => trivial)
set_option maxHeartbeats 8000000 in
set_option maxRecDepth 100000 in
theorem formWriteDN_calls (k : Nat) (A1 : Option Addr) (c1 : Nat) (l1 : List Int) (a0 a1 : Int) (A2 : Option Addr) (c2 : Nat) (l2 : List (S53)) (w : World) (hr2 : Kd.C k53 w A2 l2.length l2) (hc2 : l2.length ≤ c2)
    (h : 9 < l1.length ∨ (¬ 9 < l1.length ∧ impl_RasOk.f k a0 a1 l2 = some false)) :
    Calls Try.prog 5 #[.int .u8 68, .slice A1 l1.length c1, .agg #[.int .i64 a0, .int .i64 a1, .slice A2 l2.length c2]] w fun e w' => e = .returned (.slice none 0 0) ∧ Below w.heap.size w w' := by
  have HR2 := Aside0.mk hr2; have HC2 := Aside0.mk hc2; clear hr2 hc2
  have hur := Try.underlying25
  have qe : ∀ W : World, (binOp .eql 44 (.iface 62 (.agg #[])) .nilIface).run Try.prog W = .ok (.bool false) W := fun W => (by kernel_rfl)
  rcases h with h9 | ⟨h9, hok⟩
  · have g9 : decide ((9 : Int) < (l1.length : Int)) = true := decide_eq_true (by omega)
    have g9' : decide (9 < l1.length) = true := decide_eq_true (by omega)
    clear h9
    go_enter Try.func5, Try.ntmps5
    go_wp2_with (first
      | ((with_reducible refine gd_ 5 rfl ?_); refine bx_ 5 rfl #[.int .i64 a0, .int .i64 a1, .slice A2 l2.length c2] 25 ?_; intro b5 hg w2 hbox hb; have HX2 := Aside0.mk hbox; have HB2 := Aside0.mk hb; obtain ⟨x0, x1, x2⟩ := cc3_ hbox; clear hb hbox hg)
      | (go_at_call 17; refine (codecOf_calls 68 _).mono ?_; rintro e w3 ⟨rfl, hb⟩; have HX3 := Aside0.mk (blk_below HX2.out hb); have HB3 := Aside0.mk (below_step HB2.out hb); rw [show codecV 68 = .iface 62 (.agg #[]) from rfl]; clear x0 x1 x2 hb; obtain ⟨x0, x1, x2⟩ := cc3_ HX3.out))
    go_ret
    exact ⟨rfl, HB3.out⟩
  · have g9 : decide ((9 : Int) < (l1.length : Int)) = false := decide_eq_false (by omega)
    have g9' : decide (9 < l1.length) = false := decide_eq_false (by omega)
    have HOK := Aside0.mk hok
    clear h9 hok
    go_enter Try.func5, Try.ntmps5
    go_wp2_with (first
      | ((with_reducible refine gd_ 5 rfl ?_); refine bx_ 5 rfl #[.int .i64 a0, .int .i64 a1, .slice A2 l2.length c2] 25 ?_; intro b5 hg w2 hbox hb; have HX2 := Aside0.mk hbox; have HB2 := Aside0.mk hb; obtain ⟨x0, x1, x2⟩ := cc3_ hbox; clear hb hbox hg)
      | (go_at_call 17; refine (codecOf_calls 68 _).mono ?_; rintro e w3 ⟨rfl, hb⟩; have HX3 := Aside0.mk (blk_below HX2.out hb); have HB3 := Aside0.mk (below_step HB2.out hb); rw [show codecV 68 = .iface 62 (.agg #[]) from rfl]; clear x0 x1 x2 hb; obtain ⟨x0, x1, x2⟩ := cc3_ HX3.out)
      | (go_at_call 18; refine (impl_RasOk.calls k a0 a1 A2 c2 l2 false _ (Kd.C_below HR2.out HB3.out) HC2.out HOK.out).mono ?_; rintro e w4 ⟨rfl, hb⟩; have HB4 := Aside0.mk (below_step HB3.out hb); clear x0 x1 x2 hb))
    go_ret
    exact ⟨rfl, HB4.out⟩
set_option maxHeartbeats 8000000 in
set_option maxRecDepth 100000 in
theorem formWriteU_calls (k : Nat) (A1 : Option Addr) (c1 : Nat) (l1 : List Int) (a0 a1 : Int) (A2 : Option Addr) (c2 : Nat) (l2 : List (S53)) (body r : List Int) (w : World) (hr1 : Kd.C (Kd.int .u8) w A1 l1.length l1) (hc1 : l1.length ≤ c1) (hr2 : Kd.C k53 w A2 l2.length l2) (hc2 : l2.length ≤ c2)
    (h9 : l1.length ≤ 9) (hok : impl_RasOk.f k a0 a1 l2 = some true) (hW : ∀ W : World, Below w.heap.size w W → Calls Try.prog 91 #[.agg #[], .agg #[.int .i64 a0, .int .i64 a1, .slice A2 l2.length c2]] W fun e w' => ∃ v, e = .returned v ∧ Kd.R (Kd.int .u8) 5 w' W.heap.size (fun _ => True) v body ∧ Below W.heap.size W w') (h : fileE k 85 l1 body = some r) :
    Calls Try.prog 5 #[.int .u8 85, .slice A1 l1.length c1, .agg #[.int .i64 a0, .int .i64 a1, .slice A2 l2.length c2]] w fun e w' => ∃ v0_ : Value, e = .returned v0_ ∧ Kd.R (Kd.int .u8) 5 w' w.heap.size (fun _ => True) v0_ r ∧ Below w.heap.size w w' := by
  unfold fileE at h
  obtain ⟨s, hs, h⟩ := Option.bind_eq_some_iff.1 h
  by_cases hl : body.length ≤ 100000
  case neg => rw [if_neg hl] at h; cases h
  rw [if_pos hl] at h
  have hr := Option.some.inj h
  have HR := Aside0.mk hr; have HL := Aside0.mk hl; have HS := Aside0.mk hs; have HBD := Aside0.mk hW; have HOK := Aside0.mk hok; have HR1 := Aside0.mk hr1; have HC1 := Aside0.mk hc1; have HR2 := Aside0.mk hr2; have HC2 := Aside0.mk hc2; have H9n := Aside0.mk h9
  clear hr h hl hs hW hok hr1 hc1 hr2 hc2
  have g9 : decide ((9 : Int) < (l1.length : Int)) = false := decide_eq_false (by omega)
  have g9' : decide (9 < l1.length) = false := decide_eq_false (by omega)
  have e1 : wrap64 (2 + (l1.length : Int)) = 2 + (l1.length : Int) := by unfold wrap64; omega
  have e2 : wrap64 (2 + (l1.length : Int) + (body.length : Int)) = 2 + (l1.length : Int) + (body.length : Int) := by have := HL.out; unfold wrap64; omega
  have e3 : wrap64 (2 + (l1.length : Int) + (body.length : Int) + 4) = 2 + (l1.length : Int) + (body.length : Int) + 4 := by have := HL.out; unfold wrap64; omega
  clear h9
  have hu := Try.underlying47
  have hur := Try.underlying25
  have qe : ∀ W : World, (binOp .eql 44 (.iface 63 (.agg #[])) .nilIface).run Try.prog W = .ok (.bool false) W := fun W => (by kernel_rfl)
  have hm : ∀ W : World, (method 227 63 (.agg #[]) "loop.example/easel/impl.write").run Try.prog W = .ok (91, .agg #[]) W := fun W => (by kernel_rfl)   -- 228: the types and 100
  have hz : ∀ W : World, (zeroValue 47).run Try.prog W = .ok (.agg #[.int .u8 0, .int .u8 0, .int .u8 0, .int .u8 0]) W := fun W => (by kernel_rfl)
  go_enter Try.func5, Try.ntmps5
  go_upto_region 6 with (first
    | ((with_reducible refine gd_ 5 rfl ?_); refine bx_ 5 rfl #[.int .i64 a0, .int .i64 a1, .slice A2 l2.length c2] 25 ?_; intro b5 hg w2 hbox hb; have HX2 := Aside0.mk hbox; have HB2 := Aside0.mk hb; obtain ⟨x0, x1, x2⟩ := cc3_ hbox; clear hb hbox hg)
    | (go_at_call 17; refine (codecOf_calls 85 _).mono ?_; rintro e w3 ⟨rfl, hb⟩; have HX3 := Aside0.mk (blk_below HX2.out hb); have HB3 := Aside0.mk (below_step HB2.out hb); rw [show codecV 85 = .iface 63 (.agg #[]) from rfl]; clear x0 x1 x2 hb; obtain ⟨x0, x1, x2⟩ := cc3_ HX3.out)
    | (go_at_call 18; refine (impl_RasOk.calls k a0 a1 A2 c2 l2 true _ (Kd.C_below HR2.out HB3.out) HC2.out HOK.out).mono ?_; rintro e w4 ⟨rfl, hb⟩; have HX4 := Aside0.mk (blk_below HX3.out hb); have HB4 := Aside0.mk (below_step HB3.out hb); clear x0 x1 x2 hb; obtain ⟨x0, x1, x2⟩ := cc3_ HX4.out)
    | (go_at_call 91; refine (HBD.out _ HB4.out).mono ?_; rintro e w5 ⟨v8, rfl, hR, hb⟩; have HO8 := Aside0.mk (Kd.R_lower hR HB4.out.size); have HB5 := Aside0.mk (below_step HB4.out hb); obtain ⟨A8, c8, rfl, hc8, hr8⟩ := Kd.R_reads hR; clear x0 x1 x2 hb hR hc8 hr8)
    | (go_at_call 19; refine (formSum_calls k A8 c8 body s _ (Kd.R_reads' HO8.out).2.2 (Kd.R_reads' HO8.out).2.1 HS.out).mono ?_; rintro e w6 ⟨rfl, hb⟩; have HO6 := Aside0.mk (Kd.R_below HO8.out hb); have HB6 := Aside0.mk (below_step HB5.out hb); clear hb)
    | ((with_reducible refine gd_ 9 rfl ?_); refine bx_ 9 rfl #[.int .u8 0, .int .u8 0, .int .u8 0, .int .u8 0] 47 ?_; intro b9 hg w7 hbox hb; have HX7 := Aside0.mk hbox; have HO7 := Aside0.mk (Kd.R_below (Kd.R_elderB HO6.out b9 (Nat.le_of_eq hg.symm)) hb); have HB7 := Aside0.mk (below_step HB6.out hb); have HG9 := Aside0.mk (show w.heap.size ≤ b9 by rw [hg]; exact HB6.out.size); obtain ⟨y0, y1, y2, y3⟩ := cc4_ hbox; obtain ⟨f0, f1, f2, f3⟩ := cf4_ hbox; clear hb hbox hg))
  generalize hw8 : (((w7.setCell ⟨b9, 0, none⟩ (.int .u8 (s / 16777216 % 256))).setCell ⟨b9, 1, none⟩ (.int .u8 (s / 65536 % 256))).setCell ⟨b9, 2, none⟩ (.int .u8 (s / 256 % 256))).setCell ⟨b9, 3, none⟩ (.int .u8 (s % 256)) = w8
  have H9 : Aside0 (w8.heap[b9]? = some (.cells #[.int .u8 (s / 16777216 % 256), .int .u8 (s / 65536 % 256), .int .u8 (s / 256 % 256), .int .u8 (s % 256)] 47 (0, 0))) := ⟨by rw [← hw8]; exact blk_set (blk_set (blk_set (blk_set HX7.out 0 _) 1 _) 2 _) 3 _⟩
  have H8 : Aside0 (Kd.R (Kd.int .u8) 5 w8 w.heap.size (fun _ => True) (.slice A8 body.length c8) body) := ⟨by
    rw [← hw8]
    have far : ∀ j : Nat, (True ∧ j ≠ b9) → j ≠ b9 := fun j hj => hj.2
    exact Kd.R_mono (Kd.R_far (p := ⟨b9, 3, none⟩) (Kd.R_far (p := ⟨b9, 2, none⟩) (Kd.R_far (p := ⟨b9, 1, none⟩) (Kd.R_far (p := ⟨b9, 0, none⟩) HO7.out far _) far _) far _) far _) (fun _ _ => trivial)⟩
  have HB8 : Aside0 (Below w.heap.size w w8) := ⟨by
    rw [← hw8]
    exact (((HB7.out.setCell (p := ⟨b9, 0, none⟩) HG9.out _).setCell (p := ⟨b9, 1, none⟩) HG9.out _).setCell (p := ⟨b9, 2, none⟩) HG9.out _).setCell (p := ⟨b9, 3, none⟩) HG9.out _⟩
  clear hw8 y0 y1 y2 y3 f0 f1 f2 f3
  go_wp2_with (first
    | ((with_reducible refine gd_ 37 rfl ?_); refine Kd.R_make0 (Kd.int .u8) _ 5 rfl (N := 37) rfl 22 _ _ rfl _ rfl rfl Try.underlying22 (.int .u8 0) 1 info5 rfl (by decide) (by omega) 0 (ok := fun _ => True) (okp := fun _ => True) rfl (fun _ hk => hk) trivial (by first | (rw [e3]; omega) | (simp only [e1, e2, e3]; omega)) (by have := HL.out; have := H9n.out; first | (rw [e3]; omega) | (simp only [e1, e2, e3]; omega)) (Below.refl _ _) (Nat.le_refl _) ?_; intro v10 w9 ho hb hg_ hnew_; clear hg_ hnew_; have H9a := Aside0.mk (blk_below H9.out hb); have HO9 := Aside0.mk (Kd.R_elder' H8.out (Kd.R_base ho) hb); have HF9 := Aside0.mk (Kd.R_lower (Kd.R_new' ho (Kd.R_lt H8.out)) HB8.out.size); have HB9 := Aside0.mk (below_step HB8.out hb); clear ho hb)
    | ((with_reducible refine gd_ 43 rfl ?_); refine Kd.R_lit (Kd.int .u8) _ 5 ?hg (N := 43) ?hd (xs := ([85, (l1.length : Int) % 256] : List Int)) (inner := [.int .u8 85, .int .u8 ((l1.length : Int) % 256)]) (ok := fun _ => True) (okp := fun _ => True) ?hr ?hp (fun _ hk => hk) trivial (Below.refl _ _) (Nat.le_refl _) (by simp) ?_; (case hd => rfl); (case hg => rfl); (case hr => first | (go_simp; done) | (go_simp; rfl)); (case hp => exact (Reps.one (show Kd.M (Kd.int .u8) _ _ _ 85 [.int .u8 85] from rfl) (Reps.one (show Kd.M (Kd.int .u8) _ _ _ ((l1.length : Int) % 256) [.int .u8 ((l1.length : Int) % 256)] from rfl) (Reps.none _ _)))); intro v12 w10 ho hb hg_ hnew_; clear hg_ hnew_; have H9b := Aside0.mk (blk_below H9a.out hb); have HO10 := Aside0.mk (Kd.R_mono (Kd.R_elder' HO9.out (Kd.R_base ho) hb) (fun _ hk => hk.1)); have HF10 := Aside0.mk (Kd.R_mono (Kd.R_elder' HF9.out (Kd.R_base ho) hb) (fun _ hk => hk.1)); have HL10 := Aside0.mk ho; have HB10 := Aside0.mk (below_step HB9.out hb); obtain ⟨A12, c12, e12⟩ := Kd.R_slice HL10.out; subst e12; clear ho hb)
    | ((with_reducible refine gate_builtin (b := .append) (xs := #[.tmp 38, .tmp 43]) rfl ?_); at_builtin; refine Kd.R_append_rows (Kd.int .u8) (w0 := w) w.heap.size rfl (.tmp 38) (.tmp 43) 22 5 (.int .u8 0) 1 rfl Try.underlying22 info5 rfl (by decide) (by omega) v10 [] ([85, (l1.length : Int) % 256] : List Int) _ _ _ (fun k_ => True ∧ some k_ ≠ (.slice A8 body.length c8 : Value).ownBlock) (fun _ => False) rfl rfl HF10.out ((Kd.R_reads' HL10.out).2.2) (fun _ _ h => h) (fun _ h => h.elim) (fun k_ hk => ⟨trivial, Kd.fresh' (Kd.R_lt HO10.out) k_ hk⟩) HB10.out HB10.out.size (by simp) ?_; intro v13 w11 ho hb hg hat; have H9c := Aside0.mk (blk_grown H9b.out hg (Kd.R_ne HF10.out H9b.out (by decide))); have HO11 := Aside0.mk (Kd.R_after (ok := fun _ => True) HO10.out hg hat); have HB11 := Aside0.mk hb; have HF11 := Aside0.mk ho; clear ho hb hg hat)
    | ((with_reducible refine gate_builtin (b := .append) (xs := #[.tmp 45, .tmp 46]) rfl ?_); at_builtin; refine Kd.R_append_rows (Kd.int .u8) (w0 := w) w.heap.size rfl (.tmp 45) (.tmp 46) 22 5 (.int .u8 0) 1 rfl Try.underlying22 info5 rfl (by decide) (by omega) v13 ([] ++ ([85, (l1.length : Int) % 256] : List Int)) l1 _ _ _ (fun k_ => True ∧ some k_ ≠ (.slice A8 body.length c8 : Value).ownBlock) (fun _ => False) rfl rfl HF11.out (Kd.C_below HR1.out HB11.out) (fun _ _ h => h) (fun _ h => h.elim) (fun k_ hk => ⟨trivial, Kd.fresh' (Kd.R_lt HO11.out) k_ hk⟩) HB11.out HB11.out.size (by have := H9n.out; simp only [List.nil_append, List.length_cons, List.length_nil]; omega) ?_; intro v14 w12 ho hb hg hat; have H9d := Aside0.mk (blk_grown H9c.out hg (Kd.R_ne HF11.out H9c.out (by decide))); have HO12 := Aside0.mk (Kd.R_after (ok := fun _ => True) HO11.out hg hat); have HB12 := Aside0.mk hb; have HF12 := Aside0.mk ho; clear ho hb hg hat)
    | ((with_reducible refine gate_builtin (b := .append) (xs := #[.tmp 48, .tmp 49]) rfl ?_); at_builtin; refine Kd.R_append_rows (Kd.int .u8) (w0 := w) w.heap.size rfl (.tmp 48) (.tmp 49) 22 5 (.int .u8 0) 1 rfl Try.underlying22 info5 rfl (by decide) (by omega) v14 (([] ++ ([85, (l1.length : Int) % 256] : List Int)) ++ l1) body _ _ _ (fun k_ => True ∧ some k_ ≠ (.slice A8 body.length c8 : Value).ownBlock) (fun _ => False) rfl rfl HF12.out ((Kd.R_reads' HO12.out).2.2) (fun _ _ h => h) (fun _ h => h.elim) (fun k_ hk => ⟨trivial, Kd.fresh' (Kd.R_lt HO12.out) k_ hk⟩) HB12.out HB12.out.size (by have := H9n.out; have := HL.out; simp only [List.nil_append, List.length_append, List.length_cons, List.length_nil]; omega) ?_; intro v15 w13 ho hb hg hat; have H9e := Aside0.mk (blk_grown H9d.out hg (Kd.R_ne HF12.out H9d.out (by decide))); have HO13 := Aside0.mk (Kd.R_after (ok := fun _ => True) HO12.out hg hat); have HB13 := Aside0.mk hb; have HF13 := Aside0.mk ho; clear ho hb hg hat)
    | ((with_reducible refine gate_builtin (b := .append) (xs := #[.tmp 51, .tmp 52]) rfl ?_); at_builtin; refine Kd.R_append_rows (Kd.int .u8) (w0 := w) w.heap.size rfl (.tmp 51) (.tmp 52) 22 5 (.int .u8 0) 1 rfl Try.underlying22 info5 rfl (by decide) (by omega) v15 ((([] ++ ([85, (l1.length : Int) % 256] : List Int)) ++ l1) ++ body) (sum4 s) _ _ _ (fun k_ => True ∧ some k_ ≠ (.slice A8 body.length c8 : Value).ownBlock) (fun _ => False) rfl rfl HF13.out (sum4_C H9e.out) (fun _ _ h => h) (fun _ h => h.elim) (fun k_ hk => ⟨trivial, Kd.fresh' (Kd.R_lt HO13.out) k_ hk⟩) HB13.out HB13.out.size (by have := H9n.out; have := HL.out; simp only [List.nil_append, List.length_append, List.length_cons, List.length_nil]; omega) ?_; intro v16 w14 ho hb hg hat; have H9f := Aside0.mk (blk_grown H9e.out hg (Kd.R_ne HF13.out H9e.out (by decide))); have HO14 := Aside0.mk (Kd.R_after (ok := fun _ => True) HO13.out hg hat); have HB14 := Aside0.mk hb; have HF14 := Aside0.mk ho; clear ho hb hg hat))
  go_ret
  refine ⟨v16, rfl, ?_, HB14.out⟩
  rw [← HR.out]
  exact Kd.R_mono HF14.out (fun _ _ => trivial)
set_option maxHeartbeats 8000000 in
set_option maxRecDepth 100000 in
theorem formWriteUN_calls (k : Nat) (A1 : Option Addr) (c1 : Nat) (l1 : List Int) (a0 a1 : Int) (A2 : Option Addr) (c2 : Nat) (l2 : List (S53)) (w : World) (hr2 : Kd.C k53 w A2 l2.length l2) (hc2 : l2.length ≤ c2)
    (h : 9 < l1.length ∨ (¬ 9 < l1.length ∧ impl_RasOk.f k a0 a1 l2 = some false)) :
    Calls Try.prog 5 #[.int .u8 85, .slice A1 l1.length c1, .agg #[.int .i64 a0, .int .i64 a1, .slice A2 l2.length c2]] w fun e w' => e = .returned (.slice none 0 0) ∧ Below w.heap.size w w' := by
  have HR2 := Aside0.mk hr2; have HC2 := Aside0.mk hc2; clear hr2 hc2
  have hur := Try.underlying25
  have qe : ∀ W : World, (binOp .eql 44 (.iface 63 (.agg #[])) .nilIface).run Try.prog W = .ok (.bool false) W := fun W => (by kernel_rfl)
  rcases h with h9 | ⟨h9, hok⟩
  · have g9 : decide ((9 : Int) < (l1.length : Int)) = true := decide_eq_true (by omega)
    have g9' : decide (9 < l1.length) = true := decide_eq_true (by omega)
    clear h9
    go_enter Try.func5, Try.ntmps5
    go_wp2_with (first
      | ((with_reducible refine gd_ 5 rfl ?_); refine bx_ 5 rfl #[.int .i64 a0, .int .i64 a1, .slice A2 l2.length c2] 25 ?_; intro b5 hg w2 hbox hb; have HX2 := Aside0.mk hbox; have HB2 := Aside0.mk hb; obtain ⟨x0, x1, x2⟩ := cc3_ hbox; clear hb hbox hg)
      | (go_at_call 17; refine (codecOf_calls 85 _).mono ?_; rintro e w3 ⟨rfl, hb⟩; have HX3 := Aside0.mk (blk_below HX2.out hb); have HB3 := Aside0.mk (below_step HB2.out hb); rw [show codecV 85 = .iface 63 (.agg #[]) from rfl]; clear x0 x1 x2 hb; obtain ⟨x0, x1, x2⟩ := cc3_ HX3.out))
    go_ret
    exact ⟨rfl, HB3.out⟩
  · have g9 : decide ((9 : Int) < (l1.length : Int)) = false := decide_eq_false (by omega)
    have g9' : decide (9 < l1.length) = false := decide_eq_false (by omega)
    have HOK := Aside0.mk hok
    clear h9 hok
    go_enter Try.func5, Try.ntmps5
    go_wp2_with (first
      | ((with_reducible refine gd_ 5 rfl ?_); refine bx_ 5 rfl #[.int .i64 a0, .int .i64 a1, .slice A2 l2.length c2] 25 ?_; intro b5 hg w2 hbox hb; have HX2 := Aside0.mk hbox; have HB2 := Aside0.mk hb; obtain ⟨x0, x1, x2⟩ := cc3_ hbox; clear hb hbox hg)
      | (go_at_call 17; refine (codecOf_calls 85 _).mono ?_; rintro e w3 ⟨rfl, hb⟩; have HX3 := Aside0.mk (blk_below HX2.out hb); have HB3 := Aside0.mk (below_step HB2.out hb); rw [show codecV 85 = .iface 63 (.agg #[]) from rfl]; clear x0 x1 x2 hb; obtain ⟨x0, x1, x2⟩ := cc3_ HX3.out)
      | (go_at_call 18; refine (impl_RasOk.calls k a0 a1 A2 c2 l2 false _ (Kd.C_below HR2.out HB3.out) HC2.out HOK.out).mono ?_; rintro e w4 ⟨rfl, hb⟩; have HB4 := Aside0.mk (below_step HB3.out hb); clear x0 x1 x2 hb))
    go_ret
    exact ⟨rfl, HB4.out⟩
end
section
def bodyDU (k : Nat) (a0 : Int) (a2_0 : Int) (a2_1 : Int) (l2_2 : List (S53)) : Option (List Int) := if a0 = 68 then impl_formDown_write.f k true a2_0 a2_1 l2_2 else impl_formUp_write.f k true a2_0 a2_1 l2_2
def impl_FormWrite.f (k : Nat) (a0 : Int) (l1 : List Int) (a2_0 : Int) (a2_1 : Int) (l2_2 : List (S53)) : Option (List Int) := if a0 = 68 ∨ a0 = 85 then (if 9 < l1.length then some [] else (impl_RasOk.f k a2_0 a2_1 l2_2).bind fun ok => if ok = true then (bodyDU k a0 a2_0 a2_1 l2_2).bind fun body => fileE k a0 l1 body else some []) else none
theorem impl_FormWrite.calls (k : Nat) (a0 : Int) (A1 : Option Addr) (c1 : Nat) (l1 : List Int) (a2_0 : Int) (a2_1 : Int) (A2_2 : Option Addr) (c2_2 : Nat) (l2_2 : List (S53)) (r : List Int) (w : World) (hr1 : Kd.C (Kd.int .u8) w A1 l1.length l1) (hc1 : l1.length ≤ c1) (hr2_2 : Kd.C k53 w A2_2 l2_2.length l2_2) (hc2_2 : l2_2.length ≤ c2_2) (h : impl_FormWrite.f k a0 l1 a2_0 a2_1 l2_2 = some r) :
  Calls Try.prog 5 #[.int .u8 a0, .slice A1 l1.length c1, .agg #[.int .i64 a2_0, .int .i64 a2_1, .slice A2_2 l2_2.length c2_2]] w fun e w' => ∃ v0_ : Value, e = .returned (v0_) ∧ Kd.R (Kd.int .u8) 5 w' w.heap.size (fun _ => True) v0_ r ∧ Below w.heap.size w w' := by
 unfold impl_FormWrite.f at h
 split at h
 case isFalse => cases h
 rename_i hk
 split at h
 · rename_i h9
   obtain rfl := Option.some.inj h
   rcases hk with rfl | rfl
   · exact (formWriteDN_calls k A1 c1 l1 a2_0 a2_1 A2_2 c2_2 l2_2 w hr2_2 hc2_2 (.inl h9)).mono fun e w' ⟨he, hb⟩ => ⟨_, he, Kd.R_nil _ _ _ _ _, hb⟩
   · exact (formWriteUN_calls k A1 c1 l1 a2_0 a2_1 A2_2 c2_2 l2_2 w hr2_2 hc2_2 (.inl h9)).mono fun e w' ⟨he, hb⟩ => ⟨_, he, Kd.R_nil _ _ _ _ _, hb⟩
 · rename_i h9
   obtain ⟨ok, hok, h⟩ := Option.bind_eq_some_iff.1 h
   cases ok with
   | true =>
     rw [if_pos rfl] at h
     obtain ⟨body, hb, h⟩ := Option.bind_eq_some_iff.1 h
     unfold bodyDU at hb
     rcases hk with rfl | rfl
     · rw [if_pos rfl] at hb
       exact formWriteD_calls k A1 c1 l1 a2_0 a2_1 A2_2 c2_2 l2_2 body r w hr1 hc1 hr2_2 hc2_2 (by omega) hok (fun W hW => impl_formDown_write.calls k true a2_0 a2_1 A2_2 c2_2 l2_2 body W (Kd.C_below hr2_2 hW) hc2_2 hb) h
     · rw [if_neg (by decide)] at hb
       exact formWriteU_calls k A1 c1 l1 a2_0 a2_1 A2_2 c2_2 l2_2 body r w hr1 hc1 hr2_2 hc2_2 (by omega) hok (fun W hW => impl_formUp_write.calls k true a2_0 a2_1 A2_2 c2_2 l2_2 body W (Kd.C_below hr2_2 hW) hc2_2 hb) h
   | false =>
     rw [if_neg (by decide)] at h
     obtain rfl := Option.some.inj h
     rcases hk with rfl | rfl
     · exact (formWriteDN_calls k A1 c1 l1 a2_0 a2_1 A2_2 c2_2 l2_2 w hr2_2 hc2_2 (.inr ⟨h9, hok⟩)).mono fun e w' ⟨he, hb⟩ => ⟨_, he, Kd.R_nil _ _ _ _ _, hb⟩
     · exact (formWriteUN_calls k A1 c1 l1 a2_0 a2_1 A2_2 c2_2 l2_2 w hr2_2 hc2_2 (.inr ⟨h9, hok⟩)).mono fun e w' ⟨he, hb⟩ => ⟨_, he, Kd.R_nil _ _ _ _ _, hb⟩
end
end Go.Proofs.Ytljobjpldbdhoaa.X
namespace Go.Proofs.Ytljobjpldbdhoaa.X
open Go.RowKit Go.Proofs.YtljobjpldbdhoaaW.PrintWords Go.Proofs.YtljobjpldbdhoaaW.PrintLast Go.Proofs.YtljobjpldbdhoaaW.PrintMore
set_option linter.unusedVariables false
set_option linter.unusedSimpArgs false
abbrev Op := S34
/-- An operation in a block. -/
structure OpBox (w : World) (b : Nat) (o : Op) : Prop where
  h0 : w.cell? ⟨b, 0, none⟩ = some (.int .i64 o.f0)
  h1 : w.cell? ⟨b, 1, none⟩ = some (.int .i64 o.f1)
  h2 : w.cell? ⟨b, 2, none⟩ = some (.int .i64 o.f2)
  h3 : w.cell? ⟨b, 3, none⟩ = some (.int .i64 o.f3)
  h4 : w.cell? ⟨b, 4, none⟩ = some (.int .i64 o.f4)
theorem OpBox.below {w W : World} {b : Nat} {o : Op} (h : OpBox w b o) (hb : Below w.heap.size w W) : OpBox W b o :=
  ⟨pw_cell_below hb h.h0, pw_cell_below hb h.h1, pw_cell_below hb h.h2, pw_cell_below hb h.h3, pw_cell_below hb h.h4⟩
theorem OpBox.made {w : World} {b : Nat} {o : Op} (h : OpBox w b o) (O : Obj) : OpBox (w.alloc O) b o := h.below (below_alloc (Below.refl _ _) _)

theorem made3 {w w1 : World} {O1 O2 O3 : Obj} (h : Below (((w.alloc O1).alloc O2).alloc O3).heap.size (((w.alloc O1).alloc O2).alloc O3) w1) :
    w1.heap[w.heap.size]? = some O1 ∧ w1.heap[w.heap.size + 1]? = some O2 ∧ w1.heap[w.heap.size + 1 + 1]? = some O3 ∧ Below w.heap.size w w1 := by
  have h0 := made2 (W := w) (O1 := O1) (O2 := O2) (w1 := (w.alloc O1).alloc O2) (Below.refl _ _)
  have hb : Below ((w.alloc O1).alloc O2).heap.size ((w.alloc O1).alloc O2) w1 := below_made h
  have h1 := (made2 (W := w.alloc O1) h).2
  rw [show (w.alloc O1).heap.size = w.heap.size + 1 by simp] at h1
  exact ⟨blk_keep h0.1 hb, blk_keep h0.2 hb, h1, below_made2 hb⟩
theorem far3n {n : Nat} {w2 : World} {a : Addr} {v : Value} (h : w2.cell? a = some v) (hne : a.block ≠ n) (u0 u1 u2 : Value) :
    (((w2.setCell ⟨n, 0, none⟩ u0).setCell ⟨n, 1, none⟩ u1).setCell ⟨n, 2, none⟩ u2).cell? a = some v :=
  (cell_far (p := ⟨n, 2, none⟩) hne u2).trans ((cell_far (p := ⟨n, 1, none⟩) hne u1).trans ((cell_far (p := ⟨n, 0, none⟩) hne u0).trans h))
/-- The blocks that OpDo makes. -/
def Boxed (w w1 : World) (a b : Int) (v : Value) (o : Op) : Prop :=
  w1.heap[w.heap.size]? = some (.cells #[.int .i64 a, .int .i64 b, v] 25 (0, 0)) ∧ OpBox w1 (w.heap.size + 1) o ∧ ResBlk w1 (w.heap.size + 1 + 1) ∧ Below w.heap.size w w1
theorem Boxed.keep {w w1 w2 : World} {a b : Int} {v : Value} {o : Op} (h : Boxed w w1 a b v o) (hb : Below w1.heap.size w1 w2) : Boxed w w2 a b v o :=
  ⟨blk_keep h.1 hb, h.2.1.below hb, h.2.2.1.keep hb, h.2.2.2.trans (hb.mono h.2.2.2.size)⟩
theorem boxes {w w1 : World} {a b : Int} {v : Value} {o : Op} (h : Below (((w.alloc (.cells #[.int .i64 a, .int .i64 b, v] 25)).alloc (.cells #[.int .i64 o.f0, .int .i64 o.f1, .int .i64 o.f2, .int .i64 o.f3, .int .i64 o.f4] 34)).alloc (.cells #[.int .i64 0, .int .i64 0, .slice none 0 0] 25)).heap.size (((w.alloc (.cells #[.int .i64 a, .int .i64 b, v] 25)).alloc (.cells #[.int .i64 o.f0, .int .i64 o.f1, .int .i64 o.f2, .int .i64 o.f3, .int .i64 o.f4] 34)).alloc (.cells #[.int .i64 0, .int .i64 0, .slice none 0 0] 25)) w1) :
    Boxed w w1 a b v o := by
  have k := made3 h
  exact ⟨k.1, ⟨(blk_cell k.2.1 0).trans rfl, (blk_cell k.2.1 1).trans rfl, (blk_cell k.2.1 2).trans rfl, (blk_cell k.2.1 3).trans rfl, (blk_cell k.2.1 4).trans rfl⟩, k.2.2.1, k.2.2.2⟩
/-- A picture turned about the line that lies. -/
def flipG (wd hg : Nat) (l : List Pix) : Nat × Nat × List Pix × Bool := placesG (fun a _ => a) (fun _ b => b) (fun _ _ x y => x) (fun _ hg x y => hg - 1 - y) wd hg l
set_option maxHeartbeats 4000000 in
set_option maxRecDepth 100000 in
theorem moveOfY {o : Op} (ho : o = ⟨3, 0, 0, 0, 0⟩) (w : World) : Calls Try.prog 33 #[.agg #[.int .i64 o.f0, .int .i64 o.f1, .int .i64 o.f2, .int .i64 o.f3, .int .i64 o.f4]] w fun e w' => ∃ f1 c1, e = .returned (.func f1 #[] c1) ∧ Moves w' (.func f1 #[] c1) (fun _ _ => True) flipG ∧ Below w.heap.size w w' := by
  subst ho
  go_enter Try.func33, Try.ntmps33
  go_wp2_with (go_at_call 41; refine (places_made _ _ _ _ _).mono ?_; rintro e w1 ⟨p1, p2, rfl, k1, k2, hb⟩; have HK1 := Aside0.mk k1; have HK2 := Aside0.mk k2; have HB1 := Aside0.mk (below_made hb); clear k1 k2 hb)
  go_ret
  exact ⟨_, _, rfl, moves_places HK1.out HK2.out (fun _ _ => True) (fun a _ => a) (fun _ b => b) (fun _ _ x y => x) (fun _ hg x y => hg - 1 - y) (fun wd hg _ a1 a2 a3 a4 => ⟨sizes_same w1 wd hg, from_flipY w1 wd hg a4, ⟨a1, a2, a3, a4⟩, fun x y hx hy => by omega⟩), HB1.out⟩
set_option maxHeartbeats 4000000 in
set_option maxRecDepth 100000 in
theorem opDoY_walk (k1 k2 wd hg : Nat) (A : Option Addr) (c : Nat) (l : List Pix) (o : Op) (ho : o = ⟨3, 0, 0, 0, 0⟩) (w : World) (hr : Kd.C kPix w A l.length l) (hc : l.length ≤ c) (hv : Valid wd hg l) (h1 : impl_RasOk.f k1 (wd : Int) (hg : Int) l = some true) (h2 : impl_OpOk.f k2 o.f0 o.f1 o.f2 o.f3 o.f4 = some true) :
    Calls Try.prog 25 #[.agg #[.int .i64 wd, .int .i64 hg, .slice A l.length c], .agg #[.int .i64 o.f0, .int .i64 o.f1, .int .i64 o.f2, .int .i64 o.f3, .int .i64 o.f4]] w fun e w' => ∃ v, e = .returned (.tuple #[.agg #[.int .i64 (flipG wd hg l).1, .int .i64 (flipG wd hg l).2.1, v], .bool (flipG wd hg l).2.2.2]) ∧ Kd.R kPix 53 w' w.heap.size (fun _ => True) v (flipG wd hg l).2.2.1 ∧ Below w.heap.size w w' := by
  have E1 := Aside0.mk h1; have E2 := Aside0.mk h2; have HR := Aside0.mk hr; have HC := Aside0.mk hc; have HO := Aside0.mk ho
  have HP : Aside0 (Pict w wd hg A c l) := Aside0.mk ⟨hr, hc, hv.2.2.1, hv.1.1, hv.1.2, hv.2.1.1, hv.2.1.2⟩
  clear h1 h2 hv hr hc ho
  go_enter Try.func25, Try.ntmps25
  go_wp2_with (first | (go_at_call 32; refine (impl_OpOk.calls _ o.f0 o.f1 o.f2 o.f3 o.f4 true _ E2.out).mono ?_; rintro e w2 ⟨rfl, hb2⟩; have HX2 := Aside0.mk (HX.out.keep hb2); clear hb2 p0 p1 p2 p3 p4 HX) | (go_at_call 18; refine (impl_RasOk.calls k1 wd hg A c l true _ (Kd.C_below HR.out (boxes (Below.refl _ _)).2.2.2) HC.out E1.out).mono ?_; rintro e w1 ⟨rfl, hb1⟩; have HX := Aside0.mk (boxes hb1); clear hb1; have p0 := HX.out.2.1.h0; have p1 := HX.out.2.1.h1; have p2 := HX.out.2.1.h2; have p3 := HX.out.2.1.h3; have p4 := HX.out.2.1.h4))
  have HXD := Aside0.mk (HX2.out.keep (Below.refl w2.heap.size w2).drew)
  have HX2' := HX2
  clear HX2
  have q0d : w2.drew.cell? ⟨w.heap.size, 0, none⟩ = some (.int .i64 wd) := (blk_cell HXD.out.1 0).trans rfl; have q1d : w2.drew.cell? ⟨w.heap.size, 1, none⟩ = some (.int .i64 hg) := (blk_cell HXD.out.1 1).trans rfl; have q2d : w2.drew.cell? ⟨w.heap.size, 2, none⟩ = some (.slice A l.length c) := (blk_cell HXD.out.1 2).trans rfl; have o0d := HXD.out.2.1.h0; have o1d := HXD.out.2.1.h1; have o2d := HXD.out.2.1.h2; have o3d := HXD.out.2.1.h3; have o4d := HXD.out.2.1.h4; 
  go_region_held3 (fun w' : World => w'.cell? ⟨w.heap.size, 0, none⟩ = some (.int .i64 wd) ∧ w'.cell? ⟨w.heap.size, 1, none⟩ = some (.int .i64 hg) ∧ w'.cell? ⟨w.heap.size, 2, none⟩ = some (.slice A l.length c) ∧ w'.cell? ⟨w.heap.size + 1, 0, none⟩ = some (.int .i64 o.f0) ∧ w'.cell? ⟨w.heap.size + 1, 1, none⟩ = some (.int .i64 o.f1) ∧ w'.cell? ⟨w.heap.size + 1, 2, none⟩ = some (.int .i64 o.f2) ∧ w'.cell? ⟨w.heap.size + 1, 3, none⟩ = some (.int .i64 o.f3) ∧ w'.cell? ⟨w.heap.size + 1, 4, none⟩ = some (.int .i64 o.f4)) (first | with_reducible exact ⟨q0d, q1d, q2d, o0d, o1d, o2d, o3d, o4d⟩ | with_reducible exact ⟨q0y, q1y, q2y, o0y, o1y, o2y, o3y, o4y⟩ | with_reducible exact ⟨q0z, q1z, q2z, o0z, o1z, o2z, o3z, o4z⟩ | exact ⟨far3n q0z (by show w.heap.size ≠ w.heap.size + 1 + 1; omega) _ _ _, far3n q1z (by show w.heap.size ≠ w.heap.size + 1 + 1; omega) _ _ _, far3n q2z (by show w.heap.size ≠ w.heap.size + 1 + 1; omega) _ _ _, far3n o0z (by show w.heap.size + 1 ≠ w.heap.size + 1 + 1; omega) _ _ _, far3n o1z (by show w.heap.size + 1 ≠ w.heap.size + 1 + 1; omega) _ _ _, far3n o2z (by show w.heap.size + 1 ≠ w.heap.size + 1 + 1; omega) _ _ _, far3n o3z (by show w.heap.size + 1 ≠ w.heap.size + 1 + 1; omega) _ _ _, far3n o4z (by show w.heap.size + 1 ≠ w.heap.size + 1 + 1; omega) _ _ _⟩) (first | (go_at_call 33; refine (moveOfY HO.out _).mono ?_; rintro e w3 ⟨f1, c1, rfl, hM, hb3⟩; obtain ⟨fn, caps, hfe, henter, hcall⟩ := hM; cases hfe; have HMC := Aside0.mk hcall; clear hcall; have HX3 := Aside0.mk (HXD.out.keep hb3); clear hb3; have q0y : w3.cell? ⟨w.heap.size, 0, none⟩ = some (.int .i64 wd) := (blk_cell HX3.out.1 0).trans rfl; have q1y : w3.cell? ⟨w.heap.size, 1, none⟩ = some (.int .i64 hg) := (blk_cell HX3.out.1 1).trans rfl; have q2y : w3.cell? ⟨w.heap.size, 2, none⟩ = some (.slice A l.length c) := (blk_cell HX3.out.1 2).trans rfl; have o0y := HX3.out.2.1.h0; have o1y := HX3.out.2.1.h1; have o2y := HX3.out.2.1.h2; have o3y := HX3.out.2.1.h3; have o4y := HX3.out.2.1.h4; ) | (refine (HMC.out _ (Below.refl _ _) wd hg A c l (HP.out.below HX3.out.2.2.2) trivial).mono ?_; rintro e w4 ⟨v, rfl, hRv, hb4⟩; obtain ⟨A', c', rfl⟩ := Kd.R_slice hRv; have HRV := Aside0.mk hRv; have HSZ := Aside0.mk (Array.getElem?_eq_some_iff.1 HX3.out.2.2.1).1; have HX4 := Aside0.mk (HX3.out.keep hb4); clear hRv hb4; have q0z : w4.cell? ⟨w.heap.size, 0, none⟩ = some (.int .i64 wd) := (blk_cell HX4.out.1 0).trans rfl; have q1z : w4.cell? ⟨w.heap.size, 1, none⟩ = some (.int .i64 hg) := (blk_cell HX4.out.1 1).trans rfl; have q2z : w4.cell? ⟨w.heap.size, 2, none⟩ = some (.slice A l.length c) := (blk_cell HX4.out.1 2).trans rfl; have o0z := HX4.out.2.1.h0; have o1z := HX4.out.2.1.h1; have o2z := HX4.out.2.1.h2; have o3z := HX4.out.2.1.h3; have o4z := HX4.out.2.1.h4;  have r0 := (blk_cell HX4.out.2.2.1 0).trans rfl; have r1 := (blk_cell HX4.out.2.2.1 1).trans rfl; have r2 := (blk_cell HX4.out.2.2.1 2).trans rfl; have s0 := blk_frozen HX4.out.2.2.1 0; have s1 := blk_frozen HX4.out.2.2.1 1; have s2 := blk_frozen HX4.out.2.2.1 2))
  go_wp2
  refine bodyPost_ret (results_ct rfl _ _ (w.heap.size + 1 + 1) 25 _ (0, 0) _ rfl (ras_block HX4.out.2.2.1 _ _ _) Try.underlying25 rfl (by kernel_rfl)) rfl ⟨_, rfl, R_ret HRV.out (by have := HX3.out.2.2.2.size; omega) HSZ.out _ _ _, ?_⟩
  exact below_set (below_set (below_set HX4.out.2.2.2 (by simp; omega) _) (by simp; omega) _) (by simp; omega) _
end Go.Proofs.Ytljobjpldbdhoaa.X
namespace Go.Proofs.Ytljobjpldbdhoaa.X
open Go.RowKit Go.Proofs.YtljobjpldbdhoaaW.PrintWords Go.Proofs.YtljobjpldbdhoaaW.PrintLast Go.Proofs.YtljobjpldbdhoaaW.PrintMore
attribute [local go_sem] max2_int min2_int max_two min_two max_three min_three max_four min_four
set_option linter.unusedVariables false
set_option linter.unusedSimpArgs false

section
/-- Of what is done, the line that lies alone. -/
def impl_OpDo.f (k : Nat) (a0_0 : Int) (a0_1 : Int) (l0_2 : List (S53)) (a1_0 : Int) (a1_1 : Int) (a1_2 : Int) (a1_3 : Int) (a1_4 : Int) : Option (Int × Int × (List (S53)) × Bool) := if a1_0 = 3 ∧ a1_1 = 0 ∧ a1_2 = 0 ∧ a1_3 = 0 ∧ a1_4 = 0 ∧ impl_RasOk.f k a0_0 a0_1 l0_2 = some true ∧ impl_OpOk.f k 3 0 0 0 0 = some true then some (a0_0, a0_1, mk a0_0.toNat a0_1.toNat (fun x y => pix l0_2 a0_0.toNat x (a0_1.toNat - 1 - y)), true) else none
theorem rasOk_valid {k : Nat} {a b : Int} {l : List (S53)} (h : impl_RasOk.f k a b l = some true) : ∃ wd hg : Nat, a = wd ∧ b = hg ∧ Valid wd hg l := by
 obtain ⟨K, hK⟩ := impl_RasOk_ev a b l
 obtain ⟨K2, hK2⟩ := Ev.of (impl_RasOk.mono a b l) (k := k) h
 have e := (hK (K + K2) (by omega)).symm.trans (hK2 (K + K2) (by omega))
 exact (rasOkB_iff _ _ _).1 (Option.some.inj e)
theorem impl_OpDo.calls (k : Nat) (a0_0 : Int) (a0_1 : Int) (A0_2 : Option Addr) (c0_2 : Nat) (l0_2 : List (S53)) (a1_0 : Int) (a1_1 : Int) (a1_2 : Int) (a1_3 : Int) (a1_4 : Int) (r1 : Int) (r2 : Int) (r3 : List (S53)) (r4 : Bool) (w : World) (hr0_2 : Kd.C k53 w A0_2 l0_2.length l0_2) (hc0_2 : l0_2.length ≤ c0_2) (h : impl_OpDo.f k a0_0 a0_1 l0_2 a1_0 a1_1 a1_2 a1_3 a1_4 = some (r1, r2, r3, r4)) :
  Calls Try.prog 25 #[.agg #[.int .i64 a0_0, .int .i64 a0_1, .slice A0_2 l0_2.length c0_2], .agg #[.int .i64 a1_0, .int .i64 a1_1, .int .i64 a1_2, .int .i64 a1_3, .int .i64 a1_4]] w fun e w' => ∃ v2_ : Value, e = .returned (.tuple #[.agg #[.int .i64 r1, .int .i64 r2, v2_], .bool r4]) ∧ Kd.R k53 53 w' w.heap.size (fun _ => True) v2_ r3 ∧ Below w.heap.size w w' := by
 unfold impl_OpDo.f at h
 split at h
 case isFalse => cases h
 rename_i hc
 obtain ⟨rfl, rfl, rfl, rfl, rfl, h5, h6⟩ := hc
 obtain ⟨wd, hg, rfl, rfl, hv⟩ := rasOk_valid h5
 have h := Option.some.inj h
 simp only [Prod.mk.injEq, Int.toNat_natCast] at h
 obtain ⟨rfl, rfl, rfl, rfl⟩ := h
 exact opDoY_walk k k wd hg A0_2 c0_2 l0_2 ⟨3, 0, 0, 0, 0⟩ rfl w hr0_2 hc0_2 hv h5 h6
end
section
open Go.Proofs.YtljobjpldbdhoaaW.PrintWords renaming add_block → yaa, pw_below_drewN → yac, below_drew1 → yad, below_alloc → yae, cell_far → yaf, below_set → yag
open Go.Proofs.YtljobjpldbdhoaaW.PrintWords.Aside0 renaming mk → yab
open Go.Proofs.Ytljobjpldbdhoaa.X renaming rd_T34 → yah

abbrev q10_0 : Array Bool := Array.replicate 12 false
abbrev q10_1 : Array Bool := bl_ 12 2
abbrev q10_2 : Array Bool := bl_ 12 6
abbrev q10_3 : Array Bool := bl_ 12 14
abbrev q10_4 : Array Bool := bl_ 12 15
abbrev q10_5 : Array Bool := bl_ 12 31
abbrev q10_6 : Array Bool := bl_ 12 1023
abbrev q10_7 : Array Bool := bl_ 12 63
abbrev q10_8 : Array Bool := bl_ 12 543
abbrev q10_9 : Array Bool := bl_ 12 127
abbrev q10_10 : Array Bool := bl_ 12 255
abbrev q10_11 : Array Bool := bl_ 12 511
abbrev q10_12 : Array Bool := bl_ 12 575
abbrev q10_13 : Array Bool := bl_ 12 639
abbrev q10_14 : Array Bool := bl_ 12 767
abbrev q10_15 : Array Bool := bl_ 12 2047
abbrev q10_16 : Array Bool := bl_ 12 4095
def laws_eaDo.l0 : Nat → List (S34) → Int → Int → Int → List (S53) → Option (Int × Int × (List (S53)))
 | 0, _, _, _, _, _ => none
 | k + 1, x1, x5, x102000, x102001, x102002 => if x5 < (x1.length : Int) then (if 0 ≤ x5 then ((impl_OpDo.f k x102000 x102001 x102002 ((rd_T34 x1 x5).f0) ((rd_T34 x1 x5).f1) ((rd_T34 x1 x5).f2) ((rd_T34 x1 x5).f3) ((rd_T34 x1 x5).f4)).bind fun bt104 => (laws_eaDo.l0 k x1 (wrap64 (x5 + 1)) bt104.1 bt104.2.1 bt104.2.2.1)) else (none)) else (some (x102000, x102001, x102002))
def laws_eaDo.f (k : Nat) (a0_0 : Int) (a0_1 : Int) (l0_2 : List (S53)) (l1 : List (S34)) : Option (Int × Int × (List (S53))) := laws_eaDo.l0 k l1 0 a0_0 a0_1 l0_2
def laws_eaDo.T4 : Bool × List (List Nat × List Nat) := (true, [([], []), ([], []), ([], []), ([1, 2], [1, 2]), ([3], [3]), ([0, 4], [0, 4]), ([5], [5]), ([6], [6]), ([6], [6]), ([], []), ([9, 7, 5, 0, 1, 2, 3, 4, 5, 6, 7, 9], [7, 9]), ([8, 10, 0, 1, 2, 3, 4, 5, 6, 7, 8, 9, 10], [8])])
def laws_eaDo.B4 : List Nat := [0, 0, 0, 6, 14, 31, 63, 127, 127, 0, 767, 2047]
theorem laws_eaDo.tab4 : rtab .any (opsOf Try.f10 4) = laws_eaDo.T4 := by kernel_rfl
theorem laws_eaDo.bits4 : waitsOk laws_eaDo.T4.2 laws_eaDo.B4 = true := by kernel_rfl
set_option maxHeartbeats 8000000 in
set_option maxRecDepth 100000 in
theorem laws_eaDo.calls (k : Nat) (a0_0 : Int) (a0_1 : Int) (P0_2_ : Nat → Prop) (A0_2 : Option Addr) (c0_2 : Nat) (l0_2 : List (S53)) (A1 : Option Addr) (c1 : Nat) (l1 : List (S34)) (r1 : Int) (r2 : Int) (r3 : List (S53)) (w : World) (hs0_2 : Kd.V k53 53 w w.heap.size (fun k_ => P0_2_ k_) (.slice A0_2 l0_2.length c0_2) l0_2) (hr1 : Kd.C k34 w A1 l1.length l1) (hc1 : l1.length ≤ c1) (h : laws_eaDo.f k a0_0 a0_1 l0_2 l1 = some (r1, r2, r3)) :
  Calls Try.prog 10 #[.agg #[.int .i64 a0_0, .int .i64 a0_1, .slice A0_2 l0_2.length c0_2], .slice A1 l1.length c1] w fun e w' => ∃ v2_ : Value, e = .returned (.agg #[.int .i64 r1, .int .i64 r2, v2_]) ∧ Kd.V k53 53 w' w.heap.size (fun k_ => (P0_2_ k_ ∨ w.heap.size ≤ k_)) v2_ r3 ∧ Below w.heap.size w w' := by
 have hu25 := Try.underlying25; have hu34 := Try.underlying34; have d8 := yab (show Kd.V k53 53 w w.heap.size (fun k_ => (P0_2_ k_ ∨ w.heap.size ≤ k_)) (.slice A0_2 l0_2.length c0_2) l0_2 from Kd.V_mono hs0_2 (fun k_ hk => .inl hk)); have HR1 := yab hr1; have HC1 := yab hc1; clear hr1 hc1; have HB := yab (Below.refl w.heap.size w); have H : (laws_eaDo.l0 k l1 0 a0_0 a0_1 l0_2) = some (r1, r2, r3) := h; clear h; have H' := yab H; clear H
 go_enter Try.func10, Try.ntmps10
 go_wp2_with (first | ((with_reducible refine gd_ 2 rfl ?_); refine bx_ 2 rfl #[.int .i64 a0_0, .int .i64 a0_1, .slice A0_2 l0_2.length c0_2] 25 ?_; intro b4 hg w3 hbox hb; replace d8 := yab (Kd.V_below (Kd.V_elderB (upV d8.out) b4 (Nat.le_of_eq hg.symm)) hb); have a8 := yab (hbox); have e9 := yab ((by rw [hg]; exact (below_size (upH HB.out)) : w.heap.size ≤ b4)); replace HB := yab (below_step (upH HB.out) hb); have j8 := e9; clear hb hbox hg) | ((with_reducible refine gd_ 4 rfl ?_); refine bx_ 4 rfl #[.int .i64 0, .int .i64 0, .slice none 0 0] 25 ?_; intro c2 hg w4 hbox hb; replace d8 := yab (Kd.V_below (Kd.V_elderB (upV d8.out) c2 (Nat.le_of_eq hg.symm)) hb); have b3 := yab (hbox); have f5 := yab ((by rw [hg]; exact (below_size (by repeat (with_reducible first | exact HB.out | apply yae | apply yac | apply yad | refine yag ?_ (Aside0.out ‹_›)))) : w.heap.size ≤ c2)); replace HB := yab (below_step (by repeat (with_reducible first | exact HB.out | apply yae | apply yac | apply yad | refine yag ?_ (Aside0.out ‹_›))) hb); have j9 := f5; have c9 := yab ((by rw [hg]; exact Nat.ne_of_lt (blk_lt (upB a8.out)) : b4 ≠ c2)); replace a8 := yab (blk_below (upB a8.out) hb); have d0 := yab c9.out.symm; clear hb hbox hg))
 (try simp only [Act.put, List.setIfInBounds_toArray, List.set_cons_zero, List.set_cons_succ])
 go_loopg [5] k (fun kq v5 w' => ∃ (a9 : Int) (b1 : Int) (b2 : Int) (a7 : List (S53)) (u102002 : Value), v5 = .int .i64 a9 ∧ Aside0 (laws_eaDo.l0 kq l1 a9 b1 b2 a7 = some (r1, r2, r3)) ∧ Aside0 (kq ≤ k) ∧ Aside0 (Kd.V k53 53 w' w.heap.size (fun k_ => (P0_2_ k_ ∨ w.heap.size ≤ k_) ∧ k_ ≠ b4 ∧ k_ ≠ c2) u102002 a7) ∧ Aside0 (w'.heap[b4]? = some (.cells #[.int .i64 b1, .int .i64 b2, u102002] 25 (0, 0))) ∧ Aside0 (w'.heap[c2]? = some (.cells #[.int .i64 0, .int .i64 0, (.slice none 0 0)] 25 (0, 0))) ∧ Aside0 (Below w.heap.size w w'))
 case atStart => exact ⟨(0), (a0_0), (a0_1), (l0_2), (.slice A0_2 l0_2.length c0_2), (by first | rfl | (simp; done) | (simp [*]; done)), H', ⟨Nat.le_refl _⟩, ⟨by (with_reducible repeat (first | apply Kd.V_alloc | apply Kd.V_drewN | apply Kd.V_drew)); exact Kd.V_mono d8.out (fun _ hk => ⟨hk.1.1, ⟨hk.1.2, hk.2⟩⟩)⟩, ⟨by exact upB a8.out⟩, ⟨by exact upB b3.out⟩, ⟨by repeat (with_reducible first | exact HB.out | apply yae | apply yac | apply yad | refine yag ?_ (Aside0.out ‹_›))⟩⟩
 case round =>
  clear H'; (try clear c1); (try clear p2); obtain ⟨a9, b1, b2, a7, u102002, rfl, HA, HK1, a5, a8, b3, HB⟩ := hrel
  cases gk with
  | zero => exact absurd HA.out (by simp [laws_eaDo.l0])
  | succ k1 =>
   have H := HA.out; clear HA
   simp only [laws_eaDo.l0] at H
   by_cases c5 : a9 < (l1.length : Int)
   ·
    rw [if_pos c5] at H
    have j5 : decide (a9 < (l1.length : Int)) = true := decide_eq_true c5; clear c5
    by_cases c6 : 0 ≤ a9
    ·
     rw [if_pos c6] at H
     replace c6 := decide_eq_true c6; obtain ⟨⟨d6, d7, d9, e3⟩, A7, H⟩ := bindA H; (try dsimp only at H); have H' := yab H; clear H; obtain ⟨Ao8, co8, eo8⟩ := Kd.V_slice a5.out; subst eo8
     try go_wp2
     replace a5 := yab (Kd.V_drew a5.out); replace a8 := yab (blk_drew a8.out); replace b3 := yab (blk_drew b3.out); replace HB := yab (yad HB.out); have p103 : 0 ≤ (a9 : Int) := of_decide_eq_true (by assumption); have q103 : a9 < (l1.length : Int) := of_decide_eq_true (by assumption); obtain ⟨ad103, j6, d1, d2, d3, d4, d5⟩ := at_T34 HR1.out a9 p103 q103; have b5 := d5; have b6 := d4; have b7 := d3; have b8 := d2; have b9 := d1
     cases j6
     replace d1 := (upc_ HB.out d1 :); replace d2 := (upc_ HB.out d2 :); replace d3 := (upc_ HB.out d3 :); replace d4 := (upc_ HB.out d4 :); replace d5 := (upc_ HB.out d5 :); replace p103 := eq_true p103; replace q103 := eq_true q103
     refine start_ (n := 12) (S := fun w' => w'.cell? ⟨b4, 0, none⟩ = some (.int .i64 b1) ∧ w'.cell? ⟨b4, 1, none⟩ = some (.int .i64 b2) ∧ w'.cell? ⟨b4, 2, none⟩ = some (.slice Ao8 a7.length co8) ∧ w'.cell? (ad103.add ((a9).toNat * 5)) = some (.int .i64 ((yah l1 a9).f0)) ∧ w'.cell? ⟨(ad103.add ((a9).toNat * 5)).block, (ad103.add ((a9).toNat * 5)).off + 1, none⟩ = some (.int .i64 ((yah l1 a9).f1)) ∧ w'.cell? ⟨(ad103.add ((a9).toNat * 5)).block, (ad103.add ((a9).toNat * 5)).off + 2, none⟩ = some (.int .i64 ((yah l1 a9).f2)) ∧ w'.cell? ⟨(ad103.add ((a9).toNat * 5)).block, (ad103.add ((a9).toNat * 5)).off + 3, none⟩ = some (.int .i64 ((yah l1 a9).f3)) ∧ w'.cell? ⟨(ad103.add ((a9).toNat * 5)).block, (ad103.add ((a9).toNat * 5)).off + 4, none⟩ = some (.int .i64 ((yah l1 a9).f4))) (ds := []) q10_0 (by kernel_rfl) rfl rfl ⟨(blk_cell a8.out 0).trans rfl, (blk_cell a8.out 1).trans rfl, (blk_cell a8.out 2).trans rfl, (upc_ HB.out b9 :), (upc_ HB.out b8 :), (upc_ HB.out b7 :), (upc_ HB.out b6 :), (upc_ HB.out b5 :)⟩ (fun hHeld => ?_); refine with_tabW laws_eaDo.tab4 laws_eaDo.bits4 (fun HT_ HW_ => ?_)
     generalize wr.drew = w9 at a5 a8 b3 HB d1 d2 d3 d4 d5 hHeld ⊢
     refine pz_ 1 16 q10_1 HT_ (by kernel_rfl) ?_
     refine pz_ 2 17 q10_2 HT_ (by kernel_rfl) ?_
     refine pz_ 3 18 q10_3 HT_ (by kernel_rfl) ?_
     refine tz_ 0 15 q10_4 HT_ HW_ (by kernel_rfl) hHeld ?_
     refine tz_ 4 19 q10_5 HT_ HW_ (by kernel_rfl) hHeld ?_
     refine join_ (σ := Value × Nat) 2 q10_6 (fun s_ => [(20, .tuple #[.agg #[.int .i64 d6, .int .i64 d7, s_.1], .bool e3]), (6, .pointer (some ⟨s_.2, 0, none⟩)), (14, .tuple #[.agg #[.int .i64 d6, .int .i64 d7, s_.1], .bool e3]), (21, .agg #[.int .i64 d6, .int .i64 d7, s_.1]), (22, .bool e3)]) (fun s_ w' => (w'.cell? ⟨b4, 0, none⟩ = some (.int .i64 b1) ∧ w'.cell? ⟨b4, 1, none⟩ = some (.int .i64 b2) ∧ w'.cell? ⟨b4, 2, none⟩ = some (.slice Ao8 a7.length co8) ∧ w'.cell? (ad103.add ((a9).toNat * 5)) = some (.int .i64 ((yah l1 a9).f0)) ∧ w'.cell? ⟨(ad103.add ((a9).toNat * 5)).block, (ad103.add ((a9).toNat * 5)).off + 1, none⟩ = some (.int .i64 ((yah l1 a9).f1)) ∧ w'.cell? ⟨(ad103.add ((a9).toNat * 5)).block, (ad103.add ((a9).toNat * 5)).off + 2, none⟩ = some (.int .i64 ((yah l1 a9).f2)) ∧ w'.cell? ⟨(ad103.add ((a9).toNat * 5)).block, (ad103.add ((a9).toNat * 5)).off + 3, none⟩ = some (.int .i64 ((yah l1 a9).f3)) ∧ w'.cell? ⟨(ad103.add ((a9).toNat * 5)).block, (ad103.add ((a9).toNat * 5)).off + 4, none⟩ = some (.int .i64 ((yah l1 a9).f4))) ∧ (Kd.R k53 53 w' w.heap.size (fun k_ => (w.heap.size ≤ k_)) s_.1 d9) ∧ (Kd.V k53 53 w' w.heap.size (fun k_ => (P0_2_ k_ ∨ w.heap.size ≤ k_) ∧ some k_ ≠ (s_.1 : Value).ownBlock ∧ k_ ≠ b4 ∧ k_ ≠ c2 ∧ k_ ≠ s_.2) (.slice Ao8 a7.length co8) a7) ∧ (w'.heap[b4]? = some (.cells #[.int .i64 b1, .int .i64 b2, .slice Ao8 a7.length co8] 25 (0, 0))) ∧ (w'.heap[c2]? = some (.cells #[.int .i64 0, .int .i64 0, .slice none 0 0] 25 (0, 0))) ∧ (w'.heap[s_.2]? = some (.cells #[.int .i64 0, .int .i64 0, .slice none 0 0] 25 (0, 0))) ∧ (w.heap.size ≤ s_.2) ∧ (w.heap.size ≤ s_.2) ∧ (b4 ≠ s_.2) ∧ (s_.2 ≠ b4) ∧ (c2 ≠ s_.2) ∧ (s_.2 ≠ c2) ∧ (Below w.heap.size w w')) ?_ ?_
     rotate_left
     ·
      intro hCont
      refine two_ (i := 5) (j := 9) (Ni := some 20) (Nj := some 6) q10_7 q10_8 rfl rfl rfl rfl (two_of HT_.out (by kernel_rfl)) (by decide) (by decide) (fun K hK => ?_) (fun K hK => ?_)
      ·
       skip
       refine goes_ Try.func25 (by kernel_rfl) rfl #[.agg #[.int .i64 b1, .int .i64 b2, .slice Ao8 a7.length co8], .agg #[.int .i64 ((yah l1 a9).f0), .int .i64 ((yah l1 a9).f1), .int .i64 ((yah l1 a9).f2), .int .i64 ((yah l1 a9).f3), .int .i64 ((yah l1 a9).f4)]] (by rfl) rfl rfl (by (try simp only [List.map_toArray, List.map_cons, List.map_nil]); first | done | rfl | (simp only [List.length_drop, List.length_take]; rfl)) ?_
       with_reducible refine (impl_OpDo.calls k1 b1 b2 _ _ a7 ((yah l1 a9).f0) ((yah l1 a9).f1) ((yah l1 a9).f2) ((yah l1 a9).f3) ((yah l1 a9).f4) d6 d7 d9 e3 _ ?side1 ?side2 A7.out).mono ?_
       (case side1 => repeat (first | exact (Kd.V_reads' a5.out).2.2 | (with_reducible refine Kd.C_alloc ?_ _) | (with_reducible refine Kd.C_drewN ?_ _) | (with_reducible refine Kd.C_drew ?_)))
       (case side2 => exact (Kd.V_reads' a5.out).2.1)
       rintro e w10 ⟨e2, rfl, ho0, hb⟩; refine ⟨_, rfl, ?_⟩; have n0_ := yab (Kd.V_elder' (upV a5.out) (Kd.R_base ho0) hb)
       have n1_ := yab (Kd.R_lower (Kd.R_newM (M := fun k_ => (w.heap.size ≤ k_)) ho0 (below_size (by repeat (with_reducible first | exact HB.out | apply yae | apply yac | apply yad | refine yag ?_ (Aside0.out ‹_›)))) (fun k_ h_ => h_)) (below_size (by repeat (with_reducible first | exact HB.out | apply yae | apply yac | apply yad | refine yag ?_ (Aside0.out ‹_›)))))
       have n2_ := yab (blk_below (upB a8.out) hb); have n3_ := yab (blk_below (upB b3.out) hb)
       have n4_ := yab (below_step (by repeat (with_reducible first | exact HB.out | apply yae | apply yac | apply yad | refine yag ?_ (Aside0.out ‹_›))) hb)
       clear a5; clear a8; clear b3; clear HB; have a5 := n0_; have c8 := n1_; have a8 := n2_; have b3 := n3_; have HB := n4_; clear n0_ n1_ n2_ n3_ n4_; (try clear hb); (try clear hb2); (try clear hk); (try clear hi); (try clear ho0)
       refine hK.out _ _ ⟨(blk_cell a8.out 0).trans rfl, (blk_cell a8.out 1).trans rfl, (blk_cell a8.out 2).trans rfl, (upc_ HB.out b9 :), (upc_ HB.out b8 :), (upc_ HB.out b7 :), (upc_ HB.out b6 :), (upc_ HB.out b5 :)⟩ (fun hHeld => ?_)
       clear hK K
       refine norm_ (a' := ?_) ?_ ?_
       rotate_left
       ·
        show Act.put _ (some 20) _ = _
        simp only [Act.put, List.setIfInBounds_toArray, List.set_cons_zero, List.set_cons_succ, i64_w, i32_w]
        rfl
       refine pz_ 6 14 q10_9 HT_ (by kernel_rfl) ?_
       refine pz_ 7 21 q10_10 HT_ (by kernel_rfl) ?_
       refine pz_ 8 22 q10_11 HT_ (by kernel_rfl) ?_
       refine one_ (i := 9) (N := some 6) q10_6 rfl rfl (one_of HT_.out (by kernel_rfl)) (by decide) (fun K hK => ?_)
       refine box_step ?hg (N := 6) ?hd (cs := #[.int .i64 0, .int .i64 0, .slice none 0 0]) (t := 25) ?hr ?_; (case hd => rfl); (case hg => rfl); (case hr => first | (go_simp; done) | (go_simp; rfl))
       intro a6 hg w11 hbox hb; have n0_ := yab (Kd.V_below (Kd.V_elderB (upV a5.out) a6 (Nat.le_of_eq hg.symm)) hb); have n1_ := yab (Kd.R_below (upR c8.out) hb); have n2_ := yab (blk_below (upB a8.out) hb); have n3_ := yab (blk_below (upB b3.out) hb)
       have n4_ := yab (below_step (by repeat (with_reducible first | exact HB.out | apply yae | apply yac | apply yad | refine yag ?_ (Aside0.out ‹_›))) hb)
       have n5_ := yab (hbox)
       have n6_ := yab ((by rw [hg]; exact (below_size (by repeat (with_reducible first | exact HB.out | apply yae | apply yac | apply yad | refine yag ?_ (Aside0.out ‹_›)))) : w.heap.size ≤ a6))
       have n7_ := yab ((by rw [hg]; exact (below_size (by repeat (with_reducible first | exact HB.out | apply yae | apply yac | apply yad | refine yag ?_ (Aside0.out ‹_›)))) : w.heap.size ≤ a6))
       have n8_ := yab ((by rw [hg]; exact Nat.ne_of_lt (blk_lt (upB a8.out)) : b4 ≠ a6)); have n9_ := yab ((by rw [hg]; exact Nat.ne_of_gt (blk_lt (upB a8.out)) : a6 ≠ b4)); have e0 := yab ((by rw [hg]; exact Nat.ne_of_lt (blk_lt (upB b3.out)) : c2 ≠ a6)); have e4 := yab ((by rw [hg]; exact Nat.ne_of_gt (blk_lt (upB b3.out)) : a6 ≠ c2)); clear a5; clear c8; clear a8; clear b3; clear HB; have a5 := n0_; have c8 := n1_; have a8 := n2_; have b3 := n3_; have HB := n4_; have c7 := n5_; have a4 := n6_; have e1 := n7_; have b0 := n8_; have c3 := n9_; have c0 := e0; have c4 := e4; clear n0_ n1_ n2_ n3_ n4_ n5_ n6_ n7_ n8_ n9_ e0 e4; clear hb hbox hg
       refine hK.out _ _ ⟨(blk_cell a8.out 0).trans rfl, (blk_cell a8.out 1).trans rfl, (blk_cell a8.out 2).trans rfl, (upc_ HB.out b9 :), (upc_ HB.out b8 :), (upc_ HB.out b7 :), (upc_ HB.out b6 :), (upc_ HB.out b5 :)⟩ (fun hHeld => ?_)
       clear hK K
       refine norm_ (a' := ?_) ?_ ?_
       rotate_left
       ·
        show Act.put _ (some 6) _ = _
        simp only [Act.put, List.setIfInBounds_toArray, List.set_cons_zero, List.set_cons_succ, i64_w, i32_w]
        rfl
       exact norm_ (by simp only [putAll, Act.put, List.setIfInBounds_toArray, List.set_cons_zero, List.set_cons_succ]) (hCont (e2, a6) _ ⟨hHeld, (by (with_reducible repeat (first | apply Kd.R_alloc | apply Kd.R_drewN | apply Kd.R_drew)); exact Kd.R_mono c8.out (fun _ hk => hk.1)), (by (with_reducible repeat (first | apply Kd.V_alloc | apply Kd.V_drewN | apply Kd.V_drew)); exact Kd.V_mono a5.out (fun _ hk => ⟨hk.1.1.1, ⟨hk.1.2, ⟨hk.1.1.2.1, ⟨hk.1.1.2.2, hk.2⟩⟩⟩⟩)), (upB a8.out), (upB b3.out), (upB c7.out), a4.out, e1.out, b0.out, c3.out, c0.out, c4.out, (by repeat (with_reducible first | exact HB.out | apply yae | apply yac | apply yad | refine yag ?_ (Aside0.out ‹_›)))⟩)
      ·
       skip
       refine box_step ?hg (N := 6) ?hd (cs := #[.int .i64 0, .int .i64 0, .slice none 0 0]) (t := 25) ?hr ?_; (case hd => rfl); (case hg => rfl); (case hr => first | (go_simp; done) | (go_simp; rfl))
       intro a6 hg w10 hbox hb; have n0_ := yab (Kd.V_below (Kd.V_elderB (upV a5.out) a6 (Nat.le_of_eq hg.symm)) hb); have n1_ := yab (blk_below (upB a8.out) hb); have n2_ := yab (blk_below (upB b3.out) hb)
       have n3_ := yab (below_step (by repeat (with_reducible first | exact HB.out | apply yae | apply yac | apply yad | refine yag ?_ (Aside0.out ‹_›))) hb)
       have n4_ := yab (hbox)
       have n5_ := yab ((by rw [hg]; exact (below_size (by repeat (with_reducible first | exact HB.out | apply yae | apply yac | apply yad | refine yag ?_ (Aside0.out ‹_›)))) : w.heap.size ≤ a6))
       have n6_ := yab ((by rw [hg]; exact (below_size (by repeat (with_reducible first | exact HB.out | apply yae | apply yac | apply yad | refine yag ?_ (Aside0.out ‹_›)))) : w.heap.size ≤ a6))
       have n7_ := yab ((by rw [hg]; exact Nat.ne_of_lt (blk_lt (upB a8.out)) : b4 ≠ a6)); have n8_ := yab ((by rw [hg]; exact Nat.ne_of_gt (blk_lt (upB a8.out)) : a6 ≠ b4)); have n9_ := yab ((by rw [hg]; exact Nat.ne_of_lt (blk_lt (upB b3.out)) : c2 ≠ a6)); have e0 := yab ((by rw [hg]; exact Nat.ne_of_gt (blk_lt (upB b3.out)) : a6 ≠ c2)); clear a5; clear a8; clear b3; clear HB; have a5 := n0_; have a8 := n1_; have b3 := n2_; have HB := n3_; have c7 := n4_; have a4 := n5_; have e1 := n6_; have b0 := n7_; have c3 := n8_; have c0 := n9_; have c4 := e0; clear n0_ n1_ n2_ n3_ n4_ n5_ n6_ n7_ n8_ n9_ e0; clear hb hbox hg
       refine hK.out _ _ ⟨(blk_cell a8.out 0).trans rfl, (blk_cell a8.out 1).trans rfl, (blk_cell a8.out 2).trans rfl, (upc_ HB.out b9 :), (upc_ HB.out b8 :), (upc_ HB.out b7 :), (upc_ HB.out b6 :), (upc_ HB.out b5 :)⟩ (fun hHeld => ?_)
       clear hK K
       refine norm_ (a' := ?_) ?_ ?_
       rotate_left
       ·
        show Act.put _ (some 6) _ = _
        simp only [Act.put, List.setIfInBounds_toArray, List.set_cons_zero, List.set_cons_succ, i64_w, i32_w]
        rfl
       refine one_ (i := 5) (N := some 20) q10_12 rfl rfl (one_of HT_.out (by kernel_rfl)) (by decide) (fun K hK => ?_)
       refine goes_ Try.func25 (by kernel_rfl) rfl #[.agg #[.int .i64 b1, .int .i64 b2, .slice Ao8 a7.length co8], .agg #[.int .i64 ((yah l1 a9).f0), .int .i64 ((yah l1 a9).f1), .int .i64 ((yah l1 a9).f2), .int .i64 ((yah l1 a9).f3), .int .i64 ((yah l1 a9).f4)]] (by rfl) rfl rfl (by (try simp only [List.map_toArray, List.map_cons, List.map_nil]); first | done | rfl | (simp only [List.length_drop, List.length_take]; rfl)) ?_
       with_reducible refine (impl_OpDo.calls k1 b1 b2 _ _ a7 ((yah l1 a9).f0) ((yah l1 a9).f1) ((yah l1 a9).f2) ((yah l1 a9).f3) ((yah l1 a9).f4) d6 d7 d9 e3 _ ?side1 ?side2 A7.out).mono ?_
       (case side1 => repeat (first | exact (Kd.V_reads' a5.out).2.2 | (with_reducible refine Kd.C_alloc ?_ _) | (with_reducible refine Kd.C_drewN ?_ _) | (with_reducible refine Kd.C_drew ?_)))
       (case side2 => exact (Kd.V_reads' a5.out).2.1)
       rintro e w11 ⟨e2, rfl, ho0, hb⟩; refine ⟨_, rfl, ?_⟩; have n0_ := yab (Kd.V_elder' (upV a5.out) (Kd.R_base ho0) hb)
       have n1_ := yab (Kd.R_lower (Kd.R_newM (M := fun k_ => (w.heap.size ≤ k_)) ho0 (below_size (by repeat (with_reducible first | exact HB.out | apply yae | apply yac | apply yad | refine yag ?_ (Aside0.out ‹_›)))) (fun k_ h_ => h_)) (below_size (by repeat (with_reducible first | exact HB.out | apply yae | apply yac | apply yad | refine yag ?_ (Aside0.out ‹_›)))))
       have n2_ := yab (blk_below (upB a8.out) hb); have n3_ := yab (blk_below (upB b3.out) hb); have n4_ := yab (blk_below (upB c7.out) hb)
       have n5_ := yab (below_step (by repeat (with_reducible first | exact HB.out | apply yae | apply yac | apply yad | refine yag ?_ (Aside0.out ‹_›))) hb)
       clear a5; clear a8; clear b3; clear c7; clear HB; have a5 := n0_; have c8 := n1_; have a8 := n2_; have b3 := n3_; have c7 := n4_; have HB := n5_; clear n0_ n1_ n2_ n3_ n4_ n5_; (try clear hb); (try clear hb2); (try clear hk); (try clear hi); (try clear ho0)
       refine hK.out _ _ ⟨(blk_cell a8.out 0).trans rfl, (blk_cell a8.out 1).trans rfl, (blk_cell a8.out 2).trans rfl, (upc_ HB.out b9 :), (upc_ HB.out b8 :), (upc_ HB.out b7 :), (upc_ HB.out b6 :), (upc_ HB.out b5 :)⟩ (fun hHeld => ?_)
       clear hK K
       refine norm_ (a' := ?_) ?_ ?_
       rotate_left
       ·
        show Act.put _ (some 20) _ = _
        simp only [Act.put, List.setIfInBounds_toArray, List.set_cons_zero, List.set_cons_succ, i64_w, i32_w]
        rfl
       refine pz_ 6 14 q10_13 HT_ (by kernel_rfl) ?_
       refine pz_ 7 21 q10_14 HT_ (by kernel_rfl) ?_
       refine pz_ 8 22 q10_6 HT_ (by kernel_rfl) ?_
       exact norm_ (by simp only [putAll, Act.put, List.setIfInBounds_toArray, List.set_cons_zero, List.set_cons_succ]) (hCont (e2, a6) _ ⟨hHeld, (by (with_reducible repeat (first | apply Kd.R_alloc | apply Kd.R_drewN | apply Kd.R_drew)); exact Kd.R_mono c8.out (fun _ hk => hk.1)), (by (with_reducible repeat (first | apply Kd.V_alloc | apply Kd.V_drewN | apply Kd.V_drew)); exact Kd.V_mono a5.out (fun _ hk => ⟨hk.1.1.1, ⟨hk.2, ⟨hk.1.1.2.1, ⟨hk.1.1.2.2, hk.1.2⟩⟩⟩⟩)), (upB a8.out), (upB b3.out), (upB c7.out), a4.out, e1.out, b0.out, c3.out, c0.out, c4.out, (by repeat (with_reducible first | exact HB.out | apply yae | apply yac | apply yad | refine yag ?_ (Aside0.out ‹_›)))⟩)
     rintro ⟨e2, a6⟩ w12 ⟨hS_, h0_, h1_, h2_, h3_, h4_, h5_, h6_, h7_, h8_, h9_, h10_, h11_⟩; have n0_ : Aside0 (Kd.R k53 53 w12 w.heap.size (fun k_ => (w.heap.size ≤ k_)) e2 d9) := ⟨h0_⟩; have n1_ : Aside0 (Kd.V k53 53 w12 w.heap.size (fun k_ => (P0_2_ k_ ∨ w.heap.size ≤ k_) ∧ some k_ ≠ (e2 : Value).ownBlock ∧ k_ ≠ b4 ∧ k_ ≠ c2 ∧ k_ ≠ a6) (.slice Ao8 a7.length co8) a7) := ⟨h1_⟩; have n2_ : Aside0 (w12.heap[b4]? = some (.cells #[.int .i64 b1, .int .i64 b2, .slice Ao8 a7.length co8] 25 (0, 0))) := ⟨h2_⟩; have n3_ : Aside0 (w12.heap[c2]? = some (.cells #[.int .i64 0, .int .i64 0, .slice none 0 0] 25 (0, 0))) := ⟨h3_⟩; have n4_ : Aside0 (w12.heap[a6]? = some (.cells #[.int .i64 0, .int .i64 0, .slice none 0 0] 25 (0, 0))) := ⟨h4_⟩; have n5_ : Aside0 (w.heap.size ≤ a6) := ⟨h5_⟩; have n6_ : Aside0 (w.heap.size ≤ a6) := ⟨h6_⟩; have n7_ : Aside0 (b4 ≠ a6) := ⟨h7_⟩; have n8_ : Aside0 (a6 ≠ b4) := ⟨h8_⟩; have n9_ : Aside0 (c2 ≠ a6) := ⟨h9_⟩; have e0 : Aside0 (a6 ≠ c2) := ⟨h10_⟩; have e4 : Aside0 (Below w.heap.size w w12) := ⟨h11_⟩; clear a5; clear a8; clear b3; clear HB; clear h0_ h1_ h2_ h3_ h4_ h5_ h6_ h7_ h8_ h9_ h10_ h11_; have c8 := n0_; have a5 := n1_; have a8 := n2_; have b3 := n3_; have c7 := n4_; have a4 := n5_; have e1 := n6_; have b0 := n7_; have c3 := n8_; have c0 := n9_; have c4 := e0; have HB := e4; clear n0_ n1_ n2_ n3_ n4_ n5_ n6_ n7_ n8_ n9_ e0 e4; have hHeld : w12.cell? ⟨b4, 0, none⟩ = some (.int .i64 b1) ∧ w12.cell? ⟨b4, 1, none⟩ = some (.int .i64 b2) ∧ w12.cell? ⟨b4, 2, none⟩ = some (.slice Ao8 a7.length co8) ∧ w12.cell? (ad103.add ((a9).toNat * 5)) = some (.int .i64 ((yah l1 a9).f0)) ∧ w12.cell? ⟨(ad103.add ((a9).toNat * 5)).block, (ad103.add ((a9).toNat * 5)).off + 1, none⟩ = some (.int .i64 ((yah l1 a9).f1)) ∧ w12.cell? ⟨(ad103.add ((a9).toNat * 5)).block, (ad103.add ((a9).toNat * 5)).off + 2, none⟩ = some (.int .i64 ((yah l1 a9).f2)) ∧ w12.cell? ⟨(ad103.add ((a9).toNat * 5)).block, (ad103.add ((a9).toNat * 5)).off + 3, none⟩ = some (.int .i64 ((yah l1 a9).f3)) ∧ w12.cell? ⟨(ad103.add ((a9).toNat * 5)).block, (ad103.add ((a9).toNat * 5)).off + 4, none⟩ = some (.int .i64 ((yah l1 a9).f4)) := hS_; obtain ⟨e5, e6, f6⟩ := Kd.R_slice c8.out
     (first | subst f6 | (injection f6 with f1_ f2_ f3_; have f4_ := f1_.symm; have f5_ := f3_.symm; clear f1_ f2_ f3_; subst f4_; subst f5_))
     refine norm_ (a' := ?_) ?_ ?_
     rotate_left
     ·
      simp only [putAll, Act.put, List.setIfInBounds_toArray, List.set_cons_zero, List.set_cons_succ]
      rfl
     refine one_ (i := 10) (N := none) q10_15 rfl rfl (one_of HT_.out (by kernel_rfl)) (by decide) (fun K hK => ?_)
     have l4 : w12.cell? ⟨a6, 0, none⟩ = some (.int .i64 0) := (blk_cell c7.out 0).trans rfl; have k0 := blk_frozen c7.out 0; have f9 := b0.out; have g0 := c0.out; have g1 := c3.out; have g2 := c4.out; have l5 : w12.cell? ⟨a6, 1, none⟩ = some (.int .i64 0) := (blk_cell c7.out 1).trans rfl; have k2 := blk_frozen c7.out 1; have g3 := b0.out; have g4 := c0.out; have g5 := c3.out; have g6 := c4.out; have l6 : w12.cell? ⟨a6, 2, none⟩ = some (.slice none 0 0) := (blk_cell c7.out 2).trans rfl; have k3 := blk_frozen c7.out 2; have g7 := b0.out; have g8 := c0.out; have g9 := c3.out; have h0 := c4.out
     refine skip_ (w1 := ?_) (by rfl) rfl ?_ ?_
     rotate_left
     ·
      go_simp
      rfl
     refine hK.out _ _ ⟨((yaf (p := ⟨a6, _, none⟩) b0.out _).trans (((yaf (p := ⟨a6, _, none⟩) b0.out _).trans (((yaf (p := ⟨a6, _, none⟩) b0.out _).trans (hHeld.1)))))), ((yaf (p := ⟨a6, _, none⟩) b0.out _).trans (((yaf (p := ⟨a6, _, none⟩) b0.out _).trans (((yaf (p := ⟨a6, _, none⟩) b0.out _).trans (hHeld.2.1)))))), ((yaf (p := ⟨a6, _, none⟩) b0.out _).trans (((yaf (p := ⟨a6, _, none⟩) b0.out _).trans (((yaf (p := ⟨a6, _, none⟩) b0.out _).trans (hHeld.2.2.1)))))), ((yaf (p := ⟨a6, _, none⟩) (by first | exact Nat.ne_of_lt (Nat.lt_of_lt_of_le (by have := World.block_lt_of_cell? _ _ b9; first | rwa [yaa] at this | exact this) a4.out) | (rw [yaa]; exact Nat.ne_of_lt (Nat.lt_of_lt_of_le (by have := World.block_lt_of_cell? _ _ b9; first | rwa [yaa] at this | exact this) a4.out)) | (show (Addr.add _ _).block ≠ _; rw [yaa]; exact Nat.ne_of_lt (Nat.lt_of_lt_of_le (by have := World.block_lt_of_cell? _ _ b9; first | rwa [yaa] at this | exact this) a4.out)) | (dsimp only; exact Nat.ne_of_lt (Nat.lt_of_lt_of_le (by have := World.block_lt_of_cell? _ _ b9; first | rwa [yaa] at this | exact this) a4.out))) _).trans (((yaf (p := ⟨a6, _, none⟩) (by first | exact Nat.ne_of_lt (Nat.lt_of_lt_of_le (by have := World.block_lt_of_cell? _ _ b9; first | rwa [yaa] at this | exact this) a4.out) | (rw [yaa]; exact Nat.ne_of_lt (Nat.lt_of_lt_of_le (by have := World.block_lt_of_cell? _ _ b9; first | rwa [yaa] at this | exact this) a4.out)) | (show (Addr.add _ _).block ≠ _; rw [yaa]; exact Nat.ne_of_lt (Nat.lt_of_lt_of_le (by have := World.block_lt_of_cell? _ _ b9; first | rwa [yaa] at this | exact this) a4.out)) | (dsimp only; exact Nat.ne_of_lt (Nat.lt_of_lt_of_le (by have := World.block_lt_of_cell? _ _ b9; first | rwa [yaa] at this | exact this) a4.out))) _).trans (((yaf (p := ⟨a6, _, none⟩) (by first | exact Nat.ne_of_lt (Nat.lt_of_lt_of_le (by have := World.block_lt_of_cell? _ _ b9; first | rwa [yaa] at this | exact this) a4.out) | (rw [yaa]; exact Nat.ne_of_lt (Nat.lt_of_lt_of_le (by have := World.block_lt_of_cell? _ _ b9; first | rwa [yaa] at this | exact this) a4.out)) | (show (Addr.add _ _).block ≠ _; rw [yaa]; exact Nat.ne_of_lt (Nat.lt_of_lt_of_le (by have := World.block_lt_of_cell? _ _ b9; first | rwa [yaa] at this | exact this) a4.out)) | (dsimp only; exact Nat.ne_of_lt (Nat.lt_of_lt_of_le (by have := World.block_lt_of_cell? _ _ b9; first | rwa [yaa] at this | exact this) a4.out))) _).trans (hHeld.2.2.2.1)))))), ((yaf (p := ⟨a6, _, none⟩) (by first | exact Nat.ne_of_lt (Nat.lt_of_lt_of_le (by have := World.block_lt_of_cell? _ _ b8; first | rwa [yaa] at this | exact this) a4.out) | (rw [yaa]; exact Nat.ne_of_lt (Nat.lt_of_lt_of_le (by have := World.block_lt_of_cell? _ _ b8; first | rwa [yaa] at this | exact this) a4.out)) | (show (Addr.add _ _).block ≠ _; rw [yaa]; exact Nat.ne_of_lt (Nat.lt_of_lt_of_le (by have := World.block_lt_of_cell? _ _ b8; first | rwa [yaa] at this | exact this) a4.out)) | (dsimp only; exact Nat.ne_of_lt (Nat.lt_of_lt_of_le (by have := World.block_lt_of_cell? _ _ b8; first | rwa [yaa] at this | exact this) a4.out))) _).trans (((yaf (p := ⟨a6, _, none⟩) (by first | exact Nat.ne_of_lt (Nat.lt_of_lt_of_le (by have := World.block_lt_of_cell? _ _ b8; first | rwa [yaa] at this | exact this) a4.out) | (rw [yaa]; exact Nat.ne_of_lt (Nat.lt_of_lt_of_le (by have := World.block_lt_of_cell? _ _ b8; first | rwa [yaa] at this | exact this) a4.out)) | (show (Addr.add _ _).block ≠ _; rw [yaa]; exact Nat.ne_of_lt (Nat.lt_of_lt_of_le (by have := World.block_lt_of_cell? _ _ b8; first | rwa [yaa] at this | exact this) a4.out)) | (dsimp only; exact Nat.ne_of_lt (Nat.lt_of_lt_of_le (by have := World.block_lt_of_cell? _ _ b8; first | rwa [yaa] at this | exact this) a4.out))) _).trans (((yaf (p := ⟨a6, _, none⟩) (by first | exact Nat.ne_of_lt (Nat.lt_of_lt_of_le (by have := World.block_lt_of_cell? _ _ b8; first | rwa [yaa] at this | exact this) a4.out) | (rw [yaa]; exact Nat.ne_of_lt (Nat.lt_of_lt_of_le (by have := World.block_lt_of_cell? _ _ b8; first | rwa [yaa] at this | exact this) a4.out)) | (show (Addr.add _ _).block ≠ _; rw [yaa]; exact Nat.ne_of_lt (Nat.lt_of_lt_of_le (by have := World.block_lt_of_cell? _ _ b8; first | rwa [yaa] at this | exact this) a4.out)) | (dsimp only; exact Nat.ne_of_lt (Nat.lt_of_lt_of_le (by have := World.block_lt_of_cell? _ _ b8; first | rwa [yaa] at this | exact this) a4.out))) _).trans (hHeld.2.2.2.2.1)))))), ((yaf (p := ⟨a6, _, none⟩) (by first | exact Nat.ne_of_lt (Nat.lt_of_lt_of_le (by have := World.block_lt_of_cell? _ _ b7; first | rwa [yaa] at this | exact this) a4.out) | (rw [yaa]; exact Nat.ne_of_lt (Nat.lt_of_lt_of_le (by have := World.block_lt_of_cell? _ _ b7; first | rwa [yaa] at this | exact this) a4.out)) | (show (Addr.add _ _).block ≠ _; rw [yaa]; exact Nat.ne_of_lt (Nat.lt_of_lt_of_le (by have := World.block_lt_of_cell? _ _ b7; first | rwa [yaa] at this | exact this) a4.out)) | (dsimp only; exact Nat.ne_of_lt (Nat.lt_of_lt_of_le (by have := World.block_lt_of_cell? _ _ b7; first | rwa [yaa] at this | exact this) a4.out))) _).trans (((yaf (p := ⟨a6, _, none⟩) (by first | exact Nat.ne_of_lt (Nat.lt_of_lt_of_le (by have := World.block_lt_of_cell? _ _ b7; first | rwa [yaa] at this | exact this) a4.out) | (rw [yaa]; exact Nat.ne_of_lt (Nat.lt_of_lt_of_le (by have := World.block_lt_of_cell? _ _ b7; first | rwa [yaa] at this | exact this) a4.out)) | (show (Addr.add _ _).block ≠ _; rw [yaa]; exact Nat.ne_of_lt (Nat.lt_of_lt_of_le (by have := World.block_lt_of_cell? _ _ b7; first | rwa [yaa] at this | exact this) a4.out)) | (dsimp only; exact Nat.ne_of_lt (Nat.lt_of_lt_of_le (by have := World.block_lt_of_cell? _ _ b7; first | rwa [yaa] at this | exact this) a4.out))) _).trans (((yaf (p := ⟨a6, _, none⟩) (by first | exact Nat.ne_of_lt (Nat.lt_of_lt_of_le (by have := World.block_lt_of_cell? _ _ b7; first | rwa [yaa] at this | exact this) a4.out) | (rw [yaa]; exact Nat.ne_of_lt (Nat.lt_of_lt_of_le (by have := World.block_lt_of_cell? _ _ b7; first | rwa [yaa] at this | exact this) a4.out)) | (show (Addr.add _ _).block ≠ _; rw [yaa]; exact Nat.ne_of_lt (Nat.lt_of_lt_of_le (by have := World.block_lt_of_cell? _ _ b7; first | rwa [yaa] at this | exact this) a4.out)) | (dsimp only; exact Nat.ne_of_lt (Nat.lt_of_lt_of_le (by have := World.block_lt_of_cell? _ _ b7; first | rwa [yaa] at this | exact this) a4.out))) _).trans (hHeld.2.2.2.2.2.1)))))), ((yaf (p := ⟨a6, _, none⟩) (by first | exact Nat.ne_of_lt (Nat.lt_of_lt_of_le (by have := World.block_lt_of_cell? _ _ b6; first | rwa [yaa] at this | exact this) a4.out) | (rw [yaa]; exact Nat.ne_of_lt (Nat.lt_of_lt_of_le (by have := World.block_lt_of_cell? _ _ b6; first | rwa [yaa] at this | exact this) a4.out)) | (show (Addr.add _ _).block ≠ _; rw [yaa]; exact Nat.ne_of_lt (Nat.lt_of_lt_of_le (by have := World.block_lt_of_cell? _ _ b6; first | rwa [yaa] at this | exact this) a4.out)) | (dsimp only; exact Nat.ne_of_lt (Nat.lt_of_lt_of_le (by have := World.block_lt_of_cell? _ _ b6; first | rwa [yaa] at this | exact this) a4.out))) _).trans (((yaf (p := ⟨a6, _, none⟩) (by first | exact Nat.ne_of_lt (Nat.lt_of_lt_of_le (by have := World.block_lt_of_cell? _ _ b6; first | rwa [yaa] at this | exact this) a4.out) | (rw [yaa]; exact Nat.ne_of_lt (Nat.lt_of_lt_of_le (by have := World.block_lt_of_cell? _ _ b6; first | rwa [yaa] at this | exact this) a4.out)) | (show (Addr.add _ _).block ≠ _; rw [yaa]; exact Nat.ne_of_lt (Nat.lt_of_lt_of_le (by have := World.block_lt_of_cell? _ _ b6; first | rwa [yaa] at this | exact this) a4.out)) | (dsimp only; exact Nat.ne_of_lt (Nat.lt_of_lt_of_le (by have := World.block_lt_of_cell? _ _ b6; first | rwa [yaa] at this | exact this) a4.out))) _).trans (((yaf (p := ⟨a6, _, none⟩) (by first | exact Nat.ne_of_lt (Nat.lt_of_lt_of_le (by have := World.block_lt_of_cell? _ _ b6; first | rwa [yaa] at this | exact this) a4.out) | (rw [yaa]; exact Nat.ne_of_lt (Nat.lt_of_lt_of_le (by have := World.block_lt_of_cell? _ _ b6; first | rwa [yaa] at this | exact this) a4.out)) | (show (Addr.add _ _).block ≠ _; rw [yaa]; exact Nat.ne_of_lt (Nat.lt_of_lt_of_le (by have := World.block_lt_of_cell? _ _ b6; first | rwa [yaa] at this | exact this) a4.out)) | (dsimp only; exact Nat.ne_of_lt (Nat.lt_of_lt_of_le (by have := World.block_lt_of_cell? _ _ b6; first | rwa [yaa] at this | exact this) a4.out))) _).trans (hHeld.2.2.2.2.2.2.1)))))), ((yaf (p := ⟨a6, _, none⟩) (by first | exact Nat.ne_of_lt (Nat.lt_of_lt_of_le (by have := World.block_lt_of_cell? _ _ b5; first | rwa [yaa] at this | exact this) a4.out) | (rw [yaa]; exact Nat.ne_of_lt (Nat.lt_of_lt_of_le (by have := World.block_lt_of_cell? _ _ b5; first | rwa [yaa] at this | exact this) a4.out)) | (show (Addr.add _ _).block ≠ _; rw [yaa]; exact Nat.ne_of_lt (Nat.lt_of_lt_of_le (by have := World.block_lt_of_cell? _ _ b5; first | rwa [yaa] at this | exact this) a4.out)) | (dsimp only; exact Nat.ne_of_lt (Nat.lt_of_lt_of_le (by have := World.block_lt_of_cell? _ _ b5; first | rwa [yaa] at this | exact this) a4.out))) _).trans (((yaf (p := ⟨a6, _, none⟩) (by first | exact Nat.ne_of_lt (Nat.lt_of_lt_of_le (by have := World.block_lt_of_cell? _ _ b5; first | rwa [yaa] at this | exact this) a4.out) | (rw [yaa]; exact Nat.ne_of_lt (Nat.lt_of_lt_of_le (by have := World.block_lt_of_cell? _ _ b5; first | rwa [yaa] at this | exact this) a4.out)) | (show (Addr.add _ _).block ≠ _; rw [yaa]; exact Nat.ne_of_lt (Nat.lt_of_lt_of_le (by have := World.block_lt_of_cell? _ _ b5; first | rwa [yaa] at this | exact this) a4.out)) | (dsimp only; exact Nat.ne_of_lt (Nat.lt_of_lt_of_le (by have := World.block_lt_of_cell? _ _ b5; first | rwa [yaa] at this | exact this) a4.out))) _).trans (((yaf (p := ⟨a6, _, none⟩) (by first | exact Nat.ne_of_lt (Nat.lt_of_lt_of_le (by have := World.block_lt_of_cell? _ _ b5; first | rwa [yaa] at this | exact this) a4.out) | (rw [yaa]; exact Nat.ne_of_lt (Nat.lt_of_lt_of_le (by have := World.block_lt_of_cell? _ _ b5; first | rwa [yaa] at this | exact this) a4.out)) | (show (Addr.add _ _).block ≠ _; rw [yaa]; exact Nat.ne_of_lt (Nat.lt_of_lt_of_le (by have := World.block_lt_of_cell? _ _ b5; first | rwa [yaa] at this | exact this) a4.out)) | (dsimp only; exact Nat.ne_of_lt (Nat.lt_of_lt_of_le (by have := World.block_lt_of_cell? _ _ b5; first | rwa [yaa] at this | exact this) a4.out))) _).trans (hHeld.2.2.2.2.2.2.2))))))⟩ (fun hHeld => ?_)
     clear hK K
     refine pz_ 11 7 q10_16 HT_ (by kernel_rfl) ?_
     refine done_ (done_of HT_.out (by kernel_rfl)) ?_
     have k4 := c3.out; have k5 := b0.out; have k6 := c4.out; have k7 := c0.out; obtain ⟨h1, h2, h3⟩ := cc3_ c7.out; obtain ⟨h4, h5, h6⟩ := cf3_ c7.out; have k8 := c9.out; have k9 := d0.out; obtain ⟨h7, h8, h9⟩ := cc3_ a8.out; obtain ⟨i0, i1, i2⟩ := cf3_ a8.out
     try go_wp2
     go_roundg k1
     case measure => have := HK1.out; omega
     case rel => exact ⟨(wrap64 (a9 + 1)), (d6), (d7), (d9), (.slice e5 d9.length e6), (by first | rfl | (simp; done) | (simp [*]; done)), H', ⟨by have := HK1.out; omega⟩, ⟨Kd.V_mono (Kd.R_V (by (with_reducible repeat (first | apply Kd.R_alloc | apply Kd.R_drewN | apply Kd.R_drew)); exact Kd.R_mono (Kd.R_far (p := ⟨b4, 2, none⟩) (Kd.R_far (p := ⟨b4, 1, none⟩) (Kd.R_far (p := ⟨b4, 0, none⟩) (Kd.R_far (p := ⟨a6, 2, none⟩) (Kd.R_far (p := ⟨a6, 1, none⟩) (Kd.R_far (p := ⟨a6, 0, none⟩) (Kd.R_types (Kd.R_types (Kd.R_types (Kd.R_types c8.out a8.out (by decide)) b3.out (by decide)) c7.out (by decide)) a8.out (by decide)) (fun _ hk => hk.1.2) (.int .i64 d6)) (fun _ hk => hk.1.2) (.int .i64 d7)) (fun _ hk => hk.1.2) (.slice e5 d9.length e6)) (fun _ hk => hk.2) (.int .i64 d6)) (fun _ hk => hk.2) (.int .i64 d7)) (fun _ hk => hk.2) (.slice e5 d9.length e6)) (fun _ hk => hk))) (fun k_ hk => by exact ⟨.inr hk.1.1.1.1, hk.1.1.1.2, hk.1.1.2⟩)⟩, ⟨by (repeat refine oneB ?_); refine blk_put (cs := #[.int .i64 d6, .int .i64 d7, .slice Ao8 a7.length co8]) ?_ 2 _ rfl; refine blk_put (cs := #[.int .i64 d6, .int .i64 b2, .slice Ao8 a7.length co8]) ?_ 1 _ rfl; refine blk_put (cs := #[.int .i64 b1, .int .i64 b2, .slice Ao8 a7.length co8]) ?_ 0 _ rfl; (repeat refine oneB ?_); refine blk_far ?_ b0.out _; (repeat refine oneB ?_); refine blk_far ?_ b0.out _; (repeat refine oneB ?_); refine blk_far ?_ b0.out _; exact upB a8.out⟩, ⟨by repeat (with_reducible first | exact b3.out | refine oneB ?_ | refine blk_far ?_ d0.out _ | refine blk_far ?_ c0.out _)⟩, ⟨by repeat (with_reducible first | exact HB.out | apply yae | apply yac | apply yad | refine yag ?_ (Aside0.out ‹_›))⟩⟩
    ·
     rw [if_neg c6] at H
     exact absurd H (by simp)
   ·
    rw [if_neg c5] at H
    have j5 : decide (a9 < (l1.length : Int)) = false := decide_eq_false c5; clear c5
    simp only [Option.some.injEq, Prod.mk.injEq] at H
    obtain ⟨rfl, rfl, rfl⟩ := H; have l2 := c9.out; have l3 := d0.out; obtain ⟨i3, i4, i5⟩ := cc3_ a8.out; obtain ⟨i6, i7, i8⟩ := cf3_ a8.out; obtain ⟨i9, j0, j1⟩ := cc3_ b3.out; obtain ⟨j2, j3, j4⟩ := cf3_ b3.out; obtain ⟨f7, f8, j7⟩ := Kd.V_slice a5.out; subst j7
    go_wp2
    refine bodyPost_ret (results_cell_row rfl _ _ c2 25 #[.int .i64 b1, .int .i64 b2, .slice f7 a7.length f8] (0, 0) _ rfl (by (repeat refine oneB ?_); refine blk_put (cs := #[.int .i64 b1, .int .i64 b2, .slice none 0 0]) ?_ 2 _ rfl; refine blk_put (cs := #[.int .i64 b1, .int .i64 0, .slice none 0 0]) ?_ 1 _ rfl; refine blk_put (cs := #[.int .i64 0, .int .i64 0, .slice none 0 0]) ?_ 0 _ rfl; exact upB b3.out) Try.underlying25 rfl (by kernel_rfl)) rfl ?_
    exact ⟨_, by first | rfl | (simp [*, errW_none, errW_some] <;> rfl), by (with_reducible repeat (first | apply Kd.V_alloc | apply Kd.V_drewN | apply Kd.V_drew)); exact Kd.V_mono (Kd.V_far (p := ⟨c2, 2, none⟩) (Kd.V_far (p := ⟨c2, 1, none⟩) (Kd.V_far (p := ⟨c2, 0, none⟩) (Kd.V_mono a5.out (fun k_ hk => (⟨hk, hk.2.2⟩ : _ ∧ k_ ≠ c2))) (fun _ hk => hk.2) (.int .i64 b1)) (fun _ hk => hk.2) (.int .i64 b2)) (fun _ hk => hk.2) (.slice f7 a7.length f8)) (fun _ hk => hk.1.1), by repeat (with_reducible first | exact HB.out | apply yae | apply yac | apply yad | refine yag ?_ (Aside0.out ‹_›))⟩
end
end Go.Proofs.Ytljobjpldbdhoaa.X
