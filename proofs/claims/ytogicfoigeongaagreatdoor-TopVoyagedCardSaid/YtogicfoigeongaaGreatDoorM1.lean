/- Parts of a proof: the symbolic walk and what it shows of single functions. -/
import Derived.Test.YtogicfoigeongaaGreatDoorP3
import Derived.Test.YtogicfoigeongaaGreatDoorL5
import Derived.Test.YtogicfoigeongaaGreatDoorL4
import Derived.Test.YtogicfoigeongaaGreatDoorL3
import Derived.Test.YtogicfoigeongaaGreatDoorP2
import Derived.Test.YtogicfoigeongaaGreatDoorC5
set_option linter.all false
namespace Go.Proofs.YtogicfoigeongaaGreatDoor
open Go.RowKit Go.SX
set_option maxRecDepth 10000
set_option maxHeartbeats 0
set_option linter.unusedSimpArgs false
set_option linter.unusedVariables false
theorem far6_fn (w : World) (v : Value) (c : Cht) (hc : ChOk w v c) : SX.Fn Tryz.prog 5 [v] w (fun _ => False) fun q N => ∃ b, q = .bool b ∧ (b = false → c.small) := by
  have dn : ∀ (g : Nat) (xs : List Value), det0 g xs = none := fun _ _ => rfl
  have hck := fun (hs : c.small) (H : List HO) w' (hp : Hp ⟨w, fun _ => False⟩ H w') => rcheck_fn w' v c (hc.hp hp) hs
  obtain ⟨sD, sT, sS, rfl, hsD, hsT, hsS⟩ := hc
  have hce := fun w' => cells_fn w' c.wide c.high sD sT sS
  obtain ⟨aD, nD, cD, rfl⟩ := hsD.shape
  obtain ⟨aT, nT, cT, rfl⟩ := hsT.shape
  obtain ⟨aS, nS, cS, rfl⟩ := hsS.shape
  have hnD := hsD.le i1_len (by omega)
  have hnT := hsT.le spc_len (by omega)
  have hnS := hsS.le i1_len (by omega)
  subst hnD hnT hnS
  refine walk [] [] (det0_ok _ _) Tryz.func5 rfl Tryz.ntmps5 res5 (by kernel_rfl) no_facts ?_
  by_cases h1 : (c.depth.length : Int) > 200
  · have e1 : ((c.depth.length : Int) > 200) = True := eq_true h1
    simp (config := { maxSteps := 4000000 }) only [↓sx0, ↓sx1, ↓sx2, ↓sx3, ↓sx4, ↓sx5, ↓sx6, sx0, sx1, sx2, sx3, sx4, sx5, sx6, tf5, ev3_hold, sxo, sxc, sxp, sxq, sxr, sxs, sxl, sxm, simprocAttr, e1]
    exact ⟨true, rfl, fun h => by cases h⟩
  have e1 : ((c.depth.length : Int) > 200) = False := eq_false h1
  by_cases h2 : (c.tide.length : Int) > 80
  · have e2 : ((c.tide.length : Int) > 80) = True := eq_true h2
    simp (config := { maxSteps := 4000000 }) only [↓sx0, ↓sx1, ↓sx2, ↓sx3, ↓sx4, ↓sx5, ↓sx6, sx0, sx1, sx2, sx3, sx4, sx5, sx6, tf5, ev3_hold, sxo, sxc, sxp, sxq, sxr, sxs, sxl, sxm, simprocAttr, e1, e2]
    exact ⟨true, rfl, fun h => by cases h⟩
  have e2 : ((c.tide.length : Int) > 80) = False := eq_false h2
  by_cases h3 : (c.swell.length : Int) > 80
  · have e3 : ((c.swell.length : Int) > 80) = True := eq_true h3
    simp (config := { maxSteps := 4000000 }) only [↓sx0, ↓sx1, ↓sx2, ↓sx3, ↓sx4, ↓sx5, ↓sx6, sx0, sx1, sx2, sx3, sx4, sx5, sx6, tf5, ev3_hold, sxo, sxc, sxp, sxq, sxr, sxs, sxl, sxm, simprocAttr, e1, e2, e3]
    exact ⟨true, rfl, fun h => by cases h⟩
  have e3 : ((c.swell.length : Int) > 80) = False := eq_false h3
  have hs : c.small := ⟨by omega, by omega, by omega⟩
  simp (config := { maxSteps := 4000000 }) only [↓sx0, ↓sx1, ↓sx2, ↓sx3, ↓sx4, ↓sx5, ↓sx6, sx0, sx1, sx2, sx3, sx4, sx5, sx6, tf5, ev3_hold, sxo, sxc, sxp, sxq, sxr, sxs, sxl, sxm, simprocAttr, e1, e2, e3, dn]
  refine CallOb.pureH (fun w' hp => hck hs _ w' hp) ?_
  rintro q N rfl
  cases ho : c.okB with
  | false =>
    refine ⟨?_⟩
    simp (config := { maxSteps := 4000000 }) only [↓sx0, ↓sx1, ↓sx2, ↓sx3, ↓sx4, ↓sx5, ↓sx6, sx0, sx1, sx2, sx3, sx4, sx5, sx6, tf5, ev3_hold, sxo, sxc, sxp, sxq, sxr, sxs, sxl, sxm, simprocAttr, dn]
    first | exact ⟨false, rfl, fun _ => hs⟩ | trace_state
  | true =>
    refine ⟨?_⟩
    simp (config := { maxSteps := 4000000 }) only [↓sx0, ↓sx1, ↓sx2, ↓sx3, ↓sx4, ↓sx5, ↓sx6, sx0, sx1, sx2, sx3, sx4, sx5, sx6, tf5, ev3_hold, sxo, sxc, sxp, sxq, sxr, sxs, sxl, sxm, simprocAttr, dn]
    refine CallOb.pureH (fun w' hp => hce w') ?_
    rintro q N2 rfl
    obtain ⟨z, hz⟩ : ∃ z, wr (c.wide * c.high) = z := ⟨_, rfl⟩
    rw [hz]
    by_cases hz2 : z > 20
    · have ez : (z > 20) = True := eq_true hz2
      refine ⟨?_⟩
      simp (config := { maxSteps := 4000000 }) only [↓sx0, ↓sx1, ↓sx2, ↓sx3, ↓sx4, ↓sx5, ↓sx6, sx0, sx1, sx2, sx3, sx4, sx5, sx6, tf5, ev3_hold, sxo, sxc, sxp, sxq, sxr, sxs, sxl, sxm, simprocAttr, ez, dn]
      first | exact ⟨true, rfl, fun _ => hs⟩ | trace_state
    have ez : (z > 20) = False := eq_false hz2
    refine ⟨?_⟩
    simp (config := { maxSteps := 4000000 }) only [↓sx0, ↓sx1, ↓sx2, ↓sx3, ↓sx4, ↓sx5, ↓sx6, sx0, sx1, sx2, sx3, sx4, sx5, sx6, tf5, ev3_hold, sxo, sxc, sxp, sxq, sxr, sxs, sxl, sxm, simprocAttr, ez, dn]
    first | exact ⟨_, rfl, fun _ => hs⟩ | trace_state
end Go.Proofs.YtogicfoigeongaaGreatDoor

namespace Go.Proofs.YtogicfoigeongaaGreatDoor
open Go.RowKit Go.SX
set_option maxRecDepth 10000
set_option maxHeartbeats 0
set_option linter.unusedSimpArgs false
set_option linter.unusedVariables false
theorem rdy_canR {c : Cht} (hok : c.ok) {b : Cls} {r : Rmp} {t : Nat} (hk : 0 ≤ r.cell ∧ r.cell ≤ (c.depth.length : Int) - 1) (ht : t < c.tide.length) (h : rdyB c b r t = true) : canB c b t r.cell.toNat = true := by
  unfold rdyB at h
  rw [Bool.and_eq_true, sureT_iff, decide_eq_true_eq] at h
  have hb := hok.bds (show r.cell.toNat < c.depth.length by omega) ht
  have h1 := h.1 (c.tlo t) (Int.le_refl _) (by omega)
  unfold laun at h1
  have h2 : b.draught ≤ c.over r.cell.toNat t (c.tlo t) := h1.2.2
  unfold canB
  rw [Bool.and_eq_true, decide_eq_true_eq, decide_eq_true_eq]
  exact ⟨h2, h.2⟩
end Go.Proofs.YtogicfoigeongaaGreatDoor

namespace Go.Proofs.YtogicfoigeongaaGreatDoor
open Go.RowKit Go.SX
set_option maxRecDepth 10000
set_option maxHeartbeats 0
set_option linter.unusedSimpArgs false
set_option linter.unusedVariables false
def mvc (L : List Nat) : Nat → Int
  | 0 => 0
  | i + 1 => mvc L i + cst (L.getD i 0) (L.getD (i + 1) 0)
theorem can_flt {c : Cht} {b : Cls} {t k : Nat} (h : canB c b t k = true) : c.flt b.draught t k = true := by
  unfold canB at h
  rw [Bool.and_eq_true] at h
  exact h.1
structure VyK (g : Vg) (L : List Nat) (s : Nat) (B : Int) : Prop where
  pos : 0 < L.length
  fst : L.getD 0 0 = g.k
  lt : ∀ j, j < L.length → L.getD j 0 < g.c.depth.length
  can : ∀ j, j < L.length → canB g.c g.b (g.t + j) (L.getD j 0) = true
  nb : ∀ j, 0 < j → j < L.length → L.getD j 0 ∈ nbL g.c.W g.c.H (L.getD (j - 1) 0)
  stay : 0 < s → ∃ j, j < L.length ∧ L.getD j 0 = g.tc
  burn : mvc L (L.length - 1) * g.b.move ≤ B
theorem getD_left {L : List Nat} {y j : Nat} (h : j < L.length) : (L ++ [y]).getD j 0 = L.getD j 0 := by
  rw [List.getD_eq_getElem?_getD, List.getElem?_append_left h, ← List.getD_eq_getElem?_getD]
theorem getD_last {L : List Nat} {y j : Nat} (h : j = L.length) : (L ++ [y]).getD j 0 = y := by
  subst h
  rw [List.getD_eq_getElem?_getD, List.getElem?_append_right (Nat.le_refl _)]
  simp
theorem mvs_left {L : List Nat} {y : Nat} : ∀ i, i < L.length → mvc (L ++ [y]) i = mvc L i
  | 0, _ => rfl
  | i + 1, h => by
    rw [mvc, mvc, mvs_left i (by omega), getD_left (by omega), getD_left h]
theorem Vg.P.known {g : Vg} (hg : g.Ok) (h0 : canB g.c g.b g.t g.k = true) {L : List Nat} {s : Nat} {B : Int} (h : g.P L s B) : VyK g L s B := by
  induction h with
  | zero =>
    refine ⟨by simp, rfl, fun j hj => ?_, fun j hj => ?_, fun j h1 h2 => ?_, fun hs => ?_, ?_⟩
    · simp at hj; subst hj; exact hg.k
    · simp at hj; subst hj; exact h0
    · simp at h2; omega
    · unfold Vg.st at hs
      rw [if_neg (by omega)] at hs
      split at hs
      · rename_i h1
        exact ⟨0, by simp, h1⟩
      · omega
    · simp [mvc]
  | @step L x y s B hP hy hc ih =>
    obtain ⟨h1, h2, h3, h4, h5, h6, h7⟩ := ih
    have hl : (L ++ [x]).length = L.length + 1 := by simp
    have hx := h3 L.length (by omega)
    rw [getD_last rfl] at hx
    have hyl := nb_lt hg hx hy
    have hwg : cst x y * g.b.move ≤ g.wg x y := by
      have hb := (clsB_iff g.b).1 hg.cls
      unfold cst Vg.wg
      by_cases e : y = x
      · rw [if_pos e, if_pos e, Int.zero_mul]
        omega
      · rw [if_neg e, if_neg e, Int.one_mul]
        exact Int.le_refl _
    refine ⟨by simp, by rw [getD_left h1]; exact h2, fun j hj => ?_, fun j hj => ?_, fun j h8 h9 => ?_, fun hs => ?_, ?_⟩
    · rw [List.length_append, hl, List.length_singleton] at hj
      by_cases e : j = L.length + 1
      · rw [getD_last (by rw [hl]; exact e)]
        exact hyl
      · rw [getD_left (by rw [hl]; omega)]
        exact h3 j (by rw [hl]; omega)
    · rw [List.length_append, hl, List.length_singleton] at hj
      by_cases e : j = L.length + 1
      · rw [getD_last (by rw [hl]; exact e), show g.t + j = g.t + L.length + 1 by omega]
        exact hc
      · rw [getD_left (by rw [hl]; omega)]
        exact h4 j (by rw [hl]; omega)
    · rw [List.length_append, hl, List.length_singleton] at h9
      by_cases e : j = L.length + 1
      · rw [getD_last (L := L ++ [x]) (j := j) (by rw [hl]; exact e), getD_left (L := L ++ [x]) (j := j - 1) (by rw [hl]; omega), getD_last (L := L) (show j - 1 = L.length by omega)]
        exact hy
      · rw [getD_left (L := L ++ [x]) (j := j) (by rw [hl]; omega), getD_left (L := L ++ [x]) (j := j - 1) (by rw [hl]; omega)]
        exact h5 j h8 (by rw [hl]; omega)
    · unfold Vg.st at hs
      by_cases e : y = g.tc
      · exact ⟨L.length + 1, by rw [List.length_append, hl]; simp, by rw [getD_last (by rw [hl])]; exact e⟩
      · have : 0 < s := by
          split at hs
          · omega
          · first | (rw [if_neg e] at hs; omega) | omega
        obtain ⟨j, h8, h9⟩ := h6 this
        exact ⟨j, by rw [List.length_append]; omega, by rw [getD_left h8]; exact h9⟩
    · rw [List.length_append, hl, List.length_singleton, show L.length + 1 + 1 - 1 = L.length + 1 by omega]
      rw [hl, show L.length + 1 - 1 = L.length by omega] at h7
      rw [mvc, mvs_left L.length (by omega), getD_left (by rw [hl]; omega), getD_last rfl, getD_last (by rw [hl]), Int.add_mul]
      omega
theorem moves_pass {c : Cht} (hok : c.ok) {g : Int} {t : Nat} {L : List Nat} (hlt : ∀ j, j < L.length → L.getD j 0 < c.depth.length) (hfl : ∀ j, j < L.length → c.flt g (t + j) (L.getD j 0) = true) (hnb : ∀ j, 0 < j → j < L.length → L.getD j 0 ∈ nbL c.W c.H (L.getD (j - 1) 0)) {a : Nat} :
    ∀ i, a + i < L.length → 0 ≤ lv (mvL c g (L.getD a 0) (t + a) i) (L.getD (a + i) 0) ∧ lv (mvL c g (L.getD a 0) (t + a) i) (L.getD (a + i) 0) ≤ mvc L (a + i) - mvc L a
  | 0, h => by
    rw [Nat.add_zero, mvL_zero (hlt a h) (hlt a h), if_pos ⟨rfl, hfl a h⟩]
    omega
  | i + 1, h => by
    obtain ⟨h1, h2⟩ := moves_pass hok hlt hfl hnb (a := a) i (by omega)
    obtain ⟨_, _, _, _, hlen⟩ := hok.dims
    have hx := hlt (a + (i + 1)) h
    have hy := hlt (a + i) (by omega)
    have hn := hnb (a + (i + 1)) (by omega) h
    rw [show a + (i + 1) - 1 = a + i by omega] at hn
    have hP : ∃ y, y ∈ nbL c.W c.H (L.getD (a + (i + 1)) 0) ∧ 0 ≤ lv (mvL c g (L.getD a 0) (t + a) i) y ∧ c.flt g (t + a + i + 1) (L.getD (a + (i + 1)) 0) = true ∧ lv (mvL c g (L.getD a 0) (t + a) i) (L.getD (a + i) 0) + cst (L.getD (a + i) 0) (L.getD (a + (i + 1)) 0) = lv (mvL c g (L.getD a 0) (t + a) i) y + cst y (L.getD (a + (i + 1)) 0) :=
      ⟨L.getD (a + i) 0, nb_symm (by omega) hn, h1, by rw [show t + a + i + 1 = t + (a + (i + 1)) by omega]; exact hfl _ h, rfl⟩
    have hm : mvc L (a + (i + 1)) = mvc L (a + i) + cst (L.getD (a + i) 0) (L.getD (a + (i + 1)) 0) := by
      rw [show a + (i + 1) = (a + i) + 1 by omega, mvc]
    rcases mvL_succ hok (g := g) (k := L.getD a 0) (t := t + a) (i := i) hx with ⟨h3, h4⟩ | ⟨h3, h4, h5⟩
    · exact absurd hP (h4 _)
    · have := h5 _ hP
      omega
end Go.Proofs.YtogicfoigeongaaGreatDoor

namespace Go.Proofs.YtogicfoigeongaaGreatDoor
open Go.RowKit Go.SX
set_option maxRecDepth 10000
set_option maxHeartbeats 0
set_option linter.unusedSimpArgs false
set_option linter.unusedVariables false
theorem wr_f1 {α : Type} {H A B : List HO} {ad : Addr} {len cap e n k o : Nat} {f : α → List Value} {l : List α} {u : α} (u' : α) {x : Value} {K : List HO → Prop} (hH : H = A ++ .row (.slice (some ad) len cap) e n (cat f l) :: B) (hf : ∀ a, (f a).length = n) (hl : l.length = len) (hu : l[k]? = some u)
    (hu' : f u' = (f u).set o x) (ho : o < n) (hK : K (A ++ .row (.slice (some ad) len cap) e n (cat f (l.set k u')) :: B)) : hold (WrOb H ((ad.add (k * n)).add o) [x] K) ⟨0⟩ := by
  have h := wr_f2 (o1 := o) (o2 := 0) u' hH hf hl hu hu' ho hK
  rw [add_add, add_add, Nat.add_zero] at h
  rw [add_add]
  exact h
def takB (g : Lg) (l x : Int) (t : Nat) : Bool := match g.stp t with
  | some s => decide (s.lv = l) && s.occ x
  | none => false
def takL (ls : List Lg) (l x : Int) (t : Nat) : Bool := ls.any fun g => takB g l x t
theorem taken_fn (w : World) (p : Lq) (hc : Sl w (lqs p) 1 (ints p.1.cells)) (hb : -100 ≤ p.1.at_ ∧ p.1.at_ ≤ 100) (hl : p.1.cells.length ≤ 100) (t : Nat) (ht : t ≤ 100) (l x : Int) (bt bl bx : Nat) (h1 : w.cell? ⟨bt, 0, none⟩ = some (I t)) (h2 : w.cell? ⟨bl, 0, none⟩ = some (I l)) (h3 : w.cell? ⟨bx, 0, none⟩ = some (I x)) :
    SX.Fn Tryz.prog 33 [lqv p, .pointer (some ⟨bt, 0, none⟩), .pointer (some ⟨bl, 0, none⟩), .pointer (some ⟨bx, 0, none⟩)] w (fun _ => False) fun v N => v = .bool (takB p.1 l x t) := by
  have dn : ∀ (g : Nat) (xs : List Value), det0 g xs = none := fun _ _ => rfl
  have hat := fun (H : List HO) w' (hp : Hp ⟨w, fun _ => False⟩ H w') => lat_fn w' p (Sl.hp (w0 := ⟨w, fun _ => False⟩) hc (fun _ _ => id) hp) hb hl t ht
  have hpx : lqc p = [I p.1.at_, I p.1.lv, I p.1.dr, .bool p.1.tail, lqs p] := rfl
  have ho : (lqs p).oneCell' = true := rfl
  unfold takB
  unfold lqv at hat ⊢
  rw [hpx] at hat ⊢
  rcases opt_or (p.1.stp t) with hs | ⟨⟨s1, s2, s3, s4⟩, hs⟩
  · rw [hs] at hat ⊢
    unfold stpV at hat
    refine walk [] [] (det0_ok _ _) Tryz.func33 rfl Tryz.ntmps33 res33 (by kernel_rfl) no_facts ?_
    simp (config := { maxSteps := 4000000 }) only [↓sx0, ↓sx1, ↓sx2, ↓sx3, ↓sx4, ↓sx5, ↓sx6, sx0, sx1, sx2, sx3, sx4, sx5, sx6, tf33, ev3_hold, sxo, sxc, sxp, sxq, sxr, sxs, sxl, sxm, simprocAttr, ho]
    refine ld_old h1 id ?_
    simp (config := { maxSteps := 4000000 }) only [↓sx0, ↓sx1, ↓sx2, ↓sx3, ↓sx4, ↓sx5, ↓sx6, sx0, sx1, sx2, sx3, sx4, sx5, sx6, tf33, ev3_hold, sxo, sxc, sxp, sxq, sxr, sxs, sxl, sxm, simprocAttr, dn, ho]
    refine CallOb.pureH (fun w' hp => hat _ w' hp) ?_
    rintro q N rfl
    refine ⟨?_⟩
    simp (config := { maxSteps := 4000000 }) only [↓sx0, ↓sx1, ↓sx2, ↓sx3, ↓sx4, ↓sx5, ↓sx6, sx0, sx1, sx2, sx3, sx4, sx5, sx6, tf33, ev3_hold, sxo, sxc, sxp, sxq, sxr, sxs, sxl, sxm, simprocAttr]
    try rfl
  · rw [hs] at hat ⊢
    have hoc := fun w' => locc_fn w' ⟨s1, s2, s3, s4⟩ x
    unfold stpV spv at hat
    unfold spv at hoc
    simp only [] at hat hoc ⊢
    obtain ⟨B, hB⟩ : ∃ B, (⟨s1, s2, s3, s4⟩ : Sp).occ x = B := ⟨_, rfl⟩
    rw [hB] at hoc ⊢
    by_cases hl : s1 = l
    · have z1 : (s1 = l) = True := eq_true hl
      rw [decide_eq_true hl]
      refine walk [] [] (det0_ok _ _) Tryz.func33 rfl Tryz.ntmps33 res33 (by kernel_rfl) no_facts ?_
      simp (config := { maxSteps := 4000000 }) only [↓sx0, ↓sx1, ↓sx2, ↓sx3, ↓sx4, ↓sx5, ↓sx6, sx0, sx1, sx2, sx3, sx4, sx5, sx6, tf33, ev3_hold, sxo, sxc, sxp, sxq, sxr, sxs, sxl, sxm, simprocAttr, ho]
      refine ld_old h1 id ?_
      simp (config := { maxSteps := 4000000 }) only [↓sx0, ↓sx1, ↓sx2, ↓sx3, ↓sx4, ↓sx5, ↓sx6, sx0, sx1, sx2, sx3, sx4, sx5, sx6, tf33, ev3_hold, sxo, sxc, sxp, sxq, sxr, sxs, sxl, sxm, simprocAttr, dn, ho]
      refine CallOb.pureH (fun w' hp => hat _ w' hp) ?_
      rintro q N rfl
      refine ⟨?_⟩
      simp (config := { maxSteps := 4000000 }) only [↓sx0, ↓sx1, ↓sx2, ↓sx3, ↓sx4, ↓sx5, ↓sx6, sx0, sx1, sx2, sx3, sx4, sx5, sx6, tf33, ev3_hold, sxo, sxc, sxp, sxq, sxr, sxs, sxl, sxm, simprocAttr]
      refine ld_old h2 id ?_
      simp (config := { maxSteps := 4000000 }) only [↓sx0, ↓sx1, ↓sx2, ↓sx3, ↓sx4, ↓sx5, ↓sx6, sx0, sx1, sx2, sx3, sx4, sx5, sx6, tf33, ev3_hold, sxo, sxc, sxp, sxq, sxr, sxs, sxl, sxm, simprocAttr, z1]
      refine ld_old h3 id ?_
      simp (config := { maxSteps := 4000000 }) only [↓sx0, ↓sx1, ↓sx2, ↓sx3, ↓sx4, ↓sx5, ↓sx6, sx0, sx1, sx2, sx3, sx4, sx5, sx6, tf33, ev3_hold, sxo, sxc, sxp, sxq, sxr, sxs, sxl, sxm, simprocAttr, dn]
      refine CallOb.pureH (fun w' hp => hoc w') ?_
      rintro q N rfl
      refine ⟨?_⟩
      simp (config := { maxSteps := 4000000 }) only [↓sx0, ↓sx1, ↓sx2, ↓sx3, ↓sx4, ↓sx5, ↓sx6, sx0, sx1, sx2, sx3, sx4, sx5, sx6, tf33, ev3_hold, sxo, sxc, sxp, sxq, sxr, sxs, sxl, sxm, simprocAttr]
      try rfl
    · have z1 : (s1 = l) = False := eq_false hl
      rw [decide_eq_false hl]
      refine walk [] [] (det0_ok _ _) Tryz.func33 rfl Tryz.ntmps33 res33 (by kernel_rfl) no_facts ?_
      simp (config := { maxSteps := 4000000 }) only [↓sx0, ↓sx1, ↓sx2, ↓sx3, ↓sx4, ↓sx5, ↓sx6, sx0, sx1, sx2, sx3, sx4, sx5, sx6, tf33, ev3_hold, sxo, sxc, sxp, sxq, sxr, sxs, sxl, sxm, simprocAttr, ho]
      refine ld_old h1 id ?_
      simp (config := { maxSteps := 4000000 }) only [↓sx0, ↓sx1, ↓sx2, ↓sx3, ↓sx4, ↓sx5, ↓sx6, sx0, sx1, sx2, sx3, sx4, sx5, sx6, tf33, ev3_hold, sxo, sxc, sxp, sxq, sxr, sxs, sxl, sxm, simprocAttr, dn, ho]
      refine CallOb.pureH (fun w' hp => hat _ w' hp) ?_
      rintro q N rfl
      refine ⟨?_⟩
      simp (config := { maxSteps := 4000000 }) only [↓sx0, ↓sx1, ↓sx2, ↓sx3, ↓sx4, ↓sx5, ↓sx6, sx0, sx1, sx2, sx3, sx4, sx5, sx6, tf33, ev3_hold, sxo, sxc, sxp, sxq, sxr, sxs, sxl, sxm, simprocAttr]
      refine ld_old h2 id ?_
      simp (config := { maxSteps := 4000000 }) only [↓sx0, ↓sx1, ↓sx2, ↓sx3, ↓sx4, ↓sx5, ↓sx6, sx0, sx1, sx2, sx3, sx4, sx5, sx6, tf33, ev3_hold, sxo, sxc, sxp, sxq, sxr, sxs, sxl, sxm, simprocAttr, z1]
      try rfl
theorem indexG_fn (w : World) (a : Option Addr) (n cp : Nat) (l : List Lq) (hs : Sl w (.slice a n cp) 5 (cat lqc l)) (hl : l.length ≤ 1000000) (g : Nat) (cap : List Value) (P : Lq → Bool) (hT : CallT Tryz.prog g) (hg : ∀ w', Keep (fun _ => False) w w' → ∀ x ∈ l, SX.Fn Tryz.prog g (lqv x :: cap) w' (fun _ => False) fun q N => q = .bool (P x)) :
    SX.Fn Tryz.prog 62 [.slice a n cp, .func (.func g) [].toArray cap.toArray] w (fun _ => False) fun r N => ∃ m : Int, r = I m ∧ decide (m ≥ 0) = l.any P := by
  have hn := hs.le lqc_len (by omega)
  subst hn
  have hr := fun H => hs.rd0 H
  have dn : ∀ (g : Nat) (xs : List Value), det0 g xs = none := fun _ _ => rfl
  have hget : ∀ i : Nat, i < l.length → ∃ x, l[i]? = some x ∧ x ∈ l := fun i hi => ⟨l[i], List.getElem?_eq_getElem hi, List.getElem_mem hi⟩
  refine walk [] [] (det0_ok _ _) Tryz.func62 rfl Tryz.ntmps62 res62 (by kernel_rfl) no_facts ?_
  simp (config := { maxSteps := 4000000 }) only [↓sx0, ↓sx1, ↓sx2, ↓sx3, ↓sx4, ↓sx5, ↓sx6, sx0, sx1, sx2, sx3, sx4, sx5, sx6, tf62, ev3_hold, sxo, sxc, sxp, sxq, sxr, sxs, sxl, sxm, simprocAttr]
  refine loop_constH [] (HImp.refl _ _) [(4, 5), (8, 18)] (fun i : Nat => [(8, I i)]) (fun i H1 => i ≤ l.length ∧ H1 = [] ∧ l.any P = (l.drop i).any P) (fun i => l.length - i) 0 ?_ ⟨Nat.zero_le _, rfl, rfl⟩ ?_
  · simp (config := { maxSteps := 4000000 }) only [↓sx0, ↓sx1, ↓sx2, ↓sx3, ↓sx4, ↓sx5, ↓sx6, sx0, sx1, sx2, sx3, sx4, sx5, sx6, tf62, ev3_hold, sxo, sxc, sxp, sxq, sxr, sxs, sxl, sxm, simprocAttr]
    try simp
  rintro i H1 g1 ⟨hi, rfl, ht⟩
  by_cases hin : i = l.length
  · have e7 : ((i : Int) < (l.length : Int)) = False := eq_false (by omega)
    rw [List.drop_of_length_le (by omega), List.any_nil] at ht
    rw [ht]
    refine ⟨?_⟩
    simp (config := { maxSteps := 4000000 }) only [↓sx0, ↓sx1, ↓sx2, ↓sx3, ↓sx4, ↓sx5, ↓sx6, sx0, sx1, sx2, sx3, sx4, sx5, sx6, tf62, ev3_hold, sxo, sxc, sxp, sxq, sxr, sxs, sxl, sxm, simprocAttr, e7]
    exact ⟨-1, rfl, by decide⟩
  have e7 : ((i : Int) < (l.length : Int)) = True := eq_true (by omega)
  have e8 : wr (i + 1) = ((i + 1 : Nat) : Int) := (wrap_id (by omega)).trans (by omega)
  obtain ⟨x, hx, hxl⟩ := hget i (by omega)
  obtain ⟨hil, hxe⟩ := List.getElem?_eq_some_iff.1 hx
  rw [List.drop_eq_getElem_cons hil, hxe, List.any_cons] at ht
  have hpx : lqc x = [I x.1.at_, I x.1.lv, I x.1.dr, .bool x.1.tail, lqs x] := rfl
  have ho : (lqs x).oneCell' = true := rfl
  cases hP : P x with
  | true =>
    rw [hP, Bool.true_or] at ht
    rw [ht]
    refine ⟨?_⟩
    simp (config := { maxSteps := 4000000 }) only [↓sx0, ↓sx1, ↓sx2, ↓sx3, ↓sx4, ↓sx5, ↓sx6, sx0, sx1, sx2, sx3, sx4, sx5, sx6, tf62, ev3_hold, sxo, sxc, sxp, sxq, sxr, sxs, sxl, sxm, simprocAttr, e7]
    refine amid (at_n (hr _) lqc_len (by omega) hx fun ad => ?_)
    simp (config := { maxSteps := 4000000 }) only [↓sx0, ↓sx1, ↓sx2, ↓sx3, ↓sx4, ↓sx5, ↓sx6, sx0, sx1, sx2, sx3, sx4, sx5, sx6, tf62, ev3_hold, sxo, sxc, sxp, sxq, sxr, sxs, sxl, sxm, simprocAttr, hpx, ho, dn]
    refine ⟨hT, ?_⟩
    refine CallOb.pureH (fun w' hp' => hg w' hp'.ext x hxl) ?_
    rintro q N rfl
    rw [hP]
    refine ⟨?_⟩
    simp (config := { maxSteps := 4000000 }) only [↓sx0, ↓sx1, ↓sx2, ↓sx3, ↓sx4, ↓sx5, ↓sx6, sx0, sx1, sx2, sx3, sx4, sx5, sx6, tf62, ev3_hold, sxo, sxc, sxp, sxq, sxr, sxs, sxl, sxm, simprocAttr]
    first | exact ⟨(i : Int), rfl, by omega⟩ | exact ⟨(i : Int), rfl, decide_eq_true (by omega)⟩
  | false =>
    rw [hP, Bool.false_or] at ht
    refine ⟨?_⟩
    simp (config := { maxSteps := 4000000 }) only [↓sx0, ↓sx1, ↓sx2, ↓sx3, ↓sx4, ↓sx5, ↓sx6, sx0, sx1, sx2, sx3, sx4, sx5, sx6, tf62, ev3_hold, sxo, sxc, sxp, sxq, sxr, sxs, sxl, sxm, simprocAttr, e7]
    refine amid (at_n (hr _) lqc_len (by omega) hx fun ad => ?_)
    simp (config := { maxSteps := 4000000 }) only [↓sx0, ↓sx1, ↓sx2, ↓sx3, ↓sx4, ↓sx5, ↓sx6, sx0, sx1, sx2, sx3, sx4, sx5, sx6, tf62, ev3_hold, sxo, sxc, sxp, sxq, sxr, sxs, sxl, sxm, simprocAttr, hpx, ho, dn]
    refine ⟨hT, ?_⟩
    refine CallOb.pureH (fun w' hp' => hg w' hp'.ext x hxl) ?_
    rintro q N rfl
    rw [hP]
    refine ⟨?_⟩
    simp (config := { maxSteps := 4000000 }) only [↓sx0, ↓sx1, ↓sx2, ↓sx3, ↓sx4, ↓sx5, ↓sx6, sx0, sx1, sx2, sx3, sx4, sx5, sx6, tf62, ev3_hold, sxo, sxc, sxp, sxq, sxr, sxs, sxl, sxm, simprocAttr, e8]
    exact ⟨i + 1, [], rfl, HImp.nil _ _, ⟨by omega, rfl, ht⟩, by omega⟩
theorem containsG_fn (w : World) (a : Option Addr) (n cp : Nat) (l : List Lq) (hs : Sl w (.slice a n cp) 5 (cat lqc l)) (hl : l.length ≤ 1000000) (g : Nat) (cap : List Value) (P : Lq → Bool) (hT : CallT Tryz.prog g) (hg : ∀ w', Keep (fun _ => False) w w' → ∀ x ∈ l, SX.Fn Tryz.prog g (lqv x :: cap) w' (fun _ => False) fun q N => q = .bool (P x)) :
    SX.Fn Tryz.prog 32 [.slice a n cp, .func (.func g) [].toArray cap.toArray] w (fun _ => False) fun r N => r = .bool (l.any P) := by
  have dn : ∀ (g : Nat) (xs : List Value), det0 g xs = none := fun _ _ => rfl
  refine walk [] [] (det0_ok _ _) Tryz.func32 rfl Tryz.ntmps32 res32 (by kernel_rfl) no_facts ?_
  simp (config := { maxSteps := 4000000 }) only [↓sx0, ↓sx1, ↓sx2, ↓sx3, ↓sx4, ↓sx5, ↓sx6, sx0, sx1, sx2, sx3, sx4, sx5, sx6, tf32, ev3_hold, sxo, sxc, sxp, sxq, sxr, sxs, sxl, sxm, simprocAttr, dn]
  refine CallOb.pureH (fun w' hp' => indexG_fn w' a n cp l (Sl.hp (w0 := ⟨w, fun _ => False⟩) hs (fun _ _ => id) hp') hl g cap P hT fun w2 hk => hg w2 (hk.into hp'.ext fun _ h => h.elim)) ?_
  rintro r N ⟨m, rfl, hm⟩
  rw [← hm]
  refine ⟨?_⟩
  simp (config := { maxSteps := 4000000 }) only [↓sx0, ↓sx1, ↓sx2, ↓sx3, ↓sx4, ↓sx5, ↓sx6, sx0, sx1, sx2, sx3, sx4, sx5, sx6, tf32, ev3_hold, sxo, sxc, sxp, sxq, sxr, sxs, sxl, sxm, simprocAttr]
end Go.Proofs.YtogicfoigeongaaGreatDoor

namespace Go.Proofs.YtogicfoigeongaaGreatDoor
open Go.RowKit Go.SX
set_option maxRecDepth 10000
set_option maxHeartbeats 0
set_option linter.unusedSimpArgs false
set_option linter.unusedVariables false
def FreeP (ls : List Lg) (x : Nat) (T : Nat) (l : List (Int × Int)) : Prop := ∀ p ∈ l, ∀ u : Nat, p.1 ≤ (u : Int) → (u : Int) ≤ p.2 → u < T ∧ takL ls 0 (x : Int) u = false
theorem FreeP.up {ls : List Lg} {x T : Nat} {l : List (Int × Int)} (h : FreeP ls x T l) : FreeP ls x (T + 1) l := fun p hp u h1 h2 => ⟨by have := (h p hp u h1 h2).1; omega, (h p hp u h1 h2).2⟩
theorem FreeP.new {ls : List Lg} {x T : Nat} {l : List (Int × Int)} (h : FreeP ls x T l) (ht : takL ls 0 (x : Int) T = false) : FreeP ls x (T + 1) (l ++ [((T : Int), (T : Int))]) := fun p hp u h1 h2 => by
  rcases List.mem_append.1 hp with hp | hp
  · exact h.up p hp u h1 h2
  · rw [List.mem_singleton] at hp
    subst hp
    simp only [] at h1 h2
    obtain rfl : u = T := by omega
    exact ⟨by omega, ht⟩
theorem FreeP.ext {ls : List Lg} {x T : Nat} {l : List (Int × Int)} (h : FreeP ls x T l) (ht : takL ls 0 (x : Int) T = false) {i : Nat} {lo hi : Int} (hi1 : l[i]? = some (lo, hi)) (hh : hi = (T : Int) - 1) : FreeP ls x (T + 1) (l.set i (lo, (T : Int))) := fun p hp u h1 h2 => by
  rcases List.mem_or_eq_of_mem_set hp with hp | rfl
  · exact h.up p hp u h1 h2
  · simp only [] at h1 h2
    by_cases e : u = T
    · subst e
      exact ⟨by omega, ht⟩
    · have := h (lo, hi) (List.mem_of_getElem? hi1) u h1 (by simp only []; omega)
      exact ⟨by omega, this.2⟩
theorem lfree_fn (w : World) (hw : Ways w) (sD sT sS vl : Value) (c : Cht) (hc : ChOk w (.agg #[I c.wide, I c.high, sD, sT, sS]) c) (hsm : c.small) (hok : c.ok) (ls : List Lg) (hls : LegsOk w vl ls) (hl12 : ls.length ≤ 12) (hle : ∀ l ∈ ls, l.Ok c) (x : Nat) (hx : x < c.depth.length) :
    SX.Fn Tryz.prog 12 [.agg #[I c.wide, I c.high, sD, sT, sS], vl, I 0, I x] w (fun _ => False) fun q N => ∃ v l, q = .tuple #[v, I 0] ∧ Got v 55 2 spc l N ∧ FreeP ls x c.tide.length l ∧ l.length ≤ c.tide.length := by
  have dn : ∀ (g : Nat) (xs : List Value), det0 g xs = none := fun _ _ => rfl
  have hop := fun (H : List HO) w' (hp : Hp ⟨w, fun _ => False⟩ H w') => lopen_fn w' (hw.hp hp) sD sT sS vl c (hc.hp hp) hsm hok ls (hls.hp hp) hl12 hle
  have hwi := fun w' => lwithin_fn w' 0 0 3
  rw [show inB 0 0 3 = true from rfl] at hwi
  have hT60 : c.tide.length ≤ 60 := hok.2.2.2.1.2
  have hdl := hsm.1
  have hce := fun (bx : Nat) (vn : Value) (H : List HO) w' (hp : Hp ⟨w, fun _ => False⟩ H w') (hm : HO.cells bx 117 (trfC c sD sT sS vl vn) ∈ H) => by
    have := lcell_fn w' bx c sD sT sS vl vn ⟨cells_old hm hp, hc.hp hp⟩ (by omega) (x : Int)
    rw [(inB_iff _ _ _).2 ⟨by omega, by omega⟩] at this
    exact this
  obtain ⟨sD', sT', sS', he, hsD, hsT, hsS⟩ := hc
  injection he with he
  injection he with he
  simp only [List.cons.injEq, true_and, and_true] at he
  obtain ⟨rfl, rfl, rfl⟩ := he
  obtain ⟨aT, nT, cT, rfl⟩ := hsT.shape
  have hnT := hsT.le spc_len (by omega)
  subst hnT
  obtain ⟨ps, hps, hsl, hpc⟩ := hls
  obtain ⟨aL, nL, cL, rfl⟩ := hsl.shape
  have hnL := hsl.le lqc_len (by omega)
  have hpl : ps.length = ls.length := by rw [← hps, List.length_map]
  subst hnL
  have htk : ∀ t : Nat, takL ls 0 (x : Int) t = ps.any fun p => takB p.1 0 (x : Int) t := fun t => by
    unfold takL
    rw [← hps, List.any_map]
    rfl
  have hcon := fun (bt bl bx t : Nat) (ht : t < c.tide.length) (H : List HO) w' (hp : Hp ⟨w, fun _ => False⟩ H w') (h1 : HO.cells bt 3 [I t] ∈ H) (h2 : HO.cells bl 3 [I 0] ∈ H) (h3 : HO.cells bx 3 [I x] ∈ H) =>
    containsG_fn w' aL ps.length cL ps (Sl.hp (w0 := ⟨w, fun _ => False⟩) hsl (fun _ _ => id) hp) (by omega) 33 [.pointer (some ⟨bt, 0, none⟩), .pointer (some ⟨bl, 0, none⟩), .pointer (some ⟨bx, 0, none⟩)] (fun p => takB p.1 0 (x : Int) t) Tryz.call33 fun w2 hk p hpm => by
      have hok1 := hle p.1 (by rw [← hps]; exact List.mem_map_of_mem hpm)
      have k0 := hok1.at0
      have k1 := hok1.at1
      have k2 := hok1.len
      have key : ∀ (b : Nat) (v : Value), HO.cells b 3 [v] ∈ H → w2.cell? ⟨b, 0, none⟩ = some v := fun b v hm => by
        have h4 : w'.cell? ⟨b, 0, none⟩ = some v := cells_old hm hp 0 v rfl
        exact (World.cell?_of_block (w := w') (hk.block _ (World.block_lt_of_cell? w' _ h4) id)).trans h4
      exact taken_fn w2 p ((Sl.hp (w0 := ⟨w, fun _ => False⟩) (hpc p hpm) (fun _ _ => id) hp).keep hk (fun _ _ => id)) (by omega) (by omega) t (by omega) 0 x bt bl bx (key _ _ h1) (key _ _ h2) (key _ _ h3)
  unfold TrN at hop
  obtain ⟨T, hT⟩ : ∃ T, c.tide.length = T := ⟨_, rfl⟩
  rw [hT] at hT60
  try simp only [hT] at hcon
  try simp only [hT] at hop
  try simp only [hT] at hce
  try simp only [hT]
  refine walk [6, 7, 13] [] (det0_ok _ _) Tryz.func12 rfl Tryz.ntmps12 res12 (by kernel_rfl) no_facts ?_
  simp (config := { maxSteps := 4000000 }) only [↓sx0, ↓sx1, ↓sx2, ↓sx3, ↓sx4, ↓sx5, ↓sx6, sx0, sx1, sx2, sx3, sx4, sx5, sx6, tf12, ev3_hold, sxo, sxc, sxp, sxq, sxr, sxs, sxl, sxm, simprocAttr, dn]
  intro b6 b7
  refine CallOb.pureH (fun w' hp => hop _ w' hp) ?_
  rintro q N0 ⟨bx, vn, rfl, hbx, _⟩
  refine ⟨?_⟩
  simp (config := { maxSteps := 4000000 }) only [↓sx0, ↓sx1, ↓sx2, ↓sx3, ↓sx4, ↓sx5, ↓sx6, sx0, sx1, sx2, sx3, sx4, sx5, sx6, tf12, ev3_hold, sxo, sxc, sxp, sxq, sxr, sxs, sxl, sxm, simprocAttr]
  refine ld_cell (T := 3) (cs := [I 0]) (by simp) rfl ?_
  simp (config := { maxSteps := 4000000 }) only [↓sx0, ↓sx1, ↓sx2, ↓sx3, ↓sx4, ↓sx5, ↓sx6, sx0, sx1, sx2, sx3, sx4, sx5, sx6, tf12, ev3_hold, sxo, sxc, sxp, sxq, sxr, sxs, sxl, sxm, simprocAttr, dn]
  refine CallOb.pureH (fun w' hp => hwi w') ?_
  rintro q N1 rfl
  refine ⟨?_⟩
  simp (config := { maxSteps := 4000000 }) only [↓sx0, ↓sx1, ↓sx2, ↓sx3, ↓sx4, ↓sx5, ↓sx6, sx0, sx1, sx2, sx3, sx4, sx5, sx6, tf12, ev3_hold, sxo, sxc, sxp, sxq, sxr, sxs, sxl, sxm, simprocAttr]
  refine ld_cell (T := 3) (cs := [I x]) (by simp) rfl ?_
  simp (config := { maxSteps := 4000000 }) only [↓sx0, ↓sx1, ↓sx2, ↓sx3, ↓sx4, ↓sx5, ↓sx6, sx0, sx1, sx2, sx3, sx4, sx5, sx6, tf12, ev3_hold, sxo, sxc, sxp, sxq, sxr, sxs, sxl, sxm, simprocAttr, dn]
  refine CallOb.pureH (fun w' hp => hce bx vn _ w' hp (by simp [hbx])) ?_
  rintro q N2 rfl
  refine ⟨?_⟩
  simp (config := { maxSteps := 4000000 }) only [↓sx0, ↓sx1, ↓sx2, ↓sx3, ↓sx4, ↓sx5, ↓sx6, sx0, sx1, sx2, sx3, sx4, sx5, sx6, tf12, ev3_hold, sxo, sxc, sxp, sxq, sxr, sxs, sxl, sxm, simprocAttr]
  refine loop_constH (HO.row (.slice none 0 0) 55 2 (cat spc ([] : List (Int × Int))) :: [HO.cells b7 3 [I x], HO.cells b6 3 [I 0]]) (((HImp.app _ _ _).trans ((HImp.app _ _ _).trans (HImp.app _ _ _))).trans (HImp.nilRow _ _ _ _)) [(12, 15), (37, 73)] (fun q : Nat × Option Addr × Nat × List (Int × Int) => [(12, .slice q.2.1 q.2.2.2.length q.2.2.1), (37, I q.1)])
    (fun q H1 => q.1 ≤ T ∧ (q.2.1 = none → q.2.2.2 = []) ∧ FreeP ls x q.1 q.2.2.2 ∧ q.2.2.2.length ≤ q.1 ∧ H1 = HO.row (.slice q.2.1 q.2.2.2.length q.2.2.1) 55 2 (cat spc q.2.2.2) :: [HO.cells b7 3 [I x], HO.cells b6 3 [I 0]]) (fun q => T - q.1) (0, none, 0, []) ?_ ⟨Nat.zero_le _, fun _ => rfl, fun p hp => by (cases hp), Nat.zero_le _, rfl⟩ ?_
  · simp (config := { maxSteps := 4000000 }) only [↓sx0, ↓sx1, ↓sx2, ↓sx3, ↓sx4, ↓sx5, ↓sx6, sx0, sx1, sx2, sx3, sx4, sx5, sx6, tf12, ev3_hold, sxo, sxc, sxp, sxq, sxr, sxs, sxl, sxm, simprocAttr]
    try simp
  rintro ⟨t, ao, co, l⟩ H1 g1 hinv
  simp only [] at hinv
  obtain ⟨ht, hao, hfr, hll, rfl⟩ := hinv
  by_cases htn : t = T
  · subst htn
    have e7 : ((t : Int) < (t : Int)) = False := eq_false (by omega)
    refine ⟨?_⟩
    simp (config := { maxSteps := 4000000 }) only [↓sx0, ↓sx1, ↓sx2, ↓sx3, ↓sx4, ↓sx5, ↓sx6, sx0, sx1, sx2, sx3, sx4, sx5, sx6, tf12, ev3_hold, sxo, sxc, sxp, sxq, sxr, sxs, sxl, sxm, simprocAttr, e7]
    exact ⟨_, l, rfl, Got.row rfl List.mem_cons_self hao, hfr, hll⟩
  have e7 : ((t : Int) < (T : Int)) = True := eq_true (by omega)
  have e8 : wr (t + 1) = ((t + 1 : Nat) : Int) := (wrap_id (by omega)).trans (by omega)
  have e9 : wr ((t : Int) - 1) = (t : Int) - 1 := wrap_id (by omega)
  have htk1 := htk t
  have hcon1 := hcon
  obtain ⟨B, hB⟩ : ∃ B, (ps.any fun p => takB p.1 0 (x : Int) t) = B := ⟨_, rfl⟩
  have hcn := fun (bt : Nat) (H : List HO) w' (hp : Hp ⟨w, fun _ => False⟩ H w') (h1 : HO.cells bt 3 [I t] ∈ H) (h2 : HO.cells b6 3 [I 0] ∈ H) (h3 : HO.cells b7 3 [I x] ∈ H) => by
    have := hcon bt b6 b7 t (by omega) H w' hp h1 h2 h3
    rw [hB] at this
    exact this
  rw [hB] at htk1
  refine ⟨?_⟩
  simp (config := { maxSteps := 4000000 }) only [↓sx0, ↓sx1, ↓sx2, ↓sx3, ↓sx4, ↓sx5, ↓sx6, sx0, sx1, sx2, sx3, sx4, sx5, sx6, tf12, ev3_hold, sxo, sxc, sxp, sxq, sxr, sxs, sxl, sxm, simprocAttr, e7]
  intro b13
  refine wr_cell (A := []) (cs := [I 0]) rfl (by simp) ?_
  simp (config := { maxSteps := 4000000 }) only [↓sx0, ↓sx1, ↓sx2, ↓sx3, ↓sx4, ↓sx5, ↓sx6, sx0, sx1, sx2, sx3, sx4, sx5, sx6, tf12, ev3_hold, sxo, sxc, sxp, sxq, sxr, sxs, sxl, sxm, simprocAttr, dn]
  refine CallOb.pureH (fun w' hp => hcn b13 _ w' hp (by simp) (by simp) (by simp)) ?_
  rintro q N3 rfl
  cases B with
  | true =>
    refine ⟨?_⟩
    simp (config := { maxSteps := 4000000 }) only [↓sx0, ↓sx1, ↓sx2, ↓sx3, ↓sx4, ↓sx5, ↓sx6, sx0, sx1, sx2, sx3, sx4, sx5, sx6, tf12, ev3_hold, sxo, sxc, sxp, sxq, sxr, sxs, sxl, sxm, simprocAttr, e8]
    exact ⟨(t + 1, ao, co, l), _, by first | exact ⟨rfl, rfl⟩ | rfl, (HImp.app _ _ _).trans (HImp.tail _ _ _), ⟨by simp only []; omega, hao, hfr.up, by simp only []; omega, rfl⟩, by simp only []; omega⟩
  | false =>
  have hnew := hfr.new htk1
  have happ : ∀ (b : Nat) (H : List HO) (K : Value → List HO → Prop), HImp ⟨w, fun _ => False⟩ H (HO.row (.slice ao l.length co) 55 2 (cat spc l) :: [HO.cells b7 3 [I x], HO.cells b6 3 [I 0]]) → (∀ ad c', K (.slice (some ad) (l.length + 1) c') (HO.row (.slice (some ad) (l.length + 1) c') 55 2 (cat spc (l ++ [((t : Int), (t : Int))])) :: [HO.cells b7 3 [I x], HO.cells b6 3 [I 0]])) → hold (AppOb ⟨w, fun _ => False⟩ (some (55, 2, [I 0, I 0], 16)) (.slice ao l.length co) (.slice (some ⟨b, 0, none⟩) 1 1) (HO.row (.slice (some ⟨b, 0, none⟩) 1 1) 55 2 [I t, I t] :: H) K) ⟨0⟩ := fun b H K hi hK =>
    app_one (f := spc) (l := l) ((t : Int), (t : Int)) hi spc_len spc_one (by omega) hK
  by_cases hl0 : l.length = 0
  · have f1 : ((l.length : Int) > 0) = False := eq_false (by omega)
    refine ⟨?_⟩
    simp (config := { maxSteps := 4000000 }) only [↓sx0, ↓sx1, ↓sx2, ↓sx3, ↓sx4, ↓sx5, ↓sx6, sx0, sx1, sx2, sx3, sx4, sx5, sx6, tf12, ev3_hold, sxo, sxc, sxp, sxq, sxr, sxs, sxl, sxm, simprocAttr, f1]
    refine ld_cell (T := 3) (cs := [I t]) (by simp) rfl ?_
    simp (config := { maxSteps := 4000000 }) only [↓sx0, ↓sx1, ↓sx2, ↓sx3, ↓sx4, ↓sx5, ↓sx6, sx0, sx1, sx2, sx3, sx4, sx5, sx6, tf12, ev3_hold, sxo, sxc, sxp, sxq, sxr, sxs, sxl, sxm, simprocAttr]
    refine ld_cell (T := 3) (cs := [I t]) (by simp) rfl ?_
    simp (config := { maxSteps := 4000000 }) only [↓sx0, ↓sx1, ↓sx2, ↓sx3, ↓sx4, ↓sx5, ↓sx6, sx0, sx1, sx2, sx3, sx4, sx5, sx6, tf12, ev3_hold, sxo, sxc, sxp, sxq, sxr, sxs, sxl, sxm, simprocAttr]
    intro b
    refine happ _ _ _ ?_ fun ad c' => ?_
    · exact (HImp.app _ _ _).trans ((HImp.tail _ _ _).trans (HImp.refl _ _))
    simp (config := { maxSteps := 4000000 }) only [↓sx0, ↓sx1, ↓sx2, ↓sx3, ↓sx4, ↓sx5, ↓sx6, sx0, sx1, sx2, sx3, sx4, sx5, sx6, tf12, ev3_hold, sxo, sxc, sxp, sxq, sxr, sxs, sxl, sxm, simprocAttr, e8]
    exact ⟨(t + 1, some ad, c', l ++ [((t : Int), (t : Int))]), _, by first | exact ⟨rfl, rfl⟩ | (simp; done), HImp.refl _ _, ⟨by simp only []; omega, fun h => (by cases h), hnew, by simp only [List.length_append, List.length_singleton]; omega, by simp⟩, by simp only []; omega⟩
  · have f1 : ((l.length : Int) > 0) = True := eq_true (by omega)
    have f2 : wr ((l.length : Int) - 1) = ((l.length - 1 : Nat) : Int) := (wrap_id (by omega)).trans (by omega)
    have f3 : (((l.length - 1 : Nat) : Int) < (l.length : Int)) = True := eq_true (by omega)
    obtain ⟨p, hp⟩ : ∃ p, l[l.length - 1]? = some p := ⟨_, List.getElem?_eq_getElem (by omega)⟩
    obtain ⟨lo, hi⟩ := p
    obtain ⟨ad, rfl⟩ : ∃ ad, ao = some ad := by
      cases ao with
      | none => exact absurd (by rw [hao rfl]; rfl) hl0
      | some ad => exact ⟨ad, rfl⟩
    refine ⟨?_⟩
    simp (config := { maxSteps := 4000000 }) only [↓sx0, ↓sx1, ↓sx2, ↓sx3, ↓sx4, ↓sx5, ↓sx6, sx0, sx1, sx2, sx3, sx4, sx5, sx6, tf12, ev3_hold, sxo, sxc, sxp, sxq, sxr, sxs, sxl, sxm, simprocAttr, f1, f2, f3]
    refine amid (at_f (row_rdv (v := .slice (some ad) l.length co) (E := 55) (by simp) ⟨_, _, _, rfl, by rw [cat_len spc_len], fun h => by rw [hao h]; rfl⟩) spc_len hp (o := 1) (x := I hi) rfl fun ad1 => ?_)
    simp (config := { maxSteps := 4000000 }) only [↓sx0, ↓sx1, ↓sx2, ↓sx3, ↓sx4, ↓sx5, ↓sx6, sx0, sx1, sx2, sx3, sx4, sx5, sx6, tf12, ev3_hold, sxo, sxc, sxp, sxq, sxr, sxs, sxl, sxm, simprocAttr]
    refine ld_cell (T := 3) (cs := [I t]) (by simp) rfl ?_
    simp (config := { maxSteps := 4000000 }) only [↓sx0, ↓sx1, ↓sx2, ↓sx3, ↓sx4, ↓sx5, ↓sx6, sx0, sx1, sx2, sx3, sx4, sx5, sx6, tf12, ev3_hold, sxo, sxc, sxp, sxq, sxr, sxs, sxl, sxm, simprocAttr, e9]
    by_cases hh : hi = (t : Int) - 1
    · have f4 : (hi = (t : Int) - 1) = True := eq_true hh
      simp (config := { maxSteps := 4000000 }) only [↓sx0, ↓sx1, ↓sx2, ↓sx3, ↓sx4, ↓sx5, ↓sx6, sx0, sx1, sx2, sx3, sx4, sx5, sx6, tf12, ev3_hold, sxo, sxc, sxp, sxq, sxr, sxs, sxl, sxm, simprocAttr, f4]
      refine ld_cell (T := 3) (cs := [I t]) (by simp) rfl ?_
      simp (config := { maxSteps := 4000000 }) only [↓sx0, ↓sx1, ↓sx2, ↓sx3, ↓sx4, ↓sx5, ↓sx6, sx0, sx1, sx2, sx3, sx4, sx5, sx6, tf12, ev3_hold, sxo, sxc, sxp, sxq, sxr, sxs, sxl, sxm, simprocAttr, f2, f3]
      refine ⟨Int.natCast_nonneg _, ad, rfl, ?_⟩
      refine wr_f1 (A := N3 ++ [HO.cells b13 3 [I t]]) (B := [HO.cells b7 3 [I x], HO.cells b6 3 [I 0]]) (cap := co) (e := 55) (n := 2) (f := spc) (l := l) (k := l.length - 1) (o := 1) (lo, (t : Int)) (by simp) spc_len rfl hp rfl (by omega) ?_
      simp (config := { maxSteps := 4000000 }) only [↓sx0, ↓sx1, ↓sx2, ↓sx3, ↓sx4, ↓sx5, ↓sx6, sx0, sx1, sx2, sx3, sx4, sx5, sx6, tf12, ev3_hold, sxo, sxc, sxp, sxq, sxr, sxs, sxl, sxm, simprocAttr, e8]
      exact ⟨(t + 1, some ad, co, l.set (l.length - 1) (lo, (t : Int))), HO.row (.slice (some ad) l.length co) 55 2 (cat spc (l.set (l.length - 1) (lo, (t : Int)))) :: [HO.cells b7 3 [I x], HO.cells b6 3 [I 0]], by first | exact ⟨by simp, rfl⟩ | (simp; done), by first | exact HImp.app _ _ _ | exact (HImp.app _ _ _).trans (HImp.tail _ _ _), ⟨by simp only []; omega, fun h => (by cases h), hfr.ext htk1 hp hh, by simp only [List.length_set]; omega, by simp⟩, by simp only []; omega⟩
    · have f4 : (hi = (t : Int) - 1) = False := eq_false hh
      simp (config := { maxSteps := 4000000 }) only [↓sx0, ↓sx1, ↓sx2, ↓sx3, ↓sx4, ↓sx5, ↓sx6, sx0, sx1, sx2, sx3, sx4, sx5, sx6, tf12, ev3_hold, sxo, sxc, sxp, sxq, sxr, sxs, sxl, sxm, simprocAttr, f4]
      refine ld_cell (T := 3) (cs := [I t]) (by simp) rfl ?_
      simp (config := { maxSteps := 4000000 }) only [↓sx0, ↓sx1, ↓sx2, ↓sx3, ↓sx4, ↓sx5, ↓sx6, sx0, sx1, sx2, sx3, sx4, sx5, sx6, tf12, ev3_hold, sxo, sxc, sxp, sxq, sxr, sxs, sxl, sxm, simprocAttr]
      refine ld_cell (T := 3) (cs := [I t]) (by simp) rfl ?_
      simp (config := { maxSteps := 4000000 }) only [↓sx0, ↓sx1, ↓sx2, ↓sx3, ↓sx4, ↓sx5, ↓sx6, sx0, sx1, sx2, sx3, sx4, sx5, sx6, tf12, ev3_hold, sxo, sxc, sxp, sxq, sxr, sxs, sxl, sxm, simprocAttr]
      intro b
      refine happ _ _ _ ?_ fun ad c' => ?_
      · exact (HImp.app _ _ _).trans ((HImp.tail _ _ _).trans (HImp.refl _ _))
      simp (config := { maxSteps := 4000000 }) only [↓sx0, ↓sx1, ↓sx2, ↓sx3, ↓sx4, ↓sx5, ↓sx6, sx0, sx1, sx2, sx3, sx4, sx5, sx6, tf12, ev3_hold, sxo, sxc, sxp, sxq, sxr, sxs, sxl, sxm, simprocAttr, e8]
      exact ⟨(t + 1, some ad, c', l ++ [((t : Int), (t : Int))]), _, by first | exact ⟨rfl, rfl⟩ | (simp; done), HImp.refl _ _, ⟨by simp only []; omega, fun h => (by cases h), hnew, by simp only [List.length_append, List.length_singleton]; omega, by simp⟩, by simp only []; omega⟩
end Go.Proofs.YtogicfoigeongaaGreatDoor

namespace Go.Proofs.YtogicfoigeongaaGreatDoor
open Go.RowKit Go.SX
set_option maxRecDepth 10000
set_option maxHeartbeats 0
set_option linter.unusedSimpArgs false
set_option linter.unusedVariables false
def Vg.leg (g : Vg) (L : List Nat) : Lg := ⟨g.t, 0, g.b.draught, false, nts L⟩
theorem nts_len (L : List Nat) : (nts L).length = L.length := by unfold nts; rw [List.length_map]
theorem nts_lv {L : List Nat} {i : Nat} (h : i < L.length) : lv (nts L) i = ((L.getD i 0 : Nat) : Int) := by
  unfold lv nts
  rw [List.getD_eq_getElem?_getD, List.getElem?_map, List.getD_eq_getElem?_getD, List.getElem?_eq_getElem h]
  rfl
theorem Vg.leg_ok {g : Vg} (hg : g.Ok) {L : List Nat} {s : Nat} {B : Int} (h : VyK g L s B) (hT : g.t + L.length ≤ g.c.tide.length) : (g.leg L).Ok g.c := by
  have hb := (clsB_iff g.b).1 hg.cls
  have hl : (g.leg L).cells.length = L.length := nts_len L
  refine ⟨?_, ?_, ?_, ?_, ?_, ?_, ?_, ?_⟩
  · rw [hl]; exact h.pos
  · rw [hl]; omega
  · show 0 ≤ (g.t : Int); omega
  · rw [hl]; show (g.t : Int) + L.length ≤ g.c.tide.length; omega
  · show kindB 0 g.b.draught = true
    unfold kindB
    rw [if_pos rfl]
    exact (inB_iff _ _ _).2 hb.1
  · intro x hx
    change x ∈ nts L at hx
    obtain ⟨i, hi, rfl⟩ := List.getElem_of_mem hx
    rw [nts_len] at hi
    have h2 := nts_lv hi
    have h3 : lv (nts L) i = (nts L)[i] := by
      unfold lv
      rw [List.getD_eq_getElem?_getD, List.getElem?_eq_getElem (by rw [nts_len]; exact hi)]
      rfl
    have h4 := h.lt i hi
    rw [← h3, h2]
    omega
  · intro i hi
    rw [hl] at hi
    show fltB g.c 0 g.b.draught ((g.t : Int).toNat + i) (lv (nts L) i).toNat = true
    rw [nts_lv hi, Int.toNat_natCast, Int.toNat_natCast]
    unfold fltB
    rw [can_flt (h.can i hi), Bool.or_true]
  · intro i h0 hi
    rw [hl] at hi
    show (lv (nts L) i).toNat ∈ nbL g.c.W g.c.H (lv (nts L) (i - 1)).toNat
    rw [nts_lv hi, nts_lv (by omega), Int.toNat_natCast, Int.toNat_natCast]
    exact h.nb i h0 hi
theorem Vg.leg_taken {g : Vg} {L : List Nat} {i : Nat} (hi : i < L.length) : takL [g.leg L] 0 ((L.getD i 0 : Nat) : Int) (g.t + i) = true := by
  have e : (((g.t + i : Nat) : Int) - g.t).toNat = i := by omega
  have h1 : (g.leg L).stp (g.t + i) = some ⟨0, if (((g.t + i : Nat) : Int) - g.t) > 0 then (nts L).getD (((g.t + i : Nat) : Int) - g.t - 1).toNat 0 else -1, (nts L).getD i 0, false⟩ := by
    unfold Lg.stp
    rw [if_pos ⟨by show 0 ≤ ((g.t + i : Nat) : Int) - g.t; omega, by show ((g.t + i : Nat) : Int) - g.t ≤ ((nts L).length : Int) - 1; rw [nts_len]; omega⟩]
    show some (Sp.mk 0 _ ((nts L).getD (((g.t + i : Nat) : Int) - g.t).toNat 0) false) = _
    rw [e]
    rfl
  unfold takL takB
  rw [List.any_cons, h1]
  have h2 := nts_lv hi
  unfold lv at h2
  simp only [Sp.occ]
  rw [h2]
  simp
theorem FreeP.not {g : Vg} {L : List Nat} {i T : Nat} {l : List (Int × Int)} (hi : i < L.length) (h : FreeP [g.leg L] (L.getD i 0) T l) {p : Int × Int} (hp : p ∈ l) (h1 : p.1 ≤ (g.t : Int) + i) : ¬ (g.t : Int) + i ≤ p.2 := fun h2 => by
  have := (h p hp (g.t + i) (by omega) (by omega)).2
  rw [Vg.leg_taken hi] at this
  cases this
theorem mvR_at {c : Cht} {g : Int} {k t n : Nat} : mvR c g k (t : Int) ((t : Int) + n) = mvL c g k t n := by
  unfold mvR
  rw [if_neg (by omega), show ((t : Int) + n - t).toNat = n by omega, Int.toNat_natCast]
theorem mvc_le (L : List Nat) : ∀ i, 0 ≤ mvc L i ∧ mvc L i ≤ i
  | 0 => ⟨Int.le_refl _, Int.le_refl _⟩
  | i + 1 => by
    have := mvc_le L i
    rw [mvc]
    unfold cst
    split <;> omega
theorem Vg.out_back {g : Vg} (hg : g.Ok) {L : List Nat} {s a : Nat} {B : Int} (h : VyK g L s B) (ha : a < L.length) (hat : L.getD a 0 = g.tc) (hlast : L.getD (L.length - 1) 0 = g.k) :
    0 ≤ lv (mvL g.c g.b.draught g.k g.t a) g.tc ∧ 0 ≤ lv (mvL g.c g.b.draught g.tc (g.t + a) (L.length - 1 - a)) g.k ∧ (lv (mvL g.c g.b.draught g.k g.t a) g.tc + lv (mvL g.c g.b.draught g.tc (g.t + a) (L.length - 1 - a)) g.k) * g.b.move ≤ B ∧ lv (mvL g.c g.b.draught g.k g.t a) g.tc ≤ L.length ∧ lv (mvL g.c g.b.draught g.tc (g.t + a) (L.length - 1 - a)) g.k ≤ L.length := by
  have hb := (clsB_iff g.b).1 hg.cls
  have hfl : ∀ j, j < L.length → g.c.flt g.b.draught (g.t + j) (L.getD j 0) = true := fun j hj => can_flt (h.can j hj)
  have h1 := moves_pass hg.ok h.lt hfl h.nb (a := 0) a (by omega)
  have h2 := moves_pass hg.ok h.lt hfl h.nb (a := a) (L.length - 1 - a) (by omega)
  rw [Nat.zero_add, Nat.add_zero, h.fst, hat] at h1
  rw [hat, show a + (L.length - 1 - a) = L.length - 1 by omega, hlast] at h2
  obtain ⟨m, hm⟩ : ∃ m, lv (mvL g.c g.b.draught g.k g.t a) g.tc = m := ⟨_, rfl⟩
  obtain ⟨n, hn⟩ : ∃ n, lv (mvL g.c g.b.draught g.tc (g.t + a) (L.length - 1 - a)) g.k = n := ⟨_, rfl⟩
  rw [hm] at h1 ⊢
  rw [hn] at h2 ⊢
  have h3 : mvc L 0 = 0 := rfl
  have h4 : (m + n) * g.b.move ≤ mvc L (L.length - 1) * g.b.move := Int.mul_le_mul_of_nonneg_right (by omega) (by omega)
  have h5 := h.burn
  have h6 := mvc_le L a
  have h7 := mvc_le L (L.length - 1)
  exact ⟨h1.1, h2.1, by omega, by omega, by omega⟩
end Go.Proofs.YtogicfoigeongaaGreatDoor

