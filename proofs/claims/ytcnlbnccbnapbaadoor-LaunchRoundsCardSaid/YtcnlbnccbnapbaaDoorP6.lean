/- Parts of a proof: the symbolic walk and what it shows of single functions. -/
import Derived.Test.YtcnlbnccbnapbaaDoorP5
set_option linter.all false
namespace Go.Proofs.YtcnlbnccbnapbaaDoor
open Go.RowKit Go.SX
set_option maxRecDepth 10000
set_option maxHeartbeats 4000000
set_option linter.unusedSimpArgs false
set_option linter.unusedVariables false
inductive Vg.P (g : Vg) : List Nat → Nat → Int → Prop
  | zero : g.P [g.k] (g.st g.k 0) 0
  | step {L : List Nat} {x y s : Nat} {B : Int} : g.P (L ++ [x]) s B → y ∈ nbL g.c.W g.c.H x → canB g.c g.b (g.t + L.length + 1) y = true → g.P (L ++ [x] ++ [y]) (g.st y s) (B + g.wg x y)
theorem Vg.P.r {g : Vg} {L : List Nat} {s : Nat} {B : Int} (h : g.P L s B) : ∃ L' x, L = L' ++ [x] ∧ g.R L'.length s x B := by
  induction h with
  | zero => exact ⟨[], g.k, rfl, Vg.R.zero⟩
  | @step L x y s B _ hy hc ih =>
    obtain ⟨L', x', he, hr⟩ := ih
    obtain ⟨rfl, hx⟩ := List.append_inj' he rfl
    cases hx
    exact ⟨L ++ [x], y, rfl, by rw [List.length_append, List.length_singleton]; exact Vg.R.step hr hy hc⟩
theorem Vg.R.p {g : Vg} {i s x : Nat} {B : Int} (h : g.R i s x B) : ∃ L, L.length = i ∧ g.P (L ++ [x]) s B := by
  induction h with
  | zero => exact ⟨[], rfl, Vg.P.zero⟩
  | @step i s x y B _ hy hc ih =>
    obtain ⟨L, hl, hp⟩ := ih
    exact ⟨L ++ [x], by rw [List.length_append, List.length_singleton, hl], Vg.P.step hp hy (by rw [hl]; exact hc)⟩
structure Vg.Best (g : Vg) (rdy : Nat → Bool) (m : Nat) (B : Int) : Prop where
  lt : g.t + m < g.c.tide.length
  isr : rdy (g.t + m) = true
  r : g.R m (g.ts + 1) g.k B
  least : ∀ i B', g.t + i < g.c.tide.length → rdy (g.t + i) = true → g.R i (g.ts + 1) g.k B' → B ≤ B' ∧ (B' = B → m ≤ i)
def Vg.None (g : Vg) (rdy : Nat → Bool) : Prop := ∀ i B', g.t + i < g.c.tide.length → rdy (g.t + i) = true → ¬ g.R i (g.ts + 1) g.k B'
def Vg.PE (g : Vg) (L : List Nat) (B : Int) : Prop := g.P L (g.ts + 1) B ∧ L.getLast? = some g.k
def HomeP (g : Vg) (rdy : Nat → Bool) (q : Value) (N : List HO) : Prop := (g.None rdy ∧ q = .tuple #[.agg #[.slice none 0 0, I 0], .bool false]) ∨
  ∃ m B L x, g.Best rdy m B ∧ g.PE L B ∧ L.length = m + 1 ∧ q = .tuple #[.agg #[x, I B], .bool true] ∧ Got x 3 1 i1 (nts L) N
def TabW (g : Vg) (w : World) (v : Value) (R : List (List Frm)) : Prop := ∃ vs : List (Option Addr × Nat × Nat), vs.length = g.ts + 2 ∧ Sl w v 1 (cat slq vs) ∧ ∀ s, s < g.ts + 2 → ∃ q, vs[s]? = some q ∧ Sl w (.slice q.1 q.2.1 q.2.2) 3 (cat frc (R.getD s []))
def LogW (g : Vg) (w : World) (v : Value) (tabs : List (List (List Frm))) : Prop := ∃ qs : List (Option Addr × Nat × Nat), qs.length = tabs.length ∧ Sl w v 1 (cat slq qs) ∧ ∀ (i : Nat) R, tabs[i]? = some R → ∃ q, qs[i]? = some q ∧ TabW g w (.slice q.1 q.2.1 q.2.2) R
theorem LogM.w {g : Vg} {N H : List HO} {qs : List (Option Addr × Nat × Nat)} {tabs : List (List (List Frm))} (h : LogM g N qs tabs) (hT : g.Tabs tabs) {v : Value} (hv : HO.row v 164 1 (cat slq qs) ∈ N) (hm : ∀ h ∈ N, h ∈ H) {w0 : Base} {w : World} (hp : Hp w0 H w) : LogW g w v tabs := by
  refine ⟨qs, h.1, row_hp (hm _ hv) hp, fun i R hR => ?_⟩
  obtain ⟨b, aa, h1, h2, h3, h4⟩ := h.2 i R hR
  have hsh := (hT.1 i R hR).shape
  refine ⟨_, h1, aa.map (aq g.c.depth.length), by rw [List.length_map]; exact h2, row_hp (hm _ h3) hp, fun s hs => ?_⟩
  exact ⟨aq g.c.depth.length (aa[s]'(by omega)), by rw [List.getElem?_map, List.getElem?_eq_getElem (show s < aa.length by omega)]; rfl, row_hp (hm _ (h4 _ (FR_mem (by rw [h2, hsh.1]) (by omega)))) hp⟩
theorem LogW.hp {g : Vg} {w0 : World} {v : Value} {tabs : List (List (List Frm))} (h : LogW g w0 v tabs) {H : List HO} {w : World} (hp : Hp ⟨w0, fun _ => False⟩ H w) : LogW g w v tabs := by
  obtain ⟨qs, h1, h2, h3⟩ := h
  refine ⟨qs, h1, Sl.hp (w0 := ⟨w0, fun _ => False⟩) h2 (fun _ _ => id) hp, fun i R hR => ?_⟩
  obtain ⟨q, k1, vs, k2, k3, k4⟩ := h3 i R hR
  refine ⟨q, k1, vs, k2, Sl.hp (w0 := ⟨w0, fun _ => False⟩) k3 (fun _ _ => id) hp, fun s hs => ?_⟩
  obtain ⟨q', j1, j2⟩ := k4 s hs
  exact ⟨q', j1, Sl.hp (w0 := ⟨w0, fun _ => False⟩) j2 (fun _ _ => id) hp⟩
theorem Vg.Tab.iff {g : Vg} (hg : g.Ok) {i : Nat} (hi : i ≤ 100) {R : List (List Frm)} (hT : g.Tab i R) {s x : Nat} (hs : s < g.ts + 2) (hx : x < g.c.depth.length) : (∃ B, g.R i s x B) ↔ (en R s x).1 ≠ nvr := by
  constructor
  · rintro ⟨B, hr⟩ h
    have h1 := hT.least s x B hr
    have h2 := g.R_bd hg hr
    unfold nvr at h
    omega
  · exact fun h => ⟨_, hT.att s x hs hx h⟩
end Go.Proofs.YtcnlbnccbnapbaaDoor

namespace Go.Proofs.YtcnlbnccbnapbaaDoor
open Go.RowKit Go.SX
set_option maxRecDepth 10000
set_option maxHeartbeats 0
set_option linter.unusedSimpArgs false
set_option linter.unusedVariables false
theorem home5_fn (w : World) (bs : Nat) (g : Vg) (hg : g.Ok) (r : Rmp) (hkr : r.cell = g.k) (hst : StaOk w bs g.c g.b r.cell (rdyL g.c g.b r) (canL g.c g.b) (nearL g.c)) (vl : Value) (tabs : List (List (List Frm))) (hlog : LogW g w vl tabs) (hTb : g.Tabs tabs) (htl : tabs.length = g.c.tide.length - g.t) :
    SX.Fn Tryd.prog 81 [.pointer (some ⟨bs, 0, none⟩), .agg #[I g.tc, I g.ts], I g.t, vl] w (fun _ => False) (HomeP g (rdyB g.c g.b r)) := by
  obtain ⟨sD, sT, sS, vr, vc, vn, hcs, hch, hrd, hcn, hnr⟩ := hst
  obtain ⟨ar, nr, cr, rfl⟩ := hrd.shape
  have hnr' := hrd.le b1_len (by omega)
  have hrl : (rdyL g.c g.b r).length = g.c.tide.length := by unfold rdyL; rw [List.length_map, List.length_range]
  rw [hrl] at hnr'
  subst hnr'
  have hrr := hrd.rd0
  have h60 := hg.ok.2.2.2.1.2
  have hts := hg.ts
  have hk0 := hg.k
  have ht0 := hg.t
  have h144 : g.c.depth.length < 200 := by have := hg.ok.dims; obtain ⟨_, _, h1, h2, h3⟩ := this; rw [h3]; exact Nat.lt_of_le_of_lt (Nat.mul_le_mul h1.2 h2.2) (by decide)
  have m12 := hcs 12 _ rfl
  have m13 := hcs 13 _ rfl
  rw [hkr] at m12
  obtain ⟨qs, hqsl, hqss, hqs⟩ := hlog
  obtain ⟨aL, nL, cL, rfl⟩ := hqss.shape
  have hnL := hqss.le slq_len (by omega)
  have hrL := hqss.rd0
  have e0 : wr ((g.ts : Int) + 1) = ((g.ts + 1 : Nat) : Int) := (wrap_id (by omega)).trans (by omega)
  have hrt : ∀ i, g.t + i < g.c.tide.length → (rdyL g.c g.b r)[g.t + i]? = some (rdyB g.c g.b r (g.t + i)) := fun i hi => by unfold rdyL; rw [List.getElem?_map, List.getElem?_range hi]; rfl
  obtain ⟨rd, hrdE⟩ : ∃ rd, rdyB g.c g.b r = rd := ⟨_, rfl⟩
  rw [hrdE] at hrt ⊢
  refine walk [17] [] (det0_ok _ _) Tryd.func81 rfl Tryd.ntmps81 res81 (by kernel_rfl) no_facts ?_
  simp (config := { maxSteps := 4000000 }) only [↓sx0, ↓sx1, ↓sx2, ↓sx3, ↓sx4, ↓sx5, ↓sx6, sx0, sx1, sx2, sx3, sx4, sx5, sx6, tf81, ev3_hold, sxo, sxc, sxp, sxq, sxr, sxs, sxl, sxm, Int.reduceBEq, Int.reduceBNe, Int.reduceLT, Int.reduceLE, Int.reduceEq, Int.reduceGT, Int.reduceGE, Int.reduceToNat, ↓reduceIte, List.reduceReplicate, Nat.reduceAdd, Nat.reduceSub, Nat.reduceMul, Nat.reduceLT, Nat.reduceLeDiff, Nat.reduceBEq, Nat.reduceEqDiff]
  refine loop_constH [] (HImp.nil _ _) [(10, 13), (20, 55)] (fun q : Nat × Int × Nat => [(10, I q.2.1), (11, I q.2.2), (20, I q.1)])
    (fun q H1 => H1 = [] ∧ q.1 ≤ tabs.length ∧ ((q.2.1 = nvr ∧ ∀ i, i < q.1 → rd (g.t + i) = true → ∀ B, ¬ g.R i (g.ts + 1) g.k B) ∨ (q.2.1 ≠ nvr ∧ q.2.2 < q.1 ∧ rd (g.t + q.2.2) = true ∧ g.R q.2.2 (g.ts + 1) g.k q.2.1 ∧ ∀ i, i < q.1 → rd (g.t + i) = true → ∀ B, g.R i (g.ts + 1) g.k B → q.2.1 ≤ B ∧ (B = q.2.1 → q.2.2 ≤ i)))) (fun q => tabs.length - q.1) (0, nvr, 0) ?_ ⟨rfl, Nat.zero_le _, .inl ⟨rfl, fun i h => by omega⟩⟩ ?_
  · simp (config := { maxSteps := 4000000 }) only [↓sx0, ↓sx1, ↓sx2, ↓sx3, ↓sx4, ↓sx5, ↓sx6, sx0, sx1, sx2, sx3, sx4, sx5, sx6, tf81, ev3_hold, sxo, sxc, sxp, sxq, sxr, sxs, sxl, sxm, Int.reduceBEq, Int.reduceBNe, Int.reduceLT, Int.reduceLE, Int.reduceEq, Int.reduceGT, Int.reduceGE, Int.reduceToNat, ↓reduceIte, List.reduceReplicate, Nat.reduceAdd, Nat.reduceSub, Nat.reduceMul, Nat.reduceLT, Nat.reduceLeDiff, Nat.reduceBEq, Nat.reduceEqDiff]
    simp [nvr]
  rintro ⟨i, best, last⟩ H1 g1 hinv
  simp only [] at hinv
  obtain ⟨rfl, hi, hinv⟩ := hinv
  by_cases hin : i = tabs.length
  case neg =>
    have e7 : ((i : Int) < (nL : Int)) = True := eq_true (by omega)
    have e8 : wr (i + 1) = ((i + 1 : Nat) : Int) := (wrap_id (by omega)).trans (by omega)
    have e9 : wr ((g.t : Int) + i) = ((g.t + i : Nat) : Int) := (wrap_id (by omega)).trans (by omega)
    have hRl := List.getElem?_eq_getElem (show i < tabs.length by omega)
    obtain ⟨R, hR⟩ : ∃ R, tabs[i]'(by omega) = R := ⟨_, rfl⟩
    rw [hR] at hRl
    have hTi := hTb.1 i R hRl
    obtain ⟨q1, hq1, vs, hvl, hvs, hvr⟩ := hqs i R hRl
    obtain ⟨q2, hq2, hrow⟩ := hvr (g.ts + 1) (by omega)
    obtain ⟨qa, qn, qc⟩ := q1
    obtain ⟨pa, pn, pc⟩ := q2
    simp only [] at hvs hrow
    have hvsl := hvs.le slq_len (by omega)
    have hrwl := hrow.le frc_len (by omega)
    have hu := en_get hTi.shape (show g.ts + 1 < g.ts + 2 by omega) hk0
    have hbd := hTi.bd hg (show g.ts + 1 < g.ts + 2 by omega) hk0
    have hlst := hTi.least (g.ts + 1) g.k
    have hatt := hTi.att (g.ts + 1) g.k (by omega) hk0
    have hlen := hTi.shape.2 (g.ts + 1) (by omega)
    obtain ⟨e, he⟩ : ∃ e, en R (g.ts + 1) g.k = e := ⟨_, rfl⟩
    rw [he] at hu hbd hlst hatt
    obtain ⟨B, x2, x3⟩ := e
    simp only [] at hbd hlst hatt
    have hsame : ∀ (hno : rd (g.t + i) = true → best ≤ B ∧ (B = nvr ∨ best ≠ nvr)), ((best = nvr ∧ ∀ i', i' < i + 1 → rd (g.t + i') = true → ∀ B, ¬ g.R i' (g.ts + 1) g.k B) ∨ (best ≠ nvr ∧ last < i + 1 ∧ rd (g.t + last) = true ∧ g.R last (g.ts + 1) g.k best ∧ ∀ i', i' < i + 1 → rd (g.t + i') = true → ∀ B, g.R i' (g.ts + 1) g.k B → best ≤ B ∧ (B = best → last ≤ i'))) := fun hno => by
      rcases hinv with ⟨h1, h2⟩ | ⟨h1, h2, h3, h4, h5⟩
      · refine .inl ⟨h1, fun i' hi' hr B' hR' => ?_⟩
        by_cases hie : i' = i
        · subst hie
          obtain ⟨h6, h7⟩ := hno hr
          rcases h7 with h7 | h7
          · have := hlst B' hR'
            have := g.R_bd hg hR'
            unfold nvr at h7
            omega
          · exact h7 h1
        · exact h2 i' (by omega) hr B' hR'
      · refine .inr ⟨h1, by omega, h3, h4, fun i' hi' hr B' hR' => ?_⟩
        by_cases hie : i' = i
        · subst hie
          have := hlst B' hR'
          have := (hno hr).1
          exact ⟨by omega, fun _ => by omega⟩
        · exact h5 i' (by omega) hr B' hR'
    cases hrb : rd (g.t + i) with
    | false =>
      have hrtt := hrt i (by omega)
      rw [hrb] at hrtt
      refine ⟨?_⟩
      simp (config := { maxSteps := 4000000 }) only [↓sx0, ↓sx1, ↓sx2, ↓sx3, ↓sx4, ↓sx5, ↓sx6, sx0, sx1, sx2, sx3, sx4, sx5, sx6, tf81, ev3_hold, sxo, sxc, sxp, sxq, sxr, sxs, sxl, sxm, Int.reduceBEq, Int.reduceBNe, Int.reduceLT, Int.reduceLE, Int.reduceEq, Int.reduceGT, Int.reduceGE, Int.reduceToNat, ↓reduceIte, List.reduceReplicate, Nat.reduceAdd, Nat.reduceSub, Nat.reduceMul, Nat.reduceLT, Nat.reduceLeDiff, Nat.reduceBEq, Nat.reduceEqDiff, e7]
      refine amid (at_1 (hrL _) slq_len hq1 rfl fun ad1 => ?_)
      simp (config := { maxSteps := 4000000 }) only [↓sx0, ↓sx1, ↓sx2, ↓sx3, ↓sx4, ↓sx5, ↓sx6, sx0, sx1, sx2, sx3, sx4, sx5, sx6, tf81, ev3_hold, sxo, sxc, sxp, sxq, sxr, sxs, sxl, sxm, Int.reduceBEq, Int.reduceBNe, Int.reduceLT, Int.reduceLE, Int.reduceEq, Int.reduceGT, Int.reduceGE, Int.reduceToNat, ↓reduceIte, List.reduceReplicate, Nat.reduceAdd, Nat.reduceSub, Nat.reduceMul, Nat.reduceLT, Nat.reduceLeDiff, Nat.reduceBEq, Nat.reduceEqDiff, e0]
      refine at_1 (hvs.rd0 _) slq_len hq2 rfl fun ad2 => ?_
      simp (config := { maxSteps := 4000000 }) only [↓sx0, ↓sx1, ↓sx2, ↓sx3, ↓sx4, ↓sx5, ↓sx6, sx0, sx1, sx2, sx3, sx4, sx5, sx6, tf81, ev3_hold, sxo, sxc, sxp, sxq, sxr, sxs, sxl, sxm, Int.reduceBEq, Int.reduceBNe, Int.reduceLT, Int.reduceLE, Int.reduceEq, Int.reduceGT, Int.reduceGE, Int.reduceToNat, ↓reduceIte, List.reduceReplicate, Nat.reduceAdd, Nat.reduceSub, Nat.reduceMul, Nat.reduceLT, Nat.reduceLeDiff, Nat.reduceBEq, Nat.reduceEqDiff]
      refine ld_olda (by simp [add_block]) m12 id ?_
      simp (config := { maxSteps := 4000000 }) only [↓sx0, ↓sx1, ↓sx2, ↓sx3, ↓sx4, ↓sx5, ↓sx6, sx0, sx1, sx2, sx3, sx4, sx5, sx6, tf81, ev3_hold, sxo, sxc, sxp, sxq, sxr, sxs, sxl, sxm, Int.reduceBEq, Int.reduceBNe, Int.reduceLT, Int.reduceLE, Int.reduceEq, Int.reduceGT, Int.reduceGE, Int.reduceToNat, ↓reduceIte, List.reduceReplicate, Nat.reduceAdd, Nat.reduceSub, Nat.reduceMul, Nat.reduceLT, Nat.reduceLeDiff, Nat.reduceBEq, Nat.reduceEqDiff]
      refine at_f (hrow.rd0 _) frc_len hu (o := 0) (x := I B) rfl fun ad3 => ?_
      simp (config := { maxSteps := 4000000 }) only [↓sx0, ↓sx1, ↓sx2, ↓sx3, ↓sx4, ↓sx5, ↓sx6, sx0, sx1, sx2, sx3, sx4, sx5, sx6, tf81, ev3_hold, sxo, sxc, sxp, sxq, sxr, sxs, sxl, sxm, Int.reduceBEq, Int.reduceBNe, Int.reduceLT, Int.reduceLE, Int.reduceEq, Int.reduceGT, Int.reduceGE, Int.reduceToNat, ↓reduceIte, List.reduceReplicate, Nat.reduceAdd, Nat.reduceSub, Nat.reduceMul, Nat.reduceLT, Nat.reduceLeDiff, Nat.reduceBEq, Nat.reduceEqDiff]
      refine ld_olda (by simp [add_block]) m13 id ?_
      simp (config := { maxSteps := 4000000 }) only [↓sx0, ↓sx1, ↓sx2, ↓sx3, ↓sx4, ↓sx5, ↓sx6, sx0, sx1, sx2, sx3, sx4, sx5, sx6, tf81, ev3_hold, sxo, sxc, sxp, sxq, sxr, sxs, sxl, sxm, Int.reduceBEq, Int.reduceBNe, Int.reduceLT, Int.reduceLE, Int.reduceEq, Int.reduceGT, Int.reduceGE, Int.reduceToNat, ↓reduceIte, List.reduceReplicate, Nat.reduceAdd, Nat.reduceSub, Nat.reduceMul, Nat.reduceLT, Nat.reduceLeDiff, Nat.reduceBEq, Nat.reduceEqDiff, e9]
      refine at_1 (hrr _) b1_len hrtt rfl fun ad4 => ?_
      simp (config := { maxSteps := 4000000 }) only [↓sx0, ↓sx1, ↓sx2, ↓sx3, ↓sx4, ↓sx5, ↓sx6, sx0, sx1, sx2, sx3, sx4, sx5, sx6, tf81, ev3_hold, sxo, sxc, sxp, sxq, sxr, sxs, sxl, sxm, Int.reduceBEq, Int.reduceBNe, Int.reduceLT, Int.reduceLE, Int.reduceEq, Int.reduceGT, Int.reduceGE, Int.reduceToNat, ↓reduceIte, List.reduceReplicate, Nat.reduceAdd, Nat.reduceSub, Nat.reduceMul, Nat.reduceLT, Nat.reduceLeDiff, Nat.reduceBEq, Nat.reduceEqDiff, e8]
      exact ⟨(i + 1, best, last), _, ⟨rfl, rfl, rfl⟩, HImp.refl _ _, ⟨rfl, by simp only []; omega, hsame fun h => by rw [hrb] at h; cases h⟩, by simp only []; omega⟩
    | true =>
      have hrtt := hrt i (by omega)
      rw [hrb] at hrtt
      by_cases hlt : B < best
      · have p1 : (B < best) = True := eq_true hlt
        have hne : B ≠ nvr := by
          intro h
          rcases hinv with ⟨h1, _⟩ | ⟨_, _, _, h4, _⟩
          · omega
          · have := g.R_bd hg h4
            unfold nvr at h
            omega
        refine ⟨?_⟩
        simp (config := { maxSteps := 4000000 }) only [↓sx0, ↓sx1, ↓sx2, ↓sx3, ↓sx4, ↓sx5, ↓sx6, sx0, sx1, sx2, sx3, sx4, sx5, sx6, tf81, ev3_hold, sxo, sxc, sxp, sxq, sxr, sxs, sxl, sxm, Int.reduceBEq, Int.reduceBNe, Int.reduceLT, Int.reduceLE, Int.reduceEq, Int.reduceGT, Int.reduceGE, Int.reduceToNat, ↓reduceIte, List.reduceReplicate, Nat.reduceAdd, Nat.reduceSub, Nat.reduceMul, Nat.reduceLT, Nat.reduceLeDiff, Nat.reduceBEq, Nat.reduceEqDiff, e7]
        refine amid (at_1 (hrL _) slq_len hq1 rfl fun ad1 => ?_)
        simp (config := { maxSteps := 4000000 }) only [↓sx0, ↓sx1, ↓sx2, ↓sx3, ↓sx4, ↓sx5, ↓sx6, sx0, sx1, sx2, sx3, sx4, sx5, sx6, tf81, ev3_hold, sxo, sxc, sxp, sxq, sxr, sxs, sxl, sxm, Int.reduceBEq, Int.reduceBNe, Int.reduceLT, Int.reduceLE, Int.reduceEq, Int.reduceGT, Int.reduceGE, Int.reduceToNat, ↓reduceIte, List.reduceReplicate, Nat.reduceAdd, Nat.reduceSub, Nat.reduceMul, Nat.reduceLT, Nat.reduceLeDiff, Nat.reduceBEq, Nat.reduceEqDiff, e0]
        refine at_1 (hvs.rd0 _) slq_len hq2 rfl fun ad2 => ?_
        simp (config := { maxSteps := 4000000 }) only [↓sx0, ↓sx1, ↓sx2, ↓sx3, ↓sx4, ↓sx5, ↓sx6, sx0, sx1, sx2, sx3, sx4, sx5, sx6, tf81, ev3_hold, sxo, sxc, sxp, sxq, sxr, sxs, sxl, sxm, Int.reduceBEq, Int.reduceBNe, Int.reduceLT, Int.reduceLE, Int.reduceEq, Int.reduceGT, Int.reduceGE, Int.reduceToNat, ↓reduceIte, List.reduceReplicate, Nat.reduceAdd, Nat.reduceSub, Nat.reduceMul, Nat.reduceLT, Nat.reduceLeDiff, Nat.reduceBEq, Nat.reduceEqDiff]
        refine ld_olda (by simp [add_block]) m12 id ?_
        simp (config := { maxSteps := 4000000 }) only [↓sx0, ↓sx1, ↓sx2, ↓sx3, ↓sx4, ↓sx5, ↓sx6, sx0, sx1, sx2, sx3, sx4, sx5, sx6, tf81, ev3_hold, sxo, sxc, sxp, sxq, sxr, sxs, sxl, sxm, Int.reduceBEq, Int.reduceBNe, Int.reduceLT, Int.reduceLE, Int.reduceEq, Int.reduceGT, Int.reduceGE, Int.reduceToNat, ↓reduceIte, List.reduceReplicate, Nat.reduceAdd, Nat.reduceSub, Nat.reduceMul, Nat.reduceLT, Nat.reduceLeDiff, Nat.reduceBEq, Nat.reduceEqDiff]
        refine at_f (hrow.rd0 _) frc_len hu (o := 0) (x := I B) rfl fun ad3 => ?_
        simp (config := { maxSteps := 4000000 }) only [↓sx0, ↓sx1, ↓sx2, ↓sx3, ↓sx4, ↓sx5, ↓sx6, sx0, sx1, sx2, sx3, sx4, sx5, sx6, tf81, ev3_hold, sxo, sxc, sxp, sxq, sxr, sxs, sxl, sxm, Int.reduceBEq, Int.reduceBNe, Int.reduceLT, Int.reduceLE, Int.reduceEq, Int.reduceGT, Int.reduceGE, Int.reduceToNat, ↓reduceIte, List.reduceReplicate, Nat.reduceAdd, Nat.reduceSub, Nat.reduceMul, Nat.reduceLT, Nat.reduceLeDiff, Nat.reduceBEq, Nat.reduceEqDiff]
        refine ld_olda (by simp [add_block]) m13 id ?_
        simp (config := { maxSteps := 4000000 }) only [↓sx0, ↓sx1, ↓sx2, ↓sx3, ↓sx4, ↓sx5, ↓sx6, sx0, sx1, sx2, sx3, sx4, sx5, sx6, tf81, ev3_hold, sxo, sxc, sxp, sxq, sxr, sxs, sxl, sxm, Int.reduceBEq, Int.reduceBNe, Int.reduceLT, Int.reduceLE, Int.reduceEq, Int.reduceGT, Int.reduceGE, Int.reduceToNat, ↓reduceIte, List.reduceReplicate, Nat.reduceAdd, Nat.reduceSub, Nat.reduceMul, Nat.reduceLT, Nat.reduceLeDiff, Nat.reduceBEq, Nat.reduceEqDiff, e9]
        refine at_1 (hrr _) b1_len hrtt rfl fun ad4 => ?_
        simp (config := { maxSteps := 4000000 }) only [↓sx0, ↓sx1, ↓sx2, ↓sx3, ↓sx4, ↓sx5, ↓sx6, sx0, sx1, sx2, sx3, sx4, sx5, sx6, tf81, ev3_hold, sxo, sxc, sxp, sxq, sxr, sxs, sxl, sxm, Int.reduceBEq, Int.reduceBNe, Int.reduceLT, Int.reduceLE, Int.reduceEq, Int.reduceGT, Int.reduceGE, Int.reduceToNat, ↓reduceIte, List.reduceReplicate, Nat.reduceAdd, Nat.reduceSub, Nat.reduceMul, Nat.reduceLT, Nat.reduceLeDiff, Nat.reduceBEq, Nat.reduceEqDiff, p1, e8]
        exact ⟨(i + 1, B, i), _, ⟨rfl, rfl, rfl⟩, HImp.refl _ _, ⟨rfl, by simp only []; omega, .inr ⟨hne, by simp only []; omega, hrb, hatt hne, fun i' hi' hr B' hR' => by
          simp only [] at hi' ⊢
          by_cases hie : i' = i
          · subst hie
            exact ⟨hlst B' hR', fun _ => Nat.le_refl _⟩
          · rcases hinv with ⟨h1, h2⟩ | ⟨h1, h2, h3, h4, h5⟩
            · exact absurd hR' (h2 i' (by omega) hr B')
            · have := (h5 i' (by omega) hr B' hR').1
              exact ⟨by omega, fun h => by omega⟩⟩⟩, by simp only []; omega⟩
      · have p1 : (B < best) = False := eq_false hlt
        refine ⟨?_⟩
        simp (config := { maxSteps := 4000000 }) only [↓sx0, ↓sx1, ↓sx2, ↓sx3, ↓sx4, ↓sx5, ↓sx6, sx0, sx1, sx2, sx3, sx4, sx5, sx6, tf81, ev3_hold, sxo, sxc, sxp, sxq, sxr, sxs, sxl, sxm, Int.reduceBEq, Int.reduceBNe, Int.reduceLT, Int.reduceLE, Int.reduceEq, Int.reduceGT, Int.reduceGE, Int.reduceToNat, ↓reduceIte, List.reduceReplicate, Nat.reduceAdd, Nat.reduceSub, Nat.reduceMul, Nat.reduceLT, Nat.reduceLeDiff, Nat.reduceBEq, Nat.reduceEqDiff, e7]
        refine amid (at_1 (hrL _) slq_len hq1 rfl fun ad1 => ?_)
        simp (config := { maxSteps := 4000000 }) only [↓sx0, ↓sx1, ↓sx2, ↓sx3, ↓sx4, ↓sx5, ↓sx6, sx0, sx1, sx2, sx3, sx4, sx5, sx6, tf81, ev3_hold, sxo, sxc, sxp, sxq, sxr, sxs, sxl, sxm, Int.reduceBEq, Int.reduceBNe, Int.reduceLT, Int.reduceLE, Int.reduceEq, Int.reduceGT, Int.reduceGE, Int.reduceToNat, ↓reduceIte, List.reduceReplicate, Nat.reduceAdd, Nat.reduceSub, Nat.reduceMul, Nat.reduceLT, Nat.reduceLeDiff, Nat.reduceBEq, Nat.reduceEqDiff, e0]
        refine at_1 (hvs.rd0 _) slq_len hq2 rfl fun ad2 => ?_
        simp (config := { maxSteps := 4000000 }) only [↓sx0, ↓sx1, ↓sx2, ↓sx3, ↓sx4, ↓sx5, ↓sx6, sx0, sx1, sx2, sx3, sx4, sx5, sx6, tf81, ev3_hold, sxo, sxc, sxp, sxq, sxr, sxs, sxl, sxm, Int.reduceBEq, Int.reduceBNe, Int.reduceLT, Int.reduceLE, Int.reduceEq, Int.reduceGT, Int.reduceGE, Int.reduceToNat, ↓reduceIte, List.reduceReplicate, Nat.reduceAdd, Nat.reduceSub, Nat.reduceMul, Nat.reduceLT, Nat.reduceLeDiff, Nat.reduceBEq, Nat.reduceEqDiff]
        refine ld_olda (by simp [add_block]) m12 id ?_
        simp (config := { maxSteps := 4000000 }) only [↓sx0, ↓sx1, ↓sx2, ↓sx3, ↓sx4, ↓sx5, ↓sx6, sx0, sx1, sx2, sx3, sx4, sx5, sx6, tf81, ev3_hold, sxo, sxc, sxp, sxq, sxr, sxs, sxl, sxm, Int.reduceBEq, Int.reduceBNe, Int.reduceLT, Int.reduceLE, Int.reduceEq, Int.reduceGT, Int.reduceGE, Int.reduceToNat, ↓reduceIte, List.reduceReplicate, Nat.reduceAdd, Nat.reduceSub, Nat.reduceMul, Nat.reduceLT, Nat.reduceLeDiff, Nat.reduceBEq, Nat.reduceEqDiff]
        refine at_f (hrow.rd0 _) frc_len hu (o := 0) (x := I B) rfl fun ad3 => ?_
        simp (config := { maxSteps := 4000000 }) only [↓sx0, ↓sx1, ↓sx2, ↓sx3, ↓sx4, ↓sx5, ↓sx6, sx0, sx1, sx2, sx3, sx4, sx5, sx6, tf81, ev3_hold, sxo, sxc, sxp, sxq, sxr, sxs, sxl, sxm, Int.reduceBEq, Int.reduceBNe, Int.reduceLT, Int.reduceLE, Int.reduceEq, Int.reduceGT, Int.reduceGE, Int.reduceToNat, ↓reduceIte, List.reduceReplicate, Nat.reduceAdd, Nat.reduceSub, Nat.reduceMul, Nat.reduceLT, Nat.reduceLeDiff, Nat.reduceBEq, Nat.reduceEqDiff]
        refine ld_olda (by simp [add_block]) m13 id ?_
        simp (config := { maxSteps := 4000000 }) only [↓sx0, ↓sx1, ↓sx2, ↓sx3, ↓sx4, ↓sx5, ↓sx6, sx0, sx1, sx2, sx3, sx4, sx5, sx6, tf81, ev3_hold, sxo, sxc, sxp, sxq, sxr, sxs, sxl, sxm, Int.reduceBEq, Int.reduceBNe, Int.reduceLT, Int.reduceLE, Int.reduceEq, Int.reduceGT, Int.reduceGE, Int.reduceToNat, ↓reduceIte, List.reduceReplicate, Nat.reduceAdd, Nat.reduceSub, Nat.reduceMul, Nat.reduceLT, Nat.reduceLeDiff, Nat.reduceBEq, Nat.reduceEqDiff, e9]
        refine at_1 (hrr _) b1_len hrtt rfl fun ad4 => ?_
        simp (config := { maxSteps := 4000000 }) only [↓sx0, ↓sx1, ↓sx2, ↓sx3, ↓sx4, ↓sx5, ↓sx6, sx0, sx1, sx2, sx3, sx4, sx5, sx6, tf81, ev3_hold, sxo, sxc, sxp, sxq, sxr, sxs, sxl, sxm, Int.reduceBEq, Int.reduceBNe, Int.reduceLT, Int.reduceLE, Int.reduceEq, Int.reduceGT, Int.reduceGE, Int.reduceToNat, ↓reduceIte, List.reduceReplicate, Nat.reduceAdd, Nat.reduceSub, Nat.reduceMul, Nat.reduceLT, Nat.reduceLeDiff, Nat.reduceBEq, Nat.reduceEqDiff, p1, e8]
        refine ⟨(i + 1, best, last), _, ⟨rfl, rfl, rfl⟩, HImp.refl _ _, ⟨rfl, by simp only []; omega, hsame fun _ => ⟨by omega, ?_⟩⟩, by simp only []; omega⟩
        rcases hinv with ⟨h1, _⟩ | ⟨h1, _⟩
        · rcases hbd with h | h
          · exact .inl h
          · unfold nvr at h1
            omega
        · exact .inr h1
  have e7 : ((i : Int) < (nL : Int)) = False := eq_false (by omega)
  rcases hinv with ⟨hb, hnone⟩ | ⟨hb, hlt, hr, hR, hleast⟩
  · have p1 : (best = 1073741824) = True := eq_true hb
    refine ⟨?_⟩
    simp (config := { maxSteps := 4000000 }) only [↓sx0, ↓sx1, ↓sx2, ↓sx3, ↓sx4, ↓sx5, ↓sx6, sx0, sx1, sx2, sx3, sx4, sx5, sx6, tf81, ev3_hold, sxo, sxc, sxp, sxq, sxr, sxs, sxl, sxm, Int.reduceBEq, Int.reduceBNe, Int.reduceLT, Int.reduceLE, Int.reduceEq, Int.reduceGT, Int.reduceGE, Int.reduceToNat, ↓reduceIte, List.reduceReplicate, Nat.reduceAdd, Nat.reduceSub, Nat.reduceMul, Nat.reduceLT, Nat.reduceLeDiff, Nat.reduceBEq, Nat.reduceEqDiff, e7, p1]
    refine .inl ⟨fun i' B' h1 h2 h3 => hnone i' (by omega) h2 B' h3, rfl⟩
  have p1 : (best = 1073741824) = False := eq_false hb
  have e8 : wr ((last : Int) + 1) = ((last + 1 : Nat) : Int) := (wrap_id (by omega)).trans (by omega)
  have hbest : g.Best rd last best := ⟨by omega, hr, hR, fun i' B' h1 h2 h3 => hleast i' (by omega) h2 B' h3⟩
  refine ⟨?_⟩
  simp (config := { maxSteps := 4000000 }) only [↓sx0, ↓sx1, ↓sx2, ↓sx3, ↓sx4, ↓sx5, ↓sx6, sx0, sx1, sx2, sx3, sx4, sx5, sx6, tf81, ev3_hold, sxo, sxc, sxp, sxq, sxr, sxs, sxl, sxm, Int.reduceBEq, Int.reduceBNe, Int.reduceLT, Int.reduceLE, Int.reduceEq, Int.reduceGT, Int.reduceGE, Int.reduceToNat, ↓reduceIte, List.reduceReplicate, Nat.reduceAdd, Nat.reduceSub, Nat.reduceMul, Nat.reduceLT, Nat.reduceLeDiff, Nat.reduceBEq, Nat.reduceEqDiff, e7, p1, e8]
  refine ⟨by omega, by omega, by omega, fun b1' => ?_⟩
  refine ld_olda (by simp [add_block]) m12 id ?_
  simp (config := { maxSteps := 4000000 }) only [↓sx0, ↓sx1, ↓sx2, ↓sx3, ↓sx4, ↓sx5, ↓sx6, sx0, sx1, sx2, sx3, sx4, sx5, sx6, tf81, ev3_hold, sxo, sxc, sxp, sxq, sxr, sxs, sxl, sxm, Int.reduceBEq, Int.reduceBNe, Int.reduceLT, Int.reduceLE, Int.reduceEq, Int.reduceGT, Int.reduceGE, Int.reduceToNat, ↓reduceIte, List.reduceReplicate, Nat.reduceAdd, Nat.reduceSub, Nat.reduceMul, Nat.reduceLT, Nat.reduceLeDiff, Nat.reduceBEq, Nat.reduceEqDiff, e0]
  have hRl0 := List.getElem?_eq_getElem (show last < tabs.length by omega)
  obtain ⟨R0, hR0⟩ : ∃ R, tabs[last]'(by omega) = R := ⟨_, rfl⟩
  rw [hR0] at hRl0
  have hT0 := hTb.1 last R0 hRl0
  have h00 := (hT0.iff hg (by omega) (show g.ts + 1 < g.ts + 2 by omega) hk0).1 ⟨best, hR⟩
  have hb0 : (en R0 (g.ts + 1) g.k).1 = best := by
    have h1 := hT0.least _ _ _ hR
    have h2 := (hleast last hlt hr _ (hT0.att _ _ (by omega) hk0 h00)).1
    omega
  refine loop_constH [HO.row (.slice (some ⟨b1', 0, none⟩) (last + 1) (last + 1)) 3 1 (ints (List.replicate (last + 1) 0))] (by rw [show ints (List.replicate (last + 1) 0) = zerosL (last + 1) [Value.int IntKind.i64 0] from (zeros_cat i1 0 _).symm]; exact HImp.refl _ _) [(9, 9), (14, 17), (72, 95)] (fun q : Nat × Nat × Nat => [(14, I q.2.1), (15, I q.2.2), (16, I q.1)])
    (fun q H1 => q.1 ≤ last ∧ ∃ X Q R, tabs[q.1]? = some R ∧ q.2.2 < g.ts + 2 ∧ q.2.1 < g.c.depth.length ∧ (en R q.2.2 q.2.1).1 ≠ nvr ∧ X.length = last + 1 ∧ X.drop (q.1 + 1) = nts Q ∧ Q.length = last - q.1 ∧ (∀ L0 : List Nat, L0.length = q.1 → g.P (L0 ++ [q.2.1]) q.2.2 (en R q.2.2 q.2.1).1 → g.PE (L0 ++ [q.2.1] ++ Q) best) ∧ H1 = [HO.row (.slice (some ⟨b1', 0, none⟩) (last + 1) (last + 1)) 3 1 (ints X)]) (fun q => q.1) (last, g.k, g.ts + 1) ?_ ⟨Nat.le_refl _, _, [], R0, hRl0, by simp only []; omega, hk0, h00, List.length_replicate, by simp [nts], by simp, fun L0 _ h => by simp only [] at h ⊢; rw [List.append_nil]; rw [hb0] at h; exact ⟨h, by simp⟩, rfl⟩ ?_
  · simp (config := { maxSteps := 4000000 }) only [↓sx0, ↓sx1, ↓sx2, ↓sx3, ↓sx4, ↓sx5, ↓sx6, sx0, sx1, sx2, sx3, sx4, sx5, sx6, tf81, ev3_hold, sxo, sxc, sxp, sxq, sxr, sxs, sxl, sxm, Int.reduceBEq, Int.reduceBNe, Int.reduceLT, Int.reduceLE, Int.reduceEq, Int.reduceGT, Int.reduceGE, Int.reduceToNat, ↓reduceIte, List.reduceReplicate, Nat.reduceAdd, Nat.reduceSub, Nat.reduceMul, Nat.reduceLT, Nat.reduceLeDiff, Nat.reduceBEq, Nat.reduceEqDiff]
    try simp
  rintro ⟨u, y, s⟩ H2 g2 hinv2
  simp only [] at hinv2
  obtain ⟨hu, X, Q, R, hRl, hs, hy, hne, hXl, hXd, hQl, hP, rfl⟩ := hinv2
  have hTu := hTb.1 u R hRl
  by_cases hu0 : u = 0
  · subst hu0
    have hatt := hTu.att s y hs hy hne
    generalize (en R s y).1 = b0 at hatt hP
    cases hatt
    have hPL := hP [] rfl Vg.P.zero
    have hXs : X.set 0 (g.k : Int) = nts (g.k :: Q) := by
      cases X with
      | nil => simp at hXl
      | cons x X' =>
        rw [List.set_cons_zero]
        simp only [List.drop_succ_cons, List.drop_zero] at hXd
        rw [hXd]
        rfl
    refine ⟨?_⟩
    simp (config := { maxSteps := 4000000 }) only [↓sx0, ↓sx1, ↓sx2, ↓sx3, ↓sx4, ↓sx5, ↓sx6, sx0, sx1, sx2, sx3, sx4, sx5, sx6, tf81, ev3_hold, sxo, sxc, sxp, sxq, sxr, sxs, sxl, sxm, Int.reduceBEq, Int.reduceBNe, Int.reduceLT, Int.reduceLE, Int.reduceEq, Int.reduceGT, Int.reduceGE, Int.reduceToNat, ↓reduceIte, List.reduceReplicate, Nat.reduceAdd, Nat.reduceSub, Nat.reduceMul, Nat.reduceLT, Nat.reduceLeDiff, Nat.reduceBEq, Nat.reduceEqDiff]
    refine ⟨by omega, by omega, _, rfl, ?_⟩
    refine wr_at (k := 0) (A := []) (f := i1) (u := (g.k : Int)) rfl i1_len (by omega) (by omega) ?_
    rw [hXs]
    have e9 : (((0 : Nat) : Int) = 0) = True := eq_true rfl
    simp (config := { maxSteps := 4000000 }) only [↓sx0, ↓sx1, ↓sx2, ↓sx3, ↓sx4, ↓sx5, ↓sx6, sx0, sx1, sx2, sx3, sx4, sx5, sx6, tf81, ev3_hold, sxo, sxc, sxp, sxq, sxr, sxs, sxl, sxm, Int.reduceBEq, Int.reduceBNe, Int.reduceLT, Int.reduceLE, Int.reduceEq, Int.reduceGT, Int.reduceGE, Int.reduceToNat, ↓reduceIte, List.reduceReplicate, Nat.reduceAdd, Nat.reduceSub, Nat.reduceMul, Nat.reduceLT, Nat.reduceLeDiff, Nat.reduceBEq, Nat.reduceEqDiff, e9]
    exact .inr ⟨last, best, g.k :: Q, _, hbest, hPL, by rw [List.length_cons, hQl]; rfl, rfl, Got.row (by unfold nts; rw [List.length_map, List.length_cons, hQl]; rfl) List.mem_cons_self (fun h => by cases h)⟩
  have e9 : ((u : Int) = 0) = False := eq_false (by omega)
  have e10 : wr ((u : Int) - 1) = ((u - 1 : Nat) : Int) := (wrap_id (by omega)).trans (by omega)
  have hRl1 := List.getElem?_eq_getElem (show u - 1 < tabs.length by omega)
  obtain ⟨R1, hR1⟩ : ∃ R, tabs[u - 1]'(by omega) = R := ⟨_, rfl⟩
  rw [hR1] at hRl1
  have hprd := hTb.2 (u - 1) R1 R hRl1 (by rw [show u - 1 + 1 = u by omega]; exact hRl) s y hs hy hne
  obtain ⟨x0, s0, hx2, hx0, hs0, hne0, hny, hcan, hst, hbv⟩ := hprd
  obtain ⟨q1, hq1, vs, hvl, hvs, hvr⟩ := hqs u R hRl
  obtain ⟨q2, hq2, hrow⟩ := hvr s hs
  obtain ⟨qa, qn, qc⟩ := q1
  obtain ⟨pa, pn, pc⟩ := q2
  simp only [] at hvs hrow
  have hvsl := hvs.le slq_len (by omega)
  have hrwl := hrow.le frc_len (by omega)
  have hug := en_get hTu.shape hs hy
  have hlen := hTu.shape.2 s hs
  obtain ⟨e, he⟩ : ∃ e, en R s y = e := ⟨_, rfl⟩
  rw [he] at hug hx2 hbv hP
  obtain ⟨b0, ec, es⟩ := e
  simp only [Prod.mk.injEq] at hx2 hbv hP
  obtain ⟨rfl, rfl⟩ := hx2
  have hset : (X.set u (y : Int)).drop (u - 1 + 1) = nts (y :: Q) := by
    rw [show u - 1 + 1 = u by omega, List.drop_set, if_neg (by omega), Nat.sub_self, List.drop_eq_getElem_cons (show u < X.length by omega), List.set_cons_zero, hXd]
    rfl
  refine ⟨?_⟩
  simp (config := { maxSteps := 4000000 }) only [↓sx0, ↓sx1, ↓sx2, ↓sx3, ↓sx4, ↓sx5, ↓sx6, sx0, sx1, sx2, sx3, sx4, sx5, sx6, tf81, ev3_hold, sxo, sxc, sxp, sxq, sxr, sxs, sxl, sxm, Int.reduceBEq, Int.reduceBNe, Int.reduceLT, Int.reduceLE, Int.reduceEq, Int.reduceGT, Int.reduceGE, Int.reduceToNat, ↓reduceIte, List.reduceReplicate, Nat.reduceAdd, Nat.reduceSub, Nat.reduceMul, Nat.reduceLT, Nat.reduceLeDiff, Nat.reduceBEq, Nat.reduceEqDiff]
  refine ⟨by omega, by omega, _, rfl, ?_⟩
  refine wr_at (A := []) (f := i1) (u := (y : Int)) rfl i1_len (by omega) (by omega) ?_
  simp (config := { maxSteps := 4000000 }) only [↓sx0, ↓sx1, ↓sx2, ↓sx3, ↓sx4, ↓sx5, ↓sx6, sx0, sx1, sx2, sx3, sx4, sx5, sx6, tf81, ev3_hold, sxo, sxc, sxp, sxq, sxr, sxs, sxl, sxm, Int.reduceBEq, Int.reduceBNe, Int.reduceLT, Int.reduceLE, Int.reduceEq, Int.reduceGT, Int.reduceGE, Int.reduceToNat, ↓reduceIte, List.reduceReplicate, Nat.reduceAdd, Nat.reduceSub, Nat.reduceMul, Nat.reduceLT, Nat.reduceLeDiff, Nat.reduceBEq, Nat.reduceEqDiff, e9]
  refine at_1 (hrL _) slq_len hq1 rfl fun ad1 => ?_
  simp (config := { maxSteps := 4000000 }) only [↓sx0, ↓sx1, ↓sx2, ↓sx3, ↓sx4, ↓sx5, ↓sx6, sx0, sx1, sx2, sx3, sx4, sx5, sx6, tf81, ev3_hold, sxo, sxc, sxp, sxq, sxr, sxs, sxl, sxm, Int.reduceBEq, Int.reduceBNe, Int.reduceLT, Int.reduceLE, Int.reduceEq, Int.reduceGT, Int.reduceGE, Int.reduceToNat, ↓reduceIte, List.reduceReplicate, Nat.reduceAdd, Nat.reduceSub, Nat.reduceMul, Nat.reduceLT, Nat.reduceLeDiff, Nat.reduceBEq, Nat.reduceEqDiff]
  refine at_1 (hvs.rd0 _) slq_len hq2 rfl fun ad2 => ?_
  simp (config := { maxSteps := 4000000 }) only [↓sx0, ↓sx1, ↓sx2, ↓sx3, ↓sx4, ↓sx5, ↓sx6, sx0, sx1, sx2, sx3, sx4, sx5, sx6, tf81, ev3_hold, sxo, sxc, sxp, sxq, sxr, sxs, sxl, sxm, Int.reduceBEq, Int.reduceBNe, Int.reduceLT, Int.reduceLE, Int.reduceEq, Int.reduceGT, Int.reduceGE, Int.reduceToNat, ↓reduceIte, List.reduceReplicate, Nat.reduceAdd, Nat.reduceSub, Nat.reduceMul, Nat.reduceLT, Nat.reduceLeDiff, Nat.reduceBEq, Nat.reduceEqDiff]
  refine at_n (hrow.rd0 _) frc_len (by omega) hug fun ad3 => ?_
  unfold frc
  simp (config := { maxSteps := 4000000 }) only [↓sx0, ↓sx1, ↓sx2, ↓sx3, ↓sx4, ↓sx5, ↓sx6, sx0, sx1, sx2, sx3, sx4, sx5, sx6, tf81, ev3_hold, sxo, sxc, sxp, sxq, sxr, sxs, sxl, sxm, Int.reduceBEq, Int.reduceBNe, Int.reduceLT, Int.reduceLE, Int.reduceEq, Int.reduceGT, Int.reduceGE, Int.reduceToNat, ↓reduceIte, List.reduceReplicate, Nat.reduceAdd, Nat.reduceSub, Nat.reduceMul, Nat.reduceLT, Nat.reduceLeDiff, Nat.reduceBEq, Nat.reduceEqDiff]
  intro b5
  refine wr_cell (A := []) rfl (by simp) ?_
  simp (config := { maxSteps := 4000000 }) only [↓sx0, ↓sx1, ↓sx2, ↓sx3, ↓sx4, ↓sx5, ↓sx6, sx0, sx1, sx2, sx3, sx4, sx5, sx6, tf81, ev3_hold, sxo, sxc, sxp, sxq, sxr, sxs, sxl, sxm, Int.reduceBEq, Int.reduceBNe, Int.reduceLT, Int.reduceLE, Int.reduceEq, Int.reduceGT, Int.reduceGE, Int.reduceToNat, ↓reduceIte, List.reduceReplicate, Nat.reduceAdd, Nat.reduceSub, Nat.reduceMul, Nat.reduceLT, Nat.reduceLeDiff, Nat.reduceBEq, Nat.reduceEqDiff, List.take, List.drop, List.length_cons, List.length_nil, List.nil_append]
  refine ld_cella (T := 162) (cs := [I b0, I x0, I s0]) List.mem_cons_self rfl ?_
  simp (config := { maxSteps := 4000000 }) only [↓sx0, ↓sx1, ↓sx2, ↓sx3, ↓sx4, ↓sx5, ↓sx6, sx0, sx1, sx2, sx3, sx4, sx5, sx6, tf81, ev3_hold, sxo, sxc, sxp, sxq, sxr, sxs, sxl, sxm, Int.reduceBEq, Int.reduceBNe, Int.reduceLT, Int.reduceLE, Int.reduceEq, Int.reduceGT, Int.reduceGE, Int.reduceToNat, ↓reduceIte, List.reduceReplicate, Nat.reduceAdd, Nat.reduceSub, Nat.reduceMul, Nat.reduceLT, Nat.reduceLeDiff, Nat.reduceBEq, Nat.reduceEqDiff]
  refine ld_cella (T := 162) (cs := [I b0, I x0, I s0]) List.mem_cons_self rfl ?_
  simp (config := { maxSteps := 4000000 }) only [↓sx0, ↓sx1, ↓sx2, ↓sx3, ↓sx4, ↓sx5, ↓sx6, sx0, sx1, sx2, sx3, sx4, sx5, sx6, tf81, ev3_hold, sxo, sxc, sxp, sxq, sxr, sxs, sxl, sxm, Int.reduceBEq, Int.reduceBNe, Int.reduceLT, Int.reduceLE, Int.reduceEq, Int.reduceGT, Int.reduceGE, Int.reduceToNat, ↓reduceIte, List.reduceReplicate, Nat.reduceAdd, Nat.reduceSub, Nat.reduceMul, Nat.reduceLT, Nat.reduceLeDiff, Nat.reduceBEq, Nat.reduceEqDiff, e10]
  refine ⟨(u - 1, x0, s0), _, ⟨rfl, rfl, rfl⟩, HImp.tail _ _ _, ⟨by simp only []; omega, X.set u (y : Int), y :: Q, R1, hRl1, hs0, hx0, hne0, by rw [List.length_set]; exact hXl, hset, by rw [List.length_cons, hQl]; simp only []; omega, fun L0 hl0 hp => ?_, rfl⟩, by simp only []; omega⟩
  simp only [] at hl0 hp ⊢
  have hp2 := Vg.P.step hp hny (by rw [hl0]; exact hcan)
  rw [← hst, ← hbv] at hp2
  have := hP (L0 ++ [x0]) (by rw [List.length_append, List.length_singleton, hl0]; omega) hp2
  rwa [List.append_assoc (L0 ++ [x0])] at this
end Go.Proofs.YtcnlbnccbnapbaaDoor

namespace Go.Proofs.YtcnlbnccbnapbaaDoor
open Go.RowKit Go.SX
set_option maxRecDepth 10000
set_option maxHeartbeats 0
set_option linter.unusedSimpArgs false
set_option linter.unusedVariables false
def noV : Value := .agg #[.slice none 0 0, I 0]
def Vg.near (g : Vg) : Int := outV g.c g.b g.k g.t (g.c.tide.length - g.t) g.tc
def Vg.Why (g : Vg) (rdy : Nat → Bool) (fuel : Int) (why : Int) : Prop :=
  (why = 1 ∧ rdy g.t = false) ∨ (rdy g.t = true ∧ ((why = 2 ∧ g.near < 0) ∨ (0 ≤ g.near ∧ ((why = 3 ∧ g.None rdy) ∨ (why = 4 ∧ ∃ m B, g.Best rdy m B ∧ B + g.b.reserve > fuel)))))
def DecP (g : Vg) (rdy : Nat → Bool) (fuel : Int) (q : Value) (N : List HO) : Prop :=
  (∃ why, q = .tuple #[I why, noV] ∧ g.Why rdy fuel why) ∨ (rdy g.t = true ∧ 0 ≤ g.near ∧ ∃ m B L x, g.Best rdy m B ∧ g.PE L B ∧ L.length = m + 1 ∧ B + g.b.reserve ≤ fuel ∧ q = .tuple #[I 0, .agg #[x, I B]] ∧ Got x 3 1 i1 (nts L) N)
def pl47_3 : Plan := (ones [0, 1, 3, 4, 2, 5, 6, 7] .fin)
def pl47_5 : Plan := (ones [0, 1, 2, 3, 4, 5] (.pre 11 (ones [6, 7, 8, 9, 10, 11, 12, 13] .fin)))
def pl47 : List (Nat × Plan) := [(3, pl47_3), (5, pl47_5)]
theorem pl47_lk : (lkO 3 pl47 = some pl47_3) ∧ (lkO 5 pl47 = some pl47_5) ∧ (lkO 8 pl47 = none) ∧ (lkO 10 pl47 = none) := ⟨rfl, rfl, rfl, rfl⟩
theorem decide5_fn (w : World) (bs : Nat) (g : Vg) (hg : g.Ok) (r : Rmp) (hkr : r.cell = g.k) (hst : StaOk w bs g.c g.b r.cell (rdyL g.c g.b r) (canL g.c g.b) (nearL g.c)) (fuel : Int) (hf : 0 ≤ fuel ∧ fuel ≤ 5000) :
    SX.Fn Tryd.prog 47 [.pointer (some ⟨bs, 0, none⟩), I g.t, I fuel, .agg #[I g.tc, I g.ts]] w (fun _ => False) (DecP g (rdyB g.c g.b r) fuel) := by
  have hst0 := hst
  obtain ⟨sD, sT, sS, vr, vc, vn, hcs, hch, hrd, hcn, hnr⟩ := hst
  obtain ⟨ar, nr, cr, rfl⟩ := hrd.shape
  have hnr' := hrd.le b1_len (by omega)
  have hrl : (rdyL g.c g.b r).length = g.c.tide.length := by unfold rdyL; rw [List.length_map, List.length_range]
  rw [hrl] at hnr'
  subst hnr'
  have hrr := hrd.rd0
  have m13 := hcs 13 _ rfl
  have m9 := hcs 9 _ rfl
  have ht0 := hg.t
  have htc := hg.tc
  have hkn : r.cell.toNat = g.k := by omega
  have hrt : (rdyL g.c g.b r)[g.t]? = some (rdyB g.c g.b r g.t) := by unfold rdyL; rw [List.getElem?_map, List.getElem?_range ht0]; rfl
  have hrch : rdyB g.c g.b r g.t = true → (reachL g.c g.b r g.t)[g.tc]? = some g.near := fun h => by
    unfold reachL Vg.near
    rw [if_pos h, List.getElem?_map, List.getElem?_range htc, hkn]
    rfl
  have hrel : (reachL g.c g.b r g.t).length = g.c.depth.length := by
    unfold reachL
    split
    · rw [List.length_map, List.length_range]
    · rw [List.length_replicate]
  have dn : ∀ (g : Nat) (xs : List Value), det0 g xs = none := fun _ _ => rfl
  have hcb := (clsB_iff g.b).1 hg.cls
  have h60 := hg.ok.2.2.2.1.2
  refine walk [10] pl47 (det0_ok _ _) Tryd.func47 rfl Tryd.ntmps47 res47 (by kernel_rfl) no_facts ?_
  simp (config := { maxSteps := 4000000 }) only [↓sx0, ↓sx1, ↓sx2, ↓sx3, ↓sx4, ↓sx5, ↓sx6, sx0, sx1, sx2, sx3, sx4, sx5, sx6, tf47, ev3_hold, sxo, sxc, sxp, sxq, sxr, sxs, sxl, sxm, Int.reduceBEq, Int.reduceBNe, Int.reduceLT, Int.reduceLE, Int.reduceEq, Int.reduceGT, Int.reduceGE, Int.reduceToNat, ↓reduceIte, List.reduceReplicate, Nat.reduceAdd, Nat.reduceSub, Nat.reduceMul, Nat.reduceLT, Nat.reduceLeDiff, Nat.reduceBEq, Nat.reduceEqDiff, dn]
  refine ld_olda (by simp [add_block]) m13 id ?_
  simp (config := { maxSteps := 4000000 }) only [↓sx0, ↓sx1, ↓sx2, ↓sx3, ↓sx4, ↓sx5, ↓sx6, sx0, sx1, sx2, sx3, sx4, sx5, sx6, tf47, ev3_hold, sxo, sxc, sxp, sxq, sxr, sxs, sxl, sxm, Int.reduceBEq, Int.reduceBNe, Int.reduceLT, Int.reduceLE, Int.reduceEq, Int.reduceGT, Int.reduceGE, Int.reduceToNat, ↓reduceIte, List.reduceReplicate, Nat.reduceAdd, Nat.reduceSub, Nat.reduceMul, Nat.reduceLT, Nat.reduceLeDiff, Nat.reduceBEq, Nat.reduceEqDiff]
  refine at_1 (hrr _) b1_len hrt rfl fun ad1 => ?_
  cases hrb : rdyB g.c g.b r g.t with
  | false =>
    simp (config := { maxSteps := 4000000 }) only [↓sx0, ↓sx1, ↓sx2, ↓sx3, ↓sx4, ↓sx5, ↓sx6, sx0, sx1, sx2, sx3, sx4, sx5, sx6, tf47, ev3_hold, sxo, sxc, sxp, sxq, sxr, sxs, sxl, sxm, Int.reduceBEq, Int.reduceBNe, Int.reduceLT, Int.reduceLE, Int.reduceEq, Int.reduceGT, Int.reduceGE, Int.reduceToNat, ↓reduceIte, List.reduceReplicate, Nat.reduceAdd, Nat.reduceSub, Nat.reduceMul, Nat.reduceLT, Nat.reduceLeDiff, Nat.reduceBEq, Nat.reduceEqDiff]
    exact .inl ⟨1, rfl, .inl ⟨rfl, hrb⟩⟩
  | true =>
  have hrc := hrch hrb
  simp (config := { maxSteps := 4000000 }) only [↓sx0, ↓sx1, ↓sx2, ↓sx3, ↓sx4, ↓sx5, ↓sx6, sx0, sx1, sx2, sx3, sx4, sx5, sx6, tf47, ev3_hold, sxo, sxc, sxp, sxq, sxr, sxs, sxl, sxm, Int.reduceBEq, Int.reduceBNe, Int.reduceLT, Int.reduceLE, Int.reduceEq, Int.reduceGT, Int.reduceGE, Int.reduceToNat, ↓reduceIte, List.reduceReplicate, Nat.reduceAdd, Nat.reduceSub, Nat.reduceMul, Nat.reduceLT, Nat.reduceLeDiff, Nat.reduceBEq, Nat.reduceEqDiff, dn, pl47_lk, pl47_3]
  refine CallOb.pureH (fun w' hp => reach5_fn w' bs g.c hg.ok g.b r g.k hg.k hkr (hst0.hp hp) g.t ht0) ?_
  rintro q N hgot
  have hsh := hgot.shape
  obtain ⟨aR, cR, rfl⟩ := hsh
  rw [hrel] at hgot ⊢
  obtain ⟨nr, hnr⟩ : ∃ nr, g.near = nr := ⟨_, rfl⟩
  rw [hnr] at hrc
  by_cases hn0 : nr < 0
  · have p1 : (nr < 0) = True := eq_true hn0
    refine ⟨?_⟩
    simp (config := { maxSteps := 4000000 }) only [↓sx0, ↓sx1, ↓sx2, ↓sx3, ↓sx4, ↓sx5, ↓sx6, sx0, sx1, sx2, sx3, sx4, sx5, sx6, tf47, ev3_hold, sxo, sxc, sxp, sxq, sxr, sxs, sxl, sxm, Int.reduceBEq, Int.reduceBNe, Int.reduceLT, Int.reduceLE, Int.reduceEq, Int.reduceGT, Int.reduceGE, Int.reduceToNat, ↓reduceIte, List.reduceReplicate, Nat.reduceAdd, Nat.reduceSub, Nat.reduceMul, Nat.reduceLT, Nat.reduceLeDiff, Nat.reduceBEq, Nat.reduceEqDiff, pl47_lk, pl47_3]
    refine at_1 (hgot.rdv i1_len (by simp +contextual)) i1_len hrc rfl fun ad2 => ?_
    simp (config := { maxSteps := 4000000 }) only [↓sx0, ↓sx1, ↓sx2, ↓sx3, ↓sx4, ↓sx5, ↓sx6, sx0, sx1, sx2, sx3, sx4, sx5, sx6, tf47, ev3_hold, sxo, sxc, sxp, sxq, sxr, sxs, sxl, sxm, Int.reduceBEq, Int.reduceBNe, Int.reduceLT, Int.reduceLE, Int.reduceEq, Int.reduceGT, Int.reduceGE, Int.reduceToNat, ↓reduceIte, List.reduceReplicate, Nat.reduceAdd, Nat.reduceSub, Nat.reduceMul, Nat.reduceLT, Nat.reduceLeDiff, Nat.reduceBEq, Nat.reduceEqDiff, p1]
    exact .inl ⟨2, rfl, .inr ⟨hrb, .inl ⟨rfl, by rw [hnr]; exact hn0⟩⟩⟩
  have p1 : (nr < 0) = False := eq_false hn0
  refine ⟨?_⟩
  simp (config := { maxSteps := 4000000 }) only [↓sx0, ↓sx1, ↓sx2, ↓sx3, ↓sx4, ↓sx5, ↓sx6, sx0, sx1, sx2, sx3, sx4, sx5, sx6, tf47, ev3_hold, sxo, sxc, sxp, sxq, sxr, sxs, sxl, sxm, Int.reduceBEq, Int.reduceBNe, Int.reduceLT, Int.reduceLE, Int.reduceEq, Int.reduceGT, Int.reduceGE, Int.reduceToNat, ↓reduceIte, List.reduceReplicate, Nat.reduceAdd, Nat.reduceSub, Nat.reduceMul, Nat.reduceLT, Nat.reduceLeDiff, Nat.reduceBEq, Nat.reduceEqDiff, pl47_lk, pl47_3]
  refine at_1 (hgot.rdv i1_len (by simp +contextual)) i1_len hrc rfl fun ad2 => ?_
  simp (config := { maxSteps := 4000000 }) only [↓sx0, ↓sx1, ↓sx2, ↓sx3, ↓sx4, ↓sx5, ↓sx6, sx0, sx1, sx2, sx3, sx4, sx5, sx6, tf47, ev3_hold, sxo, sxc, sxp, sxq, sxr, sxs, sxl, sxm, Int.reduceBEq, Int.reduceBNe, Int.reduceLT, Int.reduceLE, Int.reduceEq, Int.reduceGT, Int.reduceGE, Int.reduceToNat, ↓reduceIte, List.reduceReplicate, Nat.reduceAdd, Nat.reduceSub, Nat.reduceMul, Nat.reduceLT, Nat.reduceLeDiff, Nat.reduceBEq, Nat.reduceEqDiff, p1, dn, pl47_lk, pl47_5]
  refine CallOb.pureH (fun w' hp => sail5_fn w' bs g hg r hkr (hst0.hp hp)) ?_
  rintro q2 N2 ⟨ad, cp, qs, tabs, rfl, hv, hLM, hTb, htl⟩
  refine ⟨?_⟩
  simp (config := { maxSteps := 4000000 }) only [↓sx0, ↓sx1, ↓sx2, ↓sx3, ↓sx4, ↓sx5, ↓sx6, sx0, sx1, sx2, sx3, sx4, sx5, sx6, tf47, ev3_hold, sxo, sxc, sxp, sxq, sxr, sxs, sxl, sxm, Int.reduceBEq, Int.reduceBNe, Int.reduceLT, Int.reduceLE, Int.reduceEq, Int.reduceGT, Int.reduceGE, Int.reduceToNat, ↓reduceIte, List.reduceReplicate, Nat.reduceAdd, Nat.reduceSub, Nat.reduceMul, Nat.reduceLT, Nat.reduceLeDiff, Nat.reduceBEq, Nat.reduceEqDiff, dn, pl47_lk, pl47_5]
  refine CallOb.pureH (fun w' hp => home5_fn w' bs g hg r hkr (hst0.hp hp) _ tabs (hLM.w hTb hv (by simp +contextual) hp) hTb htl) ?_
  rintro q3 N3 (⟨hno, rfl⟩ | ⟨m, B, L, x, hbest, hP, hll, rfl, hgx⟩)
  · refine ⟨?_⟩
    simp (config := { maxSteps := 4000000 }) only [↓sx0, ↓sx1, ↓sx2, ↓sx3, ↓sx4, ↓sx5, ↓sx6, sx0, sx1, sx2, sx3, sx4, sx5, sx6, tf47, ev3_hold, sxo, sxc, sxp, sxq, sxr, sxs, sxl, sxm, Int.reduceBEq, Int.reduceBNe, Int.reduceLT, Int.reduceLE, Int.reduceEq, Int.reduceGT, Int.reduceGE, Int.reduceToNat, ↓reduceIte, List.reduceReplicate, Nat.reduceAdd, Nat.reduceSub, Nat.reduceMul, Nat.reduceLT, Nat.reduceLeDiff, Nat.reduceBEq, Nat.reduceEqDiff, pl47_lk, pl47_5]
    intro b5
    refine wr_cell (A := []) rfl (by simp) ?_
    simp (config := { maxSteps := 4000000 }) only [↓sx0, ↓sx1, ↓sx2, ↓sx3, ↓sx4, ↓sx5, ↓sx6, sx0, sx1, sx2, sx3, sx4, sx5, sx6, tf47, ev3_hold, sxo, sxc, sxp, sxq, sxr, sxs, sxl, sxm, Int.reduceBEq, Int.reduceBNe, Int.reduceLT, Int.reduceLE, Int.reduceEq, Int.reduceGT, Int.reduceGE, Int.reduceToNat, ↓reduceIte, List.reduceReplicate, Nat.reduceAdd, Nat.reduceSub, Nat.reduceMul, Nat.reduceLT, Nat.reduceLeDiff, Nat.reduceBEq, Nat.reduceEqDiff, List.take, List.drop, List.length_cons, List.length_nil, List.nil_append, pl47_lk, pl47_5]
    exact .inl ⟨3, rfl, .inr ⟨hrb, .inr ⟨by omega, .inl ⟨rfl, hno⟩⟩⟩⟩
  have hBb := g.R_bd hg hbest.r
  have hm60 := hbest.lt
  have e1 : wr (B + g.b.reserve) = B + g.b.reserve := wrap_id (by omega)
  obtain ⟨ax, cx, rfl⟩ := hgx.shape
  by_cases hfu : B + g.b.reserve > fuel
  · have p2 : (B + g.b.reserve > fuel) = True := eq_true hfu
    refine ⟨?_⟩
    simp (config := { maxSteps := 4000000 }) only [↓sx0, ↓sx1, ↓sx2, ↓sx3, ↓sx4, ↓sx5, ↓sx6, sx0, sx1, sx2, sx3, sx4, sx5, sx6, tf47, ev3_hold, sxo, sxc, sxp, sxq, sxr, sxs, sxl, sxm, Int.reduceBEq, Int.reduceBNe, Int.reduceLT, Int.reduceLE, Int.reduceEq, Int.reduceGT, Int.reduceGE, Int.reduceToNat, ↓reduceIte, List.reduceReplicate, Nat.reduceAdd, Nat.reduceSub, Nat.reduceMul, Nat.reduceLT, Nat.reduceLeDiff, Nat.reduceBEq, Nat.reduceEqDiff, pl47_lk, pl47_5]
    intro b5
    refine wr_cell (A := []) rfl (by simp) ?_
    simp (config := { maxSteps := 4000000 }) only [↓sx0, ↓sx1, ↓sx2, ↓sx3, ↓sx4, ↓sx5, ↓sx6, sx0, sx1, sx2, sx3, sx4, sx5, sx6, tf47, ev3_hold, sxo, sxc, sxp, sxq, sxr, sxs, sxl, sxm, Int.reduceBEq, Int.reduceBNe, Int.reduceLT, Int.reduceLE, Int.reduceEq, Int.reduceGT, Int.reduceGE, Int.reduceToNat, ↓reduceIte, List.reduceReplicate, Nat.reduceAdd, Nat.reduceSub, Nat.reduceMul, Nat.reduceLT, Nat.reduceLeDiff, Nat.reduceBEq, Nat.reduceEqDiff, List.take, List.drop, List.length_cons, List.length_nil, List.nil_append, pl47_lk, pl47_5]
    refine ld_cella (T := 37) (cs := [.slice ax (nts L).length cx, I B]) List.mem_cons_self rfl ?_
    simp (config := { maxSteps := 4000000 }) only [↓sx0, ↓sx1, ↓sx2, ↓sx3, ↓sx4, ↓sx5, ↓sx6, sx0, sx1, sx2, sx3, sx4, sx5, sx6, tf47, ev3_hold, sxo, sxc, sxp, sxq, sxr, sxs, sxl, sxm, Int.reduceBEq, Int.reduceBNe, Int.reduceLT, Int.reduceLE, Int.reduceEq, Int.reduceGT, Int.reduceGE, Int.reduceToNat, ↓reduceIte, List.reduceReplicate, Nat.reduceAdd, Nat.reduceSub, Nat.reduceMul, Nat.reduceLT, Nat.reduceLeDiff, Nat.reduceBEq, Nat.reduceEqDiff, pl47_lk, pl47_5]
    refine ld_olda (by simp [add_block]) m9 id ?_
    simp (config := { maxSteps := 4000000 }) only [↓sx0, ↓sx1, ↓sx2, ↓sx3, ↓sx4, ↓sx5, ↓sx6, sx0, sx1, sx2, sx3, sx4, sx5, sx6, tf47, ev3_hold, sxo, sxc, sxp, sxq, sxr, sxs, sxl, sxm, Int.reduceBEq, Int.reduceBNe, Int.reduceLT, Int.reduceLE, Int.reduceEq, Int.reduceGT, Int.reduceGE, Int.reduceToNat, ↓reduceIte, List.reduceReplicate, Nat.reduceAdd, Nat.reduceSub, Nat.reduceMul, Nat.reduceLT, Nat.reduceLeDiff, Nat.reduceBEq, Nat.reduceEqDiff, e1, p2, pl47_lk, pl47_5]
    exact .inl ⟨4, rfl, .inr ⟨hrb, .inr ⟨by omega, .inr ⟨rfl, m, B, hbest, hfu⟩⟩⟩⟩
  · have p2 : (B + g.b.reserve > fuel) = False := eq_false hfu
    refine ⟨?_⟩
    simp (config := { maxSteps := 4000000 }) only [↓sx0, ↓sx1, ↓sx2, ↓sx3, ↓sx4, ↓sx5, ↓sx6, sx0, sx1, sx2, sx3, sx4, sx5, sx6, tf47, ev3_hold, sxo, sxc, sxp, sxq, sxr, sxs, sxl, sxm, Int.reduceBEq, Int.reduceBNe, Int.reduceLT, Int.reduceLE, Int.reduceEq, Int.reduceGT, Int.reduceGE, Int.reduceToNat, ↓reduceIte, List.reduceReplicate, Nat.reduceAdd, Nat.reduceSub, Nat.reduceMul, Nat.reduceLT, Nat.reduceLeDiff, Nat.reduceBEq, Nat.reduceEqDiff, pl47_lk, pl47_5]
    intro b5
    refine wr_cell (A := []) rfl (by simp) ?_
    simp (config := { maxSteps := 4000000 }) only [↓sx0, ↓sx1, ↓sx2, ↓sx3, ↓sx4, ↓sx5, ↓sx6, sx0, sx1, sx2, sx3, sx4, sx5, sx6, tf47, ev3_hold, sxo, sxc, sxp, sxq, sxr, sxs, sxl, sxm, Int.reduceBEq, Int.reduceBNe, Int.reduceLT, Int.reduceLE, Int.reduceEq, Int.reduceGT, Int.reduceGE, Int.reduceToNat, ↓reduceIte, List.reduceReplicate, Nat.reduceAdd, Nat.reduceSub, Nat.reduceMul, Nat.reduceLT, Nat.reduceLeDiff, Nat.reduceBEq, Nat.reduceEqDiff, List.take, List.drop, List.length_cons, List.length_nil, List.nil_append, pl47_lk, pl47_5]
    refine ld_cella (T := 37) (cs := [.slice ax (nts L).length cx, I B]) List.mem_cons_self rfl ?_
    simp (config := { maxSteps := 4000000 }) only [↓sx0, ↓sx1, ↓sx2, ↓sx3, ↓sx4, ↓sx5, ↓sx6, sx0, sx1, sx2, sx3, sx4, sx5, sx6, tf47, ev3_hold, sxo, sxc, sxp, sxq, sxr, sxs, sxl, sxm, Int.reduceBEq, Int.reduceBNe, Int.reduceLT, Int.reduceLE, Int.reduceEq, Int.reduceGT, Int.reduceGE, Int.reduceToNat, ↓reduceIte, List.reduceReplicate, Nat.reduceAdd, Nat.reduceSub, Nat.reduceMul, Nat.reduceLT, Nat.reduceLeDiff, Nat.reduceBEq, Nat.reduceEqDiff, pl47_lk, pl47_5]
    refine ld_olda (by simp [add_block]) m9 id ?_
    simp (config := { maxSteps := 4000000 }) only [↓sx0, ↓sx1, ↓sx2, ↓sx3, ↓sx4, ↓sx5, ↓sx6, sx0, sx1, sx2, sx3, sx4, sx5, sx6, tf47, ev3_hold, sxo, sxc, sxp, sxq, sxr, sxs, sxl, sxm, Int.reduceBEq, Int.reduceBNe, Int.reduceLT, Int.reduceLE, Int.reduceEq, Int.reduceGT, Int.reduceGE, Int.reduceToNat, ↓reduceIte, List.reduceReplicate, Nat.reduceAdd, Nat.reduceSub, Nat.reduceMul, Nat.reduceLT, Nat.reduceLeDiff, Nat.reduceBEq, Nat.reduceEqDiff, e1, p2, pl47_lk, pl47_5]
    refine ld_cells (T := 37) (cs := [.slice ax (nts L).length cx, I B]) [.slice ax (nts L).length cx, I B] List.mem_cons_self rfl rfl ?_
    simp (config := { maxSteps := 4000000 }) only [↓sx0, ↓sx1, ↓sx2, ↓sx3, ↓sx4, ↓sx5, ↓sx6, sx0, sx1, sx2, sx3, sx4, sx5, sx6, tf47, ev3_hold, sxo, sxc, sxp, sxq, sxr, sxs, sxl, sxm, Int.reduceBEq, Int.reduceBNe, Int.reduceLT, Int.reduceLE, Int.reduceEq, Int.reduceGT, Int.reduceGE, Int.reduceToNat, ↓reduceIte, List.reduceReplicate, Nat.reduceAdd, Nat.reduceSub, Nat.reduceMul, Nat.reduceLT, Nat.reduceLeDiff, Nat.reduceBEq, Nat.reduceEqDiff, pl47_lk, pl47_5]
    exact .inr ⟨hrb, by omega, m, B, L, _, hbest, hP, hll, by omega, rfl, hgx.mono (by simp +contextual)⟩
noncomputable def goE (c : Cht) (b : Cls) (r : Rmp) (t f tc ts : Int) : Int := if staE c b r t f = 0 then (if inB tc 0 ((c.depth.length : Int) - 1) && inB ts 0 8 then 0 else 51) else staE c b r t f
theorem goE_zero {c : Cht} {b : Cls} {r : Rmp} {t f tc ts : Int} (h : goE c b r t f tc ts = 0) : staE c b r t f = 0 ∧ (0 ≤ tc ∧ tc ≤ (c.depth.length : Int) - 1) ∧ 0 ≤ ts ∧ ts ≤ 8 := by
  unfold goE at h
  split at h
  · rename_i h1
    split at h
    · rename_i h2
      rw [Bool.and_eq_true, inB_iff, inB_iff] at h2
      exact ⟨h1, h2⟩
    · cases h
  · rename_i h1
    exact absurd h h1
def Vg.of (c : Cht) (b : Cls) (r : Rmp) (t tc ts : Int) : Vg := ⟨c, b, r.cell.toNat, t.toNat, tc.toNat, ts.toNat⟩
theorem ramp_cell {c : Cht} {r : Rmp} (h : rampB c r = true) : 0 ≤ r.cell ∧ r.cell ≤ (c.depth.length : Int) - 1 := by
  unfold rampB notCell at h
  simp only [Bool.and_eq_true, Bool.not_not, inB_iff] at h
  exact h.1.1.1.1
theorem Vg.of_ok {c : Cht} {b : Cls} {r : Rmp} {t f tc ts : Int} (h : goE c b r t f tc ts = 0) : (Vg.of c b r t tc ts).Ok := by
  obtain ⟨h1, h2, h3⟩ := goE_zero h
  obtain ⟨k1, k2, k3, k4, k5⟩ := staE_zero h1
  have := ramp_cell k3
  exact ⟨k1, k2, by show r.cell.toNat < c.depth.length; omega, by show t.toNat < c.tide.length; omega, by show tc.toNat < c.depth.length; omega, by show ts.toNat ≤ 8; omega⟩
def GoP (c : Cht) (b : Cls) (r : Rmp) (t f tc ts : Int) (q : Value) (N : List HO) : Prop :=
  (goE c b r t f tc ts ≠ 0 ∧ q = .tuple #[I 0, noV, I (goE c b r t f tc ts)]) ∨
  (goE c b r t f tc ts = 0 ∧ ((∃ why, q = .tuple #[I why, noV, I 0] ∧ (Vg.of c b r t tc ts).Why (rdyB c b r) f why) ∨
    (rdyB c b r t.toNat = true ∧ 0 ≤ (Vg.of c b r t tc ts).near ∧ ∃ m B L x, (Vg.of c b r t tc ts).Best (rdyB c b r) m B ∧ (Vg.of c b r t tc ts).PE L B ∧ L.length = m + 1 ∧ B + b.reserve ≤ f ∧ q = .tuple #[I 0, .agg #[x, I B], I 0] ∧ Got x 3 1 i1 (nts L) N)))
end Go.Proofs.YtcnlbnccbnapbaaDoor

