/- A part of a proof: the symbolic walk and what it shows of single functions. -/
import Derived.Test.YtcnjhgnlcnmagaaDoorC7
import Derived.Test.YtcnjhgnlcnmagaaDoorScXu0
import Derived.Test.YtcnjhgnlcnmagaaDoorSd3
set_option linter.all false
namespace Go.Proofs.YtcnjhgnlcnmagaaDoor
open Go.RowKit Go.SX
set_option maxRecDepth 20000
set_option maxHeartbeats 8000000
set_option linter.unusedSimpArgs false
set_option linter.unusedVariables false

/-! ### Anchors -/

structure Anc where
  cell : Int
  cable : Int
  scope : Int
  pitch : Int

def anv (A : Anc) : Value := .agg #[I A.cell, I A.cable, I A.scope, I A.pitch]

def anB (c : Cht) (A : Anc) : Bool := !notCell c A.cell && inB A.cable 0 20000 && inB A.scope 1 10 && inB A.pitch 1 2000

noncomputable def veerE (c : Cht) (A : Anc) (g t : Int) : Int := if c.okB then (if anB c A then (if notDraught g || notTick c t then 1 else 0) else 91) else 10

/-- The depth over an anchor. -/
def dpt (c : Cht) (K T : Nat) : Int := max 0 (c.over K T (c.thi T))

/-- How much cable it takes to a cell. -/
noncomputable def rch (c : Cht) (A : Anc) (K T y : Nat) : Int := A.pitch * ((dst c.W c.H K y : Nat) : Int) + dpt c K T

def veersP (c : Cht) (A : Anc) (K : Nat) (g : Int) (T x : Nat) (len : Int) : Prop :=
  c.flt g T x = true ∧ rch c A K T x ≤ len ∧ A.scope * dpt c K T ≤ len ∧ len ≤ A.cable ∧ (rch c A K T x = len ∨ ∀ y, y < c.depth.length → rch c A K T y ≤ len → c.flt g T y = true)

theorem anB_iff {c : Cht} {A : Anc} (h : anB c A = true) : (∃ K : Nat, A.cell = K ∧ K < c.depth.length) ∧ (0 ≤ A.cable ∧ A.cable ≤ 20000) ∧ (1 ≤ A.scope ∧ A.scope ≤ 10) ∧ 1 ≤ A.pitch ∧ A.pitch ≤ 2000 := by
  unfold anB at h
  simp only [Bool.and_eq_true, Bool.not_eq_true', inB_iff] at h
  exact ⟨cell_of h.1.1.1, h.1.1.2, h.1.2, h.2⟩

theorem dpt_bd {c : Cht} (hok : c.ok) {K T : Nat} (hK : K < c.depth.length) (hT : T < c.tide.length) : 0 ≤ dpt c K T ∧ dpt c K T ≤ 1200 := by
  have := hok.bds hK hT
  unfold dpt Cht.over
  omega

theorem rch_bd {c : Cht} (hok : c.ok) {A : Anc} (hA : anB c A = true) {K y : Nat} (hK : K < c.depth.length) (hy : y < c.depth.length) : 0 ≤ A.pitch * ((dst c.W c.H K y : Nat) : Int) ∧ A.pitch * ((dst c.W c.H K y : Nat) : Int) ≤ 288000 := by
  obtain ⟨eW, eH, hW, hH, hlen⟩ := hok.dims
  have h144 := Nat.mul_le_mul hW.2 hH.2
  have hd := dst_lt (show K < c.W * c.H by omega) (show y < c.W * c.H by omega)
  have ha := (anB_iff hA).2.2.2
  exact mul_bd0 (by omega) ha.2 (by omega) (show ((dst c.W c.H K y : Nat) : Int) ≤ 144 by omega)

theorem scp_bd {c : Cht} (hok : c.ok) {A : Anc} (hA : anB c A = true) {K T : Nat} (hK : K < c.depth.length) (hT : T < c.tide.length) : 0 ≤ A.scope * dpt c K T ∧ A.scope * dpt c K T ≤ 12000 := by
  have hd := dpt_bd hok hK hT
  have ha := (anB_iff hA).2.2.1
  exact mul_bd0 (by omega) ha.2 hd.1 hd.2

theorem veerE_zero {c : Cht} {A : Anc} {g t : Int} (h : veerE c A g t = 0) : c.ok ∧ anB c A = true ∧ notDraught g = false ∧ notTick c t = false := by
  unfold veerE at h
  split at h
  · rename_i h1
    split at h
    · rename_i h2
      split at h
      · cases h
      · rename_i h3
        rw [Bool.or_eq_true, not_or, Bool.not_eq_true, Bool.not_eq_true] at h3
        exact ⟨(okB_iff c).1 h1, h2, h3.1, h3.2⟩
    · cases h
  · cases h

/-! ### Small functions -/

theorem from9_fn (w : World) (n l h : Int) : SX.Fn Tryd.prog 108 [I n, I l, I h] w (fun _ => False) fun v N => v = .bool (inB n l h) := by
  refine walk [] [] (det0_ok _ _) Tryd.func108 rfl Tryd.ntmps108 res108 (by kernel_rfl) no_facts ?_
  simp (config := { maxSteps := 4000000 }) only [↓sx0, ↓sx1, ↓sx2, ↓sx3, ↓sx4, ↓sx5, ↓sx6, sx0, sx1, sx2, sx3, sx4, sx5, sx6, tf108, ev3_hold, sxo, sxc, sxp, sxq, sxr, sxs, sxl, sxm, Int.reduceBEq, Int.reduceBNe, Int.reduceLT, Int.reduceLE, Int.reduceEq, Int.reduceGT, Int.reduceGE, Int.reduceToNat, ↓reduceIte, List.reduceReplicate, Nat.reduceAdd, Nat.reduceSub, Nat.reduceMul, Nat.reduceLT, Nat.reduceLeDiff, Nat.reduceBEq, Nat.reduceEqDiff]
  unfold inB
  exact ⟨fun h1 => by simp [h1], fun h1 => by simp [h1]⟩

noncomputable def detV (v : Value) (c : Cht) : Nat → List Value → Option Value
  | 91, [.int .i64 n, .int .i64 l, .int .i64 h] => some (.bool (inB n l h))
  | 108, [.int .i64 n, .int .i64 l, .int .i64 h] => some (.bool (inB n l h))
  | g, xs => detR v c g xs

theorem detV_ok {v : Value} {c : Cht} {w0 : World} {X : Nat → Prop} (hw : Ways w0) (hc : ChOk w0 v c) (hX : ∀ b, b < w0.heap.size → ¬ X b) : DetFn Tryd.prog ⟨w0, X⟩ (detV v c) := by
  intro g args r h w hk
  unfold detV at h
  split at h
  · cases h
    exact Tw.det_of_fn (Tw.within_fn w _ _ _)
  · cases h
    exact det_of_fn (from9_fn w _ _ _)
  · exact detR_ok hw hc hX _ _ _ h w hk

theorem detV_eq (v : Value) (c : Cht) : (∀ a b x y z n, detV v c 31 [.agg #[I a, I b, x, y, z], I n] = some (.bool (isCellB a b n))) ∧ (∀ a b x y z, detV v c 39 [.agg #[I a, I b, x, y, z]] = some (I (wr (a * b)))) ∧ (∀ n, detV v c 36 [I n] = some (.bool (inB n 1 100))) ∧
    (∀ a b x ad n c' z t, detV v c 24 [.agg #[I a, I b, x, .slice ad n c', z], I t] = some (.bool (inB t 0 (wr ((n : Int) - 1))))) ∧
    (∀ n l h : Int, detV v c 91 [I n, I l, I h] = some (.bool (inB n l h))) ∧ (∀ n l h : Int, detV v c 108 [I n, I l, I h] = some (.bool (inB n l h))) := ⟨fun _ _ _ _ _ _ => rfl, fun _ _ _ _ _ => rfl, fun _ => rfl, fun _ _ _ _ _ _ _ _ => rfl, fun _ _ _ => rfl, fun _ _ _ => rfl⟩
theorem detV_check {v : Value} {c : Cht} (hs : c.small) : detV v c 30 [v] = some (I (if c.okB then 0 else 10)) ∧ detV v c 20 [v] = some (I (if c.okB then 0 else 10)) := detM_check hs
theorem detV_over {v : Value} {c : Cht} (hok : c.ok) {k t : Nat} {h : Int} (hk : k < c.depth.length) (ht : t < c.tide.length) (hh : -10000 ≤ h ∧ h ≤ 10000) : detV v c 43 [v, I k, I t, I h] = some (I (c.over k t h)) := detM_over hok hk ht hh

theorem isAnchor_fn (w : World) (hw : Ways w) (v : Value) (c : Cht) (hc : ChOk w v c) (hok : c.ok) (A : Anc) : SX.Fn Tryd.prog 94 [v, anv A] w (fun _ => False) fun r N => r = .bool (anB c A) := by
  have hD := detV_ok (X := fun _ => False) hw hc (fun _ _ => id)
  have ic := isCell_iff hok A.cell
  obtain ⟨sD, sT, sS, rfl, hsD, hsT, hsS⟩ := hc
  unfold anv anB
  refine walk [] [] hD Tryd.func94 rfl Tryd.ntmps94 res94 (by kernel_rfl) no_facts ?_
  cases h1 : notCell c A.cell with
  | true =>
    rw [h1] at ic
    simp (config := { maxSteps := 4000000 }) only [↓sx0, ↓sx1, ↓sx2, ↓sx3, ↓sx4, ↓sx5, ↓sx6, sx0, sx1, sx2, sx3, sx4, sx5, sx6, tf94, ev3_hold, sxo, sxc, sxp, sxq, sxr, sxs, sxl, sxm, Int.reduceBEq, Int.reduceBNe, Int.reduceLT, Int.reduceLE, Int.reduceEq, Int.reduceGT, Int.reduceGE, Int.reduceToNat, ↓reduceIte, List.reduceReplicate, Nat.reduceAdd, Nat.reduceSub, Nat.reduceMul, Nat.reduceLT, Nat.reduceLeDiff, Nat.reduceBEq, Nat.reduceEqDiff, detV_eq, ic]
  | false =>
  rw [h1] at ic
  cases h2 : inB A.cable 0 20000 with
  | false =>
    simp (config := { maxSteps := 4000000 }) only [↓sx0, ↓sx1, ↓sx2, ↓sx3, ↓sx4, ↓sx5, ↓sx6, sx0, sx1, sx2, sx3, sx4, sx5, sx6, tf94, ev3_hold, sxo, sxc, sxp, sxq, sxr, sxs, sxl, sxm, Int.reduceBEq, Int.reduceBNe, Int.reduceLT, Int.reduceLE, Int.reduceEq, Int.reduceGT, Int.reduceGE, Int.reduceToNat, ↓reduceIte, List.reduceReplicate, Nat.reduceAdd, Nat.reduceSub, Nat.reduceMul, Nat.reduceLT, Nat.reduceLeDiff, Nat.reduceBEq, Nat.reduceEqDiff, detV_eq, ic, h2]
  | true =>
  cases h3 : inB A.scope 1 10 with
  | false =>
    simp (config := { maxSteps := 4000000 }) only [↓sx0, ↓sx1, ↓sx2, ↓sx3, ↓sx4, ↓sx5, ↓sx6, sx0, sx1, sx2, sx3, sx4, sx5, sx6, tf94, ev3_hold, sxo, sxc, sxp, sxq, sxr, sxs, sxl, sxm, Int.reduceBEq, Int.reduceBNe, Int.reduceLT, Int.reduceLE, Int.reduceEq, Int.reduceGT, Int.reduceGE, Int.reduceToNat, ↓reduceIte, List.reduceReplicate, Nat.reduceAdd, Nat.reduceSub, Nat.reduceMul, Nat.reduceLT, Nat.reduceLeDiff, Nat.reduceBEq, Nat.reduceEqDiff, detV_eq, ic, h2, h3]
  | true =>
    simp (config := { maxSteps := 4000000 }) only [↓sx0, ↓sx1, ↓sx2, ↓sx3, ↓sx4, ↓sx5, ↓sx6, sx0, sx1, sx2, sx3, sx4, sx5, sx6, tf94, ev3_hold, sxo, sxc, sxp, sxq, sxr, sxs, sxl, sxm, Int.reduceBEq, Int.reduceBNe, Int.reduceLT, Int.reduceLE, Int.reduceEq, Int.reduceGT, Int.reduceGE, Int.reduceToNat, ↓reduceIte, List.reduceReplicate, Nat.reduceAdd, Nat.reduceSub, Nat.reduceMul, Nat.reduceLT, Nat.reduceLeDiff, Nat.reduceBEq, Nat.reduceEqDiff, detV_eq, ic, h2, h3]

theorem checkVeer_fn (w : World) (hw : Ways w) (v : Value) (c : Cht) (hc : ChOk w v c) (hsm : c.small) (A : Anc) (g t : Int) : SX.Fn Tryd.prog 56 [v, anv A, I g, I t] w (fun _ => False) fun r N => r = I (veerE c A g t) := by
  have hc0 := hc
  have hD := detV_ok (X := fun _ => False) hw hc (fun _ _ => id)
  have hck := (detV_check (v := v) hsm).2
  obtain ⟨sD, sT, sS, rfl, hsD, hsT, hsS⟩ := hc
  obtain ⟨aT, nT, cT, rfl⟩ := hsT.shape
  have hnT := hsT.le spc_len (by omega)
  have dn : (∀ xs, detV (.agg #[I c.wide, I c.high, sD, .slice aT nT cT, sS]) c 94 xs = none) := fun _ => rfl
  unfold veerE
  refine walk [] [] hD Tryd.func56 rfl Tryd.ntmps56 res56 (by kernel_rfl) no_facts ?_
  cases hok : c.okB with
  | false =>
    rw [hok] at hck
    simp (config := { maxSteps := 4000000 }) only [↓sx0, ↓sx1, ↓sx2, ↓sx3, ↓sx4, ↓sx5, ↓sx6, sx0, sx1, sx2, sx3, sx4, sx5, sx6, tf56, ev3_hold, sxo, sxc, sxp, sxq, sxr, sxs, sxl, sxm, Int.reduceBEq, Int.reduceBNe, Int.reduceLT, Int.reduceLE, Int.reduceEq, Int.reduceGT, Int.reduceGE, Int.reduceToNat, ↓reduceIte, List.reduceReplicate, Nat.reduceAdd, Nat.reduceSub, Nat.reduceMul, Nat.reduceLT, Nat.reduceLeDiff, Nat.reduceBEq, Nat.reduceEqDiff, hck]
  | true =>
  rw [hok, if_pos rfl] at hck
  have hok' := (okB_iff c).1 hok
  have h60 := hok'.2.2.2.1.2
  have e5 : IntKind.i64.wrap ((nT : Int) - 1) = (c.tide.length : Int) - 1 := (wrap_id (by omega)).trans (by omega)
  have hti : inB t 0 ((c.tide.length : Int) - 1) = !notTick c t := by unfold notTick; simp
  have hdi : inB g 1 100 = !notDraught g := by unfold notDraught; simp
  have hia := fun w' hp => isAnchor_fn w' (hw.hp (H := []) hp) _ c (hc0.hp hp) hok' A
  unfold anv at hia ⊢
  simp (config := { maxSteps := 4000000 }) only [↓sx0, ↓sx1, ↓sx2, ↓sx3, ↓sx4, ↓sx5, ↓sx6, sx0, sx1, sx2, sx3, sx4, sx5, sx6, tf56, ev3_hold, sxo, sxc, sxp, sxq, sxr, sxs, sxl, sxm, Int.reduceBEq, Int.reduceBNe, Int.reduceLT, Int.reduceLE, Int.reduceEq, Int.reduceGT, Int.reduceGE, Int.reduceToNat, ↓reduceIte, List.reduceReplicate, Nat.reduceAdd, Nat.reduceSub, Nat.reduceMul, Nat.reduceLT, Nat.reduceLeDiff, Nat.reduceBEq, Nat.reduceEqDiff, hck, dn]
  refine CallOb.pureH (fun w' hp => hia w' hp) ?_
  rintro r N rfl
  cases h1 : anB c A with
  | false =>
    refine ⟨?_⟩
    simp (config := { maxSteps := 4000000 }) only [↓sx0, ↓sx1, ↓sx2, ↓sx3, ↓sx4, ↓sx5, ↓sx6, sx0, sx1, sx2, sx3, sx4, sx5, sx6, tf56, ev3_hold, sxo, sxc, sxp, sxq, sxr, sxs, sxl, sxm, Int.reduceBEq, Int.reduceBNe, Int.reduceLT, Int.reduceLE, Int.reduceEq, Int.reduceGT, Int.reduceGE, Int.reduceToNat, ↓reduceIte, List.reduceReplicate, Nat.reduceAdd, Nat.reduceSub, Nat.reduceMul, Nat.reduceLT, Nat.reduceLeDiff, Nat.reduceBEq, Nat.reduceEqDiff]
  | true =>
  cases h2 : notDraught g with
  | true =>
    rw [h2] at hdi
    refine ⟨?_⟩
    simp (config := { maxSteps := 4000000 }) only [↓sx0, ↓sx1, ↓sx2, ↓sx3, ↓sx4, ↓sx5, ↓sx6, sx0, sx1, sx2, sx3, sx4, sx5, sx6, tf56, ev3_hold, sxo, sxc, sxp, sxq, sxr, sxs, sxl, sxm, Int.reduceBEq, Int.reduceBNe, Int.reduceLT, Int.reduceLE, Int.reduceEq, Int.reduceGT, Int.reduceGE, Int.reduceToNat, ↓reduceIte, List.reduceReplicate, Nat.reduceAdd, Nat.reduceSub, Nat.reduceMul, Nat.reduceLT, Nat.reduceLeDiff, Nat.reduceBEq, Nat.reduceEqDiff, detV_eq, hdi]
  | false =>
  rw [h2] at hdi
  cases h3 : notTick c t with
  | true =>
    rw [h3] at hti
    refine ⟨?_⟩
    simp (config := { maxSteps := 4000000 }) only [↓sx0, ↓sx1, ↓sx2, ↓sx3, ↓sx4, ↓sx5, ↓sx6, sx0, sx1, sx2, sx3, sx4, sx5, sx6, tf56, ev3_hold, sxo, sxc, sxp, sxq, sxr, sxs, sxl, sxm, Int.reduceBEq, Int.reduceBNe, Int.reduceLT, Int.reduceLE, Int.reduceEq, Int.reduceGT, Int.reduceGE, Int.reduceToNat, ↓reduceIte, List.reduceReplicate, Nat.reduceAdd, Nat.reduceSub, Nat.reduceMul, Nat.reduceLT, Nat.reduceLeDiff, Nat.reduceBEq, Nat.reduceEqDiff, detV_eq, hdi, e5, hti]
  | false =>
    rw [h3] at hti
    refine ⟨?_⟩
    simp (config := { maxSteps := 4000000 }) only [↓sx0, ↓sx1, ↓sx2, ↓sx3, ↓sx4, ↓sx5, ↓sx6, sx0, sx1, sx2, sx3, sx4, sx5, sx6, tf56, ev3_hold, sxo, sxc, sxp, sxq, sxr, sxs, sxl, sxm, Int.reduceBEq, Int.reduceBNe, Int.reduceLT, Int.reduceLE, Int.reduceEq, Int.reduceGT, Int.reduceGE, Int.reduceToNat, ↓reduceIte, List.reduceReplicate, Nat.reduceAdd, Nat.reduceSub, Nat.reduceMul, Nat.reduceLT, Nat.reduceLeDiff, Nat.reduceBEq, Nat.reduceEqDiff, detV_eq, hdi, e5, hti]

theorem deep9_fn (w : World) (hw : Ways w) (v : Value) (c : Cht) (hc : ChOk w v c) (hok : c.ok) (A : Anc) (K T : Nat) (hA : A.cell = K) (hK : K < c.depth.length) (hT : T < c.tide.length) : SX.Fn Tryd.prog 93 [v, anv A, I T] w (fun _ => False) fun r N => r = I (dpt c K T) := by
  have hD := detV_ok (X := fun _ => False) hw hc (fun _ _ => id)
  have hb := hok.bds hK hT
  have ho := detV_over (v := v) hok hK hT (h := c.thi T) (by omega)
  obtain ⟨sD, sT, sS, rfl, hsD, hsT, hsS⟩ := hc
  obtain ⟨aT, nT, cT, rfl⟩ := hsT.shape
  have hrT := hsT.rd0
  have hu : c.tide[T]? = some (c.tlo T, c.thi T) := getD_at hT (0, 0)
  unfold anv dpt
  rw [hA]
  refine walk [] [] hD Tryd.func93 rfl Tryd.ntmps93 res93 (by kernel_rfl) no_facts ?_
  simp (config := { maxSteps := 4000000 }) only [↓sx0, ↓sx1, ↓sx2, ↓sx3, ↓sx4, ↓sx5, ↓sx6, sx0, sx1, sx2, sx3, sx4, sx5, sx6, tf93, ev3_hold, sxo, sxc, sxp, sxq, sxr, sxs, sxl, sxm, Int.reduceBEq, Int.reduceBNe, Int.reduceLT, Int.reduceLE, Int.reduceEq, Int.reduceGT, Int.reduceGE, Int.reduceToNat, ↓reduceIte, List.reduceReplicate, Nat.reduceAdd, Nat.reduceSub, Nat.reduceMul, Nat.reduceLT, Nat.reduceLeDiff, Nat.reduceBEq, Nat.reduceEqDiff]
  refine at_f (hrT _) spc_len hu (o := 1) (x := I (c.thi T)) rfl fun ad1 => ?_
  simp (config := { maxSteps := 4000000 }) only [↓sx0, ↓sx1, ↓sx2, ↓sx3, ↓sx4, ↓sx5, ↓sx6, sx0, sx1, sx2, sx3, sx4, sx5, sx6, tf93, ev3_hold, sxo, sxc, sxp, sxq, sxr, sxs, sxl, sxm, Int.reduceBEq, Int.reduceBNe, Int.reduceLT, Int.reduceLE, Int.reduceEq, Int.reduceGT, Int.reduceGE, Int.reduceToNat, ↓reduceIte, List.reduceReplicate, Nat.reduceAdd, Nat.reduceSub, Nat.reduceMul, Nat.reduceLT, Nat.reduceLeDiff, Nat.reduceBEq, Nat.reduceEqDiff, ho]

end Go.Proofs.YtcnjhgnlcnmagaaDoor
