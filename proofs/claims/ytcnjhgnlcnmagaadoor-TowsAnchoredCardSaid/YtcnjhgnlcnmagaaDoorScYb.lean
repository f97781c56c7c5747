/- A part of a proof: the symbolic walk and what it shows of single functions. -/
import Derived.Test.YtcnjhgnlcnmagaaDoorScYa
set_option linter.all false
namespace Go.Proofs.YtcnjhgnlcnmagaaDoor
open Go.RowKit Go.SX
set_option maxRecDepth 20000
set_option maxHeartbeats 8000000
set_option linter.unusedSimpArgs false
set_option linter.unusedVariables false

/-! ### Veer, the reference -/

theorem veers_fn (w : World) (hw : Ways w) (v : Value) (c : Cht) (hc : ChOk w v c) (hok : c.ok) (A : Anc) (hA : anB c A = true) (K : Nat) (hAK : A.cell = K) (hK : K < c.depth.length) (g : Int) (T x : Nat) (hT : T < c.tide.length) (hx : x < c.depth.length) (len : Int) (vs : Value) (l : List Int) (hs : Sl w vs 1 (ints l)) (hll : l.length = c.depth.length) (hl : ∀ y, y < c.depth.length → lv l y = (dst c.W c.H K y : Nat)) :
    SX.Fn Tryd.prog 58 [v, anv A, I g, I T, I x, I len, vs] w (fun _ => False) fun r N => ∃ b, r = .bool b ∧ (b = true ↔ veersP c A K g T x len) := by
  have hc0 := hc
  obtain ⟨sD, sT, sS, rfl, hsD, hsT, hsS⟩ := hc
  obtain ⟨a, n, cp, rfl⟩ := hs.shape
  have hn := hs.le i1_len (by omega)
  subst hn
  have hr := hs.rd0
  obtain ⟨eW, eH, hW, hH, hlen⟩ := hok.dims
  have h144 := Nat.mul_le_mul hW.2 hH.2
  have hd := dpt_bd hok hK hT
  have hsc := scp_bd hok hA hK hT
  have hrb := fun y (hy : y < c.depth.length) => rch_bd hok hA hK hy
  have hat : ∀ y, y < c.depth.length → l[y]? = some ((dst c.W c.H K y : Nat) : Int) := fun y hy => by
    rw [← hl y hy]
    exact getD_at (by omega) 0
  have hpos := hrb x hx
  have e1 : IntKind.i64.wrap (A.pitch * ((dst c.W c.H K x : Nat) : Int)) = A.pitch * ((dst c.W c.H K x : Nat) : Int) := wrap_id (by omega)
  have e2 : IntKind.i64.wrap (A.pitch * ((dst c.W c.H K x : Nat) : Int) + dpt c K T) = rch c A K T x := (wrap_id (by omega)).trans rfl
  have e3 : IntKind.i64.wrap (A.scope * dpt c K T) = A.scope * dpt c K T := wrap_id (by omega)
  have hde := fun w' (hp : Hp ⟨w, fun _ => False⟩ [] w') => deep9_fn w' (hw.hp hp) _ c (hc0.hp hp) hok A K T hAK hK hT
  have e0 : ((x : Int) < (l.length : Int)) = True := eq_true (by omega)
  unfold anv at hde ⊢
  refine walk [] [] (det0_ok _ _) Tryd.func58 rfl Tryd.ntmps58 res58 (by kernel_rfl) no_facts ?_
  simp (config := { maxSteps := 4000000 }) only [↓sx0, ↓sx1, ↓sx2, ↓sx3, ↓sx4, ↓sx5, ↓sx6, sx0, sx1, sx2, sx3, sx4, sx5, sx6, tf58, ev3_hold, sxo, sxc, sxp, sxq, sxr, sxs, sxl, sxm, Int.reduceBEq, Int.reduceBNe, Int.reduceLT, Int.reduceLE, Int.reduceEq, Int.reduceGT, Int.reduceGE, Int.reduceToNat, ↓reduceIte, List.reduceReplicate, Nat.reduceAdd, Nat.reduceSub, Nat.reduceMul, Nat.reduceLT, Nat.reduceLeDiff, Nat.reduceBEq, Nat.reduceEqDiff, det0]
  refine CallOb.pureH (fun w' hp => hde w' hp) ?_
  rintro r N rfl
  refine ⟨?_⟩
  simp (config := { maxSteps := 4000000 }) only [↓sx0, ↓sx1, ↓sx2, ↓sx3, ↓sx4, ↓sx5, ↓sx6, sx0, sx1, sx2, sx3, sx4, sx5, sx6, tf58, ev3_hold, sxo, sxc, sxp, sxq, sxr, sxs, sxl, sxm, Int.reduceBEq, Int.reduceBNe, Int.reduceLT, Int.reduceLE, Int.reduceEq, Int.reduceGT, Int.reduceGE, Int.reduceToNat, ↓reduceIte, List.reduceReplicate, Nat.reduceAdd, Nat.reduceSub, Nat.reduceMul, Nat.reduceLT, Nat.reduceLeDiff, Nat.reduceBEq, Nat.reduceEqDiff, det0]
  refine CallOb.pureH (fun w' hp => sure_fn w' _ c (hc0.hp hp) hok g x T hx hT) ?_
  intro r1 N1 hr1
  have hq : ∃ q, c.flt g T x = q := ⟨_, rfl⟩
  obtain ⟨q, hf⟩ := hq
  have hr2 : r1 = .bool q := (show r1 = .bool (c.flt g T x) from hr1).trans (congrArg Value.bool hf)
  subst hr2
  clear hr1
  cases q with
  | false =>
    refine ⟨?_⟩
    simp (config := { maxSteps := 4000000 }) only [↓sx0, ↓sx1, ↓sx2, ↓sx3, ↓sx4, ↓sx5, ↓sx6, sx0, sx1, sx2, sx3, sx4, sx5, sx6, tf58, ev3_hold, sxo, sxc, sxp, sxq, sxr, sxs, sxl, sxm, Int.reduceBEq, Int.reduceBNe, Int.reduceLT, Int.reduceLE, Int.reduceEq, Int.reduceGT, Int.reduceGE, Int.reduceToNat, ↓reduceIte, List.reduceReplicate, Nat.reduceAdd, Nat.reduceSub, Nat.reduceMul, Nat.reduceLT, Nat.reduceLeDiff, Nat.reduceBEq, Nat.reduceEqDiff]
    refine ⟨false, rfl, ?_⟩
    simp only [Bool.false_eq_true, false_iff]
    intro h
    rw [h.1] at hf
    cases hf
  | true =>
  by_cases k1 : rch c A K T x > len
  · have p1 : (rch c A K T x > len) = True := eq_true k1
    refine ⟨?_⟩
    simp (config := { maxSteps := 4000000 }) only [↓sx0, ↓sx1, ↓sx2, ↓sx3, ↓sx4, ↓sx5, ↓sx6, sx0, sx1, sx2, sx3, sx4, sx5, sx6, tf58, ev3_hold, sxo, sxc, sxp, sxq, sxr, sxs, sxl, sxm, Int.reduceBEq, Int.reduceBNe, Int.reduceLT, Int.reduceLE, Int.reduceEq, Int.reduceGT, Int.reduceGE, Int.reduceToNat, ↓reduceIte, List.reduceReplicate, Nat.reduceAdd, Nat.reduceSub, Nat.reduceMul, Nat.reduceLT, Nat.reduceLeDiff, Nat.reduceBEq, Nat.reduceEqDiff, e0]
    refine amid (at_1 (hr _) i1_len (hat x hx) rfl fun ad1 => ?_)
    simp (config := { maxSteps := 4000000 }) only [↓sx0, ↓sx1, ↓sx2, ↓sx3, ↓sx4, ↓sx5, ↓sx6, sx0, sx1, sx2, sx3, sx4, sx5, sx6, tf58, ev3_hold, sxo, sxc, sxp, sxq, sxr, sxs, sxl, sxm, Int.reduceBEq, Int.reduceBNe, Int.reduceLT, Int.reduceLE, Int.reduceEq, Int.reduceGT, Int.reduceGE, Int.reduceToNat, ↓reduceIte, List.reduceReplicate, Nat.reduceAdd, Nat.reduceSub, Nat.reduceMul, Nat.reduceLT, Nat.reduceLeDiff, Nat.reduceBEq, Nat.reduceEqDiff, e1, e2, p1]
    refine ⟨false, rfl, ?_⟩
    simp only [Bool.false_eq_true, false_iff]
    intro h
    have := h.2.1
    omega
  have p1 : (rch c A K T x > len) = False := eq_false k1
  by_cases k2 : len < A.scope * dpt c K T
  · have p2 : (len < A.scope * dpt c K T) = True := eq_true k2
    refine ⟨?_⟩
    simp (config := { maxSteps := 4000000 }) only [↓sx0, ↓sx1, ↓sx2, ↓sx3, ↓sx4, ↓sx5, ↓sx6, sx0, sx1, sx2, sx3, sx4, sx5, sx6, tf58, ev3_hold, sxo, sxc, sxp, sxq, sxr, sxs, sxl, sxm, Int.reduceBEq, Int.reduceBNe, Int.reduceLT, Int.reduceLE, Int.reduceEq, Int.reduceGT, Int.reduceGE, Int.reduceToNat, ↓reduceIte, List.reduceReplicate, Nat.reduceAdd, Nat.reduceSub, Nat.reduceMul, Nat.reduceLT, Nat.reduceLeDiff, Nat.reduceBEq, Nat.reduceEqDiff, e0]
    refine amid (at_1 (hr _) i1_len (hat x hx) rfl fun ad1 => ?_)
    simp (config := { maxSteps := 4000000 }) only [↓sx0, ↓sx1, ↓sx2, ↓sx3, ↓sx4, ↓sx5, ↓sx6, sx0, sx1, sx2, sx3, sx4, sx5, sx6, tf58, ev3_hold, sxo, sxc, sxp, sxq, sxr, sxs, sxl, sxm, Int.reduceBEq, Int.reduceBNe, Int.reduceLT, Int.reduceLE, Int.reduceEq, Int.reduceGT, Int.reduceGE, Int.reduceToNat, ↓reduceIte, List.reduceReplicate, Nat.reduceAdd, Nat.reduceSub, Nat.reduceMul, Nat.reduceLT, Nat.reduceLeDiff, Nat.reduceBEq, Nat.reduceEqDiff, e1, e2, p1, e3, p2]
    refine ⟨false, rfl, ?_⟩
    simp only [Bool.false_eq_true, false_iff]
    intro h
    have := h.2.2.1
    omega
  have p2 : (len < A.scope * dpt c K T) = False := eq_false k2
  by_cases k3 : len > A.cable
  · have p3 : (len > A.cable) = True := eq_true k3
    refine ⟨?_⟩
    simp (config := { maxSteps := 4000000 }) only [↓sx0, ↓sx1, ↓sx2, ↓sx3, ↓sx4, ↓sx5, ↓sx6, sx0, sx1, sx2, sx3, sx4, sx5, sx6, tf58, ev3_hold, sxo, sxc, sxp, sxq, sxr, sxs, sxl, sxm, Int.reduceBEq, Int.reduceBNe, Int.reduceLT, Int.reduceLE, Int.reduceEq, Int.reduceGT, Int.reduceGE, Int.reduceToNat, ↓reduceIte, List.reduceReplicate, Nat.reduceAdd, Nat.reduceSub, Nat.reduceMul, Nat.reduceLT, Nat.reduceLeDiff, Nat.reduceBEq, Nat.reduceEqDiff, e0]
    refine amid (at_1 (hr _) i1_len (hat x hx) rfl fun ad1 => ?_)
    simp (config := { maxSteps := 4000000 }) only [↓sx0, ↓sx1, ↓sx2, ↓sx3, ↓sx4, ↓sx5, ↓sx6, sx0, sx1, sx2, sx3, sx4, sx5, sx6, tf58, ev3_hold, sxo, sxc, sxp, sxq, sxr, sxs, sxl, sxm, Int.reduceBEq, Int.reduceBNe, Int.reduceLT, Int.reduceLE, Int.reduceEq, Int.reduceGT, Int.reduceGE, Int.reduceToNat, ↓reduceIte, List.reduceReplicate, Nat.reduceAdd, Nat.reduceSub, Nat.reduceMul, Nat.reduceLT, Nat.reduceLeDiff, Nat.reduceBEq, Nat.reduceEqDiff, e1, e2, p1, e3, p2, p3]
    refine ⟨false, rfl, ?_⟩
    simp only [Bool.false_eq_true, false_iff]
    intro h
    have := h.2.2.2.1
    omega
  have p3 : (len > A.cable) = False := eq_false k3
  by_cases k4 : rch c A K T x = len
  · have p4 : (rch c A K T x = len) = True := eq_true k4
    refine ⟨?_⟩
    simp (config := { maxSteps := 4000000 }) only [↓sx0, ↓sx1, ↓sx2, ↓sx3, ↓sx4, ↓sx5, ↓sx6, sx0, sx1, sx2, sx3, sx4, sx5, sx6, tf58, ev3_hold, sxo, sxc, sxp, sxq, sxr, sxs, sxl, sxm, Int.reduceBEq, Int.reduceBNe, Int.reduceLT, Int.reduceLE, Int.reduceEq, Int.reduceGT, Int.reduceGE, Int.reduceToNat, ↓reduceIte, List.reduceReplicate, Nat.reduceAdd, Nat.reduceSub, Nat.reduceMul, Nat.reduceLT, Nat.reduceLeDiff, Nat.reduceBEq, Nat.reduceEqDiff, e0]
    refine amid (at_1 (hr _) i1_len (hat x hx) rfl fun ad1 => ?_)
    simp (config := { maxSteps := 4000000 }) only [↓sx0, ↓sx1, ↓sx2, ↓sx3, ↓sx4, ↓sx5, ↓sx6, sx0, sx1, sx2, sx3, sx4, sx5, sx6, tf58, ev3_hold, sxo, sxc, sxp, sxq, sxr, sxs, sxl, sxm, Int.reduceBEq, Int.reduceBNe, Int.reduceLT, Int.reduceLE, Int.reduceEq, Int.reduceGT, Int.reduceGE, Int.reduceToNat, ↓reduceIte, List.reduceReplicate, Nat.reduceAdd, Nat.reduceSub, Nat.reduceMul, Nat.reduceLT, Nat.reduceLeDiff, Nat.reduceBEq, Nat.reduceEqDiff, e1, e2, p1, e3, p2, p3, e0]
    refine amid (at_1 (hr _) i1_len (hat x hx) rfl fun ad2 => ?_)
    simp (config := { maxSteps := 4000000 }) only [↓sx0, ↓sx1, ↓sx2, ↓sx3, ↓sx4, ↓sx5, ↓sx6, sx0, sx1, sx2, sx3, sx4, sx5, sx6, tf58, ev3_hold, sxo, sxc, sxp, sxq, sxr, sxs, sxl, sxm, Int.reduceBEq, Int.reduceBNe, Int.reduceLT, Int.reduceLE, Int.reduceEq, Int.reduceGT, Int.reduceGE, Int.reduceToNat, ↓reduceIte, List.reduceReplicate, Nat.reduceAdd, Nat.reduceSub, Nat.reduceMul, Nat.reduceLT, Nat.reduceLeDiff, Nat.reduceBEq, Nat.reduceEqDiff, e1, e2, p4]
    refine ⟨true, rfl, ?_⟩
    simp only [true_iff]
    exact ⟨hf, by omega, by omega, by omega, .inl k4⟩
  have p4 : (rch c A K T x = len) = False := eq_false k4
  refine ⟨?_⟩
  simp (config := { maxSteps := 4000000 }) only [↓sx0, ↓sx1, ↓sx2, ↓sx3, ↓sx4, ↓sx5, ↓sx6, sx0, sx1, sx2, sx3, sx4, sx5, sx6, tf58, ev3_hold, sxo, sxc, sxp, sxq, sxr, sxs, sxl, sxm, Int.reduceBEq, Int.reduceBNe, Int.reduceLT, Int.reduceLE, Int.reduceEq, Int.reduceGT, Int.reduceGE, Int.reduceToNat, ↓reduceIte, List.reduceReplicate, Nat.reduceAdd, Nat.reduceSub, Nat.reduceMul, Nat.reduceLT, Nat.reduceLeDiff, Nat.reduceBEq, Nat.reduceEqDiff, e0]
  refine amid (at_1 (hr _) i1_len (hat x hx) rfl fun ad1 => ?_)
  simp (config := { maxSteps := 4000000 }) only [↓sx0, ↓sx1, ↓sx2, ↓sx3, ↓sx4, ↓sx5, ↓sx6, sx0, sx1, sx2, sx3, sx4, sx5, sx6, tf58, ev3_hold, sxo, sxc, sxp, sxq, sxr, sxs, sxl, sxm, Int.reduceBEq, Int.reduceBNe, Int.reduceLT, Int.reduceLE, Int.reduceEq, Int.reduceGT, Int.reduceGE, Int.reduceToNat, ↓reduceIte, List.reduceReplicate, Nat.reduceAdd, Nat.reduceSub, Nat.reduceMul, Nat.reduceLT, Nat.reduceLeDiff, Nat.reduceBEq, Nat.reduceEqDiff, e1, e2, p1, e3, p2, p3, e0]
  refine amid (at_1 (hr _) i1_len (hat x hx) rfl fun ad2 => ?_)
  simp (config := { maxSteps := 4000000 }) only [↓sx0, ↓sx1, ↓sx2, ↓sx3, ↓sx4, ↓sx5, ↓sx6, sx0, sx1, sx2, sx3, sx4, sx5, sx6, tf58, ev3_hold, sxo, sxc, sxp, sxq, sxr, sxs, sxl, sxm, Int.reduceBEq, Int.reduceBNe, Int.reduceLT, Int.reduceLE, Int.reduceEq, Int.reduceGT, Int.reduceGE, Int.reduceToNat, ↓reduceIte, List.reduceReplicate, Nat.reduceAdd, Nat.reduceSub, Nat.reduceMul, Nat.reduceLT, Nat.reduceLeDiff, Nat.reduceBEq, Nat.reduceEqDiff, e1, e2, p4]
  refine loop_constH [] (HImp.nil _ _) [(14, 14), (16, 16), (65, 89)] (fun i : Nat => [(16, I i)]) (fun i H1 => i ≤ c.depth.length ∧ ∀ y, y < i → rch c A K T y ≤ len → c.flt g T y = true) (fun i => c.depth.length - i) 0 ?_ ⟨Nat.zero_le _, fun y h => by omega⟩ ?_
  · simp (config := { maxSteps := 4000000 }) only [↓sx0, ↓sx1, ↓sx2, ↓sx3, ↓sx4, ↓sx5, ↓sx6, sx0, sx1, sx2, sx3, sx4, sx5, sx6, tf58, ev3_hold, sxo, sxc, sxp, sxq, sxr, sxs, sxl, sxm, Int.reduceBEq, Int.reduceBNe, Int.reduceLT, Int.reduceLE, Int.reduceEq, Int.reduceGT, Int.reduceGE, Int.reduceToNat, ↓reduceIte, List.reduceReplicate, Nat.reduceAdd, Nat.reduceSub, Nat.reduceMul, Nat.reduceLT, Nat.reduceLeDiff, Nat.reduceBEq, Nat.reduceEqDiff]
    simp
  rintro i H1 g1 ⟨hi, hall⟩
  by_cases hin : i = c.depth.length
  · have e7 : ((i : Int) < (l.length : Int)) = False := eq_false (by omega)
    refine ⟨?_⟩
    simp (config := { maxSteps := 4000000 }) only [↓sx0, ↓sx1, ↓sx2, ↓sx3, ↓sx4, ↓sx5, ↓sx6, sx0, sx1, sx2, sx3, sx4, sx5, sx6, tf58, ev3_hold, sxo, sxc, sxp, sxq, sxr, sxs, sxl, sxm, Int.reduceBEq, Int.reduceBNe, Int.reduceLT, Int.reduceLE, Int.reduceEq, Int.reduceGT, Int.reduceGE, Int.reduceToNat, ↓reduceIte, List.reduceReplicate, Nat.reduceAdd, Nat.reduceSub, Nat.reduceMul, Nat.reduceLT, Nat.reduceLeDiff, Nat.reduceBEq, Nat.reduceEqDiff, e7]
    refine ⟨true, rfl, ?_⟩
    simp only [true_iff]
    exact ⟨hf, by omega, by omega, by omega, .inr (by rw [← hin]; exact hall)⟩
  have e7 : ((i : Int) < (l.length : Int)) = True := eq_true (by omega)
  have e8 : IntKind.i64.wrap ((i : Int) + 1) = ((i + 1 : Nat) : Int) := (wrap_id (by omega)).trans (by omega)
  have hpi := hrb i (by omega)
  have f1 : IntKind.i64.wrap (A.pitch * ((dst c.W c.H K i : Nat) : Int)) = A.pitch * ((dst c.W c.H K i : Nat) : Int) := wrap_id (by omega)
  have f2 : IntKind.i64.wrap (A.pitch * ((dst c.W c.H K i : Nat) : Int) + dpt c K T) = rch c A K T i := (wrap_id (by omega)).trans rfl
  have hnext : (rch c A K T i ≤ len → c.flt g T i = true) → ∀ y, y < i + 1 → rch c A K T y ≤ len → c.flt g T y = true := fun h y hy => by
    by_cases hyi : y < i
    · exact hall y hyi
    · rw [show y = i by omega]
      exact h
  by_cases k5 : rch c A K T i ≤ len
  case neg =>
    have p5 : (rch c A K T i ≤ len) = False := eq_false k5
    refine ⟨?_⟩
    simp (config := { maxSteps := 4000000 }) only [↓sx0, ↓sx1, ↓sx2, ↓sx3, ↓sx4, ↓sx5, ↓sx6, sx0, sx1, sx2, sx3, sx4, sx5, sx6, tf58, ev3_hold, sxo, sxc, sxp, sxq, sxr, sxs, sxl, sxm, Int.reduceBEq, Int.reduceBNe, Int.reduceLT, Int.reduceLE, Int.reduceEq, Int.reduceGT, Int.reduceGE, Int.reduceToNat, ↓reduceIte, List.reduceReplicate, Nat.reduceAdd, Nat.reduceSub, Nat.reduceMul, Nat.reduceLT, Nat.reduceLeDiff, Nat.reduceBEq, Nat.reduceEqDiff, e7]
    refine amid (at_1 (hr _) i1_len (hat i (by omega)) rfl fun ad3 => ?_)
    simp (config := { maxSteps := 4000000 }) only [↓sx0, ↓sx1, ↓sx2, ↓sx3, ↓sx4, ↓sx5, ↓sx6, sx0, sx1, sx2, sx3, sx4, sx5, sx6, tf58, ev3_hold, sxo, sxc, sxp, sxq, sxr, sxs, sxl, sxm, Int.reduceBEq, Int.reduceBNe, Int.reduceLT, Int.reduceLE, Int.reduceEq, Int.reduceGT, Int.reduceGE, Int.reduceToNat, ↓reduceIte, List.reduceReplicate, Nat.reduceAdd, Nat.reduceSub, Nat.reduceMul, Nat.reduceLT, Nat.reduceLeDiff, Nat.reduceBEq, Nat.reduceEqDiff, f1, f2, p5, e8]
    exact ⟨i + 1, _, rfl, HImp.nil _ _, ⟨by omega, hnext (fun h => absurd h k5)⟩, by omega⟩
  have p5 : (rch c A K T i ≤ len) = True := eq_true k5
  refine ⟨?_⟩
  simp (config := { maxSteps := 4000000 }) only [↓sx0, ↓sx1, ↓sx2, ↓sx3, ↓sx4, ↓sx5, ↓sx6, sx0, sx1, sx2, sx3, sx4, sx5, sx6, tf58, ev3_hold, sxo, sxc, sxp, sxq, sxr, sxs, sxl, sxm, Int.reduceBEq, Int.reduceBNe, Int.reduceLT, Int.reduceLE, Int.reduceEq, Int.reduceGT, Int.reduceGE, Int.reduceToNat, ↓reduceIte, List.reduceReplicate, Nat.reduceAdd, Nat.reduceSub, Nat.reduceMul, Nat.reduceLT, Nat.reduceLeDiff, Nat.reduceBEq, Nat.reduceEqDiff, e7]
  refine amid (at_1 (hr _) i1_len (hat i (by omega)) rfl fun ad3 => ?_)
  simp (config := { maxSteps := 4000000 }) only [↓sx0, ↓sx1, ↓sx2, ↓sx3, ↓sx4, ↓sx5, ↓sx6, sx0, sx1, sx2, sx3, sx4, sx5, sx6, tf58, ev3_hold, sxo, sxc, sxp, sxq, sxr, sxs, sxl, sxm, Int.reduceBEq, Int.reduceBNe, Int.reduceLT, Int.reduceLE, Int.reduceEq, Int.reduceGT, Int.reduceGE, Int.reduceToNat, ↓reduceIte, List.reduceReplicate, Nat.reduceAdd, Nat.reduceSub, Nat.reduceMul, Nat.reduceLT, Nat.reduceLeDiff, Nat.reduceBEq, Nat.reduceEqDiff, f1, f2, p5, det0]
  refine CallOb.pureH (fun w' hp => sure_fn w' _ c (hc0.hp hp) hok g i T (by omega) hT) ?_
  intro r3 N3 hr3
  have hq2 : ∃ q, c.flt g T i = q := ⟨_, rfl⟩
  obtain ⟨q2, hfi⟩ := hq2
  have hr4 : r3 = .bool q2 := (show r3 = .bool (c.flt g T i) from hr3).trans (congrArg Value.bool hfi)
  subst hr4
  clear hr3
  cases q2 with
  | false =>
    refine ⟨?_⟩
    simp (config := { maxSteps := 4000000 }) only [↓sx0, ↓sx1, ↓sx2, ↓sx3, ↓sx4, ↓sx5, ↓sx6, sx0, sx1, sx2, sx3, sx4, sx5, sx6, tf58, ev3_hold, sxo, sxc, sxp, sxq, sxr, sxs, sxl, sxm, Int.reduceBEq, Int.reduceBNe, Int.reduceLT, Int.reduceLE, Int.reduceEq, Int.reduceGT, Int.reduceGE, Int.reduceToNat, ↓reduceIte, List.reduceReplicate, Nat.reduceAdd, Nat.reduceSub, Nat.reduceMul, Nat.reduceLT, Nat.reduceLeDiff, Nat.reduceBEq, Nat.reduceEqDiff]
    refine ⟨false, rfl, ?_⟩
    simp only [Bool.false_eq_true, false_iff]
    intro h
    rcases h.2.2.2.2 with h | h
    · exact k4 h
    · rw [h i (by omega) k5] at hfi
      cases hfi
  | true =>
    refine ⟨?_⟩
    simp (config := { maxSteps := 4000000 }) only [↓sx0, ↓sx1, ↓sx2, ↓sx3, ↓sx4, ↓sx5, ↓sx6, sx0, sx1, sx2, sx3, sx4, sx5, sx6, tf58, ev3_hold, sxo, sxc, sxp, sxq, sxr, sxs, sxl, sxm, Int.reduceBEq, Int.reduceBNe, Int.reduceLT, Int.reduceLE, Int.reduceEq, Int.reduceGT, Int.reduceGE, Int.reduceToNat, ↓reduceIte, List.reduceReplicate, Nat.reduceAdd, Nat.reduceSub, Nat.reduceMul, Nat.reduceLT, Nat.reduceLeDiff, Nat.reduceBEq, Nat.reduceEqDiff, e8]
    exact ⟨i + 1, _, rfl, HImp.nil _ _, ⟨by omega, hnext (fun _ => hfi)⟩, by omega⟩

open Classical in
/-- The length to a cell; -1: there is none. -/
noncomputable def vlen (c : Cht) (A : Anc) (K : Nat) (g : Int) (T x : Nat) : Int :=
  if veersP c A K g T x (max (rch c A K T x) (A.scope * dpt c K T)) then max (rch c A K T x) (A.scope * dpt c K T) else -1

noncomputable def vlenL (c : Cht) (A : Anc) (K : Nat) (g : Int) (T : Nat) : List Int := (List.range c.depth.length).map (vlen c A K g T)

theorem vlenL_len (c : Cht) (A : Anc) (K : Nat) (g : Int) (T : Nat) : (vlenL c A K g T).length = c.depth.length := by simp [vlenL]

theorem vlenL_get {c : Cht} {A : Anc} {K : Nat} {g : Int} {T x : Nat} (hx : x < c.depth.length) : lv (vlenL c A K g T) x = vlen c A K g T x := by
  unfold lv vlenL
  rw [List.getD_eq_getElem?_getD, List.getElem?_map, List.getElem?_range hx]
  rfl

noncomputable def veerS (c : Cht) (A : Anc) (g t : Int) : List Int := if veerE c A g t = 0 then vlenL c A A.cell.toNat g t.toNat else []

def LV (r : Value) (N : List HO) (l : List Int) (e : Int) : Prop := ∃ x, r = .tuple #[x, I e] ∧ Got x 3 1 i1 l N

theorem rveer_fn (w : World) (hw : Ways w) (v : Value) (c : Cht) (hc : ChOk w v c) (hsm : c.small) (A : Anc) (g t : Int) :
    SX.Fn Tryd.prog 54 [v, anv A, I g, I t] w (fun _ => False) fun r N => LV r N (veerS c A g t) (veerE c A g t) := by
  have hc0 := hc
  obtain ⟨sD, sT, sS, rfl, hsD, hsT, hsS⟩ := hc
  have hcv := fun w' (hp : Hp ⟨w, fun _ => False⟩ [] w') => checkVeer_fn w' (hw.hp hp) _ c (hc0.hp hp) hsm A g t
  unfold veerS
  by_cases he : veerE c A g t = 0
  case neg =>
    have e1 : (veerE c A g t = 0) = False := eq_false he
    rw [if_neg he]
    unfold anv at hcv ⊢
    refine walk [] [] (det0_ok _ _) Tryd.func54 rfl Tryd.ntmps54 res54 (by kernel_rfl) no_facts ?_
    simp (config := { maxSteps := 4000000 }) only [↓sx0, ↓sx1, ↓sx2, ↓sx3, ↓sx4, ↓sx5, ↓sx6, sx0, sx1, sx2, sx3, sx4, sx5, sx6, tf54, ev3_hold, sxo, sxc, sxp, sxq, sxr, sxs, sxl, sxm, Int.reduceBEq, Int.reduceBNe, Int.reduceLT, Int.reduceLE, Int.reduceEq, Int.reduceGT, Int.reduceGE, Int.reduceToNat, ↓reduceIte, List.reduceReplicate, Nat.reduceAdd, Nat.reduceSub, Nat.reduceMul, Nat.reduceLT, Nat.reduceLeDiff, Nat.reduceBEq, Nat.reduceEqDiff, det0]
    refine CallOb.pureH (fun w' hp => hcv w' hp) ?_
    rintro r N rfl
    refine ⟨?_⟩
    simp (config := { maxSteps := 4000000 }) only [↓sx0, ↓sx1, ↓sx2, ↓sx3, ↓sx4, ↓sx5, ↓sx6, sx0, sx1, sx2, sx3, sx4, sx5, sx6, tf54, ev3_hold, sxo, sxc, sxp, sxq, sxr, sxs, sxl, sxm, Int.reduceBEq, Int.reduceBNe, Int.reduceLT, Int.reduceLE, Int.reduceEq, Int.reduceGT, Int.reduceGE, Int.reduceToNat, ↓reduceIte, List.reduceReplicate, Nat.reduceAdd, Nat.reduceSub, Nat.reduceMul, Nat.reduceLT, Nat.reduceLeDiff, Nat.reduceBEq, Nat.reduceEqDiff, e1]
    exact ⟨_, rfl, Got.nil _⟩
  have hz := veerE_zero he
  obtain ⟨hok, hA, hg, ht⟩ := hz
  have hAi := anB_iff hA
  obtain ⟨⟨K, hAK, hK⟩, hcb, hscp, hpit⟩ := hAi
  have kt := tick_of ht
  obtain ⟨T, hT, hTl⟩ := kt
  subst hT
  have hdm := hok.dims
  obtain ⟨eW, eH, hW, hH, hlen⟩ := hdm
  have h144 := Nat.mul_le_mul hW.2 hH.2
  have hd := dpt_bd hok hK hTl
  have hsc := scp_bd hok hA hK hTl
  have hrb := fun y (hy : y < c.depth.length) => rch_bd hok hA hK hy
  have hVl := vlenL_len c A K g T
  have hVg := fun x (hx : x < c.depth.length) => vlenL_get (A := A) (K := K) (g := g) (T := T) hx
  have hde := fun (H : List HO) w' (hp : Hp ⟨w, fun _ => False⟩ H w') => deep9_fn w' (hw.hp hp) _ c (hc0.hp hp) hok A K T hAK hK hTl
  have hst := fun (H : List HO) w' (hp : Hp ⟨w, fun _ => False⟩ H w') => steps_fn w' (hw.hp hp) c.W c.H K sD sT sS hW hH (by omega)
  have hvs := fun (H : List HO) w' (hp : Hp ⟨w, fun _ => False⟩ H w') (x : Nat) (hx : x < c.depth.length) (len : Int) (vs : Value) (l : List Int) h1 h2 h3 => veers_fn w' (hw.hp hp) _ c (hc0.hp hp) hok A hA K hAK hK g T x hTl hx len vs l h1 h2 h3
  rw [if_pos he, hAK, Int.toNat_natCast, Int.toNat_natCast]
  rw [← eW, ← eH] at hst
  unfold anv at hcv hde hvs ⊢
  rw [hAK] at hcv hde hvs ⊢
  refine walk [] [] (det0_ok _ _) Tryd.func54 rfl Tryd.ntmps54 res54 (by kernel_rfl) no_facts ?_
  simp (config := { maxSteps := 4000000 }) only [↓sx0, ↓sx1, ↓sx2, ↓sx3, ↓sx4, ↓sx5, ↓sx6, sx0, sx1, sx2, sx3, sx4, sx5, sx6, tf54, ev3_hold, sxo, sxc, sxp, sxq, sxr, sxs, sxl, sxm, Int.reduceBEq, Int.reduceBNe, Int.reduceLT, Int.reduceLE, Int.reduceEq, Int.reduceGT, Int.reduceGE, Int.reduceToNat, ↓reduceIte, List.reduceReplicate, Nat.reduceAdd, Nat.reduceSub, Nat.reduceMul, Nat.reduceLT, Nat.reduceLeDiff, Nat.reduceBEq, Nat.reduceEqDiff, det0]
  refine CallOb.pureH (fun w' hp => hcv w' hp) ?_
  intro r N hr
  rw [he] at hr
  subst hr
  refine ⟨?_⟩
  simp (config := { maxSteps := 4000000 }) only [↓sx0, ↓sx1, ↓sx2, ↓sx3, ↓sx4, ↓sx5, ↓sx6, sx0, sx1, sx2, sx3, sx4, sx5, sx6, tf54, ev3_hold, sxo, sxc, sxp, sxq, sxr, sxs, sxl, sxm, Int.reduceBEq, Int.reduceBNe, Int.reduceLT, Int.reduceLE, Int.reduceEq, Int.reduceGT, Int.reduceGE, Int.reduceToNat, ↓reduceIte, List.reduceReplicate, Nat.reduceAdd, Nat.reduceSub, Nat.reduceMul, Nat.reduceLT, Nat.reduceLeDiff, Nat.reduceBEq, Nat.reduceEqDiff, det0]
  refine CallOb.pureH (fun w' hp => hst _ w' hp) ?_
  rintro r1 N1 ⟨bs, l, rfl, hrow, hll, hld⟩
  rw [← hlen] at hrow hll ⊢
  have hl : ∀ y, y < c.depth.length → lv l y = (dst c.W c.H K y : Nat) := fun y hy => hld y _ (by omega) (dst_is (by omega) (by omega))
  refine ⟨?_⟩
  simp (config := { maxSteps := 4000000 }) only [↓sx0, ↓sx1, ↓sx2, ↓sx3, ↓sx4, ↓sx5, ↓sx6, sx0, sx1, sx2, sx3, sx4, sx5, sx6, tf54, ev3_hold, sxo, sxc, sxp, sxq, sxr, sxs, sxl, sxm, Int.reduceBEq, Int.reduceBNe, Int.reduceLT, Int.reduceLE, Int.reduceEq, Int.reduceGT, Int.reduceGE, Int.reduceToNat, ↓reduceIte, List.reduceReplicate, Nat.reduceAdd, Nat.reduceSub, Nat.reduceMul, Nat.reduceLT, Nat.reduceLeDiff, Nat.reduceBEq, Nat.reduceEqDiff, det0]
  refine CallOb.pureH (fun w' hp => hde _ w' hp) ?_
  rintro r2 N2 rfl
  have hat : ∀ y, y < c.depth.length → l[y]? = some ((dst c.W c.H K y : Nat) : Int) := fun y hy => by
    rw [← hl y hy]
    exact getD_at (by omega) 0
  have hrl : ∀ G, (∀ h ∈ N1, h ∈ G) → Rdv ⟨w, fun _ => False⟩ G (.slice (some ⟨bs, 0, none⟩) c.depth.length c.depth.length) 1 (ints l) := fun G hG =>
    row_rdv (E := 3) (hG _ hrow) ⟨_, _, _, rfl, by rw [cat_len i1_len, hll], fun h => by cases h⟩
  generalize hRR : (fun (ad : Option Addr) (n cp : Nat) (l : List Int) => HO.row (.slice ad n cp) 3 1 (ints l)) = RR
  have hRe : ∀ ad n cp l, HO.row (.slice ad n cp) 3 1 (ints l) = RR ad n cp l := fun ad n cp l => by rw [← hRR]
  refine ⟨?_⟩
  refine loop_constH (RR none 0 0 [] :: N1) (by rw [← hRe]; exact (HImp.sub ((List.sublist_append_left N1 _).trans (List.sublist_append_right N2 _))).trans (HImp.nilRow _ _ _ _)) [(13, 15), (32, 64)] (fun s : Nat × Option Addr × Nat => [(13, .slice s.2.1 s.1 s.2.2), (14, I s.1)])
    (fun s H1 => s.1 ≤ c.depth.length ∧ (s.2.1 = none → s.1 = 0) ∧ H1 = RR s.2.1 s.1 s.2.2 ((vlenL c A K g T).take s.1) :: N1) (fun s => c.depth.length - s.1) (0, none, 0) ?_ ⟨Nat.zero_le _, fun _ => rfl, rfl⟩ ?_
  · simp (config := { maxSteps := 4000000 }) only [↓sx0, ↓sx1, ↓sx2, ↓sx3, ↓sx4, ↓sx5, ↓sx6, sx0, sx1, sx2, sx3, sx4, sx5, sx6, tf54, ev3_hold, sxo, sxc, sxp, sxq, sxr, sxs, sxl, sxm, Int.reduceBEq, Int.reduceBNe, Int.reduceLT, Int.reduceLE, Int.reduceEq, Int.reduceGT, Int.reduceGE, Int.reduceToNat, ↓reduceIte, List.reduceReplicate, Nat.reduceAdd, Nat.reduceSub, Nat.reduceMul, Nat.reduceLT, Nat.reduceLeDiff, Nat.reduceBEq, Nat.reduceEqDiff]
    simp
  rintro ⟨i, ao, co⟩ H1 g1 ⟨hi, hnil, rfl⟩
  simp only [] at hi hnil
  have htl' : ((vlenL c A K g T).take i).length = i := by rw [List.length_take]; omega
  by_cases hin : i = c.depth.length
  · have e7 : ((i : Int) < (c.depth.length : Int)) = False := eq_false (by omega)
    refine ⟨?_⟩
    simp (config := { maxSteps := 4000000 }) only [↓sx0, ↓sx1, ↓sx2, ↓sx3, ↓sx4, ↓sx5, ↓sx6, sx0, sx1, sx2, sx3, sx4, sx5, sx6, tf54, ev3_hold, sxo, sxc, sxp, sxq, sxr, sxs, sxl, sxm, Int.reduceBEq, Int.reduceBNe, Int.reduceLT, Int.reduceLE, Int.reduceEq, Int.reduceGT, Int.reduceGE, Int.reduceToNat, ↓reduceIte, List.reduceReplicate, Nat.reduceAdd, Nat.reduceSub, Nat.reduceMul, Nat.reduceLT, Nat.reduceLeDiff, Nat.reduceBEq, Nat.reduceEqDiff, e7]
    refine ⟨_, by rw [he], ?_⟩
    rw [← hRe, List.take_of_length_le (show (vlenL c A K g T).length ≤ i by omega)]
    exact Got.row (by omega) List.mem_cons_self (fun h => by
      have := hnil h
      exact List.eq_nil_of_length_eq_zero (by omega))
  have e7 : ((i : Int) < (c.depth.length : Int)) = True := eq_true (by omega)
  have e8 : IntKind.i64.wrap ((i : Int) + 1) = ((i + 1 : Nat) : Int) := (wrap_id (by omega)).trans (by omega)
  have hpi := hrb i (by omega)
  have f1 : IntKind.i64.wrap (A.pitch * ((dst c.W c.H K i : Nat) : Int)) = A.pitch * ((dst c.W c.H K i : Nat) : Int) := wrap_id (by omega)
  have f2 : IntKind.i64.wrap (A.pitch * ((dst c.W c.H K i : Nat) : Int) + dpt c K T) = rch c A K T i := (wrap_id (by omega)).trans rfl
  have f3 : IntKind.i64.wrap (A.scope * dpt c K T) = A.scope * dpt c K T := wrap_id (by omega)
  have hM : ∃ M, max (rch c A K T i) (A.scope * dpt c K T) = M := ⟨_, rfl⟩
  obtain ⟨M, hM⟩ := hM
  have hvi := hVg i (by omega)
  unfold vlen at hvi
  rw [hM] at hvi
  have happ : ∀ q, q = lv (vlenL c A K g T) i → (vlenL c A K g T).take i ++ [q] = (vlenL c A K g T).take (i + 1) := fun q hq => by
    rw [List.take_add_one, getD_at (show i < (vlenL c A K g T).length by omega) 0, hq]
    rfl
  refine ⟨?_⟩
  simp (config := { maxSteps := 4000000 }) only [↓sx0, ↓sx1, ↓sx2, ↓sx3, ↓sx4, ↓sx5, ↓sx6, sx0, sx1, sx2, sx3, sx4, sx5, sx6, tf54, ev3_hold, sxo, sxc, sxp, sxq, sxr, sxs, sxl, sxm, Int.reduceBEq, Int.reduceBNe, Int.reduceLT, Int.reduceLE, Int.reduceEq, Int.reduceGT, Int.reduceGE, Int.reduceToNat, ↓reduceIte, List.reduceReplicate, Nat.reduceAdd, Nat.reduceSub, Nat.reduceMul, Nat.reduceLT, Nat.reduceLeDiff, Nat.reduceBEq, Nat.reduceEqDiff, e7]
  refine amid (at_1 (hrl _ (fun h hh => List.mem_cons_of_mem _ hh)) i1_len (hat i (by omega)) rfl fun ad1 => ?_)
  simp (config := { maxSteps := 4000000 }) only [↓sx0, ↓sx1, ↓sx2, ↓sx3, ↓sx4, ↓sx5, ↓sx6, sx0, sx1, sx2, sx3, sx4, sx5, sx6, tf54, ev3_hold, sxo, sxc, sxp, sxq, sxr, sxs, sxl, sxm, Int.reduceBEq, Int.reduceBNe, Int.reduceLT, Int.reduceLE, Int.reduceEq, Int.reduceGT, Int.reduceGE, Int.reduceToNat, ↓reduceIte, List.reduceReplicate, Nat.reduceAdd, Nat.reduceSub, Nat.reduceMul, Nat.reduceLT, Nat.reduceLeDiff, Nat.reduceBEq, Nat.reduceEqDiff, f1, f2, f3, hM, det0]
  refine CallOb.pureH (fun w' hp => hvs _ w' hp i (by omega) M _ l (row_hp (List.mem_cons_of_mem _ hrow) hp) hll hl) ?_
  rintro r3 N3 ⟨b, rfl, hb⟩
  cases b with
  | true =>
    rw [if_pos (hb.1 rfl)] at hvi
    refine ⟨?_⟩
    simp (config := { maxSteps := 4000000 }) only [↓sx0, ↓sx1, ↓sx2, ↓sx3, ↓sx4, ↓sx5, ↓sx6, sx0, sx1, sx2, sx3, sx4, sx5, sx6, tf54, ev3_hold, sxo, sxc, sxp, sxq, sxr, sxs, sxl, sxm, Int.reduceBEq, Int.reduceBNe, Int.reduceLT, Int.reduceLE, Int.reduceEq, Int.reduceGT, Int.reduceGE, Int.reduceToNat, ↓reduceIte, List.reduceReplicate, Nat.reduceAdd, Nat.reduceSub, Nat.reduceMul, Nat.reduceLT, Nat.reduceLeDiff, Nat.reduceBEq, Nat.reduceEqDiff]
    intro b2
    rw [← hRe]
    refine app_one (l := (vlenL c A K g T).take i) M (HImp.app _ _ _) i1_len i1_one (by omega) fun ad2 c2 => ?_
    simp (config := { maxSteps := 4000000 }) only [↓sx0, ↓sx1, ↓sx2, ↓sx3, ↓sx4, ↓sx5, ↓sx6, sx0, sx1, sx2, sx3, sx4, sx5, sx6, tf54, ev3_hold, sxo, sxc, sxp, sxq, sxr, sxs, sxl, sxm, Int.reduceBEq, Int.reduceBNe, Int.reduceLT, Int.reduceLE, Int.reduceEq, Int.reduceGT, Int.reduceGE, Int.reduceToNat, ↓reduceIte, List.reduceReplicate, Nat.reduceAdd, Nat.reduceSub, Nat.reduceMul, Nat.reduceLT, Nat.reduceLeDiff, Nat.reduceBEq, Nat.reduceEqDiff, e8]
    rw [happ M hvi.symm, htl', hRe]
    exact ⟨(i + 1, some ad2, c2), _, ⟨rfl, rfl⟩, HImp.refl _ _, ⟨by omega, fun h => (by cases h), rfl⟩, by omega⟩
  | false =>
    rw [if_neg (fun h => by have := hb.2 h; cases this)] at hvi
    refine ⟨?_⟩
    simp (config := { maxSteps := 4000000 }) only [↓sx0, ↓sx1, ↓sx2, ↓sx3, ↓sx4, ↓sx5, ↓sx6, sx0, sx1, sx2, sx3, sx4, sx5, sx6, tf54, ev3_hold, sxo, sxc, sxp, sxq, sxr, sxs, sxl, sxm, Int.reduceBEq, Int.reduceBNe, Int.reduceLT, Int.reduceLE, Int.reduceEq, Int.reduceGT, Int.reduceGE, Int.reduceToNat, ↓reduceIte, List.reduceReplicate, Nat.reduceAdd, Nat.reduceSub, Nat.reduceMul, Nat.reduceLT, Nat.reduceLeDiff, Nat.reduceBEq, Nat.reduceEqDiff]
    intro b2
    rw [← hRe]
    refine app_one (l := (vlenL c A K g T).take i) (-1 : Int) (HImp.app _ _ _) i1_len i1_one (by omega) fun ad2 c2 => ?_
    simp (config := { maxSteps := 4000000 }) only [↓sx0, ↓sx1, ↓sx2, ↓sx3, ↓sx4, ↓sx5, ↓sx6, sx0, sx1, sx2, sx3, sx4, sx5, sx6, tf54, ev3_hold, sxo, sxc, sxp, sxq, sxr, sxs, sxl, sxm, Int.reduceBEq, Int.reduceBNe, Int.reduceLT, Int.reduceLE, Int.reduceEq, Int.reduceGT, Int.reduceGE, Int.reduceToNat, ↓reduceIte, List.reduceReplicate, Nat.reduceAdd, Nat.reduceSub, Nat.reduceMul, Nat.reduceLT, Nat.reduceLeDiff, Nat.reduceBEq, Nat.reduceEqDiff, e8]
    rw [happ (-1) hvi.symm, htl', hRe]
    exact ⟨(i + 1, some ad2, c2), _, ⟨rfl, rfl⟩, HImp.refl _ _, ⟨by omega, fun h => (by cases h), rfl⟩, by omega⟩

end Go.Proofs.YtcnjhgnlcnmagaaDoor
