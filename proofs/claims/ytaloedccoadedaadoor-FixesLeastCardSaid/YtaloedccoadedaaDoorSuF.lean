/- A part of a proof: the symbolic walk and what it shows of single functions. -/
import Derived.Test.YtaloedccoadedaaDoorF9
set_option linter.all false
namespace Go.Proofs.YtaloedccoadedaaDoor
open Go.RowKit Go.SX
set_option maxRecDepth 20000
set_option maxHeartbeats 0
set_option linter.unusedSimpArgs false
set_option linter.unusedVariables false
def ascB (m : Nat) (L : List Int) : Prop := (∀ (i : Nat) (x : Int), L[i]? = some x → 0 ≤ x ∧ x < m) ∧ ∀ (i : Nat) (x y : Int), L[i]? = some x → L[i + 1]? = some y → x < y
def onlyR (d : Dis) (L : List Int) (but : Int) : Nat → List Rep
  | 0 => []
  | k + 1 => onlyR d L but k ++ (if (k : Int) = but then [] else [d.rep (L.getD k 0).toNat])
theorem onlyR_len (d : Dis) (L : List Int) (but : Int) : ∀ k, (onlyR d L but k).length ≤ k
  | 0 => Nat.le_refl _
  | k + 1 => by
    have := onlyR_len d L but k
    unfold onlyR
    rw [List.length_append]
    split <;> simp <;> omega
theorem only_fn (w : World) (v vl : Value) (d : Dis) (hd : DsOk w v d) (hf : d.few) (L : List Int) (hL : Sl w vl 1 (ints L)) (hLl : L.length ≤ 1000) (ha : ascB d.rs.length L) (but : Int) (hbut : -1 ≤ but ∧ but ≤ 1000) :
    SX.Fn Tryd.prog 18 [v, vl, I but] w (fun _ => False) fun q N => ∃ v', q = .tuple #[v', .bool true] ∧ DsN v' ⟨d.c, d.dr, d.pc, onlyR d L but L.length⟩ N := by
  have hd0 := hd
  have hcp := fun (H : List HO) w' (hp : Hp ⟨w, fun _ => False⟩ H w') => copy3_fn w' v d (hd0.hp hp) hf
  obtain ⟨sD, sT, sS, sR, rfl, hc, hsR⟩ := hd
  obtain ⟨_, _, _, hh, hsD, hsT, hsS⟩ := hc
  cases hh
  obtain ⟨aD, nD, cD, rfl⟩ := hsD.shape
  obtain ⟨aT, nT, cT, rfl⟩ := hsT.shape
  obtain ⟨aS, nS, cS, rfl⟩ := hsS.shape
  obtain ⟨aR, nR, cR, rfl⟩ := hsR.shape
  have hnR := hsR.le rpc_len (by omega)
  subst hnR
  obtain ⟨aL, nL, cL, rfl⟩ := hL.shape
  have hnL := hL.le i1_len (by omega)
  subst hnL
  have hrR := fun H => hsR.rd0 H
  have hrL := fun H => hL.rd0 H
  have dn : ∀ (g : Nat) (xs : List Value), det0 g xs = none := fun _ _ => rfl
  refine walkC [13] [] [] (det0_ok _ _) Tryd.func18 rfl Tryd.ntmps18 res18 (by kernel_rfl) no_facts ?_
  simp (config := { maxSteps := 4000000 }) only [↓sx0, ↓sx1, ↓sx2, ↓sx3, ↓sx4, ↓sx5, ↓sx6, sx0, sx1, sx2, sx3, sx4, sx5, sx6, tf18, ev3_hold, sxo, sxc, sxp, sxq, sxr, sxs, sxl, sxm, Int.reduceBEq, Int.reduceBNe, Int.reduceLT, Int.reduceLE, Int.reduceEq, Int.reduceGT, Int.reduceGE, Int.reduceToNat, ↓reduceIte, List.reduceReplicate, Nat.reduceAdd, Nat.reduceSub, Nat.reduceMul, Nat.reduceLT, Nat.reduceLeDiff, Nat.reduceBEq, Nat.reduceEqDiff, dn]
  refine CallOb.pureH (fun w' hp => hcp _ w' hp) ?_
  intro q N hN
  obtain ⟨x, y, z, u, rfl, h1, h2, h3, _⟩ := hN
  obtain ⟨ax, cx, rfl⟩ := h1.shape
  obtain ⟨ay, cy, rfl⟩ := h2.shape
  obtain ⟨az, cz, rfl⟩ := h3.shape
  rw [List.append_nil]
  rename_i hu
  obtain ⟨au, cu, rfl, _, _⟩ := hu
  refine ⟨?_⟩
  simp (config := { maxSteps := 4000000 }) only [↓sx0, ↓sx1, ↓sx2, ↓sx3, ↓sx4, ↓sx5, ↓sx6, sx0, sx1, sx2, sx3, sx4, sx5, sx6, tf18, ev3_hold, sxo, sxc, sxp, sxq, sxr, sxs, sxl, sxm, Int.reduceBEq, Int.reduceBNe, Int.reduceLT, Int.reduceLE, Int.reduceEq, Int.reduceGT, Int.reduceGE, Int.reduceToNat, ↓reduceIte, List.reduceReplicate, Nat.reduceAdd, Nat.reduceSub, Nat.reduceMul, Nat.reduceLT, Nat.reduceLeDiff, Nat.reduceBEq, Nat.reduceEqDiff]
  refine loop_boxH (HO.row (.slice none 0 0) 47 9 (cat rpc (onlyR d L but 0)) :: N) (HImp.nilRow _ _ _ _) [(7, 7), (9, 9), (13, 66)] (fun q : Nat × Option Addr × Nat => [(9, I q.1)])
    (fun q => [(28, [I d.c.wide, I d.c.high, .slice aD nD cD, .slice aT nT cT, .slice aS nS cS, I d.dr, I d.pc, .slice aR d.rs.length cR]), (28, [I 0, I 0, .slice none 0 0, .slice none 0 0, .slice none 0 0, I 0, I 0, .slice none 0 0]), (28, [I d.c.wide, I d.c.high, .slice ax d.c.depth.length cx, .slice ay d.c.tide.length cy, .slice az d.c.swell.length cz, I d.dr, I d.pc, .slice q.2.1 (onlyR d L but q.1).length q.2.2])])
    (fun q H1 => q.1 ≤ L.length ∧ (q.2.1 = none → onlyR d L but q.1 = []) ∧ H1 = HO.row (.slice q.2.1 (onlyR d L but q.1).length q.2.2) 47 9 (cat rpc (onlyR d L but q.1)) :: N) (fun q => L.length - q.1) (0, none, 0) ?_ ?_ (fun _ => rfl) ⟨Nat.zero_le _, fun _ => rfl, rfl⟩ ?_
  · simp (config := { maxSteps := 4000000 }) only [↓sx0, ↓sx1, ↓sx2, ↓sx3, ↓sx4, ↓sx5, ↓sx6, sx0, sx1, sx2, sx3, sx4, sx5, sx6, tf18, ev3_hold, sxo, sxc, sxp, sxq, sxr, sxs, sxl, sxm, Int.reduceBEq, Int.reduceBNe, Int.reduceLT, Int.reduceLE, Int.reduceEq, Int.reduceGT, Int.reduceGE, Int.reduceToNat, ↓reduceIte, List.reduceReplicate, Nat.reduceAdd, Nat.reduceSub, Nat.reduceMul, Nat.reduceLT, Nat.reduceLeDiff, Nat.reduceBEq, Nat.reduceEqDiff]
    try simp
  · rfl
  rintro ⟨i, ad, cp⟩ H1 g1 hinv
  simp only [] at hinv
  obtain ⟨hi, hnil, rfl⟩ := hinv
  by_cases hin : i = L.length
  · have e7 : ((i : Int) < (L.length : Int)) = False := eq_false (by omega)
    refine ⟨?_⟩
    simp (config := { maxSteps := 4000000 }) only [↓sx0, ↓sx1, ↓sx2, ↓sx3, ↓sx4, ↓sx5, ↓sx6, sx0, sx1, sx2, sx3, sx4, sx5, sx6, tf18, ev3_hold, sxo, sxc, sxp, sxq, sxr, sxs, sxl, sxm, Int.reduceBEq, Int.reduceBNe, Int.reduceLT, Int.reduceLE, Int.reduceEq, Int.reduceGT, Int.reduceGE, Int.reduceToNat, ↓reduceIte, List.reduceReplicate, Nat.reduceAdd, Nat.reduceSub, Nat.reduceMul, Nat.reduceLT, Nat.reduceLeDiff, Nat.reduceBEq, Nat.reduceEqDiff, e7]
    refine ⟨_, rfl, _, _, _, _, rfl, h1.mono (fun h hh => List.mem_cons_of_mem _ hh), h2.mono (fun h hh => List.mem_cons_of_mem _ hh), h3.mono (fun h hh => List.mem_cons_of_mem _ hh), ad, cp, ?_, ?_, ?_⟩
    · rw [hin]
    · rw [← hin]; exact hnil
    · rw [← hin]; exact List.mem_cons_self
  have e7 : ((i : Int) < (L.length : Int)) = True := eq_true (by omega)
  have e8 : wr (i + 1) = ((i + 1 : Nat) : Int) := (wrap_id (by omega)).trans (by omega)
  obtain ⟨x, hx⟩ : ∃ x, L[i]? = some x := ⟨_, List.getElem?_eq_getElem (by omega)⟩
  have hxb := ha.1 i x hx
  obtain ⟨X, rfl⟩ : ∃ X : Nat, x = X := ⟨x.toNat, by omega⟩
  have hXm : X < d.rs.length := by omega
  have hLX : L.getD i 0 = (X : Int) := by rw [List.getD_eq_getElem?_getD, hx]; rfl
  have hr := (Dis.rep_mem hXm).2
  have hsu : onlyR d L but (i + 1) = onlyR d L but i ++ (if (i : Int) = but then [] else [d.rep X]) := by
    show onlyR d L but i ++ _ = _
    rw [hLX, Int.toNat_natCast]
  have hol := onlyR_len d L but i
  have p1 : ((X : Int) < 0) = False := eq_false (by omega)
  have p2 : ((X : Int) ≥ (d.rs.length : Int)) = False := eq_false (by omega)
  obtain ⟨H9, hH9⟩ : ∃ H9, HO.row (.slice ad (onlyR d L but i).length cp) 47 9 (cat rpc (onlyR d L but i)) :: N = H9 := ⟨_, rfl⟩
  rw [hH9]
  refine ⟨?_⟩
  simp (config := { maxSteps := 4000000 }) only [↓sx0, ↓sx1, ↓sx2, ↓sx3, ↓sx4, ↓sx5, ↓sx6, sx0, sx1, sx2, sx3, sx4, sx5, sx6, tf18, ev3_hold, sxo, sxc, sxp, sxq, sxr, sxs, sxl, sxm, Int.reduceBEq, Int.reduceBNe, Int.reduceLT, Int.reduceLE, Int.reduceEq, Int.reduceGT, Int.reduceGE, Int.reduceToNat, ↓reduceIte, List.reduceReplicate, Nat.reduceAdd, Nat.reduceSub, Nat.reduceMul, Nat.reduceLT, Nat.reduceLeDiff, Nat.reduceBEq, Nat.reduceEqDiff, e7]
  refine cut_constH [(19, 49)] (fun _ : Unit => [(49, .bool false)]) (fun _ H2 => H2 = H9) ?_ ?_
  · cases i with
    | zero =>
      have p3 : (((0 : Nat) : Int) > 0) = False := eq_false (by omega)
      refine ⟨?_⟩
      simp (config := { maxSteps := 4000000 }) only [↓sx0, ↓sx1, ↓sx2, ↓sx3, ↓sx4, ↓sx5, ↓sx6, sx0, sx1, sx2, sx3, sx4, sx5, sx6, tf18, ev3_hold, sxo, sxc, sxp, sxq, sxr, sxs, sxl, sxm, Int.reduceBEq, Int.reduceBNe, Int.reduceLT, Int.reduceLE, Int.reduceEq, Int.reduceGT, Int.reduceGE, Int.reduceToNat, ↓reduceIte, List.reduceReplicate, Nat.reduceAdd, Nat.reduceSub, Nat.reduceMul, Nat.reduceLT, Nat.reduceLeDiff, Nat.reduceBEq, Nat.reduceEqDiff]
      refine at_1 (hrL _) i1_len hx rfl fun ad1 => ?_
      simp (config := { maxSteps := 4000000 }) only [↓sx0, ↓sx1, ↓sx2, ↓sx3, ↓sx4, ↓sx5, ↓sx6, sx0, sx1, sx2, sx3, sx4, sx5, sx6, tf18, ev3_hold, sxo, sxc, sxp, sxq, sxr, sxs, sxl, sxm, Int.reduceBEq, Int.reduceBNe, Int.reduceLT, Int.reduceLE, Int.reduceEq, Int.reduceGT, Int.reduceGE, Int.reduceToNat, ↓reduceIte, List.reduceReplicate, Nat.reduceAdd, Nat.reduceSub, Nat.reduceMul, Nat.reduceLT, Nat.reduceLeDiff, Nat.reduceBEq, Nat.reduceEqDiff, p1]
      refine at_1 (hrL _) i1_len hx rfl fun ad2 => ?_
      simp (config := { maxSteps := 4000000 }) only [↓sx0, ↓sx1, ↓sx2, ↓sx3, ↓sx4, ↓sx5, ↓sx6, sx0, sx1, sx2, sx3, sx4, sx5, sx6, tf18, ev3_hold, sxo, sxc, sxp, sxq, sxr, sxs, sxl, sxm, Int.reduceBEq, Int.reduceBNe, Int.reduceLT, Int.reduceLE, Int.reduceEq, Int.reduceGT, Int.reduceGE, Int.reduceToNat, ↓reduceIte, List.reduceReplicate, Nat.reduceAdd, Nat.reduceSub, Nat.reduceMul, Nat.reduceLT, Nat.reduceLeDiff, Nat.reduceBEq, Nat.reduceEqDiff, p2, p3]
      exact ⟨(), _, HImp.refl _ _, rfl⟩
    | succ j =>
      have p3 : (((j + 1 : Nat) : Int) > 0) = True := eq_true (by omega)
      have p5 : wr (((j + 1 : Nat) : Int) - 1) = (j : Int) := (wrap_id (by omega)).trans (by omega)
      obtain ⟨y, hy⟩ : ∃ y, L[j]? = some y := ⟨_, List.getElem?_eq_getElem (by omega)⟩
      have p6 : ((X : Int) ≤ y) = False := eq_false (by have := ha.2 j y X hy hx; omega)
      refine ⟨?_⟩
      simp (config := { maxSteps := 4000000 }) only [↓sx0, ↓sx1, ↓sx2, ↓sx3, ↓sx4, ↓sx5, ↓sx6, sx0, sx1, sx2, sx3, sx4, sx5, sx6, tf18, ev3_hold, sxo, sxc, sxp, sxq, sxr, sxs, sxl, sxm, Int.reduceBEq, Int.reduceBNe, Int.reduceLT, Int.reduceLE, Int.reduceEq, Int.reduceGT, Int.reduceGE, Int.reduceToNat, ↓reduceIte, List.reduceReplicate, Nat.reduceAdd, Nat.reduceSub, Nat.reduceMul, Nat.reduceLT, Nat.reduceLeDiff, Nat.reduceBEq, Nat.reduceEqDiff]
      refine at_1 (hrL _) i1_len hx rfl fun ad1 => ?_
      simp (config := { maxSteps := 4000000 }) only [↓sx0, ↓sx1, ↓sx2, ↓sx3, ↓sx4, ↓sx5, ↓sx6, sx0, sx1, sx2, sx3, sx4, sx5, sx6, tf18, ev3_hold, sxo, sxc, sxp, sxq, sxr, sxs, sxl, sxm, Int.reduceBEq, Int.reduceBNe, Int.reduceLT, Int.reduceLE, Int.reduceEq, Int.reduceGT, Int.reduceGE, Int.reduceToNat, ↓reduceIte, List.reduceReplicate, Nat.reduceAdd, Nat.reduceSub, Nat.reduceMul, Nat.reduceLT, Nat.reduceLeDiff, Nat.reduceBEq, Nat.reduceEqDiff, p1]
      refine at_1 (hrL _) i1_len hx rfl fun ad2 => ?_
      simp (config := { maxSteps := 4000000 }) only [↓sx0, ↓sx1, ↓sx2, ↓sx3, ↓sx4, ↓sx5, ↓sx6, sx0, sx1, sx2, sx3, sx4, sx5, sx6, tf18, ev3_hold, sxo, sxc, sxp, sxq, sxr, sxs, sxl, sxm, Int.reduceBEq, Int.reduceBNe, Int.reduceLT, Int.reduceLE, Int.reduceEq, Int.reduceGT, Int.reduceGE, Int.reduceToNat, ↓reduceIte, List.reduceReplicate, Nat.reduceAdd, Nat.reduceSub, Nat.reduceMul, Nat.reduceLT, Nat.reduceLeDiff, Nat.reduceBEq, Nat.reduceEqDiff, p2, p3, p5]
      refine at_1 (hrL _) i1_len hx rfl fun ad3 => ?_
      simp (config := { maxSteps := 4000000 }) only [↓sx0, ↓sx1, ↓sx2, ↓sx3, ↓sx4, ↓sx5, ↓sx6, sx0, sx1, sx2, sx3, sx4, sx5, sx6, tf18, ev3_hold, sxo, sxc, sxp, sxq, sxr, sxs, sxl, sxm, Int.reduceBEq, Int.reduceBNe, Int.reduceLT, Int.reduceLE, Int.reduceEq, Int.reduceGT, Int.reduceGE, Int.reduceToNat, ↓reduceIte, List.reduceReplicate, Nat.reduceAdd, Nat.reduceSub, Nat.reduceMul, Nat.reduceLT, Nat.reduceLeDiff, Nat.reduceBEq, Nat.reduceEqDiff, p5]
      refine at_1 (hrL _) i1_len hy rfl fun ad4 => ?_
      simp (config := { maxSteps := 4000000 }) only [↓sx0, ↓sx1, ↓sx2, ↓sx3, ↓sx4, ↓sx5, ↓sx6, sx0, sx1, sx2, sx3, sx4, sx5, sx6, tf18, ev3_hold, sxo, sxc, sxp, sxq, sxr, sxs, sxl, sxm, Int.reduceBEq, Int.reduceBNe, Int.reduceLT, Int.reduceLE, Int.reduceEq, Int.reduceGT, Int.reduceGE, Int.reduceToNat, ↓reduceIte, List.reduceReplicate, Nat.reduceAdd, Nat.reduceSub, Nat.reduceMul, Nat.reduceLT, Nat.reduceLeDiff, Nat.reduceBEq, Nat.reduceEqDiff, p6]
      exact ⟨(), _, HImp.refl _ _, rfl⟩
  rintro _ H2 g2 rfl
  by_cases hib : (i : Int) = but
  · have p4 : ((i : Int) = but) = True := eq_true hib
    rw [if_pos hib, List.append_nil] at hsu
    refine ⟨?_⟩
    simp (config := { maxSteps := 4000000 }) only [↓sx0, ↓sx1, ↓sx2, ↓sx3, ↓sx4, ↓sx5, ↓sx6, sx0, sx1, sx2, sx3, sx4, sx5, sx6, tf18, ev3_hold, sxo, sxc, sxp, sxq, sxr, sxs, sxl, sxm, Int.reduceBEq, Int.reduceBNe, Int.reduceLT, Int.reduceLE, Int.reduceEq, Int.reduceGT, Int.reduceGE, Int.reduceToNat, ↓reduceIte, List.reduceReplicate, Nat.reduceAdd, Nat.reduceSub, Nat.reduceMul, Nat.reduceLT, Nat.reduceLeDiff, Nat.reduceBEq, Nat.reduceEqDiff, p4, e8]
    refine ⟨(i + 1, ad, cp), H2, rfl, by simp only [hsu], HImp.refl _ _, ⟨by simp only []; omega, by simp only [hsu]; exact hnil, by simp only [hsu]; exact hH9.symm⟩, by simp only []; omega⟩
  have p4 : ((i : Int) = but) = False := eq_false hib
  rw [if_neg hib] at hsu
  have hsl : (onlyR d L but i).length + 1 = (onlyR d L but (i + 1)).length := by rw [hsu, List.length_append]; rfl
  obtain ⟨⟨x1, x2, x3, x4, x5, x6, x7, s, x9⟩, hre⟩ : ∃ r, d.rep X = r := ⟨_, rfl⟩
  rw [hre] at hr hsu
  refine ⟨?_⟩
  simp (config := { maxSteps := 4000000 }) only [↓sx0, ↓sx1, ↓sx2, ↓sx3, ↓sx4, ↓sx5, ↓sx6, sx0, sx1, sx2, sx3, sx4, sx5, sx6, tf18, ev3_hold, sxo, sxc, sxp, sxq, sxr, sxs, sxl, sxm, Int.reduceBEq, Int.reduceBNe, Int.reduceLT, Int.reduceLE, Int.reduceEq, Int.reduceGT, Int.reduceGE, Int.reduceToNat, ↓reduceIte, List.reduceReplicate, Nat.reduceAdd, Nat.reduceSub, Nat.reduceMul, Nat.reduceLT, Nat.reduceLeDiff, Nat.reduceBEq, Nat.reduceEqDiff, p4]
  refine at_1 (hrL _) i1_len hx rfl fun ad1 => ?_
  simp (config := { maxSteps := 4000000 }) only [↓sx0, ↓sx1, ↓sx2, ↓sx3, ↓sx4, ↓sx5, ↓sx6, sx0, sx1, sx2, sx3, sx4, sx5, sx6, tf18, ev3_hold, sxo, sxc, sxp, sxq, sxr, sxs, sxl, sxm, Int.reduceBEq, Int.reduceBNe, Int.reduceLT, Int.reduceLE, Int.reduceEq, Int.reduceGT, Int.reduceGE, Int.reduceToNat, ↓reduceIte, List.reduceReplicate, Nat.reduceAdd, Nat.reduceSub, Nat.reduceMul, Nat.reduceLT, Nat.reduceLeDiff, Nat.reduceBEq, Nat.reduceEqDiff]
  refine at_n (hrR _) rpc_len (by omega) hr fun ad2 => ?_
  unfold rpc
  simp (config := { maxSteps := 4000000 }) only [↓sx0, ↓sx1, ↓sx2, ↓sx3, ↓sx4, ↓sx5, ↓sx6, sx0, sx1, sx2, sx3, sx4, sx5, sx6, tf18, ev3_hold, sxo, sxc, sxp, sxq, sxr, sxs, sxl, sxm, Int.reduceBEq, Int.reduceBNe, Int.reduceLT, Int.reduceLE, Int.reduceEq, Int.reduceGT, Int.reduceGE, Int.reduceToNat, ↓reduceIte, List.reduceReplicate, Nat.reduceAdd, Nat.reduceSub, Nat.reduceMul, Nat.reduceLT, Nat.reduceLeDiff, Nat.reduceBEq, Nat.reduceEqDiff]
  intro b4
  refine app_one (f := rpc) (l := onlyR d L but i) ⟨x1, x2, x3, x4, x5, x6, x7, s, x9⟩ (by rw [← hH9]; exact HImp.refl _ _) rpc_len rpc_one (by omega) fun ad3 c3 => ?_
  rw [← hsu, hsl]
  simp (config := { maxSteps := 4000000 }) only [↓sx0, ↓sx1, ↓sx2, ↓sx3, ↓sx4, ↓sx5, ↓sx6, sx0, sx1, sx2, sx3, sx4, sx5, sx6, tf18, ev3_hold, sxo, sxc, sxp, sxq, sxr, sxs, sxl, sxm, Int.reduceBEq, Int.reduceBNe, Int.reduceLT, Int.reduceLE, Int.reduceEq, Int.reduceGT, Int.reduceGE, Int.reduceToNat, ↓reduceIte, List.reduceReplicate, Nat.reduceAdd, Nat.reduceSub, Nat.reduceMul, Nat.reduceLT, Nat.reduceLeDiff, Nat.reduceBEq, Nat.reduceEqDiff, e8]
  exact ⟨(i + 1, some ad3, c3), _, rfl, rfl, HImp.refl _ _, ⟨by simp only []; omega, fun h => (by cases h), rfl⟩, by simp only []; omega⟩
end Go.Proofs.YtaloedccoadedaaDoor
