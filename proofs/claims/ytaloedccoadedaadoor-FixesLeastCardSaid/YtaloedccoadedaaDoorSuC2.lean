/- A part of a proof: the symbolic walk and what it shows of single functions. -/
import Derived.Test.YtaloedccoadedaaDoorF9
set_option linter.all false
namespace Go.Proofs.YtaloedccoadedaaDoor
open Go.RowKit Go.SX
set_option maxRecDepth 20000
set_option maxHeartbeats 0
set_option linter.unusedSimpArgs false
set_option linter.unusedVariables false
theorem doubted_any (w : World) (hw : Ways w) (v vc : Value) (d : Dis) (hd : DsOk w v d) (hE : d.E = 0) (L : List Int) (hL : Sl w vc 1 (ints L)) : SX.Fn Tryd.prog 33 [v, vc] w (fun _ => False) fun q N => DbtP d L q := by
  have hd0 := hd
  obtain ⟨hok, _, _, _, _⟩ := Dis.E_zero hE
  by_cases hlen : L.length = d.c.tide.length
  · have hT60 := hok.2.2.2.1
    exact doubted_fn w hw v vc d hd hE L hL (by omega)
  obtain ⟨sD, sT, sS, sR, rfl, hc, hsR⟩ := hd
  have hD := detR_ok (X := fun _ => False) hw hc (fun _ _ => id)
  obtain ⟨_, _, _, hh, hsD, hsT, hsS⟩ := hc
  cases hh
  obtain ⟨aT, nT, cT, rfl⟩ := hsT.shape
  obtain ⟨aL, nL, cL, rfl⟩ := hL.shape
  have hnT := hsT.le spc_len (by omega)
  have hnL := hL.le i1_len (by omega)
  subst hnT hnL
  have e1 : ((L.length : Int) = (d.c.tide.length : Int)) = False := eq_false (by omega)
  have hno : ¬ ∃ M, L = zs M ∧ d.way M := fun ⟨M, h1, h2⟩ => hlen (by rw [h1, zs_len, h2.1])
  unfold DbtP
  refine walk [] [] hD Tryd.func33 rfl Tryd.ntmps33 res33 (by kernel_rfl) no_facts ?_
  simp (config := { maxSteps := 4000000 }) only [↓sx0, ↓sx1, ↓sx2, ↓sx3, ↓sx4, ↓sx5, ↓sx6, sx0, sx1, sx2, sx3, sx4, sx5, sx6, tf33, ev3_hold, sxo, sxc, sxp, sxq, sxr, sxs, sxl, sxm, Int.reduceBEq, Int.reduceBNe, Int.reduceLT, Int.reduceLE, Int.reduceEq, Int.reduceGT, Int.reduceGE, Int.reduceToNat, ↓reduceIte, List.reduceReplicate, Nat.reduceAdd, Nat.reduceSub, Nat.reduceMul, Nat.reduceLT, Nat.reduceLeDiff, Nat.reduceBEq, Nat.reduceEqDiff, e1]
  exact .inr hno
end Go.Proofs.YtaloedccoadedaaDoor
