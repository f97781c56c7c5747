/- A part of a proof: the symbolic walk and what it shows of single functions. -/
import Derived.Test.YtcnjhgnlcnmagaaDoorScXo
set_option linter.all false
namespace Go.Proofs.YtcnjhgnlcnmagaaDoor
open Go.RowKit Go.SX
set_option maxRecDepth 20000
set_option maxHeartbeats 8000000
set_option linter.unusedSimpArgs false
set_option linter.unusedVariables false

theorem four_ways {b1 b2 b3 b5 b6 : Bool} (q1 : b1 = true → b2 = true ∧ b3 = true ∧ b5 = true) (q2 : b6 = true → b2 = true) :
    (b1 = true ∧ b2 = true ∧ b3 = true ∧ b5 = true ∧ b6 = true) ∨ (b1 = true ∧ b2 = true ∧ b3 = true ∧ b5 = true ∧ b6 = false) ∨ (b1 = false ∧ b6 = true ∧ b2 = true) ∨ (b1 = false ∧ b6 = false) := by
  cases b1 <;> cases b6 <;> simp_all

theorem chartLess_fn (w : World) (hw : Ways w) (v : Value) (c : Cht) (hc : ChOk w v c) (g a t b : Int) (vm : Value) (m : List (Int × Int)) (hm : Sl w vm 2 (cat spc m)) : SX.Fn Tryd.prog 9 [v, .agg #[I g, I a, I t], I b, vm] w (fun _ => False) fun r N => r = .bool true := by
  have hc0 := hc
  have hD := detR_ok (X := fun _ => False) hw hc (fun _ _ => id)
  obtain ⟨sD, sT, sS, rfl, hsD, hsT, hsS⟩ := hc
  obtain ⟨aT, nT, cT, rfl⟩ := hsT.shape
  obtain ⟨aM, nM, cM, rfl⟩ := hm.shape
  have hnT := hsT.le spc_len (by omega)
  have hnM := hm.le spc_len (by omega)
  subst hnM
  have hrT := hsT.rd0
  have hrM := hm.rd0
  generalize hV : (Value.agg #[I c.wide, I c.high, sD, .slice aT nT cT, sS]) = V at hD hc0
  have dn : (∀ xs, detR V c 14 xs = none) ∧ (∀ xs, detR V c 15 xs = none) ∧ (∀ xs, detR V c 37 xs = none) ∧ (∀ xs, detR V c 34 xs = none) ∧ (∀ xs, detR V c 17 xs = none) := ⟨fun _ => rfl, fun _ => rfl, fun _ => rfl, fun _ => rfl, fun _ => rfl⟩
  subst hV
  have hwk : ∀ (H : List HO) w', Hp ⟨w, fun _ => False⟩ H w' → SX.Fn Tryd.prog 15 [] w' (fun _ => False) fun r N => r = .bool true := fun H w' hp => works_fn w' (hw.hp hp)
  refine walk [] [] hD Tryd.func9 rfl Tryd.ntmps9 res9 (by kernel_rfl) no_facts ?_
  simp (config := { maxSteps := 4000000 }) only [↓sx0, ↓sx1, ↓sx2, ↓sx3, ↓sx4, ↓sx5, ↓sx6, sx0, sx1, sx2, sx3, sx4, sx5, sx6, tf9, ev3_hold, sxo, sxc, sxp, sxq, sxr, sxs, sxl, sxm, Int.reduceBEq, Int.reduceBNe, Int.reduceLT, Int.reduceLE, Int.reduceEq, Int.reduceGT, Int.reduceGE, Int.reduceToNat, ↓reduceIte, List.reduceReplicate, Nat.reduceAdd, Nat.reduceSub, Nat.reduceMul, Nat.reduceLT, Nat.reduceLeDiff, Nat.reduceBEq, Nat.reduceEqDiff, dn]
  refine CallOb.pureH (fun w' hp => vast_fn w' _ c (hc0.hp hp)) ?_
  rintro r0 N0 ⟨t0, rfl, hb0⟩
  cases t0 with
  | true =>
    refine ⟨?_⟩
    simp (config := { maxSteps := 4000000 }) only [↓sx0, ↓sx1, ↓sx2, ↓sx3, ↓sx4, ↓sx5, ↓sx6, sx0, sx1, sx2, sx3, sx4, sx5, sx6, tf9, ev3_hold, sxo, sxc, sxp, sxq, sxr, sxs, sxl, sxm, Int.reduceBEq, Int.reduceBNe, Int.reduceLT, Int.reduceLE, Int.reduceEq, Int.reduceGT, Int.reduceGE, Int.reduceToNat, ↓reduceIte, List.reduceReplicate, Nat.reduceAdd, Nat.reduceSub, Nat.reduceMul, Nat.reduceLT, Nat.reduceLeDiff, Nat.reduceBEq, Nat.reduceEqDiff, dn]
    refine CallOb.pureH (fun w' hp => hwk _ w' hp) ?_
    rintro rW NW rfl
    refine ⟨?_⟩
    simp (config := { maxSteps := 4000000 }) only [↓sx0, ↓sx1, ↓sx2, ↓sx3, ↓sx4, ↓sx5, ↓sx6, sx0, sx1, sx2, sx3, sx4, sx5, sx6, tf9, ev3_hold, sxo, sxc, sxp, sxq, sxr, sxs, sxl, sxm, Int.reduceBEq, Int.reduceBNe, Int.reduceLT, Int.reduceLE, Int.reduceEq, Int.reduceGT, Int.reduceGE, Int.reduceToNat, ↓reduceIte, List.reduceReplicate, Nat.reduceAdd, Nat.reduceSub, Nat.reduceMul, Nat.reduceLT, Nat.reduceLeDiff, Nat.reduceBEq, Nat.reduceEqDiff]
  | false =>
  have hf := (hb0 rfl).1
  have hsm := few_small hf
  have hck := (detR_check (v := .agg #[I c.wide, I c.high, sD, .slice aT nT cT, sS]) hsm).2
  cases hok : c.okB with
  | false =>
    rw [hok] at hck
    refine ⟨?_⟩
    simp (config := { maxSteps := 4000000 }) only [↓sx0, ↓sx1, ↓sx2, ↓sx3, ↓sx4, ↓sx5, ↓sx6, sx0, sx1, sx2, sx3, sx4, sx5, sx6, tf9, ev3_hold, sxo, sxc, sxp, sxq, sxr, sxs, sxl, sxm, Int.reduceBEq, Int.reduceBNe, Int.reduceLT, Int.reduceLE, Int.reduceEq, Int.reduceGT, Int.reduceGE, Int.reduceToNat, ↓reduceIte, List.reduceReplicate, Nat.reduceAdd, Nat.reduceSub, Nat.reduceMul, Nat.reduceLT, Nat.reduceLeDiff, Nat.reduceBEq, Nat.reduceEqDiff, dn, hck]
    refine CallOb.pureH (fun w' hp => hwk _ w' hp) ?_
    rintro rW NW rfl
    refine ⟨?_⟩
    simp (config := { maxSteps := 4000000 }) only [↓sx0, ↓sx1, ↓sx2, ↓sx3, ↓sx4, ↓sx5, ↓sx6, sx0, sx1, sx2, sx3, sx4, sx5, sx6, tf9, ev3_hold, sxo, sxc, sxp, sxq, sxr, sxs, sxl, sxm, Int.reduceBEq, Int.reduceBNe, Int.reduceLT, Int.reduceLE, Int.reduceEq, Int.reduceGT, Int.reduceGE, Int.reduceToNat, ↓reduceIte, List.reduceReplicate, Nat.reduceAdd, Nat.reduceSub, Nat.reduceMul, Nat.reduceLT, Nat.reduceLeDiff, Nat.reduceBEq, Nat.reduceEqDiff]
  | true =>
  rw [hok, if_pos rfl] at hck
  have hok' := (okB_iff c).1 hok
  have h60 := hok'.2.2.2.1.2
  have hdm := hok'.dims
  obtain ⟨eW, eH, hW, hH, hlen⟩ := hdm
  have h144 := Nat.mul_le_mul hW.2 hH.2
  have e5 : IntKind.i64.wrap ((nT : Int) - 1) = (c.tide.length : Int) - 1 := (wrap_id (by omega)).trans (by omega)
  have e6 : IntKind.i64.wrap (c.wide * c.high) = (c.depth.length : Int) := by
    have h1 := hok'.2.2.1
    rw [← h1]
    exact wrap_id (by omega)
  have ica := isCell_iff hok' a
  cases ha : notCell c a with
  | true =>
    rw [ha] at ica
    refine ⟨?_⟩
    simp (config := { maxSteps := 4000000 }) only [↓sx0, ↓sx1, ↓sx2, ↓sx3, ↓sx4, ↓sx5, ↓sx6, sx0, sx1, sx2, sx3, sx4, sx5, sx6, tf9, ev3_hold, sxo, sxc, sxp, sxq, sxr, sxs, sxl, sxm, Int.reduceBEq, Int.reduceBNe, Int.reduceLT, Int.reduceLE, Int.reduceEq, Int.reduceGT, Int.reduceGE, Int.reduceToNat, ↓reduceIte, List.reduceReplicate, Nat.reduceAdd, Nat.reduceSub, Nat.reduceMul, Nat.reduceLT, Nat.reduceLeDiff, Nat.reduceBEq, Nat.reduceEqDiff, dn, hck, detR_eq, ica]
    refine CallOb.pureH (fun w' hp => hwk _ w' hp) ?_
    rintro rW NW rfl
    refine ⟨?_⟩
    simp (config := { maxSteps := 4000000 }) only [↓sx0, ↓sx1, ↓sx2, ↓sx3, ↓sx4, ↓sx5, ↓sx6, sx0, sx1, sx2, sx3, sx4, sx5, sx6, tf9, ev3_hold, sxo, sxc, sxp, sxq, sxr, sxs, sxl, sxm, Int.reduceBEq, Int.reduceBNe, Int.reduceLT, Int.reduceLE, Int.reduceEq, Int.reduceGT, Int.reduceGE, Int.reduceToNat, ↓reduceIte, List.reduceReplicate, Nat.reduceAdd, Nat.reduceSub, Nat.reduceMul, Nat.reduceLT, Nat.reduceLeDiff, Nat.reduceBEq, Nat.reduceEqDiff]
  | false =>
  rw [ha] at ica
  have hti : inB t 0 ((c.tide.length : Int) - 1) = !notTick c t := by unfold notTick; simp
  cases ht : notTick c t with
  | true =>
    rw [ht] at hti
    refine ⟨?_⟩
    simp (config := { maxSteps := 4000000 }) only [↓sx0, ↓sx1, ↓sx2, ↓sx3, ↓sx4, ↓sx5, ↓sx6, sx0, sx1, sx2, sx3, sx4, sx5, sx6, tf9, ev3_hold, sxo, sxc, sxp, sxq, sxr, sxs, sxl, sxm, Int.reduceBEq, Int.reduceBNe, Int.reduceLT, Int.reduceLE, Int.reduceEq, Int.reduceGT, Int.reduceGE, Int.reduceToNat, ↓reduceIte, List.reduceReplicate, Nat.reduceAdd, Nat.reduceSub, Nat.reduceMul, Nat.reduceLT, Nat.reduceLeDiff, Nat.reduceBEq, Nat.reduceEqDiff, dn, hck, detR_eq, ica, e5, hti]
    refine CallOb.pureH (fun w' hp => hwk _ w' hp) ?_
    rintro rW NW rfl
    refine ⟨?_⟩
    simp (config := { maxSteps := 4000000 }) only [↓sx0, ↓sx1, ↓sx2, ↓sx3, ↓sx4, ↓sx5, ↓sx6, sx0, sx1, sx2, sx3, sx4, sx5, sx6, tf9, ev3_hold, sxo, sxc, sxp, sxq, sxr, sxs, sxl, sxm, Int.reduceBEq, Int.reduceBNe, Int.reduceLT, Int.reduceLE, Int.reduceEq, Int.reduceGT, Int.reduceGE, Int.reduceToNat, ↓reduceIte, List.reduceReplicate, Nat.reduceAdd, Nat.reduceSub, Nat.reduceMul, Nat.reduceLT, Nat.reduceLeDiff, Nat.reduceBEq, Nat.reduceEqDiff]
  | false =>
  rw [ht] at hti
  have hdi : inB g 1 100 = !notDraught g := by unfold notDraught; simp
  cases hg : notDraught g with
  | true =>
    rw [hg] at hdi
    refine ⟨?_⟩
    simp (config := { maxSteps := 4000000 }) only [↓sx0, ↓sx1, ↓sx2, ↓sx3, ↓sx4, ↓sx5, ↓sx6, sx0, sx1, sx2, sx3, sx4, sx5, sx6, tf9, ev3_hold, sxo, sxc, sxp, sxq, sxr, sxs, sxl, sxm, Int.reduceBEq, Int.reduceBNe, Int.reduceLT, Int.reduceLE, Int.reduceEq, Int.reduceGT, Int.reduceGE, Int.reduceToNat, ↓reduceIte, List.reduceReplicate, Nat.reduceAdd, Nat.reduceSub, Nat.reduceMul, Nat.reduceLT, Nat.reduceLeDiff, Nat.reduceBEq, Nat.reduceEqDiff, dn, hck, detR_eq, ica, e5, hti, hdi]
    refine CallOb.pureH (fun w' hp => hwk _ w' hp) ?_
    rintro rW NW rfl
    refine ⟨?_⟩
    simp (config := { maxSteps := 4000000 }) only [↓sx0, ↓sx1, ↓sx2, ↓sx3, ↓sx4, ↓sx5, ↓sx6, sx0, sx1, sx2, sx3, sx4, sx5, sx6, tf9, ev3_hold, sxo, sxc, sxp, sxq, sxr, sxs, sxl, sxm, Int.reduceBEq, Int.reduceBNe, Int.reduceLT, Int.reduceLE, Int.reduceEq, Int.reduceGT, Int.reduceGE, Int.reduceToNat, ↓reduceIte, List.reduceReplicate, Nat.reduceAdd, Nat.reduceSub, Nat.reduceMul, Nat.reduceLT, Nat.reduceLeDiff, Nat.reduceBEq, Nat.reduceEqDiff]
  | false =>
  rw [hg] at hdi
  by_cases hb1 : b < 0
  · have e1 : (b < 0) = True := eq_true hb1
    refine ⟨?_⟩
    simp (config := { maxSteps := 4000000 }) only [↓sx0, ↓sx1, ↓sx2, ↓sx3, ↓sx4, ↓sx5, ↓sx6, sx0, sx1, sx2, sx3, sx4, sx5, sx6, tf9, ev3_hold, sxo, sxc, sxp, sxq, sxr, sxs, sxl, sxm, Int.reduceBEq, Int.reduceBNe, Int.reduceLT, Int.reduceLE, Int.reduceEq, Int.reduceGT, Int.reduceGE, Int.reduceToNat, ↓reduceIte, List.reduceReplicate, Nat.reduceAdd, Nat.reduceSub, Nat.reduceMul, Nat.reduceLT, Nat.reduceLeDiff, Nat.reduceBEq, Nat.reduceEqDiff, dn, hck, detR_eq, ica, e5, hti, hdi, e1]
    refine CallOb.pureH (fun w' hp => hwk _ w' hp) ?_
    rintro rW NW rfl
    refine ⟨?_⟩
    simp (config := { maxSteps := 4000000 }) only [↓sx0, ↓sx1, ↓sx2, ↓sx3, ↓sx4, ↓sx5, ↓sx6, sx0, sx1, sx2, sx3, sx4, sx5, sx6, tf9, ev3_hold, sxo, sxc, sxp, sxq, sxr, sxs, sxl, sxm, Int.reduceBEq, Int.reduceBNe, Int.reduceLT, Int.reduceLE, Int.reduceEq, Int.reduceGT, Int.reduceGE, Int.reduceToNat, ↓reduceIte, List.reduceReplicate, Nat.reduceAdd, Nat.reduceSub, Nat.reduceMul, Nat.reduceLT, Nat.reduceLeDiff, Nat.reduceBEq, Nat.reduceEqDiff]
  have e1 : (b < 0) = False := eq_false hb1
  by_cases hb2 : b ≥ g
  · have e2 : (b ≥ g) = True := eq_true hb2
    refine ⟨?_⟩
    simp (config := { maxSteps := 4000000 }) only [↓sx0, ↓sx1, ↓sx2, ↓sx3, ↓sx4, ↓sx5, ↓sx6, sx0, sx1, sx2, sx3, sx4, sx5, sx6, tf9, ev3_hold, sxo, sxc, sxp, sxq, sxr, sxs, sxl, sxm, Int.reduceBEq, Int.reduceBNe, Int.reduceLT, Int.reduceLE, Int.reduceEq, Int.reduceGT, Int.reduceGE, Int.reduceToNat, ↓reduceIte, List.reduceReplicate, Nat.reduceAdd, Nat.reduceSub, Nat.reduceMul, Nat.reduceLT, Nat.reduceLeDiff, Nat.reduceBEq, Nat.reduceEqDiff, dn, hck, detR_eq, ica, e5, hti, hdi, e1, e2]
    refine CallOb.pureH (fun w' hp => hwk _ w' hp) ?_
    rintro rW NW rfl
    refine ⟨?_⟩
    simp (config := { maxSteps := 4000000 }) only [↓sx0, ↓sx1, ↓sx2, ↓sx3, ↓sx4, ↓sx5, ↓sx6, sx0, sx1, sx2, sx3, sx4, sx5, sx6, tf9, ev3_hold, sxo, sxc, sxp, sxq, sxr, sxs, sxl, sxm, Int.reduceBEq, Int.reduceBNe, Int.reduceLT, Int.reduceLE, Int.reduceEq, Int.reduceGT, Int.reduceGE, Int.reduceToNat, ↓reduceIte, List.reduceReplicate, Nat.reduceAdd, Nat.reduceSub, Nat.reduceMul, Nat.reduceLT, Nat.reduceLeDiff, Nat.reduceBEq, Nat.reduceEqDiff]
  have e2 : (b ≥ g) = False := eq_false hb2
  by_cases hml : m.length = c.tide.length
  case neg =>
    have e3 : ((m.length : Int) = (nT : Int)) = False := eq_false (by omega)
    refine ⟨?_⟩
    simp (config := { maxSteps := 4000000 }) only [↓sx0, ↓sx1, ↓sx2, ↓sx3, ↓sx4, ↓sx5, ↓sx6, sx0, sx1, sx2, sx3, sx4, sx5, sx6, tf9, ev3_hold, sxo, sxc, sxp, sxq, sxr, sxs, sxl, sxm, Int.reduceBEq, Int.reduceBNe, Int.reduceLT, Int.reduceLE, Int.reduceEq, Int.reduceGT, Int.reduceGE, Int.reduceToNat, ↓reduceIte, List.reduceReplicate, Nat.reduceAdd, Nat.reduceSub, Nat.reduceMul, Nat.reduceLT, Nat.reduceLeDiff, Nat.reduceBEq, Nat.reduceEqDiff, dn, hck, detR_eq, ica, e5, hti, hdi, e1, e2, e3]
    refine CallOb.pureH (fun w' hp => hwk _ w' hp) ?_
    rintro rW NW rfl
    refine ⟨?_⟩
    simp (config := { maxSteps := 4000000 }) only [↓sx0, ↓sx1, ↓sx2, ↓sx3, ↓sx4, ↓sx5, ↓sx6, sx0, sx1, sx2, sx3, sx4, sx5, sx6, tf9, ev3_hold, sxo, sxc, sxp, sxq, sxr, sxs, sxl, sxm, Int.reduceBEq, Int.reduceBNe, Int.reduceLT, Int.reduceLE, Int.reduceEq, Int.reduceGT, Int.reduceGE, Int.reduceToNat, ↓reduceIte, List.reduceReplicate, Nat.reduceAdd, Nat.reduceSub, Nat.reduceMul, Nat.reduceLT, Nat.reduceLeDiff, Nat.reduceBEq, Nat.reduceEqDiff]
  have e3 : ((m.length : Int) = (nT : Int)) = True := eq_true (by omega)
  have ka := cell_of ha
  have kt := tick_of ht
  obtain ⟨A, hA, hAl⟩ := ka
  obtain ⟨T, hT, hTl⟩ := kt
  subst hA hT
  have hE1 : openE c [(A : Int)] [(T : Int)] [g] = 0 := openE_of hok' (by simp [ha]) (by simp [ht]) (by simp [hg])
  have hg100 : 1 ≤ g ∧ g ≤ 100 := by
    unfold notDraught at hg
    rw [Bool.not_eq_false', inB_iff] at hg
    exact hg
  have hg2 : notDraught (g - b) = false := by
    unfold notDraught
    rw [Bool.not_eq_false', inB_iff]
    omega
  refine ⟨?_⟩
  simp (config := { maxSteps := 4000000 }) only [↓sx0, ↓sx1, ↓sx2, ↓sx3, ↓sx4, ↓sx5, ↓sx6, sx0, sx1, sx2, sx3, sx4, sx5, sx6, tf9, ev3_hold, sxo, sxc, sxp, sxq, sxr, sxs, sxl, sxm, Int.reduceBEq, Int.reduceBNe, Int.reduceLT, Int.reduceLE, Int.reduceEq, Int.reduceGT, Int.reduceGE, Int.reduceToNat, ↓reduceIte, List.reduceReplicate, Nat.reduceAdd, Nat.reduceSub, Nat.reduceMul, Nat.reduceLT, Nat.reduceLeDiff, Nat.reduceBEq, Nat.reduceEqDiff, dn, hck, detR_eq, ica, e5, hti, hdi, e1, e2, e3]
  refine CallOb.pureH (fun w' hp => copy_fn w' _ c (hc0.hp hp) hf) ?_
  rintro r1 N1 ⟨x, y, z, rfl, hx, hy, hz⟩
  have gx := hx.shape
  have gz := hz.shape
  obtain ⟨adx, cx, rfl⟩ := gx
  obtain ⟨adz, cz, rfl⟩ := gz
  have hy0 := hy
  obtain ⟨ady, cy, rfl, hny, hyr⟩ := hy
  have hady : ∃ ad, ady = some ad := by
    cases ady with
    | none =>
      have := hny rfl
      rw [this] at hml
      have := hok'.2.2.2.1.1
      simp at hml
      rw [‹c.tide = []›] at this
      simp at this
    | some ad => exact ⟨ad, rfl⟩
  obtain ⟨ad, rfl⟩ := hady
  have hyr2 : HO.row (.slice (some ad) c.tide.length cy) 37 2 (cat spc c.tide) ∈ N1 := by
    rcases hyr with h | h
    · cases h
    · exact h
  obtain ⟨s1, u1, rfl⟩ := List.append_of_mem hyr2
  have hxs : ∀ r', Got (.slice adx c.depth.length cx) 3 1 i1 c.depth (s1 ++ r' :: u1) := fun r' => got_swap hx (by intro h; injection h with _ h2; exact absurd h2 (by decide))
  have hzs : ∀ r', Got (.slice adz c.swell.length cz) 3 1 i1 c.swell (s1 ++ r' :: u1) := fun r' => got_swap hz (by intro h; injection h with _ h2; exact absurd h2 (by decide))
  generalize hRR : (fun l : List (Int × Int) => HO.row (.slice (some ad) c.tide.length cy) 37 2 (cat spc l)) = RR
  have hRe : ∀ l, HO.row (.slice (some ad) c.tide.length cy) 37 2 (cat spc l) = RR l := fun l => by rw [← hRR]
  have hgm : ∀ s, s < m.length → m[s]? = some (mlo m s, mhi m s) := fun s hs => getD_at hs (0, 0)
  have hgt : ∀ s, s < c.tide.length → c.tide[s]? = some (c.tlo s, c.thi s) := fun s hs => getD_at hs (0, 0)
  rw [hRe]
  refine ⟨?_⟩
  simp (config := { maxSteps := 4000000 }) only [↓sx0, ↓sx1, ↓sx2, ↓sx3, ↓sx4, ↓sx5, ↓sx6, sx0, sx1, sx2, sx3, sx4, sx5, sx6, tf9, ev3_hold, sxo, sxc, sxp, sxq, sxr, sxs, sxl, sxm, Int.reduceBEq, Int.reduceBNe, Int.reduceLT, Int.reduceLE, Int.reduceEq, Int.reduceGT, Int.reduceGE, Int.reduceToNat, ↓reduceIte, List.reduceReplicate, Nat.reduceAdd, Nat.reduceSub, Nat.reduceMul, Nat.reduceLT, Nat.reduceLeDiff, Nat.reduceBEq, Nat.reduceEqDiff, dn]
  refine loop_constH (s1 ++ RR (mixT c m 0) :: u1) (HImp.sub (List.sublist_append_left _ _)) [(8, 8), (10, 10), (73, 126)] (fun s : Nat => [(10, I s)]) (fun s H1 => s ≤ m.length ∧ narrowTo c m s ∧ H1 = s1 ++ RR (mixT c m s) :: u1) (fun s => m.length - s) 0 ?_ ⟨Nat.zero_le _, fun s h => by omega, rfl⟩ ?_
  · simp (config := { maxSteps := 4000000 }) only [↓sx0, ↓sx1, ↓sx2, ↓sx3, ↓sx4, ↓sx5, ↓sx6, sx0, sx1, sx2, sx3, sx4, sx5, sx6, tf9, ev3_hold, sxo, sxc, sxp, sxq, sxr, sxs, sxl, sxm, Int.reduceBEq, Int.reduceBNe, Int.reduceLT, Int.reduceLE, Int.reduceEq, Int.reduceGT, Int.reduceGE, Int.reduceToNat, ↓reduceIte, List.reduceReplicate, Nat.reduceAdd, Nat.reduceSub, Nat.reduceMul, Nat.reduceLT, Nat.reduceLeDiff, Nat.reduceBEq, Nat.reduceEqDiff]
    simp
  rintro s H1 g1 ⟨hs, hnar, rfl⟩
  by_cases hsm2 : s = m.length
  case neg =>
    as_aux_lemma =>
    have e7 : ((s : Int) < (m.length : Int)) = True := eq_true (by omega)
    have e8 : IntKind.i64.wrap ((s : Int) + 1) = ((s + 1 : Nat) : Int) := (wrap_id (by omega)).trans (by omega)
    have hs1 := hgm s (by omega)
    have hs2 := hgt s (by omega)
    by_cases k1 : mlo m s < c.tlo s
    · have p1 : (mlo m s < c.tlo s) = True := eq_true k1
      refine ⟨?_⟩
      simp (config := { maxSteps := 4000000 }) only [↓sx0, ↓sx1, ↓sx2, ↓sx3, ↓sx4, ↓sx5, ↓sx6, sx0, sx1, sx2, sx3, sx4, sx5, sx6, tf9, ev3_hold, sxo, sxc, sxp, sxq, sxr, sxs, sxl, sxm, Int.reduceBEq, Int.reduceBNe, Int.reduceLT, Int.reduceLE, Int.reduceEq, Int.reduceGT, Int.reduceGE, Int.reduceToNat, ↓reduceIte, List.reduceReplicate, Nat.reduceAdd, Nat.reduceSub, Nat.reduceMul, Nat.reduceLT, Nat.reduceLeDiff, Nat.reduceBEq, Nat.reduceEqDiff, e7, dn]
      refine amid (at_f (hrM _) spc_len hs1 (o := 0) (x := I (mlo m s)) rfl fun ad1 => ?_)
      simp (config := { maxSteps := 4000000 }) only [↓sx0, ↓sx1, ↓sx2, ↓sx3, ↓sx4, ↓sx5, ↓sx6, sx0, sx1, sx2, sx3, sx4, sx5, sx6, tf9, ev3_hold, sxo, sxc, sxp, sxq, sxr, sxs, sxl, sxm, Int.reduceBEq, Int.reduceBNe, Int.reduceLT, Int.reduceLE, Int.reduceEq, Int.reduceGT, Int.reduceGE, Int.reduceToNat, ↓reduceIte, List.reduceReplicate, Nat.reduceAdd, Nat.reduceSub, Nat.reduceMul, Nat.reduceLT, Nat.reduceLeDiff, Nat.reduceBEq, Nat.reduceEqDiff]
      refine at_f (hrT _) spc_len hs2 (o := 0) (x := I (c.tlo s)) rfl fun ad2 => ?_
      simp (config := { maxSteps := 4000000 }) only [↓sx0, ↓sx1, ↓sx2, ↓sx3, ↓sx4, ↓sx5, ↓sx6, sx0, sx1, sx2, sx3, sx4, sx5, sx6, tf9, ev3_hold, sxo, sxc, sxp, sxq, sxr, sxs, sxl, sxm, Int.reduceBEq, Int.reduceBNe, Int.reduceLT, Int.reduceLE, Int.reduceEq, Int.reduceGT, Int.reduceGE, Int.reduceToNat, ↓reduceIte, List.reduceReplicate, Nat.reduceAdd, Nat.reduceSub, Nat.reduceMul, Nat.reduceLT, Nat.reduceLeDiff, Nat.reduceBEq, Nat.reduceEqDiff, p1, dn]
      refine CallOb.pureH (fun w' hp => hwk _ w' hp) ?_
      rintro rW NW rfl
      refine ⟨?_⟩
      simp (config := { maxSteps := 4000000 }) only [↓sx0, ↓sx1, ↓sx2, ↓sx3, ↓sx4, ↓sx5, ↓sx6, sx0, sx1, sx2, sx3, sx4, sx5, sx6, tf9, ev3_hold, sxo, sxc, sxp, sxq, sxr, sxs, sxl, sxm, Int.reduceBEq, Int.reduceBNe, Int.reduceLT, Int.reduceLE, Int.reduceEq, Int.reduceGT, Int.reduceGE, Int.reduceToNat, ↓reduceIte, List.reduceReplicate, Nat.reduceAdd, Nat.reduceSub, Nat.reduceMul, Nat.reduceLT, Nat.reduceLeDiff, Nat.reduceBEq, Nat.reduceEqDiff]
    have p1 : (mlo m s < c.tlo s) = False := eq_false k1
    by_cases k2 : mhi m s > c.thi s
    · have p2 : (mhi m s > c.thi s) = True := eq_true k2
      refine ⟨?_⟩
      simp (config := { maxSteps := 4000000 }) only [↓sx0, ↓sx1, ↓sx2, ↓sx3, ↓sx4, ↓sx5, ↓sx6, sx0, sx1, sx2, sx3, sx4, sx5, sx6, tf9, ev3_hold, sxo, sxc, sxp, sxq, sxr, sxs, sxl, sxm, Int.reduceBEq, Int.reduceBNe, Int.reduceLT, Int.reduceLE, Int.reduceEq, Int.reduceGT, Int.reduceGE, Int.reduceToNat, ↓reduceIte, List.reduceReplicate, Nat.reduceAdd, Nat.reduceSub, Nat.reduceMul, Nat.reduceLT, Nat.reduceLeDiff, Nat.reduceBEq, Nat.reduceEqDiff, e7, dn]
      refine amid (at_f (hrM _) spc_len hs1 (o := 0) (x := I (mlo m s)) rfl fun ad1 => ?_)
      simp (config := { maxSteps := 4000000 }) only [↓sx0, ↓sx1, ↓sx2, ↓sx3, ↓sx4, ↓sx5, ↓sx6, sx0, sx1, sx2, sx3, sx4, sx5, sx6, tf9, ev3_hold, sxo, sxc, sxp, sxq, sxr, sxs, sxl, sxm, Int.reduceBEq, Int.reduceBNe, Int.reduceLT, Int.reduceLE, Int.reduceEq, Int.reduceGT, Int.reduceGE, Int.reduceToNat, ↓reduceIte, List.reduceReplicate, Nat.reduceAdd, Nat.reduceSub, Nat.reduceMul, Nat.reduceLT, Nat.reduceLeDiff, Nat.reduceBEq, Nat.reduceEqDiff]
      refine at_f (hrT _) spc_len hs2 (o := 0) (x := I (c.tlo s)) rfl fun ad2 => ?_
      simp (config := { maxSteps := 4000000 }) only [↓sx0, ↓sx1, ↓sx2, ↓sx3, ↓sx4, ↓sx5, ↓sx6, sx0, sx1, sx2, sx3, sx4, sx5, sx6, tf9, ev3_hold, sxo, sxc, sxp, sxq, sxr, sxs, sxl, sxm, Int.reduceBEq, Int.reduceBNe, Int.reduceLT, Int.reduceLE, Int.reduceEq, Int.reduceGT, Int.reduceGE, Int.reduceToNat, ↓reduceIte, List.reduceReplicate, Nat.reduceAdd, Nat.reduceSub, Nat.reduceMul, Nat.reduceLT, Nat.reduceLeDiff, Nat.reduceBEq, Nat.reduceEqDiff, p1, e7]
      refine amid (at_f (hrM _) spc_len hs1 (o := 1) (x := I (mhi m s)) rfl fun ad3 => ?_)
      simp (config := { maxSteps := 4000000 }) only [↓sx0, ↓sx1, ↓sx2, ↓sx3, ↓sx4, ↓sx5, ↓sx6, sx0, sx1, sx2, sx3, sx4, sx5, sx6, tf9, ev3_hold, sxo, sxc, sxp, sxq, sxr, sxs, sxl, sxm, Int.reduceBEq, Int.reduceBNe, Int.reduceLT, Int.reduceLE, Int.reduceEq, Int.reduceGT, Int.reduceGE, Int.reduceToNat, ↓reduceIte, List.reduceReplicate, Nat.reduceAdd, Nat.reduceSub, Nat.reduceMul, Nat.reduceLT, Nat.reduceLeDiff, Nat.reduceBEq, Nat.reduceEqDiff]
      refine at_f (hrT _) spc_len hs2 (o := 1) (x := I (c.thi s)) rfl fun ad4 => ?_
      simp (config := { maxSteps := 4000000 }) only [↓sx0, ↓sx1, ↓sx2, ↓sx3, ↓sx4, ↓sx5, ↓sx6, sx0, sx1, sx2, sx3, sx4, sx5, sx6, tf9, ev3_hold, sxo, sxc, sxp, sxq, sxr, sxs, sxl, sxm, Int.reduceBEq, Int.reduceBNe, Int.reduceLT, Int.reduceLE, Int.reduceEq, Int.reduceGT, Int.reduceGE, Int.reduceToNat, ↓reduceIte, List.reduceReplicate, Nat.reduceAdd, Nat.reduceSub, Nat.reduceMul, Nat.reduceLT, Nat.reduceLeDiff, Nat.reduceBEq, Nat.reduceEqDiff, p2, dn]
      refine CallOb.pureH (fun w' hp => hwk _ w' hp) ?_
      rintro rW NW rfl
      refine ⟨?_⟩
      simp (config := { maxSteps := 4000000 }) only [↓sx0, ↓sx1, ↓sx2, ↓sx3, ↓sx4, ↓sx5, ↓sx6, sx0, sx1, sx2, sx3, sx4, sx5, sx6, tf9, ev3_hold, sxo, sxc, sxp, sxq, sxr, sxs, sxl, sxm, Int.reduceBEq, Int.reduceBNe, Int.reduceLT, Int.reduceLE, Int.reduceEq, Int.reduceGT, Int.reduceGE, Int.reduceToNat, ↓reduceIte, List.reduceReplicate, Nat.reduceAdd, Nat.reduceSub, Nat.reduceMul, Nat.reduceLT, Nat.reduceLeDiff, Nat.reduceBEq, Nat.reduceEqDiff]
    have p2 : (mhi m s > c.thi s) = False := eq_false k2
    by_cases k3 : mlo m s > mhi m s
    · have p3 : (mlo m s > mhi m s) = True := eq_true k3
      refine ⟨?_⟩
      simp (config := { maxSteps := 4000000 }) only [↓sx0, ↓sx1, ↓sx2, ↓sx3, ↓sx4, ↓sx5, ↓sx6, sx0, sx1, sx2, sx3, sx4, sx5, sx6, tf9, ev3_hold, sxo, sxc, sxp, sxq, sxr, sxs, sxl, sxm, Int.reduceBEq, Int.reduceBNe, Int.reduceLT, Int.reduceLE, Int.reduceEq, Int.reduceGT, Int.reduceGE, Int.reduceToNat, ↓reduceIte, List.reduceReplicate, Nat.reduceAdd, Nat.reduceSub, Nat.reduceMul, Nat.reduceLT, Nat.reduceLeDiff, Nat.reduceBEq, Nat.reduceEqDiff, e7, dn]
      refine amid (at_f (hrM _) spc_len hs1 (o := 0) (x := I (mlo m s)) rfl fun ad1 => ?_)
      simp (config := { maxSteps := 4000000 }) only [↓sx0, ↓sx1, ↓sx2, ↓sx3, ↓sx4, ↓sx5, ↓sx6, sx0, sx1, sx2, sx3, sx4, sx5, sx6, tf9, ev3_hold, sxo, sxc, sxp, sxq, sxr, sxs, sxl, sxm, Int.reduceBEq, Int.reduceBNe, Int.reduceLT, Int.reduceLE, Int.reduceEq, Int.reduceGT, Int.reduceGE, Int.reduceToNat, ↓reduceIte, List.reduceReplicate, Nat.reduceAdd, Nat.reduceSub, Nat.reduceMul, Nat.reduceLT, Nat.reduceLeDiff, Nat.reduceBEq, Nat.reduceEqDiff]
      refine at_f (hrT _) spc_len hs2 (o := 0) (x := I (c.tlo s)) rfl fun ad2 => ?_
      simp (config := { maxSteps := 4000000 }) only [↓sx0, ↓sx1, ↓sx2, ↓sx3, ↓sx4, ↓sx5, ↓sx6, sx0, sx1, sx2, sx3, sx4, sx5, sx6, tf9, ev3_hold, sxo, sxc, sxp, sxq, sxr, sxs, sxl, sxm, Int.reduceBEq, Int.reduceBNe, Int.reduceLT, Int.reduceLE, Int.reduceEq, Int.reduceGT, Int.reduceGE, Int.reduceToNat, ↓reduceIte, List.reduceReplicate, Nat.reduceAdd, Nat.reduceSub, Nat.reduceMul, Nat.reduceLT, Nat.reduceLeDiff, Nat.reduceBEq, Nat.reduceEqDiff, p1, e7]
      refine amid (at_f (hrM _) spc_len hs1 (o := 1) (x := I (mhi m s)) rfl fun ad3 => ?_)
      simp (config := { maxSteps := 4000000 }) only [↓sx0, ↓sx1, ↓sx2, ↓sx3, ↓sx4, ↓sx5, ↓sx6, sx0, sx1, sx2, sx3, sx4, sx5, sx6, tf9, ev3_hold, sxo, sxc, sxp, sxq, sxr, sxs, sxl, sxm, Int.reduceBEq, Int.reduceBNe, Int.reduceLT, Int.reduceLE, Int.reduceEq, Int.reduceGT, Int.reduceGE, Int.reduceToNat, ↓reduceIte, List.reduceReplicate, Nat.reduceAdd, Nat.reduceSub, Nat.reduceMul, Nat.reduceLT, Nat.reduceLeDiff, Nat.reduceBEq, Nat.reduceEqDiff]
      refine at_f (hrT _) spc_len hs2 (o := 1) (x := I (c.thi s)) rfl fun ad4 => ?_
      simp (config := { maxSteps := 4000000 }) only [↓sx0, ↓sx1, ↓sx2, ↓sx3, ↓sx4, ↓sx5, ↓sx6, sx0, sx1, sx2, sx3, sx4, sx5, sx6, tf9, ev3_hold, sxo, sxc, sxp, sxq, sxr, sxs, sxl, sxm, Int.reduceBEq, Int.reduceBNe, Int.reduceLT, Int.reduceLE, Int.reduceEq, Int.reduceGT, Int.reduceGE, Int.reduceToNat, ↓reduceIte, List.reduceReplicate, Nat.reduceAdd, Nat.reduceSub, Nat.reduceMul, Nat.reduceLT, Nat.reduceLeDiff, Nat.reduceBEq, Nat.reduceEqDiff, p2, e7]
      refine amid (at_f (hrM _) spc_len hs1 (o := 0) (x := I (mlo m s)) rfl fun ad5 => ?_)
      simp (config := { maxSteps := 4000000 }) only [↓sx0, ↓sx1, ↓sx2, ↓sx3, ↓sx4, ↓sx5, ↓sx6, sx0, sx1, sx2, sx3, sx4, sx5, sx6, tf9, ev3_hold, sxo, sxc, sxp, sxq, sxr, sxs, sxl, sxm, Int.reduceBEq, Int.reduceBNe, Int.reduceLT, Int.reduceLE, Int.reduceEq, Int.reduceGT, Int.reduceGE, Int.reduceToNat, ↓reduceIte, List.reduceReplicate, Nat.reduceAdd, Nat.reduceSub, Nat.reduceMul, Nat.reduceLT, Nat.reduceLeDiff, Nat.reduceBEq, Nat.reduceEqDiff, e7]
      refine amid (at_f (hrM _) spc_len hs1 (o := 1) (x := I (mhi m s)) rfl fun ad6 => ?_)
      simp (config := { maxSteps := 4000000 }) only [↓sx0, ↓sx1, ↓sx2, ↓sx3, ↓sx4, ↓sx5, ↓sx6, sx0, sx1, sx2, sx3, sx4, sx5, sx6, tf9, ev3_hold, sxo, sxc, sxp, sxq, sxr, sxs, sxl, sxm, Int.reduceBEq, Int.reduceBNe, Int.reduceLT, Int.reduceLE, Int.reduceEq, Int.reduceGT, Int.reduceGE, Int.reduceToNat, ↓reduceIte, List.reduceReplicate, Nat.reduceAdd, Nat.reduceSub, Nat.reduceMul, Nat.reduceLT, Nat.reduceLeDiff, Nat.reduceBEq, Nat.reduceEqDiff, p3, dn]
      refine CallOb.pureH (fun w' hp => hwk _ w' hp) ?_
      rintro rW NW rfl
      refine ⟨?_⟩
      simp (config := { maxSteps := 4000000 }) only [↓sx0, ↓sx1, ↓sx2, ↓sx3, ↓sx4, ↓sx5, ↓sx6, sx0, sx1, sx2, sx3, sx4, sx5, sx6, tf9, ev3_hold, sxo, sxc, sxp, sxq, sxr, sxs, sxl, sxm, Int.reduceBEq, Int.reduceBNe, Int.reduceLT, Int.reduceLE, Int.reduceEq, Int.reduceGT, Int.reduceGE, Int.reduceToNat, ↓reduceIte, List.reduceReplicate, Nat.reduceAdd, Nat.reduceSub, Nat.reduceMul, Nat.reduceLT, Nat.reduceLeDiff, Nat.reduceBEq, Nat.reduceEqDiff]
    have p3 : (mlo m s > mhi m s) = False := eq_false k3
    have e9 : ((s : Int) < (c.tide.length : Int)) = True := eq_true (by omega)
    refine ⟨?_⟩
    simp (config := { maxSteps := 4000000 }) only [↓sx0, ↓sx1, ↓sx2, ↓sx3, ↓sx4, ↓sx5, ↓sx6, sx0, sx1, sx2, sx3, sx4, sx5, sx6, tf9, ev3_hold, sxo, sxc, sxp, sxq, sxr, sxs, sxl, sxm, Int.reduceBEq, Int.reduceBNe, Int.reduceLT, Int.reduceLE, Int.reduceEq, Int.reduceGT, Int.reduceGE, Int.reduceToNat, ↓reduceIte, List.reduceReplicate, Nat.reduceAdd, Nat.reduceSub, Nat.reduceMul, Nat.reduceLT, Nat.reduceLeDiff, Nat.reduceBEq, Nat.reduceEqDiff, e7, dn]
    refine amid (at_f (hrM _) spc_len hs1 (o := 0) (x := I (mlo m s)) rfl fun ad1 => ?_)
    simp (config := { maxSteps := 4000000 }) only [↓sx0, ↓sx1, ↓sx2, ↓sx3, ↓sx4, ↓sx5, ↓sx6, sx0, sx1, sx2, sx3, sx4, sx5, sx6, tf9, ev3_hold, sxo, sxc, sxp, sxq, sxr, sxs, sxl, sxm, Int.reduceBEq, Int.reduceBNe, Int.reduceLT, Int.reduceLE, Int.reduceEq, Int.reduceGT, Int.reduceGE, Int.reduceToNat, ↓reduceIte, List.reduceReplicate, Nat.reduceAdd, Nat.reduceSub, Nat.reduceMul, Nat.reduceLT, Nat.reduceLeDiff, Nat.reduceBEq, Nat.reduceEqDiff]
    refine at_f (hrT _) spc_len hs2 (o := 0) (x := I (c.tlo s)) rfl fun ad2 => ?_
    simp (config := { maxSteps := 4000000 }) only [↓sx0, ↓sx1, ↓sx2, ↓sx3, ↓sx4, ↓sx5, ↓sx6, sx0, sx1, sx2, sx3, sx4, sx5, sx6, tf9, ev3_hold, sxo, sxc, sxp, sxq, sxr, sxs, sxl, sxm, Int.reduceBEq, Int.reduceBNe, Int.reduceLT, Int.reduceLE, Int.reduceEq, Int.reduceGT, Int.reduceGE, Int.reduceToNat, ↓reduceIte, List.reduceReplicate, Nat.reduceAdd, Nat.reduceSub, Nat.reduceMul, Nat.reduceLT, Nat.reduceLeDiff, Nat.reduceBEq, Nat.reduceEqDiff, p1, e7]
    refine amid (at_f (hrM _) spc_len hs1 (o := 1) (x := I (mhi m s)) rfl fun ad3 => ?_)
    simp (config := { maxSteps := 4000000 }) only [↓sx0, ↓sx1, ↓sx2, ↓sx3, ↓sx4, ↓sx5, ↓sx6, sx0, sx1, sx2, sx3, sx4, sx5, sx6, tf9, ev3_hold, sxo, sxc, sxp, sxq, sxr, sxs, sxl, sxm, Int.reduceBEq, Int.reduceBNe, Int.reduceLT, Int.reduceLE, Int.reduceEq, Int.reduceGT, Int.reduceGE, Int.reduceToNat, ↓reduceIte, List.reduceReplicate, Nat.reduceAdd, Nat.reduceSub, Nat.reduceMul, Nat.reduceLT, Nat.reduceLeDiff, Nat.reduceBEq, Nat.reduceEqDiff]
    refine at_f (hrT _) spc_len hs2 (o := 1) (x := I (c.thi s)) rfl fun ad4 => ?_
    simp (config := { maxSteps := 4000000 }) only [↓sx0, ↓sx1, ↓sx2, ↓sx3, ↓sx4, ↓sx5, ↓sx6, sx0, sx1, sx2, sx3, sx4, sx5, sx6, tf9, ev3_hold, sxo, sxc, sxp, sxq, sxr, sxs, sxl, sxm, Int.reduceBEq, Int.reduceBNe, Int.reduceLT, Int.reduceLE, Int.reduceEq, Int.reduceGT, Int.reduceGE, Int.reduceToNat, ↓reduceIte, List.reduceReplicate, Nat.reduceAdd, Nat.reduceSub, Nat.reduceMul, Nat.reduceLT, Nat.reduceLeDiff, Nat.reduceBEq, Nat.reduceEqDiff, p2, e7]
    refine amid (at_f (hrM _) spc_len hs1 (o := 0) (x := I (mlo m s)) rfl fun ad5 => ?_)
    simp (config := { maxSteps := 4000000 }) only [↓sx0, ↓sx1, ↓sx2, ↓sx3, ↓sx4, ↓sx5, ↓sx6, sx0, sx1, sx2, sx3, sx4, sx5, sx6, tf9, ev3_hold, sxo, sxc, sxp, sxq, sxr, sxs, sxl, sxm, Int.reduceBEq, Int.reduceBNe, Int.reduceLT, Int.reduceLE, Int.reduceEq, Int.reduceGT, Int.reduceGE, Int.reduceToNat, ↓reduceIte, List.reduceReplicate, Nat.reduceAdd, Nat.reduceSub, Nat.reduceMul, Nat.reduceLT, Nat.reduceLeDiff, Nat.reduceBEq, Nat.reduceEqDiff, e7]
    refine amid (at_f (hrM _) spc_len hs1 (o := 1) (x := I (mhi m s)) rfl fun ad6 => ?_)
    simp (config := { maxSteps := 4000000 }) only [↓sx0, ↓sx1, ↓sx2, ↓sx3, ↓sx4, ↓sx5, ↓sx6, sx0, sx1, sx2, sx3, sx4, sx5, sx6, tf9, ev3_hold, sxo, sxc, sxp, sxq, sxr, sxs, sxl, sxm, Int.reduceBEq, Int.reduceBNe, Int.reduceLT, Int.reduceLE, Int.reduceEq, Int.reduceGT, Int.reduceGE, Int.reduceToNat, ↓reduceIte, List.reduceReplicate, Nat.reduceAdd, Nat.reduceSub, Nat.reduceMul, Nat.reduceLT, Nat.reduceLeDiff, Nat.reduceBEq, Nat.reduceEqDiff, p3, e7, e9]
    refine amid (at_n (hrM _) spc_len (by omega) hs1 fun ad7 => ?_)
    simp (config := { maxSteps := 4000000 }) only [↓sx0, ↓sx1, ↓sx2, ↓sx3, ↓sx4, ↓sx5, ↓sx6, sx0, sx1, sx2, sx3, sx4, sx5, sx6, tf9, ev3_hold, sxo, sxc, sxp, sxq, sxr, sxs, sxl, sxm, Int.reduceBEq, Int.reduceBNe, Int.reduceLT, Int.reduceLE, Int.reduceEq, Int.reduceGT, Int.reduceGE, Int.reduceToNat, ↓reduceIte, List.reduceReplicate, Nat.reduceAdd, Nat.reduceSub, Nat.reduceMul, Nat.reduceLT, Nat.reduceLeDiff, Nat.reduceBEq, Nat.reduceEqDiff, e9, spc]
    refine ⟨by omega, _, rfl, ?_⟩
    rw [← hRe]
    refine wr_at (A := s1) (B := u1) (f := spc) (l := mixT c m s) (k := s) (u := (mlo m s, mhi m s)) rfl spc_len (mixT_len hml hs) (by rw [mixT_len hml hs]; omega) ?_
    simp (config := { maxSteps := 4000000 }) only [↓sx0, ↓sx1, ↓sx2, ↓sx3, ↓sx4, ↓sx5, ↓sx6, sx0, sx1, sx2, sx3, sx4, sx5, sx6, tf9, ev3_hold, sxo, sxc, sxp, sxq, sxr, sxs, sxl, sxm, Int.reduceBEq, Int.reduceBNe, Int.reduceLT, Int.reduceLE, Int.reduceEq, Int.reduceGT, Int.reduceGE, Int.reduceToNat, ↓reduceIte, List.reduceReplicate, Nat.reduceAdd, Nat.reduceSub, Nat.reduceMul, Nat.reduceLT, Nat.reduceLeDiff, Nat.reduceBEq, Nat.reduceEqDiff, e8]
    refine ⟨s + 1, _, rfl, HImp.refl _ _, ⟨by omega, fun j hj => ?_, ?_⟩, by omega⟩
    · by_cases h : j < s
      · exact hnar j h
      · rw [show j = s by omega]
        omega
    · rw [← mixT_succ hml (by omega), hRe]
      rfl
  subst hsm2
  have e7 : ((m.length : Int) < (m.length : Int)) = False := eq_false (by omega)
  have hmx := mixT_end hml
  rw [hmx]
  have e10 : IntKind.i64.wrap (g - b) = g - b := wrap_id (by omega)
  have hok2 := withT_ok hok' hml hnar
  have hE2 : openE (c.withT m) [(A : Int)] [(T : Int)] [g - b] = 0 := openE_of hok2 (fun x hx => by rw [List.mem_singleton] at hx; subst hx; exact ha) (by
    have : notTick (c.withT m) T = notTick c T := by
      show (!inB (T : Int) 0 ((m.length : Int) - 1)) = (!inB (T : Int) 0 ((c.tide.length : Int) - 1))
      rw [hml]
    simp [this, ht]) (by simp [hg2])
  have hqv : ∀ (H : List HO) w', (∀ h ∈ s1 ++ RR m :: u1, h ∈ H) → Hp ⟨w, fun _ => False⟩ H w' → ChOk w' (.agg #[I c.wide, I c.high, .slice adx c.depth.length cx, .slice (some ad) c.tide.length cy, .slice adz c.swell.length cz]) (c.withT m) := fun H w' hm' hp =>
    ⟨_, _, _, rfl, (hxs (RR m)).hp hm' hp, by
      have h1 : HO.row (.slice (some ad) c.tide.length cy) 37 2 (cat spc m) ∈ H := hm' _ (by rw [hRe]; simp)
      exact row_hp h1 hp, (hzs (RR m)).hp hm' hp⟩
  have hsm3 : (c.withT m).small := ⟨hsm.1, by show m.length ≤ 100; rw [hml]; exact hsm.2.1, hsm.2.2⟩
  have hmono := fun i (hi : i < c.depth.length) => arr_less hok' hml hnar (g := g) (b := b) (T := T) (by omega) hAl hi
  refine ⟨?_⟩
  simp (config := { maxSteps := 4000000 }) only [↓sx0, ↓sx1, ↓sx2, ↓sx3, ↓sx4, ↓sx5, ↓sx6, sx0, sx1, sx2, sx3, sx4, sx5, sx6, tf9, ev3_hold, sxo, sxc, sxp, sxq, sxr, sxs, sxl, sxm, Int.reduceBEq, Int.reduceBNe, Int.reduceLT, Int.reduceLE, Int.reduceEq, Int.reduceGT, Int.reduceGE, Int.reduceToNat, ↓reduceIte, List.reduceReplicate, Nat.reduceAdd, Nat.reduceSub, Nat.reduceMul, Nat.reduceLT, Nat.reduceLeDiff, Nat.reduceBEq, Nat.reduceEqDiff, e7, dn]
  refine CallOb.pureH (fun w' hp => arrive_fn w' (hw.hp hp) _ c (hc0.hp hp) hsm g A T) ?_
  rintro r2 N2 (⟨h, _⟩ | ⟨_, x2, rfl, hN2⟩)
  · exact absurd hE1 h
  refine ⟨?_⟩
  simp (config := { maxSteps := 4000000 }) only [↓sx0, ↓sx1, ↓sx2, ↓sx3, ↓sx4, ↓sx5, ↓sx6, sx0, sx1, sx2, sx3, sx4, sx5, sx6, tf9, ev3_hold, sxo, sxc, sxp, sxq, sxr, sxs, sxl, sxm, Int.reduceBEq, Int.reduceBNe, Int.reduceLT, Int.reduceLE, Int.reduceEq, Int.reduceGT, Int.reduceGE, Int.reduceToNat, ↓reduceIte, List.reduceReplicate, Nat.reduceAdd, Nat.reduceSub, Nat.reduceMul, Nat.reduceLT, Nat.reduceLeDiff, Nat.reduceBEq, Nat.reduceEqDiff, dn, e10]
  refine CallOb.pureH (fun w' hp => arriveT_fn w' (hw.hp hp) _ c m hml (hqv _ w' (fun h hh => List.mem_append_right _ hh) hp) hsm (g - b) A T hE2) ?_
  rintro r3 N3 ⟨x3, rfl, hN3⟩
  simp only [Int.toNat_natCast] at hN2
  have hL1 := arrL_len c g A T (c.tide.length - T)
  have hL2 : (arrL (c.withT m) (g - b) A T (c.tide.length - T)).length = c.depth.length := arrL_len ..
  generalize arrL c g A T (c.tide.length - T) = L at hN2 hmono hL1
  generalize arrL (c.withT m) (g - b) A T (c.tide.length - T) = L2 at hN3 hmono hL2
  have hrd : ∀ x (o : List Int), o.length = c.depth.length → ∀ G, HO.row (.slice (some ⟨x, 0, none⟩) c.depth.length c.depth.length) 3 1 (ints o) ∈ G → Rdv ⟨w, fun _ => False⟩ G (.slice (some ⟨x, 0, none⟩) c.depth.length c.depth.length) 1 (ints o) := fun x o ho G hG =>
    row_rdv (E := 3) hG ⟨_, _, _, rfl, by rw [cat_len i1_len, ho], fun h => by cases h⟩
  refine ⟨?_⟩
  simp (config := { maxSteps := 4000000 }) only [↓sx0, ↓sx1, ↓sx2, ↓sx3, ↓sx4, ↓sx5, ↓sx6, sx0, sx1, sx2, sx3, sx4, sx5, sx6, tf9, ev3_hold, sxo, sxc, sxp, sxq, sxr, sxs, sxl, sxm, Int.reduceBEq, Int.reduceBNe, Int.reduceLT, Int.reduceLE, Int.reduceEq, Int.reduceGT, Int.reduceGE, Int.reduceToNat, ↓reduceIte, List.reduceReplicate, Nat.reduceAdd, Nat.reduceSub, Nat.reduceMul, Nat.reduceLT, Nat.reduceLeDiff, Nat.reduceBEq, Nat.reduceEqDiff, dn, detR_eq, e6]
  refine loop_constH (N3 ++ (N2 ++ (s1 ++ RR m :: u1))) (HImp.refl _ _) [(8, 8), (15, 24), (171, 268)] (fun k : Nat => [(15, I k)]) (fun k H1 => k ≤ c.depth.length ∧ H1 = N3 ++ (N2 ++ (s1 ++ RR m :: u1))) (fun k => c.depth.length - k) 0 ?_ ⟨Nat.zero_le _, rfl⟩ ?_
  · simp (config := { maxSteps := 4000000 }) only [↓sx0, ↓sx1, ↓sx2, ↓sx3, ↓sx4, ↓sx5, ↓sx6, sx0, sx1, sx2, sx3, sx4, sx5, sx6, tf9, ev3_hold, sxo, sxc, sxp, sxq, sxr, sxs, sxl, sxm, Int.reduceBEq, Int.reduceBNe, Int.reduceLT, Int.reduceLE, Int.reduceEq, Int.reduceGT, Int.reduceGE, Int.reduceToNat, ↓reduceIte, List.reduceReplicate, Nat.reduceAdd, Nat.reduceSub, Nat.reduceMul, Nat.reduceLT, Nat.reduceLeDiff, Nat.reduceBEq, Nat.reduceEqDiff]
    simp
  · rintro k H1 gg ⟨hk, rfl⟩
    by_cases hkn : k = c.depth.length
    · have f7 : ((k : Int) < (c.depth.length : Int)) = False := eq_false (by omega)
      refine ⟨?_⟩
      simp (config := { maxSteps := 4000000 }) only [↓sx0, ↓sx1, ↓sx2, ↓sx3, ↓sx4, ↓sx5, ↓sx6, sx0, sx1, sx2, sx3, sx4, sx5, sx6, tf9, ev3_hold, sxo, sxc, sxp, sxq, sxr, sxs, sxl, sxm, Int.reduceBEq, Int.reduceBNe, Int.reduceLT, Int.reduceLE, Int.reduceEq, Int.reduceGT, Int.reduceGE, Int.reduceToNat, ↓reduceIte, List.reduceReplicate, Nat.reduceAdd, Nat.reduceSub, Nat.reduceMul, Nat.reduceLT, Nat.reduceLeDiff, Nat.reduceBEq, Nat.reduceEqDiff, f7, dn]
      refine CallOb.pureH (fun w' hp => hwk _ w' hp) ?_
      rintro rW NW rfl
      refine ⟨?_⟩
      simp (config := { maxSteps := 4000000 }) only [↓sx0, ↓sx1, ↓sx2, ↓sx3, ↓sx4, ↓sx5, ↓sx6, sx0, sx1, sx2, sx3, sx4, sx5, sx6, tf9, ev3_hold, sxo, sxc, sxp, sxq, sxr, sxs, sxl, sxm, Int.reduceBEq, Int.reduceBNe, Int.reduceLT, Int.reduceLE, Int.reduceEq, Int.reduceGT, Int.reduceGE, Int.reduceToNat, ↓reduceIte, List.reduceReplicate, Nat.reduceAdd, Nat.reduceSub, Nat.reduceMul, Nat.reduceLT, Nat.reduceLeDiff, Nat.reduceBEq, Nat.reduceEqDiff]
    have f7 : ((k : Int) < (c.depth.length : Int)) = True := eq_true (by omega)
    have f8 : IntKind.i64.wrap ((k : Int) + 1) = ((k + 1 : Nat) : Int) := (wrap_id (by omega)).trans (by omega)
    have hmk := hmono k (by omega)
    have v1 := floatsV_ok hok' (g := g) (show k < c.depth.length by omega) hTl hg
    have v2 := floatsV_ok hok' (g := g - b) (show k < c.depth.length by omega) hTl hg2
    have v3 := floatsV_ok hok2 (g := g) (k := k) (t := T) (show k < c.depth.length by omega) (show T < m.length by omega) hg
    have hnT' := hnar T (by omega)
    have q1 : decide (c.over k T (c.tlo T) ≥ g) = true → decide (c.over k T (c.thi T) ≥ g) = true ∧ decide (c.over k T (c.tlo T) ≥ g - b) = true ∧ decide ((c.withT m).over k T ((c.withT m).tlo T) ≥ g) = true := fun h => by
      have h1 := of_decide_eq_true h
      have h2 := (hok'.bds (show k < c.depth.length by omega) hTl).2.2.2
      refine ⟨decide_eq_true ?_, decide_eq_true ?_, decide_eq_true ?_⟩
      · unfold Cht.over at h1 ⊢
        omega
      · omega
      · change c.dep k + mlo m T - c.swl T ≥ g
        unfold Cht.over at h1
        omega
    have q2 : decide ((c.withT m).over k T ((c.withT m).thi T) ≥ g) = true → decide (c.over k T (c.thi T) ≥ g) = true := fun h => by
      have h1 := of_decide_eq_true h
      change c.dep k + mhi m T - c.swl T ≥ g at h1
      refine decide_eq_true ?_
      unfold Cht.over
      omega
    generalize decide (c.over k T (c.tlo T) ≥ g) = b1 at v1 q1
    generalize decide (c.over k T (c.thi T) ≥ g) = b2 at v1 q1 q2
    generalize decide (c.over k T (c.tlo T) ≥ g - b) = b3 at v2 q1
    generalize decide (c.over k T (c.thi T) ≥ g - b) = b4 at v2
    generalize decide ((c.withT m).over k T ((c.withT m).tlo T) ≥ g) = b5 at v3 q1
    generalize decide ((c.withT m).over k T ((c.withT m).thi T) ≥ g) = b6 at v3 q2
    refine ⟨?_⟩
    simp (config := { maxSteps := 4000000 }) only [↓sx0, ↓sx1, ↓sx2, ↓sx3, ↓sx4, ↓sx5, ↓sx6, sx0, sx1, sx2, sx3, sx4, sx5, sx6, tf9, ev3_hold, sxo, sxc, sxp, sxq, sxr, sxs, sxl, sxm, Int.reduceBEq, Int.reduceBNe, Int.reduceLT, Int.reduceLE, Int.reduceEq, Int.reduceGT, Int.reduceGE, Int.reduceToNat, ↓reduceIte, List.reduceReplicate, Nat.reduceAdd, Nat.reduceSub, Nat.reduceMul, Nat.reduceLT, Nat.reduceLeDiff, Nat.reduceBEq, Nat.reduceEqDiff, f7, dn]
    refine CallOb.pureH (fun w' hp => floats1_fn w' _ c (hc0.hp hp) hsm g k T) ?_
    intro r4 N4 h4
    rw [v1] at h4
    subst h4
    refine ⟨?_⟩
    simp (config := { maxSteps := 4000000 }) only [↓sx0, ↓sx1, ↓sx2, ↓sx3, ↓sx4, ↓sx5, ↓sx6, sx0, sx1, sx2, sx3, sx4, sx5, sx6, tf9, ev3_hold, sxo, sxc, sxp, sxq, sxr, sxs, sxl, sxm, Int.reduceBEq, Int.reduceBNe, Int.reduceLT, Int.reduceLE, Int.reduceEq, Int.reduceGT, Int.reduceGE, Int.reduceToNat, ↓reduceIte, List.reduceReplicate, Nat.reduceAdd, Nat.reduceSub, Nat.reduceMul, Nat.reduceLT, Nat.reduceLeDiff, Nat.reduceBEq, Nat.reduceEqDiff, dn, e10]
    refine CallOb.pureH (fun w' hp => floats1_fn w' _ c (hc0.hp hp) hsm (g - b) k T) ?_
    intro r5 N5 h5
    rw [v2] at h5
    subst h5
    refine ⟨?_⟩
    simp (config := { maxSteps := 4000000 }) only [↓sx0, ↓sx1, ↓sx2, ↓sx3, ↓sx4, ↓sx5, ↓sx6, sx0, sx1, sx2, sx3, sx4, sx5, sx6, tf9, ev3_hold, sxo, sxc, sxp, sxq, sxr, sxs, sxl, sxm, Int.reduceBEq, Int.reduceBNe, Int.reduceLT, Int.reduceLE, Int.reduceEq, Int.reduceGT, Int.reduceGE, Int.reduceToNat, ↓reduceIte, List.reduceReplicate, Nat.reduceAdd, Nat.reduceSub, Nat.reduceMul, Nat.reduceLT, Nat.reduceLeDiff, Nat.reduceBEq, Nat.reduceEqDiff, dn]
    refine CallOb.pureH (fun w' hp => floats1_fn w' _ (c.withT m) (hqv _ w' (fun h hh => List.mem_append_right _ (List.mem_append_right _ (List.mem_append_right _ (List.mem_append_right _ hh)))) hp) hsm3 g k T) ?_
    intro r6 N6 h6
    rw [v3] at h6
    subst h6
    have hu1 : L[k]? = some (lv L k) := getD_at (by omega) 0
    have hu2 : L2[k]? = some (lv L2 k) := getD_at (by omega) 0
    have hr1 := hrd x2 L hL1 (N6 ++ (N5 ++ (N4 ++ (N3 ++ (N2 ++ (s1 ++ RR m :: u1)))))) (List.mem_append_right _ (List.mem_append_right _ (List.mem_append_right _ (List.mem_append_right _ (List.mem_append_left _ hN2)))))
    have hr2 := hrd x3 L2 hL2 (N6 ++ (N5 ++ (N4 ++ (N3 ++ (N2 ++ (s1 ++ RR m :: u1)))))) (List.mem_append_right _ (List.mem_append_right _ (List.mem_append_right _ (List.mem_append_left _ hN3))))
    have h7 := four_ways q1 q2
    clear q1 q2
    rcases h7 with ⟨rfl, rfl, rfl, rfl, rfl⟩ | ⟨rfl, rfl, rfl, rfl, rfl⟩ | ⟨rfl, rfl, rfl⟩ | ⟨rfl, rfl⟩
    all_goals
      as_aux_lemma =>
        refine ⟨?_⟩
        simp (config := { maxSteps := 4000000 }) only [↓sx0, ↓sx1, ↓sx2, ↓sx3, ↓sx4, ↓sx5, ↓sx6, sx0, sx1, sx2, sx3, sx4, sx5, sx6, tf9, ev3_hold, sxo, sxc, sxp, sxq, sxr, sxs, sxl, sxm, Int.reduceBEq, Int.reduceBNe, Int.reduceLT, Int.reduceLE, Int.reduceEq, Int.reduceGT, Int.reduceGE, Int.reduceToNat, ↓reduceIte, List.reduceReplicate, Nat.reduceAdd, Nat.reduceSub, Nat.reduceMul, Nat.reduceLT, Nat.reduceLeDiff, Nat.reduceBEq, Nat.reduceEqDiff, f7, dn]
        refine amid (at_1 hr1 i1_len hu1 rfl fun ad1 => ?_)
        by_cases hL0 : lv L k ≥ 0
        · have p1 : (lv L k ≥ 0) = True := eq_true hL0
          have hq := hmk hL0
          have p2 : (lv L2 k < 0) = False := eq_false (by omega)
          have p3 : (lv L2 k > lv L k) = False := eq_false (by omega)
          simp (config := { maxSteps := 4000000 }) only [↓sx0, ↓sx1, ↓sx2, ↓sx3, ↓sx4, ↓sx5, ↓sx6, sx0, sx1, sx2, sx3, sx4, sx5, sx6, tf9, ev3_hold, sxo, sxc, sxp, sxq, sxr, sxs, sxl, sxm, Int.reduceBEq, Int.reduceBNe, Int.reduceLT, Int.reduceLE, Int.reduceEq, Int.reduceGT, Int.reduceGE, Int.reduceToNat, ↓reduceIte, List.reduceReplicate, Nat.reduceAdd, Nat.reduceSub, Nat.reduceMul, Nat.reduceLT, Nat.reduceLeDiff, Nat.reduceBEq, Nat.reduceEqDiff, p1, f7]
          refine amid (at_1 hr2 i1_len hu2 rfl fun ad2 => ?_)
          simp (config := { maxSteps := 4000000 }) only [↓sx0, ↓sx1, ↓sx2, ↓sx3, ↓sx4, ↓sx5, ↓sx6, sx0, sx1, sx2, sx3, sx4, sx5, sx6, tf9, ev3_hold, sxo, sxc, sxp, sxq, sxr, sxs, sxl, sxm, Int.reduceBEq, Int.reduceBNe, Int.reduceLT, Int.reduceLE, Int.reduceEq, Int.reduceGT, Int.reduceGE, Int.reduceToNat, ↓reduceIte, List.reduceReplicate, Nat.reduceAdd, Nat.reduceSub, Nat.reduceMul, Nat.reduceLT, Nat.reduceLeDiff, Nat.reduceBEq, Nat.reduceEqDiff, p2, f7]
          refine amid (at_1 hr2 i1_len hu2 rfl fun ad3 => ?_)
          simp (config := { maxSteps := 4000000 }) only [↓sx0, ↓sx1, ↓sx2, ↓sx3, ↓sx4, ↓sx5, ↓sx6, sx0, sx1, sx2, sx3, sx4, sx5, sx6, tf9, ev3_hold, sxo, sxc, sxp, sxq, sxr, sxs, sxl, sxm, Int.reduceBEq, Int.reduceBNe, Int.reduceLT, Int.reduceLE, Int.reduceEq, Int.reduceGT, Int.reduceGE, Int.reduceToNat, ↓reduceIte, List.reduceReplicate, Nat.reduceAdd, Nat.reduceSub, Nat.reduceMul, Nat.reduceLT, Nat.reduceLeDiff, Nat.reduceBEq, Nat.reduceEqDiff, f7]
          refine amid (at_1 hr1 i1_len hu1 rfl fun ad4 => ?_)
          simp (config := { maxSteps := 4000000 }) only [↓sx0, ↓sx1, ↓sx2, ↓sx3, ↓sx4, ↓sx5, ↓sx6, sx0, sx1, sx2, sx3, sx4, sx5, sx6, tf9, ev3_hold, sxo, sxc, sxp, sxq, sxr, sxs, sxl, sxm, Int.reduceBEq, Int.reduceBNe, Int.reduceLT, Int.reduceLE, Int.reduceEq, Int.reduceGT, Int.reduceGE, Int.reduceToNat, ↓reduceIte, List.reduceReplicate, Nat.reduceAdd, Nat.reduceSub, Nat.reduceMul, Nat.reduceLT, Nat.reduceLeDiff, Nat.reduceBEq, Nat.reduceEqDiff, p3, f8]
          exact ⟨k + 1, _, rfl, (HImp.app _ _ _).trans ((HImp.app _ _ _).trans (HImp.app _ _ _)), ⟨by omega, rfl⟩, by omega⟩
        · have p1 : (lv L k ≥ 0) = False := eq_false hL0
          simp (config := { maxSteps := 4000000 }) only [↓sx0, ↓sx1, ↓sx2, ↓sx3, ↓sx4, ↓sx5, ↓sx6, sx0, sx1, sx2, sx3, sx4, sx5, sx6, tf9, ev3_hold, sxo, sxc, sxp, sxq, sxr, sxs, sxl, sxm, Int.reduceBEq, Int.reduceBNe, Int.reduceLT, Int.reduceLE, Int.reduceEq, Int.reduceGT, Int.reduceGE, Int.reduceToNat, ↓reduceIte, List.reduceReplicate, Nat.reduceAdd, Nat.reduceSub, Nat.reduceMul, Nat.reduceLT, Nat.reduceLeDiff, Nat.reduceBEq, Nat.reduceEqDiff, p1, f8]
          exact ⟨k + 1, _, rfl, (HImp.app _ _ _).trans ((HImp.app _ _ _).trans (HImp.app _ _ _)), ⟨by omega, rfl⟩, by omega⟩

end Go.Proofs.YtcnjhgnlcnmagaaDoor
