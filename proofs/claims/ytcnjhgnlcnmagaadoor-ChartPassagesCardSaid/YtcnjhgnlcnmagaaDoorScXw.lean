/- A part of a proof: the symbolic walk and what it shows of single functions. -/
import Derived.Test.YtcnjhgnlcnmagaaDoorC8
import Derived.Test.YtcnjhgnlcnmagaaDoorC8
set_option linter.all false
namespace Go.Proofs.YtcnjhgnlcnmagaaDoor
open Go.RowKit Go.SX
set_option maxRecDepth 20000
set_option maxHeartbeats 8000000
set_option linter.unusedSimpArgs false
set_option linter.unusedVariables false

/-! ### Results that are lists with an error: one shape for both texts -/

/-- A result: a list and an error. -/
def LE (r : Value) (N : List HO) (l : List Int) (e : Int) : Prop := ∃ x, r = .tuple #[x, I e] ∧ Got x 3 1 i1 l N

theorem LE_nil (e : Int) (N : List HO) : LE (.tuple #[.slice none 0 0, I e]) N [] e := ⟨_, rfl, Got.nil N⟩

noncomputable def arE (c : Cht) (g a t : Int) : Int := openE c [a] [t] [g]
noncomputable def arS (c : Cht) (g a t : Int) : List Int := if openE c [a] [t] [g] = 0 then arrL c g a.toNat t.toNat (c.tide.length - t.toNat) else []
noncomputable def deS (c : Cht) (g a t : Int) : List Int := if openE c [a] [t] [g] = 0 then depL c g a.toNat t.toNat (t.toNat + 1) else []
noncomputable def mvE (c : Cht) (g a t u : Int) : Int := openE c [a] [t, u] [g]
noncomputable def mvS (c : Cht) (g a t u : Int) : List Int := if openE c [a] [t, u] [g] = 0 then mvR c g a.toNat t u else []

theorem arrive_le (w : World) (hw : Ways w) (v : Value) (c : Cht) (hc : ChOk w v c) (hsm : c.small) (g a t : Int) : SX.Fn Tryd.prog 37 [v, I g, I a, I t] w (fun _ => False) fun r N => LE r N (arS c g a t) (arE c g a t) := by
  refine (arrive_fn w hw v c hc hsm g a t).mono fun r N h => ?_
  unfold arS arE
  rcases h with ⟨h, rfl⟩ | ⟨h, x, rfl, hN⟩
  · rw [if_neg h]
    exact LE_nil _ _
  · rw [if_pos h, h]
    exact ⟨_, rfl, Got.row (arrL_len ..) hN (fun h => by cases h)⟩

theorem rarrive_le (w : World) (hw : Ways w) (v : Value) (c : Cht) (hc : ChOk w v c) (hsm : c.small) (g a t : Int) : SX.Fn Tryd.prog 44 [v, I g, I a, I t] w (fun _ => False) fun r N => LE r N (arS c g a t) (arE c g a t) := by
  refine (rarrive_fn w hw v c hc hsm g a t).mono fun r N h => ?_
  unfold arS arE
  rcases h with ⟨h, rfl⟩ | ⟨h, x, rfl, hN⟩
  · rw [if_neg h]
    exact LE_nil _ _
  · rw [if_pos h, h]
    exact ⟨_, rfl, hN⟩

theorem depart_le (w : World) (hw : Ways w) (v : Value) (c : Cht) (hc : ChOk w v c) (hsm : c.small) (g a t : Int) : SX.Fn Tryd.prog 47 [v, I g, I a, I t] w (fun _ => False) fun r N => LE r N (deS c g a t) (arE c g a t) := by
  refine (depart_fn w hw v c hc hsm g a t).mono fun r N h => ?_
  unfold deS arE
  rcases h with ⟨h, rfl⟩ | ⟨h, x, rfl, hN⟩
  · rw [if_neg h]
    exact LE_nil _ _
  · rw [if_pos h, h]
    exact ⟨_, rfl, Got.row (depL_len ..) hN (fun h => by cases h)⟩

theorem rdepart_le (w : World) (hw : Ways w) (v : Value) (c : Cht) (hc : ChOk w v c) (hsm : c.small) (g a t : Int) : SX.Fn Tryd.prog 48 [v, I g, I a, I t] w (fun _ => False) fun r N => LE r N (deS c g a t) (arE c g a t) := by
  refine (rdepart_fn w hw v c hc hsm g a t).mono fun r N h => ?_
  unfold deS arE
  rcases h with ⟨h, rfl⟩ | ⟨h, x, rfl, hN⟩
  · rw [if_neg h]
    exact LE_nil _ _
  · rw [if_pos h, h]
    exact ⟨_, rfl, hN⟩

theorem moves_le (w : World) (hw : Ways w) (v : Value) (c : Cht) (hc : ChOk w v c) (hsm : c.small) (g a t u : Int) : SX.Fn Tryd.prog 49 [v, I g, I a, I t, I u] w (fun _ => False) fun r N => LE r N (mvS c g a t u) (mvE c g a t u) := by
  refine (moves_fn w hw v c hc hsm g a t u).mono fun r N h => ?_
  unfold mvS mvE
  rcases h with ⟨h, rfl⟩ | ⟨h, x, rfl, hN⟩
  · rw [if_neg h]
    exact LE_nil _ _
  · rw [if_pos h, h]
    exact ⟨_, rfl, Got.row (mvR_len ..) hN (fun h => by cases h)⟩

theorem rmoves_le (w : World) (hw : Ways w) (v : Value) (c : Cht) (hc : ChOk w v c) (hsm : c.small) (g a t u : Int) : SX.Fn Tryd.prog 50 [v, I g, I a, I t, I u] w (fun _ => False) fun r N => LE r N (mvS c g a t u) (mvE c g a t u) := by
  refine (rmoves_fn w hw v c hc hsm g a t u).mono fun r N h => ?_
  unfold mvS mvE
  rcases h with ⟨h, rfl⟩ | ⟨h, x, rfl, hN⟩
  · rw [if_neg h]
    exact LE_nil _ _
  · rw [if_pos h, h]
    exact ⟨_, rfl, hN⟩

open Classical in
/-- The first tick in which a boat can be in a cell, from one on. -/
noncomputable def fstI (c : Cht) (g : Int) (a t b : Nat) : Option Nat := if h : ∃ i, i < c.tide.length - t ∧ (setN c g a t i).getD b false = true ∧ ∀ j, j < i → (setN c g a t j).getD b false = false then some h.choose else none

theorem fstI_some {c : Cht} {g : Int} {a t b i : Nat} (h1 : i < c.tide.length - t) (h2 : (setN c g a t i).getD b false = true) (h3 : ∀ j, j < i → (setN c g a t j).getD b false = false) : fstI c g a t b = some i := by
  have h : ∃ i, i < c.tide.length - t ∧ (setN c g a t i).getD b false = true ∧ ∀ j, j < i → (setN c g a t j).getD b false = false := ⟨i, h1, h2, h3⟩
  unfold fstI
  rw [dif_pos h]
  obtain ⟨k1, k2, k3⟩ := h.choose_spec
  rcases Nat.lt_trichotomy h.choose i with k | k | k
  · rw [h3 _ k] at k2
    cases k2
  · rw [k]
  · rw [k3 _ k] at h2
    cases h2

theorem fstI_none {c : Cht} {g : Int} {a t b : Nat} (h : ∀ j, j < c.tide.length - t → (setN c g a t j).getD b false = false) : fstI c g a t b = none := by
  unfold fstI
  rw [dif_neg]
  rintro ⟨i, h1, h2, _⟩
  rw [h i h1] at h2
  cases h2

noncomputable def paE (c : Cht) (g a t b : Int) : Int := if openE c [a, b] [t] [g] = 0 then (if (fstI c g a.toNat t.toNat b.toNat).isSome then 0 else 3) else openE c [a, b] [t] [g]
noncomputable def paS (c : Cht) (g a t b : Int) : List Int := if openE c [a, b] [t] [g] = 0 then (match fstI c g a.toNat t.toNat b.toNat with
  | some i => nts (pth c (setL c g a.toNat t.toNat (i + 1)) b.toNat i)
  | none => []) else []

theorem passage_le (w : World) (hw : Ways w) (v : Value) (c : Cht) (hc : ChOk w v c) (hsm : c.small) (g a t b : Int) : SX.Fn Tryd.prog 38 [v, I g, I a, I t, I b] w (fun _ => False) fun r N => LE r N (paS c g a t b) (paE c g a t b) := by
  refine (passage_fn w hw v c hc hsm g a t b).mono fun r N h => ?_
  unfold paS paE
  rcases h with ⟨h, rfl⟩ | ⟨h, ⟨i, x, h1, h2, h3, rfl, hN⟩ | ⟨h1, rfl⟩⟩
  · rw [if_neg h, if_neg h]
    exact LE_nil _ _
  · rw [if_pos h, if_pos h, fstI_some h1 h2 h3]
    exact ⟨_, rfl, Got.row (by rw [List.length_map, pth_len]) hN (fun h => by cases h)⟩
  · rw [if_pos h, if_pos h, fstI_none h1]
    exact LE_nil _ _

theorem rpassage_le (w : World) (hw : Ways w) (v : Value) (c : Cht) (hc : ChOk w v c) (hsm : c.small) (g a t b : Int) : SX.Fn Tryd.prog 46 [v, I g, I a, I t, I b] w (fun _ => False) fun r N => LE r N (paS c g a t b) (paE c g a t b) := by
  refine (rpassage_fn w hw v c hc hsm g a t b).mono fun r N h => ?_
  unfold paS paE
  rcases h with ⟨h, rfl⟩ | ⟨h, ⟨i, x, h1, h2, h3, rfl, hN⟩ | ⟨h1, rfl⟩⟩
  · rw [if_neg h, if_neg h]
    exact LE_nil _ _
  · rw [if_pos h, if_pos h, fstI_some h1 h2 h3]
    exact ⟨_, rfl, hN⟩
  · rw [if_pos h, if_pos h, fstI_none h1]
    exact LE_nil _ _

theorem paS_len (c : Cht) (g a t b : Int) (hf : c.few) : (paS c g a t b).length ≤ 1000 := by
  unfold paS
  split
  · split
    · rename_i i h
      rw [List.length_map, pth_len]
      unfold fstI at h
      split at h
      · rename_i hx
        have := hx.choose_spec.1
        cases h
        have := hf.2.1
        omega
      · cases h
    · simp
  · simp

theorem arS_len (c : Cht) (g a t : Int) (hf : c.few) : (arS c g a t).length ≤ 1000 := by
  unfold arS
  split
  · rw [arrL_len]; have := hf.1; omega
  · simp
theorem deS_len (c : Cht) (g a t : Int) (hf : c.few) : (deS c g a t).length ≤ 1000 := by
  unfold deS
  split
  · rw [depL_len]; have := hf.1; omega
  · simp
theorem mvS_len (c : Cht) (g a t u : Int) (hf : c.few) : (mvS c g a t u).length ≤ 1000 := by
  unfold mvS
  split
  · rw [mvR_len]; have := hf.1; omega
  · simp

theorem chartPassages_fn (w : World) (hw : Ways w) (v : Value) (c : Cht) (hc : ChOk w v c) (g a t : Int) (p q : Int) : SX.Fn Tryd.prog 10 [v, .agg #[I g, I a, I t], .agg #[I p, I q]] w (fun _ => False) fun r N => r = .bool true := by
  have hc0 := hc
  obtain ⟨sD, sT, sS, rfl, hsD, hsT, hsS⟩ := hc
  have hwk : ∀ (H : List HO) w', Hp ⟨w, fun _ => False⟩ H w' → SX.Fn Tryd.prog 15 [] w' (fun _ => False) fun r N => r = .bool true := fun H w' hp => works_fn w' (hw.hp hp)
  have hsame : ∀ (l : List Int) (H : List HO) w' x y N N', Hp ⟨w, fun _ => False⟩ H w' → (∀ h ∈ N, h ∈ H) → (∀ h ∈ N', h ∈ H) → Got x 3 1 i1 l N → Got y 3 1 i1 l N' → l.length ≤ 1000 → SX.Fn Tryd.prog 45 [x, y] w' (fun _ => False) fun r N => r = .bool true := fun l H w' x y N N' hp h1 h2 hx hy hl => by
    have := sameI_fn w' x y l l (hx.hp h1 hp) (hy.hp h2 hp) (by omega)
    rwa [decide_eq_true rfl] at this
  refine walk [] [] (det0_ok _ _) Tryd.func10 rfl Tryd.ntmps10 res10 (by kernel_rfl) no_facts ?_
  simp (config := { maxSteps := 4000000 }) only [↓sx0, ↓sx1, ↓sx2, ↓sx3, ↓sx4, ↓sx5, ↓sx6, sx0, sx1, sx2, sx3, sx4, sx5, sx6, tf10, ev3_hold, sxo, sxc, sxp, sxq, sxr, sxs, sxl, sxm, Int.reduceBEq, Int.reduceBNe, Int.reduceLT, Int.reduceLE, Int.reduceEq, Int.reduceGT, Int.reduceGE, Int.reduceToNat, ↓reduceIte, List.reduceReplicate, Nat.reduceAdd, Nat.reduceSub, Nat.reduceMul, Nat.reduceLT, Nat.reduceLeDiff, Nat.reduceBEq, Nat.reduceEqDiff, det0]
  refine CallOb.pureH (fun w' hp => vast_fn w' _ c (hc0.hp hp)) ?_
  rintro r0 N0 ⟨t0, rfl, hb0⟩
  cases t0 with
  | true =>
    refine ⟨?_⟩
    simp (config := { maxSteps := 4000000 }) only [↓sx0, ↓sx1, ↓sx2, ↓sx3, ↓sx4, ↓sx5, ↓sx6, sx0, sx1, sx2, sx3, sx4, sx5, sx6, tf10, ev3_hold, sxo, sxc, sxp, sxq, sxr, sxs, sxl, sxm, Int.reduceBEq, Int.reduceBNe, Int.reduceLT, Int.reduceLE, Int.reduceEq, Int.reduceGT, Int.reduceGE, Int.reduceToNat, ↓reduceIte, List.reduceReplicate, Nat.reduceAdd, Nat.reduceSub, Nat.reduceMul, Nat.reduceLT, Nat.reduceLeDiff, Nat.reduceBEq, Nat.reduceEqDiff, det0]
    refine CallOb.pureH (fun w' hp => hwk _ w' hp) ?_
    rintro rW NW rfl
    refine ⟨?_⟩
    simp (config := { maxSteps := 4000000 }) only [↓sx0, ↓sx1, ↓sx2, ↓sx3, ↓sx4, ↓sx5, ↓sx6, sx0, sx1, sx2, sx3, sx4, sx5, sx6, tf10, ev3_hold, sxo, sxc, sxp, sxq, sxr, sxs, sxl, sxm, Int.reduceBEq, Int.reduceBNe, Int.reduceLT, Int.reduceLE, Int.reduceEq, Int.reduceGT, Int.reduceGE, Int.reduceToNat, ↓reduceIte, List.reduceReplicate, Nat.reduceAdd, Nat.reduceSub, Nat.reduceMul, Nat.reduceLT, Nat.reduceLeDiff, Nat.reduceBEq, Nat.reduceEqDiff]
  | false =>
  have hf := (hb0 rfl).1
  have hsm := few_small hf
  refine ⟨?_⟩
  simp (config := { maxSteps := 4000000 }) only [↓sx0, ↓sx1, ↓sx2, ↓sx3, ↓sx4, ↓sx5, ↓sx6, sx0, sx1, sx2, sx3, sx4, sx5, sx6, tf10, ev3_hold, sxo, sxc, sxp, sxq, sxr, sxs, sxl, sxm, Int.reduceBEq, Int.reduceBNe, Int.reduceLT, Int.reduceLE, Int.reduceEq, Int.reduceGT, Int.reduceGE, Int.reduceToNat, ↓reduceIte, List.reduceReplicate, Nat.reduceAdd, Nat.reduceSub, Nat.reduceMul, Nat.reduceLT, Nat.reduceLeDiff, Nat.reduceBEq, Nat.reduceEqDiff, det0]
  refine CallOb.pureH (fun w' hp => copy_fn w' _ c (hc0.hp hp) hf) ?_
  rintro r1 N1 ⟨x, y, z, rfl, hx, hy, hz⟩
  have gx := hx.shape
  have gy := hy.shape
  have gz := hz.shape
  obtain ⟨adx, cx, rfl⟩ := gx
  obtain ⟨ady, cy, rfl⟩ := gy
  obtain ⟨adz, cz, rfl⟩ := gz
  refine ⟨?_⟩
  simp (config := { maxSteps := 4000000 }) only [↓sx0, ↓sx1, ↓sx2, ↓sx3, ↓sx4, ↓sx5, ↓sx6, sx0, sx1, sx2, sx3, sx4, sx5, sx6, tf10, ev3_hold, sxo, sxc, sxp, sxq, sxr, sxs, sxl, sxm, Int.reduceBEq, Int.reduceBNe, Int.reduceLT, Int.reduceLE, Int.reduceEq, Int.reduceGT, Int.reduceGE, Int.reduceToNat, ↓reduceIte, List.reduceReplicate, Nat.reduceAdd, Nat.reduceSub, Nat.reduceMul, Nat.reduceLT, Nat.reduceLeDiff, Nat.reduceBEq, Nat.reduceEqDiff, det0]
  refine CallOb.pureH (fun w' hp => arrive_le w' (hw.hp hp) _ c (got_ch hx hy hz (fun h hh => by simp [hh]) hp) hsm g a t) ?_
  rintro r2 N2 ⟨x2, rfl, h2⟩
  refine ⟨?_⟩
  simp (config := { maxSteps := 4000000 }) only [↓sx0, ↓sx1, ↓sx2, ↓sx3, ↓sx4, ↓sx5, ↓sx6, sx0, sx1, sx2, sx3, sx4, sx5, sx6, tf10, ev3_hold, sxo, sxc, sxp, sxq, sxr, sxs, sxl, sxm, Int.reduceBEq, Int.reduceBNe, Int.reduceLT, Int.reduceLE, Int.reduceEq, Int.reduceGT, Int.reduceGE, Int.reduceToNat, ↓reduceIte, List.reduceReplicate, Nat.reduceAdd, Nat.reduceSub, Nat.reduceMul, Nat.reduceLT, Nat.reduceLeDiff, Nat.reduceBEq, Nat.reduceEqDiff, det0]
  refine CallOb.pureH (fun w' hp => rarrive_le w' (hw.hp hp) _ c (hc0.hp hp) hsm g a t) ?_
  rintro r3 N3 ⟨x3, rfl, h3⟩
  refine ⟨?_⟩
  simp (config := { maxSteps := 4000000 }) only [↓sx0, ↓sx1, ↓sx2, ↓sx3, ↓sx4, ↓sx5, ↓sx6, sx0, sx1, sx2, sx3, sx4, sx5, sx6, tf10, ev3_hold, sxo, sxc, sxp, sxq, sxr, sxs, sxl, sxm, Int.reduceBEq, Int.reduceBNe, Int.reduceLT, Int.reduceLE, Int.reduceEq, Int.reduceGT, Int.reduceGE, Int.reduceToNat, ↓reduceIte, List.reduceReplicate, Nat.reduceAdd, Nat.reduceSub, Nat.reduceMul, Nat.reduceLT, Nat.reduceLeDiff, Nat.reduceBEq, Nat.reduceEqDiff, det0]
  refine CallOb.pureH (fun w' hp => hsame _ _ w' _ _ N2 N3 hp (fun h hh => by simp [hh]) (fun h hh => by simp [hh]) h2 h3 (arS_len c g a t hf)) ?_
  rintro r4 N4 rfl
  refine ⟨?_⟩
  simp (config := { maxSteps := 4000000 }) only [↓sx0, ↓sx1, ↓sx2, ↓sx3, ↓sx4, ↓sx5, ↓sx6, sx0, sx1, sx2, sx3, sx4, sx5, sx6, tf10, ev3_hold, sxo, sxc, sxp, sxq, sxr, sxs, sxl, sxm, Int.reduceBEq, Int.reduceBNe, Int.reduceLT, Int.reduceLE, Int.reduceEq, Int.reduceGT, Int.reduceGE, Int.reduceToNat, ↓reduceIte, List.reduceReplicate, Nat.reduceAdd, Nat.reduceSub, Nat.reduceMul, Nat.reduceLT, Nat.reduceLeDiff, Nat.reduceBEq, Nat.reduceEqDiff, det0]
  refine CallOb.pureH (fun w' hp => passage_le w' (hw.hp hp) _ c (got_ch hx hy hz (fun h hh => by simp [hh]) hp) hsm g a t p) ?_
  rintro r5 N5 ⟨x5, rfl, h5⟩
  refine ⟨?_⟩
  simp (config := { maxSteps := 4000000 }) only [↓sx0, ↓sx1, ↓sx2, ↓sx3, ↓sx4, ↓sx5, ↓sx6, sx0, sx1, sx2, sx3, sx4, sx5, sx6, tf10, ev3_hold, sxo, sxc, sxp, sxq, sxr, sxs, sxl, sxm, Int.reduceBEq, Int.reduceBNe, Int.reduceLT, Int.reduceLE, Int.reduceEq, Int.reduceGT, Int.reduceGE, Int.reduceToNat, ↓reduceIte, List.reduceReplicate, Nat.reduceAdd, Nat.reduceSub, Nat.reduceMul, Nat.reduceLT, Nat.reduceLeDiff, Nat.reduceBEq, Nat.reduceEqDiff, det0]
  refine CallOb.pureH (fun w' hp => rpassage_le w' (hw.hp hp) _ c (hc0.hp hp) hsm g a t p) ?_
  rintro r6 N6 ⟨x6, rfl, h6⟩
  refine ⟨?_⟩
  simp (config := { maxSteps := 4000000 }) only [↓sx0, ↓sx1, ↓sx2, ↓sx3, ↓sx4, ↓sx5, ↓sx6, sx0, sx1, sx2, sx3, sx4, sx5, sx6, tf10, ev3_hold, sxo, sxc, sxp, sxq, sxr, sxs, sxl, sxm, Int.reduceBEq, Int.reduceBNe, Int.reduceLT, Int.reduceLE, Int.reduceEq, Int.reduceGT, Int.reduceGE, Int.reduceToNat, ↓reduceIte, List.reduceReplicate, Nat.reduceAdd, Nat.reduceSub, Nat.reduceMul, Nat.reduceLT, Nat.reduceLeDiff, Nat.reduceBEq, Nat.reduceEqDiff, det0]
  refine CallOb.pureH (fun w' hp => hsame _ _ w' _ _ N5 N6 hp (fun h hh => by simp [hh]) (fun h hh => by simp [hh]) h5 h6 (paS_len c g a t p hf)) ?_
  rintro r7 N7 rfl
  refine ⟨?_⟩
  simp (config := { maxSteps := 4000000 }) only [↓sx0, ↓sx1, ↓sx2, ↓sx3, ↓sx4, ↓sx5, ↓sx6, sx0, sx1, sx2, sx3, sx4, sx5, sx6, tf10, ev3_hold, sxo, sxc, sxp, sxq, sxr, sxs, sxl, sxm, Int.reduceBEq, Int.reduceBNe, Int.reduceLT, Int.reduceLE, Int.reduceEq, Int.reduceGT, Int.reduceGE, Int.reduceToNat, ↓reduceIte, List.reduceReplicate, Nat.reduceAdd, Nat.reduceSub, Nat.reduceMul, Nat.reduceLT, Nat.reduceLeDiff, Nat.reduceBEq, Nat.reduceEqDiff, det0]
  refine CallOb.pureH (fun w' hp => depart_le w' (hw.hp hp) _ c (got_ch hx hy hz (fun h hh => by simp [hh]) hp) hsm g a t) ?_
  rintro r8 N8 ⟨x8, rfl, h8⟩
  refine ⟨?_⟩
  simp (config := { maxSteps := 4000000 }) only [↓sx0, ↓sx1, ↓sx2, ↓sx3, ↓sx4, ↓sx5, ↓sx6, sx0, sx1, sx2, sx3, sx4, sx5, sx6, tf10, ev3_hold, sxo, sxc, sxp, sxq, sxr, sxs, sxl, sxm, Int.reduceBEq, Int.reduceBNe, Int.reduceLT, Int.reduceLE, Int.reduceEq, Int.reduceGT, Int.reduceGE, Int.reduceToNat, ↓reduceIte, List.reduceReplicate, Nat.reduceAdd, Nat.reduceSub, Nat.reduceMul, Nat.reduceLT, Nat.reduceLeDiff, Nat.reduceBEq, Nat.reduceEqDiff, det0]
  refine CallOb.pureH (fun w' hp => rdepart_le w' (hw.hp hp) _ c (hc0.hp hp) hsm g a t) ?_
  rintro r9 N9 ⟨x9, rfl, h9⟩
  refine ⟨?_⟩
  simp (config := { maxSteps := 4000000 }) only [↓sx0, ↓sx1, ↓sx2, ↓sx3, ↓sx4, ↓sx5, ↓sx6, sx0, sx1, sx2, sx3, sx4, sx5, sx6, tf10, ev3_hold, sxo, sxc, sxp, sxq, sxr, sxs, sxl, sxm, Int.reduceBEq, Int.reduceBNe, Int.reduceLT, Int.reduceLE, Int.reduceEq, Int.reduceGT, Int.reduceGE, Int.reduceToNat, ↓reduceIte, List.reduceReplicate, Nat.reduceAdd, Nat.reduceSub, Nat.reduceMul, Nat.reduceLT, Nat.reduceLeDiff, Nat.reduceBEq, Nat.reduceEqDiff, det0]
  refine CallOb.pureH (fun w' hp => hsame _ _ w' _ _ N8 N9 hp (fun h hh => by simp [hh]) (fun h hh => by simp [hh]) h8 h9 (deS_len c g a t hf)) ?_
  rintro r10 N10 rfl
  refine ⟨?_⟩
  simp (config := { maxSteps := 4000000 }) only [↓sx0, ↓sx1, ↓sx2, ↓sx3, ↓sx4, ↓sx5, ↓sx6, sx0, sx1, sx2, sx3, sx4, sx5, sx6, tf10, ev3_hold, sxo, sxc, sxp, sxq, sxr, sxs, sxl, sxm, Int.reduceBEq, Int.reduceBNe, Int.reduceLT, Int.reduceLE, Int.reduceEq, Int.reduceGT, Int.reduceGE, Int.reduceToNat, ↓reduceIte, List.reduceReplicate, Nat.reduceAdd, Nat.reduceSub, Nat.reduceMul, Nat.reduceLT, Nat.reduceLeDiff, Nat.reduceBEq, Nat.reduceEqDiff, det0]
  refine CallOb.pureH (fun w' hp => moves_le w' (hw.hp hp) _ c (got_ch hx hy hz (fun h hh => by simp [hh]) hp) hsm g a t q) ?_
  rintro r11 N11 ⟨x11, rfl, h11⟩
  refine ⟨?_⟩
  simp (config := { maxSteps := 4000000 }) only [↓sx0, ↓sx1, ↓sx2, ↓sx3, ↓sx4, ↓sx5, ↓sx6, sx0, sx1, sx2, sx3, sx4, sx5, sx6, tf10, ev3_hold, sxo, sxc, sxp, sxq, sxr, sxs, sxl, sxm, Int.reduceBEq, Int.reduceBNe, Int.reduceLT, Int.reduceLE, Int.reduceEq, Int.reduceGT, Int.reduceGE, Int.reduceToNat, ↓reduceIte, List.reduceReplicate, Nat.reduceAdd, Nat.reduceSub, Nat.reduceMul, Nat.reduceLT, Nat.reduceLeDiff, Nat.reduceBEq, Nat.reduceEqDiff, det0]
  refine CallOb.pureH (fun w' hp => rmoves_le w' (hw.hp hp) _ c (hc0.hp hp) hsm g a t q) ?_
  rintro r12 N12 ⟨x12, rfl, h12⟩
  refine ⟨?_⟩
  simp (config := { maxSteps := 4000000 }) only [↓sx0, ↓sx1, ↓sx2, ↓sx3, ↓sx4, ↓sx5, ↓sx6, sx0, sx1, sx2, sx3, sx4, sx5, sx6, tf10, ev3_hold, sxo, sxc, sxp, sxq, sxr, sxs, sxl, sxm, Int.reduceBEq, Int.reduceBNe, Int.reduceLT, Int.reduceLE, Int.reduceEq, Int.reduceGT, Int.reduceGE, Int.reduceToNat, ↓reduceIte, List.reduceReplicate, Nat.reduceAdd, Nat.reduceSub, Nat.reduceMul, Nat.reduceLT, Nat.reduceLeDiff, Nat.reduceBEq, Nat.reduceEqDiff, det0]
  refine CallOb.pureH (fun w' hp => hsame _ _ w' _ _ N11 N12 hp (fun h hh => by simp [hh]) (fun h hh => by simp [hh]) h11 h12 (mvS_len c g a t q hf)) ?_
  rintro r13 N13 rfl
  refine ⟨?_⟩
  simp (config := { maxSteps := 4000000 }) only [↓sx0, ↓sx1, ↓sx2, ↓sx3, ↓sx4, ↓sx5, ↓sx6, sx0, sx1, sx2, sx3, sx4, sx5, sx6, tf10, ev3_hold, sxo, sxc, sxp, sxq, sxr, sxs, sxl, sxm, Int.reduceBEq, Int.reduceBNe, Int.reduceLT, Int.reduceLE, Int.reduceEq, Int.reduceGT, Int.reduceGE, Int.reduceToNat, ↓reduceIte, List.reduceReplicate, Nat.reduceAdd, Nat.reduceSub, Nat.reduceMul, Nat.reduceLT, Nat.reduceLeDiff, Nat.reduceBEq, Nat.reduceEqDiff, det0]
  refine CallOb.pureH (fun w' hp => hwk _ w' hp) ?_
  rintro rW NW rfl
  refine ⟨?_⟩
  simp (config := { maxSteps := 4000000 }) only [↓sx0, ↓sx1, ↓sx2, ↓sx3, ↓sx4, ↓sx5, ↓sx6, sx0, sx1, sx2, sx3, sx4, sx5, sx6, tf10, ev3_hold, sxo, sxc, sxp, sxq, sxr, sxs, sxl, sxm, Int.reduceBEq, Int.reduceBNe, Int.reduceLT, Int.reduceLE, Int.reduceEq, Int.reduceGT, Int.reduceGE, Int.reduceToNat, ↓reduceIte, List.reduceReplicate, Nat.reduceAdd, Nat.reduceSub, Nat.reduceMul, Nat.reduceLT, Nat.reduceLeDiff, Nat.reduceBEq, Nat.reduceEqDiff]

end Go.Proofs.YtcnjhgnlcnmagaaDoor
