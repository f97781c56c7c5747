/- Parts of a proof: the symbolic walk and what it shows of single functions. -/
import Derived.Test.YtcnjhgnlcnmagaaDoorC4
import Derived.Test.YtcnjhgnlcnmagaaDoorX5
import Derived.Test.YtcnjhgnlcnmagaaDoorC5
set_option linter.all false
namespace Go.Proofs.YtcnjhgnlcnmagaaDoor
open Go.RowKit Go.SX
set_option maxRecDepth 4000
set_option maxHeartbeats 8000000
set_option linter.unusedSimpArgs false
set_option linter.unusedVariables false

/-! ### The first tick in which a boat can be in each cell -/

/-- What Arrive has written behind some ticks. -/
def arrL (c : Cht) (g : Int) (k t : Nat) : Nat → List Int
  | 0 => List.replicate c.depth.length (-1)
  | i + 1 => markK (arrL c g k t i) (setN c g k t i) ((t + i : Nat) : Int) (arrL c g k t i).length

theorem arrL_len (c : Cht) (g : Int) (k t : Nat) : ∀ i, (arrL c g k t i).length = c.depth.length
  | 0 => by simp [arrL]
  | i + 1 => by rw [arrL, markK_len, arrL_len c g k t i]

theorem arrL_get (c : Cht) (g : Int) (k t x : Nat) (hx : x < c.depth.length) : ∀ m, (∃ i, i < m ∧ (setN c g k t i).getD x false = true ∧ (∀ j, j < i → (setN c g k t j).getD x false = false) ∧ (arrL c g k t m).getD x 0 = ((t + i : Nat) : Int)) ∨ ((∀ i, i < m → (setN c g k t i).getD x false = false) ∧ (arrL c g k t m).getD x 0 = -1)
  | 0 => .inr ⟨by simp, by simp [arrL, List.getD_eq_getElem?_getD, List.getElem?_replicate, hx]⟩
  | m + 1 => by
    have hl := arrL_len c g k t m
    have hg := markK_get (arrL c g k t m) (setN c g k t m) ((t + m : Nat) : Int) x (by omega) (arrL c g k t m).length
    rw [arrL]
    rcases arrL_get c g k t x hx m with ⟨i, hi, h1, h2, h3⟩ | ⟨h1, h2⟩
    · refine .inl ⟨i, by omega, h1, h2, ?_⟩
      rw [hg, if_neg, h3]
      rintro ⟨_, _, h⟩
      omega
    · cases hS : (setN c g k t m).getD x false with
      | true =>
        refine .inl ⟨m, by omega, hS, h1, ?_⟩
        rw [hg, if_pos ⟨by omega, hS, h2⟩]
      | false =>
        refine .inr ⟨fun i hi => ?_, ?_⟩
        · by_cases h : i < m
          · exact h1 i h
          · rw [show i = m by omega]
            exact hS
        · rw [hg, if_neg, h2]
          rw [hS]
          simp

theorem arrive_fn (w : World) (hw : Ways w) (v : Value) (c : Cht) (hc : ChOk w v c) (hsm : c.small) (g a t : Int) :
    SX.Fn Tryd.prog 37 [v, I g, I a, I t] w (fun _ => False) fun r N => (openE c [a] [t] [g] ≠ 0 ∧ r = .tuple #[.slice none 0 0, I (openE c [a] [t] [g])]) ∨
      (openE c [a] [t] [g] = 0 ∧ ∃ x, r = .tuple #[.slice (some ⟨x, 0, none⟩) c.depth.length c.depth.length, I 0] ∧ HO.row (.slice (some ⟨x, 0, none⟩) c.depth.length c.depth.length) 3 1 (ints (arrL c g a.toNat t.toNat (c.tide.length - t.toNat))) ∈ N) := by
  have hc0 := hc
  obtain ⟨sD, sT, sS, rfl, hsD, hsT, hsS⟩ := hc
  obtain ⟨aD, nD, cD, rfl⟩ := hsD.shape
  obtain ⟨aT, nT, cT, rfl⟩ := hsT.shape
  obtain ⟨aS, nS, cS, rfl⟩ := hsS.shape
  refine walk [] [] (det0_ok _ _) Tryd.func37 rfl Tryd.ntmps37 res37 (by kernel_rfl) no_facts ?_
  simp (config := { maxSteps := 4000000 }) only [↓sx0, ↓sx1, ↓sx2, ↓sx3, ↓sx4, ↓sx5, ↓sx6, sx0, sx1, sx2, sx3, sx4, sx5, sx6, tf37, ev3_hold, sxo, sxc, sxp, sxq, sxr, sxs, sxl, sxm, Int.reduceBEq, Int.reduceBNe, Int.reduceLT, Int.reduceLE, Int.reduceEq, Int.reduceGT, Int.reduceGE, Int.reduceToNat, ↓reduceIte, List.reduceReplicate, Nat.reduceAdd, Nat.reduceSub, Nat.reduceMul, Nat.reduceLT, Nat.reduceLeDiff, Nat.reduceBEq, Nat.reduceEqDiff, det0]
  intro b1 b2
  refine CallOb.pureH (fun w' hp => sail_fn w' _ _ _ _ _ c g [a] [t] (hc0.hp hp) hsm (row_hp (E := 3) (xs := ints [a]) (by simp [cat, i1]) hp) (row_hp (E := 3) (xs := ints [t]) (by simp [cat, i1]) hp) (by simp)) ?_
  rintro r N rfl
  by_cases he : openE c [a] [t] [g] = 0
  case neg =>
    have e1 : (openE c [a] [t] [g] = 0) = False := eq_false he
    refine ⟨?_⟩
    simp (config := { maxSteps := 4000000 }) only [↓sx0, ↓sx1, ↓sx2, ↓sx3, ↓sx4, ↓sx5, ↓sx6, sx0, sx1, sx2, sx3, sx4, sx5, sx6, tf37, ev3_hold, sxo, sxc, sxp, sxq, sxr, sxs, sxl, sxm, Int.reduceBEq, Int.reduceBNe, Int.reduceLT, Int.reduceLE, Int.reduceEq, Int.reduceGT, Int.reduceGE, Int.reduceToNat, ↓reduceIte, List.reduceReplicate, Nat.reduceAdd, Nat.reduceSub, Nat.reduceMul, Nat.reduceLT, Nat.reduceLeDiff, Nat.reduceBEq, Nat.reduceEqDiff, e1]
    exact .inl trivial
  have hz := openE_zero he
  obtain ⟨hok, hcl, htl, hgl⟩ := hz
  have ha := hcl a (by simp)
  have ht := htl t (by simp)
  have hdm := hok.dims
  obtain ⟨eW, eH, hW, hH, hlen⟩ := hdm
  have h60 := hok.2.2.2.1.2
  have hn144 : c.depth.length < 200 := by
    have := Nat.mul_le_mul hW.2 hH.2
    omega
  have hA' : ∃ A : Nat, a = A := ⟨a.toNat, by omega⟩
  have hT' : ∃ T : Nat, t = T := ⟨t.toNat, by omega⟩
  obtain ⟨A, hA⟩ := hA'
  obtain ⟨T, hT⟩ := hT'
  subst hA hT
  simp only [Int.toNat_natCast] at ha ht
  rw [he]
  refine ⟨?_⟩
  simp (config := { maxSteps := 4000000 }) only [↓sx0, ↓sx1, ↓sx2, ↓sx3, ↓sx4, ↓sx5, ↓sx6, sx0, sx1, sx2, sx3, sx4, sx5, sx6, tf37, ev3_hold, sxo, sxc, sxp, sxq, sxr, sxs, sxl, sxm, Int.reduceBEq, Int.reduceBNe, Int.reduceLT, Int.reduceLE, Int.reduceEq, Int.reduceGT, Int.reduceGE, Int.reduceToNat, ↓reduceIte, List.reduceReplicate, Nat.reduceAdd, Nat.reduceSub, Nat.reduceMul, Nat.reduceLT, Nat.reduceLeDiff, Nat.reduceBEq, Nat.reduceEqDiff, det0]
  refine CallOb.pureH (fun w' hp => row_fn w' _ _ _ _ _ (-1) c.depth (hsD.hp (fun _ _ => id) hp) hn144 (by omega)) ?_
  rintro r0 N1 ⟨x, rfl, hN1⟩
  refine ⟨?_⟩
  simp (config := { maxSteps := 4000000 }) only [↓sx0, ↓sx1, ↓sx2, ↓sx3, ↓sx4, ↓sx5, ↓sx6, sx0, sx1, sx2, sx3, sx4, sx5, sx6, tf37, ev3_hold, sxo, sxc, sxp, sxq, sxr, sxs, sxl, sxm, Int.reduceBEq, Int.reduceBNe, Int.reduceLT, Int.reduceLE, Int.reduceEq, Int.reduceGT, Int.reduceGE, Int.reduceToNat, ↓reduceIte, List.reduceReplicate, Nat.reduceAdd, Nat.reduceSub, Nat.reduceMul, Nat.reduceLT, Nat.reduceLeDiff, Nat.reduceBEq, Nat.reduceEqDiff, det0]
  refine CallOb.pureH (fun w' hp => forth_fn w' _ _ _ _ _ _ _ _) ?_
  rintro r1 N2 ⟨bb, bf, bt, rfl, rfl⟩
  refine ⟨?_⟩
  simp (config := { maxSteps := 4000000 }) only [↓sx0, ↓sx1, ↓sx2, ↓sx3, ↓sx4, ↓sx5, ↓sx6, sx0, sx1, sx2, sx3, sx4, sx5, sx6, tf37, ev3_hold, sxo, sxc, sxp, sxq, sxr, sxs, sxl, sxm, Int.reduceBEq, Int.reduceBNe, Int.reduceLT, Int.reduceLE, Int.reduceEq, Int.reduceGT, Int.reduceGE, Int.reduceToNat, ↓reduceIte, List.reduceReplicate, Nat.reduceAdd, Nat.reduceSub, Nat.reduceMul, Nat.reduceLT, Nat.reduceLeDiff, Nat.reduceBEq, Nat.reduceEqDiff]
  have hrO : ∀ i, HO.row (.slice (some ⟨x, 0, none⟩) c.depth.length c.depth.length) 3 1 (ints (arrL c g A T i)) = HO.row (.slice (some ⟨x, 0, none⟩) (arrL c g A T i).length c.depth.length) 3 1 (ints (arrL c g A T i)) := fun i => by rw [arrL_len]
  refine range_introA Tryd.call102 (c.tide.length - T) (forthArg c g A T) [.cells bt 3 [I T], .cells bf 3 [I A], .cells bb 99 [I c.wide, I c.high, .slice aD nD cD, .slice aT nT cT, .slice aS nS cS, I g]] [HO.row (.slice (some ⟨x, 0, none⟩) c.depth.length c.depth.length) 3 1 (ints (arrL c g A T 0))]
    (fun k L' H' => L' = [(25, [I c.wide, I c.high, .slice aD nD cD, .slice aT nT cT, .slice aS nS cS]), (99, [I c.wide, I c.high, .slice aD nD cD, .slice aT nT cT, .slice aS nS cS, I g]), (22, [.slice (some ⟨x, 0, none⟩) c.depth.length c.depth.length])] ∧
      H' = [HO.row (.slice (some ⟨x, 0, none⟩) c.depth.length c.depth.length) 3 1 (ints (arrL c g A T k))]) (fun b => b = bt) (forthR w bb bf (.slice aD nD cD) (.slice aT nT cT) (.slice aS nS cS))
    (HImp.sub (List.Sublist.append (List.Sublist.refl _) ((List.singleton_sublist.2 hN1).trans (List.sublist_append_left _ _)))) (fun b hb => ⟨_, List.mem_cons_self, hb⟩) (fun b hb => forth_Rs w hw bb bf bt _ _ _ _ _ _ b hb) (fun w' hp => forth_hit w hw bb bf bt _ _ _ c hc0 hok g A T ha.2 ht.2 hn144 _ w' hp) ⟨rfl, rfl⟩ ?_ ?_ ?_
  · rintro k vs F ⟨y, rfl, _⟩
    rfl
  · rintro k vs F L' H' hk ⟨y, rfl, rfl⟩ - ⟨rfl, rfl⟩
    simp (config := { maxSteps := 4000000 }) only [↓sx0, ↓sx1, ↓sx2, ↓sx3, ↓sx4, ↓sx5, ↓sx6, sx0, sx1, sx2, sx3, sx4, sx5, sx6, tf37, ev3_hold, sxo, sxc, sxp, sxq, sxr, sxs, sxl, sxm, Int.reduceBEq, Int.reduceBNe, Int.reduceLT, Int.reduceLE, Int.reduceEq, Int.reduceGT, Int.reduceGE, Int.reduceToNat, ↓reduceIte, List.reduceReplicate, Nat.reduceAdd, Nat.reduceSub, Nat.reduceMul, Nat.reduceLT, Nat.reduceLeDiff, Nat.reduceBEq, Nat.reduceEqDiff, det0]
    refine CallOb.mut (A := [HO.row (.slice (some ⟨x, 0, none⟩) c.depth.length c.depth.length) 3 1 (ints (arrL c g A T k))]) (B := [HO.ro (HO.row (.slice (some ⟨y, 0, none⟩) c.depth.length c.depth.length) 4 1 (bools (setN c g A T k)))]) (HImp.swap _ _ _ _) (fun b ⟨h, hh, hb⟩ => ⟨h, hh, by rw [List.mem_singleton] at hh; subst hh; exact hb⟩) (fun w' hp => ?_) ?_ (Post := fun r N => r = .tuple #[] ∧ N = [HO.row (.slice (some ⟨x, 0, none⟩) c.depth.length c.depth.length) 3 1 (ints (arrL c g A T (k + 1)))])
    · have hnd := (List.pairwise_cons.1 hp.nd).1 _ List.mem_cons_self
      have := mark_fn w' ⟨x, 0, none⟩ c.depth.length (arrL c g A T k) (.slice (some ⟨y, 0, none⟩) c.depth.length c.depth.length) (setN c g A T k) ((T + k : Nat) : Int) (by rw [← hrO]; exact hp.ok _ List.mem_cons_self) (ro_hp (List.mem_cons_of_mem _ List.mem_cons_self) hp) (fun e => by
        have e2 : y = x := by simpa [Value.ownBlock] using e
        subst e2
        exact (hnd y rfl rfl).1 rfl) (by rw [setN_len, arrL_len]) (by rw [arrL_len]; omega)
      rw [← hrO, arrL_len] at this
      refine this.mono fun r N h => ⟨h.1, ?_⟩
      rw [h.2, arrL, arrL_len]
    · rintro r3 N3 ⟨rfl, rfl⟩
      simp (config := { maxSteps := 4000000 }) only [↓sx0, ↓sx1, ↓sx2, ↓sx3, ↓sx4, ↓sx5, ↓sx6, sx0, sx1, sx2, sx3, sx4, sx5, sx6, tf37, ev3_hold, sxo, sxc, sxp, sxq, sxr, sxs, sxl, sxm, Int.reduceBEq, Int.reduceBNe, Int.reduceLT, Int.reduceLE, Int.reduceEq, Int.reduceGT, Int.reduceGE, Int.reduceToNat, ↓reduceIte, List.reduceReplicate, Nat.reduceAdd, Nat.reduceSub, Nat.reduceMul, Nat.reduceLT, Nat.reduceLeDiff, Nat.reduceBEq, Nat.reduceEqDiff]
      exact ⟨_, HImp.sub (.cons_cons _ (List.nil_sublist _)), rfl⟩
  · rintro L' H' - ⟨rfl, rfl⟩
    simp (config := { maxSteps := 4000000 }) only [↓sx0, ↓sx1, ↓sx2, ↓sx3, ↓sx4, ↓sx5, ↓sx6, sx0, sx1, sx2, sx3, sx4, sx5, sx6, tf37, ev3_hold, sxo, sxc, sxp, sxq, sxr, sxs, sxl, sxm, Int.reduceBEq, Int.reduceBNe, Int.reduceLT, Int.reduceLE, Int.reduceEq, Int.reduceGT, Int.reduceGE, Int.reduceToNat, ↓reduceIte, List.reduceReplicate, Nat.reduceAdd, Nat.reduceSub, Nat.reduceMul, Nat.reduceLT, Nat.reduceLeDiff, Nat.reduceBEq, Nat.reduceEqDiff]
    exact .inr ⟨x, rfl, List.mem_cons_self⟩

end Go.Proofs.YtcnjhgnlcnmagaaDoor

namespace Go.Proofs.YtcnjhgnlcnmagaaDoor
open Go.RowKit Go.SX
set_option maxRecDepth 4000
set_option maxHeartbeats 8000000
set_option linter.unusedSimpArgs false
set_option linter.unusedVariables false

/-! ### The last tick in which a boat can still leave each cell -/

/-- From where a boat can be in a cell in a tick, some ticks before. -/
def dpN (c : Cht) (g : Int) (k t : Nat) : Nat → List Bool
  | 0 => (List.replicate c.depth.length false).set k (decide (c.over k t (c.tlo t) ≥ g))
  | i + 1 => sprK c g (t - (i + 1)) (dpN c g k t i) (dpN c g k t i).length

theorem dpN_len (c : Cht) (g : Int) (k t : Nat) : ∀ i, (dpN c g k t i).length = c.depth.length
  | 0 => by simp [dpN]
  | i + 1 => by rw [dpN, sprK_len, dpN_len c g k t i]

def depL (c : Cht) (g : Int) (k t : Nat) : Nat → List Int
  | 0 => List.replicate c.depth.length (-1)
  | i + 1 => markK (depL c g k t i) (dpN c g k t i) ((t - i : Nat) : Int) (depL c g k t i).length

theorem depL_len (c : Cht) (g : Int) (k t : Nat) : ∀ i, (depL c g k t i).length = c.depth.length
  | 0 => by simp [depL]
  | i + 1 => by rw [depL, markK_len, depL_len c g k t i]

theorem depL_get (c : Cht) (g : Int) (k t x : Nat) (hx : x < c.depth.length) : ∀ m, (∃ i, i < m ∧ (dpN c g k t i).getD x false = true ∧ (∀ j, j < i → (dpN c g k t j).getD x false = false) ∧ (depL c g k t m).getD x 0 = ((t - i : Nat) : Int)) ∨ ((∀ i, i < m → (dpN c g k t i).getD x false = false) ∧ (depL c g k t m).getD x 0 = -1)
  | 0 => .inr ⟨by simp, by simp [depL, List.getD_eq_getElem?_getD, List.getElem?_replicate, hx]⟩
  | m + 1 => by
    have hl := depL_len c g k t m
    have hg := markK_get (depL c g k t m) (dpN c g k t m) ((t - m : Nat) : Int) x (by omega) (depL c g k t m).length
    rw [depL]
    rcases depL_get c g k t x hx m with ⟨i, hi, h1, h2, h3⟩ | ⟨h1, h2⟩
    · refine .inl ⟨i, by omega, h1, h2, ?_⟩
      rw [hg, if_neg, h3]
      rintro ⟨_, _, h⟩
      omega
    · cases hS : (dpN c g k t m).getD x false with
      | true =>
        refine .inl ⟨m, by omega, hS, h1, ?_⟩
        rw [hg, if_pos ⟨by omega, hS, h2⟩]
      | false =>
        refine .inr ⟨fun i hi => ?_, ?_⟩
        · by_cases h : i < m
          · exact h1 i h
          · rw [show i = m by omega]
            exact hS
        · rw [hg, if_neg, h2]
          rw [hS]
          simp

theorem dpN_succ (c : Cht) (hok : c.ok) (g : Int) (k t i x : Nat) (hx : x < c.depth.length) : (dpN c g k t (i + 1)).getD x false = true ↔ c.flt g (t - (i + 1)) x = true ∧ ∃ y ∈ nbL c.W c.H x, (dpN c g k t i).getD y false = true := by
  obtain ⟨eW, eH, hW, hH, hlen⟩ := hok.dims
  have hl := dpN_len c g k t i
  rw [dpN, sprK_get c g _ x _ (by omega)]
  constructor
  · rintro ⟨h1, y, hy, h2, h3⟩
    exact ⟨h1, y, nb_symm (by omega) h3, h2⟩
  · rintro ⟨h1, y, hy, h2⟩
    have := nbL_lt (by omega) y hy
    exact ⟨h1, y, by omega, h2, nb_symm (by omega) hy⟩

theorem depart_fn (w : World) (hw : Ways w) (v : Value) (c : Cht) (hc : ChOk w v c) (hsm : c.small) (g a t : Int) :
    SX.Fn Tryd.prog 47 [v, I g, I a, I t] w (fun _ => False) fun r N => (openE c [a] [t] [g] ≠ 0 ∧ r = .tuple #[.slice none 0 0, I (openE c [a] [t] [g])]) ∨
      (openE c [a] [t] [g] = 0 ∧ ∃ x, r = .tuple #[.slice (some ⟨x, 0, none⟩) c.depth.length c.depth.length, I 0] ∧ HO.row (.slice (some ⟨x, 0, none⟩) c.depth.length c.depth.length) 3 1 (ints (depL c g a.toNat t.toNat (t.toNat + 1))) ∈ N) := by
  have hc0 := hc
  obtain ⟨sD, sT, sS, rfl, hsD, hsT, hsS⟩ := hc
  obtain ⟨aD, nD, cD, rfl⟩ := hsD.shape
  obtain ⟨aT, nT, cT, rfl⟩ := hsT.shape
  obtain ⟨aS, nS, cS, rfl⟩ := hsS.shape
  refine walk [] [] (det0_ok _ _) Tryd.func47 rfl Tryd.ntmps47 res47 (by kernel_rfl) no_facts ?_
  simp (config := { maxSteps := 4000000 }) only [↓sx0, ↓sx1, ↓sx2, ↓sx3, ↓sx4, ↓sx5, ↓sx6, sx0, sx1, sx2, sx3, sx4, sx5, sx6, tf47, ev3_hold, sxo, sxc, sxp, sxq, sxr, sxs, sxl, sxm, Int.reduceBEq, Int.reduceBNe, Int.reduceLT, Int.reduceLE, Int.reduceEq, Int.reduceGT, Int.reduceGE, Int.reduceToNat, ↓reduceIte, List.reduceReplicate, Nat.reduceAdd, Nat.reduceSub, Nat.reduceMul, Nat.reduceLT, Nat.reduceLeDiff, Nat.reduceBEq, Nat.reduceEqDiff, det0]
  intro b1 b2
  refine CallOb.pureH (fun w' hp => sail_fn w' _ _ _ _ _ c g [a] [t] (hc0.hp hp) hsm (row_hp (E := 3) (xs := ints [a]) (by simp [cat, i1]) hp) (row_hp (E := 3) (xs := ints [t]) (by simp [cat, i1]) hp) (by simp)) ?_
  rintro r N rfl
  by_cases he : openE c [a] [t] [g] = 0
  case neg =>
    have e1 : (openE c [a] [t] [g] = 0) = False := eq_false he
    refine ⟨?_⟩
    simp (config := { maxSteps := 4000000 }) only [↓sx0, ↓sx1, ↓sx2, ↓sx3, ↓sx4, ↓sx5, ↓sx6, sx0, sx1, sx2, sx3, sx4, sx5, sx6, tf47, ev3_hold, sxo, sxc, sxp, sxq, sxr, sxs, sxl, sxm, Int.reduceBEq, Int.reduceBNe, Int.reduceLT, Int.reduceLE, Int.reduceEq, Int.reduceGT, Int.reduceGE, Int.reduceToNat, ↓reduceIte, List.reduceReplicate, Nat.reduceAdd, Nat.reduceSub, Nat.reduceMul, Nat.reduceLT, Nat.reduceLeDiff, Nat.reduceBEq, Nat.reduceEqDiff, e1]
    exact .inl trivial
  have hz := openE_zero he
  obtain ⟨hok, hcl, htl, hgl⟩ := hz
  have ha := hcl a (by simp)
  have ht := htl t (by simp)
  have hdm := hok.dims
  obtain ⟨eW, eH, hW, hH, hlen⟩ := hdm
  have h60 := hok.2.2.2.1.2
  have hn144 : c.depth.length < 200 := by
    have := Nat.mul_le_mul hW.2 hH.2
    omega
  have hA' : ∃ A : Nat, a = A := ⟨a.toNat, by omega⟩
  have hT' : ∃ T : Nat, t = T := ⟨t.toNat, by omega⟩
  obtain ⟨A, hA⟩ := hA'
  obtain ⟨T, hT⟩ := hT'
  subst hA hT
  simp only [Int.toNat_natCast] at ha ht
  rw [he]
  refine ⟨?_⟩
  simp (config := { maxSteps := 4000000 }) only [↓sx0, ↓sx1, ↓sx2, ↓sx3, ↓sx4, ↓sx5, ↓sx6, sx0, sx1, sx2, sx3, sx4, sx5, sx6, tf47, ev3_hold, sxo, sxc, sxp, sxq, sxr, sxs, sxl, sxm, Int.reduceBEq, Int.reduceBNe, Int.reduceLT, Int.reduceLE, Int.reduceEq, Int.reduceGT, Int.reduceGE, Int.reduceToNat, ↓reduceIte, List.reduceReplicate, Nat.reduceAdd, Nat.reduceSub, Nat.reduceMul, Nat.reduceLT, Nat.reduceLeDiff, Nat.reduceBEq, Nat.reduceEqDiff, det0]
  refine CallOb.pureH (fun w' hp => row_fn w' _ _ _ _ _ (-1) c.depth (hsD.hp (fun _ _ => id) hp) hn144 (by omega)) ?_
  rintro r0 N1 ⟨x, rfl, hN1⟩
  refine ⟨?_⟩
  simp (config := { maxSteps := 4000000 }) only [↓sx0, ↓sx1, ↓sx2, ↓sx3, ↓sx4, ↓sx5, ↓sx6, sx0, sx1, sx2, sx3, sx4, sx5, sx6, tf47, ev3_hold, sxo, sxc, sxp, sxq, sxr, sxs, sxl, sxm, Int.reduceBEq, Int.reduceBNe, Int.reduceLT, Int.reduceLE, Int.reduceEq, Int.reduceGT, Int.reduceGE, Int.reduceToNat, ↓reduceIte, List.reduceReplicate, Nat.reduceAdd, Nat.reduceSub, Nat.reduceMul, Nat.reduceLT, Nat.reduceLeDiff, Nat.reduceBEq, Nat.reduceEqDiff, det0]
  refine CallOb.pureH (fun w' hp => begin_fn w' _ _ _ c (hc0.hp hp) hok g A T ha.2 ht.2 hn144) ?_
  rintro r1 N2 ⟨y, rfl, hN2⟩
  refine ⟨?_⟩
  have hrO : ∀ i, HO.row (.slice (some ⟨x, 0, none⟩) c.depth.length c.depth.length) 3 1 (ints (depL c g A T i)) = HO.row (.slice (some ⟨x, 0, none⟩) (depL c g A T i).length c.depth.length) 3 1 (ints (depL c g A T i)) := fun i => by rw [depL_len]
  refine loop_constH [HO.row (.slice (some ⟨x, 0, none⟩) c.depth.length c.depth.length) 3 1 (ints (depL c g A T 0)), HO.ro (HO.row (.slice (some ⟨y, 0, none⟩) c.depth.length c.depth.length) 4 1 (bools (dpN c g A T 0)))]
    (((HImp.sub (List.Sublist.append (List.singleton_sublist.2 hN2) ((List.singleton_sublist.2 hN1).trans (List.sublist_append_left _ _)))).trans (HImp.ro _ _ _)).trans (HImp.swap _ _ _ _)) [(8, 9), (13, 14), (36, 49)] (fun s : Nat × Nat => [(13, .slice (some ⟨s.2, 0, none⟩) c.depth.length c.depth.length), (14, I ((T - s.1 : Nat) : Int))])
    (fun s H1 => s.1 ≤ T ∧ H1 = [HO.row (.slice (some ⟨x, 0, none⟩) c.depth.length c.depth.length) 3 1 (ints (depL c g A T s.1)), HO.ro (HO.row (.slice (some ⟨s.2, 0, none⟩) c.depth.length c.depth.length) 4 1 (bools (dpN c g A T s.1)))]) (fun s => T - s.1) (0, y) ?_ ⟨Nat.zero_le _, rfl⟩ ?_
  · simp (config := { maxSteps := 4000000 }) only [↓sx0, ↓sx1, ↓sx2, ↓sx3, ↓sx4, ↓sx5, ↓sx6, sx0, sx1, sx2, sx3, sx4, sx5, sx6, tf47, ev3_hold, sxo, sxc, sxp, sxq, sxr, sxs, sxl, sxm, Int.reduceBEq, Int.reduceBNe, Int.reduceLT, Int.reduceLE, Int.reduceEq, Int.reduceGT, Int.reduceGE, Int.reduceToNat, ↓reduceIte, List.reduceReplicate, Nat.reduceAdd, Nat.reduceSub, Nat.reduceMul, Nat.reduceLT, Nat.reduceLeDiff, Nat.reduceBEq, Nat.reduceEqDiff]
    simp
  · rintro ⟨i, y1⟩ H1 g1 ⟨hi, rfl⟩
    simp only [] at hi
    refine ⟨?_⟩
    simp (config := { maxSteps := 4000000 }) only [↓sx0, ↓sx1, ↓sx2, ↓sx3, ↓sx4, ↓sx5, ↓sx6, sx0, sx1, sx2, sx3, sx4, sx5, sx6, tf47, ev3_hold, sxo, sxc, sxp, sxq, sxr, sxs, sxl, sxm, Int.reduceBEq, Int.reduceBNe, Int.reduceLT, Int.reduceLE, Int.reduceEq, Int.reduceGT, Int.reduceGE, Int.reduceToNat, ↓reduceIte, List.reduceReplicate, Nat.reduceAdd, Nat.reduceSub, Nat.reduceMul, Nat.reduceLT, Nat.reduceLeDiff, Nat.reduceBEq, Nat.reduceEqDiff, det0]
    refine CallOb.mutH (A := [HO.row (.slice (some ⟨x, 0, none⟩) c.depth.length c.depth.length) 3 1 (ints (depL c g A T i))]) (B := [HO.ro (HO.row (.slice (some ⟨y1, 0, none⟩) c.depth.length c.depth.length) 4 1 (bools (dpN c g A T i)))]) (HImp.refl _ _) (fun b ⟨h, hh, hb⟩ => ⟨h, hh, by rw [List.mem_singleton] at hh; subst hh; exact hb⟩) (fun w' hp => ?_) ?_ (Post := fun r N => r = .tuple #[] ∧ N = [HO.row (.slice (some ⟨x, 0, none⟩) c.depth.length c.depth.length) 3 1 (ints (depL c g A T (i + 1)))])
    · have hnd := (List.pairwise_cons.1 hp.nd).1 _ List.mem_cons_self
      have := mark_fn w' ⟨x, 0, none⟩ c.depth.length (depL c g A T i) (.slice (some ⟨y1, 0, none⟩) c.depth.length c.depth.length) (dpN c g A T i) ((T - i : Nat) : Int) (by rw [← hrO]; exact hp.ok _ List.mem_cons_self) (ro_hp (List.mem_cons_of_mem _ List.mem_cons_self) hp) (fun e => by
        have e2 : y1 = x := by simpa [Value.ownBlock] using e
        subst e2
        exact (hnd y1 rfl rfl).1 rfl) (by rw [dpN_len, depL_len]) (by rw [depL_len]; omega)
      rw [← hrO, depL_len] at this
      refine this.mono fun r N h => ⟨h.1, ?_⟩
      rw [h.2, depL, depL_len]
    · rintro r3 N3 ⟨rfl, rfl⟩
      by_cases hiT : i = T
      · have e1 : (((T - i : Nat) : Int) = 0) = True := eq_true (by omega)
        refine ⟨?_⟩
        simp (config := { maxSteps := 4000000 }) only [↓sx0, ↓sx1, ↓sx2, ↓sx3, ↓sx4, ↓sx5, ↓sx6, sx0, sx1, sx2, sx3, sx4, sx5, sx6, tf47, ev3_hold, sxo, sxc, sxp, sxq, sxr, sxs, sxl, sxm, Int.reduceBEq, Int.reduceBNe, Int.reduceLT, Int.reduceLE, Int.reduceEq, Int.reduceGT, Int.reduceGE, Int.reduceToNat, ↓reduceIte, List.reduceReplicate, Nat.reduceAdd, Nat.reduceSub, Nat.reduceMul, Nat.reduceLT, Nat.reduceLeDiff, Nat.reduceBEq, Nat.reduceEqDiff, e1]
        subst hiT
        exact .inr ⟨x, rfl, List.mem_cons_self⟩
      · have e1 : (((T - i : Nat) : Int) = 0) = False := eq_false (by omega)
        have e2 : IntKind.i64.wrap (((T - i : Nat) : Int) - 1) = ((T - (i + 1) : Nat) : Int) := (wrap_id (by omega)).trans (by omega)
        refine ⟨?_⟩
        simp (config := { maxSteps := 4000000 }) only [↓sx0, ↓sx1, ↓sx2, ↓sx3, ↓sx4, ↓sx5, ↓sx6, sx0, sx1, sx2, sx3, sx4, sx5, sx6, tf47, ev3_hold, sxo, sxc, sxp, sxq, sxr, sxs, sxl, sxm, Int.reduceBEq, Int.reduceBNe, Int.reduceLT, Int.reduceLE, Int.reduceEq, Int.reduceGT, Int.reduceGE, Int.reduceToNat, ↓reduceIte, List.reduceReplicate, Nat.reduceAdd, Nat.reduceSub, Nat.reduceMul, Nat.reduceLT, Nat.reduceLeDiff, Nat.reduceBEq, Nat.reduceEqDiff, e1, e2, det0]
        rw [e2]
        refine CallOb.pureH (args := [.agg #[I c.wide, I c.high, .slice aD nD cD, .slice aT nT cT, .slice aS nS cS, I g], .slice (some ⟨y1, 0, none⟩) c.depth.length c.depth.length, I ((T - (i + 1) : Nat) : Int)]) (fun w' hp => spread_fn w' (hw.hp hp) (.slice aD nD cD) (.slice aT nT cT) (.slice aS nS cS) (.slice (some ⟨y1, 0, none⟩) c.depth.length c.depth.length) c (hc0.hp hp) hok g (dpN c g A T i) (ro_hp (List.mem_cons_of_mem _ List.mem_cons_self) hp) (dpN_len ..) (T - (i + 1)) (by omega) hn144) ?_
        rintro r4 N4 ⟨y2, rfl, hN4⟩
        have e5 : dpN c g A T (i + 1) = sprK c g (T - (i + 1)) (dpN c g A T i) (dpN c g A T i).length := by rw [dpN]
        rw [← e5] at hN4
        refine ⟨?_⟩
        refine ⟨(i + 1, y2), _, ⟨rfl, rfl⟩, rfl, (((HImp.sub ((List.singleton_sublist.2 hN4).append (.cons_cons _ (List.nil_sublist _)))).trans (HImp.ro _ _ _)).trans (HImp.swap _ _ _ _)), ⟨by omega, ?_⟩, by omega⟩
        rfl

end Go.Proofs.YtcnjhgnlcnmagaaDoor

namespace Go.Proofs.YtcnjhgnlcnmagaaDoor
open Go.RowKit Go.SX
set_option linter.unusedSimpArgs false
set_option linter.unusedVariables false

/-! ### The least numbers of moves: plain -/

/-- What it costs to go to a neighbour, or to stay. -/
def cst (y x : Nat) : Int := if x = y then 0 else 1

theorem cst_bd (y x : Nat) : 0 ≤ cst y x ∧ cst y x ≤ 1 := by unfold cst; split <;> omega

theorem cst_symm (y x : Nat) : cst y x = cst x y := by
  unfold cst
  by_cases h : x = y
  · rw [if_pos h, if_pos h.symm]
  · rw [if_neg h, if_neg (fun q => h q.symm)]

/-- A number is the least one of some, or -1 if there are none. -/
def Lst (P : Int → Prop) (v : Int) : Prop := (v = -1 ∧ ∀ m, ¬ P m) ∨ (0 ≤ v ∧ P v ∧ ∀ m, P m → v ≤ m)

theorem Lst.uniq {P : Int → Prop} {v u : Int} (h : Lst P v) (k : Lst P u) : v = u := by
  rcases h with ⟨h1, h2⟩ | ⟨h1, h2, h3⟩ <;> rcases k with ⟨k1, k2⟩ | ⟨k1, k2, k3⟩
  · omega
  · exact absurd k2 (h2 _)
  · exact absurd h2 (k2 _)
  · have := h3 _ k2
    have := k3 _ h2
    omega

theorem Lst.congr {P Q : Int → Prop} {v : Int} (h : Lst P v) (e : ∀ m, P m ↔ Q m) : Lst Q v := by
  have : P = Q := funext fun m => propext (e m)
  exact this ▸ h

theorem Lst.ge {P : Int → Prop} {v : Int} (h : Lst P v) : -1 ≤ v := by rcases h with ⟨h1, _⟩ | ⟨h1, _⟩ <;> omega

theorem Lst.pos {P : Int → Prop} {v : Int} (h : Lst P v) : 0 ≤ v ↔ ∃ m, P m := by
  rcases h with ⟨h1, h2⟩ | ⟨h1, h2, h3⟩
  · exact ⟨fun h => absurd h (by omega), fun ⟨m, h⟩ => absurd h (h2 m)⟩
  · exact ⟨fun _ => ⟨_, h2⟩, fun _ => h1⟩

/-- One more number. -/
theorem Lst.more {P : Int → Prop} {v n : Int} (h : Lst P v) (hn : 0 ≤ n) : Lst (fun m => P m ∨ m = n) (if v = -1 ∨ n < v then n else v) := by
  rcases h with ⟨h1, h2⟩ | ⟨h1, h2, h3⟩
  · rw [if_pos (.inl h1)]
    refine .inr ⟨hn, .inr rfl, ?_⟩
    rintro m (h | rfl)
    · exact absurd h (h2 m)
    · exact Int.le_refl _
  · by_cases hv : n < v
    · rw [if_pos (.inr hv)]
      refine .inr ⟨hn, .inr rfl, ?_⟩
      rintro m (h | rfl)
      · have := h3 m h
        omega
      · exact Int.le_refl _
    · rw [if_neg (by omega)]
      refine .inr ⟨h1, .inl h2, ?_⟩
      rintro m (h | rfl)
      · exact h3 m h
      · omega

/-- What Moves writes for one neighbour of a cell. -/
def rlx (c : Cht) (g : Int) (t k : Nat) (n : Int) (o : List Int) (x : Nat) : List Int :=
  if c.flt g t x = true ∧ (lv o x = -1 ∨ n + cst k x < lv o x) then o.set x (n + cst k x) else o

theorem rlx_len (c : Cht) (g : Int) (t k : Nat) (n : Int) (o : List Int) (x : Nat) : (rlx c g t k n o x).length = o.length := by
  unfold rlx
  split <;> simp

/-- What it writes for some neighbours. -/
def rlxN (c : Cht) (g : Int) (t k : Nat) (n : Int) (ns : List Nat) (o : List Int) : List Int := ns.foldl (rlx c g t k n) o

theorem rlxN_len (c : Cht) (g : Int) (t k : Nat) (n : Int) : ∀ (ns : List Nat) (o : List Int), (rlxN c g t k n ns o).length = o.length
  | [], _ => rfl
  | x :: ns, o => by rw [rlxN, List.foldl_cons]; exact (rlxN_len c g t k n ns _).trans (rlx_len ..)

theorem rlxN_snoc (c : Cht) (g : Int) (t k : Nat) (n : Int) (ns : List Nat) (o : List Int) (x : Nat) : rlxN c g t k n (ns ++ [x]) o = rlx c g t k n (rlxN c g t k n ns o) x := by
  rw [rlxN, List.foldl_append]
  rfl

/-- What it has written behind the first cells. -/
def mvK (c : Cht) (g : Int) (t : Nat) (l : List Int) : Nat → List Int
  | 0 => List.replicate l.length (-1)
  | k + 1 => if lv l k = -1 then mvK c g t l k else rlxN c g t k (lv l k) (nbL c.W c.H k) (mvK c g t l k)

theorem mvK_len (c : Cht) (g : Int) (t : Nat) (l : List Int) : ∀ k, (mvK c g t l k).length = l.length
  | 0 => by simp [mvK]
  | k + 1 => by
    unfold mvK
    split
    · exact mvK_len c g t l k
    · rw [rlxN_len, mvK_len c g t l k]

/-- The least numbers of moves some ticks later. -/
def mvL (c : Cht) (g : Int) (k t : Nat) : Nat → List Int
  | 0 => if c.flt g t k then (List.replicate c.depth.length (-1)).set k 0 else List.replicate c.depth.length (-1)
  | i + 1 => mvK c g (t + i + 1) (mvL c g k t i) (mvL c g k t i).length

theorem mvL_len (c : Cht) (g : Int) (k t : Nat) : ∀ i, (mvL c g k t i).length = c.depth.length
  | 0 => by
    unfold mvL
    split <;> simp
  | i + 1 => by rw [mvL, mvK_len, mvL_len c g k t i]

theorem rlx_lst {c : Cht} {g : Int} {t k : Nat} {n : Int} {o : List Int} {y x : Nat} {P : Int → Prop} (hn : 0 ≤ n) (hy : y < o.length) (h : Lst P (lv o x)) :
    Lst (fun m => P m ∨ (x = y ∧ c.flt g t x = true ∧ m = n + cst k x)) (lv (rlx c g t k n o y) x) := by
  have hc := cst_bd k x
  by_cases hxy : x = y
  · subst hxy
    cases hf : c.flt g t x with
    | false =>
      unfold rlx
      rw [hf, if_neg (by simp)]
      exact h.congr fun m => by simp
    | true =>
      have e : lv (rlx c g t k n o x) x = if lv o x = -1 ∨ n + cst k x < lv o x then n + cst k x else lv o x := by
        unfold rlx
        rw [hf]
        by_cases hh : lv o x = -1 ∨ n + cst k x < lv o x
        · rw [if_pos ⟨rfl, hh⟩, if_pos hh, lv_set hy, if_pos rfl]
        · rw [if_neg (fun q => hh q.2), if_neg hh]
      rw [e]
      exact (h.more (n := n + cst k x) (by omega)).congr fun m => by simp
  · have e : lv (rlx c g t k n o y) x = lv o x := by
      unfold rlx
      split
      · rw [lv_set hy, if_neg hxy]
      · rfl
    rw [e]
    exact h.congr fun m => by simp [hxy]

theorem rlxN_lst {c : Cht} {g : Int} {t k : Nat} {n : Int} (hn : 0 ≤ n) {x : Nat} : ∀ (ns : List Nat) {o : List Int} {P : Int → Prop}, (∀ y ∈ ns, y < o.length) → Lst P (lv o x) →
    Lst (fun m => P m ∨ (x ∈ ns ∧ c.flt g t x = true ∧ m = n + cst k x)) (lv (rlxN c g t k n ns o) x)
  | [], o, P, _, h => h.congr fun m => by simp
  | y :: ns, o, P, hy, h => by
    rw [rlxN, List.foldl_cons]
    have h1 := rlx_lst (c := c) (g := g) (t := t) (k := k) hn (hy y List.mem_cons_self) h
    have h2 := rlxN_lst (c := c) (g := g) (t := t) (k := k) hn ns (o := rlx c g t k n o y) (fun z hz => by rw [rlx_len]; exact hy z (List.mem_cons_of_mem _ hz)) h1
    refine h2.congr fun m => ?_
    simp only [List.mem_cons]
    constructor
    · rintro ((h | ⟨a, b⟩) | ⟨a, b⟩)
      · exact .inl h
      · exact .inr ⟨.inl a, b⟩
      · exact .inr ⟨.inr a, b⟩
    · rintro (h | ⟨a | a, b⟩)
      · exact .inl (.inl h)
      · exact .inl (.inr ⟨a, b⟩)
      · exact .inr ⟨a, b⟩

theorem mvK_lst {c : Cht} (hok : c.ok) {g : Int} {t : Nat} {l : List Int} (hl : l.length = c.depth.length) (h0 : ∀ y, -1 ≤ lv l y) {x : Nat} (hx : x < l.length) : ∀ K, K ≤ l.length →
    Lst (fun m => ∃ y, y < K ∧ 0 ≤ lv l y ∧ x ∈ nbL c.W c.H y ∧ c.flt g t x = true ∧ m = lv l y + cst y x) (lv (mvK c g t l K) x)
  | 0, _ => .inl ⟨by simp [mvK, lv, List.getD_eq_getElem?_getD, List.getElem?_replicate, hx], fun m ⟨y, h, _⟩ => by omega⟩
  | K + 1, hK => by
    obtain ⟨eW, eH, hW, hH, hlen⟩ := hok.dims
    have ih := mvK_lst hok (g := g) (t := t) hl h0 hx K (by omega)
    have hk := h0 K
    rw [mvK]
    by_cases h1 : lv l K = -1
    · rw [if_pos h1]
      refine ih.congr fun m => ⟨fun ⟨y, h, r⟩ => ⟨y, by omega, r⟩, fun ⟨y, h, r⟩ => ⟨y, ?_, r⟩⟩
      by_cases hy : y = K
      · subst hy
        have := r.1
        omega
      · omega
    · rw [if_neg h1]
      have h2 := rlxN_lst (c := c) (g := g) (t := t) (k := K) (n := lv l K) (by omega) (nbL c.W c.H K) (o := mvK c g t l K) (fun y hy => by
        have := nbL_lt (by omega : K < c.W * c.H) y hy
        rw [mvK_len]
        omega) ih
      refine h2.congr fun m => ?_
      constructor
      · rintro (⟨y, h, r⟩ | ⟨a, b, d⟩)
        · exact ⟨y, by omega, r⟩
        · exact ⟨K, by omega, by omega, a, b, d⟩
      · rintro ⟨y, h, r1, r2, r3, r4⟩
        by_cases hy : y = K
        · subst hy
          exact .inr ⟨r2, r3, r4⟩
        · exact .inl ⟨y, by omega, r1, r2, r3, r4⟩

theorem mvL_ge {c : Cht} (hok : c.ok) {g : Int} {k t : Nat} : ∀ i y, -1 ≤ lv (mvL c g k t i) y
  | 0, y => by
    by_cases hy : y < c.depth.length
    · unfold mvL
      split
      · by_cases hk : k < c.depth.length
        · rw [lv_set (by simpa using hk)]
          split
          · omega
          · simp [lv, List.getD_eq_getElem?_getD, List.getElem?_replicate, hy]
        · rw [List.set_eq_of_length_le (by simp; omega)]
          simp [lv, List.getD_eq_getElem?_getD, List.getElem?_replicate, hy]
      · simp [lv, List.getD_eq_getElem?_getD, List.getElem?_replicate, hy]
    · have : lv (mvL c g k t 0) y = 0 := by
        unfold lv
        rw [List.getD_eq_getElem?_getD, List.getElem?_eq_none (by rw [mvL_len]; omega)]
        rfl
      omega
  | i + 1, y => by
    by_cases hy : y < c.depth.length
    · rw [mvL]
      exact (mvK_lst hok (mvL_len ..) (mvL_ge hok i) (by rw [mvL_len]; exact hy) _ (Nat.le_refl _)).ge
    · have : lv (mvL c g k t (i + 1)) y = 0 := by
        unfold lv
        rw [List.getD_eq_getElem?_getD, List.getElem?_eq_none (by rw [mvL_len]; omega)]
        rfl
      omega

theorem mvL_zero {c : Cht} {g : Int} {k t x : Nat} (hk : k < c.depth.length) (hx : x < c.depth.length) : lv (mvL c g k t 0) x = if x = k ∧ c.flt g t k = true then 0 else -1 := by
  unfold mvL
  cases hf : c.flt g t k with
  | false =>
    simp [lv, List.getD_eq_getElem?_getD, List.getElem?_replicate, hx]
  | true =>
    rw [if_pos rfl, lv_set (by simpa using hk)]
    by_cases h : x = k
    · simp [h]
    · simp [h, lv, List.getD_eq_getElem?_getD, List.getElem?_replicate, hx]

/-- The number of moves in a tick is the least one over the neighbours in the tick before. -/
theorem mvL_succ {c : Cht} (hok : c.ok) {g : Int} {k t i x : Nat} (hx : x < c.depth.length) :
    Lst (fun m => ∃ y, y ∈ nbL c.W c.H x ∧ 0 ≤ lv (mvL c g k t i) y ∧ c.flt g (t + i + 1) x = true ∧ m = lv (mvL c g k t i) y + cst y x) (lv (mvL c g k t (i + 1)) x) := by
  obtain ⟨eW, eH, hW, hH, hlen⟩ := hok.dims
  have hl := mvL_len c g k t i
  rw [mvL]
  refine (mvK_lst hok hl (mvL_ge hok i) (by omega) _ (Nat.le_refl _)).congr fun m => ?_
  constructor
  · rintro ⟨y, hy, h1, h2, h3, h4⟩
    exact ⟨y, nb_symm (by omega) h2, h1, h3, h4⟩
  · rintro ⟨y, h2, h1, h3, h4⟩
    have := nbL_lt (by omega) y h2
    exact ⟨y, by omega, h1, nb_symm (by omega) h2, h3, h4⟩

theorem mvL_le {c : Cht} (hok : c.ok) {g : Int} {k t : Nat} (hk : k < c.depth.length) : ∀ i x, lv (mvL c g k t i) x ≤ i
  | i, x => by
    by_cases hx : x < c.depth.length
    · cases i with
      | zero =>
        rw [mvL_zero hk hx]
        split <;> omega
      | succ i =>
        rcases mvL_succ hok (g := g) (k := k) (t := t) (i := i) hx with ⟨h1, _⟩ | ⟨h1, ⟨y, h2, h3, h4, h5⟩, _⟩
        · omega
        · have := mvL_le hok (g := g) (t := t) hk i y
          have := cst_bd y x
          omega
    · have : lv (mvL c g k t i) x = 0 := by
        unfold lv
        rw [List.getD_eq_getElem?_getD, List.getElem?_eq_none (by rw [mvL_len]; omega)]
        rfl
      omega

theorem mvL_set {c : Cht} (hok : c.ok) {g : Int} {k t : Nat} (hk : k < c.depth.length) : ∀ i x, x < c.depth.length → (0 ≤ lv (mvL c g k t i) x ↔ (setN c g k t i).getD x false = true)
  | 0, x, hx => by
    rw [mvL_zero hk hx, setN]
    by_cases h : x = k
    · subst h
      rw [List.getD_eq_getElem?_getD, List.getElem?_set_self (by simpa using hx)]
      cases hf : c.flt g t x with
      | false =>
        unfold Cht.flt at hf
        simp [hf]
      | true =>
        unfold Cht.flt at hf
        simp [hf]
    · rw [if_neg (fun q => h q.1), List.getD_eq_getElem?_getD, List.getElem?_set_ne (by omega)]
      simp [List.getElem?_replicate, hx]
  | i + 1, x, hx => by
    rw [setN_succ c hok g k t i x hx, (mvL_succ hok hx).pos]
    obtain ⟨eW, eH, hW, hH, hlen⟩ := hok.dims
    constructor
    · rintro ⟨m, y, h1, h2, h3, h4⟩
      exact ⟨h3, y, h1, (mvL_set hok hk i y (by have := nbL_lt (by omega : x < c.W * c.H) y h1; omega)).1 h2⟩
    · rintro ⟨h3, y, h1, h2⟩
      exact ⟨_, y, h1, (mvL_set hok hk i y (by have := nbL_lt (by omega : x < c.W * c.H) y h1; omega)).2 h2, h3, rfl⟩

/-- Without water there is none at all. -/
theorem mvL_dry {c : Cht} (hok : c.ok) {g : Int} {k t : Nat} (hk : k < c.depth.length) (hf : c.flt g t k = false) : ∀ i, mvL c g k t i = List.replicate c.depth.length (-1)
  | 0 => by
    unfold mvL
    rw [hf]
    rfl
  | i + 1 => by
    refine List.ext_getElem? fun x => ?_
    by_cases hx : x < c.depth.length
    · have h := mvL_succ hok (g := g) (k := k) (t := t) (i := i) hx
      rcases h with ⟨h1, _⟩ | ⟨h1, ⟨y, h2, h3, _⟩, _⟩
      · rw [getD_at (show x < (mvL c g k t (i + 1)).length by rw [mvL_len]; exact hx) 0]
        unfold lv at h1
        rw [h1, List.getElem?_replicate, if_pos hx]
      · rw [mvL_dry hok hk hf i] at h3
        exfalso
        obtain ⟨eW, eH, hW, hH, hlen⟩ := hok.dims
        have := nbL_lt (by omega : x < c.W * c.H) y h2
        unfold lv at h3
        rw [List.getD_eq_getElem?_getD, List.getElem?_replicate, if_pos (by omega)] at h3
        simp at h3
    · rw [List.getElem?_eq_none (by rw [mvL_len]; omega), List.getElem?_eq_none (by simp; omega)]

end Go.Proofs.YtcnjhgnlcnmagaaDoor

namespace Go.Proofs.YtcnjhgnlcnmagaaDoor
open Go.RowKit Go.SX
set_option linter.unusedSimpArgs false
set_option linter.unusedVariables false

/-! ### From a cell in a tick to a cell some ticks later: plain -/

/-- A boat of a draught can go from a cell in a tick to a cell some ticks later. -/
def Rr (c : Cht) (g : Int) (t a : Nat) : Nat → Nat → Prop
  | 0, b => b = a ∧ c.flt g t a = true
  | i + 1, b => c.flt g (t + i + 1) b = true ∧ ∃ y ∈ nbL c.W c.H b, Rr c g t a i y

theorem Rr_left {c : Cht} (hok : c.ok) {g : Int} {a : Nat} (ha : a < c.depth.length) : ∀ (i t b : Nat), b < c.depth.length → (Rr c g t a (i + 1) b ↔ c.flt g t a = true ∧ ∃ y ∈ nbL c.W c.H a, Rr c g (t + 1) y i b)
  | 0, t, b, hb => by
    obtain ⟨eW, eH, hW, hH, hlen⟩ := hok.dims
    constructor
    · rintro ⟨h1, y, h2, rfl, h3⟩
      exact ⟨h3, b, nb_symm (by omega) h2, rfl, h1⟩
    · rintro ⟨h3, y, h2, rfl, h1⟩
      exact ⟨h1, a, nb_symm (by omega) h2, rfl, h3⟩
  | i + 1, t, b, hb => by
    obtain ⟨eW, eH, hW, hH, hlen⟩ := hok.dims
    constructor
    · rintro ⟨h1, y, h2, h3⟩
      have hy := nbL_lt (by omega : b < c.W * c.H) y h2
      obtain ⟨h4, z, h5, h6⟩ := (Rr_left hok ha i t y (by omega)).1 h3
      exact ⟨h4, z, h5, (by rw [show t + 1 + i + 1 = t + (i + 1) + 1 by omega]; exact h1), y, h2, h6⟩
    · rintro ⟨h4, z, h5, h1, y, h2, h6⟩
      have hy := nbL_lt (by omega : b < c.W * c.H) y h2
      exact ⟨(by rw [show t + (i + 1) + 1 = t + 1 + i + 1 by omega]; exact h1), y, h2, (Rr_left hok ha i t y (by omega)).2 ⟨h4, z, h5, h6⟩⟩

theorem Rr_flt {c : Cht} {g : Int} {t a : Nat} : ∀ {i b : Nat}, Rr c g t a i b → c.flt g (t + i) b = true
  | 0, b, h => h.1 ▸ h.2
  | i + 1, b, h => h.1

theorem Rr_start {c : Cht} {g : Int} {t a : Nat} : ∀ {i b : Nat}, Rr c g t a i b → c.flt g t a = true
  | 0, b, h => h.2
  | i + 1, b, ⟨_, y, _, h⟩ => Rr_start h

theorem setN_Rr {c : Cht} (hok : c.ok) {g : Int} {k t : Nat} (hk : k < c.depth.length) : ∀ i x, x < c.depth.length → ((setN c g k t i).getD x false = true ↔ Rr c g t k i x)
  | 0, x, hx => by
    rw [setN, Rr]
    by_cases h : x = k
    · subst h
      rw [List.getD_eq_getElem?_getD, List.getElem?_set_self (by simpa using hx)]
      unfold Cht.flt
      simp
    · rw [List.getD_eq_getElem?_getD, List.getElem?_set_ne (by omega)]
      simp [List.getElem?_replicate, hx, h]
  | i + 1, x, hx => by
    rw [setN_succ c hok g k t i x hx, Rr]
    obtain ⟨eW, eH, hW, hH, hlen⟩ := hok.dims
    refine and_congr_right fun _ => exists_congr fun y => and_congr_right fun hy => ?_
    exact setN_Rr hok hk i y (by have := nbL_lt (by omega : x < c.W * c.H) y hy; omega)

theorem dpN_Rr {c : Cht} (hok : c.ok) {g : Int} {k t : Nat} (hk : k < c.depth.length) : ∀ i x, i ≤ t → x < c.depth.length → ((dpN c g k t i).getD x false = true ↔ Rr c g (t - i) x i k)
  | 0, x, hi, hx => by
    rw [dpN, Rr]
    by_cases h : x = k
    · subst h
      rw [List.getD_eq_getElem?_getD, List.getElem?_set_self (by simpa using hx)]
      unfold Cht.flt
      simp
    · rw [List.getD_eq_getElem?_getD, List.getElem?_set_ne (by omega)]
      simp [List.getElem?_replicate, hx, Ne.symm h]
  | i + 1, x, hi, hx => by
    rw [dpN_succ c hok g k t i x hx, Rr_left hok hx i _ k hk]
    obtain ⟨eW, eH, hW, hH, hlen⟩ := hok.dims
    refine and_congr_right fun _ => exists_congr fun y => and_congr_right fun hy => ?_
    rw [show t - (i + 1) + 1 = t - i by omega]
    exact dpN_Rr hok hk i y (by omega) (by have := nbL_lt (by omega : x < c.W * c.H) y hy; omega)

/-- A passage: cells, and in which a boat is in each tick from one on. -/
def isPass (c : Cht) (g : Int) (t : Nat) (p : List Nat) : Prop :=
  p ≠ [] ∧ t + p.length ≤ c.tide.length ∧ ∀ i, i < p.length → p.getD i 0 < c.depth.length ∧ c.flt g (t + i) (p.getD i 0) = true ∧ (0 < i → p.getD i 0 ∈ nbL c.W c.H (p.getD (i - 1) 0))

theorem isPass_Rr {c : Cht} (hok : c.ok) {g : Int} {t : Nat} {p : List Nat} (h : isPass c g t p) : ∀ i, i < p.length → Rr c g t (p.getD 0 0) i (p.getD i 0)
  | 0, hi => ⟨rfl, (h.2.2 0 hi).2.1⟩
  | i + 1, hi => by
    obtain ⟨eW, eH, hW, hH, hlen⟩ := hok.dims
    obtain ⟨h1, h2, h3⟩ := h.2.2 (i + 1) hi
    have h4 := (h.2.2 i (by omega)).1
    exact ⟨by rw [show t + i + 1 = t + (i + 1) by omega]; exact h2, p.getD i 0, nb_symm (by omega) (h3 (by omega)), isPass_Rr hok h i (by omega)⟩

/-- How many moves the first cells of a passage have. -/
def mvs (p : List Nat) : Nat → Int
  | 0 => 0
  | i + 1 => mvs p i + cst (p.getD i 0) (p.getD (i + 1) 0)

theorem isPass_mvs {c : Cht} (hok : c.ok) {g : Int} {t : Nat} {p : List Nat} (h : isPass c g t p) : ∀ i, i < p.length → 0 ≤ lv (mvL c g (p.getD 0 0) t i) (p.getD i 0) ∧ lv (mvL c g (p.getD 0 0) t i) (p.getD i 0) ≤ mvs p i
  | 0, hi => by
    obtain ⟨h1, h2, h3⟩ := h.2.2 0 hi
    rw [mvL_zero h1 h1, if_pos ⟨rfl, h2⟩]
    exact ⟨Int.le_refl _, Int.le_refl _⟩
  | i + 1, hi => by
    obtain ⟨eW, eH, hW, hH, hlen⟩ := hok.dims
    obtain ⟨h1, h2, h3⟩ := h.2.2 (i + 1) hi
    have h4 := (h.2.2 i (by omega)).1
    obtain ⟨h5, h6⟩ := isPass_mvs hok h i (by omega)
    have hs := mvL_succ hok (g := g) (k := p.getD 0 0) (t := t) (i := i) h1
    have hm : p.getD i 0 ∈ nbL c.W c.H (p.getD (i + 1) 0) := nb_symm (by omega) (h3 (by omega))
    have hx := hs.pos.2 ⟨_, p.getD i 0, hm, h5, by rw [show t + i + 1 = t + (i + 1) by omega]; exact h2, rfl⟩
    refine ⟨hx, ?_⟩
    rcases hs with ⟨h7, _⟩ | ⟨_, _, h7⟩
    · omega
    · have := h7 _ ⟨p.getD i 0, hm, h5, by rw [show t + i + 1 = t + (i + 1) by omega]; exact h2, rfl⟩
      rw [mvs]
      omega

end Go.Proofs.YtcnjhgnlcnmagaaDoor

namespace Go.Proofs.YtcnjhgnlcnmagaaDoor
open Go.RowKit Go.SX
set_option maxRecDepth 4000
set_option maxHeartbeats 8000000
set_option linter.unusedSimpArgs false
set_option linter.unusedVariables false

/-! ### The least numbers of moves -/

/-- What Moves answers. -/
def mvR (c : Cht) (g : Int) (k : Nat) (t u : Int) : List Int := if u < t then List.replicate c.depth.length (-1) else mvL c g k t.toNat (u - t).toNat

theorem mvR_len (c : Cht) (g : Int) (k : Nat) (t u : Int) : (mvR c g k t u).length = c.depth.length := by
  unfold mvR
  split
  · simp
  · exact mvL_len ..

theorem moves_fn (w : World) (hw : Ways w) (v : Value) (c : Cht) (hc : ChOk w v c) (hsm : c.small) (g a t u : Int) :
    SX.Fn Tryd.prog 49 [v, I g, I a, I t, I u] w (fun _ => False) fun r N => (openE c [a] [t, u] [g] ≠ 0 ∧ r = .tuple #[.slice none 0 0, I (openE c [a] [t, u] [g])]) ∨
      (openE c [a] [t, u] [g] = 0 ∧ ∃ x, r = .tuple #[.slice (some ⟨x, 0, none⟩) c.depth.length c.depth.length, I 0] ∧ HO.row (.slice (some ⟨x, 0, none⟩) c.depth.length c.depth.length) 3 1 (ints (mvR c g a.toNat t u)) ∈ N) := by
  have hc0 := hc
  obtain ⟨sD, sT, sS, rfl, hsD, hsT, hsS⟩ := hc
  obtain ⟨aD, nD, cD, rfl⟩ := hsD.shape
  obtain ⟨aT, nT, cT, rfl⟩ := hsT.shape
  obtain ⟨aS, nS, cS, rfl⟩ := hsS.shape
  refine walk [15] [] (det0_ok _ _) Tryd.func49 rfl Tryd.ntmps49 res49 (by kernel_rfl) no_facts ?_
  simp (config := { maxSteps := 4000000 }) only [↓sx0, ↓sx1, ↓sx2, ↓sx3, ↓sx4, ↓sx5, ↓sx6, sx0, sx1, sx2, sx3, sx4, sx5, sx6, tf49, ev3_hold, sxo, sxc, sxp, sxq, sxr, sxs, sxl, sxm, Int.reduceBEq, Int.reduceBNe, Int.reduceLT, Int.reduceLE, Int.reduceEq, Int.reduceGT, Int.reduceGE, Int.reduceToNat, ↓reduceIte, List.reduceReplicate, Nat.reduceAdd, Nat.reduceSub, Nat.reduceMul, Nat.reduceLT, Nat.reduceLeDiff, Nat.reduceBEq, Nat.reduceEqDiff, det0]
  intro b1 b2
  refine CallOb.pureH (fun w' hp => sail_fn w' _ _ _ _ _ c g [a] [t, u] (hc0.hp hp) hsm (row_hp (E := 3) (xs := ints [a]) (by simp [cat, i1]) hp) (row_hp (E := 3) (xs := ints [t, u]) (by simp [cat, i1]) hp) (by simp)) ?_
  rintro r N rfl
  by_cases he : openE c [a] [t, u] [g] = 0
  case neg =>
    have e1 : (openE c [a] [t, u] [g] = 0) = False := eq_false he
    refine ⟨?_⟩
    simp (config := { maxSteps := 4000000 }) only [↓sx0, ↓sx1, ↓sx2, ↓sx3, ↓sx4, ↓sx5, ↓sx6, sx0, sx1, sx2, sx3, sx4, sx5, sx6, tf49, ev3_hold, sxo, sxc, sxp, sxq, sxr, sxs, sxl, sxm, Int.reduceBEq, Int.reduceBNe, Int.reduceLT, Int.reduceLE, Int.reduceEq, Int.reduceGT, Int.reduceGE, Int.reduceToNat, ↓reduceIte, List.reduceReplicate, Nat.reduceAdd, Nat.reduceSub, Nat.reduceMul, Nat.reduceLT, Nat.reduceLeDiff, Nat.reduceBEq, Nat.reduceEqDiff, e1]
    exact .inl trivial
  have hz := openE_zero he
  obtain ⟨hok, hcl, htl, hgl⟩ := hz
  have ha := hcl a (by simp)
  have ht := htl t (by simp)
  have hu := htl u (by simp)
  have hdm := hok.dims
  obtain ⟨eW, eH, hW, hH, hlen⟩ := hdm
  have h60 := hok.2.2.2.1.2
  have hn144 : c.depth.length < 200 := by
    have := Nat.mul_le_mul hW.2 hH.2
    omega
  have hA' : ∃ A : Nat, a = A := ⟨a.toNat, by omega⟩
  have hT' : ∃ T : Nat, t = T := ⟨t.toNat, by omega⟩
  have hU' : ∃ U : Nat, u = U := ⟨u.toNat, by omega⟩
  obtain ⟨A, hA⟩ := hA'
  obtain ⟨T, hT⟩ := hT'
  obtain ⟨U, hU⟩ := hU'
  subst hA hT hU
  simp only [Int.toNat_natCast] at ha ht hu
  rw [he]
  refine ⟨?_⟩
  simp (config := { maxSteps := 4000000 }) only [↓sx0, ↓sx1, ↓sx2, ↓sx3, ↓sx4, ↓sx5, ↓sx6, sx0, sx1, sx2, sx3, sx4, sx5, sx6, tf49, ev3_hold, sxo, sxc, sxp, sxq, sxr, sxs, sxl, sxm, Int.reduceBEq, Int.reduceBNe, Int.reduceLT, Int.reduceLE, Int.reduceEq, Int.reduceGT, Int.reduceGE, Int.reduceToNat, ↓reduceIte, List.reduceReplicate, Nat.reduceAdd, Nat.reduceSub, Nat.reduceMul, Nat.reduceLT, Nat.reduceLeDiff, Nat.reduceBEq, Nat.reduceEqDiff, det0]
  refine CallOb.pureH (fun w' hp => row_fn w' _ _ _ _ _ (-1) c.depth (hsD.hp (fun _ _ => id) hp) hn144 (by omega)) ?_
  rintro r0 N1 ⟨x, rfl, hN1⟩
  by_cases hut : U < T
  case pos =>
    have e1 : ((U : Int) < (T : Int)) = True := eq_true (by omega)
    refine ⟨?_⟩
    simp (config := { maxSteps := 4000000 }) only [↓sx0, ↓sx1, ↓sx2, ↓sx3, ↓sx4, ↓sx5, ↓sx6, sx0, sx1, sx2, sx3, sx4, sx5, sx6, tf49, ev3_hold, sxo, sxc, sxp, sxq, sxr, sxs, sxl, sxm, Int.reduceBEq, Int.reduceBNe, Int.reduceLT, Int.reduceLE, Int.reduceEq, Int.reduceGT, Int.reduceGE, Int.reduceToNat, ↓reduceIte, List.reduceReplicate, Nat.reduceAdd, Nat.reduceSub, Nat.reduceMul, Nat.reduceLT, Nat.reduceLeDiff, Nat.reduceBEq, Nat.reduceEqDiff, det0, e1]
    refine .inr ⟨x, rfl, ?_⟩
    have hm : mvR c g A T U = List.replicate c.depth.length (-1) := if_pos (by omega)
    rw [hm]
    exact List.mem_append_left _ hN1
  have e1 : ((U : Int) < (T : Int)) = False := eq_false (by omega)
  have hm : mvR c g A T U = mvL c g A T (U - T) := by
    unfold mvR
    rw [if_neg (by omega), show ((U : Int) - (T : Int)).toNat = U - T by omega, Int.toNat_natCast]
  refine ⟨?_⟩
  simp (config := { maxSteps := 4000000 }) only [↓sx0, ↓sx1, ↓sx2, ↓sx3, ↓sx4, ↓sx5, ↓sx6, sx0, sx1, sx2, sx3, sx4, sx5, sx6, tf49, ev3_hold, sxo, sxc, sxp, sxq, sxr, sxs, sxl, sxm, Int.reduceBEq, Int.reduceBNe, Int.reduceLT, Int.reduceLE, Int.reduceEq, Int.reduceGT, Int.reduceGE, Int.reduceToNat, ↓reduceIte, List.reduceReplicate, Nat.reduceAdd, Nat.reduceSub, Nat.reduceMul, Nat.reduceLT, Nat.reduceLeDiff, Nat.reduceBEq, Nat.reduceEqDiff, det0, e1]
  refine CallOb.pureH (fun w' hp => floats_fn w' _ _ _ c (hc0.hp hp) hok g A T ha.2 ht.2) ?_
  intro r1 N2 hr1
  cases hf : c.flt g T A with
  | false =>
    have hr2 : r1 = .bool false := hr1.trans (congrArg _ hf)
    subst hr2
    refine ⟨?_⟩
    simp (config := { maxSteps := 4000000 }) only [↓sx0, ↓sx1, ↓sx2, ↓sx3, ↓sx4, ↓sx5, ↓sx6, sx0, sx1, sx2, sx3, sx4, sx5, sx6, tf49, ev3_hold, sxo, sxc, sxp, sxq, sxr, sxs, sxl, sxm, Int.reduceBEq, Int.reduceBNe, Int.reduceLT, Int.reduceLE, Int.reduceEq, Int.reduceGT, Int.reduceGE, Int.reduceToNat, ↓reduceIte, List.reduceReplicate, Nat.reduceAdd, Nat.reduceSub, Nat.reduceMul, Nat.reduceLT, Nat.reduceLeDiff, Nat.reduceBEq, Nat.reduceEqDiff, det0]
    refine .inr ⟨x, rfl, ?_⟩
    rw [hm, mvL_dry hok ha.2 hf]
    simp [hN1]
  | true =>
  have hr2 : r1 = .bool true := hr1.trans (congrArg _ hf)
  subst hr2
  obtain ⟨s1, t1, rfl⟩ := List.append_of_mem hN1
  have e2 : IntKind.i64.wrap ((T : Int) + 1) = ((T + 1 : Nat) : Int) := (wrap_id (by omega)).trans (by omega)
  refine ⟨?_⟩
  simp (config := { maxSteps := 4000000 }) only [↓sx0, ↓sx1, ↓sx2, ↓sx3, ↓sx4, ↓sx5, ↓sx6, sx0, sx1, sx2, sx3, sx4, sx5, sx6, tf49, ev3_hold, sxo, sxc, sxp, sxq, sxr, sxs, sxl, sxm, Int.reduceBEq, Int.reduceBNe, Int.reduceLT, Int.reduceLE, Int.reduceEq, Int.reduceGT, Int.reduceGE, Int.reduceToNat, ↓reduceIte, List.reduceReplicate, Nat.reduceAdd, Nat.reduceSub, Nat.reduceMul, Nat.reduceLT, Nat.reduceLeDiff, Nat.reduceBEq, Nat.reduceEqDiff, det0]
  refine ⟨by omega, by omega, _, rfl, ?_⟩
  refine wr_at (A := N2 ++ s1) (l := List.replicate c.depth.length (-1 : Int)) (k := A) (u := (0 : Int)) ((congrArg (N2 ++ ·) (List.append_assoc s1 _ _)).trans (List.append_assoc N2 s1 _).symm) i1_len (by simp) (by simp; omega) ?_
  simp (config := { maxSteps := 4000000 }) only [↓sx0, ↓sx1, ↓sx2, ↓sx3, ↓sx4, ↓sx5, ↓sx6, sx0, sx1, sx2, sx3, sx4, sx5, sx6, tf49, ev3_hold, sxo, sxc, sxp, sxq, sxr, sxs, sxl, sxm, Int.reduceBEq, Int.reduceBNe, Int.reduceLT, Int.reduceLE, Int.reduceEq, Int.reduceGT, Int.reduceGE, Int.reduceToNat, ↓reduceIte, List.reduceReplicate, Nat.reduceAdd, Nat.reduceSub, Nat.reduceMul, Nat.reduceLT, Nat.reduceLeDiff, Nat.reduceBEq, Nat.reduceEqDiff]
  intro b3
  refine wr_cell (A := []) rfl (by simp) ?_
  have hwl := ways_lt hw
  generalize hFF : (fun (q : Nat) (i y : Nat) (l : List Int) => [HO.cells q 3 [I ((T + i + 1 : Nat) : Int)], HO.row (.slice (some ⟨y, 0, none⟩) c.depth.length c.depth.length) 3 1 (ints l)]) = FF
  have hFe : ∀ q i y l, FF q i y l = [HO.cells q 3 [I ((T + i + 1 : Nat) : Int)], HO.row (.slice (some ⟨y, 0, none⟩) c.depth.length c.depth.length) 3 1 (ints l)] := fun _ _ _ _ => by rw [← hFF]
  have hrd : ∀ (o : List Int) y, o.length = c.depth.length → ∀ G, HO.row (.slice (some ⟨y, 0, none⟩) c.depth.length c.depth.length) 3 1 (ints o) ∈ G → Rdv ⟨w, fun _ => False⟩ G (.slice (some ⟨y, 0, none⟩) c.depth.length c.depth.length) 1 (ints o) := fun o y hl G hG =>
    row_rdv (E := 3) hG ⟨_, _, _, rfl, by rw [cat_len i1_len, hl], fun h => by cases h⟩
  have hat : ∀ (l : List Int) (y : Nat), y < l.length → l[y]? = some (lv l y) := fun l y h => getD_at h 0
  have e0 : (List.replicate c.depth.length (-1 : Int)).set A 0 = mvL c g A T 0 := by
    rw [mvL, hf]
    rfl
  refine loop_constH (FF b3 0 x (mvL c g A T 0)) (by rw [hFe, ← e0, show T + 0 + 1 = T + 1 from rfl, ← e2]; exact HImp.sub (.cons_cons _ ((List.singleton_sublist.2 List.mem_cons_self).trans (List.sublist_append_right _ _)))) [(14, 20), (54, 107)] (fun s : Nat × Nat × Nat => [(14, .slice (some ⟨s.2.1, 0, none⟩) c.depth.length c.depth.length), (15, .pointer (some ⟨s.2.2, 0, none⟩))])
    (fun s H1 => T + s.1 ≤ U ∧ H1 = FF s.2.2 s.1 s.2.1 (mvL c g A T s.1)) (fun s => U + 1 - (T + s.1)) (0, x, b3) ?_ ⟨by omega, rfl⟩ ?_
  · simp (config := { maxSteps := 4000000 }) only [↓sx0, ↓sx1, ↓sx2, ↓sx3, ↓sx4, ↓sx5, ↓sx6, sx0, sx1, sx2, sx3, sx4, sx5, sx6, tf49, ev3_hold, sxo, sxc, sxp, sxq, sxr, sxs, sxl, sxm, Int.reduceBEq, Int.reduceBNe, Int.reduceLT, Int.reduceLE, Int.reduceEq, Int.reduceGT, Int.reduceGE, Int.reduceToNat, ↓reduceIte, List.reduceReplicate, Nat.reduceAdd, Nat.reduceSub, Nat.reduceMul, Nat.reduceLT, Nat.reduceLeDiff, Nat.reduceBEq, Nat.reduceEqDiff]
  · rintro ⟨i, y, q⟩ H1 g1 ⟨hi, rfl⟩
    simp only [] at hi
    have hq : ∀ l, HO.cells q 3 [I ((T + i + 1 : Nat) : Int)] ∈ FF q i y l := fun l => by rw [hFe]; simp
    have hy : ∀ l, HO.row (.slice (some ⟨y, 0, none⟩) c.depth.length c.depth.length) 3 1 (ints l) ∈ FF q i y l := fun l => by rw [hFe]; simp
    refine ⟨?_⟩
    simp (config := { maxSteps := 4000000 }) only [↓sx0, ↓sx1, ↓sx2, ↓sx3, ↓sx4, ↓sx5, ↓sx6, sx0, sx1, sx2, sx3, sx4, sx5, sx6, tf49, ev3_hold, sxo, sxc, sxp, sxq, sxr, sxs, sxl, sxm, Int.reduceBEq, Int.reduceBNe, Int.reduceLT, Int.reduceLE, Int.reduceEq, Int.reduceGT, Int.reduceGE, Int.reduceToNat, ↓reduceIte, List.reduceReplicate, Nat.reduceAdd, Nat.reduceSub, Nat.reduceMul, Nat.reduceLT, Nat.reduceLeDiff, Nat.reduceBEq, Nat.reduceEqDiff]
    refine ld_cell (hq _) rfl ?_
    by_cases hiU : T + i = U
    · have e3 : (((T + i + 1 : Nat) : Int) ≤ (U : Int)) = False := eq_false (by omega)
      simp (config := { maxSteps := 4000000 }) only [↓sx0, ↓sx1, ↓sx2, ↓sx3, ↓sx4, ↓sx5, ↓sx6, sx0, sx1, sx2, sx3, sx4, sx5, sx6, tf49, ev3_hold, sxo, sxc, sxp, sxq, sxr, sxs, sxl, sxm, Int.reduceBEq, Int.reduceBNe, Int.reduceLT, Int.reduceLE, Int.reduceEq, Int.reduceGT, Int.reduceGE, Int.reduceToNat, ↓reduceIte, List.reduceReplicate, Nat.reduceAdd, Nat.reduceSub, Nat.reduceMul, Nat.reduceLT, Nat.reduceLeDiff, Nat.reduceBEq, Nat.reduceEqDiff, e3]
      refine .inr ⟨y, rfl, ?_⟩
      rw [hm, hFe, show U - T = i by omega]
      simp
    have e3 : (((T + i + 1 : Nat) : Int) ≤ (U : Int)) = True := eq_true (by omega)
    have hl := mvL_len c g A T i
    have hge := mvL_ge hok (g := g) (k := A) (t := T) i
    have hle := mvL_le hok (g := g) (t := T) ha.2 i
    have hsucc : mvL c g A T (i + 1) = mvK c g (T + i + 1) (mvL c g A T i) (mvL c g A T i).length := by rw [mvL]
    generalize mvL c g A T i = l at hl hge hle hsucc ⊢
    simp (config := { maxSteps := 4000000 }) only [↓sx0, ↓sx1, ↓sx2, ↓sx3, ↓sx4, ↓sx5, ↓sx6, sx0, sx1, sx2, sx3, sx4, sx5, sx6, tf49, ev3_hold, sxo, sxc, sxp, sxq, sxr, sxs, sxl, sxm, Int.reduceBEq, Int.reduceBNe, Int.reduceLT, Int.reduceLE, Int.reduceEq, Int.reduceGT, Int.reduceGE, Int.reduceToNat, ↓reduceIte, List.reduceReplicate, Nat.reduceAdd, Nat.reduceSub, Nat.reduceMul, Nat.reduceLT, Nat.reduceLeDiff, Nat.reduceBEq, Nat.reduceEqDiff, det0, e3]
    refine CallOb.pureH (fun w' hp => row_fn w' _ _ _ _ _ (-1) c.depth (hsD.hp (fun _ _ => id) hp) hn144 (by omega)) ?_
    rintro r3 N3 ⟨x2, rfl, hN3⟩
    refine ⟨?_⟩
    simp (config := { maxSteps := 4000000 }) only [↓sx0, ↓sx1, ↓sx2, ↓sx3, ↓sx4, ↓sx5, ↓sx6, sx0, sx1, sx2, sx3, sx4, sx5, sx6, tf49, ev3_hold, sxo, sxc, sxp, sxq, sxr, sxs, sxl, sxm, Int.reduceBEq, Int.reduceBNe, Int.reduceLT, Int.reduceLE, Int.reduceEq, Int.reduceGT, Int.reduceGE, Int.reduceToNat, ↓reduceIte, List.reduceReplicate, Nat.reduceAdd, Nat.reduceSub, Nat.reduceMul, Nat.reduceLT, Nat.reduceLeDiff, Nat.reduceBEq, Nat.reduceEqDiff, det0]
    have hl0 : List.replicate c.depth.length (-1) = mvK c g (T + i + 1) l 0 := by rw [mvK, hl]
    rw [hl0] at hN3
    refine loop_constH (HO.row (.slice (some ⟨x2, 0, none⟩) c.depth.length c.depth.length) 3 1 (ints (mvK c g (T + i + 1) l 0)) :: FF q i y l) (HImp.sub (List.Sublist.append (List.singleton_sublist.2 hN3) (List.Sublist.refl _))) [(17, 20), (64, 105)] (fun k : Nat => [(64, I k)])
      (fun k H1 => k ≤ c.depth.length ∧ H1 = HO.row (.slice (some ⟨x2, 0, none⟩) c.depth.length c.depth.length) 3 1 (ints (mvK c g (T + i + 1) l k)) :: FF q i y l) (fun k => c.depth.length - k) 0 ?_ ⟨Nat.zero_le _, rfl⟩ ?_
    · simp (config := { maxSteps := 4000000 }) only [↓sx0, ↓sx1, ↓sx2, ↓sx3, ↓sx4, ↓sx5, ↓sx6, sx0, sx1, sx2, sx3, sx4, sx5, sx6, tf49, ev3_hold, sxo, sxc, sxp, sxq, sxr, sxs, sxl, sxm, Int.reduceBEq, Int.reduceBNe, Int.reduceLT, Int.reduceLE, Int.reduceEq, Int.reduceGT, Int.reduceGE, Int.reduceToNat, ↓reduceIte, List.reduceReplicate, Nat.reduceAdd, Nat.reduceSub, Nat.reduceMul, Nat.reduceLT, Nat.reduceLeDiff, Nat.reduceBEq, Nat.reduceEqDiff]
      simp
    · rintro k H1 g2 ⟨hk, rfl⟩
      by_cases hkn : k = c.depth.length
      · have e7 : ((k : Int) < (c.depth.length : Int)) = False := eq_false (by omega)
        refine ⟨?_⟩
        simp (config := { maxSteps := 4000000 }) only [↓sx0, ↓sx1, ↓sx2, ↓sx3, ↓sx4, ↓sx5, ↓sx6, sx0, sx1, sx2, sx3, sx4, sx5, sx6, tf49, ev3_hold, sxo, sxc, sxp, sxq, sxr, sxs, sxl, sxm, Int.reduceBEq, Int.reduceBNe, Int.reduceLT, Int.reduceLE, Int.reduceEq, Int.reduceGT, Int.reduceGE, Int.reduceToNat, ↓reduceIte, List.reduceReplicate, Nat.reduceAdd, Nat.reduceSub, Nat.reduceMul, Nat.reduceLT, Nat.reduceLeDiff, Nat.reduceBEq, Nat.reduceEqDiff, e7]
        refine ld_cell (List.mem_cons_of_mem _ (hq l)) rfl ?_
        simp (config := { maxSteps := 4000000 }) only [↓sx0, ↓sx1, ↓sx2, ↓sx3, ↓sx4, ↓sx5, ↓sx6, sx0, sx1, sx2, sx3, sx4, sx5, sx6, tf49, ev3_hold, sxo, sxc, sxp, sxq, sxr, sxs, sxl, sxm, Int.reduceBEq, Int.reduceBNe, Int.reduceLT, Int.reduceLE, Int.reduceEq, Int.reduceGT, Int.reduceGE, Int.reduceToNat, ↓reduceIte, List.reduceReplicate, Nat.reduceAdd, Nat.reduceSub, Nat.reduceMul, Nat.reduceLT, Nat.reduceLeDiff, Nat.reduceBEq, Nat.reduceEqDiff]
        intro b4
        refine wr_cell (A := []) rfl (by simp) ?_
        simp (config := { maxSteps := 4000000 }) only [↓sx0, ↓sx1, ↓sx2, ↓sx3, ↓sx4, ↓sx5, ↓sx6, sx0, sx1, sx2, sx3, sx4, sx5, sx6, tf49, ev3_hold, sxo, sxc, sxp, sxq, sxr, sxs, sxl, sxm, Int.reduceBEq, Int.reduceBNe, Int.reduceLT, Int.reduceLE, Int.reduceEq, Int.reduceGT, Int.reduceGE, Int.reduceToNat, ↓reduceIte, List.reduceReplicate, Nat.reduceAdd, Nat.reduceSub, Nat.reduceMul, Nat.reduceLT, Nat.reduceLeDiff, Nat.reduceBEq, Nat.reduceEqDiff]
        refine ld_cell List.mem_cons_self rfl ?_
        simp (config := { maxSteps := 4000000 }) only [↓sx0, ↓sx1, ↓sx2, ↓sx3, ↓sx4, ↓sx5, ↓sx6, sx0, sx1, sx2, sx3, sx4, sx5, sx6, tf49, ev3_hold, sxo, sxc, sxp, sxq, sxr, sxs, sxl, sxm, Int.reduceBEq, Int.reduceBNe, Int.reduceLT, Int.reduceLE, Int.reduceEq, Int.reduceGT, Int.reduceGE, Int.reduceToNat, ↓reduceIte, List.reduceReplicate, Nat.reduceAdd, Nat.reduceSub, Nat.reduceMul, Nat.reduceLT, Nat.reduceLeDiff, Nat.reduceBEq, Nat.reduceEqDiff]
        refine wr_cell (A := []) rfl (by simp) ?_
        simp (config := { maxSteps := 4000000 }) only [↓sx0, ↓sx1, ↓sx2, ↓sx3, ↓sx4, ↓sx5, ↓sx6, sx0, sx1, sx2, sx3, sx4, sx5, sx6, tf49, ev3_hold, sxo, sxc, sxp, sxq, sxr, sxs, sxl, sxm, Int.reduceBEq, Int.reduceBNe, Int.reduceLT, Int.reduceLE, Int.reduceEq, Int.reduceGT, Int.reduceGE, Int.reduceToNat, ↓reduceIte, List.reduceReplicate, Nat.reduceAdd, Nat.reduceSub, Nat.reduceMul, Nat.reduceLT, Nat.reduceLeDiff, Nat.reduceBEq, Nat.reduceEqDiff]
        have e9 : IntKind.i64.wrap (((T + i + 1 : Nat) : Int) + 1) = ((T + (i + 1) + 1 : Nat) : Int) := (wrap_id (by omega)).trans (by omega)
        rw [e9]
        refine ⟨(i + 1, x2, b4), _, ⟨rfl, rfl⟩, ?_, ⟨by omega, rfl⟩, by omega⟩
        simp only []
        rw [hFe, hFe, hsucc, hl, hkn]
        exact HImp.sub (.cons_cons _ (.cons_cons _ (List.nil_sublist _)))
      have e7 : ((k : Int) < (c.depth.length : Int)) = True := eq_true (by omega)
      have e8 : IntKind.i64.wrap ((k : Int) + 1) = ((k + 1 : Nat) : Int) := (wrap_id (by omega)).trans (by omega)
      refine ⟨?_⟩
      simp (config := { maxSteps := 4000000 }) only [↓sx0, ↓sx1, ↓sx2, ↓sx3, ↓sx4, ↓sx5, ↓sx6, sx0, sx1, sx2, sx3, sx4, sx5, sx6, tf49, ev3_hold, sxo, sxc, sxp, sxq, sxr, sxs, sxl, sxm, Int.reduceBEq, Int.reduceBNe, Int.reduceLT, Int.reduceLE, Int.reduceEq, Int.reduceGT, Int.reduceGE, Int.reduceToNat, ↓reduceIte, List.reduceReplicate, Nat.reduceAdd, Nat.reduceSub, Nat.reduceMul, Nat.reduceLT, Nat.reduceLeDiff, Nat.reduceBEq, Nat.reduceEqDiff, e7]
      refine amid (at_1 (hrd l y hl _ (List.mem_cons_of_mem _ (hy _))) i1_len (hat l k (by omega)) rfl fun ad1 => ?_)
      by_cases hn1 : lv l k = -1
      · have e4 : (lv l k = -1) = True := eq_true hn1
        simp (config := { maxSteps := 4000000 }) only [↓sx0, ↓sx1, ↓sx2, ↓sx3, ↓sx4, ↓sx5, ↓sx6, sx0, sx1, sx2, sx3, sx4, sx5, sx6, tf49, ev3_hold, sxo, sxc, sxp, sxq, sxr, sxs, sxl, sxm, Int.reduceBEq, Int.reduceBNe, Int.reduceLT, Int.reduceLE, Int.reduceEq, Int.reduceGT, Int.reduceGE, Int.reduceToNat, ↓reduceIte, List.reduceReplicate, Nat.reduceAdd, Nat.reduceSub, Nat.reduceMul, Nat.reduceLT, Nat.reduceLeDiff, Nat.reduceBEq, Nat.reduceEqDiff, e4, e8]
        exact ⟨k + 1, _, rfl, HImp.refl _ _, ⟨by omega, by rw [mvK, if_pos hn1]⟩, by omega⟩
      have e4 : (lv l k = -1) = False := eq_false hn1
      have hn0 : 0 ≤ lv l k := by have := hge k; omega
      simp (config := { maxSteps := 4000000 }) only [↓sx0, ↓sx1, ↓sx2, ↓sx3, ↓sx4, ↓sx5, ↓sx6, sx0, sx1, sx2, sx3, sx4, sx5, sx6, tf49, ev3_hold, sxo, sxc, sxp, sxq, sxr, sxs, sxl, sxm, Int.reduceBEq, Int.reduceBNe, Int.reduceLT, Int.reduceLE, Int.reduceEq, Int.reduceGT, Int.reduceGE, Int.reduceToNat, ↓reduceIte, List.reduceReplicate, Nat.reduceAdd, Nat.reduceSub, Nat.reduceMul, Nat.reduceLT, Nat.reduceLeDiff, Nat.reduceBEq, Nat.reduceEqDiff, e4, det0]
      refine CallOb.pureH (fun w' hp => near_fn w' _ _ _ _ _ _) ?_
      rintro r4 N4 ⟨bc, bs, rfl, rfl⟩
      refine ⟨?_⟩
      simp (config := { maxSteps := 4000000 }) only [↓sx0, ↓sx1, ↓sx2, ↓sx3, ↓sx4, ↓sx5, ↓sx6, sx0, sx1, sx2, sx3, sx4, sx5, sx6, tf49, ev3_hold, sxo, sxc, sxp, sxq, sxr, sxs, sxl, sxm, Int.reduceBEq, Int.reduceBNe, Int.reduceLT, Int.reduceLE, Int.reduceEq, Int.reduceGT, Int.reduceGE, Int.reduceToNat, ↓reduceIte, List.reduceReplicate, Nat.reduceAdd, Nat.reduceSub, Nat.reduceMul, Nat.reduceLT, Nat.reduceLeDiff, Nat.reduceBEq, Nat.reduceEqDiff]
      refine range_introH Tryd.call99 (nbL c.W c.H k).length (nearArg c.W c.H k) [.cells bc 3 [I k], .cells bs 81 [I c.wide, I c.high, .slice aD nD cD, .slice aT nT cT, .slice aS nS cS]] (HO.row (.slice (some ⟨x2, 0, none⟩) c.depth.length c.depth.length) 3 1 (ints (mvK c g (T + i + 1) l k)) :: FF q i y l)
        (fun j L' H' => L' = [(25, [I c.wide, I c.high, .slice aD nD cD, .slice aT nT cT, .slice aS nS cS]), (99, [I c.wide, I c.high, .slice aD nD cD, .slice aT nT cT, .slice aS nS cS, I g]), (22, [.slice (some ⟨x2, 0, none⟩) c.depth.length c.depth.length]), (3, [I k]), (3, [I (lv l k)])] ∧
          H' = HO.row (.slice (some ⟨x2, 0, none⟩) c.depth.length c.depth.length) 3 1 (ints (rlxN c g (T + i + 1) k (lv l k) ((nbL c.W c.H k).take j) (mvK c g (T + i + 1) l k))) :: FF q i y l) (fun _ => False) (fun b => b = bc ∨ b = bs ∨ b = 0)
        (HImp.refl _ _) (fun _ hb => hb.elim) (fun b hb => ?_) (fun w' hp => ?_) ⟨rfl, rfl⟩ ?_ ?_ ?_
      · rcases hb with rfl | rfl | rfl
        · exact .inr ⟨_, List.mem_cons_self, rfl⟩
        · exact .inr ⟨_, List.mem_cons_of_mem _ List.mem_cons_self, rfl⟩
        · exact .inl ⟨hwl, id⟩
      · have h1 := cells_old (w0 := ⟨w, fun _ => False⟩) (b := bs) (List.mem_append_left _ (List.mem_cons_of_mem _ List.mem_cons_self)) hp
        refine near_it w' (hw.hp hp) bc bs c.W c.H k (.slice aD nD cD) (.slice aT nT cT) (.slice aS nS cS) hW hH (by omega) (cells_hp (List.mem_append_left _ List.mem_cons_self) hp) ?_
        rw [← eW, ← eH]
        exact h1
      · rintro j vs F ⟨n, _, rfl, _⟩
        rfl
      · rintro j vs F L' H' hj ⟨n, hnn, rfl, rfl⟩ - ⟨rfl, rfl⟩
        have hnN : n < c.W * c.H := nbL_lt (by omega) n (List.mem_of_getElem? hnn)
        have htk : (nbL c.W c.H k).take (j + 1) = (nbL c.W c.H k).take j ++ [n] := by rw [List.take_add_one, hnn]; rfl
        have hol : (rlxN c g (T + i + 1) k (lv l k) ((nbL c.W c.H k).take j) (mvK c g (T + i + 1) l k)).length = c.depth.length := by rw [rlxN_len, mvK_len, hl]
        have hstep := rlxN_snoc c g (T + i + 1) k (lv l k) ((nbL c.W c.H k).take j) (mvK c g (T + i + 1) l k) n
        rw [← htk] at hstep
        generalize rlxN c g (T + i + 1) k (lv l k) ((nbL c.W c.H k).take j) (mvK c g (T + i + 1) l k) = o at hol hstep ⊢
        rw [hstep]
        clear hstep htk
        by_cases hnk : n = k
        · have e5 : ((n : Int) = (k : Int)) = True := eq_true (by omega)
          have hcst : cst k n = 0 := if_pos hnk
          have hz := Int.add_zero (lv l k)
          have h4 : (c.flt g (T + i + 1) n = false) ∨ (c.flt g (T + i + 1) n = true ∧ lv o n = -1) ∨ (c.flt g (T + i + 1) n = true ∧ ¬ lv o n = -1 ∧ lv l k < lv o n) ∨ (c.flt g (T + i + 1) n = true ∧ ¬ lv o n = -1 ∧ ¬ lv l k < lv o n) := by
            cases c.flt g (T + i + 1) n with
            | false => exact .inl rfl
            | true => by_cases h1 : lv o n = -1 <;> by_cases h2 : lv l k < lv o n <;> simp [h1, h2]
          rcases h4 with hf2 | ⟨hf2, h1⟩ | ⟨hf2, h1, h2⟩ | ⟨hf2, h1, h2⟩
          all_goals refine ⟨?_⟩
          · simp (config := { maxSteps := 4000000 }) only [↓sx0, ↓sx1, ↓sx2, ↓sx3, ↓sx4, ↓sx5, ↓sx6, sx0, sx1, sx2, sx3, sx4, sx5, sx6, tf49, ev3_hold, sxo, sxc, sxp, sxq, sxr, sxs, sxl, sxm, Int.reduceBEq, Int.reduceBNe, Int.reduceLT, Int.reduceLE, Int.reduceEq, Int.reduceGT, Int.reduceGE, Int.reduceToNat, ↓reduceIte, List.reduceReplicate, Nat.reduceAdd, Nat.reduceSub, Nat.reduceMul, Nat.reduceLT, Nat.reduceLeDiff, Nat.reduceBEq, Nat.reduceEqDiff, e5]
            refine ld_cell (List.mem_cons_of_mem _ (hq l)) rfl ?_
            simp (config := { maxSteps := 4000000 }) only [↓sx0, ↓sx1, ↓sx2, ↓sx3, ↓sx4, ↓sx5, ↓sx6, sx0, sx1, sx2, sx3, sx4, sx5, sx6, tf49, ev3_hold, sxo, sxc, sxp, sxq, sxr, sxs, sxl, sxm, Int.reduceBEq, Int.reduceBNe, Int.reduceLT, Int.reduceLE, Int.reduceEq, Int.reduceGT, Int.reduceGE, Int.reduceToNat, ↓reduceIte, List.reduceReplicate, Nat.reduceAdd, Nat.reduceSub, Nat.reduceMul, Nat.reduceLT, Nat.reduceLeDiff, Nat.reduceBEq, Nat.reduceEqDiff, det0]
            refine CallOb.pureH (fun w' hp => floats_fn w' _ _ _ c (hc0.hp hp) hok g n (T + i + 1) (by omega) (by omega)) ?_
            intro r5 N5 hr5
            have hr6 : r5 = .bool false := hr5.trans (congrArg _ hf2)
            subst hr6
            refine ⟨?_⟩
            simp (config := { maxSteps := 4000000 }) only [↓sx0, ↓sx1, ↓sx2, ↓sx3, ↓sx4, ↓sx5, ↓sx6, sx0, sx1, sx2, sx3, sx4, sx5, sx6, tf49, ev3_hold, sxo, sxc, sxp, sxq, sxr, sxs, sxl, sxm, Int.reduceBEq, Int.reduceBNe, Int.reduceLT, Int.reduceLE, Int.reduceEq, Int.reduceGT, Int.reduceGE, Int.reduceToNat, ↓reduceIte, List.reduceReplicate, Nat.reduceAdd, Nat.reduceSub, Nat.reduceMul, Nat.reduceLT, Nat.reduceLeDiff, Nat.reduceBEq, Nat.reduceEqDiff]
            refine ⟨_, HImp.app _ _ _, ?_⟩
            rw [rlx, hf2, if_neg (by simp)]
          · have e10 : (lv o n = -1) = True := eq_true h1
            simp (config := { maxSteps := 4000000 }) only [↓sx0, ↓sx1, ↓sx2, ↓sx3, ↓sx4, ↓sx5, ↓sx6, sx0, sx1, sx2, sx3, sx4, sx5, sx6, tf49, ev3_hold, sxo, sxc, sxp, sxq, sxr, sxs, sxl, sxm, Int.reduceBEq, Int.reduceBNe, Int.reduceLT, Int.reduceLE, Int.reduceEq, Int.reduceGT, Int.reduceGE, Int.reduceToNat, ↓reduceIte, List.reduceReplicate, Nat.reduceAdd, Nat.reduceSub, Nat.reduceMul, Nat.reduceLT, Nat.reduceLeDiff, Nat.reduceBEq, Nat.reduceEqDiff, e5]
            refine ld_cell (List.mem_cons_of_mem _ (hq l)) rfl ?_
            simp (config := { maxSteps := 4000000 }) only [↓sx0, ↓sx1, ↓sx2, ↓sx3, ↓sx4, ↓sx5, ↓sx6, sx0, sx1, sx2, sx3, sx4, sx5, sx6, tf49, ev3_hold, sxo, sxc, sxp, sxq, sxr, sxs, sxl, sxm, Int.reduceBEq, Int.reduceBNe, Int.reduceLT, Int.reduceLE, Int.reduceEq, Int.reduceGT, Int.reduceGE, Int.reduceToNat, ↓reduceIte, List.reduceReplicate, Nat.reduceAdd, Nat.reduceSub, Nat.reduceMul, Nat.reduceLT, Nat.reduceLeDiff, Nat.reduceBEq, Nat.reduceEqDiff, det0]
            refine CallOb.pureH (fun w' hp => floats_fn w' _ _ _ c (hc0.hp hp) hok g n (T + i + 1) (by omega) (by omega)) ?_
            intro r5 N5 hr5
            have hr6 : r5 = .bool true := hr5.trans (congrArg _ hf2)
            subst hr6
            refine ⟨?_⟩
            simp (config := { maxSteps := 4000000 }) only [↓sx0, ↓sx1, ↓sx2, ↓sx3, ↓sx4, ↓sx5, ↓sx6, sx0, sx1, sx2, sx3, sx4, sx5, sx6, tf49, ev3_hold, sxo, sxc, sxp, sxq, sxr, sxs, sxl, sxm, Int.reduceBEq, Int.reduceBNe, Int.reduceLT, Int.reduceLE, Int.reduceEq, Int.reduceGT, Int.reduceGE, Int.reduceToNat, ↓reduceIte, List.reduceReplicate, Nat.reduceAdd, Nat.reduceSub, Nat.reduceMul, Nat.reduceLT, Nat.reduceLeDiff, Nat.reduceBEq, Nat.reduceEqDiff, e10]
            refine ⟨by omega, by omega, _, rfl, ?_⟩
            refine ld_at1 (hrd o x2 hol _ (List.mem_append_right _ List.mem_cons_self)) i1_len (hat o n (by omega)) rfl ?_
            simp (config := { maxSteps := 4000000 }) only [↓sx0, ↓sx1, ↓sx2, ↓sx3, ↓sx4, ↓sx5, ↓sx6, sx0, sx1, sx2, sx3, sx4, sx5, sx6, tf49, ev3_hold, sxo, sxc, sxp, sxq, sxr, sxs, sxl, sxm, Int.reduceBEq, Int.reduceBNe, Int.reduceLT, Int.reduceLE, Int.reduceEq, Int.reduceGT, Int.reduceGE, Int.reduceToNat, ↓reduceIte, List.reduceReplicate, Nat.reduceAdd, Nat.reduceSub, Nat.reduceMul, Nat.reduceLT, Nat.reduceLeDiff, Nat.reduceBEq, Nat.reduceEqDiff, e10]
            refine ⟨by omega, by omega, _, rfl, ?_⟩
            refine wr_at (A := N5) (B := FF q i y l) (l := o) (k := n) (u := lv l k) rfl i1_len hol (by omega) ?_
            simp (config := { maxSteps := 4000000 }) only [↓sx0, ↓sx1, ↓sx2, ↓sx3, ↓sx4, ↓sx5, ↓sx6, sx0, sx1, sx2, sx3, sx4, sx5, sx6, tf49, ev3_hold, sxo, sxc, sxp, sxq, sxr, sxs, sxl, sxm, Int.reduceBEq, Int.reduceBNe, Int.reduceLT, Int.reduceLE, Int.reduceEq, Int.reduceGT, Int.reduceGE, Int.reduceToNat, ↓reduceIte, List.reduceReplicate, Nat.reduceAdd, Nat.reduceSub, Nat.reduceMul, Nat.reduceLT, Nat.reduceLeDiff, Nat.reduceBEq, Nat.reduceEqDiff]
            refine ⟨_, HImp.app _ _ _, ?_⟩
            rw [rlx, if_pos ⟨hf2, .inl h1⟩, hcst, hz]
          · have e10 : (lv o n = -1) = False := eq_false h1
            have e11 : (lv l k < lv o n) = True := eq_true h2
            simp (config := { maxSteps := 4000000 }) only [↓sx0, ↓sx1, ↓sx2, ↓sx3, ↓sx4, ↓sx5, ↓sx6, sx0, sx1, sx2, sx3, sx4, sx5, sx6, tf49, ev3_hold, sxo, sxc, sxp, sxq, sxr, sxs, sxl, sxm, Int.reduceBEq, Int.reduceBNe, Int.reduceLT, Int.reduceLE, Int.reduceEq, Int.reduceGT, Int.reduceGE, Int.reduceToNat, ↓reduceIte, List.reduceReplicate, Nat.reduceAdd, Nat.reduceSub, Nat.reduceMul, Nat.reduceLT, Nat.reduceLeDiff, Nat.reduceBEq, Nat.reduceEqDiff, e5]
            refine ld_cell (List.mem_cons_of_mem _ (hq l)) rfl ?_
            simp (config := { maxSteps := 4000000 }) only [↓sx0, ↓sx1, ↓sx2, ↓sx3, ↓sx4, ↓sx5, ↓sx6, sx0, sx1, sx2, sx3, sx4, sx5, sx6, tf49, ev3_hold, sxo, sxc, sxp, sxq, sxr, sxs, sxl, sxm, Int.reduceBEq, Int.reduceBNe, Int.reduceLT, Int.reduceLE, Int.reduceEq, Int.reduceGT, Int.reduceGE, Int.reduceToNat, ↓reduceIte, List.reduceReplicate, Nat.reduceAdd, Nat.reduceSub, Nat.reduceMul, Nat.reduceLT, Nat.reduceLeDiff, Nat.reduceBEq, Nat.reduceEqDiff, det0]
            refine CallOb.pureH (fun w' hp => floats_fn w' _ _ _ c (hc0.hp hp) hok g n (T + i + 1) (by omega) (by omega)) ?_
            intro r5 N5 hr5
            have hr6 : r5 = .bool true := hr5.trans (congrArg _ hf2)
            subst hr6
            refine ⟨?_⟩
            simp (config := { maxSteps := 4000000 }) only [↓sx0, ↓sx1, ↓sx2, ↓sx3, ↓sx4, ↓sx5, ↓sx6, sx0, sx1, sx2, sx3, sx4, sx5, sx6, tf49, ev3_hold, sxo, sxc, sxp, sxq, sxr, sxs, sxl, sxm, Int.reduceBEq, Int.reduceBNe, Int.reduceLT, Int.reduceLE, Int.reduceEq, Int.reduceGT, Int.reduceGE, Int.reduceToNat, ↓reduceIte, List.reduceReplicate, Nat.reduceAdd, Nat.reduceSub, Nat.reduceMul, Nat.reduceLT, Nat.reduceLeDiff, Nat.reduceBEq, Nat.reduceEqDiff]
            refine ⟨by omega, by omega, _, rfl, ?_⟩
            refine ld_at1 (hrd o x2 hol _ (List.mem_append_right _ List.mem_cons_self)) i1_len (hat o n (by omega)) rfl ?_
            simp (config := { maxSteps := 4000000 }) only [↓sx0, ↓sx1, ↓sx2, ↓sx3, ↓sx4, ↓sx5, ↓sx6, sx0, sx1, sx2, sx3, sx4, sx5, sx6, tf49, ev3_hold, sxo, sxc, sxp, sxq, sxr, sxs, sxl, sxm, Int.reduceBEq, Int.reduceBNe, Int.reduceLT, Int.reduceLE, Int.reduceEq, Int.reduceGT, Int.reduceGE, Int.reduceToNat, ↓reduceIte, List.reduceReplicate, Nat.reduceAdd, Nat.reduceSub, Nat.reduceMul, Nat.reduceLT, Nat.reduceLeDiff, Nat.reduceBEq, Nat.reduceEqDiff, e10]
            refine ⟨by omega, by omega, _, rfl, ?_⟩
            refine ld_at1 (hrd o x2 hol _ (List.mem_append_right _ List.mem_cons_self)) i1_len (hat o n (by omega)) rfl ?_
            simp (config := { maxSteps := 4000000 }) only [↓sx0, ↓sx1, ↓sx2, ↓sx3, ↓sx4, ↓sx5, ↓sx6, sx0, sx1, sx2, sx3, sx4, sx5, sx6, tf49, ev3_hold, sxo, sxc, sxp, sxq, sxr, sxs, sxl, sxm, Int.reduceBEq, Int.reduceBNe, Int.reduceLT, Int.reduceLE, Int.reduceEq, Int.reduceGT, Int.reduceGE, Int.reduceToNat, ↓reduceIte, List.reduceReplicate, Nat.reduceAdd, Nat.reduceSub, Nat.reduceMul, Nat.reduceLT, Nat.reduceLeDiff, Nat.reduceBEq, Nat.reduceEqDiff, e11]
            refine ⟨by omega, by omega, _, rfl, ?_⟩
            refine wr_at (A := N5) (B := FF q i y l) (l := o) (k := n) (u := lv l k) rfl i1_len hol (by omega) ?_
            simp (config := { maxSteps := 4000000 }) only [↓sx0, ↓sx1, ↓sx2, ↓sx3, ↓sx4, ↓sx5, ↓sx6, sx0, sx1, sx2, sx3, sx4, sx5, sx6, tf49, ev3_hold, sxo, sxc, sxp, sxq, sxr, sxs, sxl, sxm, Int.reduceBEq, Int.reduceBNe, Int.reduceLT, Int.reduceLE, Int.reduceEq, Int.reduceGT, Int.reduceGE, Int.reduceToNat, ↓reduceIte, List.reduceReplicate, Nat.reduceAdd, Nat.reduceSub, Nat.reduceMul, Nat.reduceLT, Nat.reduceLeDiff, Nat.reduceBEq, Nat.reduceEqDiff]
            refine ⟨_, HImp.app _ _ _, ?_⟩
            rw [rlx, if_pos ⟨hf2, .inr (by rw [hcst]; omega)⟩, hcst, hz]
          · have e10 : (lv o n = -1) = False := eq_false h1
            have e11 : (lv l k < lv o n) = False := eq_false h2
            simp (config := { maxSteps := 4000000 }) only [↓sx0, ↓sx1, ↓sx2, ↓sx3, ↓sx4, ↓sx5, ↓sx6, sx0, sx1, sx2, sx3, sx4, sx5, sx6, tf49, ev3_hold, sxo, sxc, sxp, sxq, sxr, sxs, sxl, sxm, Int.reduceBEq, Int.reduceBNe, Int.reduceLT, Int.reduceLE, Int.reduceEq, Int.reduceGT, Int.reduceGE, Int.reduceToNat, ↓reduceIte, List.reduceReplicate, Nat.reduceAdd, Nat.reduceSub, Nat.reduceMul, Nat.reduceLT, Nat.reduceLeDiff, Nat.reduceBEq, Nat.reduceEqDiff, e5]
            refine ld_cell (List.mem_cons_of_mem _ (hq l)) rfl ?_
            simp (config := { maxSteps := 4000000 }) only [↓sx0, ↓sx1, ↓sx2, ↓sx3, ↓sx4, ↓sx5, ↓sx6, sx0, sx1, sx2, sx3, sx4, sx5, sx6, tf49, ev3_hold, sxo, sxc, sxp, sxq, sxr, sxs, sxl, sxm, Int.reduceBEq, Int.reduceBNe, Int.reduceLT, Int.reduceLE, Int.reduceEq, Int.reduceGT, Int.reduceGE, Int.reduceToNat, ↓reduceIte, List.reduceReplicate, Nat.reduceAdd, Nat.reduceSub, Nat.reduceMul, Nat.reduceLT, Nat.reduceLeDiff, Nat.reduceBEq, Nat.reduceEqDiff, det0]
            refine CallOb.pureH (fun w' hp => floats_fn w' _ _ _ c (hc0.hp hp) hok g n (T + i + 1) (by omega) (by omega)) ?_
            intro r5 N5 hr5
            have hr6 : r5 = .bool true := hr5.trans (congrArg _ hf2)
            subst hr6
            refine ⟨?_⟩
            simp (config := { maxSteps := 4000000 }) only [↓sx0, ↓sx1, ↓sx2, ↓sx3, ↓sx4, ↓sx5, ↓sx6, sx0, sx1, sx2, sx3, sx4, sx5, sx6, tf49, ev3_hold, sxo, sxc, sxp, sxq, sxr, sxs, sxl, sxm, Int.reduceBEq, Int.reduceBNe, Int.reduceLT, Int.reduceLE, Int.reduceEq, Int.reduceGT, Int.reduceGE, Int.reduceToNat, ↓reduceIte, List.reduceReplicate, Nat.reduceAdd, Nat.reduceSub, Nat.reduceMul, Nat.reduceLT, Nat.reduceLeDiff, Nat.reduceBEq, Nat.reduceEqDiff]
            refine ⟨by omega, by omega, _, rfl, ?_⟩
            refine ld_at1 (hrd o x2 hol _ (List.mem_append_right _ List.mem_cons_self)) i1_len (hat o n (by omega)) rfl ?_
            simp (config := { maxSteps := 4000000 }) only [↓sx0, ↓sx1, ↓sx2, ↓sx3, ↓sx4, ↓sx5, ↓sx6, sx0, sx1, sx2, sx3, sx4, sx5, sx6, tf49, ev3_hold, sxo, sxc, sxp, sxq, sxr, sxs, sxl, sxm, Int.reduceBEq, Int.reduceBNe, Int.reduceLT, Int.reduceLE, Int.reduceEq, Int.reduceGT, Int.reduceGE, Int.reduceToNat, ↓reduceIte, List.reduceReplicate, Nat.reduceAdd, Nat.reduceSub, Nat.reduceMul, Nat.reduceLT, Nat.reduceLeDiff, Nat.reduceBEq, Nat.reduceEqDiff, e10]
            refine ⟨by omega, by omega, _, rfl, ?_⟩
            refine ld_at1 (hrd o x2 hol _ (List.mem_append_right _ List.mem_cons_self)) i1_len (hat o n (by omega)) rfl ?_
            simp (config := { maxSteps := 4000000 }) only [↓sx0, ↓sx1, ↓sx2, ↓sx3, ↓sx4, ↓sx5, ↓sx6, sx0, sx1, sx2, sx3, sx4, sx5, sx6, tf49, ev3_hold, sxo, sxc, sxp, sxq, sxr, sxs, sxl, sxm, Int.reduceBEq, Int.reduceBNe, Int.reduceLT, Int.reduceLE, Int.reduceEq, Int.reduceGT, Int.reduceGE, Int.reduceToNat, ↓reduceIte, List.reduceReplicate, Nat.reduceAdd, Nat.reduceSub, Nat.reduceMul, Nat.reduceLT, Nat.reduceLeDiff, Nat.reduceBEq, Nat.reduceEqDiff, e11]
            refine ⟨_, HImp.app _ _ _, ?_⟩
            rw [rlx, if_neg (by rw [hcst]; rintro ⟨_, h | h⟩ <;> omega)]
        · have e5 : ((n : Int) = (k : Int)) = False := eq_false (by omega)
          have hcst : cst k n = 1 := if_neg hnk
          have hlk := hle k
          have e12 : IntKind.i64.wrap (lv l k + 1) = lv l k + 1 := wrap_id (by omega)
          have h4 : (c.flt g (T + i + 1) n = false) ∨ (c.flt g (T + i + 1) n = true ∧ lv o n = -1) ∨ (c.flt g (T + i + 1) n = true ∧ ¬ lv o n = -1 ∧ lv l k + 1 < lv o n) ∨ (c.flt g (T + i + 1) n = true ∧ ¬ lv o n = -1 ∧ ¬ lv l k + 1 < lv o n) := by
            cases c.flt g (T + i + 1) n with
            | false => exact .inl rfl
            | true => by_cases h1 : lv o n = -1 <;> by_cases h2 : lv l k + 1 < lv o n <;> simp [h1, h2]
          rcases h4 with hf2 | ⟨hf2, h1⟩ | ⟨hf2, h1, h2⟩ | ⟨hf2, h1, h2⟩
          all_goals refine ⟨?_⟩
          · simp (config := { maxSteps := 4000000 }) only [↓sx0, ↓sx1, ↓sx2, ↓sx3, ↓sx4, ↓sx5, ↓sx6, sx0, sx1, sx2, sx3, sx4, sx5, sx6, tf49, ev3_hold, sxo, sxc, sxp, sxq, sxr, sxs, sxl, sxm, Int.reduceBEq, Int.reduceBNe, Int.reduceLT, Int.reduceLE, Int.reduceEq, Int.reduceGT, Int.reduceGE, Int.reduceToNat, ↓reduceIte, List.reduceReplicate, Nat.reduceAdd, Nat.reduceSub, Nat.reduceMul, Nat.reduceLT, Nat.reduceLeDiff, Nat.reduceBEq, Nat.reduceEqDiff, e5, e12]
            refine ld_cell (List.mem_cons_of_mem _ (hq l)) rfl ?_
            simp (config := { maxSteps := 4000000 }) only [↓sx0, ↓sx1, ↓sx2, ↓sx3, ↓sx4, ↓sx5, ↓sx6, sx0, sx1, sx2, sx3, sx4, sx5, sx6, tf49, ev3_hold, sxo, sxc, sxp, sxq, sxr, sxs, sxl, sxm, Int.reduceBEq, Int.reduceBNe, Int.reduceLT, Int.reduceLE, Int.reduceEq, Int.reduceGT, Int.reduceGE, Int.reduceToNat, ↓reduceIte, List.reduceReplicate, Nat.reduceAdd, Nat.reduceSub, Nat.reduceMul, Nat.reduceLT, Nat.reduceLeDiff, Nat.reduceBEq, Nat.reduceEqDiff, det0]
            refine CallOb.pureH (fun w' hp => floats_fn w' _ _ _ c (hc0.hp hp) hok g n (T + i + 1) (by omega) (by omega)) ?_
            intro r5 N5 hr5
            have hr6 : r5 = .bool false := hr5.trans (congrArg _ hf2)
            subst hr6
            refine ⟨?_⟩
            simp (config := { maxSteps := 4000000 }) only [↓sx0, ↓sx1, ↓sx2, ↓sx3, ↓sx4, ↓sx5, ↓sx6, sx0, sx1, sx2, sx3, sx4, sx5, sx6, tf49, ev3_hold, sxo, sxc, sxp, sxq, sxr, sxs, sxl, sxm, Int.reduceBEq, Int.reduceBNe, Int.reduceLT, Int.reduceLE, Int.reduceEq, Int.reduceGT, Int.reduceGE, Int.reduceToNat, ↓reduceIte, List.reduceReplicate, Nat.reduceAdd, Nat.reduceSub, Nat.reduceMul, Nat.reduceLT, Nat.reduceLeDiff, Nat.reduceBEq, Nat.reduceEqDiff]
            refine ⟨_, HImp.app _ _ _, ?_⟩
            rw [rlx, hf2, if_neg (by simp)]
          · have e10 : (lv o n = -1) = True := eq_true h1
            simp (config := { maxSteps := 4000000 }) only [↓sx0, ↓sx1, ↓sx2, ↓sx3, ↓sx4, ↓sx5, ↓sx6, sx0, sx1, sx2, sx3, sx4, sx5, sx6, tf49, ev3_hold, sxo, sxc, sxp, sxq, sxr, sxs, sxl, sxm, Int.reduceBEq, Int.reduceBNe, Int.reduceLT, Int.reduceLE, Int.reduceEq, Int.reduceGT, Int.reduceGE, Int.reduceToNat, ↓reduceIte, List.reduceReplicate, Nat.reduceAdd, Nat.reduceSub, Nat.reduceMul, Nat.reduceLT, Nat.reduceLeDiff, Nat.reduceBEq, Nat.reduceEqDiff, e5, e12]
            refine ld_cell (List.mem_cons_of_mem _ (hq l)) rfl ?_
            simp (config := { maxSteps := 4000000 }) only [↓sx0, ↓sx1, ↓sx2, ↓sx3, ↓sx4, ↓sx5, ↓sx6, sx0, sx1, sx2, sx3, sx4, sx5, sx6, tf49, ev3_hold, sxo, sxc, sxp, sxq, sxr, sxs, sxl, sxm, Int.reduceBEq, Int.reduceBNe, Int.reduceLT, Int.reduceLE, Int.reduceEq, Int.reduceGT, Int.reduceGE, Int.reduceToNat, ↓reduceIte, List.reduceReplicate, Nat.reduceAdd, Nat.reduceSub, Nat.reduceMul, Nat.reduceLT, Nat.reduceLeDiff, Nat.reduceBEq, Nat.reduceEqDiff, det0]
            refine CallOb.pureH (fun w' hp => floats_fn w' _ _ _ c (hc0.hp hp) hok g n (T + i + 1) (by omega) (by omega)) ?_
            intro r5 N5 hr5
            have hr6 : r5 = .bool true := hr5.trans (congrArg _ hf2)
            subst hr6
            refine ⟨?_⟩
            simp (config := { maxSteps := 4000000 }) only [↓sx0, ↓sx1, ↓sx2, ↓sx3, ↓sx4, ↓sx5, ↓sx6, sx0, sx1, sx2, sx3, sx4, sx5, sx6, tf49, ev3_hold, sxo, sxc, sxp, sxq, sxr, sxs, sxl, sxm, Int.reduceBEq, Int.reduceBNe, Int.reduceLT, Int.reduceLE, Int.reduceEq, Int.reduceGT, Int.reduceGE, Int.reduceToNat, ↓reduceIte, List.reduceReplicate, Nat.reduceAdd, Nat.reduceSub, Nat.reduceMul, Nat.reduceLT, Nat.reduceLeDiff, Nat.reduceBEq, Nat.reduceEqDiff, e10]
            refine ⟨by omega, by omega, _, rfl, ?_⟩
            refine ld_at1 (hrd o x2 hol _ (List.mem_append_right _ List.mem_cons_self)) i1_len (hat o n (by omega)) rfl ?_
            simp (config := { maxSteps := 4000000 }) only [↓sx0, ↓sx1, ↓sx2, ↓sx3, ↓sx4, ↓sx5, ↓sx6, sx0, sx1, sx2, sx3, sx4, sx5, sx6, tf49, ev3_hold, sxo, sxc, sxp, sxq, sxr, sxs, sxl, sxm, Int.reduceBEq, Int.reduceBNe, Int.reduceLT, Int.reduceLE, Int.reduceEq, Int.reduceGT, Int.reduceGE, Int.reduceToNat, ↓reduceIte, List.reduceReplicate, Nat.reduceAdd, Nat.reduceSub, Nat.reduceMul, Nat.reduceLT, Nat.reduceLeDiff, Nat.reduceBEq, Nat.reduceEqDiff, e10]
            refine ⟨by omega, by omega, _, rfl, ?_⟩
            refine wr_at (A := N5) (B := FF q i y l) (l := o) (k := n) (u := lv l k + 1) rfl i1_len hol (by omega) ?_
            simp (config := { maxSteps := 4000000 }) only [↓sx0, ↓sx1, ↓sx2, ↓sx3, ↓sx4, ↓sx5, ↓sx6, sx0, sx1, sx2, sx3, sx4, sx5, sx6, tf49, ev3_hold, sxo, sxc, sxp, sxq, sxr, sxs, sxl, sxm, Int.reduceBEq, Int.reduceBNe, Int.reduceLT, Int.reduceLE, Int.reduceEq, Int.reduceGT, Int.reduceGE, Int.reduceToNat, ↓reduceIte, List.reduceReplicate, Nat.reduceAdd, Nat.reduceSub, Nat.reduceMul, Nat.reduceLT, Nat.reduceLeDiff, Nat.reduceBEq, Nat.reduceEqDiff]
            refine ⟨_, HImp.app _ _ _, ?_⟩
            rw [rlx, if_pos ⟨hf2, .inl h1⟩, hcst]
          · have e10 : (lv o n = -1) = False := eq_false h1
            have e11 : (lv l k + 1 < lv o n) = True := eq_true h2
            simp (config := { maxSteps := 4000000 }) only [↓sx0, ↓sx1, ↓sx2, ↓sx3, ↓sx4, ↓sx5, ↓sx6, sx0, sx1, sx2, sx3, sx4, sx5, sx6, tf49, ev3_hold, sxo, sxc, sxp, sxq, sxr, sxs, sxl, sxm, Int.reduceBEq, Int.reduceBNe, Int.reduceLT, Int.reduceLE, Int.reduceEq, Int.reduceGT, Int.reduceGE, Int.reduceToNat, ↓reduceIte, List.reduceReplicate, Nat.reduceAdd, Nat.reduceSub, Nat.reduceMul, Nat.reduceLT, Nat.reduceLeDiff, Nat.reduceBEq, Nat.reduceEqDiff, e5, e12]
            refine ld_cell (List.mem_cons_of_mem _ (hq l)) rfl ?_
            simp (config := { maxSteps := 4000000 }) only [↓sx0, ↓sx1, ↓sx2, ↓sx3, ↓sx4, ↓sx5, ↓sx6, sx0, sx1, sx2, sx3, sx4, sx5, sx6, tf49, ev3_hold, sxo, sxc, sxp, sxq, sxr, sxs, sxl, sxm, Int.reduceBEq, Int.reduceBNe, Int.reduceLT, Int.reduceLE, Int.reduceEq, Int.reduceGT, Int.reduceGE, Int.reduceToNat, ↓reduceIte, List.reduceReplicate, Nat.reduceAdd, Nat.reduceSub, Nat.reduceMul, Nat.reduceLT, Nat.reduceLeDiff, Nat.reduceBEq, Nat.reduceEqDiff, det0]
            refine CallOb.pureH (fun w' hp => floats_fn w' _ _ _ c (hc0.hp hp) hok g n (T + i + 1) (by omega) (by omega)) ?_
            intro r5 N5 hr5
            have hr6 : r5 = .bool true := hr5.trans (congrArg _ hf2)
            subst hr6
            refine ⟨?_⟩
            simp (config := { maxSteps := 4000000 }) only [↓sx0, ↓sx1, ↓sx2, ↓sx3, ↓sx4, ↓sx5, ↓sx6, sx0, sx1, sx2, sx3, sx4, sx5, sx6, tf49, ev3_hold, sxo, sxc, sxp, sxq, sxr, sxs, sxl, sxm, Int.reduceBEq, Int.reduceBNe, Int.reduceLT, Int.reduceLE, Int.reduceEq, Int.reduceGT, Int.reduceGE, Int.reduceToNat, ↓reduceIte, List.reduceReplicate, Nat.reduceAdd, Nat.reduceSub, Nat.reduceMul, Nat.reduceLT, Nat.reduceLeDiff, Nat.reduceBEq, Nat.reduceEqDiff]
            refine ⟨by omega, by omega, _, rfl, ?_⟩
            refine ld_at1 (hrd o x2 hol _ (List.mem_append_right _ List.mem_cons_self)) i1_len (hat o n (by omega)) rfl ?_
            simp (config := { maxSteps := 4000000 }) only [↓sx0, ↓sx1, ↓sx2, ↓sx3, ↓sx4, ↓sx5, ↓sx6, sx0, sx1, sx2, sx3, sx4, sx5, sx6, tf49, ev3_hold, sxo, sxc, sxp, sxq, sxr, sxs, sxl, sxm, Int.reduceBEq, Int.reduceBNe, Int.reduceLT, Int.reduceLE, Int.reduceEq, Int.reduceGT, Int.reduceGE, Int.reduceToNat, ↓reduceIte, List.reduceReplicate, Nat.reduceAdd, Nat.reduceSub, Nat.reduceMul, Nat.reduceLT, Nat.reduceLeDiff, Nat.reduceBEq, Nat.reduceEqDiff, e10]
            refine ⟨by omega, by omega, _, rfl, ?_⟩
            refine ld_at1 (hrd o x2 hol _ (List.mem_append_right _ List.mem_cons_self)) i1_len (hat o n (by omega)) rfl ?_
            simp (config := { maxSteps := 4000000 }) only [↓sx0, ↓sx1, ↓sx2, ↓sx3, ↓sx4, ↓sx5, ↓sx6, sx0, sx1, sx2, sx3, sx4, sx5, sx6, tf49, ev3_hold, sxo, sxc, sxp, sxq, sxr, sxs, sxl, sxm, Int.reduceBEq, Int.reduceBNe, Int.reduceLT, Int.reduceLE, Int.reduceEq, Int.reduceGT, Int.reduceGE, Int.reduceToNat, ↓reduceIte, List.reduceReplicate, Nat.reduceAdd, Nat.reduceSub, Nat.reduceMul, Nat.reduceLT, Nat.reduceLeDiff, Nat.reduceBEq, Nat.reduceEqDiff, e11]
            refine ⟨by omega, by omega, _, rfl, ?_⟩
            refine wr_at (A := N5) (B := FF q i y l) (l := o) (k := n) (u := lv l k + 1) rfl i1_len hol (by omega) ?_
            simp (config := { maxSteps := 4000000 }) only [↓sx0, ↓sx1, ↓sx2, ↓sx3, ↓sx4, ↓sx5, ↓sx6, sx0, sx1, sx2, sx3, sx4, sx5, sx6, tf49, ev3_hold, sxo, sxc, sxp, sxq, sxr, sxs, sxl, sxm, Int.reduceBEq, Int.reduceBNe, Int.reduceLT, Int.reduceLE, Int.reduceEq, Int.reduceGT, Int.reduceGE, Int.reduceToNat, ↓reduceIte, List.reduceReplicate, Nat.reduceAdd, Nat.reduceSub, Nat.reduceMul, Nat.reduceLT, Nat.reduceLeDiff, Nat.reduceBEq, Nat.reduceEqDiff]
            refine ⟨_, HImp.app _ _ _, ?_⟩
            rw [rlx, if_pos ⟨hf2, .inr (by rw [hcst]; omega)⟩, hcst]
          · have e10 : (lv o n = -1) = False := eq_false h1
            have e11 : (lv l k + 1 < lv o n) = False := eq_false h2
            simp (config := { maxSteps := 4000000 }) only [↓sx0, ↓sx1, ↓sx2, ↓sx3, ↓sx4, ↓sx5, ↓sx6, sx0, sx1, sx2, sx3, sx4, sx5, sx6, tf49, ev3_hold, sxo, sxc, sxp, sxq, sxr, sxs, sxl, sxm, Int.reduceBEq, Int.reduceBNe, Int.reduceLT, Int.reduceLE, Int.reduceEq, Int.reduceGT, Int.reduceGE, Int.reduceToNat, ↓reduceIte, List.reduceReplicate, Nat.reduceAdd, Nat.reduceSub, Nat.reduceMul, Nat.reduceLT, Nat.reduceLeDiff, Nat.reduceBEq, Nat.reduceEqDiff, e5, e12]
            refine ld_cell (List.mem_cons_of_mem _ (hq l)) rfl ?_
            simp (config := { maxSteps := 4000000 }) only [↓sx0, ↓sx1, ↓sx2, ↓sx3, ↓sx4, ↓sx5, ↓sx6, sx0, sx1, sx2, sx3, sx4, sx5, sx6, tf49, ev3_hold, sxo, sxc, sxp, sxq, sxr, sxs, sxl, sxm, Int.reduceBEq, Int.reduceBNe, Int.reduceLT, Int.reduceLE, Int.reduceEq, Int.reduceGT, Int.reduceGE, Int.reduceToNat, ↓reduceIte, List.reduceReplicate, Nat.reduceAdd, Nat.reduceSub, Nat.reduceMul, Nat.reduceLT, Nat.reduceLeDiff, Nat.reduceBEq, Nat.reduceEqDiff, det0]
            refine CallOb.pureH (fun w' hp => floats_fn w' _ _ _ c (hc0.hp hp) hok g n (T + i + 1) (by omega) (by omega)) ?_
            intro r5 N5 hr5
            have hr6 : r5 = .bool true := hr5.trans (congrArg _ hf2)
            subst hr6
            refine ⟨?_⟩
            simp (config := { maxSteps := 4000000 }) only [↓sx0, ↓sx1, ↓sx2, ↓sx3, ↓sx4, ↓sx5, ↓sx6, sx0, sx1, sx2, sx3, sx4, sx5, sx6, tf49, ev3_hold, sxo, sxc, sxp, sxq, sxr, sxs, sxl, sxm, Int.reduceBEq, Int.reduceBNe, Int.reduceLT, Int.reduceLE, Int.reduceEq, Int.reduceGT, Int.reduceGE, Int.reduceToNat, ↓reduceIte, List.reduceReplicate, Nat.reduceAdd, Nat.reduceSub, Nat.reduceMul, Nat.reduceLT, Nat.reduceLeDiff, Nat.reduceBEq, Nat.reduceEqDiff]
            refine ⟨by omega, by omega, _, rfl, ?_⟩
            refine ld_at1 (hrd o x2 hol _ (List.mem_append_right _ List.mem_cons_self)) i1_len (hat o n (by omega)) rfl ?_
            simp (config := { maxSteps := 4000000 }) only [↓sx0, ↓sx1, ↓sx2, ↓sx3, ↓sx4, ↓sx5, ↓sx6, sx0, sx1, sx2, sx3, sx4, sx5, sx6, tf49, ev3_hold, sxo, sxc, sxp, sxq, sxr, sxs, sxl, sxm, Int.reduceBEq, Int.reduceBNe, Int.reduceLT, Int.reduceLE, Int.reduceEq, Int.reduceGT, Int.reduceGE, Int.reduceToNat, ↓reduceIte, List.reduceReplicate, Nat.reduceAdd, Nat.reduceSub, Nat.reduceMul, Nat.reduceLT, Nat.reduceLeDiff, Nat.reduceBEq, Nat.reduceEqDiff, e10]
            refine ⟨by omega, by omega, _, rfl, ?_⟩
            refine ld_at1 (hrd o x2 hol _ (List.mem_append_right _ List.mem_cons_self)) i1_len (hat o n (by omega)) rfl ?_
            simp (config := { maxSteps := 4000000 }) only [↓sx0, ↓sx1, ↓sx2, ↓sx3, ↓sx4, ↓sx5, ↓sx6, sx0, sx1, sx2, sx3, sx4, sx5, sx6, tf49, ev3_hold, sxo, sxc, sxp, sxq, sxr, sxs, sxl, sxm, Int.reduceBEq, Int.reduceBNe, Int.reduceLT, Int.reduceLE, Int.reduceEq, Int.reduceGT, Int.reduceGE, Int.reduceToNat, ↓reduceIte, List.reduceReplicate, Nat.reduceAdd, Nat.reduceSub, Nat.reduceMul, Nat.reduceLT, Nat.reduceLeDiff, Nat.reduceBEq, Nat.reduceEqDiff, e11]
            refine ⟨_, HImp.app _ _ _, ?_⟩
            rw [rlx, if_neg (by rw [hcst]; rintro ⟨_, h | h⟩ <;> omega)]
      · rintro L' H' - ⟨rfl, rfl⟩
        refine ⟨?_⟩
        simp (config := { maxSteps := 4000000 }) only [↓sx0, ↓sx1, ↓sx2, ↓sx3, ↓sx4, ↓sx5, ↓sx6, sx0, sx1, sx2, sx3, sx4, sx5, sx6, tf49, ev3_hold, sxo, sxc, sxp, sxq, sxr, sxs, sxl, sxm, Int.reduceBEq, Int.reduceBNe, Int.reduceLT, Int.reduceLE, Int.reduceEq, Int.reduceGT, Int.reduceGE, Int.reduceToNat, ↓reduceIte, List.reduceReplicate, Nat.reduceAdd, Nat.reduceSub, Nat.reduceMul, Nat.reduceLT, Nat.reduceLeDiff, Nat.reduceBEq, Nat.reduceEqDiff, e8]
        refine ⟨k + 1, _, rfl, HImp.refl _ _, ⟨by omega, ?_⟩, by omega⟩
        rw [List.take_of_length_le (Nat.le_refl _), mvK, if_neg hn1]

end Go.Proofs.YtcnjhgnlcnmagaaDoor

namespace Go.Proofs.YtcnjhgnlcnmagaaDoor
open Go.RowKit Go.SX
set_option maxRecDepth 20000
set_option maxHeartbeats 8000000
set_option linter.unusedSimpArgs false
set_option linter.unusedVariables false

/-! ### Small functions of the laws: beside, apart, tide, moves -/

def nxt (W H k : Nat) (b : Int) : Prop := ∃ n ∈ besL W H k 6, (n : Int) = b

theorem beside1_fn (w : World) (hw : Ways w) (v : Value) (c : Cht) (hc : ChOk w v c) (hok : c.ok) (k : Nat) (hk : k < c.depth.length) (b : Int) :
    SX.Fn Tryd.prog 80 [v, I k, I b] w (fun _ => False) fun r N => ∃ t, r = .bool t ∧ (t = true ↔ nxt c.W c.H k b) := by
  have hD := detR_ok (X := fun _ => False) hw hc (fun _ _ => id)
  obtain ⟨sD, sT, sS, rfl, hsD, hsT, hsS⟩ := hc
  obtain ⟨eW, eH, hW, hH, hlen⟩ := hok.dims
  refine walk [] [] hD Tryd.func80 rfl Tryd.ntmps80 res80 (by kernel_rfl) no_facts ?_
  simp (config := { maxSteps := 4000000 }) only [↓sx0, ↓sx1, ↓sx2, ↓sx3, ↓sx4, ↓sx5, ↓sx6, sx0, sx1, sx2, sx3, sx4, sx5, sx6, tf80, ev3_hold, sxo, sxc, sxp, sxq, sxr, sxs, sxl, sxm, Int.reduceBEq, Int.reduceBNe, Int.reduceLT, Int.reduceLE, Int.reduceEq, Int.reduceGT, Int.reduceGE, Int.reduceToNat, ↓reduceIte, List.reduceReplicate, Nat.reduceAdd, Nat.reduceSub, Nat.reduceMul, Nat.reduceLT, Nat.reduceLeDiff, Nat.reduceBEq, Nat.reduceEqDiff]
  refine loop_const [(6, 26)] (fun d : Nat => [(7, I d)]) (fun d H1 => d ≤ 6 ∧ H1 = [] ∧ ∀ n ∈ besL c.W c.H k d, (n : Int) ≠ b) (fun d => 6 - d) 0 ?_ ⟨by omega, rfl, by simp [besL]⟩ ?_
  · simp (config := { maxSteps := 4000000 }) only [↓sx0, ↓sx1, ↓sx2, ↓sx3, ↓sx4, ↓sx5, ↓sx6, sx0, sx1, sx2, sx3, sx4, sx5, sx6, tf80, ev3_hold, sxo, sxc, sxp, sxq, sxr, sxs, sxl, sxm, Int.reduceBEq, Int.reduceBNe, Int.reduceLT, Int.reduceLE, Int.reduceEq, Int.reduceGT, Int.reduceGE, Int.reduceToNat, ↓reduceIte, List.reduceReplicate, Nat.reduceAdd, Nat.reduceSub, Nat.reduceMul, Nat.reduceLT, Nat.reduceLeDiff, Nat.reduceBEq, Nat.reduceEqDiff]
    simp
  · rintro d H1 g ⟨hd, rfl, hno⟩
    by_cases hd6 : d = 6
    · subst hd6
      have e7 : (((6 : Nat) : Int) < 6) = False := eq_false (by omega)
      simp (config := { maxSteps := 4000000 }) only [↓sx0, ↓sx1, ↓sx2, ↓sx3, ↓sx4, ↓sx5, ↓sx6, sx0, sx1, sx2, sx3, sx4, sx5, sx6, tf80, ev3_hold, sxo, sxc, sxp, sxq, sxr, sxs, sxl, sxm, Int.reduceBEq, Int.reduceBNe, Int.reduceLT, Int.reduceLE, Int.reduceEq, Int.reduceGT, Int.reduceGE, Int.reduceToNat, ↓reduceIte, List.reduceReplicate, Nat.reduceAdd, Nat.reduceSub, Nat.reduceMul, Nat.reduceLT, Nat.reduceLeDiff, Nat.reduceBEq, Nat.reduceEqDiff, e7]
      unfold nxt
      simp
      exact hno
    have e7 : ((d : Int) < 6) = True := eq_true (by omega)
    have e8 : IntKind.i64.wrap ((d : Int) + 1) = ((d + 1 : Nat) : Int) := (wrap_id (by omega)).trans (by omega)
    have hb := (detR_beside (.agg #[I c.wide, I c.high, sD, sT, sS]) c hW hH (show k < c.W * c.H by omega) (show d < 6 by omega) sD sT sS).2
    rw [← eW, ← eH] at hb
    have hbs := besL_succ c.W c.H k d
    unfold besV at hb
    cases hbe : bes c.W c.H k d with
    | none =>
      rw [hbe] at hb hbs
      simp only [Option.toList_none, List.append_nil] at hb hbs
      simp (config := { maxSteps := 4000000 }) only [↓sx0, ↓sx1, ↓sx2, ↓sx3, ↓sx4, ↓sx5, ↓sx6, sx0, sx1, sx2, sx3, sx4, sx5, sx6, tf80, ev3_hold, sxo, sxc, sxp, sxq, sxr, sxs, sxl, sxm, Int.reduceBEq, Int.reduceBNe, Int.reduceLT, Int.reduceLE, Int.reduceEq, Int.reduceGT, Int.reduceGE, Int.reduceToNat, ↓reduceIte, List.reduceReplicate, Nat.reduceAdd, Nat.reduceSub, Nat.reduceMul, Nat.reduceLT, Nat.reduceLeDiff, Nat.reduceBEq, Nat.reduceEqDiff, e7, hb, e8]
      exact ⟨d + 1, _, rfl, HImp.refl _ _, ⟨by omega, rfl, by rw [hbs]; exact hno⟩, by omega⟩
    | some n =>
      rw [hbe] at hb hbs
      simp only [Option.toList_some] at hb hbs
      by_cases hnb : (n : Int) = b
      · have e9 : ((n : Int) = b) = True := eq_true hnb
        simp (config := { maxSteps := 4000000 }) only [↓sx0, ↓sx1, ↓sx2, ↓sx3, ↓sx4, ↓sx5, ↓sx6, sx0, sx1, sx2, sx3, sx4, sx5, sx6, tf80, ev3_hold, sxo, sxc, sxp, sxq, sxr, sxs, sxl, sxm, Int.reduceBEq, Int.reduceBNe, Int.reduceLT, Int.reduceLE, Int.reduceEq, Int.reduceGT, Int.reduceGE, Int.reduceToNat, ↓reduceIte, List.reduceReplicate, Nat.reduceAdd, Nat.reduceSub, Nat.reduceMul, Nat.reduceLT, Nat.reduceLeDiff, Nat.reduceBEq, Nat.reduceEqDiff, e7, hb, e9]
        obtain ⟨r, hr⟩ := besL_pre c.W c.H k (d + 1) (by omega)
        refine ⟨true, rfl, ?_⟩
        simp only [true_iff]
        exact ⟨n, by rw [hr, hbs]; simp, hnb⟩
      · have e9 : ((n : Int) = b) = False := eq_false hnb
        simp (config := { maxSteps := 4000000 }) only [↓sx0, ↓sx1, ↓sx2, ↓sx3, ↓sx4, ↓sx5, ↓sx6, sx0, sx1, sx2, sx3, sx4, sx5, sx6, tf80, ev3_hold, sxo, sxc, sxp, sxq, sxr, sxs, sxl, sxm, Int.reduceBEq, Int.reduceBNe, Int.reduceLT, Int.reduceLE, Int.reduceEq, Int.reduceGT, Int.reduceGE, Int.reduceToNat, ↓reduceIte, List.reduceReplicate, Nat.reduceAdd, Nat.reduceSub, Nat.reduceMul, Nat.reduceLT, Nat.reduceLeDiff, Nat.reduceBEq, Nat.reduceEqDiff, e7, hb, e9, e8]
        refine ⟨d + 1, _, rfl, HImp.refl _ _, ⟨by omega, rfl, ?_⟩, by omega⟩
        rw [hbs]
        intro m hm
        rcases List.mem_append.1 hm with h | h
        · exact hno m h
        · rw [List.mem_singleton] at h
          subst h
          exact hnb

theorem apart2_fn (w : World) (hw : Ways w) (v : Value) (c : Cht) (hc : ChOk w v c) (hsm : c.small) (hok : c.ok) (A B : Nat) (hA : A < c.depth.length) (hB : B < c.depth.length) : SX.Fn Tryd.prog 41 [v, I A, I B] w (fun _ => False) fun r N => r = I (dst c.W c.H A B : Nat) := by
  have hc0 := hc
  obtain ⟨sD, sT, sS, rfl, hsD, hsT, hsS⟩ := hc
  refine walk [] [] (det0_ok _ _) Tryd.func41 rfl Tryd.ntmps41 res41 (by kernel_rfl) no_facts ?_
  simp (config := { maxSteps := 4000000 }) only [↓sx0, ↓sx1, ↓sx2, ↓sx3, ↓sx4, ↓sx5, ↓sx6, sx0, sx1, sx2, sx3, sx4, sx5, sx6, tf41, ev3_hold, sxo, sxc, sxp, sxq, sxr, sxs, sxl, sxm, Int.reduceBEq, Int.reduceBNe, Int.reduceLT, Int.reduceLE, Int.reduceEq, Int.reduceGT, Int.reduceGE, Int.reduceToNat, ↓reduceIte, List.reduceReplicate, Nat.reduceAdd, Nat.reduceSub, Nat.reduceMul, Nat.reduceLT, Nat.reduceLeDiff, Nat.reduceBEq, Nat.reduceEqDiff, det0]
  refine CallOb.pureH (fun w' hp => apart_at w' (hw.hp hp) _ c (hc0.hp hp) hsm hok A B hA hB) ?_
  rintro r N rfl
  refine ⟨?_⟩
  simp (config := { maxSteps := 4000000 }) only [↓sx0, ↓sx1, ↓sx2, ↓sx3, ↓sx4, ↓sx5, ↓sx6, sx0, sx1, sx2, sx3, sx4, sx5, sx6, tf41, ev3_hold, sxo, sxc, sxp, sxq, sxr, sxs, sxl, sxm, Int.reduceBEq, Int.reduceBNe, Int.reduceLT, Int.reduceLE, Int.reduceEq, Int.reduceGT, Int.reduceGE, Int.reduceToNat, ↓reduceIte, List.reduceReplicate, Nat.reduceAdd, Nat.reduceSub, Nat.reduceMul, Nat.reduceLT, Nat.reduceLeDiff, Nat.reduceBEq, Nat.reduceEqDiff]

/-- Heights that are a tide of a chart. -/
def tideH (c : Cht) (l : List Int) : Prop := l.length = c.tide.length ∧ ∀ t, t < l.length → c.tlo t ≤ lv l t ∧ lv l t ≤ c.thi t

theorem tide_fn (w : World) (v : Value) (c : Cht) (hc : ChOk w v c) (hok : c.ok) (vl : Value) (l : List Int) (hl : Sl w vl 1 (ints l)) :
    SX.Fn Tryd.prog 42 [v, vl] w (fun _ => False) fun r N => ∃ t, r = .bool t ∧ (t = true ↔ tideH c l) := by
  obtain ⟨sD, sT, sS, rfl, hsD, hsT, hsS⟩ := hc
  obtain ⟨aT, nT, cT, rfl⟩ := hsT.shape
  obtain ⟨a, n, cp, rfl⟩ := hl.shape
  have hnT := hsT.le spc_len (by omega)
  have hn := hl.le i1_len (by omega)
  have h60 := hok.2.2.2.1.2
  subst hn
  have hrT := hsT.rd0
  have hr := hl.rd0
  refine walk [] [] (det0_ok _ _) Tryd.func42 rfl Tryd.ntmps42 res42 (by kernel_rfl) no_facts ?_
  by_cases hne : l.length = c.tide.length
  case neg =>
    have e1 : ((l.length : Int) = (nT : Int)) = False := eq_false (by omega)
    simp (config := { maxSteps := 4000000 }) only [↓sx0, ↓sx1, ↓sx2, ↓sx3, ↓sx4, ↓sx5, ↓sx6, sx0, sx1, sx2, sx3, sx4, sx5, sx6, tf42, ev3_hold, sxo, sxc, sxp, sxq, sxr, sxs, sxl, sxm, Int.reduceBEq, Int.reduceBNe, Int.reduceLT, Int.reduceLE, Int.reduceEq, Int.reduceGT, Int.reduceGE, Int.reduceToNat, ↓reduceIte, List.reduceReplicate, Nat.reduceAdd, Nat.reduceSub, Nat.reduceMul, Nat.reduceLT, Nat.reduceLeDiff, Nat.reduceBEq, Nat.reduceEqDiff, e1]
    refine ⟨false, rfl, ?_⟩
    simp only [Bool.false_eq_true, false_iff]
    exact fun h => hne h.1
  have e1 : ((l.length : Int) = (nT : Int)) = True := eq_true (by omega)
  simp (config := { maxSteps := 4000000 }) only [↓sx0, ↓sx1, ↓sx2, ↓sx3, ↓sx4, ↓sx5, ↓sx6, sx0, sx1, sx2, sx3, sx4, sx5, sx6, tf42, ev3_hold, sxo, sxc, sxp, sxq, sxr, sxs, sxl, sxm, Int.reduceBEq, Int.reduceBNe, Int.reduceLT, Int.reduceLE, Int.reduceEq, Int.reduceGT, Int.reduceGE, Int.reduceToNat, ↓reduceIte, List.reduceReplicate, Nat.reduceAdd, Nat.reduceSub, Nat.reduceMul, Nat.reduceLT, Nat.reduceLeDiff, Nat.reduceBEq, Nat.reduceEqDiff, e1]
  refine loop_const [(4, 5), (12, 41)] (fun t : Nat => [(5, I t)]) (fun t H1 => t ≤ l.length ∧ H1 = [] ∧ ∀ s, s < t → c.tlo s ≤ lv l s ∧ lv l s ≤ c.thi s) (fun t => l.length - t) 0 ?_ ⟨by omega, rfl, by simp⟩ ?_
  · simp (config := { maxSteps := 4000000 }) only [↓sx0, ↓sx1, ↓sx2, ↓sx3, ↓sx4, ↓sx5, ↓sx6, sx0, sx1, sx2, sx3, sx4, sx5, sx6, tf42, ev3_hold, sxo, sxc, sxp, sxq, sxr, sxs, sxl, sxm, Int.reduceBEq, Int.reduceBNe, Int.reduceLT, Int.reduceLE, Int.reduceEq, Int.reduceGT, Int.reduceGE, Int.reduceToNat, ↓reduceIte, List.reduceReplicate, Nat.reduceAdd, Nat.reduceSub, Nat.reduceMul, Nat.reduceLT, Nat.reduceLeDiff, Nat.reduceBEq, Nat.reduceEqDiff]
    simp
  · rintro t H1 g ⟨ht, rfl, hall⟩
    by_cases htl : t = l.length
    · have e7 : ((t : Int) < (l.length : Int)) = False := eq_false (by omega)
      simp (config := { maxSteps := 4000000 }) only [↓sx0, ↓sx1, ↓sx2, ↓sx3, ↓sx4, ↓sx5, ↓sx6, sx0, sx1, sx2, sx3, sx4, sx5, sx6, tf42, ev3_hold, sxo, sxc, sxp, sxq, sxr, sxs, sxl, sxm, Int.reduceBEq, Int.reduceBNe, Int.reduceLT, Int.reduceLE, Int.reduceEq, Int.reduceGT, Int.reduceGE, Int.reduceToNat, ↓reduceIte, List.reduceReplicate, Nat.reduceAdd, Nat.reduceSub, Nat.reduceMul, Nat.reduceLT, Nat.reduceLeDiff, Nat.reduceBEq, Nat.reduceEqDiff, e7]
      refine ⟨true, rfl, ?_⟩
      simp only [true_iff]
      exact ⟨hne, by rw [← htl]; exact hall⟩
    have e7 : ((t : Int) < (l.length : Int)) = True := eq_true (by omega)
    have e8 : IntKind.i64.wrap ((t : Int) + 1) = ((t + 1 : Nat) : Int) := (wrap_id (by omega)).trans (by omega)
    have hu : l[t]? = some (lv l t) := getD_at (by omega) 0
    simp (config := { maxSteps := 4000000 }) only [↓sx0, ↓sx1, ↓sx2, ↓sx3, ↓sx4, ↓sx5, ↓sx6, sx0, sx1, sx2, sx3, sx4, sx5, sx6, tf42, ev3_hold, sxo, sxc, sxp, sxq, sxr, sxs, sxl, sxm, Int.reduceBEq, Int.reduceBNe, Int.reduceLT, Int.reduceLE, Int.reduceEq, Int.reduceGT, Int.reduceGE, Int.reduceToNat, ↓reduceIte, List.reduceReplicate, Nat.reduceAdd, Nat.reduceSub, Nat.reduceMul, Nat.reduceLT, Nat.reduceLeDiff, Nat.reduceBEq, Nat.reduceEqDiff, e7]
    refine amid (at_1 (hr _) i1_len hu rfl fun ad1 => ?_)
    simp (config := { maxSteps := 4000000 }) only [↓sx0, ↓sx1, ↓sx2, ↓sx3, ↓sx4, ↓sx5, ↓sx6, sx0, sx1, sx2, sx3, sx4, sx5, sx6, tf42, ev3_hold, sxo, sxc, sxp, sxq, sxr, sxs, sxl, sxm, Int.reduceBEq, Int.reduceBNe, Int.reduceLT, Int.reduceLE, Int.reduceEq, Int.reduceGT, Int.reduceGE, Int.reduceToNat, ↓reduceIte, List.reduceReplicate, Nat.reduceAdd, Nat.reduceSub, Nat.reduceMul, Nat.reduceLT, Nat.reduceLeDiff, Nat.reduceBEq, Nat.reduceEqDiff]
    refine at_f (hrT _) spc_len (getD_at (show t < c.tide.length by omega) (0, 0)) (o := 0) (x := I (c.tlo t)) rfl fun ad2 => ?_
    by_cases h1 : lv l t < c.tlo t
    · have e2 : (lv l t < c.tlo t) = True := eq_true h1
      simp (config := { maxSteps := 4000000 }) only [↓sx0, ↓sx1, ↓sx2, ↓sx3, ↓sx4, ↓sx5, ↓sx6, sx0, sx1, sx2, sx3, sx4, sx5, sx6, tf42, ev3_hold, sxo, sxc, sxp, sxq, sxr, sxs, sxl, sxm, Int.reduceBEq, Int.reduceBNe, Int.reduceLT, Int.reduceLE, Int.reduceEq, Int.reduceGT, Int.reduceGE, Int.reduceToNat, ↓reduceIte, List.reduceReplicate, Nat.reduceAdd, Nat.reduceSub, Nat.reduceMul, Nat.reduceLT, Nat.reduceLeDiff, Nat.reduceBEq, Nat.reduceEqDiff, e2]
      refine ⟨false, rfl, ?_⟩
      simp only [Bool.false_eq_true, false_iff]
      intro h
      have := (h.2 t (by omega)).1
      omega
    have e2 : (lv l t < c.tlo t) = False := eq_false h1
    by_cases h2 : lv l t > c.thi t
    · have e3 : (lv l t > c.thi t) = True := eq_true h2
      simp (config := { maxSteps := 4000000 }) only [↓sx0, ↓sx1, ↓sx2, ↓sx3, ↓sx4, ↓sx5, ↓sx6, sx0, sx1, sx2, sx3, sx4, sx5, sx6, tf42, ev3_hold, sxo, sxc, sxp, sxq, sxr, sxs, sxl, sxm, Int.reduceBEq, Int.reduceBNe, Int.reduceLT, Int.reduceLE, Int.reduceEq, Int.reduceGT, Int.reduceGE, Int.reduceToNat, ↓reduceIte, List.reduceReplicate, Nat.reduceAdd, Nat.reduceSub, Nat.reduceMul, Nat.reduceLT, Nat.reduceLeDiff, Nat.reduceBEq, Nat.reduceEqDiff, e2, e7]
      refine amid (at_1 (hr _) i1_len hu rfl fun ad3 => ?_)
      simp (config := { maxSteps := 4000000 }) only [↓sx0, ↓sx1, ↓sx2, ↓sx3, ↓sx4, ↓sx5, ↓sx6, sx0, sx1, sx2, sx3, sx4, sx5, sx6, tf42, ev3_hold, sxo, sxc, sxp, sxq, sxr, sxs, sxl, sxm, Int.reduceBEq, Int.reduceBNe, Int.reduceLT, Int.reduceLE, Int.reduceEq, Int.reduceGT, Int.reduceGE, Int.reduceToNat, ↓reduceIte, List.reduceReplicate, Nat.reduceAdd, Nat.reduceSub, Nat.reduceMul, Nat.reduceLT, Nat.reduceLeDiff, Nat.reduceBEq, Nat.reduceEqDiff]
      refine at_f (hrT _) spc_len (getD_at (show t < c.tide.length by omega) (0, 0)) (o := 1) (x := I (c.thi t)) rfl fun ad4 => ?_
      simp (config := { maxSteps := 4000000 }) only [↓sx0, ↓sx1, ↓sx2, ↓sx3, ↓sx4, ↓sx5, ↓sx6, sx0, sx1, sx2, sx3, sx4, sx5, sx6, tf42, ev3_hold, sxo, sxc, sxp, sxq, sxr, sxs, sxl, sxm, Int.reduceBEq, Int.reduceBNe, Int.reduceLT, Int.reduceLE, Int.reduceEq, Int.reduceGT, Int.reduceGE, Int.reduceToNat, ↓reduceIte, List.reduceReplicate, Nat.reduceAdd, Nat.reduceSub, Nat.reduceMul, Nat.reduceLT, Nat.reduceLeDiff, Nat.reduceBEq, Nat.reduceEqDiff, e3]
      refine ⟨false, rfl, ?_⟩
      simp only [Bool.false_eq_true, false_iff]
      intro h
      have := (h.2 t (by omega)).2
      omega
    · have e3 : (lv l t > c.thi t) = False := eq_false h2
      simp (config := { maxSteps := 4000000 }) only [↓sx0, ↓sx1, ↓sx2, ↓sx3, ↓sx4, ↓sx5, ↓sx6, sx0, sx1, sx2, sx3, sx4, sx5, sx6, tf42, ev3_hold, sxo, sxc, sxp, sxq, sxr, sxs, sxl, sxm, Int.reduceBEq, Int.reduceBNe, Int.reduceLT, Int.reduceLE, Int.reduceEq, Int.reduceGT, Int.reduceGE, Int.reduceToNat, ↓reduceIte, List.reduceReplicate, Nat.reduceAdd, Nat.reduceSub, Nat.reduceMul, Nat.reduceLT, Nat.reduceLeDiff, Nat.reduceBEq, Nat.reduceEqDiff, e2, e7]
      refine amid (at_1 (hr _) i1_len hu rfl fun ad3 => ?_)
      simp (config := { maxSteps := 4000000 }) only [↓sx0, ↓sx1, ↓sx2, ↓sx3, ↓sx4, ↓sx5, ↓sx6, sx0, sx1, sx2, sx3, sx4, sx5, sx6, tf42, ev3_hold, sxo, sxc, sxp, sxq, sxr, sxs, sxl, sxm, Int.reduceBEq, Int.reduceBNe, Int.reduceLT, Int.reduceLE, Int.reduceEq, Int.reduceGT, Int.reduceGE, Int.reduceToNat, ↓reduceIte, List.reduceReplicate, Nat.reduceAdd, Nat.reduceSub, Nat.reduceMul, Nat.reduceLT, Nat.reduceLeDiff, Nat.reduceBEq, Nat.reduceEqDiff]
      refine at_f (hrT _) spc_len (getD_at (show t < c.tide.length by omega) (0, 0)) (o := 1) (x := I (c.thi t)) rfl fun ad4 => ?_
      simp (config := { maxSteps := 4000000 }) only [↓sx0, ↓sx1, ↓sx2, ↓sx3, ↓sx4, ↓sx5, ↓sx6, sx0, sx1, sx2, sx3, sx4, sx5, sx6, tf42, ev3_hold, sxo, sxc, sxp, sxq, sxr, sxs, sxl, sxm, Int.reduceBEq, Int.reduceBNe, Int.reduceLT, Int.reduceLE, Int.reduceEq, Int.reduceGT, Int.reduceGE, Int.reduceToNat, ↓reduceIte, List.reduceReplicate, Nat.reduceAdd, Nat.reduceSub, Nat.reduceMul, Nat.reduceLT, Nat.reduceLeDiff, Nat.reduceBEq, Nat.reduceEqDiff, e3, e8]
      refine ⟨t + 1, _, rfl, HImp.refl _ _, ⟨by omega, rfl, fun s hs => ?_⟩, by omega⟩
      by_cases h : s < t
      · exact hall s h
      · rw [show s = t by omega]
        omega

/-- How many moves the first numbers have. -/
def mvI (l : List Int) : Nat → Nat
  | 0 => 0
  | i + 1 => if lv l (i + 1) = lv l i then mvI l i else mvI l i + 1

theorem mvI_le (l : List Int) : ∀ i, mvI l i ≤ i
  | 0 => Nat.le_refl _
  | i + 1 => by
    have := mvI_le l i
    unfold mvI
    split <;> omega

theorem mvI_nts (p : List Nat) : ∀ i, i < p.length → ((mvI (nts p) i : Nat) : Int) = mvs p i
  | 0, _ => rfl
  | i + 1, h => by
    have ih := mvI_nts p i (by omega)
    have hv : ∀ j, j < p.length → lv (nts p) j = ((p.getD j 0 : Nat) : Int) := fun j hj => by
      unfold lv nts
      rw [List.getD_eq_getElem?_getD, List.getElem?_map, getD_at hj 0]
      rfl
    rw [mvI, mvs, hv _ h, hv i (by omega)]
    unfold cst
    by_cases he : p.getD (i + 1) 0 = p.getD i 0
    · rw [if_pos he, if_pos (by omega), ih]
      omega
    · rw [if_neg he, if_neg (by omega)]
      omega

theorem moves1_fn (w : World) (vl : Value) (l : List Int) (hl : Sl w vl 1 (ints l)) (hb : l.length < 1000) :
    SX.Fn Tryd.prog 51 [vl] w (fun _ => False) fun r N => r = I (mvI l (l.length - 1) : Nat) := by
  obtain ⟨a, n, cp, rfl⟩ := hl.shape
  have hn := hl.le i1_len (by omega)
  subst hn
  have hr := hl.rd0
  refine walk [] [] (det0_ok _ _) Tryd.func51 rfl Tryd.ntmps51 res51 (by kernel_rfl) no_facts ?_
  simp (config := { maxSteps := 4000000 }) only [↓sx0, ↓sx1, ↓sx2, ↓sx3, ↓sx4, ↓sx5, ↓sx6, sx0, sx1, sx2, sx3, sx4, sx5, sx6, tf51, ev3_hold, sxo, sxc, sxp, sxq, sxr, sxs, sxl, sxm, Int.reduceBEq, Int.reduceBNe, Int.reduceLT, Int.reduceLE, Int.reduceEq, Int.reduceGT, Int.reduceGE, Int.reduceToNat, ↓reduceIte, List.reduceReplicate, Nat.reduceAdd, Nat.reduceSub, Nat.reduceMul, Nat.reduceLT, Nat.reduceLeDiff, Nat.reduceBEq, Nat.reduceEqDiff]
  refine loop_const [(3, 22)] (fun i : Nat => [(3, I (mvI l i : Nat)), (4, I ((i + 1 : Nat) : Int))]) (fun i H1 => i ≤ l.length - 1 ∧ H1 = []) (fun i => l.length - i) 0 ?_ ⟨by omega, rfl⟩ ?_
  · simp (config := { maxSteps := 4000000 }) only [↓sx0, ↓sx1, ↓sx2, ↓sx3, ↓sx4, ↓sx5, ↓sx6, sx0, sx1, sx2, sx3, sx4, sx5, sx6, tf51, ev3_hold, sxo, sxc, sxp, sxq, sxr, sxs, sxl, sxm, Int.reduceBEq, Int.reduceBNe, Int.reduceLT, Int.reduceLE, Int.reduceEq, Int.reduceGT, Int.reduceGE, Int.reduceToNat, ↓reduceIte, List.reduceReplicate, Nat.reduceAdd, Nat.reduceSub, Nat.reduceMul, Nat.reduceLT, Nat.reduceLeDiff, Nat.reduceBEq, Nat.reduceEqDiff]
    simp [mvI]
  · rintro i H1 g ⟨hi, rfl⟩
    by_cases hil : i = l.length - 1
    · have e7 : (((i + 1 : Nat) : Int) < (l.length : Int)) = False := eq_false (by omega)
      simp (config := { maxSteps := 4000000 }) only [↓sx0, ↓sx1, ↓sx2, ↓sx3, ↓sx4, ↓sx5, ↓sx6, sx0, sx1, sx2, sx3, sx4, sx5, sx6, tf51, ev3_hold, sxo, sxc, sxp, sxq, sxr, sxs, sxl, sxm, Int.reduceBEq, Int.reduceBNe, Int.reduceLT, Int.reduceLE, Int.reduceEq, Int.reduceGT, Int.reduceGE, Int.reduceToNat, ↓reduceIte, List.reduceReplicate, Nat.reduceAdd, Nat.reduceSub, Nat.reduceMul, Nat.reduceLT, Nat.reduceLeDiff, Nat.reduceBEq, Nat.reduceEqDiff, e7]
      rw [hil]
    have e7 : (((i + 1 : Nat) : Int) < (l.length : Int)) = True := eq_true (by omega)
    have e8 : IntKind.i64.wrap (((i + 1 : Nat) : Int) + 1) = ((i + 1 + 1 : Nat) : Int) := (wrap_id (by omega)).trans (by omega)
    have e9 : IntKind.i64.wrap (((i + 1 : Nat) : Int) - 1) = (i : Int) := (wrap_id (by omega)).trans (by omega)
    have hm := mvI_le l i
    have e10 : IntKind.i64.wrap (((mvI l i : Nat) : Int) + 1) = ((mvI l i + 1 : Nat) : Int) := (wrap_id (by omega)).trans (by omega)
    have hu : l[i + 1]? = some (lv l (i + 1)) := getD_at (by omega) 0
    have hu2 : l[i]? = some (lv l i) := getD_at (by omega) 0
    have hmi : mvI l (i + 1) = if lv l (i + 1) = lv l i then mvI l i else mvI l i + 1 := rfl
    simp (config := { maxSteps := 4000000 }) only [↓sx0, ↓sx1, ↓sx2, ↓sx3, ↓sx4, ↓sx5, ↓sx6, sx0, sx1, sx2, sx3, sx4, sx5, sx6, tf51, ev3_hold, sxo, sxc, sxp, sxq, sxr, sxs, sxl, sxm, Int.reduceBEq, Int.reduceBNe, Int.reduceLT, Int.reduceLE, Int.reduceEq, Int.reduceGT, Int.reduceGE, Int.reduceToNat, ↓reduceIte, List.reduceReplicate, Nat.reduceAdd, Nat.reduceSub, Nat.reduceMul, Nat.reduceLT, Nat.reduceLeDiff, Nat.reduceBEq, Nat.reduceEqDiff, e7]
    refine amid (at_1 (hr _) i1_len hu rfl fun ad1 => ?_)
    simp (config := { maxSteps := 4000000 }) only [↓sx0, ↓sx1, ↓sx2, ↓sx3, ↓sx4, ↓sx5, ↓sx6, sx0, sx1, sx2, sx3, sx4, sx5, sx6, tf51, ev3_hold, sxo, sxc, sxp, sxq, sxr, sxs, sxl, sxm, Int.reduceBEq, Int.reduceBNe, Int.reduceLT, Int.reduceLE, Int.reduceEq, Int.reduceGT, Int.reduceGE, Int.reduceToNat, ↓reduceIte, List.reduceReplicate, Nat.reduceAdd, Nat.reduceSub, Nat.reduceMul, Nat.reduceLT, Nat.reduceLeDiff, Nat.reduceBEq, Nat.reduceEqDiff, e9]
    refine at_1 (hr _) i1_len hu2 rfl fun ad2 => ?_
    by_cases he : lv l (i + 1) = lv l i
    · have e1 : (lv l (i + 1) = lv l i) = True := eq_true he
      simp (config := { maxSteps := 4000000 }) only [↓sx0, ↓sx1, ↓sx2, ↓sx3, ↓sx4, ↓sx5, ↓sx6, sx0, sx1, sx2, sx3, sx4, sx5, sx6, tf51, ev3_hold, sxo, sxc, sxp, sxq, sxr, sxs, sxl, sxm, Int.reduceBEq, Int.reduceBNe, Int.reduceLT, Int.reduceLE, Int.reduceEq, Int.reduceGT, Int.reduceGE, Int.reduceToNat, ↓reduceIte, List.reduceReplicate, Nat.reduceAdd, Nat.reduceSub, Nat.reduceMul, Nat.reduceLT, Nat.reduceLeDiff, Nat.reduceBEq, Nat.reduceEqDiff, e1, e8]
      refine ⟨i + 1, _, ?_, HImp.refl _ _, ⟨by omega, rfl⟩, by omega⟩
      rw [hmi, if_pos he]
      exact ⟨rfl, rfl⟩
    · have e1 : (lv l (i + 1) = lv l i) = False := eq_false he
      simp (config := { maxSteps := 4000000 }) only [↓sx0, ↓sx1, ↓sx2, ↓sx3, ↓sx4, ↓sx5, ↓sx6, sx0, sx1, sx2, sx3, sx4, sx5, sx6, tf51, ev3_hold, sxo, sxc, sxp, sxq, sxr, sxs, sxl, sxm, Int.reduceBEq, Int.reduceBNe, Int.reduceLT, Int.reduceLE, Int.reduceEq, Int.reduceGT, Int.reduceGE, Int.reduceToNat, ↓reduceIte, List.reduceReplicate, Nat.reduceAdd, Nat.reduceSub, Nat.reduceMul, Nat.reduceLT, Nat.reduceLeDiff, Nat.reduceBEq, Nat.reduceEqDiff, e1, e8, e10]
      refine ⟨i + 1, _, ?_, HImp.refl _ _, ⟨by omega, rfl⟩, by omega⟩
      rw [hmi, if_neg he]
      exact ⟨rfl, rfl⟩

end Go.Proofs.YtcnjhgnlcnmagaaDoor

namespace Go.Proofs.YtcnjhgnlcnmagaaDoor
open Go.RowKit Go.SX
set_option maxRecDepth 20000
set_option maxHeartbeats 8000000
set_option linter.unusedSimpArgs false
set_option linter.unusedVariables false

/-! ### Passages, as the laws tell them -/

def passTo (c : Cht) (g : Int) (t : Nat) (l : List Int) (i : Nat) : Prop :=
  ∀ j, j < i → (0 ≤ lv l j ∧ (lv l j).toNat < c.depth.length) ∧ c.flt g (t + j) (lv l j).toNat = true ∧ (0 < j → (lv l j).toNat ∈ nbL c.W c.H (lv l (j - 1)).toNat)

def isPassI (c : Cht) (g : Int) (t : Nat) (l : List Int) : Prop := 0 < l.length ∧ t + l.length ≤ c.tide.length ∧ passTo c g t l l.length

theorem lv_nts {p : List Nat} {j : Nat} (hj : j < p.length) : lv (nts p) j = ((p.getD j 0 : Nat) : Int) := by
  unfold lv nts
  rw [List.getD_eq_getElem?_getD, List.getElem?_map, getD_at hj 0]
  rfl

theorem isPassI_nts {c : Cht} {g : Int} {t : Nat} {p : List Nat} : isPassI c g t (nts p) ↔ isPass c g t p := by
  unfold isPassI isPass passTo
  rw [List.length_map]
  constructor
  · rintro ⟨h1, h2, h3⟩
    refine ⟨fun h => by rw [h] at h1; simp at h1, h2, fun i hi => ?_⟩
    obtain ⟨⟨_, h4⟩, h5, h6⟩ := h3 i hi
    rw [lv_nts hi, Int.toNat_natCast] at h4 h5 h6
    refine ⟨h4, h5, fun h0 => ?_⟩
    have := h6 h0
    rwa [lv_nts (by omega), Int.toNat_natCast] at this
  · rintro ⟨h1, h2, h3⟩
    refine ⟨List.length_pos_iff.2 h1, h2, fun i hi => ?_⟩
    obtain ⟨h4, h5, h6⟩ := h3 i hi
    rw [lv_nts hi, Int.toNat_natCast]
    refine ⟨⟨by omega, h4⟩, h5, fun h0 => ?_⟩
    rw [lv_nts (by omega), Int.toNat_natCast]
    exact h6 h0

theorem isPassI_ex {c : Cht} {g : Int} {t : Nat} {l : List Int} (h : isPassI c g t l) : ∃ p, l = nts p ∧ isPass c g t p := by
  have e : l = nts (l.map Int.toNat) := by
    refine List.ext_getElem? fun i => ?_
    unfold nts
    rw [List.map_map, List.getElem?_map]
    by_cases hi : i < l.length
    · rw [getD_at hi 0]
      have := (h.2.2 i hi).1.1
      unfold lv at this
      simp only [Option.map_some, Function.comp, Option.some.injEq]
      omega
    · rw [List.getElem?_eq_none (by omega)]
      rfl
  refine ⟨_, e, ?_⟩
  rw [e] at h
  exact isPassI_nts.1 h

theorem mem_nb {W H k : Nat} {n : Nat} : n ∈ nbL W H k ↔ n = k ∨ nxt W H k n := by
  unfold nbL nxt
  rw [List.mem_cons]
  refine or_congr_right ⟨fun h => ⟨n, h, rfl⟩, fun ⟨m, h, e⟩ => ?_⟩
  rw [show n = m by omega]
  exact h

theorem isPassage_fn (w : World) (hw : Ways w) (v : Value) (c : Cht) (hc : ChOk w v c) (hok : c.ok) (g : Int) (t : Nat) (ht : t < c.tide.length) (vl : Value) (l : List Int) (hl : Sl w vl 1 (ints l)) (hb : l.length ≤ 60) :
    SX.Fn Tryd.prog 40 [v, I g, I t, vl] w (fun _ => False) fun r N => ∃ b, r = .bool b ∧ (b = true ↔ isPassI c g t l) := by
  have hc0 := hc
  have hD := detR_ok (X := fun _ => False) hw hc (fun _ _ => id)
  obtain ⟨sD, sT, sS, rfl, hsD, hsT, hsS⟩ := hc
  obtain ⟨aT, nT, cT, rfl⟩ := hsT.shape
  obtain ⟨a, n, cp, rfl⟩ := hl.shape
  have hnT := hsT.le spc_len (by omega)
  have hn := hl.le i1_len (by omega)
  have h60 := hok.2.2.2.1.2
  subst hn
  have hr := hl.rd0
  obtain ⟨eW, eH, hW, hH, hlen⟩ := hok.dims
  have dn : (∀ xs, detR (.agg #[I c.wide, I c.high, sD, .slice aT nT cT, sS]) c 79 xs = none) ∧ (∀ xs, detR (.agg #[I c.wide, I c.high, sD, .slice aT nT cT, sS]) c 80 xs = none) := ⟨fun _ => rfl, fun _ => rfl⟩
  refine walk [] [] hD Tryd.func40 rfl Tryd.ntmps40 res40 (by kernel_rfl) no_facts ?_
  have e0 : ((t : Int) < 0) = False := eq_false (by omega)
  have eA : IntKind.i64.wrap ((t : Int) + (l.length : Int)) = ((t + l.length : Nat) : Int) := (wrap_id (by omega)).trans (by omega)
  by_cases h0 : l.length = 0
  · have e1 : ((l.length : Int) = 0) = True := eq_true (by omega)
    simp (config := { maxSteps := 4000000 }) only [↓sx0, ↓sx1, ↓sx2, ↓sx3, ↓sx4, ↓sx5, ↓sx6, sx0, sx1, sx2, sx3, sx4, sx5, sx6, tf40, ev3_hold, sxo, sxc, sxp, sxq, sxr, sxs, sxl, sxm, Int.reduceBEq, Int.reduceBNe, Int.reduceLT, Int.reduceLE, Int.reduceEq, Int.reduceGT, Int.reduceGE, Int.reduceToNat, ↓reduceIte, List.reduceReplicate, Nat.reduceAdd, Nat.reduceSub, Nat.reduceMul, Nat.reduceLT, Nat.reduceLeDiff, Nat.reduceBEq, Nat.reduceEqDiff, e0, e1, dn]
    refine ⟨false, rfl, ?_⟩
    simp [isPassI, h0]
  have e1 : ((l.length : Int) = 0) = False := eq_false (by omega)
  by_cases h1 : t + l.length > c.tide.length
  · have e2 : (((t + l.length : Nat) : Int) > (nT : Int)) = True := eq_true (by omega)
    simp (config := { maxSteps := 4000000 }) only [↓sx0, ↓sx1, ↓sx2, ↓sx3, ↓sx4, ↓sx5, ↓sx6, sx0, sx1, sx2, sx3, sx4, sx5, sx6, tf40, ev3_hold, sxo, sxc, sxp, sxq, sxr, sxs, sxl, sxm, Int.reduceBEq, Int.reduceBNe, Int.reduceLT, Int.reduceLE, Int.reduceEq, Int.reduceGT, Int.reduceGE, Int.reduceToNat, ↓reduceIte, List.reduceReplicate, Nat.reduceAdd, Nat.reduceSub, Nat.reduceMul, Nat.reduceLT, Nat.reduceLeDiff, Nat.reduceBEq, Nat.reduceEqDiff, e0, e1, eA, e2, dn]
    refine ⟨false, rfl, ?_⟩
    simp only [Bool.false_eq_true, false_iff]
    intro h
    have := h.2.1
    omega
  have e2 : (((t + l.length : Nat) : Int) > (nT : Int)) = False := eq_false (by omega)
  simp (config := { maxSteps := 4000000 }) only [↓sx0, ↓sx1, ↓sx2, ↓sx3, ↓sx4, ↓sx5, ↓sx6, sx0, sx1, sx2, sx3, sx4, sx5, sx6, tf40, ev3_hold, sxo, sxc, sxp, sxq, sxr, sxs, sxl, sxm, Int.reduceBEq, Int.reduceBNe, Int.reduceLT, Int.reduceLE, Int.reduceEq, Int.reduceGT, Int.reduceGE, Int.reduceToNat, ↓reduceIte, List.reduceReplicate, Nat.reduceAdd, Nat.reduceSub, Nat.reduceMul, Nat.reduceLT, Nat.reduceLeDiff, Nat.reduceBEq, Nat.reduceEqDiff, e0, e1, eA, e2, dn]
  refine loop_constH [] (HImp.nil _ _) [(8, 9), (27, 80)] (fun i : Nat => [(9, I i)]) (fun i H1 => i ≤ l.length ∧ passTo c g t l i) (fun i => l.length - i) 0 ?_ ⟨Nat.zero_le _, fun j hj => by omega⟩ ?_
  · simp (config := { maxSteps := 4000000 }) only [↓sx0, ↓sx1, ↓sx2, ↓sx3, ↓sx4, ↓sx5, ↓sx6, sx0, sx1, sx2, sx3, sx4, sx5, sx6, tf40, ev3_hold, sxo, sxc, sxp, sxq, sxr, sxs, sxl, sxm, Int.reduceBEq, Int.reduceBNe, Int.reduceLT, Int.reduceLE, Int.reduceEq, Int.reduceGT, Int.reduceGE, Int.reduceToNat, ↓reduceIte, List.reduceReplicate, Nat.reduceAdd, Nat.reduceSub, Nat.reduceMul, Nat.reduceLT, Nat.reduceLeDiff, Nat.reduceBEq, Nat.reduceEqDiff]
    simp
  · rintro i H1 g1 ⟨hi, hto⟩
    by_cases hil : i = l.length
    · have e7 : ((i : Int) < (l.length : Int)) = False := eq_false (by omega)
      refine ⟨?_⟩
      simp (config := { maxSteps := 4000000 }) only [↓sx0, ↓sx1, ↓sx2, ↓sx3, ↓sx4, ↓sx5, ↓sx6, sx0, sx1, sx2, sx3, sx4, sx5, sx6, tf40, ev3_hold, sxo, sxc, sxp, sxq, sxr, sxs, sxl, sxm, Int.reduceBEq, Int.reduceBNe, Int.reduceLT, Int.reduceLE, Int.reduceEq, Int.reduceGT, Int.reduceGE, Int.reduceToNat, ↓reduceIte, List.reduceReplicate, Nat.reduceAdd, Nat.reduceSub, Nat.reduceMul, Nat.reduceLT, Nat.reduceLeDiff, Nat.reduceBEq, Nat.reduceEqDiff, e7]
      refine ⟨true, rfl, ?_⟩
      simp only [true_iff]
      exact ⟨by omega, by omega, by rw [← hil]; exact hto⟩
    have e7 : ((i : Int) < (l.length : Int)) = True := eq_true (by omega)
    have e8 : IntKind.i64.wrap ((i : Int) + 1) = ((i + 1 : Nat) : Int) := (wrap_id (by omega)).trans (by omega)
    have e9 : IntKind.i64.wrap ((t : Int) + (i : Int)) = ((t + i : Nat) : Int) := (wrap_id (by omega)).trans (by omega)
    have hu : l[i]? = some (lv l i) := getD_at (by omega) 0
    have ic := isCell_iff hok (lv l i)
    cases hcl : notCell c (lv l i) with
    | true =>
      rw [hcl] at ic
      refine ⟨?_⟩
      simp (config := { maxSteps := 4000000 }) only [↓sx0, ↓sx1, ↓sx2, ↓sx3, ↓sx4, ↓sx5, ↓sx6, sx0, sx1, sx2, sx3, sx4, sx5, sx6, tf40, ev3_hold, sxo, sxc, sxp, sxq, sxr, sxs, sxl, sxm, Int.reduceBEq, Int.reduceBNe, Int.reduceLT, Int.reduceLE, Int.reduceEq, Int.reduceGT, Int.reduceGE, Int.reduceToNat, ↓reduceIte, List.reduceReplicate, Nat.reduceAdd, Nat.reduceSub, Nat.reduceMul, Nat.reduceLT, Nat.reduceLeDiff, Nat.reduceBEq, Nat.reduceEqDiff, e7, dn]
      refine amid (at_1 (hr _) i1_len hu rfl fun ad1 => ?_)
      simp (config := { maxSteps := 4000000 }) only [↓sx0, ↓sx1, ↓sx2, ↓sx3, ↓sx4, ↓sx5, ↓sx6, sx0, sx1, sx2, sx3, sx4, sx5, sx6, tf40, ev3_hold, sxo, sxc, sxp, sxq, sxr, sxs, sxl, sxm, Int.reduceBEq, Int.reduceBNe, Int.reduceLT, Int.reduceLE, Int.reduceEq, Int.reduceGT, Int.reduceGE, Int.reduceToNat, ↓reduceIte, List.reduceReplicate, Nat.reduceAdd, Nat.reduceSub, Nat.reduceMul, Nat.reduceLT, Nat.reduceLeDiff, Nat.reduceBEq, Nat.reduceEqDiff, detR_eq, ic, dn]
      refine ⟨false, rfl, ?_⟩
      simp only [Bool.false_eq_true, false_iff]
      intro h
      have := (h.2.2 i (by omega)).1
      unfold notCell at hcl
      rw [Bool.not_eq_true', ← Bool.not_eq_true, inB_iff] at hcl
      omega
    | false =>
    rw [hcl] at ic
    have hK0 := cell_of hcl
    obtain ⟨K, hK, hKl⟩ := hK0
    rw [hK] at ic hu
    have hyes : c.flt g (t + i) K = true → (0 < i → K ∈ nbL c.W c.H (lv l (i - 1)).toNat) → passTo c g t l (i + 1) := fun h1 h2 j hj => by
      by_cases h : j < i
      · exact hto j h
      · rw [show j = i by omega, hK, Int.toNat_natCast]
        exact ⟨⟨by omega, hKl⟩, h1, h2⟩
    have hno : ¬ (c.flt g (t + i) K = true ∧ (0 < i → K ∈ nbL c.W c.H (lv l (i - 1)).toNat)) → ¬ isPassI c g t l := fun h q => by
      have := q.2.2 i (by omega)
      rw [hK, Int.toNat_natCast] at this
      exact h this.2
    refine ⟨?_⟩
    simp (config := { maxSteps := 4000000 }) only [↓sx0, ↓sx1, ↓sx2, ↓sx3, ↓sx4, ↓sx5, ↓sx6, sx0, sx1, sx2, sx3, sx4, sx5, sx6, tf40, ev3_hold, sxo, sxc, sxp, sxq, sxr, sxs, sxl, sxm, Int.reduceBEq, Int.reduceBNe, Int.reduceLT, Int.reduceLE, Int.reduceEq, Int.reduceGT, Int.reduceGE, Int.reduceToNat, ↓reduceIte, List.reduceReplicate, Nat.reduceAdd, Nat.reduceSub, Nat.reduceMul, Nat.reduceLT, Nat.reduceLeDiff, Nat.reduceBEq, Nat.reduceEqDiff, e7, dn]
    refine amid (at_1 (hr _) i1_len hu rfl fun ad1 => ?_)
    simp (config := { maxSteps := 4000000 }) only [↓sx0, ↓sx1, ↓sx2, ↓sx3, ↓sx4, ↓sx5, ↓sx6, sx0, sx1, sx2, sx3, sx4, sx5, sx6, tf40, ev3_hold, sxo, sxc, sxp, sxq, sxr, sxs, sxl, sxm, Int.reduceBEq, Int.reduceBNe, Int.reduceLT, Int.reduceLE, Int.reduceEq, Int.reduceGT, Int.reduceGE, Int.reduceToNat, ↓reduceIte, List.reduceReplicate, Nat.reduceAdd, Nat.reduceSub, Nat.reduceMul, Nat.reduceLT, Nat.reduceLeDiff, Nat.reduceBEq, Nat.reduceEqDiff, detR_eq, ic, dn, e7]
    refine amid (at_1 (hr _) i1_len hu rfl fun ad2 => ?_)
    simp (config := { maxSteps := 4000000 }) only [↓sx0, ↓sx1, ↓sx2, ↓sx3, ↓sx4, ↓sx5, ↓sx6, sx0, sx1, sx2, sx3, sx4, sx5, sx6, tf40, ev3_hold, sxo, sxc, sxp, sxq, sxr, sxs, sxl, sxm, Int.reduceBEq, Int.reduceBNe, Int.reduceLT, Int.reduceLE, Int.reduceEq, Int.reduceGT, Int.reduceGE, Int.reduceToNat, ↓reduceIte, List.reduceReplicate, Nat.reduceAdd, Nat.reduceSub, Nat.reduceMul, Nat.reduceLT, Nat.reduceLeDiff, Nat.reduceBEq, Nat.reduceEqDiff, e9, dn]
    refine CallOb.pureH (fun w' hp => sure_fn w' _ c (hc0.hp hp) hok g K (t + i) hKl (by omega)) ?_
    intro r1 N1 hr1
    cases hf : c.flt g (t + i) K with
    | false =>
      have hr2 : r1 = .bool false := hr1.trans (congrArg _ hf)
      subst hr2
      refine ⟨?_⟩
      simp (config := { maxSteps := 4000000 }) only [↓sx0, ↓sx1, ↓sx2, ↓sx3, ↓sx4, ↓sx5, ↓sx6, sx0, sx1, sx2, sx3, sx4, sx5, sx6, tf40, ev3_hold, sxo, sxc, sxp, sxq, sxr, sxs, sxl, sxm, Int.reduceBEq, Int.reduceBNe, Int.reduceLT, Int.reduceLE, Int.reduceEq, Int.reduceGT, Int.reduceGE, Int.reduceToNat, ↓reduceIte, List.reduceReplicate, Nat.reduceAdd, Nat.reduceSub, Nat.reduceMul, Nat.reduceLT, Nat.reduceLeDiff, Nat.reduceBEq, Nat.reduceEqDiff, dn]
      refine ⟨false, rfl, ?_⟩
      simp only [Bool.false_eq_true, false_iff]
      exact hno (by rw [hf]; simp)
    | true =>
    have hr2 : r1 = .bool true := hr1.trans (congrArg _ hf)
    subst hr2
    by_cases hi0 : i = 0
    · have e3 : ((i : Int) > 0) = False := eq_false (by omega)
      refine ⟨?_⟩
      simp (config := { maxSteps := 4000000 }) only [↓sx0, ↓sx1, ↓sx2, ↓sx3, ↓sx4, ↓sx5, ↓sx6, sx0, sx1, sx2, sx3, sx4, sx5, sx6, tf40, ev3_hold, sxo, sxc, sxp, sxq, sxr, sxs, sxl, sxm, Int.reduceBEq, Int.reduceBNe, Int.reduceLT, Int.reduceLE, Int.reduceEq, Int.reduceGT, Int.reduceGE, Int.reduceToNat, ↓reduceIte, List.reduceReplicate, Nat.reduceAdd, Nat.reduceSub, Nat.reduceMul, Nat.reduceLT, Nat.reduceLeDiff, Nat.reduceBEq, Nat.reduceEqDiff, dn, e3, e8]
      exact ⟨i + 1, _, rfl, HImp.nil _ _, ⟨by omega, hyes hf (fun h => by omega)⟩, by omega⟩
    have e3 : ((i : Int) > 0) = True := eq_true (by omega)
    have e4 : IntKind.i64.wrap ((i : Int) - 1) = ((i - 1 : Nat) : Int) := (wrap_id (by omega)).trans (by omega)
    have hp0 := hto (i - 1) (by omega)
    obtain ⟨⟨hq1, hq2⟩, _, _⟩ := hp0
    have hu1 : l[i - 1]? = some (lv l (i - 1)) := getD_at (by omega) 0
    generalize lv l (i - 1) = q at hq1 hq2 hu1 hyes hno
    obtain ⟨Q, hQ⟩ : ∃ Q : Nat, q = Q := ⟨q.toNat, by omega⟩
    subst hQ
    rw [Int.toNat_natCast] at hq2 hyes hno
    by_cases hKQ : (K : Int) = (Q : Int)
    · have e5 : ((K : Int) = (Q : Int)) = True := eq_true hKQ
      refine ⟨?_⟩
      simp (config := { maxSteps := 4000000 }) only [↓sx0, ↓sx1, ↓sx2, ↓sx3, ↓sx4, ↓sx5, ↓sx6, sx0, sx1, sx2, sx3, sx4, sx5, sx6, tf40, ev3_hold, sxo, sxc, sxp, sxq, sxr, sxs, sxl, sxm, Int.reduceBEq, Int.reduceBNe, Int.reduceLT, Int.reduceLE, Int.reduceEq, Int.reduceGT, Int.reduceGE, Int.reduceToNat, ↓reduceIte, List.reduceReplicate, Nat.reduceAdd, Nat.reduceSub, Nat.reduceMul, Nat.reduceLT, Nat.reduceLeDiff, Nat.reduceBEq, Nat.reduceEqDiff, dn, e3, e7]
      refine amid (at_1 (hr _) i1_len hu rfl fun ad3 => ?_)
      simp (config := { maxSteps := 4000000 }) only [↓sx0, ↓sx1, ↓sx2, ↓sx3, ↓sx4, ↓sx5, ↓sx6, sx0, sx1, sx2, sx3, sx4, sx5, sx6, tf40, ev3_hold, sxo, sxc, sxp, sxq, sxr, sxs, sxl, sxm, Int.reduceBEq, Int.reduceBNe, Int.reduceLT, Int.reduceLE, Int.reduceEq, Int.reduceGT, Int.reduceGE, Int.reduceToNat, ↓reduceIte, List.reduceReplicate, Nat.reduceAdd, Nat.reduceSub, Nat.reduceMul, Nat.reduceLT, Nat.reduceLeDiff, Nat.reduceBEq, Nat.reduceEqDiff, e4]
      refine at_1 (hr _) i1_len hu1 rfl fun ad4 => ?_
      simp (config := { maxSteps := 4000000 }) only [↓sx0, ↓sx1, ↓sx2, ↓sx3, ↓sx4, ↓sx5, ↓sx6, sx0, sx1, sx2, sx3, sx4, sx5, sx6, tf40, ev3_hold, sxo, sxc, sxp, sxq, sxr, sxs, sxl, sxm, Int.reduceBEq, Int.reduceBNe, Int.reduceLT, Int.reduceLE, Int.reduceEq, Int.reduceGT, Int.reduceGE, Int.reduceToNat, ↓reduceIte, List.reduceReplicate, Nat.reduceAdd, Nat.reduceSub, Nat.reduceMul, Nat.reduceLT, Nat.reduceLeDiff, Nat.reduceBEq, Nat.reduceEqDiff, e5, e8]
      exact ⟨i + 1, _, rfl, HImp.nil _ _, ⟨by omega, hyes hf (fun h => by rw [show K = Q by omega]; exact nb_self _ _ _)⟩, by omega⟩
    have e5 : ((K : Int) = (Q : Int)) = False := eq_false hKQ
    refine ⟨?_⟩
    simp (config := { maxSteps := 4000000 }) only [↓sx0, ↓sx1, ↓sx2, ↓sx3, ↓sx4, ↓sx5, ↓sx6, sx0, sx1, sx2, sx3, sx4, sx5, sx6, tf40, ev3_hold, sxo, sxc, sxp, sxq, sxr, sxs, sxl, sxm, Int.reduceBEq, Int.reduceBNe, Int.reduceLT, Int.reduceLE, Int.reduceEq, Int.reduceGT, Int.reduceGE, Int.reduceToNat, ↓reduceIte, List.reduceReplicate, Nat.reduceAdd, Nat.reduceSub, Nat.reduceMul, Nat.reduceLT, Nat.reduceLeDiff, Nat.reduceBEq, Nat.reduceEqDiff, dn, e3, e7]
    refine amid (at_1 (hr _) i1_len hu rfl fun ad3 => ?_)
    simp (config := { maxSteps := 4000000 }) only [↓sx0, ↓sx1, ↓sx2, ↓sx3, ↓sx4, ↓sx5, ↓sx6, sx0, sx1, sx2, sx3, sx4, sx5, sx6, tf40, ev3_hold, sxo, sxc, sxp, sxq, sxr, sxs, sxl, sxm, Int.reduceBEq, Int.reduceBNe, Int.reduceLT, Int.reduceLE, Int.reduceEq, Int.reduceGT, Int.reduceGE, Int.reduceToNat, ↓reduceIte, List.reduceReplicate, Nat.reduceAdd, Nat.reduceSub, Nat.reduceMul, Nat.reduceLT, Nat.reduceLeDiff, Nat.reduceBEq, Nat.reduceEqDiff, e4]
    refine at_1 (hr _) i1_len hu1 rfl fun ad4 => ?_
    simp (config := { maxSteps := 4000000 }) only [↓sx0, ↓sx1, ↓sx2, ↓sx3, ↓sx4, ↓sx5, ↓sx6, sx0, sx1, sx2, sx3, sx4, sx5, sx6, tf40, ev3_hold, sxo, sxc, sxp, sxq, sxr, sxs, sxl, sxm, Int.reduceBEq, Int.reduceBNe, Int.reduceLT, Int.reduceLE, Int.reduceEq, Int.reduceGT, Int.reduceGE, Int.reduceToNat, ↓reduceIte, List.reduceReplicate, Nat.reduceAdd, Nat.reduceSub, Nat.reduceMul, Nat.reduceLT, Nat.reduceLeDiff, Nat.reduceBEq, Nat.reduceEqDiff, e5, e4, dn]
    refine at_1 (hr _) i1_len hu1 rfl fun ad5 => ?_
    simp (config := { maxSteps := 4000000 }) only [↓sx0, ↓sx1, ↓sx2, ↓sx3, ↓sx4, ↓sx5, ↓sx6, sx0, sx1, sx2, sx3, sx4, sx5, sx6, tf40, ev3_hold, sxo, sxc, sxp, sxq, sxr, sxs, sxl, sxm, Int.reduceBEq, Int.reduceBNe, Int.reduceLT, Int.reduceLE, Int.reduceEq, Int.reduceGT, Int.reduceGE, Int.reduceToNat, ↓reduceIte, List.reduceReplicate, Nat.reduceAdd, Nat.reduceSub, Nat.reduceMul, Nat.reduceLT, Nat.reduceLeDiff, Nat.reduceBEq, Nat.reduceEqDiff, e7, dn]
    refine amid (at_1 (hr _) i1_len hu rfl fun ad6 => ?_)
    simp (config := { maxSteps := 4000000 }) only [↓sx0, ↓sx1, ↓sx2, ↓sx3, ↓sx4, ↓sx5, ↓sx6, sx0, sx1, sx2, sx3, sx4, sx5, sx6, tf40, ev3_hold, sxo, sxc, sxp, sxq, sxr, sxs, sxl, sxm, Int.reduceBEq, Int.reduceBNe, Int.reduceLT, Int.reduceLE, Int.reduceEq, Int.reduceGT, Int.reduceGE, Int.reduceToNat, ↓reduceIte, List.reduceReplicate, Nat.reduceAdd, Nat.reduceSub, Nat.reduceMul, Nat.reduceLT, Nat.reduceLeDiff, Nat.reduceBEq, Nat.reduceEqDiff, dn]
    refine CallOb.pureH (fun w' hp => beside1_fn w' (hw.hp hp) _ c (hc0.hp hp) hok Q hq2 K) ?_
    rintro r2 N2 ⟨b, rfl, hbb⟩
    cases b with
    | true =>
      refine ⟨?_⟩
      simp (config := { maxSteps := 4000000 }) only [↓sx0, ↓sx1, ↓sx2, ↓sx3, ↓sx4, ↓sx5, ↓sx6, sx0, sx1, sx2, sx3, sx4, sx5, sx6, tf40, ev3_hold, sxo, sxc, sxp, sxq, sxr, sxs, sxl, sxm, Int.reduceBEq, Int.reduceBNe, Int.reduceLT, Int.reduceLE, Int.reduceEq, Int.reduceGT, Int.reduceGE, Int.reduceToNat, ↓reduceIte, List.reduceReplicate, Nat.reduceAdd, Nat.reduceSub, Nat.reduceMul, Nat.reduceLT, Nat.reduceLeDiff, Nat.reduceBEq, Nat.reduceEqDiff, e8]
      exact ⟨i + 1, _, rfl, HImp.nil _ _, ⟨by omega, hyes hf (fun h => mem_nb.2 (.inr (hbb.1 rfl)))⟩, by omega⟩
    | false =>
      refine ⟨?_⟩
      simp (config := { maxSteps := 4000000 }) only [↓sx0, ↓sx1, ↓sx2, ↓sx3, ↓sx4, ↓sx5, ↓sx6, sx0, sx1, sx2, sx3, sx4, sx5, sx6, tf40, ev3_hold, sxo, sxc, sxp, sxq, sxr, sxs, sxl, sxm, Int.reduceBEq, Int.reduceBNe, Int.reduceLT, Int.reduceLE, Int.reduceEq, Int.reduceGT, Int.reduceGE, Int.reduceToNat, ↓reduceIte, List.reduceReplicate, Nat.reduceAdd, Nat.reduceSub, Nat.reduceMul, Nat.reduceLT, Nat.reduceLeDiff, Nat.reduceBEq, Nat.reduceEqDiff]
      refine ⟨false, rfl, ?_⟩
      simp only [Bool.false_eq_true, false_iff]
      refine hno ?_
      rintro ⟨_, h⟩
      rcases mem_nb.1 (h (by omega)) with h | h
      · omega
      · have := hbb.2 h
        cases this

end Go.Proofs.YtcnjhgnlcnmagaaDoor

namespace Go.Proofs.YtcnjhgnlcnmagaaDoor
open Go.RowKit Go.SX
set_option maxRecDepth 20000
set_option maxHeartbeats 8000000
set_option linter.unusedSimpArgs false
set_option linter.unusedVariables false

/-- The first element of a list of one-cell elements. -/
theorem at_10 {α : Type} {w0 : Base} {H : List HO} {a : Option Addr} {len cap : Nat} {f : α → List Value} {l : List α} {u : α} {x : Value} {K : Addr → SV → Prop} (h : Rdv w0 H (.slice a len cap) 1 (cat f l)) (hf : ∀ a, (f a).length = 1)
    (hu : l[0]? = some u) (hx : f u = [x]) (hK : ∀ ad, K ad (.v x)) : (0 : Int) < (len : Int) ∧ ∃ ad, a = some ad ∧ hold (LdOb w0 H (ad.add 0) none (K ad)) ⟨0⟩ := by
  obtain ⟨h1, h2, ad, e, h3⟩ := at_1 (k := 0) h hf hu hx hK
  exact ⟨by omega, ad, e, h3⟩

/-! ### The passage that Passage returns: plain -/

theorem pth_tail (c : Cht) (S : List (List Bool)) (to : Nat) : ∀ j m, m ≤ j → (pth c S to j).getD m 0 = (pth c S to (j - m)).getD 0 0
  | j, 0, _ => by rw [Nat.sub_zero]
  | 0, m + 1, h => by omega
  | j + 1, m + 1, h => by
    rw [pth, List.getD_cons_succ, pth_tail c S to j m (by omega), show j + 1 - (m + 1) = j - m by omega]

theorem pth_next {c : Cht} (hok : c.ok) {S : List (List Bool)} (hch : chained c S) {to : Nat} (hto : to < c.depth.length) (hin : (S.getD (S.length - 1) []).getD to false = true) {j : Nat} (hj : j + 1 < S.length) :
    (pth c S to (j + 1)).getD 0 0 ∈ nbL c.W c.H ((pth c S to j).getD 0 0) := by
  obtain ⟨h1, h2⟩ := pth_head hok hch hto hin j (by omega)
  obtain ⟨eW, eH, hW, hH, hlen⟩ := hok.dims
  obtain ⟨y, hy, hS⟩ := hch (S.length - 2 - j) (by omega) _ h1 (by rw [show S.length - 2 - j + 1 = S.length - 1 - j by omega]; exact h2)
  have hyN := nbL_lt (by omega : (pth c S to j).getD 0 0 < c.W * c.H) y hy
  have h4 := leastN_in ⟨y, hy, hS, (by omega : y < c.depth.length)⟩
  rw [pth]
  exact h4.1

theorem pth_pass {c : Cht} (hok : c.ok) {g : Int} {A t i : Nat} (hA : A < c.depth.length) (ht : t + (i + 1) ≤ c.tide.length) {B : Nat} (hB : B < c.depth.length) (hin : (setN c g A t i).getD B false = true) :
    isPass c g t (pth c (setL c g A t (i + 1)) B i) ∧ (pth c (setL c g A t (i + 1)) B i).getD 0 0 = A ∧ (pth c (setL c g A t (i + 1)) B i).getD i 0 = B := by
  have hch := setL_chained c hok g A t (i + 1)
  have hl := setL_len c g A t (i + 1)
  have hin' : ((setL c g A t (i + 1)).getD ((setL c g A t (i + 1)).length - 1) []).getD B false = true := by
    rw [hl, Nat.add_sub_cancel, setL_get _ _ _ _ _ _ (by omega)]
    exact hin
  have hh := fun j (hj : j ≤ i) => pth_head hok hch hB hin' j (by omega)
  have hs := fun j (hj : j ≤ i) => (show (setN c g A t (i - j)).getD ((pth c (setL c g A t (i + 1)) B j).getD 0 0) false = true by
    have := (hh j hj).2
    rwa [hl, show i + 1 - 1 - j = i - j by omega, setL_get _ _ _ _ _ _ (by omega)] at this)
  obtain ⟨eW, eH, hW, hH, hlen⟩ := hok.dims
  refine ⟨⟨fun h => ?_, ?_, fun m hm => ?_⟩, ?_, ?_⟩
  · have := pth_len c (setL c g A t (i + 1)) B i
    rw [h] at this
    simp at this
  · rw [pth_len]
    omega
  · rw [pth_len] at hm
    rw [pth_tail _ _ _ _ _ (by omega)]
    have h1 := (hh (i - m) (by omega)).1
    have h2 := hs (i - m) (by omega)
    rw [show i - (i - m) = m by omega] at h2
    have h3 := (setN_Rr hok hA m _ h1).1 h2
    refine ⟨h1, Rr_flt h3, fun h0 => ?_⟩
    rw [pth_tail _ _ _ _ _ (by omega), show i - (m - 1) = i - m + 1 by omega]
    exact nb_symm (by omega) (pth_next hok hch hB hin' (j := i - m) (by omega))
  · have h1 := hs i (by omega)
    rw [Nat.sub_self] at h1
    exact ((setN_Rr hok hA 0 _ (hh i (by omega)).1).1 h1).1
  · rw [pth_tail _ _ _ _ _ (by omega), Nat.sub_self]
    rfl

theorem Rr_Rc {c : Cht} (hok : c.ok) {g : Int} {t a : Nat} : ∀ {i b : Nat}, b < c.depth.length → Rr c g t a i b → Rc c.W c.H a i b
  | 0, b, _, h => h.1 ▸ .zero
  | i + 1, b, hb, ⟨_, y, h1, h2⟩ => by
    obtain ⟨eW, eH, hW, hH, hlen⟩ := hok.dims
    have hy := nbL_lt (by omega : b < c.W * c.H) y h1
    exact .step (Rr_Rc hok (by omega) h2) (nb_symm (by omega) h1)

theorem openE_of {c : Cht} (hok : c.ok) {lc lt ld : List Int} (h1 : ∀ x ∈ lc, notCell c x = false) (h2 : ∀ x ∈ lt, notTick c x = false) (h3 : ∀ x ∈ ld, notDraught x = false) : openE c lc lt ld = 0 := by
  unfold openE
  rw [(okB_iff c).2 hok, if_pos rfl]
  have e1 : lc.any (notCell c) = false := by rw [List.any_eq_false]; intro x hx; rw [h1 x hx]; simp
  have e2 : lt.any (notTick c) = false := by rw [List.any_eq_false]; intro x hx; rw [h2 x hx]; simp
  have e3 : ld.any notDraught = false := by rw [List.any_eq_false]; intro x hx; rw [h3 x hx]; simp
  rw [e1, e2, e3]
  rfl

theorem tick_of {c : Cht} {t : Int} (h : notTick c t = false) : ∃ T : Nat, t = T ∧ T < c.tide.length := by
  unfold notTick at h
  rw [Bool.not_eq_false', inB_iff] at h
  exact ⟨t.toNat, by omega, by omega⟩

end Go.Proofs.YtcnjhgnlcnmagaaDoor

