/- A part of a proof: the symbolic walk and what it shows of single functions. -/
import Derived.Test.YtnbogcpnpcbjgaaGreatDoorG3
set_option linter.all false
namespace Go.Proofs.YtnbogcpnpcbjgaaGreatDoor
open Go.RowKit Go.SX
set_option maxRecDepth 10000
set_option maxHeartbeats 0
set_option linter.unusedSimpArgs false
set_option linter.unusedVariables false
def pl22_1 : Plan := (ones [1, 5] (.ld 2 (.ld 6 (.pre 0 (.pre 4 (ones [0] (.kl 3 (ones [4] (.kl 7 (ones [8, 9] .fin))))))))))
def pl22 : List (Nat × Plan) := [(1, pl22_1)]
theorem pl22_lk : (lkO 1 pl22 = some pl22_1) := rfl
def BkP (gs bs : List (Int × Int × Int)) (q : Value) (N : List HO) : Prop := ∃ a1 c1 a2 c2, q = .agg #[.slice a1 gs.length c1, .slice a2 bs.length c2] ∧
  ((∀ h ∈ [HO.row (.slice a2 bs.length c2) 120 3 (cat ldc bs), HO.row (.slice a1 gs.length c1) 73 3 (cat ldc gs)], h ∈ N)) ∧ ∀ w0 R, HImp w0 (N ++ R) (HO.row (.slice a1 gs.length c1) 73 3 (cat ldc gs) :: HO.row (.slice a2 bs.length c2) 120 3 (cat ldc bs) :: R)
theorem copy11_fn (w : World) (vG vB : Value) (gs bs : List (Int × Int × Int)) (hG : Sl w vG 3 (cat ldc gs)) (hB : Sl w vB 3 (cat ldc bs)) (hg : gs.length ≤ 1000) (hb : bs.length ≤ 1000) : SX.Fn Tryz.prog 22 [.agg #[vG, vB]] w (fun _ => False) (BkP gs bs) := by
  have dn : ∀ (g : Nat) (xs : List Value), det0 g xs = none := fun _ _ => rfl
  have hG0 := hG
  have hB0 := hB
  obtain ⟨aG, nG, cG, rfl⟩ := hG.shape
  obtain ⟨aB, nB, cB, rfl⟩ := hB.shape
  have hnG := hG.le ldc_len (by omega)
  have hnB := hB.le ldc_len (by omega)
  subst hnG hnB
  unfold BkP
  refine walk [] pl22 (det0_ok _ _) Tryz.func22 rfl Tryz.ntmps22 res22 (by kernel_rfl) no_facts ?_
  simp (config := { maxSteps := 4000000 }) only [↓sx0, ↓sx1, ↓sx2, ↓sx3, ↓sx4, ↓sx5, ↓sx6, sx0, sx1, sx2, sx3, sx4, sx5, sx6, tf22, ev3_hold, sxo, sxc, sxp, sxq, sxr, sxs, sxl, sxm, simprocAttr, dn, pl22_lk, pl22_1]
  intro b1
  refine app_at (l := ([] : List (Int × Int × Int))) (m := gs) (HImp.refl _ _) ldc_len ldc_one (fun w' hp => hG0.hp (fun _ _ => id) hp) (by simp; omega) fun a1 c1 h1 => ?_
  simp (config := { maxSteps := 4000000 }) only [↓sx0, ↓sx1, ↓sx2, ↓sx3, ↓sx4, ↓sx5, ↓sx6, sx0, sx1, sx2, sx3, sx4, sx5, sx6, tf22, ev3_hold, sxo, sxc, sxp, sxq, sxr, sxs, sxl, sxm, simprocAttr]
  intro b2
  refine app_at (l := ([] : List (Int × Int × Int))) (m := bs) (HImp.refl _ _) ldc_len ldc_one (fun w' hp => hB0.hp (fun _ _ => id) hp) (by simp; omega) fun a2 c2 h2 => ?_
  simp (config := { maxSteps := 4000000 }) only [↓sx0, ↓sx1, ↓sx2, ↓sx3, ↓sx4, ↓sx5, ↓sx6, sx0, sx1, sx2, sx3, sx4, sx5, sx6, tf22, ev3_hold, sxo, sxc, sxp, sxq, sxr, sxs, sxl, sxm, simprocAttr]
  exact ⟨a1, c1, a2, c2, rfl, fun h hh => hh, fun w0 R => HImp.swap _ _ _ _⟩
theorem pay_pur {inc cost : List Int} {n : Nat} (hn : n ≤ 5) (hi : inc.length = n) (hc : cost.length = n) (bi : ∀ i, 0 ≤ inc.getD i 0 ∧ inc.getD i 0 ≤ 100000) (bc : ∀ i, 0 ≤ cost.getD i 0 ∧ cost.getD i 0 ≤ 100000) (x : Bool) {e : Int} (he : 0 ≤ e ∧ e ≤ 500000) :
    ((∀ j, j < n → 0 ≤ purP inc cost j + if x then e else 0) → payE (pgx inc n x e) (pbs cost n) = 0) ∧ ((∃ j, j < n ∧ purP inc cost j + (if x then e else 0) < 0) → payE (pgx inc n x e) (pbs cost n) = 3) := by
  have h1 := paid_pur hn hi hc bi bc x he
  have h2 := book_pur hn bi bc x he
  unfold payE
  rw [h2, if_pos rfl]
  refine ⟨fun h => if_pos (h1.2 h), fun ⟨j, hj, h⟩ => if_neg fun h3 => ?_⟩
  have := h1.1 h3 j hj
  omega
theorem pgx_false (inc : List Int) (n : Nat) (e : Int) : pgx inc n false e = pgs inc n := by simp [pgx]
theorem ovZ_sum (f g : Nat → Int) : ∀ k, ovZ 0 0 (fun i => f i - g i) k = sumN f k - sumN g k
  | 0 => rfl
  | k + 1 => by rw [ovZ, ovZ_sum f g k, sumN, sumN]; omega
theorem ovZ_congr {r l : Int} {f g : Nat → Int} : ∀ {k : Nat}, (∀ i, i < k → f i = g i) → ovZ r l f k = ovZ r l g k
  | 0, _ => rfl
  | k + 1, h => by rw [ovZ, ovZ, ovZ_congr (k := k) fun i hi => h i (by omega), h k (by omega)]
theorem ovW_pur {inc cost : List Int} {n : Nat} (hn : n ≤ 5) (bi : ∀ i, 0 ≤ inc.getD i 0 ∧ inc.getD i 0 ≤ 100000) (bc : ∀ i, 0 ≤ cost.getD i 0 ∧ cost.getD i 0 ≤ 100000) {j : Nat} (hj : j < n) : ovW 0 0 (pms inc cost n) j = purP inc cost j ∧ ovB 0 0 (pms inc cost n) j = purP inc cost j := by
  have hy := year_pur hn bi bc
  unfold purP
  rw [ovW_is hy (by omega), ovB_is hy (by omega), ← ovZ_sum]
  exact ⟨ovZ_congr fun i hi => by rw [pms_get (by omega)], ovZ_congr fun i hi => by rw [pms_get (by omega)]⟩
theorem lastN_congr {P Q : Nat → Int} : ∀ {n i : Nat}, (∀ j, i ≤ j → j < i + n → P j = Q j) → lastN P i n = lastN Q i n
  | 0, _, _ => rfl
  | n + 1, i, h => by rw [lastN, lastN, h i (by omega) (by omega), lastN_congr (n := n) (i := i + 1) fun j h1 h2 => h j (by omega) (by omega)]
theorem onceN_congr {P Q : Nat → Int} : ∀ {n : Nat}, (∀ j, j < n → P j = Q j) → onceN P n = onceN Q n
  | 0, _ => rfl
  | n + 1, h => by rw [onceN, onceN, onceN_congr (n := n) fun j hj => h j (by omega), lackN, lackN, h n (by omega)]
theorem monN_congr {P Q : Nat → Int} : ∀ {n : Nat}, (∀ j, j < n → P j = Q j) → monN P n = monN Q n
  | 0, _ => rfl
  | n + 1, h => by rw [monN, monN, monN_congr (n := n) fun j hj => h j (by omega), lackN, lackN, h n (by omega)]
theorem pur_all {inc cost : List Int} {n : Nat} (hn : n ≤ 5) (hi : inc.length = n) (hc : cost.length = n) (bi : ∀ i, 0 ≤ inc.getD i 0 ∧ inc.getD i 0 ≤ 100000) (bc : ∀ i, 0 ≤ cost.getD i 0 ∧ cost.getD i 0 ≤ 100000) :
    ∃ (E : Int) (S : Nat) (O M : Int), payE (pgs inc n) (pbs cost n) = E ∧ lastsV 0 0 (pms inc cost n) = .tuple #[I S, I S, I 0] ∧ appealV 0 0 (pms inc cost n) = .tuple #[I O, I M, I 0] ∧ 0 ≤ O ∧ O ≤ 500000 ∧
      ((E = 0 ∧ S = n ∧ O = 0 ∧ M = 0) ∨ (E = 3 ∧ S ≠ n ∧ O ≠ 0 ∧ M ≠ 0)) ∧ payE (pgx inc n true O) (pbs cost n) = 0 ∧ (1 ≤ O → payE (pgx inc n true (O - 1)) (pbs cost n) = 3) := by
  have hy := year_pur hn bi bc
  have hP := fun j (hj : j < n) => ovW_pur hn bi bc hj
  have hl : (pms inc cost n).length = n := pms_len inc cost n
  have e1 : lastN (ovW 0 0 (pms inc cost n)) 0 n = lastN (purP inc cost) 0 n := lastN_congr fun j _ h => (hP j (by omega)).1
  have e2 : lastN (ovB 0 0 (pms inc cost n)) 0 n = lastN (purP inc cost) 0 n := lastN_congr fun j _ h => (hP j (by omega)).2
  have e3 : onceN (ovW 0 0 (pms inc cost n)) n = onceN (purP inc cost) n := onceN_congr fun j h => (hP j h).1
  have e4 : monN (ovW 0 0 (pms inc cost n)) n = monN (purP inc cost) n := monN_congr fun j h => (hP j h).1
  have hb : ∀ j, j < n → -500000 ≤ purP inc cost j := fun j hj => by
    have h1 := sumN_bd (f := fun k => inc.getD k 0) (M := 100000) (n := j + 1) fun i _ => bi i
    have h2 := sumN_bd (f := fun k => cost.getD k 0) (M := 100000) (n := j + 1) fun i _ => bc i
    unfold purP
    omega
  have hO0 := once_nn (purP inc cost) n
  have hO1 := once_bd (P := purP inc cost) (M := 500000) (by omega) hb
  have hp0 := pay_pur hn hi hc bi bc false (e := 0) (by omega)
  have hpO := pay_pur hn hi hc bi bc true (e := onceN (purP inc cost) n) (by omega)
  rw [pgx_false] at hp0
  simp only [Bool.false_eq_true, if_false, if_true, Int.add_zero] at hp0 hpO
  refine ⟨_, _, _, _, rfl, by unfold lastsV; rw [hy, if_pos rfl, hl, e1, e2], by unfold appealV; rw [hy, if_pos rfl, hl, e3, e4], hO0, hO1, ?_, ?_, ?_⟩
  · by_cases h : ∀ j, j < n → 0 ≤ purP inc cost j
    · exact .inl ⟨hp0.1 h, last_all.2 fun j _ hj => h j (by omega), once_zero.2 h, mon_zero.2 h⟩
    · refine .inr ⟨hp0.2 ?_, fun h1 => h fun j hj => last_all.1 h1 j (by omega) (by omega), fun h1 => h (once_zero.1 h1), fun h1 => h (mon_zero.1 h1)⟩
      simp only [Classical.not_forall, Int.not_le] at h
      obtain ⟨j, hj, h⟩ := h
      exact ⟨j, hj, h⟩
  · refine hpO.1 fun j hj => ?_
    have := once_ge (P := purP inc cost) hj
    unfold lackN at this
    omega
  · intro h1
    have hp1 := pay_pur hn hi hc bi bc true (e := onceN (purP inc cost) n - 1) (by omega)
    simp only [if_true] at hp1
    obtain ⟨j, hj, h2⟩ := once_att (P := purP inc cost) (n := n) (by omega)
    exact hp1.2 ⟨j, hj, by omega⟩
end Go.Proofs.YtnbogcpnpcbjgaaGreatDoor
