/- Parts of a proof: the symbolic walk and what it shows of single functions. -/
import Derived.Test.YtnbogcpnpcbjgaaGreatDoorG2
import Derived.Test.YtnbogcpnpcbjgaaGreatDoorX5
import Derived.Test.YtnbogcpnpcbjgaaGreatDoorX3
set_option linter.all false
namespace Go.Proofs.YtnbogcpnpcbjgaaGreatDoor
open Go.RowKit Go.SX
set_option maxRecDepth 10000
set_option maxHeartbeats 0
set_option linter.unusedSimpArgs false
set_option linter.unusedVariables false
theorem reserves_fn (w : World) (r l : Int) (vS : Value) (gf : Nat) : SX.Fn Tryz.prog 56 [.agg #[I r, I l, vS], .func (.func gf) #[] #[]] w (fun _ => False) fun q N => ∃ b1 b2, q = .func (.func 95) #[] #[.pointer (some ⟨b1, 0, none⟩), .pointer (some ⟨b2, 0, none⟩)] ∧ N = [HO.cells b2 171 [.func (.func gf) #[] #[]], HO.cells b1 65 [I r, I l, vS]] := by
  refine walk [2, 3] [] (det0_ok _ _) Tryz.func56 rfl Tryz.ntmps56 res56 (by kernel_rfl) no_facts ?_
  simp (config := { maxSteps := 4000000 }) only [↓sx0, ↓sx1, ↓sx2, ↓sx3, ↓sx4, ↓sx5, ↓sx6, sx0, sx1, sx2, sx3, sx4, sx5, sx6, tf56, ev3_hold, sxo, sxc, sxp, sxq, sxr, sxs, sxl, sxm, simprocAttr]
  exact fun b1 b2 => ⟨b1, b2, rfl, rfl⟩
noncomputable def detO {α : Type} (f : α → Value) (g : Nat) (p : α → Int) : Nat → List Value → Option Value := open Classical in fun g' xs => if h : g' = g ∧ ∃ a, xs = [f a] then some (I (p h.2.choose)) else none
theorem detO_eq {α : Type} {f : α → Value} (hf : ∀ a b, f a = f b → a = b) (g : Nat) (p : α → Int) (a : α) : detO f g p g [f a] = some (I (p a)) := by
  unfold detO
  have h : g = g ∧ ∃ b, [f a] = [f b] := ⟨rfl, a, rfl⟩
  rw [dif_pos h]
  have := h.2.choose_spec
  rw [List.cons.injEq] at this
  rw [← hf _ _ this.1]
def Gains (g : Nat) (p : Mon → Int) : Prop := CallT Tryz.prog g ∧ ∀ w x, SX.Fn Tryz.prog g [vM x] w (fun _ => False) fun v N => v = I (p x)
theorem detO_ok {g : Nat} {p : Mon → Int} (h : Gains g p) (w0 : World) (X : Nat → Prop) : DetFn Tryz.prog ⟨w0, X⟩ (detO vM g p) := by
  intro g' xs v hv w' hk
  by_cases hc : g' = g ∧ ∃ a, xs = [vM a]
  · obtain ⟨rfl, a, rfl⟩ := hc
    rw [detO_eq vM_inj] at hv
    cases hv
    exact det_of_fn (h.2 w' a)
  · unfold detO at hv
    rw [dif_neg hc] at hv
    cases hv
theorem gains_worst : Gains 54 (fun x => wr (x.il - x.ch)) := ⟨Tryz.call54, fun w x => worst_fn w x⟩
theorem gains_best : Gains 55 (fun x => wr (x.ih - x.cl)) := ⟨Tryz.call55, fun w x => best_fn w x⟩
def ovN (r l : Int) (p : Mon → Int) (ms : List Mon) : Nat → Int
  | 0 => wr (r - l)
  | k + 1 => wr (ovN r l p ms k + p (ms.getD k ⟨0, 0, 0, 0⟩))
def resArg (r l : Int) (p : Mon → Int) (ms : List Mon) : Nat → List Value → List HO → Prop := fun k vs F => vs = [I k, I (ovN r l p ms (k + 1))] ∧ F = []
theorem reserves_it (w : World) (b1 b2 : Nat) (r l : Int) (vS : Value) (ms : List Mon) (hS : Sl w vS 4 (cat moc ms)) (hl : ms.length ≤ 1000) (g : Nat) (p : Mon → Int) (hg : Gains g p)
    (hb1 : ∀ (i : Nat) v, [I r, I l, vS][i]? = some v → w.cell? ⟨b1, i, none⟩ = some v) (hb2 : w.cell? ⟨b2, 0, none⟩ = some (.func (.func g) #[] #[])) :
    Iter Tryz.prog 95 [] [.pointer (some ⟨b1, 0, none⟩), .pointer (some ⟨b2, 0, none⟩)] ms.length (resArg r l p ms) (fun _ => False) (fun x => x = b1 ∨ x = b2 ∨ (ms ≠ [] ∧ rsl w vS x)) w := by
  obtain ⟨a, n, c, rfl⟩ := hS.shape
  have hn := hS.le moc_len (by omega)
  subst hn
  obtain ⟨Q, hQ⟩ : ∃ Q : Nat → Int, ∀ k, ovN r l p ms k = Q k := ⟨_, fun _ => rfl⟩
  have hQ0 : Q 0 = wr (r - l) := by rw [← hQ]; rfl
  have hQs : ∀ k, Q (k + 1) = wr (Q k + p (ms.getD k ⟨0, 0, 0, 0⟩)) := fun k => by rw [← hQ, ← hQ]; rfl
  unfold resArg
  simp only [hQ]
  refine walkIterR _ [] [] (det := detO vM g p) (fun X hX => detO_ok hg _ _) Tryz.func95 rfl Tryz.ntmps95 res95 (by kernel_rfl) fun ll J C R hRs hH => ?_
  have hr : ∀ H, Rdv ⟨w, fun b => C b ∨ False⟩ H (.slice a ms.length c) 4 (cat moc ms) := fun H => by
    by_cases hms : ms = []
    · subst hms
      exact ⟨a, 0, c, rfl, rfl, fun i x hx => by simp [cat] at hx⟩
    · exact hS.rdR (X := fun b => C b ∨ False) (fun b hb => hRs b (.inr (.inr ⟨hms, hb⟩))) H
  have hX1 := hRs b1 (.inl rfl)
  have hX2 := hRs b2 (.inr (.inl rfl))
  have c0 := hb1 0 _ rfl
  have c1 := hb1 1 _ rfl
  have c2 := hb1 2 _ rfl
  simp (config := { maxSteps := 4000000 }) only [↓sx0, ↓sx1, ↓sx2, ↓sx3, ↓sx4, ↓sx5, ↓sx6, sx0, sx1, sx2, sx3, sx4, sx5, sx6, tf95, ev3_hold, sxo, sxc, sxp, sxq, sxr, sxs, sxl, sxm, simprocAttr]
  refine ld_old c0 hX1 ?_
  simp (config := { maxSteps := 4000000 }) only [↓sx0, ↓sx1, ↓sx2, ↓sx3, ↓sx4, ↓sx5, ↓sx6, sx0, sx1, sx2, sx3, sx4, sx5, sx6, tf95, ev3_hold, sxo, sxc, sxp, sxq, sxr, sxs, sxl, sxm, simprocAttr]
  refine ld_olda (by simp [add_block]) c1 hX1 ?_
  simp (config := { maxSteps := 4000000 }) only [↓sx0, ↓sx1, ↓sx2, ↓sx3, ↓sx4, ↓sx5, ↓sx6, sx0, sx1, sx2, sx3, sx4, sx5, sx6, tf95, ev3_hold, sxo, sxc, sxp, sxq, sxr, sxs, sxl, sxm, simprocAttr, hQ0.symm]
  refine ld_olda (by simp [add_block]) c2 hX1 ?_
  simp (config := { maxSteps := 4000000 }) only [↓sx0, ↓sx1, ↓sx2, ↓sx3, ↓sx4, ↓sx5, ↓sx6, sx0, sx1, sx2, sx3, sx4, sx5, sx6, tf95, ev3_hold, sxo, sxc, sxp, sxq, sxr, sxs, sxl, sxm, simprocAttr]
  refine loop_const [(4, 6), (15, 30)] (fun k : Nat => [(4, I (Q k)), (15, I k)]) (fun k H1 => k ≤ ms.length ∧ ∃ C R, H1 = [consu J (some k) C R]) (fun k => ms.length - k) 0 ?_ ⟨Nat.zero_le _, C, R, rfl⟩ ?_
  · simp (config := { maxSteps := 4000000 }) only [↓sx0, ↓sx1, ↓sx2, ↓sx3, ↓sx4, ↓sx5, ↓sx6, sx0, sx1, sx2, sx3, sx4, sx5, sx6, tf95, ev3_hold, sxo, sxc, sxp, sxq, sxr, sxs, sxl, sxm, simprocAttr]
    try simp
  rintro k H1 g1 ⟨hk, C1, R1, rfl⟩
  by_cases hkn : k = ms.length
  · have e7 : ((k : Int) < (ms.length : Int)) = False := eq_false (by omega)
    simp (config := { maxSteps := 4000000 }) only [↓sx0, ↓sx1, ↓sx2, ↓sx3, ↓sx4, ↓sx5, ↓sx6, sx0, sx1, sx2, sx3, sx4, sx5, sx6, tf95, ev3_hold, sxo, sxc, sxp, sxq, sxr, sxs, sxl, sxm, simprocAttr, e7]
    exact ⟨rfl, some _, C1, R1, List.mem_cons_self, .inl (congrArg some hkn)⟩
  have e7 : ((k : Int) < (ms.length : Int)) = True := eq_true (by omega)
  have e8 : wr ((k : Int) + 1) = ((k + 1 : Nat) : Int) := (wrap_id (by omega)).trans (by omega)
  obtain ⟨x, hx⟩ : ∃ x, ms[k]? = some x := ⟨_, List.getElem?_eq_getElem (by omega)⟩
  have hxd : ms.getD k ⟨0, 0, 0, 0⟩ = x := by rw [List.getD_eq_getElem?_getD, hx]; rfl
  have hs := hQs k
  rw [hxd] at hs
  have hd : detO vM g p g [.agg #[I x.il, I x.ih, I x.cl, I x.ch]] = some (I (p x)) := detO_eq vM_inj g p x
  have hpx : moc x = [I x.il, I x.ih, I x.cl, I x.ch] := rfl
  have hT := hg.1
  simp (config := { maxSteps := 4000000 }) only [↓sx0, ↓sx1, ↓sx2, ↓sx3, ↓sx4, ↓sx5, ↓sx6, sx0, sx1, sx2, sx3, sx4, sx5, sx6, tf95, ev3_hold, sxo, sxc, sxp, sxq, sxr, sxs, sxl, sxm, simprocAttr, e7]
  refine amid (at_n (hr _) moc_len (by omega) hx fun ad => ?_)
  simp (config := { maxSteps := 4000000 }) only [↓sx0, ↓sx1, ↓sx2, ↓sx3, ↓sx4, ↓sx5, ↓sx6, sx0, sx1, sx2, sx3, sx4, sx5, sx6, tf95, ev3_hold, sxo, sxc, sxp, sxq, sxr, sxs, sxl, sxm, simprocAttr, hpx]
  refine ld_old hb2 hX2 ?_
  simp (config := { maxSteps := 4000000 }) only [↓sx0, ↓sx1, ↓sx2, ↓sx3, ↓sx4, ↓sx5, ↓sx6, sx0, sx1, sx2, sx3, sx4, sx5, sx6, tf95, ev3_hold, sxo, sxc, sxp, sxq, sxr, sxs, sxl, sxm, simprocAttr, hT, hd, hs.symm]
  refine CallOb.yield hH (k := k) (by omega) (F := []) (B := []) (HImp.refl _ _) (List.Sublist.refl _) ⟨rfl, rfl⟩ (by simp) (fun _ _ b ⟨x, hx, _⟩ => by cases hx) fun t C2 R2 => ?_
  cases t with
  | false =>
    simp (config := { maxSteps := 4000000 }) only [↓sx0, ↓sx1, ↓sx2, ↓sx3, ↓sx4, ↓sx5, ↓sx6, sx0, sx1, sx2, sx3, sx4, sx5, sx6, tf95, ev3_hold, sxo, sxc, sxp, sxq, sxr, sxs, sxl, sxm, simprocAttr]
    exact ⟨rfl, none, C2, R2, List.mem_cons_self, .inr rfl⟩
  | true =>
    simp (config := { maxSteps := 4000000 }) only [↓sx0, ↓sx1, ↓sx2, ↓sx3, ↓sx4, ↓sx5, ↓sx6, sx0, sx1, sx2, sx3, sx4, sx5, sx6, tf95, ev3_hold, sxo, sxc, sxp, sxq, sxr, sxs, sxl, sxm, simprocAttr, e8]
    exact ⟨k + 1, _, ⟨rfl, rfl⟩, HImp.refl _ _, ⟨by omega, C2, R2, rfl⟩, by omega⟩
end Go.Proofs.YtnbogcpnpcbjgaaGreatDoor

namespace Go.Proofs.YtnbogcpnpcbjgaaGreatDoor
open Go.RowKit Go.SX
set_option maxRecDepth 10000
set_option maxHeartbeats 0
set_option linter.unusedSimpArgs false
set_option linter.unusedVariables false
theorem lastN_succ {P : Nat → Int} {n i j : Nat} (hi : i < n) (h : 0 ≤ P i) (e : lastN P 0 n = i + lastN P i (n - i)) : lastN P 0 n = i + 1 + lastN P (i + 1) (n - (i + 1)) := by
  rw [e, show n - i = (n - (i + 1)) + 1 by omega, lastN, if_neg (by omega)]
  omega
theorem lasts_fn (w : World) (r l : Int) (vS : Value) (ms : List Mon) (hS : Sl w vS 4 (cat moc ms)) (hl : ms.length ≤ 1000) (g : Nat) (p : Mon → Int) (hg : Gains g p) :
    SX.Fn Tryz.prog 53 [.agg #[I r, I l, vS], .func (.func g) #[] #[]] w (fun _ => False) fun q N => q = I (lastN (fun i => ovN r l p ms (i + 1)) 0 ms.length) := by
  have dn : ∀ (g : Nat) (xs : List Value), det0 g xs = none := fun _ _ => rfl
  obtain ⟨a, n, c, rfl⟩ := hS.shape
  have hn := hS.le moc_len (by omega)
  subst hn
  refine walk [] [] (det0_ok _ _) Tryz.func53 rfl Tryz.ntmps53 res53 (by kernel_rfl) no_facts ?_
  simp (config := { maxSteps := 4000000 }) only [↓sx0, ↓sx1, ↓sx2, ↓sx3, ↓sx4, ↓sx5, ↓sx6, sx0, sx1, sx2, sx3, sx4, sx5, sx6, tf53, ev3_hold, sxo, sxc, sxp, sxq, sxr, sxs, sxl, sxm, simprocAttr, dn]
  refine CallOb.pureH (fun w' hp => reserves_fn w' r l (.slice a ms.length c) g) ?_
  rintro q N ⟨b1, b2, rfl, rfl⟩
  refine ⟨?_⟩
  simp (config := { maxSteps := 4000000 }) only [↓sx0, ↓sx1, ↓sx2, ↓sx3, ↓sx4, ↓sx5, ↓sx6, sx0, sx1, sx2, sx3, sx4, sx5, sx6, tf53, ev3_hold, sxo, sxc, sxp, sxq, sxr, sxs, sxl, sxm, simprocAttr]
  refine range_introR Tryz.call95 ms.length (resArg r l p ms) [.cells b2 171 [.func (.func g) #[] #[]], .cells b1 65 [I r, I l, .slice a ms.length c]] []
    (fun j L' H' => H' = [] ∧ L' = [(65, [I r, I l, .slice a ms.length c]), (3, [I 0])] ∧ lastN (fun i => ovN r l p ms (i + 1)) 0 ms.length = j + lastN (fun i => ovN r l p ms (i + 1)) j (ms.length - j)) (fun x => x = b1 ∨ x = b2 ∨ (ms ≠ [] ∧ rsl w (.slice a ms.length c) x))
    (HImp.refl _ _) (fun x hx => ?_) (fun w' hp => ?_) ⟨rfl, rfl, by rw [Nat.sub_zero, Nat.zero_add]⟩ ?_ ?_ ?_
  · rcases hx with rfl | rfl | ⟨_, hx⟩
    · exact .inr ⟨_, List.mem_cons_of_mem _ List.mem_cons_self, rfl⟩
    · exact .inr ⟨_, List.mem_cons_self, rfl⟩
    · exact .inl ⟨hx.2, id⟩
  · refine (reserves_it w' b1 b2 r l (.slice a ms.length c) ms (Sl.hp (w0 := ⟨w, fun _ => False⟩) hS (fun _ _ => id) hp) hl g p hg ?_ (cells_hp (List.mem_append_left _ List.mem_cons_self) hp)).mono fun x hx => ?_
    · intro i v hv
      rw [cell_of_cells (hp.ok (HO.cells b1 65 [I r, I l, .slice a ms.length c]) (List.mem_append_left _ (List.mem_cons_of_mem _ List.mem_cons_self)))]
      simpa using hv
    · rcases hx with h | h | ⟨h, hx⟩
      · exact .inl h
      · exact .inr (.inl h)
      · refine .inr (.inr ⟨h, hS.rsl ?_ hx⟩)
        have := List.length_pos_iff.2 h
        rw [cat_len moc_len]
        omega
  · rintro k vs F ⟨rfl, _⟩
    rfl
  · rintro k vs F L' H' hk ⟨rfl, rfl⟩ - ⟨rfl, rfl, hL⟩
    by_cases h : ovN r l p ms (k + 1) < 0
    · have e1 : (ovN r l p ms (k + 1) < 0) = True := eq_true h
      rw [show ms.length - k = (ms.length - (k + 1)) + 1 by omega, lastN, if_pos h, Nat.add_zero] at hL
      simp (config := { maxSteps := 4000000 }) only [↓sx0, ↓sx1, ↓sx2, ↓sx3, ↓sx4, ↓sx5, ↓sx6, sx0, sx1, sx2, sx3, sx4, sx5, sx6, tf53, ev3_hold, sxo, sxc, sxp, sxq, sxr, sxs, sxl, sxm, simprocAttr, e1]
      first | exact ⟨_, HImp.refl _ _, by rw [hL]⟩ | (refine ⟨_, HImp.refl _ _, ?_⟩; rw [hL])
    · have e1 : (ovN r l p ms (k + 1) < 0) = False := eq_false h
      have hL2 := lastN_succ (j := 0) (P := fun i => ovN r l p ms (i + 1)) hk (show 0 ≤ ovN r l p ms (k + 1) by omega) hL
      simp (config := { maxSteps := 4000000 }) only [↓sx0, ↓sx1, ↓sx2, ↓sx3, ↓sx4, ↓sx5, ↓sx6, sx0, sx1, sx2, sx3, sx4, sx5, sx6, tf53, ev3_hold, sxo, sxc, sxp, sxq, sxr, sxs, sxl, sxm, simprocAttr, e1]
      exact ⟨_, HImp.refl _ _, rfl, hL2⟩
  · rintro L' H' - ⟨rfl, rfl, hL⟩
    rw [Nat.sub_self, lastN, Nat.add_zero] at hL
    simp (config := { maxSteps := 4000000 }) only [↓sx0, ↓sx1, ↓sx2, ↓sx3, ↓sx4, ↓sx5, ↓sx6, sx0, sx1, sx2, sx3, sx4, sx5, sx6, tf53, ev3_hold, sxo, sxc, sxp, sxq, sxr, sxs, sxl, sxm, simprocAttr]
    try rw [hL]
end Go.Proofs.YtnbogcpnpcbjgaaGreatDoor

namespace Go.Proofs.YtnbogcpnpcbjgaaGreatDoor
open Go.RowKit Go.SX
set_option maxRecDepth 10000
set_option maxHeartbeats 0
set_option linter.unusedSimpArgs false
set_option linter.unusedVariables false
def worstX (x : Mon) : Int := wr (x.il - x.ch)
def bestX (x : Mon) : Int := wr (x.ih - x.cl)
def ovW (r l : Int) (ms : List Mon) (i : Nat) : Int := ovN r l worstX ms (i + 1)
def ovB (r l : Int) (ms : List Mon) (i : Nat) : Int := ovN r l bestX ms (i + 1)
theorem year_parts {r l : Int} {ms : List Mon} (h : yearB r l ms = true) : (0 ≤ r ∧ r ≤ 1000000) ∧ (0 ≤ l ∧ l ≤ r) ∧ ms.length ≤ 60 ∧ ∀ x ∈ ms, (0 ≤ x.il ∧ x.il ≤ x.ih ∧ x.ih ≤ 1000000) ∧ (0 ≤ x.cl ∧ x.cl ≤ x.ch ∧ x.ch ≤ 1000000) := by
  unfold yearB at h
  simp only [Bool.and_eq_true, decide_eq_true_eq, Bool.not_eq_true'] at h
  obtain ⟨h1, h2, h3, h4⟩ := h
  refine ⟨h1, h2, h3, fun x hx => ?_⟩
  have h5 : badM x = false := by simpa using List.any_eq_false.1 h4 x hx
  unfold badM amtB at h5
  simp only [Bool.not_eq_false', Bool.and_eq_true, decide_eq_true_eq] at h5
  exact h5
theorem year_get {r l : Int} {ms : List Mon} (h : yearB r l ms = true) (k : Nat) : (0 ≤ (ms.getD k ⟨0, 0, 0, 0⟩).il ∧ (ms.getD k ⟨0, 0, 0, 0⟩).il ≤ (ms.getD k ⟨0, 0, 0, 0⟩).ih ∧ (ms.getD k ⟨0, 0, 0, 0⟩).ih ≤ 1000000) ∧ (0 ≤ (ms.getD k ⟨0, 0, 0, 0⟩).cl ∧ (ms.getD k ⟨0, 0, 0, 0⟩).cl ≤ (ms.getD k ⟨0, 0, 0, 0⟩).ch ∧ (ms.getD k ⟨0, 0, 0, 0⟩).ch ≤ 1000000) := by
  rw [List.getD_eq_getElem?_getD]
  cases hx : ms[k]? with
  | none => simp
  | some x => exact (year_parts h).2.2.2 x (List.mem_of_getElem? hx)
def ovZ (r l : Int) (f : Nat → Int) : Nat → Int
  | 0 => r - l
  | k + 1 => ovZ r l f k + f k
theorem ovZ_bd {r l : Int} {f : Nat → Int} (h0 : 0 ≤ l ∧ l ≤ r ∧ r ≤ 1000000) (h : ∀ k, -1000000 ≤ f k ∧ f k ≤ 1000000) : ∀ k : Nat, -1000000 * (k : Int) ≤ ovZ r l f k ∧ ovZ r l f k ≤ 1000000 * ((k : Int) + 1)
  | 0 => by rw [ovZ]; omega
  | k + 1 => by
    have h1 := ovZ_bd h0 h k
    have h2 := h k
    rw [ovZ]
    omega
theorem ovN_is {r l : Int} {ms : List Mon} (h : yearB r l ms = true) (p q : Mon → Int) (hp : ∀ x, p x = wr (q x)) (hq : ∀ k, -1000000 ≤ q (ms.getD k ⟨0, 0, 0, 0⟩) ∧ q (ms.getD k ⟨0, 0, 0, 0⟩) ≤ 1000000) : ∀ k, k ≤ 1000 → ovN r l p ms k = ovZ r l (fun i => q (ms.getD i ⟨0, 0, 0, 0⟩)) k
  | 0, _ => by
    have h0 := year_parts h
    exact wrap_id (by omega)
  | k + 1, hk => by
    have h0 := year_parts h
    have ih := ovN_is h p q hp hq k (by omega)
    have h1 := ovZ_bd (f := fun i => q (ms.getD i ⟨0, 0, 0, 0⟩)) (r := r) (l := l) (by omega) hq k
    have h2 := hq k
    have e1 : wr (q (ms.getD k ⟨0, 0, 0, 0⟩)) = q (ms.getD k ⟨0, 0, 0, 0⟩) := wrap_id (by omega)
    rw [ovN, ovZ, ih, hp, e1]
    exact wrap_id (by omega)
theorem ovW_is {r l : Int} {ms : List Mon} (h : yearB r l ms = true) {k : Nat} (hk : k < 1000) : ovW r l ms k = ovZ r l (fun i => (ms.getD i ⟨0, 0, 0, 0⟩).il - (ms.getD i ⟨0, 0, 0, 0⟩).ch) (k + 1) :=
  ovN_is h worstX (fun x => x.il - x.ch) (fun _ => rfl) (fun k => by have := year_get h k; omega) (k + 1) (by omega)
theorem ovB_is {r l : Int} {ms : List Mon} (h : yearB r l ms = true) {k : Nat} (hk : k < 1000) : ovB r l ms k = ovZ r l (fun i => (ms.getD i ⟨0, 0, 0, 0⟩).ih - (ms.getD i ⟨0, 0, 0, 0⟩).cl) (k + 1) :=
  ovN_is h bestX (fun x => x.ih - x.cl) (fun _ => rfl) (fun k => by have := year_get h k; omega) (k + 1) (by omega)
theorem ovW_bd {r l : Int} {ms : List Mon} (h : yearB r l ms = true) {k : Nat} (hk : k < 1000) : -2000000000 ≤ ovW r l ms k ∧ ovW r l ms k ≤ 2000000000 := by
  have h0 := year_parts h
  have h1 := ovZ_bd (f := fun i => (ms.getD i ⟨0, 0, 0, 0⟩).il - (ms.getD i ⟨0, 0, 0, 0⟩).ch) (r := r) (l := l) (by omega) (fun k => by have := year_get h k; omega) (k + 1)
  rw [ovW_is h hk]
  omega
def pl20_4 : Plan := (.ld 0 (.ld 2 (ones [1, 3, 4, 5, 6] .fin)))
def pl20 : List (Nat × Plan) := [(4, pl20_4)]
theorem pl20_lk : (lkO 4 pl20 = some pl20_4) := rfl
noncomputable def lastsV (r l : Int) (ms : List Mon) : Value := if yearB r l ms then .tuple #[I (lastN (ovW r l ms) 0 ms.length), I (lastN (ovB r l ms) 0 ms.length), I 0] else .tuple #[I 0, I 0, I 111]
theorem glasts_fn (w : World) (vS : Value) (r l : Int) (ms : List Mon) (hS : Sl w vS 4 (cat moc ms)) : SX.Fn Tryz.prog 20 [.agg #[I r, I l, vS]] w (fun _ => False) fun q N => q = lastsV r l ms := by
  have dn : ∀ (g : Nat) (xs : List Value), det0 g xs = none := fun _ _ => rfl
  have hck := fun (H : List HO) w' (hp : Hp ⟨w, fun _ => False⟩ H w') => checkYear_fn w' vS r l ms (Sl.hp (w0 := ⟨w, fun _ => False⟩) hS (fun _ _ => id) hp)
  have hla := fun (hl : ms.length ≤ 1000) (H : List HO) w' (hp : Hp ⟨w, fun _ => False⟩ H w') => lasts_fn w' r l vS ms (Sl.hp (w0 := ⟨w, fun _ => False⟩) hS (fun _ _ => id) hp) hl 54 worstX gains_worst
  have hlb := fun (hl : ms.length ≤ 1000) (H : List HO) w' (hp : Hp ⟨w, fun _ => False⟩ H w') => lasts_fn w' r l vS ms (Sl.hp (w0 := ⟨w, fun _ => False⟩) hS (fun _ _ => id) hp) hl 55 bestX gains_best
  obtain ⟨a, n, c, rfl⟩ := hS.shape
  unfold lastsV
  cases hok : yearB r l ms with
  | false =>
    rw [hok] at hck
    refine walk [] pl20 (det0_ok _ _) Tryz.func20 rfl Tryz.ntmps20 res20 (by kernel_rfl) no_facts ?_
    simp (config := { maxSteps := 4000000 }) only [↓sx0, ↓sx1, ↓sx2, ↓sx3, ↓sx4, ↓sx5, ↓sx6, sx0, sx1, sx2, sx3, sx4, sx5, sx6, tf20, ev3_hold, sxo, sxc, sxp, sxq, sxr, sxs, sxl, sxm, simprocAttr, dn]
    refine CallOb.pureH (fun w' hp => hck _ w' hp) ?_
    rintro q N rfl
    refine ⟨?_⟩
    simp (config := { maxSteps := 4000000 }) only [↓sx0, ↓sx1, ↓sx2, ↓sx3, ↓sx4, ↓sx5, ↓sx6, sx0, sx1, sx2, sx3, sx4, sx5, sx6, tf20, ev3_hold, sxo, sxc, sxp, sxq, sxr, sxs, sxl, sxm, simprocAttr]
    try rfl
  | true =>
  rw [hok] at hck
  have hl := (year_parts hok).2.2.1
  have hla := hla (by omega)
  have hlb := hlb (by omega)
  refine walk [] pl20 (det0_ok _ _) Tryz.func20 rfl Tryz.ntmps20 res20 (by kernel_rfl) no_facts ?_
  simp (config := { maxSteps := 4000000 }) only [↓sx0, ↓sx1, ↓sx2, ↓sx3, ↓sx4, ↓sx5, ↓sx6, sx0, sx1, sx2, sx3, sx4, sx5, sx6, tf20, ev3_hold, sxo, sxc, sxp, sxq, sxr, sxs, sxl, sxm, simprocAttr, dn]
  refine CallOb.pureH (fun w' hp => hck _ w' hp) ?_
  rintro q N rfl
  refine ⟨?_⟩
  simp (config := { maxSteps := 4000000 }) only [↓sx0, ↓sx1, ↓sx2, ↓sx3, ↓sx4, ↓sx5, ↓sx6, sx0, sx1, sx2, sx3, sx4, sx5, sx6, tf20, ev3_hold, sxo, sxc, sxp, sxq, sxr, sxs, sxl, sxm, simprocAttr, dn, pl20_lk, pl20_4]
  refine CallOb.pureH (fun w' hp => hla _ w' hp) ?_
  rintro q N2 rfl
  refine ⟨?_⟩
  simp (config := { maxSteps := 4000000 }) only [↓sx0, ↓sx1, ↓sx2, ↓sx3, ↓sx4, ↓sx5, ↓sx6, sx0, sx1, sx2, sx3, sx4, sx5, sx6, tf20, ev3_hold, sxo, sxc, sxp, sxq, sxr, sxs, sxl, sxm, simprocAttr, dn]
  refine CallOb.pureH (fun w' hp => hlb _ w' hp) ?_
  rintro q N3 rfl
  refine ⟨?_⟩
  simp (config := { maxSteps := 4000000 }) only [↓sx0, ↓sx1, ↓sx2, ↓sx3, ↓sx4, ↓sx5, ↓sx6, sx0, sx1, sx2, sx3, sx4, sx5, sx6, tf20, ev3_hold, sxo, sxc, sxp, sxq, sxr, sxs, sxl, sxm, simprocAttr]
  try rfl
noncomputable def appealV (r l : Int) (ms : List Mon) : Value := if yearB r l ms then .tuple #[I (onceN (ovW r l ms) ms.length), I (monN (ovW r l ms) ms.length), I 0] else .tuple #[I 0, I 0, I 111]
theorem once_bd {P : Nat → Int} {M : Int} (hM : 0 ≤ M) : ∀ {n : Nat}, (∀ i, i < n → -M ≤ P i) → onceN P n ≤ M
  | 0, _ => hM
  | n + 1, h => by
    have h1 := once_bd hM (n := n) fun i hi => h i (by omega)
    have h2 := h n (by omega)
    rw [onceN]
    unfold lackN
    omega
def pl21_10 : Plan := (.ld 0 (.ld 1 (.kl 2 (.kl 3 (ones [4] .fin)))))
def pl21 : List (Nat × Plan) := [(10, pl21_10)]
theorem pl21_lk : (lkO 10 pl21 = some pl21_10) ∧ (lkO 9 pl21 = none) := ⟨rfl, rfl⟩
theorem gappeal_fn (w : World) (vS : Value) (r l : Int) (ms : List Mon) (hS : Sl w vS 4 (cat moc ms)) : SX.Fn Tryz.prog 21 [.agg #[I r, I l, vS]] w (fun _ => False) fun q N => q = appealV r l ms := by
  have dn : ∀ (g : Nat) (xs : List Value), det0 g xs = none := fun _ _ => rfl
  have hck := fun (H : List HO) w' (hp : Hp ⟨w, fun _ => False⟩ H w') => checkYear_fn w' vS r l ms (Sl.hp (w0 := ⟨w, fun _ => False⟩) hS (fun _ _ => id) hp)
  have hS0 := hS
  obtain ⟨a, n, c, rfl⟩ := hS.shape
  have hn := hS.le moc_len (by omega)
  subst hn
  unfold appealV
  cases hok : yearB r l ms with
  | false =>
    rw [hok] at hck
    refine walk [] pl21 (det0_ok _ _) Tryz.func21 rfl Tryz.ntmps21 res21 (by kernel_rfl) no_facts ?_
    simp (config := { maxSteps := 4000000 }) only [↓sx0, ↓sx1, ↓sx2, ↓sx3, ↓sx4, ↓sx5, ↓sx6, sx0, sx1, sx2, sx3, sx4, sx5, sx6, tf21, ev3_hold, sxo, sxc, sxp, sxq, sxr, sxs, sxl, sxm, simprocAttr, dn]
    refine CallOb.pureH (fun w' hp => hck _ w' hp) ?_
    rintro q N rfl
    refine ⟨?_⟩
    simp (config := { maxSteps := 4000000 }) only [↓sx0, ↓sx1, ↓sx2, ↓sx3, ↓sx4, ↓sx5, ↓sx6, sx0, sx1, sx2, sx3, sx4, sx5, sx6, tf21, ev3_hold, sxo, sxc, sxp, sxq, sxr, sxs, sxl, sxm, simprocAttr]
    try rfl
  | true =>
  rw [hok] at hck
  have hl := (year_parts hok).2.2.1
  have hbd : ∀ i, i < ms.length → -2000000000 ≤ ovW r l ms i ∧ ovW r l ms i ≤ 2000000000 := fun i hi => ovW_bd hok (by omega)
  obtain ⟨On, hOn⟩ : ∃ On : Nat → Int, ∀ k, onceN (ovW r l ms) k = On k := ⟨_, fun _ => rfl⟩
  obtain ⟨Mn, hMn⟩ : ∃ Mn : Nat → Int, ∀ k, monN (ovW r l ms) k = Mn k := ⟨_, fun _ => rfl⟩
  have hOs : ∀ k, On (k + 1) = max (On k) (max 0 (-(ovW r l ms k))) := fun k => by rw [← hOn, ← hOn]; rfl
  have hMs : ∀ k, Mn (k + 1) = max (Mn k) ((max 0 (-(ovW r l ms k)) + k) / ((k : Int) + 1)) := fun k => by rw [← hMn, ← hMn]; rfl
  have hO0 : On 0 = 0 := by rw [← hOn]; rfl
  have hM0 : Mn 0 = 0 := by rw [← hMn]; rfl
  rw [hOn, hMn]
  refine walk [] pl21 (det0_ok _ _) Tryz.func21 rfl Tryz.ntmps21 res21 (by kernel_rfl) no_facts ?_
  simp (config := { maxSteps := 4000000 }) only [↓sx0, ↓sx1, ↓sx2, ↓sx3, ↓sx4, ↓sx5, ↓sx6, sx0, sx1, sx2, sx3, sx4, sx5, sx6, tf21, ev3_hold, sxo, sxc, sxp, sxq, sxr, sxs, sxl, sxm, simprocAttr, dn]
  refine CallOb.pureH (fun w' hp => hck _ w' hp) ?_
  rintro q N rfl
  refine ⟨?_⟩
  simp (config := { maxSteps := 4000000 }) only [↓sx0, ↓sx1, ↓sx2, ↓sx3, ↓sx4, ↓sx5, ↓sx6, sx0, sx1, sx2, sx3, sx4, sx5, sx6, tf21, ev3_hold, sxo, sxc, sxp, sxq, sxr, sxs, sxl, sxm, simprocAttr, dn]
  refine CallOb.pureH (fun w' hp => reserves_fn w' r l (.slice a ms.length c) 54) ?_
  rintro q N2 ⟨b1, b2, rfl, rfl⟩
  refine ⟨?_⟩
  simp (config := { maxSteps := 4000000 }) only [↓sx0, ↓sx1, ↓sx2, ↓sx3, ↓sx4, ↓sx5, ↓sx6, sx0, sx1, sx2, sx3, sx4, sx5, sx6, tf21, ev3_hold, sxo, sxc, sxp, sxq, sxr, sxs, sxl, sxm, simprocAttr]
  refine range_introR Tryz.call95 ms.length (resArg r l worstX ms) [HO.cells b2 171 [.func (.func 54) #[] #[]], HO.cells b1 65 [I r, I l, .slice a ms.length c]] []
    (fun j L' H' => H' = [] ∧ L' = [(65, [I r, I l, .slice a ms.length c]), (3, [I (On j)]), (3, [I (Mn j)])]) (fun x => x = b1 ∨ x = b2 ∨ (ms ≠ [] ∧ rsl w (.slice a ms.length c) x))
    (HImp.sub (List.sublist_append_left [_, _] N)) (fun x hx => ?_) (fun w' hp => ?_) ⟨rfl, by rw [hO0, hM0]⟩ ?_ ?_ ?_
  · rcases hx with rfl | rfl | ⟨_, hx⟩
    · exact .inr ⟨_, List.mem_cons_of_mem _ List.mem_cons_self, rfl⟩
    · exact .inr ⟨_, List.mem_cons_self, rfl⟩
    · exact .inl ⟨hx.2, id⟩
  · refine (reserves_it w' b1 b2 r l (.slice a ms.length c) ms (Sl.hp (w0 := ⟨w, fun _ => False⟩) hS (fun _ _ => id) hp) (by omega) 54 worstX gains_worst ?_ (cells_hp (List.mem_append_left _ List.mem_cons_self) hp)).mono fun x hx => ?_
    · intro i v hv
      rw [cell_of_cells (hp.ok (HO.cells b1 65 [I r, I l, .slice a ms.length c]) (List.mem_append_left _ (List.mem_cons_of_mem _ List.mem_cons_self)))]
      simpa using hv
    · rcases hx with h | h | ⟨h, hx⟩
      · exact .inl h
      · exact .inr (.inl h)
      · refine .inr (.inr ⟨h, hS.rsl ?_ hx⟩)
        have := List.length_pos_iff.2 h
        rw [cat_len moc_len]
        omega
  · rintro k vs F ⟨rfl, _⟩
    rfl
  · rintro k vs F L' H' hk ⟨rfl, rfl⟩ - ⟨rfl, rfl⟩
    have hb := hbd k hk
    have hw : ovN r l worstX ms (k + 1) = ovW r l ms k := rfl
    have hOk := hOs k
    have hMk := hMs k
    obtain ⟨z, hz⟩ : ∃ z, ovW r l ms k = z := ⟨_, rfl⟩
    rw [hz] at hb hw hOk hMk
    have e1 : wr (0 - z) = -z := (wrap_id (by omega)).trans (by omega)
    have e2 : wr (max 0 (-z) + k) = max 0 (-z) + k := wrap_id (by omega)
    have e3 : wr ((k : Int) + 1) = (k : Int) + 1 := wrap_id (by omega)
    have e5 : (max 0 (-z) + k) / ((k : Int) + 1) ≤ max 0 (-z) + k := Int.ediv_le_self _ (by omega)
    have e6 : 0 ≤ (max 0 (-z) + k) / ((k : Int) + 1) := Int.ediv_nonneg (by omega) (by omega)
    have e4 : wr ((max 0 (-z) + (k : Int)).tdiv ((k : Int) + 1)) = (max 0 (-z) + k) / ((k : Int) + 1) := by
      rw [Int.tdiv_eq_ediv_of_nonneg (by omega)]
      exact wrap_id (by omega)
    have e7 : ((k : Int) + 1 = 0) = False := eq_false (by omega)
    simp (config := { maxSteps := 4000000 }) only [↓sx0, ↓sx1, ↓sx2, ↓sx3, ↓sx4, ↓sx5, ↓sx6, sx0, sx1, sx2, sx3, sx4, sx5, sx6, tf21, ev3_hold, sxo, sxc, sxp, sxq, sxr, sxs, sxl, sxm, simprocAttr, hw, e1, e2, e3, e4, e7, pl21_lk]
    refine ⟨_, HImp.refl _ _, rfl, ?_⟩
    rw [hOk, hMk]
  · rintro L' H' - ⟨rfl, rfl⟩
    simp (config := { maxSteps := 4000000 }) only [↓sx0, ↓sx1, ↓sx2, ↓sx3, ↓sx4, ↓sx5, ↓sx6, sx0, sx1, sx2, sx3, sx4, sx5, sx6, tf21, ev3_hold, sxo, sxc, sxp, sxq, sxr, sxs, sxl, sxm, simprocAttr, pl21_lk, pl21_10]
    try rfl
end Go.Proofs.YtnbogcpnpcbjgaaGreatDoor

namespace Go.Proofs.YtnbogcpnpcbjgaaGreatDoor
open Go.RowKit Go.SX
set_option maxRecDepth 10000
set_option maxHeartbeats 0
set_option linter.unusedSimpArgs false
set_option linter.unusedVariables false
def pl18_9 : Plan := (ones [0] (.alt 1 (ones [2, 3] .fin) (.alt 2 (ones [1, 3] .fin) .no)))
def pl18 : List (Nat × Plan) := [(9, pl18_9)]
theorem pl18_lk : (lkO 9 pl18 = some pl18_9) ∧ (lkO 6 pl18 = none) ∧ (lkO 7 pl18 = none) ∧ (lkO 8 pl18 = none) := ⟨rfl, rfl, rfl, rfl⟩
def PurP (inc cost : List Int) (q : Value) (N : List HO) : Prop := ∃ a1 c1 a2 c2 a3 c3, q = .tuple #[.agg #[.slice a1 inc.length c1, .slice a2 inc.length c2], .agg #[I 0, I 0, .slice a3 inc.length c3]] ∧
  (∀ h ∈ [HO.row (.slice a3 inc.length c3) 82 4 (cat moc (pms inc cost inc.length)), HO.row (.slice a2 inc.length c2) 120 3 (cat ldc (pbs cost inc.length)), HO.row (.slice a1 inc.length c1) 73 3 (cat ldc (pgs inc inc.length))], h ∈ N)
theorem purse_fn (w : World) (v1 v2 : Value) (inc cost : List Int) (h1 : Sl w v1 1 (ints inc)) (h2 : Sl w v2 1 (ints cost)) (hl : inc.length = cost.length) (h5 : inc.length ≤ 5) : SX.Fn Tryz.prog 18 [v1, v2] w (fun _ => False) (PurP inc cost) := by
  have dn : ∀ (g : Nat) (xs : List Value), det0 g xs = none := fun _ _ => rfl
  have hr1 := fun H => h1.rd0 H
  have hr2 := fun H => h2.rd0 H
  obtain ⟨a, n, c, rfl⟩ := h1.shape
  obtain ⟨b, m, d, rfl⟩ := h2.shape
  have hn := h1.le i1_len (by omega)
  have hm := h2.le i1_len (by omega)
  subst hn hm
  unfold PurP
  refine walk [] pl18 (det0_ok _ _) Tryz.func18 rfl Tryz.ntmps18 res18 (by kernel_rfl) no_facts ?_
  simp (config := { maxSteps := 4000000 }) only [↓sx0, ↓sx1, ↓sx2, ↓sx3, ↓sx4, ↓sx5, ↓sx6, sx0, sx1, sx2, sx3, sx4, sx5, sx6, tf18, ev3_hold, sxo, sxc, sxp, sxq, sxr, sxs, sxl, sxm, simprocAttr, dn]
  refine loop_boxH [HO.row (.slice none 0 0) 82 4 (cat moc (pms inc cost 0)), HO.row (.slice none 0 0) 120 3 (cat ldc (pbs cost 0)), HO.row (.slice none 0 0) 73 3 (cat ldc (pgs inc 0))] (((HImp.nil _ _).trans (HImp.nilRow _ _ _ _)).trans ((HImp.nilRow _ _ _ _).trans (HImp.nilRow _ _ _ _))) [(8, 61)] (fun q : Nat × (Option Addr × Nat) × (Option Addr × Nat) × Option Addr × Nat => [(8, I q.1)])
    (fun q => [(62, [.slice none 0 0, .slice none 0 0]), (65, [I 0, I 0, .slice none 0 0]), (62, [.slice q.2.1.1 q.1 q.2.1.2, .slice q.2.2.1.1 q.1 q.2.2.1.2]), (65, [I 0, I 0, .slice q.2.2.2.1 q.1 q.2.2.2.2])])
    (fun q H1 => q.1 ≤ inc.length ∧ H1 = [HO.row (.slice q.2.2.2.1 q.1 q.2.2.2.2) 82 4 (cat moc (pms inc cost q.1)), HO.row (.slice q.2.2.1.1 q.1 q.2.2.1.2) 120 3 (cat ldc (pbs cost q.1)), HO.row (.slice q.2.1.1 q.1 q.2.1.2) 73 3 (cat ldc (pgs inc q.1))]) (fun q => inc.length - q.1) (0, (none, 0), (none, 0), none, 0) ?_ ?_ (fun _ => rfl) ⟨Nat.zero_le _, rfl⟩ ?_
  · simp (config := { maxSteps := 4000000 }) only [↓sx0, ↓sx1, ↓sx2, ↓sx3, ↓sx4, ↓sx5, ↓sx6, sx0, sx1, sx2, sx3, sx4, sx5, sx6, tf18, ev3_hold, sxo, sxc, sxp, sxq, sxr, sxs, sxl, sxm, simprocAttr]
    try simp
  · rfl
  rintro ⟨k, ⟨a1, c1⟩, ⟨a2, c2⟩, a3, c3⟩ H1 g1 hinv
  simp only [] at hinv
  obtain ⟨hk, rfl⟩ := hinv
  by_cases hkn : k = inc.length
  · have e7 : ((k : Int) < (inc.length : Int)) = False := eq_false (by omega)
    subst hkn
    refine ⟨?_⟩
    simp (config := { maxSteps := 4000000 }) only [↓sx0, ↓sx1, ↓sx2, ↓sx3, ↓sx4, ↓sx5, ↓sx6, sx0, sx1, sx2, sx3, sx4, sx5, sx6, tf18, ev3_hold, sxo, sxc, sxp, sxq, sxr, sxs, sxl, sxm, simprocAttr, e7, pl18_lk, pl18_9]
    have hfin : PurP inc cost (.tuple #[.agg #[.slice a1 inc.length c1, .slice a2 inc.length c2], .agg #[I 0, I 0, .slice a3 inc.length c3]]) [HO.row (.slice a3 inc.length c3) 82 4 (cat moc (pms inc cost inc.length)), HO.row (.slice a2 inc.length c2) 120 3 (cat ldc (pbs cost inc.length)), HO.row (.slice a1 inc.length c1) 73 3 (cat ldc (pgs inc inc.length))] := ⟨a1, c1, a2, c2, a3, c3, rfl, fun h hh => hh⟩
    first | exact ⟨hfin, hfin⟩ | exact hfin
  have e7 : ((k : Int) < (inc.length : Int)) = True := eq_true (by omega)
  have e8 : wr (k + 1) = ((k + 1 : Nat) : Int) := (wrap_id (by omega)).trans (by omega)
  have e9 : ((k : Int) < (cost.length : Int)) = True := eq_true (by omega)
  obtain ⟨x, hx⟩ : ∃ x, inc[k]? = some x := ⟨_, List.getElem?_eq_getElem (by omega)⟩
  obtain ⟨y, hy⟩ : ∃ y, cost[k]? = some y := ⟨_, List.getElem?_eq_getElem (by omega)⟩
  have hxd : inc.getD k 0 = x := by rw [List.getD_eq_getElem?_getD, hx]; rfl
  have hyd : cost.getD k 0 = y := by rw [List.getD_eq_getElem?_getD, hy]; rfl
  have hs1 := pgs_succ inc k
  have hs2 := pbs_succ cost k
  have hs3 := pms_succ inc cost k
  rw [hxd] at hs1 hs3
  rw [hyd] at hs2 hs3
  have l1 := pgs_len inc k
  have l2 := pbs_len cost k
  have l3 := pms_len inc cost k
  refine ⟨?_⟩
  simp (config := { maxSteps := 4000000 }) only [↓sx0, ↓sx1, ↓sx2, ↓sx3, ↓sx4, ↓sx5, ↓sx6, sx0, sx1, sx2, sx3, sx4, sx5, sx6, tf18, ev3_hold, sxo, sxc, sxp, sxq, sxr, sxs, sxl, sxm, simprocAttr, e7, e9, pl18_lk]
  refine amid (at_1 (hr1 _) i1_len hx rfl fun ad => ?_)
  simp (config := { maxSteps := 4000000 }) only [↓sx0, ↓sx1, ↓sx2, ↓sx3, ↓sx4, ↓sx5, ↓sx6, sx0, sx1, sx2, sx3, sx4, sx5, sx6, tf18, ev3_hold, sxo, sxc, sxp, sxq, sxr, sxs, sxl, sxm, simprocAttr]
  intro bx
  refine app_one (l := pgs inc k) (255, (k : Int), x) (HImp.perm (List.perm_append_comm (l₁ := [_, _]) (l₂ := [_]))) ldc_len ldc_one (by rw [l1]; omega) fun ad1 cc1 => ?_
  simp (config := { maxSteps := 4000000 }) only [↓sx0, ↓sx1, ↓sx2, ↓sx3, ↓sx4, ↓sx5, ↓sx6, sx0, sx1, sx2, sx3, sx4, sx5, sx6, tf18, ev3_hold, sxo, sxc, sxp, sxq, sxr, sxs, sxl, sxm, simprocAttr, l1, hs1.symm, e9, pl18_lk]
  refine amid (at_1 (hr2 _) i1_len hy rfl fun ad => ?_)
  simp (config := { maxSteps := 4000000 }) only [↓sx0, ↓sx1, ↓sx2, ↓sx3, ↓sx4, ↓sx5, ↓sx6, sx0, sx1, sx2, sx3, sx4, sx5, sx6, tf18, ev3_hold, sxo, sxc, sxp, sxq, sxr, sxs, sxl, sxm, simprocAttr]
  intro bb
  refine app_one (l := pbs cost k) ((k : Int), (k : Int), y) (HImp.perm (List.perm_append_comm (l₁ := [_, _]) (l₂ := [_]))) ldc_len ldc_one (by rw [l2]; omega) fun ad2 cc2 => ?_
  simp (config := { maxSteps := 4000000 }) only [↓sx0, ↓sx1, ↓sx2, ↓sx3, ↓sx4, ↓sx5, ↓sx6, sx0, sx1, sx2, sx3, sx4, sx5, sx6, tf18, ev3_hold, sxo, sxc, sxp, sxq, sxr, sxs, sxl, sxm, simprocAttr, l2, hs2.symm, e7, e9, pl18_lk]
  refine amid (at_1 (hr1 _) i1_len hx rfl fun ad => ?_)
  simp (config := { maxSteps := 4000000 }) only [↓sx0, ↓sx1, ↓sx2, ↓sx3, ↓sx4, ↓sx5, ↓sx6, sx0, sx1, sx2, sx3, sx4, sx5, sx6, tf18, ev3_hold, sxo, sxc, sxp, sxq, sxr, sxs, sxl, sxm, simprocAttr, e7, e9]
  refine amid (at_1 (hr1 _) i1_len hx rfl fun ad => ?_)
  simp (config := { maxSteps := 4000000 }) only [↓sx0, ↓sx1, ↓sx2, ↓sx3, ↓sx4, ↓sx5, ↓sx6, sx0, sx1, sx2, sx3, sx4, sx5, sx6, tf18, ev3_hold, sxo, sxc, sxp, sxq, sxr, sxs, sxl, sxm, simprocAttr, e7, e9]
  refine amid (at_1 (hr2 _) i1_len hy rfl fun ad => ?_)
  simp (config := { maxSteps := 4000000 }) only [↓sx0, ↓sx1, ↓sx2, ↓sx3, ↓sx4, ↓sx5, ↓sx6, sx0, sx1, sx2, sx3, sx4, sx5, sx6, tf18, ev3_hold, sxo, sxc, sxp, sxq, sxr, sxs, sxl, sxm, simprocAttr, e7, e9]
  refine amid (at_1 (hr2 _) i1_len hy rfl fun ad => ?_)
  simp (config := { maxSteps := 4000000 }) only [↓sx0, ↓sx1, ↓sx2, ↓sx3, ↓sx4, ↓sx5, ↓sx6, sx0, sx1, sx2, sx3, sx4, sx5, sx6, tf18, ev3_hold, sxo, sxc, sxp, sxq, sxr, sxs, sxl, sxm, simprocAttr]
  intro bz
  refine app_one (l := pms inc cost k) ⟨x, x, y, y⟩ (HImp.perm (List.perm_append_comm (l₁ := [_, _]) (l₂ := [_]))) moc_len moc_one (by rw [l3]; omega) fun ad3 cc3 => ?_
  simp (config := { maxSteps := 4000000 }) only [↓sx0, ↓sx1, ↓sx2, ↓sx3, ↓sx4, ↓sx5, ↓sx6, sx0, sx1, sx2, sx3, sx4, sx5, sx6, tf18, ev3_hold, sxo, sxc, sxp, sxq, sxr, sxs, sxl, sxm, simprocAttr, l3, hs3.symm, e8]
  exact ⟨(k + 1, (some ad1, cc1), (some ad2, cc2), some ad3, cc3), _, rfl, rfl, HImp.refl _ _, ⟨by simp only []; omega, rfl⟩, by simp only []; omega⟩
end Go.Proofs.YtnbogcpnpcbjgaaGreatDoor

namespace Go.Proofs.YtnbogcpnpcbjgaaGreatDoor
open Go.RowKit Go.SX
set_option maxRecDepth 10000
set_option maxHeartbeats 0
set_option linter.unusedSimpArgs false
set_option linter.unusedVariables false
def debT : List Int := [0, 1, 56, 2, 57, 49, 28, 3, 61, 58, 42, 50, 38, 29, 17, 4, 62, 47, 59, 36, 45, 43, 51, 22, 53, 39, 33, 30, 24, 18, 12, 5, 63, 55, 48, 27, 60, 41, 37, 16, 46, 35, 44, 21, 52, 32, 23, 11, 54, 26, 40, 15, 34, 20, 31, 10, 25, 14, 19, 9, 13, 8, 7, 6]
def u8c (n : Int) : List Value := [.int .u8 n]
def Deb (w : World) : Prop := ∀ (i : Nat) v, (cat u8c debT)[i]? = some v → w.cell? ⟨3, i, none⟩ = some v
theorem deb_lt {w : World} (h : Deb w) : 3 < w.heap.size := World.block_lt_of_cell? w _ (h 0 _ rfl)
theorem Deb.hp {w0 : World} {H : List HO} {w : World} (h : Deb w0) (hp : Hp ⟨w0, fun _ => False⟩ H w) : Deb w := fun i v hi => (World.cell?_of_block (w := w0) (hp.ext.block _ (deb_lt h) id)).trans (h i v hi)
def tzN (s : Nat) : Nat := ((List.range 10).find? s.testBit).getD 0
def debX (s : Nat) : Int := (IntKind.u64.wrap (bitS .and .u64 s (IntKind.u64.wrap (0 - (s : Int))) * 285870213051353865)).fdiv (2 ^ (min 58 IntKind.u64.bits))
theorem deb10 : ∀ s : Fin 1024, s.val ≠ 0 → (0 ≤ debX s.val ∧ debX s.val < 64) ∧ debT[(debX s.val).toNat]? = some (tzN s.val : Int) := by decide +kernel
theorem and10 : ∀ s : Fin 1024, s.val ≠ 0 → bitS .and .i64 ((s.val : Nat) : Int) ((s.val : Int) - 1) = ((s.val &&& (s.val - 1) : Nat) : Int) := by decide +kernel
theorem pick10 : ∀ s : Fin 1024, s.val ≠ 0 → pick s.val.testBit 10 = (tzN s.val : Int) :: pick (s.val &&& (s.val - 1)).testBit 10 := by decide +kernel
theorem tz64_fn (w : World) (hd : Deb w) (s : Nat) (hs : s < 1024) (h0 : s ≠ 0) : SX.Fn Tryz.prog 148 [.int .u64 s] w (fun _ => False) fun q N => q = I (tzN s) := by
  obtain ⟨⟨h1, h2⟩, h3⟩ := deb10 ⟨s, hs⟩ h0
  simp only [] at h1 h2 h3
  have e1 : ((s : Int) = 0) = False := eq_false (by omega)
  have htz : tzN s < 10 := by
    unfold tzN
    cases h : (List.range 10).find? s.testBit with
    | none => simp
    | some x => exact List.mem_range.1 (List.mem_of_find?_eq_some h)
  have hc := hd (debX s).toNat (.int .u8 (tzN s)) (by
    have := cat_get (f := u8c) (n := 1) (fun _ => rfl) h3 (j := 0) (by decide)
    rw [Nat.mul_one, Nat.add_zero] at this
    exact this)
  have e2 : wr (tzN s : Int) = (tzN s : Int) := wrap_id (by omega)
  have hX : debX s = (IntKind.u64.wrap (bitS .and .u64 s (IntKind.u64.wrap (0 - (s : Int))) * 285870213051353865)).fdiv (2 ^ (min 58 IntKind.u64.bits)) := rfl
  refine walk [] [] (det0_ok _ _) Tryz.func148 rfl Tryz.ntmps148 res148 (by kernel_rfl) no_facts ?_
  simp (config := { maxSteps := 4000000 }) only [↓sx0, ↓sx1, ↓sx2, ↓sx3, ↓sx4, ↓sx5, ↓sx6, sx0, sx1, sx2, sx3, sx4, sx5, sx6, tf148, ev3_hold, sxo, sxc, sxp, sxq, sxr, sxs, sxl, sxm, simprocAttr, e1]
  rw [← hX]
  refine ⟨h1, h2, ?_⟩
  refine ld_olda (b := 3) (o := (debX s).toNat) (by simp [Addr.add]; try omega) hc id ?_
  simp (config := { maxSteps := 4000000 }) only [↓sx0, ↓sx1, ↓sx2, ↓sx3, ↓sx4, ↓sx5, ↓sx6, sx0, sx1, sx2, sx3, sx4, sx5, sx6, tf148, ev3_hold, sxo, sxc, sxp, sxq, sxr, sxs, sxl, sxm, simprocAttr, e2]
theorem tz_fn (w : World) (hd : Deb w) (s : Nat) (hs : s < 1024) (h0 : s ≠ 0) : SX.Fn Tryz.prog 96 [.int .u64 s] w (fun _ => False) fun q N => q = I (tzN s) := by
  have dn : ∀ (g : Nat) (xs : List Value), det0 g xs = none := fun _ _ => rfl
  refine walk [] [] (det0_ok _ _) Tryz.func96 rfl Tryz.ntmps96 res96 (by kernel_rfl) no_facts ?_
  simp (config := { maxSteps := 4000000 }) only [↓sx0, ↓sx1, ↓sx2, ↓sx3, ↓sx4, ↓sx5, ↓sx6, sx0, sx1, sx2, sx3, sx4, sx5, sx6, tf96, ev3_hold, sxo, sxc, sxp, sxq, sxr, sxs, sxl, sxm, simprocAttr, dn]
  refine CallOb.pureH (fun w' hp => tz64_fn w' (hd.hp hp) s hs h0) ?_
  rintro q N rfl
  refine ⟨?_⟩
  simp (config := { maxSteps := 4000000 }) only [↓sx0, ↓sx1, ↓sx2, ↓sx3, ↓sx4, ↓sx5, ↓sx6, sx0, sx1, sx2, sx3, sx4, sx5, sx6, tf96, ev3_hold, sxo, sxc, sxp, sxq, sxr, sxs, sxl, sxm, simprocAttr]
theorem and_lt {s : Nat} (h : s ≠ 0) : s &&& (s - 1) < s := Nat.lt_of_le_of_lt Nat.and_le_right (by omega)
theorem pick_zero : ∀ n, pick (0 : Nat).testBit n = [] := by
  intro n
  unfold pick
  rw [List.filter_eq_nil_iff.2 (fun i _ => by simp)]
  rfl
theorem pick_len (p : Nat → Bool) (n : Nat) : (pick p n).length ≤ n := by
  unfold pick
  rw [List.length_map]
  exact Nat.le_trans (List.length_filter_le _ _) (by rw [List.length_range]; exact Nat.le_refl _)
theorem elements_fn (w : World) (hd : Deb w) (s : Nat) (hs : s < 1024) : SX.Fn Tryz.prog 59 [I s] w (fun _ => False) fun q N => Got q 3 1 i1 (pick s.testBit 10) N := by
  have dn : ∀ (g : Nat) (xs : List Value), det0 g xs = none := fun _ _ => rfl
  have hpl := pick_len s.testBit 10
  obtain ⟨P, hP⟩ : ∃ P, pick s.testBit 10 = P := ⟨_, rfl⟩
  rw [hP] at hpl ⊢
  refine walk [] [] (det0_ok _ _) Tryz.func59 rfl Tryz.ntmps59 res59 (by kernel_rfl) no_facts ?_
  simp (config := { maxSteps := 4000000 }) only [↓sx0, ↓sx1, ↓sx2, ↓sx3, ↓sx4, ↓sx5, ↓sx6, sx0, sx1, sx2, sx3, sx4, sx5, sx6, tf59, ev3_hold, sxo, sxc, sxp, sxq, sxr, sxs, sxl, sxm, simprocAttr]
  refine loop_constH [HO.row (.slice none 0 0) 3 1 (ints [])] ((HImp.nil _ _).trans (HImp.nilRow _ _ _ _)) [(0, 0), (2, 14)] (fun q : Nat × Option Addr × Nat × List Int => [(0, I q.1), (2, .slice q.2.1 q.2.2.2.length q.2.2.1)])
    (fun q H1 => q.1 < 1024 ∧ (q.2.1 = none → q.2.2.2 = []) ∧ q.2.2.2 ++ pick q.1.testBit 10 = P ∧ H1 = [HO.row (.slice q.2.1 q.2.2.2.length q.2.2.1) 3 1 (ints q.2.2.2)]) (fun q => q.1) (s, none, 0, []) ?_ ⟨hs, fun _ => rfl, hP, rfl⟩ ?_
  · simp (config := { maxSteps := 4000000 }) only [↓sx0, ↓sx1, ↓sx2, ↓sx3, ↓sx4, ↓sx5, ↓sx6, sx0, sx1, sx2, sx3, sx4, sx5, sx6, tf59, ev3_hold, sxo, sxc, sxp, sxq, sxr, sxs, sxl, sxm, simprocAttr]
    try simp
  rintro ⟨x, ad, cp, L⟩ H1 g1 hinv
  simp only [] at hinv
  obtain ⟨hx, hnil, hLP, rfl⟩ := hinv
  by_cases h0 : x = 0
  · subst h0
    have e7 : (((0 : Nat) : Int) = 0) = True := eq_true rfl
    rw [pick_zero, List.append_nil] at hLP
    subst hLP
    refine ⟨?_⟩
    simp (config := { maxSteps := 4000000 }) only [↓sx0, ↓sx1, ↓sx2, ↓sx3, ↓sx4, ↓sx5, ↓sx6, sx0, sx1, sx2, sx3, sx4, sx5, sx6, tf59, ev3_hold, sxo, sxc, sxp, sxq, sxr, sxs, sxl, sxm, simprocAttr, e7]
    exact Got.row rfl List.mem_cons_self hnil
  have e7 : ((x : Int) = 0) = False := eq_false (by omega)
  have e1 : IntKind.u64.wrap (x : Int) = x := by rw [IntKind.wrap_u64]; omega
  have e2 : wr ((x : Int) - 1) = (x : Int) - 1 := wrap_id (by omega)
  have e3 := and10 ⟨x, hx⟩ h0
  have e4 := pick10 ⟨x, hx⟩ h0
  simp only [] at e3 e4
  have hlt := and_lt h0
  rw [e4] at hLP
  have hLl := congrArg List.length hLP
  rw [List.length_append, List.length_cons] at hLl
  obtain ⟨y, hy⟩ : ∃ y, x &&& (x - 1) = y := ⟨_, rfl⟩
  rw [hy] at e3 hLP hlt
  obtain ⟨z, hz⟩ : ∃ z : Int, (tzN x : Int) = z := ⟨_, rfl⟩
  have htz := fun (H : List HO) w' (hp : Hp ⟨w, fun _ => False⟩ H w') => tz_fn w' (hd.hp hp) x hx h0
  rw [hz] at htz hLP
  have hL2 : (L ++ [z]).length = L.length + 1 := by rw [List.length_append]; rfl
  refine ⟨?_⟩
  simp (config := { maxSteps := 4000000 }) only [↓sx0, ↓sx1, ↓sx2, ↓sx3, ↓sx4, ↓sx5, ↓sx6, sx0, sx1, sx2, sx3, sx4, sx5, sx6, tf59, ev3_hold, sxo, sxc, sxp, sxq, sxr, sxs, sxl, sxm, simprocAttr, e7, e1, dn]
  refine CallOb.pureH (fun w' hp => htz _ w' hp) ?_
  rintro q N rfl
  refine ⟨?_⟩
  simp (config := { maxSteps := 4000000 }) only [↓sx0, ↓sx1, ↓sx2, ↓sx3, ↓sx4, ↓sx5, ↓sx6, sx0, sx1, sx2, sx3, sx4, sx5, sx6, tf59, ev3_hold, sxo, sxc, sxp, sxq, sxr, sxs, sxl, sxm, simprocAttr]
  intro b4
  refine app_one (l := L) z (HImp.app _ _ _) i1_len i1_one (by omega) fun ad3 c3 => ?_
  rw [← hL2]
  simp (config := { maxSteps := 4000000 }) only [↓sx0, ↓sx1, ↓sx2, ↓sx3, ↓sx4, ↓sx5, ↓sx6, sx0, sx1, sx2, sx3, sx4, sx5, sx6, tf59, ev3_hold, sxo, sxc, sxp, sxq, sxr, sxs, sxl, sxm, simprocAttr, e2, e3]
  exact ⟨(y, some ad3, c3, L ++ [z]), _, ⟨rfl, rfl⟩, HImp.refl _ _, ⟨by simp only []; omega, fun h => (by cases h), by simp only [List.append_assoc]; exact hLP, rfl⟩, by simp only []; omega⟩
end Go.Proofs.YtnbogcpnpcbjgaaGreatDoor

namespace Go.Proofs.YtnbogcpnpcbjgaaGreatDoor
open Go.RowKit Go.SX
set_option maxRecDepth 10000
set_option maxHeartbeats 0
set_option linter.unusedSimpArgs false
set_option linter.unusedVariables false
theorem nan_fn (w : World) (a : Int) : SX.Fn Tryz.prog 149 [I a] w (fun _ => False) fun q N => q = .bool false := by
  refine walk [] [] (det0_ok _ _) Tryz.func149 rfl Tryz.ntmps149 res149 (by kernel_rfl) no_facts ?_
  simp (config := { maxSteps := 4000000 }) only [↓sx0, ↓sx1, ↓sx2, ↓sx3, ↓sx4, ↓sx5, ↓sx6, sx0, sx1, sx2, sx3, sx4, sx5, sx6, tf149, ev3_hold, sxo, sxc, sxp, sxq, sxr, sxs, sxl, sxm, simprocAttr]
  try simp
theorem cmpI_fn (w : World) (a b : Int) : SX.Fn Tryz.prog 97 [I a, I b] w (fun _ => False) fun q N => ∃ c : Int, q = I c := by
  have dn : ∀ (g : Nat) (xs : List Value), det0 g xs = none := fun _ _ => rfl
  by_cases h1 : a < b
  · have e1 : (a < b) = True := eq_true h1
    refine walk [] [] (det0_ok _ _) Tryz.func97 rfl Tryz.ntmps97 res97 (by kernel_rfl) no_facts ?_
    simp (config := { maxSteps := 4000000 }) only [↓sx0, ↓sx1, ↓sx2, ↓sx3, ↓sx4, ↓sx5, ↓sx6, sx0, sx1, sx2, sx3, sx4, sx5, sx6, tf97, ev3_hold, sxo, sxc, sxp, sxq, sxr, sxs, sxl, sxm, simprocAttr, dn]
    refine CallOb.pureH (fun w' hp => nan_fn w' a) ?_
    rintro q N rfl
    refine ⟨?_⟩
    simp (config := { maxSteps := 4000000 }) only [↓sx0, ↓sx1, ↓sx2, ↓sx3, ↓sx4, ↓sx5, ↓sx6, sx0, sx1, sx2, sx3, sx4, sx5, sx6, tf97, ev3_hold, sxo, sxc, sxp, sxq, sxr, sxs, sxl, sxm, simprocAttr, dn]
    refine CallOb.pureH (fun w' hp => nan_fn w' b) ?_
    rintro q N2 rfl
    refine ⟨?_⟩
    simp (config := { maxSteps := 4000000 }) only [↓sx0, ↓sx1, ↓sx2, ↓sx3, ↓sx4, ↓sx5, ↓sx6, sx0, sx1, sx2, sx3, sx4, sx5, sx6, tf97, ev3_hold, sxo, sxc, sxp, sxq, sxr, sxs, sxl, sxm, simprocAttr, e1]
    exact ⟨_, rfl⟩
  have e1 : (a < b) = False := eq_false h1
  by_cases h2 : a > b
  · have e2 : (a > b) = True := eq_true h2
    refine walk [] [] (det0_ok _ _) Tryz.func97 rfl Tryz.ntmps97 res97 (by kernel_rfl) no_facts ?_
    simp (config := { maxSteps := 4000000 }) only [↓sx0, ↓sx1, ↓sx2, ↓sx3, ↓sx4, ↓sx5, ↓sx6, sx0, sx1, sx2, sx3, sx4, sx5, sx6, tf97, ev3_hold, sxo, sxc, sxp, sxq, sxr, sxs, sxl, sxm, simprocAttr, dn]
    refine CallOb.pureH (fun w' hp => nan_fn w' a) ?_
    rintro q N rfl
    refine ⟨?_⟩
    simp (config := { maxSteps := 4000000 }) only [↓sx0, ↓sx1, ↓sx2, ↓sx3, ↓sx4, ↓sx5, ↓sx6, sx0, sx1, sx2, sx3, sx4, sx5, sx6, tf97, ev3_hold, sxo, sxc, sxp, sxq, sxr, sxs, sxl, sxm, simprocAttr, dn]
    refine CallOb.pureH (fun w' hp => nan_fn w' b) ?_
    rintro q N2 rfl
    refine ⟨?_⟩
    simp (config := { maxSteps := 4000000 }) only [↓sx0, ↓sx1, ↓sx2, ↓sx3, ↓sx4, ↓sx5, ↓sx6, sx0, sx1, sx2, sx3, sx4, sx5, sx6, tf97, ev3_hold, sxo, sxc, sxp, sxq, sxr, sxs, sxl, sxm, simprocAttr, e1, e2]
    exact ⟨_, rfl⟩
  have e2 : (a > b) = False := eq_false h2
  refine walk [] [] (det0_ok _ _) Tryz.func97 rfl Tryz.ntmps97 res97 (by kernel_rfl) no_facts ?_
  simp (config := { maxSteps := 4000000 }) only [↓sx0, ↓sx1, ↓sx2, ↓sx3, ↓sx4, ↓sx5, ↓sx6, sx0, sx1, sx2, sx3, sx4, sx5, sx6, tf97, ev3_hold, sxo, sxc, sxp, sxq, sxr, sxs, sxl, sxm, simprocAttr, dn]
  refine CallOb.pureH (fun w' hp => nan_fn w' a) ?_
  rintro q N rfl
  refine ⟨?_⟩
  simp (config := { maxSteps := 4000000 }) only [↓sx0, ↓sx1, ↓sx2, ↓sx3, ↓sx4, ↓sx5, ↓sx6, sx0, sx1, sx2, sx3, sx4, sx5, sx6, tf97, ev3_hold, sxo, sxc, sxp, sxq, sxr, sxs, sxl, sxm, simprocAttr, dn]
  refine CallOb.pureH (fun w' hp => nan_fn w' b) ?_
  rintro q N2 rfl
  refine ⟨?_⟩
  simp (config := { maxSteps := 4000000 }) only [↓sx0, ↓sx1, ↓sx2, ↓sx3, ↓sx4, ↓sx5, ↓sx6, sx0, sx1, sx2, sx3, sx4, sx5, sx6, tf97, ev3_hold, sxo, sxc, sxp, sxq, sxr, sxs, sxl, sxm, simprocAttr, e1, e2]
  exact ⟨_, rfl⟩
theorem cmpL_fn (w : World) (v v' : Value) (l m : List Int) (hs : Sl w v 1 (ints l)) (hs' : Sl w v' 1 (ints m)) (hb : l.length ≤ 1000) (hb' : m.length ≤ 1000) : SX.Fn Tryz.prog 60 [v, v'] w (fun _ => False) fun q N => ∃ c : Int, q = I c := by
  have dn : ∀ (g : Nat) (xs : List Value), det0 g xs = none := fun _ _ => rfl
  obtain ⟨a, n, c, rfl⟩ := hs.shape
  obtain ⟨a', n', c', rfl⟩ := hs'.shape
  have hn := hs.le i1_len (by omega)
  have hn' := hs'.le i1_len (by omega)
  subst hn hn'
  have hr := hs.rd0
  have hr' := hs'.rd0
  refine walk [] [] (det0_ok _ _) Tryz.func60 rfl Tryz.ntmps60 res60 (by kernel_rfl) no_facts ?_
  simp (config := { maxSteps := 4000000 }) only [↓sx0, ↓sx1, ↓sx2, ↓sx3, ↓sx4, ↓sx5, ↓sx6, sx0, sx1, sx2, sx3, sx4, sx5, sx6, tf60, ev3_hold, sxo, sxc, sxp, sxq, sxr, sxs, sxl, sxm, simprocAttr]
  refine loop_constH [] (HImp.nil _ _) [(4, 8), (11, 30)] (fun k : Nat => [(11, I k)]) (fun k H1 => k ≤ l.length) (fun k => l.length - k) 0 ?_ (Nat.zero_le _) ?_
  · simp (config := { maxSteps := 4000000 }) only [↓sx0, ↓sx1, ↓sx2, ↓sx3, ↓sx4, ↓sx5, ↓sx6, sx0, sx1, sx2, sx3, sx4, sx5, sx6, tf60, ev3_hold, sxo, sxc, sxp, sxq, sxr, sxs, sxl, sxm, simprocAttr]
    try simp
  rintro k H1 g hk
  by_cases hkn : k = l.length
  · have e7 : ((k : Int) < (l.length : Int)) = False := eq_false (by omega)
    by_cases h9 : l.length < m.length
    · have e9 : ((l.length : Int) < (m.length : Int)) = True := eq_true (by omega)
      refine ⟨?_⟩
      simp (config := { maxSteps := 4000000 }) only [↓sx0, ↓sx1, ↓sx2, ↓sx3, ↓sx4, ↓sx5, ↓sx6, sx0, sx1, sx2, sx3, sx4, sx5, sx6, tf60, ev3_hold, sxo, sxc, sxp, sxq, sxr, sxs, sxl, sxm, simprocAttr, e7, e9]
      exact ⟨_, rfl⟩
    · have e9 : ((l.length : Int) < (m.length : Int)) = False := eq_false (by omega)
      refine ⟨?_⟩
      simp (config := { maxSteps := 4000000 }) only [↓sx0, ↓sx1, ↓sx2, ↓sx3, ↓sx4, ↓sx5, ↓sx6, sx0, sx1, sx2, sx3, sx4, sx5, sx6, tf60, ev3_hold, sxo, sxc, sxp, sxq, sxr, sxs, sxl, sxm, simprocAttr, e7, e9]
      exact ⟨_, rfl⟩
  have e7 : ((k : Int) < (l.length : Int)) = True := eq_true (by omega)
  have e2 : wr ((k : Int) + 1) = ((k + 1 : Nat) : Int) := (wrap_id (by omega)).trans (by omega)
  obtain ⟨x, hx⟩ : ∃ x, l[k]? = some x := ⟨_, List.getElem?_eq_getElem (by omega)⟩
  by_cases hkm : k < m.length
  case neg =>
    have e8 : ((k : Int) ≥ (m.length : Int)) = True := eq_true (by omega)
    refine ⟨?_⟩
    simp (config := { maxSteps := 4000000 }) only [↓sx0, ↓sx1, ↓sx2, ↓sx3, ↓sx4, ↓sx5, ↓sx6, sx0, sx1, sx2, sx3, sx4, sx5, sx6, tf60, ev3_hold, sxo, sxc, sxp, sxq, sxr, sxs, sxl, sxm, simprocAttr, e7]
    refine amid (at_1 (hr _) i1_len hx rfl fun ad => ?_)
    simp (config := { maxSteps := 4000000 }) only [↓sx0, ↓sx1, ↓sx2, ↓sx3, ↓sx4, ↓sx5, ↓sx6, sx0, sx1, sx2, sx3, sx4, sx5, sx6, tf60, ev3_hold, sxo, sxc, sxp, sxq, sxr, sxs, sxl, sxm, simprocAttr, e8]
    exact ⟨_, rfl⟩
  have e8 : ((k : Int) ≥ (m.length : Int)) = False := eq_false (by omega)
  have e9 : ((k : Int) < (m.length : Int)) = True := eq_true (by omega)
  obtain ⟨y, hy⟩ : ∃ y, m[k]? = some y := ⟨_, List.getElem?_eq_getElem (by omega)⟩
  refine ⟨?_⟩
  simp (config := { maxSteps := 4000000 }) only [↓sx0, ↓sx1, ↓sx2, ↓sx3, ↓sx4, ↓sx5, ↓sx6, sx0, sx1, sx2, sx3, sx4, sx5, sx6, tf60, ev3_hold, sxo, sxc, sxp, sxq, sxr, sxs, sxl, sxm, simprocAttr, e7]
  refine amid (at_1 (hr _) i1_len hx rfl fun ad => ?_)
  simp (config := { maxSteps := 4000000 }) only [↓sx0, ↓sx1, ↓sx2, ↓sx3, ↓sx4, ↓sx5, ↓sx6, sx0, sx1, sx2, sx3, sx4, sx5, sx6, tf60, ev3_hold, sxo, sxc, sxp, sxq, sxr, sxs, sxl, sxm, simprocAttr, e8, e9]
  refine amid (at_1 (hr' _) i1_len hy rfl fun ad' => ?_)
  simp (config := { maxSteps := 4000000 }) only [↓sx0, ↓sx1, ↓sx2, ↓sx3, ↓sx4, ↓sx5, ↓sx6, sx0, sx1, sx2, sx3, sx4, sx5, sx6, tf60, ev3_hold, sxo, sxc, sxp, sxq, sxr, sxs, sxl, sxm, simprocAttr, dn]
  refine CallOb.pureH (fun w' hp => cmpI_fn w' x y) ?_
  rintro q N ⟨z, rfl⟩
  by_cases hz : z = 0
  · have f1 : (z = 0) = True := eq_true hz
    refine ⟨?_⟩
    simp (config := { maxSteps := 4000000 }) only [↓sx0, ↓sx1, ↓sx2, ↓sx3, ↓sx4, ↓sx5, ↓sx6, sx0, sx1, sx2, sx3, sx4, sx5, sx6, tf60, ev3_hold, sxo, sxc, sxp, sxq, sxr, sxs, sxl, sxm, simprocAttr, f1, e2]
    exact ⟨k + 1, _, rfl, HImp.refl _ _, by omega, by omega⟩
  · have f1 : (z = 0) = False := eq_false hz
    refine ⟨?_⟩
    simp (config := { maxSteps := 4000000 }) only [↓sx0, ↓sx1, ↓sx2, ↓sx3, ↓sx4, ↓sx5, ↓sx6, sx0, sx1, sx2, sx3, sx4, sx5, sx6, tf60, ev3_hold, sxo, sxc, sxp, sxq, sxr, sxs, sxl, sxm, simprocAttr, f1]
    exact ⟨_, rfl⟩
def shB (x : Int × Int × Int) : Bool := decide (-1000000 ≤ x.1) && (decide (x.1 ≤ x.2.1) && (decide (x.2.1 ≤ 1000000) && decide (0 ≤ x.2.2 ∧ x.2.2 ≤ 100)))
def shopsB (l : List (Int × Int × Int)) (st : Int) : Bool := decide (l.length ≤ 12) && (l.all shB && decide (0 ≤ st ∧ st ≤ 1200))
def lowS (l : List (Int × Int × Int)) (f : Int × Int × Int → Int) : List Int → Int
  | [] => 0
  | i :: x => f (l.getD i.toNat (0, 0, 0)) + lowS l f x
theorem lowS_app (l : List (Int × Int × Int)) (f : Int × Int × Int → Int) : ∀ x y, lowS l f (x ++ y) = lowS l f x + lowS l f y
  | [], y => by simp [lowS]
  | i :: x, y => by rw [List.cons_append, lowS, lowS, lowS_app l f x y]; omega
theorem lowS_take {l : List (Int × Int × Int)} {f : Int × Int × Int → Int} {x : List Int} {k : Nat} {i : Int} (h : x[k]? = some i) : lowS l f (x.take (k + 1)) = lowS l f (x.take k) + f (l.getD i.toNat (0, 0, 0)) := by
  rw [List.take_succ, h, lowS_app]
  simp [lowS]
theorem lowS_bd {l : List (Int × Int × Int)} {f : Int × Int × Int → Int} {M : Int} (h : ∀ k, -M ≤ f (l.getD k (0, 0, 0)) ∧ f (l.getD k (0, 0, 0)) ≤ M) : ∀ x : List Int, -(M * x.length) ≤ lowS l f x ∧ lowS l f x ≤ M * x.length
  | [] => by simp [lowS]
  | i :: x => by
    have h1 := lowS_bd h x
    have h2 := h i.toNat
    rw [lowS, List.length_cons, show M * ((x.length + 1 : Nat) : Int) = M * x.length + M by rw [Int.natCast_add, Int.mul_add]; simp]
    omega
theorem sh_get {l : List (Int × Int × Int)} (h : l.all shB = true) (k : Nat) : -1000000 ≤ (l.getD k (0, 0, 0)).1 ∧ (l.getD k (0, 0, 0)).1 ≤ (l.getD k (0, 0, 0)).2.1 ∧ (l.getD k (0, 0, 0)).2.1 ≤ 1000000 ∧ 0 ≤ (l.getD k (0, 0, 0)).2.2 ∧ (l.getD k (0, 0, 0)).2.2 ≤ 100 := by
  rw [List.getD_eq_getElem?_getD]
  cases hx : l[k]? with
  | none => simp
  | some x =>
    have := List.all_eq_true.1 h x (List.mem_of_getElem? hx)
    unfold shB at this
    simp only [Bool.and_eq_true, decide_eq_true_eq] at this
    simp only [Option.getD_some]
    omega
theorem pick_mem {p : Nat → Bool} {n : Nat} {i : Int} (h : i ∈ pick p n) : ∃ k : Nat, i = k ∧ k < n ∧ p k = true := by
  unfold pick at h
  rw [List.mem_map] at h
  obtain ⟨k, hk, rfl⟩ := h
  rw [List.mem_filter, List.mem_range] at hk
  exact ⟨k, rfl, hk.1, hk.2⟩
end Go.Proofs.YtnbogcpnpcbjgaaGreatDoor

namespace Go.Proofs.YtnbogcpnpcbjgaaGreatDoor
open Go.RowKit Go.SX
set_option maxRecDepth 10000
set_option maxHeartbeats 0
set_option linter.unusedSimpArgs false
set_option linter.unusedVariables false
def ShP (l : List (Int × Int × Int)) (q : Value) (N : List HO) : Prop := ∃ (v : Value) (net : Int) (L : List Int), q = .tuple #[v, I net, I 0] ∧ Got v 3 1 i1 L N ∧ L.length ≤ 10 ∧ (∀ i ∈ L, 0 ≤ i ∧ i < (l.length : Int)) ∧ net = lowS l (fun x => x.1) L ∧ 0 ≤ net
theorem shl8' : ∀ n : Fin 9, IntKind.i64.wrap (1 * 2 ^ (min n.val IntKind.i64.bits)) = ((2 ^ n.val : Nat) : Int) := by decide +kernel
theorem gshops_fn (w : World) (hd : Deb w) (v : Value) (l : List (Int × Int × Int)) (hS : Sl w v 3 (cat ldc l)) (hl : l.length ≤ 8) (st : Int) (hok : shopsB l st = true) : SX.Fn Tryz.prog 25 [v, I st] w (fun _ => False) (ShP l) := by
  have dn : ∀ (g : Nat) (xs : List Value), det0 g xs = none := fun _ _ => rfl
  have hel := fun (s : Nat) (hs : s < 1024) (H : List HO) w' (hp : Hp ⟨w, fun _ => False⟩ H w') => elements_fn w' (hd.hp hp) s hs
  have hgw := fun (a b c : Int) w' => gwithin_fn w' a b c
  have hr := fun H => hS.rd0 H
  obtain ⟨a, n, c, rfl⟩ := hS.shape
  have hn := hS.le ldc_len (by omega)
  subst hn
  unfold shopsB at hok
  simp only [Bool.and_eq_true, decide_eq_true_eq] at hok
  obtain ⟨_, hall, hst⟩ := hok
  have hget := sh_get hall
  have e0 : ((l.length : Int) > 12) = False := eq_false (by omega)
  have hw0 : ∀ w', SX.Fn Tryz.prog 58 [I st, I 0, I 1200] w' (fun _ => False) fun q N => q = .bool true := fun w' => by
    have := hgw st 0 1200 w'
    rw [decide_eq_true hst] at this
    exact this
  have e1 : IntKind.i64.wrap (1 * 2 ^ (min l.length IntKind.i64.bits)) = ((2 ^ l.length : Nat) : Int) := shl8' ⟨l.length, by omega⟩
  have h256 : 2 ^ l.length ≤ 256 := Nat.pow_le_pow_right (n := 2) (by omega) hl
  obtain ⟨K, hK⟩ : ∃ K, 2 ^ l.length = K := ⟨_, rfl⟩
  rw [hK] at h256 e1
  unfold ShP
  refine walk [] [] (det0_ok _ _) Tryz.func25 rfl Tryz.ntmps25 res25 (by kernel_rfl) no_facts ?_
  simp (config := { maxSteps := 4000000 }) only [↓sx0, ↓sx1, ↓sx2, ↓sx3, ↓sx4, ↓sx5, ↓sx6, sx0, sx1, sx2, sx3, sx4, sx5, sx6, tf25, ev3_hold, sxo, sxc, sxp, sxq, sxr, sxs, sxl, sxm, simprocAttr, e0]
  refine loop_constH [] (HImp.nil _ _) [(4, 6), (8, 8), (20, 49)] (fun k : Nat => [(4, .slice none 0 0), (5, I 0), (6, I 0), (20, I k)]) (fun k H1 => k ≤ l.length) (fun k => l.length - k) 0 ?_ (Nat.zero_le _) ?_
  · simp (config := { maxSteps := 4000000 }) only [↓sx0, ↓sx1, ↓sx2, ↓sx3, ↓sx4, ↓sx5, ↓sx6, sx0, sx1, sx2, sx3, sx4, sx5, sx6, tf25, ev3_hold, sxo, sxc, sxp, sxq, sxr, sxs, sxl, sxm, simprocAttr]
    try simp
  rintro k H1 g1 hk
  by_cases hkn : k = l.length
  case neg =>
    have e7 : ((k : Int) < (l.length : Int)) = True := eq_true (by omega)
    have e8 : wr ((k : Int) + 1) = ((k + 1 : Nat) : Int) := (wrap_id (by omega)).trans (by omega)
    obtain ⟨x, hx⟩ : ∃ x, l[k]? = some x := ⟨_, List.getElem?_eq_getElem (by omega)⟩
    have hxd : l.getD k (0, 0, 0) = x := by rw [List.getD_eq_getElem?_getD, hx]; rfl
    have hb := hget k
    rw [hxd] at hb
    have hpx : ldc x = [I x.1, I x.2.1, I x.2.2] := rfl
    have f1 : (x.1 < -1000000) = False := eq_false (by omega)
    have f2 : (x.1 > x.2.1) = False := eq_false (by omega)
    have f3 : (x.2.1 > 1000000) = False := eq_false (by omega)
    have hw1 : ∀ w', SX.Fn Tryz.prog 58 [I x.2.2, I 0, I 100] w' (fun _ => False) fun q N => q = .bool true := fun w' => by
      have := hgw x.2.2 0 100 w'
      rw [decide_eq_true (show 0 ≤ x.2.2 ∧ x.2.2 ≤ 100 by omega)] at this
      exact this
    refine ⟨?_⟩
    simp (config := { maxSteps := 4000000 }) only [↓sx0, ↓sx1, ↓sx2, ↓sx3, ↓sx4, ↓sx5, ↓sx6, sx0, sx1, sx2, sx3, sx4, sx5, sx6, tf25, ev3_hold, sxo, sxc, sxp, sxq, sxr, sxs, sxl, sxm, simprocAttr, e7]
    refine amid (at_n (hr _) ldc_len (by omega) hx fun ad => ?_)
    simp (config := { maxSteps := 4000000 }) only [↓sx0, ↓sx1, ↓sx2, ↓sx3, ↓sx4, ↓sx5, ↓sx6, sx0, sx1, sx2, sx3, sx4, sx5, sx6, tf25, ev3_hold, sxo, sxc, sxp, sxq, sxr, sxs, sxl, sxm, simprocAttr, hpx, f1, f2, f3, dn]
    refine CallOb.pureH (fun w' hp => hw1 w') ?_
    rintro q N rfl
    refine ⟨?_⟩
    simp (config := { maxSteps := 4000000 }) only [↓sx0, ↓sx1, ↓sx2, ↓sx3, ↓sx4, ↓sx5, ↓sx6, sx0, sx1, sx2, sx3, sx4, sx5, sx6, tf25, ev3_hold, sxo, sxc, sxp, sxq, sxr, sxs, sxl, sxm, simprocAttr, e8]
    exact ⟨k + 1, _, rfl, HImp.refl _ _, by omega, by omega⟩
  have e7 : ((k : Int) < (l.length : Int)) = False := eq_false (by omega)
  refine ⟨?_⟩
  simp (config := { maxSteps := 4000000 }) only [↓sx0, ↓sx1, ↓sx2, ↓sx3, ↓sx4, ↓sx5, ↓sx6, sx0, sx1, sx2, sx3, sx4, sx5, sx6, tf25, ev3_hold, sxo, sxc, sxp, sxq, sxr, sxs, sxl, sxm, simprocAttr, e7, dn]
  refine CallOb.pureH (fun w' hp => hw0 w') ?_
  rintro q N rfl
  refine ⟨?_⟩
  simp (config := { maxSteps := 4000000 }) only [↓sx0, ↓sx1, ↓sx2, ↓sx3, ↓sx4, ↓sx5, ↓sx6, sx0, sx1, sx2, sx3, sx4, sx5, sx6, tf25, ev3_hold, sxo, sxc, sxp, sxq, sxr, sxs, sxl, sxm, simprocAttr, e1]
  refine ⟨by omega, ?_⟩
  refine loop_constH [] (HImp.nil _ _) [(4, 5), (9, 12), (14, 14), (56, 116)] (fun s : Nat × Value × List Int × Int => [(4, s.2.1), (5, I s.2.2.2), (56, I s.1)]) (fun s H5 => s.1 ≤ K ∧ Got s.2.1 3 1 i1 s.2.2.1 H5 ∧ s.2.2.1.length ≤ 10 ∧ (∀ i ∈ s.2.2.1, 0 ≤ i ∧ i < (l.length : Int)) ∧ s.2.2.2 = lowS l (fun x => x.1) s.2.2.1 ∧ 0 ≤ s.2.2.2) (fun s => K - s.1)
    (0, .slice none 0 0, [], 0) ?_ ⟨Nat.zero_le _, Got.nil _, by simp, by simp, rfl, Int.le_refl _⟩ ?_
  · simp (config := { maxSteps := 4000000 }) only [↓sx0, ↓sx1, ↓sx2, ↓sx3, ↓sx4, ↓sx5, ↓sx6, sx0, sx1, sx2, sx3, sx4, sx5, sx6, tf25, ev3_hold, sxo, sxc, sxp, sxq, sxr, sxs, sxl, sxm, simprocAttr]
    try simp
  rintro ⟨s, vo, L, net⟩ H5 g5 hinv
  simp only [] at hinv
  obtain ⟨hs, hG, hL10, hLi, hnet, hn0⟩ := hinv
  obtain ⟨ao, co, rfl⟩ := hG.shape
  by_cases hsn : s = K
  · have q7 : ((s : Int) < (K : Int)) = False := eq_false (by omega)
    refine ⟨?_⟩
    simp (config := { maxSteps := 4000000 }) only [↓sx0, ↓sx1, ↓sx2, ↓sx3, ↓sx4, ↓sx5, ↓sx6, sx0, sx1, sx2, sx3, sx4, sx5, sx6, tf25, ev3_hold, sxo, sxc, sxp, sxq, sxr, sxs, sxl, sxm, simprocAttr, q7]
    exact ⟨_, net, L, rfl, hG, hL10, hLi, hnet, hn0⟩
  have q7 : ((s : Int) < (K : Int)) = True := eq_true (by omega)
  have q8 : wr ((s : Int) + 1) = ((s + 1 : Nat) : Int) := (wrap_id (by omega)).trans (by omega)
  have hel := hel s (by omega)
  have hPl := pick_len s.testBit 10
  have hPi : ∀ i ∈ pick s.testBit 10, 0 ≤ i ∧ i < (l.length : Int) := fun i hi => by
    obtain ⟨j, rfl, _, hb⟩ := pick_mem hi
    refine ⟨by omega, ?_⟩
    have : j < l.length := by
      refine Nat.lt_of_not_le fun h => ?_
      have h1 := Nat.testBit_lt_two_pow (x := s) (i := j) (Nat.lt_of_lt_of_le (show s < 2 ^ l.length by omega) (Nat.pow_le_pow_right (by omega) h))
      rw [h1] at hb
      cases hb
    omega
  obtain ⟨P, hP⟩ : ∃ P, pick s.testBit 10 = P := ⟨_, rfl⟩
  rw [hP] at hPl hPi
  simp only [hP] at hel
  obtain ⟨A, hA⟩ : ∃ A : Nat → Int, ∀ j, lowS l (fun x => x.1) (P.take j) = A j := ⟨_, fun _ => rfl⟩
  obtain ⟨B, hB⟩ : ∃ B : Nat → Int, ∀ j, lowS l (fun x => x.2.2) (P.take j) = B j := ⟨_, fun _ => rfl⟩
  have hA0 : A 0 = 0 := by rw [← hA]; rfl
  have hB0 : B 0 = 0 := by rw [← hB]; rfl
  have hAb : ∀ j, -10000000 ≤ A j ∧ A j ≤ 10000000 := fun j => by
    have h1 := lowS_bd (l := l) (f := fun x => x.1) (M := 1000000) (fun k => by have := hget k; omega) (P.take j)
    have h2 : (P.take j).length ≤ 10 := by rw [List.length_take]; omega
    rw [← hA]
    omega
  have hBb : ∀ j, -1000 ≤ B j ∧ B j ≤ 1000 := fun j => by
    have h1 := lowS_bd (l := l) (f := fun x => x.2.2) (M := 100) (fun k => by have := hget k; omega) (P.take j)
    have h2 : (P.take j).length ≤ 10 := by rw [List.length_take]; omega
    rw [← hB]
    omega
  have hAP : A P.length = lowS l (fun x => x.1) P := by rw [← hA, List.take_length]
  refine ⟨?_⟩
  simp (config := { maxSteps := 4000000 }) only [↓sx0, ↓sx1, ↓sx2, ↓sx3, ↓sx4, ↓sx5, ↓sx6, sx0, sx1, sx2, sx3, sx4, sx5, sx6, tf25, ev3_hold, sxo, sxc, sxp, sxq, sxr, sxs, sxl, sxm, simprocAttr, q7, dn]
  refine CallOb.pureH (fun w' hp => hel _ w' hp) ?_
  rintro q N2 hG2
  obtain ⟨aP, cs, rfl⟩ := hG2.shape
  have hrP := fun (H : List HO) (hm : ∀ h ∈ N2, h ∈ H) => hG2.rdv (w0 := ⟨w, fun _ => False⟩) i1_len hm
  have hcm : ∀ (H : List HO) w', (∀ h ∈ N2 ++ H5, h ∈ H) → Hp ⟨w, fun _ => False⟩ H w' → SX.Fn Tryz.prog 60 [.slice aP P.length cs, .slice ao L.length co] w' (fun _ => False) fun q N => ∃ c : Int, q = I c := fun H w' hm hp => cmpL_fn w' _ _ P L (hG2.hp (fun h hh => hm h (List.mem_append_left _ hh)) hp) (hG.hp (fun h hh => hm h (List.mem_append_right _ hh)) hp) (by omega) (by omega)
  refine ⟨?_⟩
  simp (config := { maxSteps := 4000000 }) only [↓sx0, ↓sx1, ↓sx2, ↓sx3, ↓sx4, ↓sx5, ↓sx6, sx0, sx1, sx2, sx3, sx4, sx5, sx6, tf25, ev3_hold, sxo, sxc, sxp, sxq, sxr, sxs, sxl, sxm, simprocAttr]
  refine loop_constH (N2 ++ H5) (HImp.refl _ _) [(11, 12), (14, 14), (63, 82)] (fun j : Nat => [(11, I (A j)), (12, I (B j)), (63, I j)]) (fun j H6 => j ≤ P.length ∧ H6 = N2 ++ H5) (fun j => P.length - j) 0 ?_ ⟨Nat.zero_le _, rfl⟩ ?_
  · simp (config := { maxSteps := 4000000 }) only [↓sx0, ↓sx1, ↓sx2, ↓sx3, ↓sx4, ↓sx5, ↓sx6, sx0, sx1, sx2, sx3, sx4, sx5, sx6, tf25, ev3_hold, sxo, sxc, sxp, sxq, sxr, sxs, sxl, sxm, simprocAttr, hA0, hB0]
    try simp
  rintro j H6 g6 ⟨hj, rfl⟩
  by_cases hjn : j = P.length
  case neg =>
    have p7 : ((j : Int) < (P.length : Int)) = True := eq_true (by omega)
    have p8 : wr ((j : Int) + 1) = ((j + 1 : Nat) : Int) := (wrap_id (by omega)).trans (by omega)
    obtain ⟨i, hi⟩ : ∃ i, P[j]? = some i := ⟨_, List.getElem?_eq_getElem (by omega)⟩
    have hil := hPi i (List.mem_of_getElem? hi)
    obtain ⟨x, hx⟩ : ∃ x, l[i.toNat]? = some x := ⟨_, List.getElem?_eq_getElem (by omega)⟩
    have hxd : l.getD i.toNat (0, 0, 0) = x := by rw [List.getD_eq_getElem?_getD, hx]; rfl
    have hpx : ldc x = [I x.1, I x.2.1, I x.2.2] := rfl
    have hsA : wr (A j + x.1) = A (j + 1) := by
      have h1 := lowS_take (l := l) (f := fun x => x.1) hi
      rw [hA, hA, hxd] at h1
      have h2 := hAb (j + 1)
      rw [← h1]
      exact wrap_id (by omega)
    have hsB : wr (B j + x.2.2) = B (j + 1) := by
      have h1 := lowS_take (l := l) (f := fun x => x.2.2) hi
      rw [hB, hB, hxd] at h1
      have h2 := hBb (j + 1)
      rw [← h1]
      exact wrap_id (by omega)
    refine ⟨?_⟩
    simp (config := { maxSteps := 4000000 }) only [↓sx0, ↓sx1, ↓sx2, ↓sx3, ↓sx4, ↓sx5, ↓sx6, sx0, sx1, sx2, sx3, sx4, sx5, sx6, tf25, ev3_hold, sxo, sxc, sxp, sxq, sxr, sxs, sxl, sxm, simprocAttr, p7]
    refine amid (at_1 (hrP _ (fun h hh => List.mem_append_left _ hh)) i1_len hi rfl fun ad => ?_)
    simp (config := { maxSteps := 4000000 }) only [↓sx0, ↓sx1, ↓sx2, ↓sx3, ↓sx4, ↓sx5, ↓sx6, sx0, sx1, sx2, sx3, sx4, sx5, sx6, tf25, ev3_hold, sxo, sxc, sxp, sxq, sxr, sxs, sxl, sxm, simprocAttr]
    refine ⟨by omega, by omega, (at_f2 (k := i.toNat) (o1 := 0) (o2 := 0) (x := I x.1) (hr _) ldc_len hx rfl fun ad2 => ?_).2.2⟩
    simp (config := { maxSteps := 4000000 }) only [↓sx0, ↓sx1, ↓sx2, ↓sx3, ↓sx4, ↓sx5, ↓sx6, sx0, sx1, sx2, sx3, sx4, sx5, sx6, tf25, ev3_hold, sxo, sxc, sxp, sxq, sxr, sxs, sxl, sxm, simprocAttr, hsA]
    refine ⟨by omega, by omega, (at_f (k := i.toNat) (o := 2) (x := I x.2.2) (hr _) ldc_len hx rfl fun ad2 => ?_).2.2⟩
    simp (config := { maxSteps := 4000000 }) only [↓sx0, ↓sx1, ↓sx2, ↓sx3, ↓sx4, ↓sx5, ↓sx6, sx0, sx1, sx2, sx3, sx4, sx5, sx6, tf25, ev3_hold, sxo, sxc, sxp, sxq, sxr, sxs, sxl, sxm, simprocAttr, hsB, p8]
    exact ⟨j + 1, _, ⟨rfl, rfl, rfl⟩, HImp.refl _ _, ⟨by omega, rfl⟩, by omega⟩
  have p7 : ((j : Int) < (P.length : Int)) = False := eq_false (by omega)
  subst hjn
  have hkeep : Got (.slice ao L.length co) 3 1 i1 L (N2 ++ H5) := hG.mono fun h hh => List.mem_append_right _ hh
  have hnew : Got (.slice aP P.length cs) 3 1 i1 P (N2 ++ H5) := hG2.mono fun h hh => List.mem_append_left _ hh
  by_cases r1 : B P.length > st
  · have f1 : (B P.length > st) = True := eq_true r1
    refine ⟨?_⟩
    simp (config := { maxSteps := 4000000 }) only [↓sx0, ↓sx1, ↓sx2, ↓sx3, ↓sx4, ↓sx5, ↓sx6, sx0, sx1, sx2, sx3, sx4, sx5, sx6, tf25, ev3_hold, sxo, sxc, sxp, sxq, sxr, sxs, sxl, sxm, simprocAttr, p7, f1, q8]
    exact ⟨(s + 1, _, L, net), _, ⟨rfl, rfl, rfl⟩, HImp.refl _ _, ⟨by simp only []; omega, hkeep, hL10, hLi, hnet, hn0⟩, by simp only []; omega⟩
  have f1 : (B P.length > st) = False := eq_false r1
  by_cases r2 : A P.length < net
  · have f2 : (A P.length < net) = True := eq_true r2
    refine ⟨?_⟩
    simp (config := { maxSteps := 4000000 }) only [↓sx0, ↓sx1, ↓sx2, ↓sx3, ↓sx4, ↓sx5, ↓sx6, sx0, sx1, sx2, sx3, sx4, sx5, sx6, tf25, ev3_hold, sxo, sxc, sxp, sxq, sxr, sxs, sxl, sxm, simprocAttr, p7, f1, f2, q8]
    exact ⟨(s + 1, _, L, net), _, ⟨rfl, rfl, rfl⟩, HImp.refl _ _, ⟨by simp only []; omega, hkeep, hL10, hLi, hnet, hn0⟩, by simp only []; omega⟩
  have f2 : (A P.length < net) = False := eq_false r2
  have hnn : 0 ≤ A P.length := by omega
  by_cases r3 : A P.length > net
  · have f3 : (A P.length > net) = True := eq_true r3
    refine ⟨?_⟩
    simp (config := { maxSteps := 4000000 }) only [↓sx0, ↓sx1, ↓sx2, ↓sx3, ↓sx4, ↓sx5, ↓sx6, sx0, sx1, sx2, sx3, sx4, sx5, sx6, tf25, ev3_hold, sxo, sxc, sxp, sxq, sxr, sxs, sxl, sxm, simprocAttr, p7, f1, f2, f3, q8]
    exact ⟨(s + 1, _, P, A P.length), _, ⟨rfl, rfl, rfl⟩, HImp.refl _ _, ⟨by simp only []; omega, hnew, hPl, hPi, hAP, hnn⟩, by simp only []; omega⟩
  have f3 : (A P.length > net) = False := eq_false r3
  by_cases r4 : P.length < L.length
  · have f4 : ((P.length : Int) < (L.length : Int)) = True := eq_true (by omega)
    refine ⟨?_⟩
    simp (config := { maxSteps := 4000000 }) only [↓sx0, ↓sx1, ↓sx2, ↓sx3, ↓sx4, ↓sx5, ↓sx6, sx0, sx1, sx2, sx3, sx4, sx5, sx6, tf25, ev3_hold, sxo, sxc, sxp, sxq, sxr, sxs, sxl, sxm, simprocAttr, p7, f1, f2, f3, f4, q8]
    exact ⟨(s + 1, _, P, A P.length), _, ⟨rfl, rfl, rfl⟩, HImp.refl _ _, ⟨by simp only []; omega, hnew, hPl, hPi, hAP, hnn⟩, by simp only []; omega⟩
  have f4 : ((P.length : Int) < (L.length : Int)) = False := eq_false (by omega)
  by_cases r5 : P.length = L.length
  case neg =>
    have f5 : ((P.length : Int) = (L.length : Int)) = False := eq_false (by omega)
    refine ⟨?_⟩
    simp (config := { maxSteps := 4000000 }) only [↓sx0, ↓sx1, ↓sx2, ↓sx3, ↓sx4, ↓sx5, ↓sx6, sx0, sx1, sx2, sx3, sx4, sx5, sx6, tf25, ev3_hold, sxo, sxc, sxp, sxq, sxr, sxs, sxl, sxm, simprocAttr, p7, f1, f2, f3, f4, f5, q8]
    exact ⟨(s + 1, _, L, net), _, ⟨rfl, rfl, rfl⟩, HImp.refl _ _, ⟨by simp only []; omega, hkeep, hL10, hLi, hnet, hn0⟩, by simp only []; omega⟩
  have f5 : ((P.length : Int) = (L.length : Int)) = True := eq_true (by omega)
  refine ⟨?_⟩
  simp (config := { maxSteps := 4000000 }) only [↓sx0, ↓sx1, ↓sx2, ↓sx3, ↓sx4, ↓sx5, ↓sx6, sx0, sx1, sx2, sx3, sx4, sx5, sx6, tf25, ev3_hold, sxo, sxc, sxp, sxq, sxr, sxs, sxl, sxm, simprocAttr, p7, f1, f2, f3, f4, f5, dn]
  refine CallOb.pureH (fun w' hp => hcm _ w' (fun h hh => hh) hp) ?_
  rintro q N3 ⟨z, rfl⟩
  have hkeep3 : Got (.slice ao L.length co) 3 1 i1 L (N3 ++ (N2 ++ H5)) := hkeep.mono fun h hh => List.mem_append_right _ hh
  have hnew3 : Got (.slice aP P.length cs) 3 1 i1 P (N3 ++ (N2 ++ H5)) := hnew.mono fun h hh => List.mem_append_right _ hh
  by_cases r6 : z < 0
  · have f6 : (z < 0) = True := eq_true r6
    refine ⟨?_⟩
    simp (config := { maxSteps := 4000000 }) only [↓sx0, ↓sx1, ↓sx2, ↓sx3, ↓sx4, ↓sx5, ↓sx6, sx0, sx1, sx2, sx3, sx4, sx5, sx6, tf25, ev3_hold, sxo, sxc, sxp, sxq, sxr, sxs, sxl, sxm, simprocAttr, f6, q8]
    exact ⟨(s + 1, _, P, A P.length), _, ⟨rfl, rfl, rfl⟩, HImp.refl _ _, ⟨by simp only []; omega, hnew3, hPl, hPi, hAP, hnn⟩, by simp only []; omega⟩
  · have f6 : (z < 0) = False := eq_false r6
    refine ⟨?_⟩
    simp (config := { maxSteps := 4000000 }) only [↓sx0, ↓sx1, ↓sx2, ↓sx3, ↓sx4, ↓sx5, ↓sx6, sx0, sx1, sx2, sx3, sx4, sx5, sx6, tf25, ev3_hold, sxo, sxc, sxp, sxq, sxr, sxs, sxl, sxm, simprocAttr, f6, q8]
    exact ⟨(s + 1, _, L, net), _, ⟨rfl, rfl, rfl⟩, HImp.refl _ _, ⟨by simp only []; omega, hkeep3, hL10, hLi, hnet, hn0⟩, by simp only []; omega⟩
end Go.Proofs.YtnbogcpnpcbjgaaGreatDoor

