/- A part of a proof: the symbolic walk and what it shows of single functions. -/
import Derived.Test.YtcnjhgnlcnmagaaDoorSd2
set_option linter.all false
namespace Go.Proofs.YtcnjhgnlcnmagaaDoor.Tw
open Go.RowKit Go.SX
set_option maxRecDepth 4000
set_option maxHeartbeats 4000000
set_option linter.unusedSimpArgs false
set_option linter.unusedVariables false

def Tw.ok (u : Tw) : Prop := 1 ≤ u.dl ∧ u.dl ≤ u.dh ∧ u.dh ≤ 100 ∧ 1 ≤ u.len ∧ u.len ≤ 2000 ∧ 0 ≤ u.mass ∧ u.mass ≤ 20 ∧ 0 ≤ u.str ∧ u.str ≤ 1000000

theorem wrong_iff (u : Tw) : wrongB u = false ↔ u.ok := by
  unfold wrongB Tw.ok inB
  simp only [Bool.or_eq_false_iff, decide_eq_false_iff_not, Bool.not_eq_false', decide_eq_true_eq]
  omega

def okT (us : List Tw) : Prop := 1 ≤ us.length ∧ us.length ≤ 8 ∧ ∀ u ∈ us, u.ok

theorem train_iff (us : List Tw) : trainB us = true ↔ okT us := by
  unfold trainB okT
  simp only [Bool.and_eq_true, decide_eq_true_eq, Bool.not_eq_true', List.any_eq_false]
  constructor
  · rintro ⟨⟨h1, h2⟩, h3⟩
    exact ⟨h1, h2, fun u hu => (wrong_iff u).1 (by simpa using h3 u hu)⟩
  · rintro ⟨h1, h2, h3⟩
    exact ⟨⟨h1, h2⟩, fun u hu => by simp [(wrong_iff u).2 (h3 u hu)]⟩

/-- The least and the greatest drags from a unit on. -/
def loS (us : List Tw) (i : Nat) : Int := ((us.drop i).map Tw.dl).sum

def hiS (us : List Tw) (i : Nat) : Int := ((us.drop i).map Tw.dh).sum

theorem sum_bd (f : Tw → Int) (hf : ∀ u, u.ok → 0 ≤ f u ∧ f u ≤ 100) (us : List Tw) (h : ∀ u ∈ us, u.ok) : 0 ≤ (us.map f).sum ∧ (us.map f).sum ≤ 100 * us.length := by
  induction us with
  | nil => simp
  | cons u us ih =>
    have h1 := ih fun v hv => h v (List.mem_cons_of_mem _ hv)
    have h2 := hf u (h u List.mem_cons_self)
    rw [List.map_cons, List.sum_cons, List.length_cons]
    omega

theorem loS_bd {us : List Tw} (h : okT us) (i : Nat) : 0 ≤ loS us i ∧ loS us i ≤ 800 := by
  have := sum_bd Tw.dl (fun u hu => by unfold Tw.ok at hu; omega) (us.drop i) fun u hu => h.2.2 u (List.mem_of_mem_drop hu)
  have h8 := h.2.1
  simp only [List.length_drop] at this
  unfold loS
  omega

theorem hiS_bd {us : List Tw} (h : okT us) (i : Nat) : 0 ≤ hiS us i ∧ hiS us i ≤ 800 := by
  have := sum_bd Tw.dh (fun u hu => by unfold Tw.ok at hu; omega) (us.drop i) fun u hu => h.2.2 u (List.mem_of_mem_drop hu)
  have h8 := h.2.1
  simp only [List.length_drop] at this
  unfold hiS
  omega

theorem loS_cons {us : List Tw} {i : Nat} (h : i < us.length) : loS us i = us[i].dl + loS us (i + 1) := by
  unfold loS
  rw [List.drop_eq_getElem_cons h, List.map_cons, List.sum_cons]

theorem hiS_cons {us : List Tw} {i : Nat} (h : i < us.length) : hiS us i = us[i].dh + hiS us (i + 1) := by
  unfold hiS
  rw [List.drop_eq_getElem_cons h, List.map_cons, List.sum_cons]

theorem loS_end (us : List Tw) : loS us us.length = 0 := by simp [loS]

theorem hiS_end (us : List Tw) : hiS us us.length = 0 := by simp [hiS]

def backArg (us : List Tw) : Nat → List Value → List HO → Prop := fun k vs F => ∃ u, us[us.length - 1 - k]? = some u ∧ vs = [I ((us.length - 1 - k : Nat) : Int), .agg (twc u).toArray] ∧ F = []

theorem back_it (w : World) (b : Nat) (v : Value) (us : List Tw) (hb : w.cell? ⟨b, 0, none⟩ = some v) (hs : Sl w v 5 (twcs us)) (hl : us.length ≤ 1000000) :
    Iter Tryd.prog 119 [] [.pointer (some ⟨b, 0, none⟩)] us.length (backArg us) (fun _ => False) (fun x => x = b ∨ rsl w v x) w := by
  obtain ⟨a, n, c, rfl⟩ := hs.shape
  have hn := hs.le (f := twc) twc_len (by omega)
  refine walkIterR _ [] [] (fun _ _ => det0_ok _ _) Tryd.func119 rfl Tryd.ntmps119 res119 (by kernel_rfl) fun l J C R hRs hH => ?_
  have hr := hs.rdR (X := fun b => C b ∨ False) (fun b hb => hRs b (.inr hb))
  have hbX := hRs b (.inl rfl)
  simp (config := { maxSteps := 4000000 }) only [↓sx0, ↓sx1, ↓sx2, ↓sx3, ↓sx4, ↓sx5, ↓sx6, sx0, sx1, sx2, sx3, sx4, sx5, sx6, tf119, ev3_hold, sxo, sxc, sxp, sxq, sxr, sxs, sxl, sxm, Int.reduceBEq, Int.reduceBNe, Int.reduceLT, Int.reduceLE, Int.reduceEq, Int.reduceGT, Int.reduceGE, Int.reduceToNat, ↓reduceIte, List.reduceReplicate, Nat.reduceAdd, Nat.reduceSub, Nat.reduceMul, Nat.reduceLT, Nat.reduceLeDiff, Nat.reduceBEq, Nat.reduceEqDiff]
  refine ld_old hb hbX ?_
  have e0 : wr ((n : Int) - 1) = n - 1 := wrap_id (by omega)
  simp (config := { maxSteps := 4000000 }) only [↓sx0, ↓sx1, ↓sx2, ↓sx3, ↓sx4, ↓sx5, ↓sx6, sx0, sx1, sx2, sx3, sx4, sx5, sx6, tf119, ev3_hold, sxo, sxc, sxp, sxq, sxr, sxs, sxl, sxm, Int.reduceBEq, Int.reduceBNe, Int.reduceLT, Int.reduceLE, Int.reduceEq, Int.reduceGT, Int.reduceGE, Int.reduceToNat, ↓reduceIte, List.reduceReplicate, Nat.reduceAdd, Nat.reduceSub, Nat.reduceMul, Nat.reduceLT, Nat.reduceLeDiff, Nat.reduceBEq, Nat.reduceEqDiff, e0]
  refine loop_const [(3, 3), (7, 18)] (fun k : Nat => [(3, I ((n : Int) - 1 - k))]) (fun k H1 => k ≤ n ∧ ∃ C R, H1 = [consu J (some k) C R]) (fun k => n - k) 0 ?_ ⟨Nat.zero_le _, C, R, rfl⟩ ?_
  · simp (config := { maxSteps := 4000000 }) only [↓sx0, ↓sx1, ↓sx2, ↓sx3, ↓sx4, ↓sx5, ↓sx6, sx0, sx1, sx2, sx3, sx4, sx5, sx6, tf119, ev3_hold, sxo, sxc, sxp, sxq, sxr, sxs, sxl, sxm, Int.reduceBEq, Int.reduceBNe, Int.reduceLT, Int.reduceLE, Int.reduceEq, Int.reduceGT, Int.reduceGE, Int.reduceToNat, ↓reduceIte, List.reduceReplicate, Nat.reduceAdd, Nat.reduceSub, Nat.reduceMul, Nat.reduceLT, Nat.reduceLeDiff, Nat.reduceBEq, Nat.reduceEqDiff]
    simp
  · rintro k H1 g ⟨hk, C1, R1, rfl⟩
    simp (config := { maxSteps := 4000000 }) only [↓sx0, ↓sx1, ↓sx2, ↓sx3, ↓sx4, ↓sx5, ↓sx6, sx0, sx1, sx2, sx3, sx4, sx5, sx6, tf119, ev3_hold, sxo, sxc, sxp, sxq, sxr, sxs, sxl, sxm, Int.reduceBEq, Int.reduceBNe, Int.reduceLT, Int.reduceLE, Int.reduceEq, Int.reduceGT, Int.reduceGE, Int.reduceToNat, ↓reduceIte, List.reduceReplicate, Nat.reduceAdd, Nat.reduceSub, Nat.reduceMul, Nat.reduceLT, Nat.reduceLeDiff, Nat.reduceBEq, Nat.reduceEqDiff]
    refine ⟨fun h1 => ?_, fun h1 => ?_⟩
    · refine ld_old hb hbX ?_
      simp (config := { maxSteps := 4000000 }) only [↓sx0, ↓sx1, ↓sx2, ↓sx3, ↓sx4, ↓sx5, ↓sx6, sx0, sx1, sx2, sx3, sx4, sx5, sx6, tf119, ev3_hold, sxo, sxc, sxp, sxq, sxr, sxs, sxl, sxm, Int.reduceBEq, Int.reduceBNe, Int.reduceLT, Int.reduceLE, Int.reduceEq, Int.reduceGT, Int.reduceGE, Int.reduceToNat, ↓reduceIte, List.reduceReplicate, Nat.reduceAdd, Nat.reduceSub, Nat.reduceMul, Nat.reduceLT, Nat.reduceLeDiff, Nat.reduceBEq, Nat.reduceEqDiff]
      have hkl : n - 1 - k < us.length := by omega
      have hk1 : k < us.length := by omega
      have e1 : (n : Int) - 1 - k = ((n - 1 - k : Nat) : Int) := by omega
      rw [e1]
      refine at_n (hr _) twc_len (by omega) (List.getElem?_eq_getElem hkl) fun ad => ?_
      simp (config := { maxSteps := 4000000 }) only [↓sx0, ↓sx1, ↓sx2, ↓sx3, ↓sx4, ↓sx5, ↓sx6, sx0, sx1, sx2, sx3, sx4, sx5, sx6, tf119, ev3_hold, sxo, sxc, sxp, sxq, sxr, sxs, sxl, sxm, Int.reduceBEq, Int.reduceBNe, Int.reduceLT, Int.reduceLE, Int.reduceEq, Int.reduceGT, Int.reduceGE, Int.reduceToNat, ↓reduceIte, List.reduceReplicate, Nat.reduceAdd, Nat.reduceSub, Nat.reduceMul, Nat.reduceLT, Nat.reduceLeDiff, Nat.reduceBEq, Nat.reduceEqDiff]
      refine CallOb.yield hH (k := k) hk1 (F := []) (B := []) (HImp.refl _ _) (List.Sublist.refl _) ⟨us[n - 1 - k], by rw [hn]; exact List.getElem?_eq_getElem hkl, by rw [hn], rfl⟩ (by simp) (fun _ _ b ⟨x, hx, _⟩ => by cases hx) fun t C2 R2 => ?_
      have e2 : wr (((n - 1 - k : Nat) : Int) - 1) = (n : Int) - 1 - ((k + 1 : Nat) : Int) := (wrap_id (by omega)).trans (by omega)
      cases t with
      | false =>
        simp (config := { maxSteps := 4000000 }) only [↓sx0, ↓sx1, ↓sx2, ↓sx3, ↓sx4, ↓sx5, ↓sx6, sx0, sx1, sx2, sx3, sx4, sx5, sx6, tf119, ev3_hold, sxo, sxc, sxp, sxq, sxr, sxs, sxl, sxm, Int.reduceBEq, Int.reduceBNe, Int.reduceLT, Int.reduceLE, Int.reduceEq, Int.reduceGT, Int.reduceGE, Int.reduceToNat, ↓reduceIte, List.reduceReplicate, Nat.reduceAdd, Nat.reduceSub, Nat.reduceMul, Nat.reduceLT, Nat.reduceLeDiff, Nat.reduceBEq, Nat.reduceEqDiff]
        exact ⟨rfl, none, C2, R2, List.mem_cons_self, .inr rfl⟩
      | true =>
        simp (config := { maxSteps := 4000000 }) only [↓sx0, ↓sx1, ↓sx2, ↓sx3, ↓sx4, ↓sx5, ↓sx6, sx0, sx1, sx2, sx3, sx4, sx5, sx6, tf119, ev3_hold, sxo, sxc, sxp, sxq, sxr, sxs, sxl, sxm, Int.reduceBEq, Int.reduceBNe, Int.reduceLT, Int.reduceLE, Int.reduceEq, Int.reduceGT, Int.reduceGE, Int.reduceToNat, ↓reduceIte, List.reduceReplicate, Nat.reduceAdd, Nat.reduceSub, Nat.reduceMul, Nat.reduceLT, Nat.reduceLeDiff, Nat.reduceBEq, Nat.reduceEqDiff, e2]
        exact ⟨k + 1, _, rfl, HImp.refl _ _, ⟨by omega, C2, R2, rfl⟩, by omega⟩
    · exact ⟨rfl, some k, C1, R1, List.mem_cons_self, .inl (congrArg some (by omega))⟩

theorem back_fn (w : World) (a : Option Addr) (n c : Nat) : SX.Fn Tryd.prog 114 [.slice a n c] w (fun _ => False) fun r N => ∃ b, r = .func (.func 119) #[] #[.pointer (some ⟨b, 0, none⟩)] ∧ N = [.cells b 114 [.slice a n c]] := by
  refine walk [1] [] (det0_ok _ _) Tryd.func114 rfl Tryd.ntmps114 res114 (by kernel_rfl) no_facts ?_
  simp (config := { maxSteps := 4000000 }) only [↓sx0, ↓sx1, ↓sx2, ↓sx3, ↓sx4, ↓sx5, ↓sx6, sx0, sx1, sx2, sx3, sx4, sx5, sx6, tf114, ev3_hold, sxo, sxc, sxp, sxq, sxr, sxs, sxl, sxm, Int.reduceBEq, Int.reduceBNe, Int.reduceLT, Int.reduceLE, Int.reduceEq, Int.reduceGT, Int.reduceGE, Int.reduceToNat, ↓reduceIte, List.reduceReplicate, Nat.reduceAdd, Nat.reduceSub, Nat.reduceMul, Nat.reduceLT, Nat.reduceLeDiff, Nat.reduceBEq, Nat.reduceEqDiff]
  exact fun b => ⟨b, rfl, rfl⟩

def dragArg (us : List Tw) : Nat → List Value → List HO → Prop := fun k vs F => vs = [I ((us.length - 1 - k : Nat) : Int), .agg #[I (loS us (us.length - 1 - k)), I (hiS us (us.length - 1 - k))]] ∧ F = []

theorem drags_it (w : World) (v : Value) (us : List Tw) (hs : Sl w v 5 (twcs us)) (hok : okT us) : Iter Tryd.prog 112 [.agg #[v]] [] us.length (dragArg us) (fun _ => False) (rsl w v) w := by
  obtain ⟨a, n, c, rfl⟩ := hs.shape
  have hn := hs.le (f := twc) twc_len (by omega)
  have h8 := hok.2.1
  refine walkIterR _ [] [] (fun _ _ => det0_ok _ _) Tryd.func112 rfl Tryd.ntmps112 res112 (by kernel_rfl) fun l J C R hRs hH => ?_
  simp (config := { maxSteps := 4000000 }) only [↓sx0, ↓sx1, ↓sx2, ↓sx3, ↓sx4, ↓sx5, ↓sx6, sx0, sx1, sx2, sx3, sx4, sx5, sx6, tf112, ev3_hold, sxo, sxc, sxp, sxq, sxr, sxs, sxl, sxm, Int.reduceBEq, Int.reduceBNe, Int.reduceLT, Int.reduceLE, Int.reduceEq, Int.reduceGT, Int.reduceGE, Int.reduceToNat, ↓reduceIte, List.reduceReplicate, Nat.reduceAdd, Nat.reduceSub, Nat.reduceMul, Nat.reduceLT, Nat.reduceLeDiff, Nat.reduceBEq, Nat.reduceEqDiff, det0]
  refine CallOb.pure (fun w' hp => back_fn w' a n c) ?_
  rintro r N ⟨b, rfl, rfl⟩
  simp (config := { maxSteps := 4000000 }) only [↓sx0, ↓sx1, ↓sx2, ↓sx3, ↓sx4, ↓sx5, ↓sx6, sx0, sx1, sx2, sx3, sx4, sx5, sx6, tf112, ev3_hold, sxo, sxc, sxp, sxq, sxr, sxs, sxl, sxm, Int.reduceBEq, Int.reduceBNe, Int.reduceLT, Int.reduceLE, Int.reduceEq, Int.reduceGT, Int.reduceGE, Int.reduceToNat, ↓reduceIte, List.reduceReplicate, Nat.reduceAdd, Nat.reduceSub, Nat.reduceMul, Nat.reduceLT, Nat.reduceLeDiff, Nat.reduceBEq, Nat.reduceEqDiff]
  refine range_introR Tryd.call119 n (backArg us) [.cells b 114 [.slice a n c]] [consu J (some 0) C R] (fun k L' H' => ∃ C R, H' = [consu J (some k) C R] ∧ L' = [(142, [.slice a n c]), (168, [.func (.yield l) #[] #[]]), (37, [I (loS us (n - k)), I (hiS us (n - k))])]) (fun x => x = b ∨ rsl w (.slice a n c) x)
    (HImp.refl _ _) (fun x hx => ?_) (fun w' hp => ?_) ⟨C, R, rfl, ?_⟩ ?_ ?_ ?_
  · rcases hx with rfl | hx
    · exact .inr ⟨_, List.mem_singleton.2 rfl, rfl⟩
    · exact .inl ⟨hx.2, hRs x hx⟩
  · have hsz := hp.ext.size
    have := back_it w' b (.slice a n c) us (cells_hp List.mem_cons_self hp) (hs.hpR hRs hp) (by omega)
    rw [hn] at this
    exact this.mono fun x hx => hx.imp id (hs.rsl (by rw [twcs_cat, cat_len twc_len]; have := hok.1; omega))
  · rw [← hn, Nat.sub_zero, loS_end, hiS_end]
  · rintro k vs F ⟨u, _, rfl, _⟩
    rfl
  · rintro k vs F L' H' hk ⟨u, hu, rfl, rfl⟩ - ⟨C1, R1, rfl, rfl⟩
    simp (config := { maxSteps := 4000000 }) only [↓sx0, ↓sx1, ↓sx2, ↓sx3, ↓sx4, ↓sx5, ↓sx6, sx0, sx1, sx2, sx3, sx4, sx5, sx6, tf112, ev3_hold, sxo, sxc, sxp, sxq, sxr, sxs, sxl, sxm, Int.reduceBEq, Int.reduceBNe, Int.reduceLT, Int.reduceLE, Int.reduceEq, Int.reduceGT, Int.reduceGE, Int.reduceToNat, ↓reduceIte, List.reduceReplicate, Nat.reduceAdd, Nat.reduceSub, Nat.reduceMul, Nat.reduceLT, Nat.reduceLeDiff, Nat.reduceBEq, Nat.reduceEqDiff, twc]
    have hk1 : k < us.length := by omega
    have hkl : us.length - 1 - k < us.length := by omega
    have hue : u = us[us.length - 1 - k] := by rw [List.getElem?_eq_getElem hkl] at hu; exact (Option.some.inj hu).symm
    have el : loS us (us.length - 1 - k) = u.dl + loS us (n - k) := by rw [loS_cons hkl, ← hue, show us.length - 1 - k + 1 = n - k by omega]
    have eh : hiS us (us.length - 1 - k) = u.dh + hiS us (n - k) := by rw [hiS_cons hkl, ← hue, show us.length - 1 - k + 1 = n - k by omega]
    have b1 := loS_bd hok (us.length - 1 - k)
    have b2 := hiS_bd hok (us.length - 1 - k)
    have e1 : IntKind.i64.wrap (loS us (n - k) + u.dl) = loS us (us.length - 1 - k) := (wrap_id (by omega)).trans (by omega)
    have e2 : IntKind.i64.wrap (hiS us (n - k) + u.dh) = hiS us (us.length - 1 - k) := (wrap_id (by omega)).trans (by omega)
    rw [e1, e2]
    refine CallOb.yield hH (k := k) hk1 (F := []) (B := []) (HImp.refl _ _) (List.Sublist.refl _) ⟨rfl, rfl⟩ (by simp) (fun _ _ b ⟨x, hx, _⟩ => by cases hx) fun t C2 R2 => ?_
    cases t with
    | false =>
      simp (config := { maxSteps := 4000000 }) only [↓sx0, ↓sx1, ↓sx2, ↓sx3, ↓sx4, ↓sx5, ↓sx6, sx0, sx1, sx2, sx3, sx4, sx5, sx6, tf112, ev3_hold, sxo, sxc, sxp, sxq, sxr, sxs, sxl, sxm, Int.reduceBEq, Int.reduceBNe, Int.reduceLT, Int.reduceLE, Int.reduceEq, Int.reduceGT, Int.reduceGE, Int.reduceToNat, ↓reduceIte, List.reduceReplicate, Nat.reduceAdd, Nat.reduceSub, Nat.reduceMul, Nat.reduceLT, Nat.reduceLeDiff, Nat.reduceBEq, Nat.reduceEqDiff]
      exact ⟨_, HImp.refl _ _, rfl, none, C2, R2, List.mem_cons_self, .inr rfl⟩
    | true =>
      simp (config := { maxSteps := 4000000 }) only [↓sx0, ↓sx1, ↓sx2, ↓sx3, ↓sx4, ↓sx5, ↓sx6, sx0, sx1, sx2, sx3, sx4, sx5, sx6, tf112, ev3_hold, sxo, sxc, sxp, sxq, sxr, sxs, sxl, sxm, Int.reduceBEq, Int.reduceBNe, Int.reduceLT, Int.reduceLE, Int.reduceEq, Int.reduceGT, Int.reduceGE, Int.reduceToNat, ↓reduceIte, List.reduceReplicate, Nat.reduceAdd, Nat.reduceSub, Nat.reduceMul, Nat.reduceLT, Nat.reduceLeDiff, Nat.reduceBEq, Nat.reduceEqDiff]
      exact ⟨_, HImp.refl _ _, C2, R2, rfl, by rw [show n - (k + 1) = us.length - 1 - k by omega]⟩
  · rintro L' H' - ⟨C1, R1, rfl, rfl⟩
    simp (config := { maxSteps := 4000000 }) only [↓sx0, ↓sx1, ↓sx2, ↓sx3, ↓sx4, ↓sx5, ↓sx6, sx0, sx1, sx2, sx3, sx4, sx5, sx6, tf112, ev3_hold, sxo, sxc, sxp, sxq, sxr, sxs, sxl, sxm, Int.reduceBEq, Int.reduceBNe, Int.reduceLT, Int.reduceLE, Int.reduceEq, Int.reduceGT, Int.reduceGE, Int.reduceToNat, ↓reduceIte, List.reduceReplicate, Nat.reduceAdd, Nat.reduceSub, Nat.reduceMul, Nat.reduceLT, Nat.reduceLeDiff, Nat.reduceBEq, Nat.reduceEqDiff]
    exact ⟨rfl, _, C1, R1, List.mem_cons_self, .inl (by rw [hn])⟩

abbrev bV (u : Tw) (v d : Int) := boundsV u.len u.mass u.str v d

def sureL (v d : Int) : List Tw → Bool
  | [] => true
  | u :: r => sureL v d r && ((bV u v d).2 && (decide ((bV u v d).1.1 ≤ loS (u :: r) 0) && decide (hiS (u :: r) 0 ≤ (bV u v d).1.2)))

def canStep (v d : Int) (u : Tw) (c : Int × Int) : Option (Int × Int) :=
  if (bV u v d).2 = true ∧ ¬ max (wr (c.1 + u.dl)) (bV u v d).1.1 > min (wr (c.2 + u.dh)) (bV u v d).1.2 then some (max (wr (c.1 + u.dl)) (bV u v d).1.1, min (wr (c.2 + u.dh)) (bV u v d).1.2) else none

def canL (v d : Int) : List Tw → Option (Int × Int)
  | [] => some (0, 0)
  | u :: r => (canL v d r).bind (canStep v d u)

theorem bounds_pre {u : Tw} {v d : Int} (hv : 1 ≤ v ∧ v ≤ 20) (hd : 0 ≤ d ∧ d ≤ 1000) : wr (v * v) ≠ 0 ∧ (u.mass > 0 → d ≠ 0 → wr (wr (wr (8 * v) * v) * d) ≠ 0) := by
  have e1 : 1 ≤ v * v := by have := Int.mul_le_mul hv.1 hv.1 (by omega) (by omega); omega
  have e2 : v * v ≤ 400 := by have := Int.mul_le_mul hv.2 hv.2 (by omega) (by omega); omega
  have w1 : wr (v * v) = v * v := wrap_id (by omega)
  have w2 : wr (8 * v) = 8 * v := wrap_id (by omega)
  have w3 : wr (8 * v * v) = 8 * (v * v) := (wrap_id (by rw [Int.mul_assoc]; omega)).trans (Int.mul_assoc _ _ _)
  refine ⟨by omega, fun _ hd0 => ?_⟩
  rw [w2, w3]
  have e3 : 1 ≤ d := by omega
  have e4 : 8 ≤ 8 * (v * v) * d := by have := Int.mul_le_mul (show 8 ≤ 8 * (v * v) by omega) e3 (by omega) (by omega); omega
  have e5 : 8 * (v * v) * d ≤ 3200000 := by have := Int.mul_le_mul (show 8 * (v * v) ≤ 3200 by omega) hd.2 (by omega) (by omega); omega
  have w4 : wr (8 * (v * v) * d) = 8 * (v * v) * d := wrap_id (by omega)
  omega

theorem sureL_drop {v d : Int} {us : List Tw} {i : Nat} (h : i < us.length) : sureL v d (us.drop i) = (sureL v d (us.drop (i + 1)) && ((bV us[i] v d).2 && (decide ((bV us[i] v d).1.1 ≤ loS us i) && decide (hiS us i ≤ (bV us[i] v d).1.2)))) := by
  have e : us.drop i = us[i] :: us.drop (i + 1) := List.drop_eq_getElem_cons h
  have el : loS (us[i] :: us.drop (i + 1)) 0 = loS us i := by rw [← e]; simp [loS]
  have eh : hiS (us[i] :: us.drop (i + 1)) 0 = hiS us i := by rw [← e]; simp [hiS]
  rw [e, sureL, el, eh]

theorem canL_drop {v d : Int} {us : List Tw} {i : Nat} (h : i < us.length) : canL v d (us.drop i) = (canL v d (us.drop (i + 1))).bind (canStep v d us[i]) := by
  rw [List.drop_eq_getElem_cons h, canL]

theorem canL_none {v d : Int} {us : List Tw} {i : Nat} (h : canL v d (us.drop i) = none) : canL v d us = none := by
  induction i with
  | zero => simpa using h
  | succ i ih =>
    refine ih ?_
    by_cases hi : i < us.length
    · rw [canL_drop hi, h]
      rfl
    · rw [List.drop_of_length_le (by omega)] at h ⊢
      exact h

theorem tows_fn (w : World) (s : Value) (us : List Tw) (v d : Int) (hs : Sl w s 5 (twcs us)) (hok : okT us) (hv : 1 ≤ v ∧ v ≤ 20) (hd : 0 ≤ d ∧ d ≤ 1000) :
    SX.Fn Tryd.prog 104 [.agg #[s], I v, I d] w (fun _ => False) fun r N => r = .tuple #[.bool (sureL v d us), .bool (canL v d us).isSome] := by
  obtain ⟨a, n, c, rfl⟩ := hs.shape
  have hn := hs.le (f := twc) twc_len (by omega)
  have h8 := hok.2.1
  have hr := hs.rd0
  have hD := detF_ok (X := fun _ => False) hs (fun _ _ => id)
  refine walk [] [(5, (ones [0, 1, 2, 3, 4, 5, 6, 7, 8] (.alt 9 (ones [10, 11, 12, 13, 14, 15] .fin) (.alt 13 (ones [9, 10, 11, 12, 14, 15] .fin) .no)))), (11, (ones [0, 1, 2, 3, 4, 5, 6, 7, 8] (.alt 9 (ones [10, 11, 12, 13, 14, 15] .fin) (.alt 13 (ones [9, 10, 11, 12, 14, 15] .fin) .no))))] hD Tryd.func104 rfl Tryd.ntmps104 res104 (by kernel_rfl) no_facts ?_
  simp (config := { maxSteps := 4000000 }) only [↓sx0, ↓sx1, ↓sx2, ↓sx3, ↓sx4, ↓sx5, ↓sx6, sx0, sx1, sx2, sx3, sx4, sx5, sx6, tf104, ev3_hold, sxo, sxc, sxp, sxq, sxr, sxs, sxl, sxm, Int.reduceBEq, Int.reduceBNe, Int.reduceLT, Int.reduceLE, Int.reduceEq, Int.reduceGT, Int.reduceGE, Int.reduceToNat, ↓reduceIte, List.reduceReplicate, Nat.reduceAdd, Nat.reduceSub, Nat.reduceMul, Nat.reduceLT, Nat.reduceLeDiff, Nat.reduceBEq, Nat.reduceEqDiff]
  refine range_introR Tryd.call112 n (dragArg us) [] [] (fun k L' H' => H' = [] ∧ L' = [(142, [.slice a n c]), (3, [I v]), (3, [I d]), (4, [.bool (sureL v d (us.drop (n - k)))]), (4, [.bool false])]) (rsl w (.slice a n c))
    (HImp.refl _ _) (fun x hx => .inl ⟨hx.2, id⟩) (fun w' hp => ?_) ⟨rfl, ?_⟩ ?_ ?_ ?_
  · have := drags_it w' (.slice a n c) us (hs.hpR (fun _ _ => id) hp) hok
    rw [hn] at this
    exact this.mono fun x hx => hs.rsl (by rw [twcs_cat, cat_len twc_len]; have := hok.1; omega) hx
  · rw [Nat.sub_zero, List.drop_of_length_le (by omega)]
    rfl
  · rintro k vs F ⟨rfl, _⟩
    rfl
  · rintro k vs F L' H' hk ⟨rfl, rfl⟩ - ⟨rfl, rfl⟩
    have hkl : us.length - 1 - k < us.length := by omega
    have hb := bounds_pre (u := us[us.length - 1 - k]) hv hd
    have hdet := detF_bounds us (.slice a n c) (a := us[us.length - 1 - k].len) (c := us[us.length - 1 - k].str) hb.1 hb.2
    have hsl := sureL_drop (v := v) (d := d) hkl
    rw [show us.length - 1 - k + 1 = n - k by omega] at hsl
    have hsl' : sureL v d (us.drop (n - (k + 1))) = sureL v d (us.drop (us.length - 1 - k)) := by rw [show n - (k + 1) = us.length - 1 - k by omega]
    simp (config := { maxSteps := 4000000 }) only [↓sx0, ↓sx1, ↓sx2, ↓sx3, ↓sx4, ↓sx5, ↓sx6, sx0, sx1, sx2, sx3, sx4, sx5, sx6, tf104, ev3_hold, sxo, sxc, sxp, sxq, sxr, sxs, sxl, sxm, Int.reduceBEq, Int.reduceBNe, Int.reduceLT, Int.reduceLE, Int.reduceEq, Int.reduceGT, Int.reduceGE, Int.reduceToNat, ↓reduceIte, List.reduceReplicate, Nat.reduceAdd, Nat.reduceSub, Nat.reduceMul, Nat.reduceLT, Nat.reduceLeDiff, Nat.reduceBEq, Nat.reduceEqDiff]
    refine at_p [I us[us.length - 1 - k].len, I us[us.length - 1 - k].mass, I us[us.length - 1 - k].str] (hr _) twc_len (List.getElem?_eq_getElem hkl) rfl rfl (by omega) fun ad => ?_
    simp (config := { maxSteps := 4000000 }) only [↓sx0, ↓sx1, ↓sx2, ↓sx3, ↓sx4, ↓sx5, ↓sx6, sx0, sx1, sx2, sx3, sx4, sx5, sx6, tf104, ev3_hold, sxo, sxc, sxp, sxq, sxr, sxs, sxl, sxm, Int.reduceBEq, Int.reduceBNe, Int.reduceLT, Int.reduceLE, Int.reduceEq, Int.reduceGT, Int.reduceGE, Int.reduceToNat, ↓reduceIte, List.reduceReplicate, Nat.reduceAdd, Nat.reduceSub, Nat.reduceMul, Nat.reduceLT, Nat.reduceLeDiff, Nat.reduceBEq, Nat.reduceEqDiff, hdet]
    refine ⟨fun h1 => ⟨fun h2 => ⟨fun h3 => ⟨_, HImp.refl _ _, rfl, ?_⟩, fun h3 => ⟨_, HImp.refl _ _, rfl, ?_⟩⟩, fun h2 => ⟨_, HImp.refl _ _, rfl, ?_⟩⟩, fun h1 => ⟨_, HImp.refl _ _, rfl, ?_⟩⟩
    · rw [hsl', hsl]
      simp [h1, h2, h3]
    · rw [hsl', hsl]
      simp [h1, h2, h3]
    · rw [hsl', hsl]
      simp [h1, h2]
    · rw [hsl', hsl]
      simp [h1]
  · rintro L' H' - ⟨rfl, rfl⟩
    rw [Nat.sub_self, List.drop_zero]
    have hd2 : ∀ xs, detF (.slice a n c) us 114 xs = none := fun _ => rfl
    simp (config := { maxSteps := 4000000 }) only [↓sx0, ↓sx1, ↓sx2, ↓sx3, ↓sx4, ↓sx5, ↓sx6, sx0, sx1, sx2, sx3, sx4, sx5, sx6, tf104, ev3_hold, sxo, sxc, sxp, sxq, sxr, sxs, sxl, sxm, Int.reduceBEq, Int.reduceBNe, Int.reduceLT, Int.reduceLE, Int.reduceEq, Int.reduceGT, Int.reduceGE, Int.reduceToNat, ↓reduceIte, List.reduceReplicate, Nat.reduceAdd, Nat.reduceSub, Nat.reduceMul, Nat.reduceLT, Nat.reduceLeDiff, Nat.reduceBEq, Nat.reduceEqDiff, hd2]
    refine CallOb.pure (fun w' hp => back_fn w' a n c) ?_
    rintro r N ⟨b, rfl, rfl⟩
    simp (config := { maxSteps := 4000000 }) only [↓sx0, ↓sx1, ↓sx2, ↓sx3, ↓sx4, ↓sx5, ↓sx6, sx0, sx1, sx2, sx3, sx4, sx5, sx6, tf104, ev3_hold, sxo, sxc, sxp, sxq, sxr, sxs, sxl, sxm, Int.reduceBEq, Int.reduceBNe, Int.reduceLT, Int.reduceLE, Int.reduceEq, Int.reduceGT, Int.reduceGE, Int.reduceToNat, ↓reduceIte, List.reduceReplicate, Nat.reduceAdd, Nat.reduceSub, Nat.reduceMul, Nat.reduceLT, Nat.reduceLeDiff, Nat.reduceBEq, Nat.reduceEqDiff]
    refine range_introR Tryd.call119 n (backArg us) [.cells b 114 [.slice a n c]] [] (fun k L' H' => H' = [] ∧ ∃ e : Int × Int, canL v d (us.drop (n - k)) = some e ∧ L' = [(142, [.slice a n c]), (3, [I v]), (3, [I d]), (4, [.bool (sureL v d us)]), (4, [.bool false]), (37, [I e.1, I e.2])]) (fun x => x = b ∨ rsl w (.slice a n c) x)
      (HImp.refl _ _) (fun x hx => ?_) (fun w' hp => ?_) ⟨rfl, (0, 0), ?_, rfl⟩ ?_ ?_ ?_
    · rcases hx with rfl | hx
      · exact .inr ⟨_, List.mem_singleton.2 rfl, rfl⟩
      · exact .inl ⟨hx.2, id⟩
    · have := back_it w' b (.slice a n c) us (cells_hp List.mem_cons_self hp) (hs.hpR (fun _ _ => id) hp) (by omega)
      rw [hn] at this
      exact this.mono fun x hx => hx.imp id (hs.rsl (by rw [twcs_cat, cat_len twc_len]; have := hok.1; omega))
    · rw [Nat.sub_zero, List.drop_of_length_le (by omega)]
      rfl
    · rintro k vs F ⟨u, _, rfl, _⟩
      rfl
    · rintro k vs F L' H' hk ⟨u, hu, rfl, rfl⟩ - ⟨rfl, e, he, rfl⟩
      have hkl : us.length - 1 - k < us.length := by omega
      have hue : u = us[us.length - 1 - k] := by rw [List.getElem?_eq_getElem hkl] at hu; exact (Option.some.inj hu).symm
      have hb := bounds_pre (u := u) hv hd
      have hdet := detF_bounds us (.slice a n c) (a := u.len) (c := u.str) hb.1 hb.2
      have hcl := canL_drop (v := v) (d := d) hkl
      rw [show us.length - 1 - k + 1 = n - k by omega, he, ← hue] at hcl
      have hcl' : n - (k + 1) = us.length - 1 - k := by omega
      simp only [Option.bind] at hcl
      simp (config := { maxSteps := 4000000 }) only [↓sx0, ↓sx1, ↓sx2, ↓sx3, ↓sx4, ↓sx5, ↓sx6, sx0, sx1, sx2, sx3, sx4, sx5, sx6, tf104, ev3_hold, sxo, sxc, sxp, sxq, sxr, sxs, sxl, sxm, Int.reduceBEq, Int.reduceBNe, Int.reduceLT, Int.reduceLE, Int.reduceEq, Int.reduceGT, Int.reduceGE, Int.reduceToNat, ↓reduceIte, List.reduceReplicate, Nat.reduceAdd, Nat.reduceSub, Nat.reduceMul, Nat.reduceLT, Nat.reduceLeDiff, Nat.reduceBEq, Nat.reduceEqDiff, twc]
      refine at_p [I u.len, I u.mass, I u.str] (hr _) twc_len hu rfl rfl (by omega) fun ad => ?_
      simp (config := { maxSteps := 4000000 }) only [↓sx0, ↓sx1, ↓sx2, ↓sx3, ↓sx4, ↓sx5, ↓sx6, sx0, sx1, sx2, sx3, sx4, sx5, sx6, tf104, ev3_hold, sxo, sxc, sxp, sxq, sxr, sxs, sxl, sxm, Int.reduceBEq, Int.reduceBNe, Int.reduceLT, Int.reduceLE, Int.reduceEq, Int.reduceGT, Int.reduceGE, Int.reduceToNat, ↓reduceIte, List.reduceReplicate, Nat.reduceAdd, Nat.reduceSub, Nat.reduceMul, Nat.reduceLT, Nat.reduceLeDiff, Nat.reduceBEq, Nat.reduceEqDiff, hdet]
      have nn : ∀ x : Option (Int × Int), canStep v d u e = x → canL v d (us.drop (n - (k + 1))) = x := fun x h => by rw [hcl', hcl, h]
      refine ⟨fun h1 => ⟨fun h2 => ⟨_, HImp.refl _ _, ?_⟩, fun h2 => ⟨_, HImp.refl _ _, rfl, _, nn _ (if_pos ⟨h1, h2⟩), rfl⟩⟩, fun h1 => ⟨_, HImp.refl _ _, ?_⟩⟩
      · rw [canL_none (nn none (if_neg fun h => h.2 h2))]
        rfl
      · rw [canL_none (nn none (if_neg fun h => by rw [h1] at h; cases h.1))]
        rfl
    · rintro L' H' - ⟨rfl, e, he, rfl⟩
      rw [Nat.sub_self, List.drop_zero] at he
      simp (config := { maxSteps := 4000000 }) only [↓sx0, ↓sx1, ↓sx2, ↓sx3, ↓sx4, ↓sx5, ↓sx6, sx0, sx1, sx2, sx3, sx4, sx5, sx6, tf104, ev3_hold, sxo, sxc, sxp, sxq, sxr, sxs, sxl, sxm, Int.reduceBEq, Int.reduceBNe, Int.reduceLT, Int.reduceLE, Int.reduceEq, Int.reduceGT, Int.reduceGE, Int.reduceToNat, ↓reduceIte, List.reduceReplicate, Nat.reduceAdd, Nat.reduceSub, Nat.reduceMul, Nat.reduceLT, Nat.reduceLeDiff, Nat.reduceBEq, Nat.reduceEqDiff, he]

open Classical in
noncomputable def detG (s : Value) (us : List Tw) : Nat → List Value → Option Value
  | 104, [x, .int .i64 v, .int .i64 d] => if x = .agg #[s] ∧ okT us ∧ (1 ≤ v ∧ v ≤ 20) ∧ 0 ≤ d ∧ d ≤ 1000 then some (.tuple #[.bool (sureL v d us), .bool (canL v d us).isSome]) else none
  | g, xs => detF s us g xs

theorem detG_ok {v : Value} {us : List Tw} {w0 : World} {X : Nat → Prop} (hs : Sl w0 v 5 (twcs us)) (hX : ∀ b, rsl w0 v b → ¬ X b) : DetFn Tryd.prog ⟨w0, X⟩ (detG v us) := by
  intro g args r h w hk
  have hs' := hs.keepR hk hX
  unfold detG at h
  split at h
  · split at h
    · rename_i hc
      obtain ⟨rfl, hok, hv, hd⟩ := hc
      cases h
      exact det_of_fn' (tows_fn w _ us _ _ hs' hok hv hd)
    · cases h
  · exact detF_ok hs hX _ _ _ h w hk

theorem detG_eq (v : Value) (us : List Tw) : (detG v us 103 [.agg #[v]] = some (I (if trainB us then 0 else 90))) ∧
    (∀ n l h : Int, detG v us 91 [I n, I l, I h] = some (.bool (inB n l h))) := ⟨by simp [detG, detF], fun _ _ _ => rfl⟩

theorem detG_tows {s : Value} {us : List Tw} {v d : Int} (hok : okT us) (hv : 1 ≤ v ∧ v ≤ 20) (hd : 0 ≤ d ∧ d ≤ 1000) : detG s us 104 [.agg #[s], I v, I d] = some (.tuple #[.bool (sureL v d us), .bool (canL v d us).isSome]) :=
  if_pos ⟨rfl, hok, hv, hd⟩

/-- The numbers from 1 to k with a property. -/
def upTo (p : Int → Bool) : Nat → List Int
  | 0 => []
  | k + 1 => if p ((k + 1 : Nat) : Int) then upTo p k ++ [((k + 1 : Nat) : Int)] else upTo p k

theorem upTo_len (p : Int → Bool) (k : Nat) : (upTo p k).length ≤ k := by
  induction k with
  | zero => simp [upTo]
  | succ k ih =>
    unfold upTo
    split
    · simp; omega
    · omega

def sureF (us : List Tw) (d : Int) : List Int := upTo (fun v => sureL v d us) 20

def mayF (us : List Tw) (d : Int) : List Int := upTo (fun v => (canL v d us).isSome) 20

def speedsE (us : List Tw) (d : Int) : Int := if trainB us then (if inB d 0 1000 then 0 else 1) else 90

def sureR (us : List Tw) (d : Int) : List Int := if speedsE us d = 0 then sureF us d else []

def mayR (us : List Tw) (d : Int) : List Int := if speedsE us d = 0 then mayF us d else []

theorem speeds_fn (w : World) (s : Value) (us : List Tw) (d : Int) (hs : Sl w s 5 (twcs us)) :
    SX.Fn Tryd.prog 88 [.agg #[s], I d] w (fun _ => False) fun r N => ∃ x y, r = .tuple #[x, y, I (speedsE us d)] ∧ Got x 3 1 i1 (sureR us d) N ∧ Got y 3 1 i1 (mayR us d) N := by
  obtain ⟨a, n, c, rfl⟩ := hs.shape
  have hn := hs.le (f := twc) twc_len (by omega)
  have hD := detG_ok (X := fun _ => False) hs (fun _ _ => id)
  refine walk [] [] hD Tryd.func88 rfl Tryd.ntmps88 res88 (by kernel_rfl) no_facts ?_
  by_cases ht : trainB us = true
  · by_cases hd : inB d 0 1000 = true
    · have he : speedsE us d = 0 := by simp [speedsE, ht, hd]
      have hok := (train_iff us).1 ht
      have hd' : 0 ≤ d ∧ d ≤ 1000 := by simpa [inB] using hd
      simp (config := { maxSteps := 4000000 }) only [↓sx0, ↓sx1, ↓sx2, ↓sx3, ↓sx4, ↓sx5, ↓sx6, sx0, sx1, sx2, sx3, sx4, sx5, sx6, tf88, ev3_hold, sxo, sxc, sxp, sxq, sxr, sxs, sxl, sxm, Int.reduceBEq, Int.reduceBNe, Int.reduceLT, Int.reduceLE, Int.reduceEq, Int.reduceGT, Int.reduceGE, Int.reduceToNat, ↓reduceIte, List.reduceReplicate, Nat.reduceAdd, Nat.reduceSub, Nat.reduceMul, Nat.reduceLT, Nat.reduceLeDiff, Nat.reduceBEq, Nat.reduceEqDiff, detG_eq, ht, hd]
      refine loop_constI [.row (.slice none 0 0) 3 1 (ints []), .row (.slice none 0 0) 3 1 (ints [])] ((HImp.nilRow _ _ _ _).trans (HImp.nilRow _ _ _ _)) [(4, 5), (7, 9), (16, 37)] (fun p : Nat × Value × Value => [(7, I ((p.1 : Int) + 1)), (4, p.2.1), (5, p.2.2)])
        (fun p H1 => p.1 ≤ 20 ∧ ∃ adx cx ady cy, p.2.1 = .slice adx (upTo (fun v => sureL v d us) p.1).length cx ∧ p.2.2 = .slice ady (upTo (fun v => (canL v d us).isSome) p.1).length cy ∧ (adx = none → upTo (fun v => sureL v d us) p.1 = []) ∧ (ady = none → upTo (fun v => (canL v d us).isSome) p.1 = []) ∧
          H1 = [.row p.2.1 3 1 (ints (upTo (fun v => sureL v d us) p.1)), .row p.2.2 3 1 (ints (upTo (fun v => (canL v d us).isSome) p.1))]) (fun p => 20 - p.1) (0, .slice none 0 0, .slice none 0 0) ?_ ⟨by decide, none, 0, none, 0, rfl, rfl, fun _ => rfl, fun _ => rfl, rfl⟩ ?_
      · simp (config := { maxSteps := 4000000 }) only [↓sx0, ↓sx1, ↓sx2, ↓sx3, ↓sx4, ↓sx5, ↓sx6, sx0, sx1, sx2, sx3, sx4, sx5, sx6, tf88, ev3_hold, sxo, sxc, sxp, sxq, sxr, sxs, sxl, sxm, Int.reduceBEq, Int.reduceBNe, Int.reduceLT, Int.reduceLE, Int.reduceEq, Int.reduceGT, Int.reduceGE, Int.reduceToNat, ↓reduceIte, List.reduceReplicate, Nat.reduceAdd, Nat.reduceSub, Nat.reduceMul, Nat.reduceLT, Nat.reduceLeDiff, Nat.reduceBEq, Nat.reduceEqDiff]
        simp
      · rintro ⟨k, x, y⟩ H1 g hinv
        simp only [] at hinv
        obtain ⟨hk, adx, cx, ady, cy, rfl, rfl, hx0, hy0, rfl⟩ := hinv
        have hlx := upTo_len (fun v => sureL v d us) k
        have hly := upTo_len (fun v => (canL v d us).isSome) k
        by_cases hk20 : k = 20
        · subst hk20
          simp (config := { maxSteps := 4000000 }) only [↓sx0, ↓sx1, ↓sx2, ↓sx3, ↓sx4, ↓sx5, ↓sx6, sx0, sx1, sx2, sx3, sx4, sx5, sx6, tf88, ev3_hold, sxo, sxc, sxp, sxq, sxr, sxs, sxl, sxm, Int.reduceBEq, Int.reduceBNe, Int.reduceLT, Int.reduceLE, Int.reduceEq, Int.reduceGT, Int.reduceGE, Int.reduceToNat, ↓reduceIte, List.reduceReplicate, Nat.reduceAdd, Nat.reduceSub, Nat.reduceMul, Nat.reduceLT, Nat.reduceLeDiff, Nat.reduceBEq, Nat.reduceEqDiff]
          refine ⟨fun h => absurd h (by decide), fun _ => ⟨_, _, by rw [he], ?_, ?_⟩⟩
          · rw [sureR, if_pos he]; exact Got.row rfl List.mem_cons_self hx0
          · rw [mayR, if_pos he]; exact Got.row rfl (List.mem_cons_of_mem _ List.mem_cons_self) hy0
        · have e3 := detG_tows (s := .slice a n c) (v := (k : Int) + 1) hok ⟨by omega, by omega⟩ hd'
          have e4 : wr ((k : Int) + 1 + 1) = ((k + 1 : Nat) : Int) + 1 := (wrap_id (by omega)).trans (by omega)
          have e5 : (k : Int) + 1 ≤ 20 := by omega
          have e6 : ((k + 1 : Nat) : Int) = (k : Int) + 1 := by omega
          have uS : ∀ p : Int → Bool, upTo p (k + 1) = if p ((k : Int) + 1) then upTo p k ++ [(k : Int) + 1] else upTo p k := fun p => by rw [upTo, e6]
          simp (config := { maxSteps := 4000000 }) only [↓sx0, ↓sx1, ↓sx2, ↓sx3, ↓sx4, ↓sx5, ↓sx6, sx0, sx1, sx2, sx3, sx4, sx5, sx6, tf88, ev3_hold, sxo, sxc, sxp, sxq, sxr, sxs, sxl, sxm, Int.reduceBEq, Int.reduceBNe, Int.reduceLT, Int.reduceLE, Int.reduceEq, Int.reduceGT, Int.reduceGE, Int.reduceToNat, ↓reduceIte, List.reduceReplicate, Nat.reduceAdd, Nat.reduceSub, Nat.reduceMul, Nat.reduceLT, Nat.reduceLeDiff, Nat.reduceBEq, Nat.reduceEqDiff, e3, e4, e5]
          refine ⟨fun h1 b => ?_, fun h1 => ?_⟩
          · refine app_one ((k : Int) + 1) (HImp.refl _ _) i1_len i1_one (by omega) fun ad1 c1 => ?_
            simp (config := { maxSteps := 4000000 }) only [↓sx0, ↓sx1, ↓sx2, ↓sx3, ↓sx4, ↓sx5, ↓sx6, sx0, sx1, sx2, sx3, sx4, sx5, sx6, tf88, ev3_hold, sxo, sxc, sxp, sxq, sxr, sxs, sxl, sxm, Int.reduceBEq, Int.reduceBNe, Int.reduceLT, Int.reduceLE, Int.reduceEq, Int.reduceGT, Int.reduceGE, Int.reduceToNat, ↓reduceIte, List.reduceReplicate, Nat.reduceAdd, Nat.reduceSub, Nat.reduceMul, Nat.reduceLT, Nat.reduceLeDiff, Nat.reduceBEq, Nat.reduceEqDiff, e4]
            refine ⟨fun h2 b2 => ?_, fun h2 => ?_⟩
            · refine app_one ((k : Int) + 1) (HImp.swap _ _ _ _) i1_len i1_one (by omega) fun ad2 c2 => ?_
              simp (config := { maxSteps := 4000000 }) only [↓sx0, ↓sx1, ↓sx2, ↓sx3, ↓sx4, ↓sx5, ↓sx6, sx0, sx1, sx2, sx3, sx4, sx5, sx6, tf88, ev3_hold, sxo, sxc, sxp, sxq, sxr, sxs, sxl, sxm, Int.reduceBEq, Int.reduceBNe, Int.reduceLT, Int.reduceLE, Int.reduceEq, Int.reduceGT, Int.reduceGE, Int.reduceToNat, ↓reduceIte, List.reduceReplicate, Nat.reduceAdd, Nat.reduceSub, Nat.reduceMul, Nat.reduceLT, Nat.reduceLeDiff, Nat.reduceBEq, Nat.reduceEqDiff, e4]
              refine ⟨(k + 1, _, _), _, ⟨rfl, rfl, rfl⟩, HImp.swap _ _ _ _, ⟨by simp only []; omega, some ad1, c1, some ad2, c2, ?_, ?_, by simp, by simp, ?_⟩, by simp only []; omega⟩
              · simp only [uS, h1, if_true, List.length_append, List.length_cons, List.length_nil]
              · simp only [uS, h2, if_true, List.length_append, List.length_cons, List.length_nil]
              · simp only [uS, h1, h2, if_true]
            · refine ⟨(k + 1, _, _), _, ⟨rfl, rfl, rfl⟩, HImp.refl _ _, ⟨by simp only []; omega, some ad1, c1, ady, cy, ?_, ?_, by simp, ?_, ?_⟩, by simp only []; omega⟩
              · simp only [uS, h1, if_true, List.length_append, List.length_cons, List.length_nil]
              · simp only [uS, h2, Bool.false_eq_true, if_false]
              · simpa only [uS, h2, Bool.false_eq_true, if_false] using hy0
              · simp only [uS, h1, h2, if_true, Bool.false_eq_true, if_false]
          · refine ⟨fun h2 b2 => ?_, fun h2 => ?_⟩
            · refine app_one ((k : Int) + 1) (HImp.swap _ _ _ _) i1_len i1_one (by omega) fun ad2 c2 => ?_
              simp (config := { maxSteps := 4000000 }) only [↓sx0, ↓sx1, ↓sx2, ↓sx3, ↓sx4, ↓sx5, ↓sx6, sx0, sx1, sx2, sx3, sx4, sx5, sx6, tf88, ev3_hold, sxo, sxc, sxp, sxq, sxr, sxs, sxl, sxm, Int.reduceBEq, Int.reduceBNe, Int.reduceLT, Int.reduceLE, Int.reduceEq, Int.reduceGT, Int.reduceGE, Int.reduceToNat, ↓reduceIte, List.reduceReplicate, Nat.reduceAdd, Nat.reduceSub, Nat.reduceMul, Nat.reduceLT, Nat.reduceLeDiff, Nat.reduceBEq, Nat.reduceEqDiff, e4]
              refine ⟨(k + 1, _, _), _, ⟨rfl, rfl, rfl⟩, HImp.swap _ _ _ _, ⟨by simp only []; omega, adx, cx, some ad2, c2, ?_, ?_, ?_, by simp, ?_⟩, by simp only []; omega⟩
              · simp only [uS, h1, Bool.false_eq_true, if_false]
              · simp only [uS, h2, if_true, List.length_append, List.length_cons, List.length_nil]
              · simpa only [uS, h1, Bool.false_eq_true, if_false] using hx0
              · simp only [uS, h1, h2, if_true, Bool.false_eq_true, if_false]
            · refine ⟨(k + 1, _, _), _, ⟨rfl, rfl, rfl⟩, HImp.refl _ _, ⟨by simp only []; omega, adx, cx, ady, cy, ?_, ?_, ?_, ?_, ?_⟩, by simp only []; omega⟩
              · simp only [uS, h1, Bool.false_eq_true, if_false]
              · simp only [uS, h2, Bool.false_eq_true, if_false]
              · simpa only [uS, h1, Bool.false_eq_true, if_false] using hx0
              · simpa only [uS, h2, Bool.false_eq_true, if_false] using hy0
              · simp only [uS, h1, h2, Bool.false_eq_true, if_false]
    · have he : speedsE us d = 1 := by simp [speedsE, ht, hd]
      simp (config := { maxSteps := 4000000 }) only [↓sx0, ↓sx1, ↓sx2, ↓sx3, ↓sx4, ↓sx5, ↓sx6, sx0, sx1, sx2, sx3, sx4, sx5, sx6, tf88, ev3_hold, sxo, sxc, sxp, sxq, sxr, sxs, sxl, sxm, Int.reduceBEq, Int.reduceBNe, Int.reduceLT, Int.reduceLE, Int.reduceEq, Int.reduceGT, Int.reduceGE, Int.reduceToNat, ↓reduceIte, List.reduceReplicate, Nat.reduceAdd, Nat.reduceSub, Nat.reduceMul, Nat.reduceLT, Nat.reduceLeDiff, Nat.reduceBEq, Nat.reduceEqDiff, detG_eq, ht, hd]
      exact ⟨_, _, by rw [he], by rw [sureR, if_neg (by omega)]; exact Got.nil _, by rw [mayR, if_neg (by omega)]; exact Got.nil _⟩
  · have he : speedsE us d = 90 := by simp [speedsE, ht]
    simp (config := { maxSteps := 4000000 }) only [↓sx0, ↓sx1, ↓sx2, ↓sx3, ↓sx4, ↓sx5, ↓sx6, sx0, sx1, sx2, sx3, sx4, sx5, sx6, tf88, ev3_hold, sxo, sxc, sxp, sxq, sxr, sxs, sxl, sxm, Int.reduceBEq, Int.reduceBNe, Int.reduceLT, Int.reduceLE, Int.reduceEq, Int.reduceGT, Int.reduceGE, Int.reduceToNat, ↓reduceIte, List.reduceReplicate, Nat.reduceAdd, Nat.reduceSub, Nat.reduceMul, Nat.reduceLT, Nat.reduceLeDiff, Nat.reduceBEq, Nat.reduceEqDiff, detG_eq, ht]
    exact ⟨_, _, by rw [he], by rw [sureR, if_neg (by omega)]; exact Got.nil _, by rw [mayR, if_neg (by omega)]; exact Got.nil _⟩

theorem ex_speeds : speedsE exT 100 = 0 := by kernel_rfl

theorem ex_sure : sureR exT 100 = [3, 4, 5] := by decide +kernel

theorem ex_may : mayR exT 100 = [3, 4, 5, 6, 7] := by decide +kernel

theorem ex_slack : slackR 300 100 200 20 80 100 60 = (54, 0) := by decide +kernel

theorem ex_carry : carryR 300 100 200 20 80 100 60 27 = (50, 0) := by decide +kernel

theorem detD_none : (∀ xs, detD 87 xs = none) ∧ (∀ xs, detD 88 xs = none) ∧ (∀ xs, detD 55 xs = none) := ⟨fun _ => rfl, fun _ => rfl, fun _ => rfl⟩

theorem works_fn (w : World) : SX.Fn Tryd.prog 52 [] w (fun _ => False) fun r N => r = .bool true := by
  refine walk [] [] (detD_ok _ _) Tryd.func52 rfl Tryd.ntmps52 res52 (by kernel_rfl) no_facts ?_
  simp (config := { maxSteps := 4000000 }) only [↓sx0, ↓sx1, ↓sx2, ↓sx3, ↓sx4, ↓sx5, ↓sx6, sx0, sx1, sx2, sx3, sx4, sx5, sx6, tf52, ev3_hold, sxo, sxc, sxp, sxq, sxr, sxs, sxl, sxm, Int.reduceBEq, Int.reduceBNe, Int.reduceLT, Int.reduceLE, Int.reduceEq, Int.reduceGT, Int.reduceGE, Int.reduceToNat, ↓reduceIte, List.reduceReplicate, Nat.reduceAdd, Nat.reduceSub, Nat.reduceMul, Nat.reduceLT, Nat.reduceLeDiff, Nat.reduceBEq, Nat.reduceEqDiff, detD_eq, detD_none]
  refine CallOb.pure (fun w' hp => example_fn w') ?_
  rintro r N ⟨b, rfl, rfl⟩
  simp (config := { maxSteps := 4000000 }) only [↓sx0, ↓sx1, ↓sx2, ↓sx3, ↓sx4, ↓sx5, ↓sx6, sx0, sx1, sx2, sx3, sx4, sx5, sx6, tf52, ev3_hold, sxo, sxc, sxp, sxq, sxr, sxs, sxl, sxm, Int.reduceBEq, Int.reduceBNe, Int.reduceLT, Int.reduceLE, Int.reduceEq, Int.reduceGT, Int.reduceGE, Int.reduceToNat, ↓reduceIte, List.reduceReplicate, Nat.reduceAdd, Nat.reduceSub, Nat.reduceMul, Nat.reduceLT, Nat.reduceLeDiff, Nat.reduceBEq, Nat.reduceEqDiff, detD_eq, detD_none]
  refine CallOb.pure (fun w' hp => speeds_fn w' _ exT 100 (row_hp List.mem_cons_self hp)) ?_
  rintro r N ⟨x, y, rfl, gx, gy⟩
  rw [ex_speeds, ex_sure] at *
  rw [ex_may] at gy
  obtain ⟨ax, cx, rfl⟩ := gx.shape
  obtain ⟨ay, cy, rfl⟩ := gy.shape
  simp (config := { maxSteps := 4000000 }) only [↓sx0, ↓sx1, ↓sx2, ↓sx3, ↓sx4, ↓sx5, ↓sx6, sx0, sx1, sx2, sx3, sx4, sx5, sx6, tf52, ev3_hold, sxo, sxc, sxp, sxq, sxr, sxs, sxl, sxm, Int.reduceBEq, Int.reduceBNe, Int.reduceLT, Int.reduceLE, Int.reduceEq, Int.reduceGT, Int.reduceGE, Int.reduceToNat, ↓reduceIte, List.reduceReplicate, Nat.reduceAdd, Nat.reduceSub, Nat.reduceMul, Nat.reduceLT, Nat.reduceLeDiff, Nat.reduceBEq, Nat.reduceEqDiff, detD_eq, detD_none, ex_slack, ex_carry]
  intro b1
  refine CallOb.pure (fun w' hp => same_fn w' _ _ [3, 4, 5] [3, 4, 5] (gx.hp (by simp +contextual) hp) (row_hp (E := 3) List.mem_cons_self hp) (by decide)) ?_
  rintro r N2 rfl
  simp (config := { maxSteps := 4000000 }) only [↓sx0, ↓sx1, ↓sx2, ↓sx3, ↓sx4, ↓sx5, ↓sx6, sx0, sx1, sx2, sx3, sx4, sx5, sx6, tf52, ev3_hold, sxo, sxc, sxp, sxq, sxr, sxs, sxl, sxm, Int.reduceBEq, Int.reduceBNe, Int.reduceLT, Int.reduceLE, Int.reduceEq, Int.reduceGT, Int.reduceGE, Int.reduceToNat, ↓reduceIte, List.reduceReplicate, Nat.reduceAdd, Nat.reduceSub, Nat.reduceMul, Nat.reduceLT, Nat.reduceLeDiff, Nat.reduceBEq, Nat.reduceEqDiff, detD_eq, detD_none, ex_slack, ex_carry]
  intro b2
  refine CallOb.pure (fun w' hp => same_fn w' _ _ [3, 4, 5, 6, 7] [3, 4, 5, 6, 7] (gy.hp (by simp +contextual) hp) (row_hp (E := 3) List.mem_cons_self hp) (by decide)) ?_
  rintro r N3 rfl
  simp (config := { maxSteps := 4000000 }) only [↓sx0, ↓sx1, ↓sx2, ↓sx3, ↓sx4, ↓sx5, ↓sx6, sx0, sx1, sx2, sx3, sx4, sx5, sx6, tf52, ev3_hold, sxo, sxc, sxp, sxq, sxr, sxs, sxl, sxm, Int.reduceBEq, Int.reduceBNe, Int.reduceLT, Int.reduceLE, Int.reduceEq, Int.reduceGT, Int.reduceGE, Int.reduceToNat, ↓reduceIte, List.reduceReplicate, Nat.reduceAdd, Nat.reduceSub, Nat.reduceMul, Nat.reduceLT, Nat.reduceLeDiff, Nat.reduceBEq, Nat.reduceEqDiff, detD_eq, detD_none, ex_slack, ex_carry]

end Go.Proofs.YtcnjhgnlcnmagaaDoor.Tw
