/- Parts of a proof: the symbolic walk and what it shows of single functions. -/
import Derived.Test.YtogicfoigeongaaDoorL1
import Derived.Test.YtogicfoigeongaaDoorC5
import Derived.Test.YtogicfoigeongaaDoorL3
import Derived.Test.YtogicfoigeongaaDoorC2
set_option linter.all false
namespace Go.Proofs.YtogicfoigeongaaDoor
open Go.RowKit Go.SX
set_option maxRecDepth 10000
set_option maxHeartbeats 0
set_option linter.unusedSimpArgs false
set_option linter.unusedVariables false
structure Unt where
  cell : Int
  reach : Int
  dr : Int
  chance : Int
def unt0 : Unt := ⟨0, 0, 0, 0⟩
def rowT (c : Cht) (plan : List (List Int)) (u : Unt) (p : List Int) (i t : Nat) : Prop :=
  (0 ≤ lv p t ∧ lv p t < (c.depth.length : Int)) ∧ (u.dr = 0 ∨ c.flt u.dr t (lv p t).toNat = true) ∧ (0 < t → ((dst c.W c.H (lv p (t - 1)).toNat (lv p t).toNat : Nat) : Int) ≤ u.reach) ∧ ∀ k, k < i → lv (plan.getD k []) t ≠ lv p t
def PlanOk (c : Cht) (T : Nat) (us : List Unt) (plan : List (List Int)) : Prop :=
  plan.length = us.length ∧ ∀ i, i < plan.length → (plan.getD i []).length = T ∧ ∀ t, t < T → rowT c plan (us.getD i unt0) (plan.getD i []) i t
def legOf (u : Unt) (p : List Int) : Lg := ⟨0, if u.dr = 0 then 1 else 0, u.dr, false, p⟩
def legsN (us : List Unt) (plan : List (List Int)) (n : Nat) : List Lg := (List.range n).map fun i => legOf (us.getD i unt0) (plan.getD i [])
theorem legsN_len (us : List Unt) (plan : List (List Int)) (n : Nat) : (legsN us plan n).length = n := by simp [legsN]
theorem legsN_succ (us : List Unt) (plan : List (List Int)) (n : Nat) : legsN us plan (n + 1) = legsN us plan n ++ [legOf (us.getD n unt0) (plan.getD n [])] := by simp [legsN, List.range_succ]
theorem legsN_get {us : List Unt} {plan : List (List Int)} {n i : Nat} (h : i < n) : (legsN us plan n).getD i lg0 = legOf (us.getD i unt0) (plan.getD i []) := by
  rw [List.getD_eq_getElem?_getD, legsN, List.getElem?_map, List.getElem?_range h]
  rfl
theorem leg_ok {c : Cht} (hok : c.ok) {T : Nat} (hT : 1 ≤ T ∧ T ≤ c.tide.length) {us : List Unt} {plan : List (List Int)} (hp : PlanOk c T us plan) {i : Nat} (hi : i < plan.length) (hu : 0 ≤ (us.getD i unt0).dr ∧ (us.getD i unt0).dr ≤ 100 ∧ (us.getD i unt0).reach ≤ 1) : (legOf (us.getD i unt0) (plan.getD i [])).Ok c := by
  obtain ⟨eW, eH, hW, hH, hlen⟩ := hok.dims
  obtain ⟨hl, hr⟩ := hp.2 i hi
  obtain ⟨u, hu0⟩ : ∃ u, us.getD i unt0 = u := ⟨_, rfl⟩
  obtain ⟨p, hp0⟩ : ∃ p, plan.getD i [] = p := ⟨_, rfl⟩
  rw [hu0, hp0] at hr
  rw [hu0] at hu ⊢
  rw [hp0] at hl ⊢
  have e1 : (legOf u p).cells = p := rfl
  have e2 : (legOf u p).at_ = 0 := rfl
  have e3 : (legOf u p).dr = u.dr := rfl
  have e4 : (legOf u p).lv = if u.dr = 0 then 1 else 0 := rfl
  refine ⟨by rw [e1]; omega, by rw [e1]; omega, by rw [e2]; omega, by rw [e1, e2]; omega, ?_, fun x hx => ?_, fun j hj => ?_, fun j h0 hj => ?_⟩
  · rw [e3, e4]
    unfold kindB inB
    by_cases h : u.dr = 0
    · simp [h]
    · rw [if_neg h, if_pos rfl]
      exact decide_eq_true (by omega)
  · rw [e1] at hx
    obtain ⟨j, hj⟩ := List.getElem?_of_mem hx
    have hjl := (List.getElem?_eq_some_iff.1 hj).1
    have := (hr j (by omega)).1
    unfold lv at this
    rw [List.getD_eq_getElem?_getD, hj] at this
    exact this
  · rw [e1] at hj ⊢
    rw [e2, e3, e4]
    have := (hr j (by omega)).2.1
    unfold fltB
    by_cases h : u.dr = 0
    · simp [h]
    · rw [if_neg h]
      rw [show (0 : Int).toNat + j = j by simp, this.resolve_left h]
      simp
  · rw [e1] at hj ⊢
    have h1 := hr j (by omega)
    have h2 := hr (j - 1) (by omega)
    have h3 := h1.2.2.1 h0
    have ha : (lv p (j - 1)).toNat < c.W * c.H := by have := h2.1; omega
    have hx : (lv p j).toNat < c.W * c.H := by have := h1.1; omega
    unfold nbL
    rw [List.mem_cons]
    rcases (show dst c.W c.H (lv p (j - 1)).toNat (lv p j).toNat = 0 ∨ dst c.W c.H (lv p (j - 1)).toNat (lv p j).toNat = 1 by omega) with h | h
    · exact .inl ((dst_zero ha hx).1 h).symm
    · exact .inr ((dst_one ha hx).1 h)
theorem lanes_swap {c : Cht} {T : Nat} {us : List Unt} {plan : List (List Int)} (hp : PlanOk c T us plan) {i k t : Nat} (hik : i < k) (hk : k < plan.length) (h : clT (legOf (us.getD i unt0) (plan.getD i [])) (legOf (us.getD k unt0) (plan.getD k [])) t = true) :
    1 ≤ t ∧ t < T ∧ (legOf (us.getD i unt0) (plan.getD i [])).lv = (legOf (us.getD k unt0) (plan.getD k [])).lv ∧ lv (plan.getD i []) t = lv (plan.getD k []) (t - 1) ∧ lv (plan.getD k []) t = lv (plan.getD i []) (t - 1) := by
  obtain ⟨hl1, hr1⟩ := hp.2 i (by omega)
  obtain ⟨hl2, hr2⟩ := hp.2 k hk
  obtain ⟨u1, hu1⟩ : ∃ u, us.getD i unt0 = u := ⟨_, rfl⟩
  obtain ⟨u2, hu2⟩ : ∃ u, us.getD k unt0 = u := ⟨_, rfl⟩
  rw [hu1] at h hr1 ⊢
  rw [hu2] at h hr2 ⊢
  obtain ⟨p, hpe⟩ : ∃ p, plan.getD i [] = p := ⟨_, rfl⟩
  obtain ⟨q, hqe⟩ : ∃ q, plan.getD k [] = q := ⟨_, rfl⟩
  rw [hpe] at h hl1 hr1 ⊢
  rw [hqe] at h hl2 hr2 ⊢
  unfold clT Lg.stp legOf at h
  simp only [Int.sub_zero] at h
  rw [hl1, hl2] at h
  by_cases ht : t < T
  case neg =>
    have hc : ¬ (0 ≤ (t : Int) ∧ (t : Int) ≤ (T : Int) - 1) := by omega
    rw [if_neg hc] at h
    cases h
  have hc : 0 ≤ (t : Int) ∧ (t : Int) ≤ (T : Int) - 1 := by omega
  rw [if_pos hc, if_pos hc] at h
  simp only [] at h
  have hne := (hr2 t ht).2.2.2 i hik
  rw [hpe] at hne
  rw [show ((t : Int)).toNat = t by omega, show p.getD t 0 = lv p t from rfl, show q.getD t 0 = lv q t from rfl] at h
  by_cases h0 : t = 0
  · subst h0
    unfold Sp.cl Sp.occ at h
    simp at h
    exact absurd h.2.2 hne
  have hc1 : (t : Int) > 0 := by omega
  simp only [if_pos hc1] at h
  rw [show ((t : Int) - 1).toNat = t - 1 by omega, show p.getD (t - 1) 0 = lv p (t - 1) from rfl, show q.getD (t - 1) 0 = lv q (t - 1) from rfl] at h
  unfold Sp.cl Sp.occ at h
  simp only [Bool.false_and, Bool.or_false, Bool.and_eq_true, Bool.or_eq_true, decide_eq_true_eq] at h
  obtain ⟨h1, h2⟩ := h
  refine ⟨by omega, ht, h1, ?_⟩
  clear h1
  rcases h2 with ⟨_, _, h3⟩ | ⟨_, h3, h4⟩ | ⟨_, _, _, h3, h4⟩
  · exact absurd h3 hne
  · exact absurd (h3.symm.trans h4) hne
  · exact ⟨h3, h4⟩
end Go.Proofs.YtogicfoigeongaaDoor

namespace Go.Proofs.YtogicfoigeongaaDoor
open Go.RowKit Go.SX
set_option maxRecDepth 20000
set_option maxHeartbeats 0
set_option linter.unusedSimpArgs false
set_option linter.unusedVariables false
structure Psh where (dirs low high : Int)
def psc (p : Psh) : List Value := [I p.dirs, I p.low, I p.high]
theorem psc_len (p : Psh) : (psc p).length = 3 := rfl
structure Drf where
  c : Cht
  zones : List Int
  cur : List (List Psh)
  wind : List Psh
abbrev Cs := List Psh × Option Addr × Nat × Nat
def csv (p : Cs) : Value := .slice p.2.1 p.2.2.1 p.2.2.2
def csc (p : Cs) : List Value := [csv p]
theorem csc_len (p : Cs) : (csc p).length = 1 := rfl
def CuOk (w : World) (v : Value) (cs : List (List Psh)) : Prop := ∃ ps : List Cs, ps.map Prod.fst = cs ∧ Sl w v 1 (cat csc ps) ∧ ∀ p ∈ ps, Sl w (csv p) 3 (cat psc p.1)
structure Psh.ok (p : Psh) : Prop where
  d1 : 1 ≤ p.dirs ∧ p.dirs ≤ 63
  s : 0 ≤ p.low ∧ p.low ≤ p.high ∧ p.high ≤ 3
def PsOk (d : Drf) (l : List Psh) : Prop := l.length + 1 = d.c.tide.length ∧ ∀ p ∈ l, p.ok
structure Drf.ok (d : Drf) : Prop where
  c : d.c.ok
  zl : d.zones.length = d.c.depth.length
  cn : 1 ≤ d.cur.length ∧ d.cur.length ≤ 4
  zo : ∀ z ∈ d.zones, 0 ≤ z ∧ z < d.cur.length
  cu : ∀ l ∈ d.cur, PsOk d l
  wi : PsOk d d.wind
def dfv (d : Drf) (sD sT sS vZ vC vW : Value) : Value := .agg #[I d.c.wide, I d.c.high, sD, sT, sS, vZ, vC, vW]
structure DfOk (w : World) (d : Drf) (sD sT sS vZ vC vW : Value) : Prop where
  ch : ChOk w (.agg #[I d.c.wide, I d.c.high, sD, sT, sS]) d.c
  zo : Sl w vZ 1 (ints d.zones)
  cu : CuOk w vC d.cur
  wi : Sl w vW 3 (cat psc d.wind)
theorem DfOk.hp {w w' : World} {d : Drf} {sD sT sS vZ vC vW : Value} (h : DfOk w d sD sT sS vZ vC vW) (hk : Keep (fun _ => False) w w') : DfOk w' d sD sT sS vZ vC vW := by
  refine ⟨h.ch.keep hk (fun _ _ => id), h.zo.keep hk (fun _ _ => id), ?_, h.wi.keep hk (fun _ _ => id)⟩
  obtain ⟨ps, h1, h2, h3⟩ := h.cu
  exact ⟨ps, h1, h2.keep hk (fun _ _ => id), fun p hp => (h3 p hp).keep hk (fun _ _ => id)⟩
theorem all_take {α : Type} {p : α → Bool} {l : List α} {i : Nat} {x : α} (h : (l.take i).all p = true) (hx : l[i]? = some x) (hp : p x = true) : (l.take (i + 1)).all p = true := by
  rw [List.take_add_one, hx, List.all_append, h]
  simp [hp]
theorem all_not {α : Type} {p : α → Bool} {l : List α} {i : Nat} {x : α} (hx : l[i]? = some x) (hp : p x = false) : l.all p = false := by
  rw [List.all_eq_false]
  exact ⟨x, List.mem_of_getElem? hx, by simp [hp]⟩
theorem rwithin2_fn (w : World) (n lo hi : Int) : SX.Fn Tryd.prog 42 [I n, I lo, I hi] w (fun _ => False) fun q N => q = .bool (decide (lo ≤ n ∧ n ≤ hi)) := by
  by_cases h1 : lo ≤ n
  · have e1 : (n ≥ lo) = True := eq_true h1
    refine walk [] [] (det0_ok _ _) Tryd.func42 rfl Tryd.ntmps42 res42 (by kernel_rfl) no_facts ?_
    simp (config := { maxSteps := 4000000 }) only [↓sx0, ↓sx1, ↓sx2, ↓sx3, ↓sx4, ↓sx5, ↓sx6, sx0, sx1, sx2, sx3, sx4, sx5, sx6, tf42, ev3_hold, sxo, sxc, sxp, sxq, sxr, sxs, sxl, sxm, simprocAttr, e1]
    try simp [h1]
  · have e1 : (n ≥ lo) = False := eq_false h1
    refine walk [] [] (det0_ok _ _) Tryd.func42 rfl Tryd.ntmps42 res42 (by kernel_rfl) no_facts ?_
    simp (config := { maxSteps := 4000000 }) only [↓sx0, ↓sx1, ↓sx2, ↓sx3, ↓sx4, ↓sx5, ↓sx6, sx0, sx1, sx2, sx3, sx4, sx5, sx6, tf42, ev3_hold, sxo, sxc, sxp, sxq, sxr, sxs, sxl, sxm, simprocAttr, e1]
    try simp [h1]
def detX2 : Nat → List Value → Option Value
  | 42, [.int .i64 n, .int .i64 lo, .int .i64 hi] => some (.bool (decide (lo ≤ n ∧ n ≤ hi)))
  | _, _ => none
theorem detX2_ok (w0 : World) (X : Nat → Prop) : DetFn Tryd.prog ⟨w0, X⟩ detX2 := by
  intro g args v h w hk
  unfold detX2 at h
  split at h
  · cases h
    exact det_of_fn (rwithin2_fn w _ _ _)
  · cases h
theorem detX2_eq : ∀ n lo hi : Int, detX2 42 [I n, I lo, I hi] = some (.bool (decide (lo ≤ n ∧ n ≤ hi))) := fun _ _ _ => rfl
def pshB (p : Psh) : Bool := decide (1 ≤ p.dirs ∧ p.dirs ≤ 63) && decide (0 ≤ p.low ∧ p.low ≤ p.high) && decide (p.high ≤ 3)
theorem pshB_iff (p : Psh) : pshB p = true ↔ p.ok := by
  unfold pshB
  simp only [Bool.and_eq_true, decide_eq_true_eq]
  constructor
  · rintro ⟨⟨h1, h2⟩, h3⟩
    exact ⟨h1, h2.1, h2.2, h3⟩
  · rintro ⟨h1, h2, h3, h4⟩
    exact ⟨⟨h1, h2, h3⟩, h4⟩
theorem isPush_fn (w : World) (x y z : Int) : SX.Fn Tryd.prog 67 [.agg #[I x, I y, I z]] w (fun _ => False) fun q N => q = .bool (pshB ⟨x, y, z⟩) := by
  unfold pshB
  simp only []
  cases h1 : decide (1 ≤ x ∧ x ≤ 63) with
  | false =>
    refine walk [] [] (detX2_ok _ _) Tryd.func67 rfl Tryd.ntmps67 res67 (by kernel_rfl) no_facts ?_
    simp (config := { maxSteps := 4000000 }) only [↓sx0, ↓sx1, ↓sx2, ↓sx3, ↓sx4, ↓sx5, ↓sx6, sx0, sx1, sx2, sx3, sx4, sx5, sx6, tf67, ev3_hold, sxo, sxc, sxp, sxq, sxr, sxs, sxl, sxm, simprocAttr, detX2_eq, h1]
    all_goals rfl
  | true =>
  cases h2 : decide (0 ≤ y ∧ y ≤ z) with
  | false =>
    refine walk [] [] (detX2_ok _ _) Tryd.func67 rfl Tryd.ntmps67 res67 (by kernel_rfl) no_facts ?_
    simp (config := { maxSteps := 4000000 }) only [↓sx0, ↓sx1, ↓sx2, ↓sx3, ↓sx4, ↓sx5, ↓sx6, sx0, sx1, sx2, sx3, sx4, sx5, sx6, tf67, ev3_hold, sxo, sxc, sxp, sxq, sxr, sxs, sxl, sxm, simprocAttr, detX2_eq, h1, h2]
    all_goals rfl
  | true =>
    refine walk [] [] (detX2_ok _ _) Tryd.func67 rfl Tryd.ntmps67 res67 (by kernel_rfl) no_facts ?_
    simp (config := { maxSteps := 4000000 }) only [↓sx0, ↓sx1, ↓sx2, ↓sx3, ↓sx4, ↓sx5, ↓sx6, sx0, sx1, sx2, sx3, sx4, sx5, sx6, tf67, ev3_hold, sxo, sxc, sxp, sxq, sxr, sxs, sxl, sxm, simprocAttr, detX2_eq, h1, h2]
    all_goals rfl
def detX3 : Nat → List Value → Option Value
  | 67, [.agg ⟨[.int .i64 x, .int .i64 y, .int .i64 z]⟩] => some (.bool (pshB ⟨x, y, z⟩))
  | g, xs => detX2 g xs
theorem detX3_ok (w0 : World) (X : Nat → Prop) : DetFn Tryd.prog ⟨w0, X⟩ detX3 := by
  intro g args v h w hk
  unfold detX3 at h
  split at h
  · cases h
    exact det_of_fn (isPush_fn w _ _ _)
  · exact detX2_ok w0 X _ _ _ h w hk
theorem detX3_eq : (∀ x y z : Int, detX3 67 [.agg #[I x, I y, I z]] = some (.bool (pshB ⟨x, y, z⟩))) ∧ (∀ n lo hi : Int, detX3 42 [I n, I lo, I hi] = some (.bool (decide (lo ≤ n ∧ n ≤ hi)))) := ⟨fun _ _ _ => rfl, fun _ _ _ => rfl⟩
def psB (l : List Psh) (n : Int) : Bool := l.all pshB && decide ((l.length : Int) = n)
theorem arePushes_fn (w : World) (v : Value) (l : List Psh) (n : Int) (hs : Sl w v 3 (cat psc l)) (hl : l.length ≤ 1000000) : SX.Fn Tryd.prog 43 [v, I n] w (fun _ => False) fun q N => q = .bool (psB l n) := by
  obtain ⟨a, m, cp, rfl⟩ := hs.shape
  have hn := hs.le psc_len (by omega)
  subst hn
  have hr := fun H => hs.rd0 H
  unfold psB
  refine walk [] [] (detX3_ok _ _) Tryd.func43 rfl Tryd.ntmps43 res43 (by kernel_rfl) no_facts ?_
  simp (config := { maxSteps := 4000000 }) only [↓sx0, ↓sx1, ↓sx2, ↓sx3, ↓sx4, ↓sx5, ↓sx6, sx0, sx1, sx2, sx3, sx4, sx5, sx6, tf43, ev3_hold, sxo, sxc, sxp, sxq, sxr, sxs, sxl, sxm, simprocAttr]
  refine loop_constH [] (HImp.refl _ _) [(4, 17)] (fun i : Nat => [(5, I i)]) (fun i H1 => i ≤ l.length ∧ (l.take i).all pshB = true) (fun i => l.length - i) 0 ?_ ⟨Nat.zero_le _, rfl⟩ ?_
  · simp (config := { maxSteps := 4000000 }) only [↓sx0, ↓sx1, ↓sx2, ↓sx3, ↓sx4, ↓sx5, ↓sx6, sx0, sx1, sx2, sx3, sx4, sx5, sx6, tf43, ev3_hold, sxo, sxc, sxp, sxq, sxr, sxs, sxl, sxm, simprocAttr]
    try simp
  rintro i H1 g1 ⟨hi, hall⟩
  by_cases hin : i = l.length
  · have e7 : ((i : Int) < (l.length : Int)) = False := eq_false (by omega)
    rw [List.take_of_length_le (by omega)] at hall
    rw [hall]
    refine ⟨?_⟩
    simp (config := { maxSteps := 4000000 }) only [↓sx0, ↓sx1, ↓sx2, ↓sx3, ↓sx4, ↓sx5, ↓sx6, sx0, sx1, sx2, sx3, sx4, sx5, sx6, tf43, ev3_hold, sxo, sxc, sxp, sxq, sxr, sxs, sxl, sxm, simprocAttr, e7]
    all_goals rfl
  have e7 : ((i : Int) < (l.length : Int)) = True := eq_true (by omega)
  have e8 : wr (i + 1) = ((i + 1 : Nat) : Int) := (wrap_id (by omega)).trans (by omega)
  obtain ⟨x, hx⟩ : ∃ x, l[i]? = some x := ⟨_, List.getElem?_eq_getElem (by omega)⟩
  have hyes := fun hp : pshB x = true => all_take hall hx hp
  have hno := fun hp : pshB x = false => all_not (p := pshB) hx hp
  obtain ⟨x1, x2, x3⟩ := x
  have hpx : psc ⟨x1, x2, x3⟩ = [I x1, I x2, I x3] := rfl
  cases hB : pshB ⟨x1, x2, x3⟩ with
  | false =>
    rw [hno hB]
    refine ⟨?_⟩
    simp (config := { maxSteps := 4000000 }) only [↓sx0, ↓sx1, ↓sx2, ↓sx3, ↓sx4, ↓sx5, ↓sx6, sx0, sx1, sx2, sx3, sx4, sx5, sx6, tf43, ev3_hold, sxo, sxc, sxp, sxq, sxr, sxs, sxl, sxm, simprocAttr, e7]
    refine amid (at_n (hr _) psc_len (by omega) hx fun ad => ?_)
    simp (config := { maxSteps := 4000000 }) only [↓sx0, ↓sx1, ↓sx2, ↓sx3, ↓sx4, ↓sx5, ↓sx6, sx0, sx1, sx2, sx3, sx4, sx5, sx6, tf43, ev3_hold, sxo, sxc, sxp, sxq, sxr, sxs, sxl, sxm, simprocAttr, hpx, detX3_eq, hB]
    all_goals rfl
  | true =>
    refine ⟨?_⟩
    simp (config := { maxSteps := 4000000 }) only [↓sx0, ↓sx1, ↓sx2, ↓sx3, ↓sx4, ↓sx5, ↓sx6, sx0, sx1, sx2, sx3, sx4, sx5, sx6, tf43, ev3_hold, sxo, sxc, sxp, sxq, sxr, sxs, sxl, sxm, simprocAttr, e7]
    refine amid (at_n (hr _) psc_len (by omega) hx fun ad => ?_)
    simp (config := { maxSteps := 4000000 }) only [↓sx0, ↓sx1, ↓sx2, ↓sx3, ↓sx4, ↓sx5, ↓sx6, sx0, sx1, sx2, sx3, sx4, sx5, sx6, tf43, ev3_hold, sxo, sxc, sxp, sxq, sxr, sxs, sxl, sxm, simprocAttr, hpx, detX3_eq, hB, e8]
    exact ⟨i + 1, _, rfl, HImp.nil _ _, ⟨by omega, hyes hB⟩, by omega⟩
theorem psB_iff (d : Drf) (l : List Psh) (h : 1 ≤ d.c.tide.length) : psB l ((d.c.tide.length : Int) - 1) = true ↔ PsOk d l := by
  unfold psB PsOk
  simp only [Bool.and_eq_true, List.all_eq_true, pshB_iff, decide_eq_true_eq]
  constructor
  · rintro ⟨h1, h2⟩
    exact ⟨by omega, h1⟩
  · rintro ⟨h1, h2⟩
    exact ⟨h2, by omega⟩
def Drf.small (d : Drf) : Prop := d.c.small ∧ d.zones.length ≤ 1000 ∧ d.cur.length ≤ 100 ∧ d.wind.length ≤ 1000 ∧ ∀ l ∈ d.cur, l.length ≤ 1000
theorem rcheck2_fn (w : World) (d : Drf) (sD sT sS vZ vC vW : Value) (hd : DfOk w d sD sT sS vZ vC vW) (hsm : d.small) :
    SX.Fn Tryd.prog 19 [dfv d sD sT sS vZ vC vW] w (fun _ => False) fun q N => ∃ e, q = I e ∧ (e = 0 ↔ d.ok) := by
  obtain ⟨hc, hzo, hcu, hwi⟩ := hd
  have hck := fun (H : List HO) w' (hp : Hp ⟨w, fun _ => False⟩ H w') => rcheck_fn w' _ d.c (hc.hp hp) hsm.1
  obtain ⟨sD', sT', sS', he, hsD, hsT, hsS⟩ := hc
  injection he with he
  injection he with he
  simp only [List.cons.injEq, true_and, and_true] at he
  obtain ⟨rfl, rfl, rfl⟩ := he
  obtain ⟨aD, nD, cD, rfl⟩ := hsD.shape
  obtain ⟨aT, nT, cT, rfl⟩ := hsT.shape
  obtain ⟨aZ, nZ, cZ, rfl⟩ := hzo.shape
  obtain ⟨aW, nW, cW, rfl⟩ := hwi.shape
  obtain ⟨ps, hps, hsC, hsP⟩ := hcu
  obtain ⟨aC, nC, cC, rfl⟩ := hsC.shape
  have hnD := hsD.le i1_len (by omega)
  have hnT := hsT.le spc_len (by omega)
  have hnZ := hzo.le i1_len (by omega)
  have hnW := hwi.le psc_len (by omega)
  have hnC := hsC.le csc_len (by omega)
  subst hnD hnT hnZ hnW hnC
  have hpl : ps.length = d.cur.length := by rw [← hps, List.length_map]
  obtain ⟨⟨q1, q2, q3⟩, q4, q5, q6, q7⟩ := hsm
  have harW := fun (n : Int) (H : List HO) w' (hp : Hp ⟨w, fun _ => False⟩ H w') => arePushes_fn w' _ d.wind n (Sl.hp (w0 := ⟨w, fun _ => False⟩) hwi (fun _ _ => id) hp) (by omega)
  have harC := fun (p : Cs) (hp0 : p ∈ ps) (n : Int) (H : List HO) w' (hp : Hp ⟨w, fun _ => False⟩ H w') => arePushes_fn w' _ p.1 n (Sl.hp (w0 := ⟨w, fun _ => False⟩) (hsP p hp0) (fun _ _ => id) hp) (by
    have := q7 p.1 (by rw [← hps]; exact List.mem_map_of_mem hp0)
    omega)
  have hrZ := fun H => hzo.rd0 H
  have hrC := fun H => hsC.rd0 H
  unfold dfv
  refine walkC [3] [] [] (detX3_ok _ _) Tryd.func19 rfl Tryd.ntmps19 res19 (by kernel_rfl) no_facts ?_
  have dn : (∀ xs, detX3 29 xs = none) ∧ (∀ xs, detX3 43 xs = none) := ⟨fun _ => rfl, fun _ => rfl⟩
  simp (config := { maxSteps := 4000000 }) only [↓sx0, ↓sx1, ↓sx2, ↓sx3, ↓sx4, ↓sx5, ↓sx6, sx0, sx1, sx2, sx3, sx4, sx5, sx6, tf19, ev3_hold, sxo, sxc, sxp, sxq, sxr, sxs, sxl, sxm, simprocAttr, dn]
  refine cut_constH [(4, 36)] (fun b : Bool => [(36, .bool b)]) (fun b H2 => (b = true → ¬ d.ok) ∧ (b = false → d.c.ok ∧ (1 ≤ d.cur.length ∧ d.cur.length ≤ 4) ∧ d.zones.length = d.c.depth.length ∧ PsOk d d.wind)) ?_ ?_
  · refine ⟨?_⟩
    simp (config := { maxSteps := 4000000 }) only [↓sx0, ↓sx1, ↓sx2, ↓sx3, ↓sx4, ↓sx5, ↓sx6, sx0, sx1, sx2, sx3, sx4, sx5, sx6, tf19, ev3_hold, sxo, sxc, sxp, sxq, sxr, sxs, sxl, sxm, simprocAttr, dn]
    refine CallOb.pureH (fun w' hp => hck _ w' hp) ?_
    rintro q N rfl
    by_cases hok : d.c.ok
    case neg =>
      have hkb : d.c.okB = false := by
        cases hk : d.c.okB with
        | false => rfl
        | true => exact absurd ((okB_iff d.c).1 hk) hok
      have z1 : ((if d.c.okB = true then (0 : Int) else 10) = 0) = False := eq_false (by rw [hkb]; simp)
      refine ⟨?_⟩
      simp (config := { maxSteps := 4000000 }) only [↓sx0, ↓sx1, ↓sx2, ↓sx3, ↓sx4, ↓sx5, ↓sx6, sx0, sx1, sx2, sx3, sx4, sx5, sx6, tf19, ev3_hold, sxo, sxc, sxp, sxq, sxr, sxs, sxl, sxm, simprocAttr, z1, dn]
      exact ⟨true, _, rfl, HImp.refl _ _, (fun _ h => hok h.c), fun h => by cases h⟩
    have hkb : d.c.okB = true := (okB_iff d.c).2 hok
    have z1 : ((if d.c.okB = true then (0 : Int) else 10) = 0) = True := eq_true (by rw [hkb]; simp)
    have hT1 := hok.2.2.2.1
    have e1 : wr ((d.c.tide.length : Int) - 1) = (d.c.tide.length : Int) - 1 := wrap_id (by omega)
    cases h2 : decide (1 ≤ (ps.length : Int) ∧ (ps.length : Int) ≤ 4) with
    | false =>
      refine ⟨?_⟩
      simp (config := { maxSteps := 4000000 }) only [↓sx0, ↓sx1, ↓sx2, ↓sx3, ↓sx4, ↓sx5, ↓sx6, sx0, sx1, sx2, sx3, sx4, sx5, sx6, tf19, ev3_hold, sxo, sxc, sxp, sxq, sxr, sxs, sxl, sxm, simprocAttr, z1, detX3_eq, h2, dn]
      refine ⟨true, _, rfl, HImp.refl _ _, (fun _ h => ?_), fun h => by cases h⟩
      have := h.cn
      have := of_decide_eq_false h2
      omega
    | true =>
    have h2' := of_decide_eq_true h2
    by_cases h3 : (d.zones.length : Int) = d.c.depth.length
    case neg =>
      have z3 : ((d.zones.length : Int) = (d.c.depth.length : Int)) = False := eq_false h3
      refine ⟨?_⟩
      simp (config := { maxSteps := 4000000 }) only [↓sx0, ↓sx1, ↓sx2, ↓sx3, ↓sx4, ↓sx5, ↓sx6, sx0, sx1, sx2, sx3, sx4, sx5, sx6, tf19, ev3_hold, sxo, sxc, sxp, sxq, sxr, sxs, sxl, sxm, simprocAttr, z1, detX3_eq, h2, z3, dn]
      refine ⟨true, _, rfl, HImp.refl _ _, (fun _ h => ?_), fun h => by cases h⟩
      have := h.zl
      omega
    have z3 : ((d.zones.length : Int) = (d.c.depth.length : Int)) = True := eq_true h3
    refine ⟨?_⟩
    simp (config := { maxSteps := 4000000 }) only [↓sx0, ↓sx1, ↓sx2, ↓sx3, ↓sx4, ↓sx5, ↓sx6, sx0, sx1, sx2, sx3, sx4, sx5, sx6, tf19, ev3_hold, sxo, sxc, sxp, sxq, sxr, sxs, sxl, sxm, simprocAttr, z1, detX3_eq, h2, z3, e1, dn]
    refine CallOb.pureH (fun w' hp => harW _ _ w' hp) ?_
    rintro q N2 rfl
    have hiff := psB_iff d d.wind (by omega)
    cases hB : psB d.wind ((d.c.tide.length : Int) - 1) with
    | false =>
      refine ⟨?_⟩
      simp (config := { maxSteps := 4000000 }) only [↓sx0, ↓sx1, ↓sx2, ↓sx3, ↓sx4, ↓sx5, ↓sx6, sx0, sx1, sx2, sx3, sx4, sx5, sx6, tf19, ev3_hold, sxo, sxc, sxp, sxq, sxr, sxs, sxl, sxm, simprocAttr]
      refine ⟨true, _, rfl, HImp.refl _ _, (fun _ h => ?_), fun h => by cases h⟩
      have := hiff.2 h.wi
      rw [hB] at this
      cases this
    | true =>
      refine ⟨?_⟩
      simp (config := { maxSteps := 4000000 }) only [↓sx0, ↓sx1, ↓sx2, ↓sx3, ↓sx4, ↓sx5, ↓sx6, sx0, sx1, sx2, sx3, sx4, sx5, sx6, tf19, ev3_hold, sxo, sxc, sxp, sxq, sxr, sxs, sxl, sxm, simprocAttr]
      exact ⟨false, _, rfl, HImp.refl _ _, (fun h => by cases h), fun _ => ⟨hok, by omega, by omega, hiff.1 hB⟩⟩
  rintro b H2 g2 ⟨hb1, hb2⟩
  cases b with
  | true =>
    have hno := hb1 rfl
    refine ⟨?_⟩
    simp (config := { maxSteps := 4000000 }) only [↓sx0, ↓sx1, ↓sx2, ↓sx3, ↓sx4, ↓sx5, ↓sx6, sx0, sx1, sx2, sx3, sx4, sx5, sx6, tf19, ev3_hold, sxo, sxc, sxp, sxq, sxr, sxs, sxl, sxm, simprocAttr]
    exact ⟨20, rfl, (fun h => by cases h), fun h => absurd h hno⟩
  | false =>
  obtain ⟨hok, hcn, hzl, hwd⟩ := hb2 rfl
  have hT1 := hok.2.2.2.1
  have e1 : wr ((d.c.tide.length : Int) - 1) = (d.c.tide.length : Int) - 1 := wrap_id (by omega)
  have e2 : wr ((ps.length : Int) - 1) = (ps.length : Int) - 1 := wrap_id (by omega)
  refine ⟨?_⟩
  simp (config := { maxSteps := 4000000 }) only [↓sx0, ↓sx1, ↓sx2, ↓sx3, ↓sx4, ↓sx5, ↓sx6, sx0, sx1, sx2, sx3, sx4, sx5, sx6, tf19, ev3_hold, sxo, sxc, sxp, sxq, sxr, sxs, sxl, sxm, simprocAttr]
  refine loop_constH [] (HImp.nil _ _) [(2, 3), (37, 54)] (fun i : Nat => [(3, I i)]) (fun i H1 => i ≤ d.zones.length ∧ ∀ z ∈ d.zones.take i, 0 ≤ z ∧ z < d.cur.length) (fun i => d.zones.length - i) 0 ?_ ⟨Nat.zero_le _, by simp⟩ ?_
  · simp (config := { maxSteps := 4000000 }) only [↓sx0, ↓sx1, ↓sx2, ↓sx3, ↓sx4, ↓sx5, ↓sx6, sx0, sx1, sx2, sx3, sx4, sx5, sx6, tf19, ev3_hold, sxo, sxc, sxp, sxq, sxr, sxs, sxl, sxm, simprocAttr]
    try simp
  rintro i H1 g1 ⟨hi, hall⟩
  by_cases hin : i = d.zones.length
  · have e7 : ((i : Int) < (d.zones.length : Int)) = False := eq_false (by omega)
    rw [List.take_of_length_le (by omega)] at hall
    refine ⟨?_⟩
    simp (config := { maxSteps := 4000000 }) only [↓sx0, ↓sx1, ↓sx2, ↓sx3, ↓sx4, ↓sx5, ↓sx6, sx0, sx1, sx2, sx3, sx4, sx5, sx6, tf19, ev3_hold, sxo, sxc, sxp, sxq, sxr, sxs, sxl, sxm, simprocAttr, e7]
    refine loop_constH [] (HImp.nil _ _) [(2, 2), (4, 4), (55, 73)] (fun j : Nat => [(4, I j)]) (fun j H1 => j ≤ ps.length ∧ ∀ p ∈ ps.take j, PsOk d p.1) (fun j => ps.length - j) 0 ?_ ⟨Nat.zero_le _, by simp⟩ ?_
    · simp (config := { maxSteps := 4000000 }) only [↓sx0, ↓sx1, ↓sx2, ↓sx3, ↓sx4, ↓sx5, ↓sx6, sx0, sx1, sx2, sx3, sx4, sx5, sx6, tf19, ev3_hold, sxo, sxc, sxp, sxq, sxr, sxs, sxl, sxm, simprocAttr]
      try simp
    rintro j H1 g1 ⟨hj, hallC⟩
    by_cases hjn : j = ps.length
    · have f7 : ((j : Int) < (ps.length : Int)) = False := eq_false (by omega)
      rw [List.take_of_length_le (by omega)] at hallC
      have hdok : d.ok := ⟨hok, hzl, hcn, hall, fun l hl => by
        rw [← hps] at hl
        obtain ⟨p, hp, rfl⟩ := List.mem_map.1 hl
        exact hallC p hp, hwd⟩
      refine ⟨?_⟩
      simp (config := { maxSteps := 4000000 }) only [↓sx0, ↓sx1, ↓sx2, ↓sx3, ↓sx4, ↓sx5, ↓sx6, sx0, sx1, sx2, sx3, sx4, sx5, sx6, tf19, ev3_hold, sxo, sxc, sxp, sxq, sxr, sxs, sxl, sxm, simprocAttr, f7]
      exact ⟨0, rfl, fun _ => hdok, fun _ => rfl⟩
    have f7 : ((j : Int) < (ps.length : Int)) = True := eq_true (by omega)
    have f8 : wr (j + 1) = ((j + 1 : Nat) : Int) := (wrap_id (by omega)).trans (by omega)
    obtain ⟨p, hp⟩ : ∃ p, ps[j]? = some p := ⟨_, List.getElem?_eq_getElem (by omega)⟩
    have hpm := List.mem_of_getElem? hp
    have harC := harC p hpm
    have hiff := psB_iff d p.1 (by omega)
    refine ⟨?_⟩
    simp (config := { maxSteps := 4000000 }) only [↓sx0, ↓sx1, ↓sx2, ↓sx3, ↓sx4, ↓sx5, ↓sx6, sx0, sx1, sx2, sx3, sx4, sx5, sx6, tf19, ev3_hold, sxo, sxc, sxp, sxq, sxr, sxs, sxl, sxm, simprocAttr, f7]
    refine amid (at_1 (hrC _) csc_len hp rfl fun ad => ?_)
    simp (config := { maxSteps := 4000000 }) only [↓sx0, ↓sx1, ↓sx2, ↓sx3, ↓sx4, ↓sx5, ↓sx6, sx0, sx1, sx2, sx3, sx4, sx5, sx6, tf19, ev3_hold, sxo, sxc, sxp, sxq, sxr, sxs, sxl, sxm, simprocAttr, e1, dn]
    refine CallOb.pureH (fun w' hp => harC _ _ w' hp) ?_
    rintro q N2 rfl
    cases hB : psB p.1 ((d.c.tide.length : Int) - 1) with
    | false =>
      refine ⟨?_⟩
      simp (config := { maxSteps := 4000000 }) only [↓sx0, ↓sx1, ↓sx2, ↓sx3, ↓sx4, ↓sx5, ↓sx6, sx0, sx1, sx2, sx3, sx4, sx5, sx6, tf19, ev3_hold, sxo, sxc, sxp, sxq, sxr, sxs, sxl, sxm, simprocAttr]
      refine ⟨20, rfl, (fun h => by cases h), fun h => ?_⟩
      have h2 := h.cu p.1 (by rw [← hps]; exact List.mem_map_of_mem hpm)
      have := hiff.2 h2
      rw [hB] at this
      cases this
    | true =>
      refine ⟨?_⟩
      simp (config := { maxSteps := 4000000 }) only [↓sx0, ↓sx1, ↓sx2, ↓sx3, ↓sx4, ↓sx5, ↓sx6, sx0, sx1, sx2, sx3, sx4, sx5, sx6, tf19, ev3_hold, sxo, sxc, sxp, sxq, sxr, sxs, sxl, sxm, simprocAttr, f8]
      refine ⟨j + 1, _, rfl, HImp.nil _ _, ⟨by omega, fun p' hp' => ?_⟩, by omega⟩
      rw [List.take_succ, hp] at hp'
      rcases List.mem_append.1 hp' with h | h
      · exact hallC _ h
      · simp at h
        subst h
        exact hiff.1 hB
  have e7 : ((i : Int) < (d.zones.length : Int)) = True := eq_true (by omega)
  have e8 : wr (i + 1) = ((i + 1 : Nat) : Int) := (wrap_id (by omega)).trans (by omega)
  obtain ⟨z, hz⟩ : ∃ z, d.zones[i]? = some z := ⟨_, List.getElem?_eq_getElem (by omega)⟩
  have hzm := List.mem_of_getElem? hz
  cases hB : decide (0 ≤ z ∧ z ≤ (ps.length : Int) - 1) with
  | false =>
    have hB' := of_decide_eq_false hB
    refine ⟨?_⟩
    simp (config := { maxSteps := 4000000 }) only [↓sx0, ↓sx1, ↓sx2, ↓sx3, ↓sx4, ↓sx5, ↓sx6, sx0, sx1, sx2, sx3, sx4, sx5, sx6, tf19, ev3_hold, sxo, sxc, sxp, sxq, sxr, sxs, sxl, sxm, simprocAttr, e7]
    refine amid (at_1 (hrZ _) i1_len hz rfl fun ad => ?_)
    simp (config := { maxSteps := 4000000 }) only [↓sx0, ↓sx1, ↓sx2, ↓sx3, ↓sx4, ↓sx5, ↓sx6, sx0, sx1, sx2, sx3, sx4, sx5, sx6, tf19, ev3_hold, sxo, sxc, sxp, sxq, sxr, sxs, sxl, sxm, simprocAttr, e2, detX3_eq, hB]
    refine ⟨20, rfl, (fun h => by cases h), fun h => ?_⟩
    have := h.zo z hzm
    omega
  | true =>
    have hB' := of_decide_eq_true hB
    refine ⟨?_⟩
    simp (config := { maxSteps := 4000000 }) only [↓sx0, ↓sx1, ↓sx2, ↓sx3, ↓sx4, ↓sx5, ↓sx6, sx0, sx1, sx2, sx3, sx4, sx5, sx6, tf19, ev3_hold, sxo, sxc, sxp, sxq, sxr, sxs, sxl, sxm, simprocAttr, e7]
    refine amid (at_1 (hrZ _) i1_len hz rfl fun ad => ?_)
    simp (config := { maxSteps := 4000000 }) only [↓sx0, ↓sx1, ↓sx2, ↓sx3, ↓sx4, ↓sx5, ↓sx6, sx0, sx1, sx2, sx3, sx4, sx5, sx6, tf19, ev3_hold, sxo, sxc, sxp, sxq, sxr, sxs, sxl, sxm, simprocAttr, e2, e8, detX3_eq, hB]
    refine ⟨i + 1, _, rfl, HImp.nil _ _, ⟨by omega, fun z' hz' => ?_⟩, by omega⟩
    rw [List.take_succ, hz] at hz'
    rcases List.mem_append.1 hz' with h | h
    · exact hall _ h
    · simp at h
      subst h
      omega
theorem far2_fn (w : World) (d : Drf) (sD sT sS vZ vC vW : Value) (hd : DfOk w d sD sT sS vZ vC vW) :
    SX.Fn Tryd.prog 18 [dfv d sD sT sS vZ vC vW] w (fun _ => False) fun q N => ∃ b, q = .bool b ∧ (b = false → d.small) := by
  have hck := fun (hs : d.small) (H : List HO) w' (hp : Hp ⟨w, fun _ => False⟩ H w') => rcheck2_fn w' d sD sT sS vZ vC vW (hd.hp hp.ext) hs
  obtain ⟨hc, hzo, hcu, hwi⟩ := hd
  obtain ⟨sD', sT', sS', he, hsD, hsT, hsS⟩ := hc
  injection he with he
  injection he with he
  simp only [List.cons.injEq, true_and, and_true] at he
  obtain ⟨rfl, rfl, rfl⟩ := he
  have hce := fun w' => cells_fn w' d.c.wide d.c.high sD sT sS
  obtain ⟨aD, nD, cD, rfl⟩ := hsD.shape
  obtain ⟨aT, nT, cT, rfl⟩ := hsT.shape
  obtain ⟨aS, nS, cS, rfl⟩ := hsS.shape
  obtain ⟨aZ, nZ, cZ, rfl⟩ := hzo.shape
  obtain ⟨aW, nW, cW, rfl⟩ := hwi.shape
  obtain ⟨ps, hps, hsC, hsP⟩ := hcu
  obtain ⟨aC, nC, cC, rfl⟩ := hsC.shape
  have hnD := hsD.le i1_len (by omega)
  have hnT := hsT.le spc_len (by omega)
  have hnS := hsS.le i1_len (by omega)
  have hnZ := hzo.le i1_len (by omega)
  have hnW := hwi.le psc_len (by omega)
  have hnC := hsC.le csc_len (by omega)
  subst hnD hnT hnS hnZ hnW hnC
  have hpl : ps.length = d.cur.length := by rw [← hps, List.length_map]
  have hrC := fun H => hsC.rd0 H
  have hrT := fun H => hsT.rd0 H
  have dn : ∀ (g : Nat) (xs : List Value), det0 g xs = none := fun _ _ => rfl
  unfold dfv
  unfold dfv at hck
  refine walk [] [] (det0_ok _ _) Tryd.func18 rfl Tryd.ntmps18 res18 (by kernel_rfl) no_facts ?_
  by_cases h1 : (d.c.depth.length : Int) > 200
  · have e1 : ((d.c.depth.length : Int) > 200) = True := eq_true h1
    simp (config := { maxSteps := 4000000 }) only [↓sx0, ↓sx1, ↓sx2, ↓sx3, ↓sx4, ↓sx5, ↓sx6, sx0, sx1, sx2, sx3, sx4, sx5, sx6, tf18, ev3_hold, sxo, sxc, sxp, sxq, sxr, sxs, sxl, sxm, simprocAttr, e1]
    exact ⟨true, rfl, fun h => by cases h⟩
  have e1 : ((d.c.depth.length : Int) > 200) = False := eq_false h1
  by_cases h2 : (d.c.tide.length : Int) > 80
  · have e2 : ((d.c.tide.length : Int) > 80) = True := eq_true h2
    simp (config := { maxSteps := 4000000 }) only [↓sx0, ↓sx1, ↓sx2, ↓sx3, ↓sx4, ↓sx5, ↓sx6, sx0, sx1, sx2, sx3, sx4, sx5, sx6, tf18, ev3_hold, sxo, sxc, sxp, sxq, sxr, sxs, sxl, sxm, simprocAttr, e1, e2]
    exact ⟨true, rfl, fun h => by cases h⟩
  have e2 : ((d.c.tide.length : Int) > 80) = False := eq_false h2
  by_cases h3 : (d.c.swell.length : Int) > 80
  · have e3 : ((d.c.swell.length : Int) > 80) = True := eq_true h3
    simp (config := { maxSteps := 4000000 }) only [↓sx0, ↓sx1, ↓sx2, ↓sx3, ↓sx4, ↓sx5, ↓sx6, sx0, sx1, sx2, sx3, sx4, sx5, sx6, tf18, ev3_hold, sxo, sxc, sxp, sxq, sxr, sxs, sxl, sxm, simprocAttr, e1, e2, e3]
    exact ⟨true, rfl, fun h => by cases h⟩
  have e3 : ((d.c.swell.length : Int) > 80) = False := eq_false h3
  by_cases h4 : (d.zones.length : Int) > 200
  · have e4 : ((d.zones.length : Int) > 200) = True := eq_true h4
    simp (config := { maxSteps := 4000000 }) only [↓sx0, ↓sx1, ↓sx2, ↓sx3, ↓sx4, ↓sx5, ↓sx6, sx0, sx1, sx2, sx3, sx4, sx5, sx6, tf18, ev3_hold, sxo, sxc, sxp, sxq, sxr, sxs, sxl, sxm, simprocAttr, e1, e2, e3, e4]
    exact ⟨true, rfl, fun h => by cases h⟩
  have e4 : ((d.zones.length : Int) > 200) = False := eq_false h4
  by_cases h5 : (ps.length : Int) > 8
  · have e5 : ((ps.length : Int) > 8) = True := eq_true h5
    simp (config := { maxSteps := 4000000 }) only [↓sx0, ↓sx1, ↓sx2, ↓sx3, ↓sx4, ↓sx5, ↓sx6, sx0, sx1, sx2, sx3, sx4, sx5, sx6, tf18, ev3_hold, sxo, sxc, sxp, sxq, sxr, sxs, sxl, sxm, simprocAttr, e1, e2, e3, e4, e5]
    exact ⟨true, rfl, fun h => by cases h⟩
  have e5 : ((ps.length : Int) > 8) = False := eq_false h5
  by_cases h6 : (d.wind.length : Int) > 80
  · have e6 : ((d.wind.length : Int) > 80) = True := eq_true h6
    simp (config := { maxSteps := 4000000 }) only [↓sx0, ↓sx1, ↓sx2, ↓sx3, ↓sx4, ↓sx5, ↓sx6, sx0, sx1, sx2, sx3, sx4, sx5, sx6, tf18, ev3_hold, sxo, sxc, sxp, sxq, sxr, sxs, sxl, sxm, simprocAttr, e1, e2, e3, e4, e5, e6]
    exact ⟨true, rfl, fun h => by cases h⟩
  have e6 : ((d.wind.length : Int) > 80) = False := eq_false h6
  simp (config := { maxSteps := 4000000 }) only [↓sx0, ↓sx1, ↓sx2, ↓sx3, ↓sx4, ↓sx5, ↓sx6, sx0, sx1, sx2, sx3, sx4, sx5, sx6, tf18, ev3_hold, sxo, sxc, sxp, sxq, sxr, sxs, sxl, sxm, simprocAttr, e1, e2, e3, e4, e5, e6]
  refine loop_constH [] (HImp.nil _ _) [(2, 3), (42, 55)] (fun j : Nat => [(3, I j)]) (fun j H1 => j ≤ ps.length ∧ ∀ p ∈ ps.take j, p.1.length ≤ 1000) (fun j => ps.length - j) 0 ?_ ⟨Nat.zero_le _, by simp⟩ ?_
  · simp (config := { maxSteps := 4000000 }) only [↓sx0, ↓sx1, ↓sx2, ↓sx3, ↓sx4, ↓sx5, ↓sx6, sx0, sx1, sx2, sx3, sx4, sx5, sx6, tf18, ev3_hold, sxo, sxc, sxp, sxq, sxr, sxs, sxl, sxm, simprocAttr]
    try simp
  rintro j H1 g1 ⟨hj, hall⟩
  by_cases hjn : j = ps.length
  · have f7 : ((j : Int) < (ps.length : Int)) = False := eq_false (by omega)
    rw [List.take_of_length_le (by omega)] at hall
    have hsm : d.small := ⟨⟨by omega, by omega, by omega⟩, by omega, by omega, by omega, fun l hl => by
      rw [← hps] at hl
      obtain ⟨p, hp, rfl⟩ := List.mem_map.1 hl
      exact hall p hp⟩
    have hck := hck hsm
    refine ⟨?_⟩
    simp (config := { maxSteps := 4000000 }) only [↓sx0, ↓sx1, ↓sx2, ↓sx3, ↓sx4, ↓sx5, ↓sx6, sx0, sx1, sx2, sx3, sx4, sx5, sx6, tf18, ev3_hold, sxo, sxc, sxp, sxq, sxr, sxs, sxl, sxm, simprocAttr, f7, dn]
    refine CallOb.pureH (fun w' hp => hck _ w' hp) ?_
    rintro q N2 ⟨e, rfl, he⟩
    by_cases hok : d.ok
    case neg =>
      have z1 : (e = 0) = False := eq_false fun h => hok (he.1 h)
      refine ⟨?_⟩
      simp (config := { maxSteps := 4000000 }) only [↓sx0, ↓sx1, ↓sx2, ↓sx3, ↓sx4, ↓sx5, ↓sx6, sx0, sx1, sx2, sx3, sx4, sx5, sx6, tf18, ev3_hold, sxo, sxc, sxp, sxq, sxr, sxs, sxl, sxm, simprocAttr, z1]
      exact ⟨false, rfl, fun _ => hsm⟩
    have z1 : (e = 0) = True := eq_true (he.2 hok)
    refine ⟨?_⟩
    simp (config := { maxSteps := 4000000 }) only [↓sx0, ↓sx1, ↓sx2, ↓sx3, ↓sx4, ↓sx5, ↓sx6, sx0, sx1, sx2, sx3, sx4, sx5, sx6, tf18, ev3_hold, sxo, sxc, sxp, sxq, sxr, sxs, sxl, sxm, simprocAttr, z1]
    refine loop_constH [] (HImp.nil _ _) [(2, 2), (4, 4), (59, 82)] (fun i : Nat => [(4, I i)]) (fun i H1 => i ≤ d.c.tide.length) (fun i => d.c.tide.length - i) 0 ?_ (Nat.zero_le _) ?_
    · simp (config := { maxSteps := 4000000 }) only [↓sx0, ↓sx1, ↓sx2, ↓sx3, ↓sx4, ↓sx5, ↓sx6, sx0, sx1, sx2, sx3, sx4, sx5, sx6, tf18, ev3_hold, sxo, sxc, sxp, sxq, sxr, sxs, sxl, sxm, simprocAttr]
      try simp
    rintro i H1 g1 hi
    by_cases hin : i = d.c.tide.length
    · have f8 : ((i : Int) < (d.c.tide.length : Int)) = False := eq_false (by omega)
      refine ⟨?_⟩
      simp (config := { maxSteps := 4000000 }) only [↓sx0, ↓sx1, ↓sx2, ↓sx3, ↓sx4, ↓sx5, ↓sx6, sx0, sx1, sx2, sx3, sx4, sx5, sx6, tf18, ev3_hold, sxo, sxc, sxp, sxq, sxr, sxs, sxl, sxm, simprocAttr, f8, dn]
      refine CallOb.pureH (fun w' hp => hce w') ?_
      rintro q N3 rfl
      by_cases k1 : wr (d.c.wide * d.c.high) > 20
      · have g1 : (wr (d.c.wide * d.c.high) > 20) = True := eq_true k1
        refine ⟨?_⟩
        simp (config := { maxSteps := 4000000 }) only [↓sx0, ↓sx1, ↓sx2, ↓sx3, ↓sx4, ↓sx5, ↓sx6, sx0, sx1, sx2, sx3, sx4, sx5, sx6, tf18, ev3_hold, sxo, sxc, sxp, sxq, sxr, sxs, sxl, sxm, simprocAttr, g1]
        exact ⟨_, rfl, fun _ => hsm⟩
      · have g1 : (wr (d.c.wide * d.c.high) > 20) = False := eq_false k1
        refine ⟨?_⟩
        simp (config := { maxSteps := 4000000 }) only [↓sx0, ↓sx1, ↓sx2, ↓sx3, ↓sx4, ↓sx5, ↓sx6, sx0, sx1, sx2, sx3, sx4, sx5, sx6, tf18, ev3_hold, sxo, sxc, sxp, sxq, sxr, sxs, sxl, sxm, simprocAttr, g1]
        exact ⟨_, rfl, fun _ => hsm⟩
    have f8 : ((i : Int) < (d.c.tide.length : Int)) = True := eq_true (by omega)
    have f9 : wr (i + 1) = ((i + 1 : Nat) : Int) := (wrap_id (by omega)).trans (by omega)
    obtain ⟨x, hx⟩ : ∃ x, d.c.tide[i]? = some x := ⟨_, List.getElem?_eq_getElem (by omega)⟩
    obtain ⟨lo, hi'⟩ := x
    by_cases k1 : wr (hi' - lo) > 7
    · have g1 : (wr (hi' - lo) > 7) = True := eq_true k1
      refine ⟨?_⟩
      simp (config := { maxSteps := 4000000 }) only [↓sx0, ↓sx1, ↓sx2, ↓sx3, ↓sx4, ↓sx5, ↓sx6, sx0, sx1, sx2, sx3, sx4, sx5, sx6, tf18, ev3_hold, sxo, sxc, sxp, sxq, sxr, sxs, sxl, sxm, simprocAttr, f8]
      refine amid (at_f (hrT _) spc_len hx (o := 1) (x := I hi') rfl fun ad1 => ?_)
      simp (config := { maxSteps := 4000000 }) only [↓sx0, ↓sx1, ↓sx2, ↓sx3, ↓sx4, ↓sx5, ↓sx6, sx0, sx1, sx2, sx3, sx4, sx5, sx6, tf18, ev3_hold, sxo, sxc, sxp, sxq, sxr, sxs, sxl, sxm, simprocAttr]
      refine at_f (hrT _) spc_len hx (o := 0) (x := I lo) rfl fun ad2 => ?_
      simp (config := { maxSteps := 4000000 }) only [↓sx0, ↓sx1, ↓sx2, ↓sx3, ↓sx4, ↓sx5, ↓sx6, sx0, sx1, sx2, sx3, sx4, sx5, sx6, tf18, ev3_hold, sxo, sxc, sxp, sxq, sxr, sxs, sxl, sxm, simprocAttr, g1]
      exact ⟨true, rfl, fun _ => hsm⟩
    · have g1 : (wr (hi' - lo) > 7) = False := eq_false k1
      refine ⟨?_⟩
      simp (config := { maxSteps := 4000000 }) only [↓sx0, ↓sx1, ↓sx2, ↓sx3, ↓sx4, ↓sx5, ↓sx6, sx0, sx1, sx2, sx3, sx4, sx5, sx6, tf18, ev3_hold, sxo, sxc, sxp, sxq, sxr, sxs, sxl, sxm, simprocAttr, f8]
      refine amid (at_f (hrT _) spc_len hx (o := 1) (x := I hi') rfl fun ad1 => ?_)
      simp (config := { maxSteps := 4000000 }) only [↓sx0, ↓sx1, ↓sx2, ↓sx3, ↓sx4, ↓sx5, ↓sx6, sx0, sx1, sx2, sx3, sx4, sx5, sx6, tf18, ev3_hold, sxo, sxc, sxp, sxq, sxr, sxs, sxl, sxm, simprocAttr]
      refine at_f (hrT _) spc_len hx (o := 0) (x := I lo) rfl fun ad2 => ?_
      simp (config := { maxSteps := 4000000 }) only [↓sx0, ↓sx1, ↓sx2, ↓sx3, ↓sx4, ↓sx5, ↓sx6, sx0, sx1, sx2, sx3, sx4, sx5, sx6, tf18, ev3_hold, sxo, sxc, sxp, sxq, sxr, sxs, sxl, sxm, simprocAttr, g1, f9]
      exact ⟨i + 1, _, rfl, HImp.nil _ _, by omega, by omega⟩
  have f7 : ((j : Int) < (ps.length : Int)) = True := eq_true (by omega)
  have f8 : wr (j + 1) = ((j + 1 : Nat) : Int) := (wrap_id (by omega)).trans (by omega)
  obtain ⟨p, hp⟩ : ∃ p, ps[j]? = some p := ⟨_, List.getElem?_eq_getElem (by omega)⟩
  have hpm := List.mem_of_getElem? hp
  obtain ⟨pl, pa, pn, pc⟩ := p
  have hsl : Sl w (.slice pa pn pc) 3 (cat psc pl) := hsP _ hpm
  have hnp := hsl.le psc_len (by omega)
  subst hnp
  by_cases k1 : (pl.length : Int) > 80
  · have g1 : ((pl.length : Int) > 80) = True := eq_true k1
    refine ⟨?_⟩
    simp (config := { maxSteps := 4000000 }) only [↓sx0, ↓sx1, ↓sx2, ↓sx3, ↓sx4, ↓sx5, ↓sx6, sx0, sx1, sx2, sx3, sx4, sx5, sx6, tf18, ev3_hold, sxo, sxc, sxp, sxq, sxr, sxs, sxl, sxm, simprocAttr, f7]
    refine amid (at_1 (hrC _) csc_len hp rfl fun ad => ?_)
    unfold csv
    simp (config := { maxSteps := 4000000 }) only [↓sx0, ↓sx1, ↓sx2, ↓sx3, ↓sx4, ↓sx5, ↓sx6, sx0, sx1, sx2, sx3, sx4, sx5, sx6, tf18, ev3_hold, sxo, sxc, sxp, sxq, sxr, sxs, sxl, sxm, simprocAttr, g1]
    exact ⟨true, rfl, fun h => by cases h⟩
  · have g1 : ((pl.length : Int) > 80) = False := eq_false k1
    refine ⟨?_⟩
    simp (config := { maxSteps := 4000000 }) only [↓sx0, ↓sx1, ↓sx2, ↓sx3, ↓sx4, ↓sx5, ↓sx6, sx0, sx1, sx2, sx3, sx4, sx5, sx6, tf18, ev3_hold, sxo, sxc, sxp, sxq, sxr, sxs, sxl, sxm, simprocAttr, f7]
    refine amid (at_1 (hrC _) csc_len hp rfl fun ad => ?_)
    unfold csv
    simp (config := { maxSteps := 4000000 }) only [↓sx0, ↓sx1, ↓sx2, ↓sx3, ↓sx4, ↓sx5, ↓sx6, sx0, sx1, sx2, sx3, sx4, sx5, sx6, tf18, ev3_hold, sxo, sxc, sxp, sxq, sxr, sxs, sxl, sxm, simprocAttr, g1, f8]
    refine ⟨j + 1, _, rfl, HImp.nil _ _, ⟨by omega, fun p' hp' => ?_⟩, by omega⟩
    rw [List.take_succ, hp] at hp'
    rcases List.mem_append.1 hp' with h | h
    · exact hall _ h
    · simp at h
      subst h
      simp only []
      omega
end Go.Proofs.YtogicfoigeongaaDoor

namespace Go.Proofs.YtogicfoigeongaaDoor
open Go.RowKit Go.SX
set_option maxRecDepth 20000
set_option maxHeartbeats 0
set_option linter.unusedSimpArgs false
set_option linter.unusedVariables false
def untc (u : Unt) : List Value := [I u.cell, I u.reach, I u.dr, I u.chance]
theorem untc_len (u : Unt) : (untc u).length = 4 := rfl
def hnv (d : Drf) (sD sT sS vZ vC vW vU : Value) (T : Int) : Value := .agg #[I d.c.wide, I d.c.high, sD, sT, sS, vZ, vC, vW, vU, I T]
structure HuOk (w : World) (d : Drf) (us : List Unt) (sD sT sS vZ vC vW vU : Value) : Prop where
  df : DfOk w d sD sT sS vZ vC vW
  un : Sl w vU 4 (cat untc us)
theorem HuOk.hp {w w' : World} {d : Drf} {us : List Unt} {sD sT sS vZ vC vW vU : Value} (h : HuOk w d us sD sT sS vZ vC vW vU) (hk : Keep (fun _ => False) w w') : HuOk w' d us sD sT sS vZ vC vW vU := ⟨h.df.hp hk, h.un.keep hk (fun _ _ => id)⟩
theorem far4_fn (w : World) (d : Drf) (us : List Unt) (T : Int) (sD sT sS vZ vC vW vU : Value) (h : HuOk w d us sD sT sS vZ vC vW vU) :
    SX.Fn Tryd.prog 5 [hnv d sD sT sS vZ vC vW vU T] w (fun _ => False) fun q N => ∃ b, q = .bool b ∧ (b = false → d.small ∧ us.length ≤ 20) := by
  have dn : ∀ (g : Nat) (xs : List Value), det0 g xs = none := fun _ _ => rfl
  have hf := fun (H : List HO) w' (hp : Hp ⟨w, fun _ => False⟩ H w') => far2_fn w' d sD sT sS vZ vC vW (h.df.hp hp.ext)
  obtain ⟨hd, hu⟩ := h
  obtain ⟨aU, nU, cU, rfl⟩ := hu.shape
  have hnU := hu.le untc_len (by omega)
  subst hnU
  unfold hnv
  unfold dfv at hf
  refine walk [] [] (det0_ok _ _) Tryd.func5 rfl Tryd.ntmps5 res5 (by kernel_rfl) no_facts ?_
  simp (config := { maxSteps := 4000000 }) only [↓sx0, ↓sx1, ↓sx2, ↓sx3, ↓sx4, ↓sx5, ↓sx6, sx0, sx1, sx2, sx3, sx4, sx5, sx6, tf5, ev3_hold, sxo, sxc, sxp, sxq, sxr, sxs, sxl, sxm, simprocAttr, dn]
  refine CallOb.pureH (fun w' hp => hf _ w' hp) ?_
  rintro q N ⟨b, rfl, hb⟩
  cases b with
  | true =>
    refine ⟨?_⟩
    simp (config := { maxSteps := 4000000 }) only [↓sx0, ↓sx1, ↓sx2, ↓sx3, ↓sx4, ↓sx5, ↓sx6, sx0, sx1, sx2, sx3, sx4, sx5, sx6, tf5, ev3_hold, sxo, sxc, sxp, sxq, sxr, sxs, sxl, sxm, simprocAttr, dn]
    exact ⟨true, rfl, fun h => by cases h⟩
  | false =>
    by_cases h1 : (us.length : Int) > 20
    · have e1 : ((us.length : Int) > 20) = True := eq_true h1
      refine ⟨?_⟩
      simp (config := { maxSteps := 4000000 }) only [↓sx0, ↓sx1, ↓sx2, ↓sx3, ↓sx4, ↓sx5, ↓sx6, sx0, sx1, sx2, sx3, sx4, sx5, sx6, tf5, ev3_hold, sxo, sxc, sxp, sxq, sxr, sxs, sxl, sxm, simprocAttr, e1, dn]
      exact ⟨_, rfl, fun h => by first | (cases h; done) | (simp at h)⟩
    · have e1 : ((us.length : Int) > 20) = False := eq_false h1
      refine ⟨?_⟩
      simp (config := { maxSteps := 4000000 }) only [↓sx0, ↓sx1, ↓sx2, ↓sx3, ↓sx4, ↓sx5, ↓sx6, sx0, sx1, sx2, sx3, sx4, sx5, sx6, tf5, ev3_hold, sxo, sxc, sxp, sxq, sxr, sxs, sxl, sxm, simprocAttr, e1, dn]
      exact ⟨_, rfl, fun _ => ⟨hb rfl, by omega⟩⟩
theorem farPlan_fn (w : World) (v : Value) (plan : List (List Int)) (h : LLOk i1 1 w v plan) (hl : plan.length ≤ 9223372036854775807) :
    SX.Fn Tryd.prog 6 [v] w (fun _ => False) fun q N => ∃ b, q = .bool b ∧ (b = false → plan.length ≤ 20 ∧ ∀ p ∈ plan, p.length ≤ 80) := by
  obtain ⟨ps, hps, hs, hr⟩ := h
  obtain ⟨a, n, c, rfl⟩ := hs.shape
  have hn := hs.le lpc_len (by omega)
  subst hn
  have hpl : ps.length = plan.length := by rw [← hps, List.length_map]
  have hrC := fun H => hs.rd0 H
  refine walk [] [] (det0_ok _ _) Tryd.func6 rfl Tryd.ntmps6 res6 (by kernel_rfl) no_facts ?_
  simp (config := { maxSteps := 4000000 }) only [↓sx0, ↓sx1, ↓sx2, ↓sx3, ↓sx4, ↓sx5, ↓sx6, sx0, sx1, sx2, sx3, sx4, sx5, sx6, tf6, ev3_hold, sxo, sxc, sxp, sxq, sxr, sxs, sxl, sxm, simprocAttr]
  refine loop_constH [] (HImp.nil _ _) [(2, 15)] (fun j : Nat => [(2, .bool false), (3, I j)]) (fun j H1 => j ≤ ps.length ∧ ∀ p ∈ ps.take j, p.1.length ≤ 80) (fun j => ps.length - j) 0 ?_ ⟨Nat.zero_le _, by simp⟩ ?_
  · simp (config := { maxSteps := 4000000 }) only [↓sx0, ↓sx1, ↓sx2, ↓sx3, ↓sx4, ↓sx5, ↓sx6, sx0, sx1, sx2, sx3, sx4, sx5, sx6, tf6, ev3_hold, sxo, sxc, sxp, sxq, sxr, sxs, sxl, sxm, simprocAttr]
    try simp
  rintro j H1 g1 ⟨hj, hall⟩
  by_cases hjn : j = ps.length
  · have f7 : ((j : Int) < (ps.length : Int)) = False := eq_false (by omega)
    rw [List.take_of_length_le (by omega)] at hall
    by_cases h1 : (ps.length : Int) > 20
    · have e1 : ((ps.length : Int) > 20) = True := eq_true h1
      refine ⟨?_⟩
      simp (config := { maxSteps := 4000000 }) only [↓sx0, ↓sx1, ↓sx2, ↓sx3, ↓sx4, ↓sx5, ↓sx6, sx0, sx1, sx2, sx3, sx4, sx5, sx6, tf6, ev3_hold, sxo, sxc, sxp, sxq, sxr, sxs, sxl, sxm, simprocAttr, f7, e1]
      exact ⟨_, rfl, fun h => by first | (cases h; done) | (simp at h)⟩
    · have e1 : ((ps.length : Int) > 20) = False := eq_false h1
      refine ⟨?_⟩
      simp (config := { maxSteps := 4000000 }) only [↓sx0, ↓sx1, ↓sx2, ↓sx3, ↓sx4, ↓sx5, ↓sx6, sx0, sx1, sx2, sx3, sx4, sx5, sx6, tf6, ev3_hold, sxo, sxc, sxp, sxq, sxr, sxs, sxl, sxm, simprocAttr, f7, e1]
      refine ⟨_, rfl, fun _ => ⟨by omega, fun l hl => ?_⟩⟩
      rw [← hps] at hl
      obtain ⟨p, hp, rfl⟩ := List.mem_map.1 hl
      exact hall p hp
  have f7 : ((j : Int) < (ps.length : Int)) = True := eq_true (by omega)
  have f8 : wr (j + 1) = ((j + 1 : Nat) : Int) := (wrap_id (by omega)).trans (by omega)
  obtain ⟨p, hp⟩ : ∃ p, ps[j]? = some p := ⟨_, List.getElem?_eq_getElem (by omega)⟩
  have hpm := List.mem_of_getElem? hp
  obtain ⟨pl, pa, pn, pc⟩ := p
  have hsl : Sl w (.slice pa pn pc) 1 (cat i1 pl) := hr _ hpm
  have hnp := hsl.le i1_len (by omega)
  subst hnp
  by_cases k1 : (pl.length : Int) > 80
  · have g1 : ((pl.length : Int) > 80) = True := eq_true k1
    refine ⟨?_⟩
    simp (config := { maxSteps := 4000000 }) only [↓sx0, ↓sx1, ↓sx2, ↓sx3, ↓sx4, ↓sx5, ↓sx6, sx0, sx1, sx2, sx3, sx4, sx5, sx6, tf6, ev3_hold, sxo, sxc, sxp, sxq, sxr, sxs, sxl, sxm, simprocAttr, f7]
    refine amid (at_1 (hrC _) lpc_len hp rfl fun ad => ?_)
    unfold lpv
    simp (config := { maxSteps := 4000000 }) only [↓sx0, ↓sx1, ↓sx2, ↓sx3, ↓sx4, ↓sx5, ↓sx6, sx0, sx1, sx2, sx3, sx4, sx5, sx6, tf6, ev3_hold, sxo, sxc, sxp, sxq, sxr, sxs, sxl, sxm, simprocAttr, g1]
    exact ⟨true, rfl, fun h => by cases h⟩
  · have g1 : ((pl.length : Int) > 80) = False := eq_false k1
    refine ⟨?_⟩
    simp (config := { maxSteps := 4000000 }) only [↓sx0, ↓sx1, ↓sx2, ↓sx3, ↓sx4, ↓sx5, ↓sx6, sx0, sx1, sx2, sx3, sx4, sx5, sx6, tf6, ev3_hold, sxo, sxc, sxp, sxq, sxr, sxs, sxl, sxm, simprocAttr, f7]
    refine amid (at_1 (hrC _) lpc_len hp rfl fun ad => ?_)
    unfold lpv
    simp (config := { maxSteps := 4000000 }) only [↓sx0, ↓sx1, ↓sx2, ↓sx3, ↓sx4, ↓sx5, ↓sx6, sx0, sx1, sx2, sx3, sx4, sx5, sx6, tf6, ev3_hold, sxo, sxc, sxp, sxq, sxr, sxs, sxl, sxm, simprocAttr, g1, f8]
    refine ⟨j + 1, _, rfl, HImp.nil _ _, ⟨by omega, fun p' hp' => ?_⟩, by omega⟩
    rw [List.take_succ, hp] at hp'
    rcases List.mem_append.1 hp' with h | h
    · exact hall _ h
    · simp at h
      subst h
      simp only []
      omega
def wi4 (n lo hi : Int) : Bool := decide (lo ≤ n ∧ n ≤ hi)
theorem rwithin4_fn (w : World) (n lo hi : Int) : SX.Fn Tryd.prog 20 [I n, I lo, I hi] w (fun _ => False) fun q N => q = .bool (wi4 n lo hi) := by
  unfold wi4
  by_cases h1 : lo ≤ n
  · have e1 : (n ≥ lo) = True := eq_true h1
    refine walk [] [] (det0_ok _ _) Tryd.func20 rfl Tryd.ntmps20 res20 (by kernel_rfl) no_facts ?_
    simp (config := { maxSteps := 4000000 }) only [↓sx0, ↓sx1, ↓sx2, ↓sx3, ↓sx4, ↓sx5, ↓sx6, sx0, sx1, sx2, sx3, sx4, sx5, sx6, tf20, ev3_hold, sxo, sxc, sxp, sxq, sxr, sxs, sxl, sxm, simprocAttr, e1]
    try simp [h1]
  · have e1 : (n ≥ lo) = False := eq_false h1
    refine walk [] [] (det0_ok _ _) Tryd.func20 rfl Tryd.ntmps20 res20 (by kernel_rfl) no_facts ?_
    simp (config := { maxSteps := 4000000 }) only [↓sx0, ↓sx1, ↓sx2, ↓sx3, ↓sx4, ↓sx5, ↓sx6, sx0, sx1, sx2, sx3, sx4, sx5, sx6, tf20, ev3_hold, sxo, sxc, sxp, sxq, sxr, sxs, sxl, sxm, simprocAttr, e1]
    try simp [h1]
def detH : Nat → List Value → Option Value
  | 20, [.int .i64 n, .int .i64 lo, .int .i64 hi] => some (.bool (wi4 n lo hi))
  | 21, [.agg ⟨[.int .i64 a, .int .i64 b, _, _, _]⟩, .int .i64 n] => some (.bool (isCellB a b n))
  | _, _ => none
theorem detH_ok (w0 : World) (X : Nat → Prop) : DetFn Tryd.prog ⟨w0, X⟩ detH := by
  intro g args v h w hk
  unfold detH at h
  split at h
  · cases h
    exact det_of_fn (rwithin4_fn w _ _ _)
  · cases h
    exact det_of_fn (isCell_fn w _ _ _ _ _ _)
  · cases h
theorem detH_eq : (∀ n lo hi : Int, detH 20 [I n, I lo, I hi] = some (.bool (wi4 n lo hi))) ∧ (∀ (a b n : Int) (x y z : Value), detH 21 [.agg #[I a, I b, x, y, z], I n] = some (.bool (isCellB a b n))) := ⟨fun _ _ _ => rfl, fun _ _ _ _ _ _ => rfl⟩
structure HuntP (d : Drf) (us : List Unt) (T : Int) : Prop where
  ok : d.ok
  T1 : 1 ≤ T ∧ T ≤ (d.c.tide.length : Int)
  n3 : us.length ≤ 3
  un : ∀ u ∈ us, 0 ≤ u.dr ∧ u.dr ≤ 100
theorem rcheck4_fn (w : World) (d : Drf) (us : List Unt) (T : Int) (sD sT sS vZ vC vW vU : Value) (h : HuOk w d us sD sT sS vZ vC vW vU) (hsm : d.small) (hu20 : us.length ≤ 20) :
    SX.Fn Tryd.prog 7 [hnv d sD sT sS vZ vC vW vU T] w (fun _ => False) fun q N => ∃ e, q = I e ∧ (e = 0 → HuntP d us T) := by
  have hf := fun (H : List HO) w' (hp : Hp ⟨w, fun _ => False⟩ H w') => rcheck2_fn w' d sD sT sS vZ vC vW (h.df.hp hp.ext) hsm
  obtain ⟨hd, hu⟩ := h
  obtain ⟨hc, hzo, hcu, hwi⟩ := hd
  obtain ⟨sD', sT', sS', he, hsD, hsT, hsS⟩ := hc
  injection he with he
  injection he with he
  simp only [List.cons.injEq, true_and, and_true] at he
  obtain ⟨rfl, rfl, rfl⟩ := he
  obtain ⟨aT, nT, cT, rfl⟩ := hsT.shape
  have hnT := hsT.le spc_len (by omega)
  subst hnT
  obtain ⟨aU, nU, cU, rfl⟩ := hu.shape
  have hnU := hu.le untc_len (by omega)
  subst hnU
  have hr := fun H => hu.rd0 H
  unfold hnv
  unfold dfv at hf
  have dn : (∀ xs, detH 19 xs = none) := fun _ => rfl
  refine walkC [3, 15] [] [] (detH_ok _ _) Tryd.func7 rfl Tryd.ntmps7 res7 (by kernel_rfl) no_facts ?_
  simp (config := { maxSteps := 4000000 }) only [↓sx0, ↓sx1, ↓sx2, ↓sx3, ↓sx4, ↓sx5, ↓sx6, sx0, sx1, sx2, sx3, sx4, sx5, sx6, tf7, ev3_hold, sxo, sxc, sxp, sxq, sxr, sxs, sxl, sxm, simprocAttr, dn]
  refine cut_constH [(5, 35)] (fun b : Bool => [(35, .bool b)]) (fun b H2 => (b = false → d.ok ∧ (1 ≤ T ∧ T ≤ (d.c.tide.length : Int)) ∧ us.length ≤ 3)) ?_ ?_
  · refine ⟨?_⟩
    simp (config := { maxSteps := 4000000 }) only [↓sx0, ↓sx1, ↓sx2, ↓sx3, ↓sx4, ↓sx5, ↓sx6, sx0, sx1, sx2, sx3, sx4, sx5, sx6, tf7, ev3_hold, sxo, sxc, sxp, sxq, sxr, sxs, sxl, sxm, simprocAttr, dn]
    refine CallOb.pureH (fun w' hp => hf _ w' hp) ?_
    rintro q N ⟨e, rfl, he⟩
    by_cases hok : e = 0
    case neg =>
      have z1 : (e = 0) = False := eq_false hok
      refine ⟨?_⟩
      simp (config := { maxSteps := 4000000 }) only [↓sx0, ↓sx1, ↓sx2, ↓sx3, ↓sx4, ↓sx5, ↓sx6, sx0, sx1, sx2, sx3, sx4, sx5, sx6, tf7, ev3_hold, sxo, sxc, sxp, sxq, sxr, sxs, sxl, sxm, simprocAttr, z1, dn]
      exact ⟨true, _, rfl, HImp.refl _ _, fun h => by cases h⟩
    have z1 : (e = 0) = True := eq_true hok
    cases h2 : wi4 T 1 (d.c.tide.length : Int) with
    | false =>
      refine ⟨?_⟩
      simp (config := { maxSteps := 4000000 }) only [↓sx0, ↓sx1, ↓sx2, ↓sx3, ↓sx4, ↓sx5, ↓sx6, sx0, sx1, sx2, sx3, sx4, sx5, sx6, tf7, ev3_hold, sxo, sxc, sxp, sxq, sxr, sxs, sxl, sxm, simprocAttr, z1, detH_eq, h2, dn]
      exact ⟨true, _, rfl, HImp.refl _ _, fun h => by cases h⟩
    | true =>
    cases h3 : wi4 (us.length : Int) 1 3 with
    | false =>
      refine ⟨?_⟩
      simp (config := { maxSteps := 4000000 }) only [↓sx0, ↓sx1, ↓sx2, ↓sx3, ↓sx4, ↓sx5, ↓sx6, sx0, sx1, sx2, sx3, sx4, sx5, sx6, tf7, ev3_hold, sxo, sxc, sxp, sxq, sxr, sxs, sxl, sxm, simprocAttr, z1, detH_eq, h2, h3, dn]
      exact ⟨true, _, rfl, HImp.refl _ _, fun h => by cases h⟩
    | true =>
    have h2' := of_decide_eq_true h2
    have h3' := of_decide_eq_true h3
    refine ⟨?_⟩
    simp (config := { maxSteps := 4000000 }) only [↓sx0, ↓sx1, ↓sx2, ↓sx3, ↓sx4, ↓sx5, ↓sx6, sx0, sx1, sx2, sx3, sx4, sx5, sx6, tf7, ev3_hold, sxo, sxc, sxp, sxq, sxr, sxs, sxl, sxm, simprocAttr, z1, detH_eq, h2, h3, dn]
    exact ⟨_, _, rfl, HImp.refl _ _, fun _ => ⟨he.1 hok, by omega, by omega⟩⟩
  rintro b H2 g2 hb
  cases b with
  | true =>
    refine ⟨?_⟩
    simp (config := { maxSteps := 4000000 }) only [↓sx0, ↓sx1, ↓sx2, ↓sx3, ↓sx4, ↓sx5, ↓sx6, sx0, sx1, sx2, sx3, sx4, sx5, sx6, tf7, ev3_hold, sxo, sxc, sxp, sxq, sxr, sxs, sxl, sxm, simprocAttr]
    exact ⟨40, rfl, fun h => by cases h⟩
  | false =>
  obtain ⟨hok, hT1, hn3⟩ := hb rfl
  refine ⟨?_⟩
  simp (config := { maxSteps := 4000000 }) only [↓sx0, ↓sx1, ↓sx2, ↓sx3, ↓sx4, ↓sx5, ↓sx6, sx0, sx1, sx2, sx3, sx4, sx5, sx6, tf7, ev3_hold, sxo, sxc, sxp, sxq, sxr, sxs, sxl, sxm, simprocAttr]
  refine loop_constH [] (HImp.nil _ _) [(2, 4), (36, 72)] (fun i : Nat => [(3, I i)]) (fun i H1 => i ≤ us.length ∧ ∀ u ∈ us.take i, 0 ≤ u.dr ∧ u.dr ≤ 100) (fun i => us.length - i) 0 ?_ ⟨Nat.zero_le _, by simp⟩ ?_
  · simp (config := { maxSteps := 4000000 }) only [↓sx0, ↓sx1, ↓sx2, ↓sx3, ↓sx4, ↓sx5, ↓sx6, sx0, sx1, sx2, sx3, sx4, sx5, sx6, tf7, ev3_hold, sxo, sxc, sxp, sxq, sxr, sxs, sxl, sxm, simprocAttr]
    try simp
  rintro i H1 g1 ⟨hi, hall⟩
  by_cases hin : i = us.length
  · have e7 : ((i : Int) < (us.length : Int)) = False := eq_false (by omega)
    rw [List.take_of_length_le (by omega)] at hall
    refine ⟨?_⟩
    simp (config := { maxSteps := 4000000 }) only [↓sx0, ↓sx1, ↓sx2, ↓sx3, ↓sx4, ↓sx5, ↓sx6, sx0, sx1, sx2, sx3, sx4, sx5, sx6, tf7, ev3_hold, sxo, sxc, sxp, sxq, sxr, sxs, sxl, sxm, simprocAttr, e7]
    exact ⟨0, rfl, fun _ => ⟨hok, hT1, hn3, hall⟩⟩
  have e7 : ((i : Int) < (us.length : Int)) = True := eq_true (by omega)
  have e8 : wr (i + 1) = ((i + 1 : Nat) : Int) := (wrap_id (by omega)).trans (by omega)
  obtain ⟨u, hx⟩ : ∃ u, us[i]? = some u := ⟨_, List.getElem?_eq_getElem (by omega)⟩
  have hux : untc u = [I u.cell, I u.reach, I u.dr, I u.chance] := rfl
  obtain ⟨u1, u2, u3, u4⟩ := u
  simp only [] at hux
  refine ⟨?_⟩
  simp (config := { maxSteps := 4000000 }) only [↓sx0, ↓sx1, ↓sx2, ↓sx3, ↓sx4, ↓sx5, ↓sx6, sx0, sx1, sx2, sx3, sx4, sx5, sx6, tf7, ev3_hold, sxo, sxc, sxp, sxq, sxr, sxs, sxl, sxm, simprocAttr, e7]
  refine amid (at_n (hr _) untc_len (by omega) hx fun ad => ?_)
  simp (config := { maxSteps := 4000000 }) only [↓sx0, ↓sx1, ↓sx2, ↓sx3, ↓sx4, ↓sx5, ↓sx6, sx0, sx1, sx2, sx3, sx4, sx5, sx6, tf7, ev3_hold, sxo, sxc, sxp, sxq, sxr, sxs, sxl, sxm, simprocAttr, hux]
  refine cut_constH [(48, 72)] (fun b : Bool => [(72, .bool b)]) (fun b H2 => (b = false → 0 ≤ u3 ∧ u3 ≤ 100)) ?_ ?_
  · cases h1 : isCellB d.c.wide d.c.high u1 with
    | false =>
      refine ⟨?_⟩
      simp (config := { maxSteps := 4000000 }) only [↓sx0, ↓sx1, ↓sx2, ↓sx3, ↓sx4, ↓sx5, ↓sx6, sx0, sx1, sx2, sx3, sx4, sx5, sx6, tf7, ev3_hold, sxo, sxc, sxp, sxq, sxr, sxs, sxl, sxm, simprocAttr, detH_eq, h1]
      exact ⟨true, _, rfl, HImp.refl _ _, fun h => by cases h⟩
    | true =>
    cases h2 : wi4 u2 0 3 with
    | false =>
      refine ⟨?_⟩
      simp (config := { maxSteps := 4000000 }) only [↓sx0, ↓sx1, ↓sx2, ↓sx3, ↓sx4, ↓sx5, ↓sx6, sx0, sx1, sx2, sx3, sx4, sx5, sx6, tf7, ev3_hold, sxo, sxc, sxp, sxq, sxr, sxs, sxl, sxm, simprocAttr, detH_eq, h1, h2]
      exact ⟨true, _, rfl, HImp.refl _ _, fun h => by cases h⟩
    | true =>
    cases h3 : wi4 u3 0 100 with
    | false =>
      refine ⟨?_⟩
      simp (config := { maxSteps := 4000000 }) only [↓sx0, ↓sx1, ↓sx2, ↓sx3, ↓sx4, ↓sx5, ↓sx6, sx0, sx1, sx2, sx3, sx4, sx5, sx6, tf7, ev3_hold, sxo, sxc, sxp, sxq, sxr, sxs, sxl, sxm, simprocAttr, detH_eq, h1, h2, h3]
      exact ⟨true, _, rfl, HImp.refl _ _, fun h => by cases h⟩
    | true =>
    have h3' := of_decide_eq_true h3
    refine ⟨?_⟩
    simp (config := { maxSteps := 4000000 }) only [↓sx0, ↓sx1, ↓sx2, ↓sx3, ↓sx4, ↓sx5, ↓sx6, sx0, sx1, sx2, sx3, sx4, sx5, sx6, tf7, ev3_hold, sxo, sxc, sxp, sxq, sxr, sxs, sxl, sxm, simprocAttr, detH_eq, h1, h2, h3]
    exact ⟨_, _, rfl, HImp.refl _ _, fun _ => by omega⟩
  rintro b H2 g2 hb
  cases b with
  | true =>
    refine ⟨?_⟩
    simp (config := { maxSteps := 4000000 }) only [↓sx0, ↓sx1, ↓sx2, ↓sx3, ↓sx4, ↓sx5, ↓sx6, sx0, sx1, sx2, sx3, sx4, sx5, sx6, tf7, ev3_hold, sxo, sxc, sxp, sxq, sxr, sxs, sxl, sxm, simprocAttr]
    exact ⟨40, rfl, fun h => by cases h⟩
  | false =>
  have hb := hb rfl
  refine ⟨?_⟩
  simp (config := { maxSteps := 4000000 }) only [↓sx0, ↓sx1, ↓sx2, ↓sx3, ↓sx4, ↓sx5, ↓sx6, sx0, sx1, sx2, sx3, sx4, sx5, sx6, tf7, ev3_hold, sxo, sxc, sxp, sxq, sxr, sxs, sxl, sxm, simprocAttr, e8]
  refine ⟨i + 1, _, rfl, HImp.nil _ _, ⟨by omega, fun z' hz' => ?_⟩, by omega⟩
  rw [List.take_succ, hx] at hz'
  rcases List.mem_append.1 hz' with h | h
  · exact hall _ h
  · simp at h
    subst h
    exact hb
end Go.Proofs.YtogicfoigeongaaDoor

namespace Go.Proofs.YtogicfoigeongaaDoor
open Go.RowKit Go.SX
set_option maxRecDepth 20000
set_option maxHeartbeats 0
set_option linter.unusedSimpArgs false
set_option linter.unusedVariables false
def NearD (W H : Nat) (pn : List (Lp Int)) : Prop := ∀ i p, pn[i]? = some p → p.1.length = W * H ∧ p.2.2.1 = W * H ∧ p.2.1 ≠ none ∧ ∀ x, x < W * H → lv p.1 x = (dst W H i x : Nat)
def Near4 (d : Drf) (r : Value) (N : List HO) : Prop := ∃ a c pn, r = .slice a d.c.depth.length c ∧ pn.length = d.c.depth.length ∧ NearD d.c.W d.c.H pn ∧ HO.row (.slice a d.c.depth.length c) 22 1 (cat lpc (pn : List (Lp Int))) ∈ N ∧ (∀ p ∈ pn, HO.row (lpv p) 3 1 (cat i1 p.1) ∈ N) ∧ (a = none → pn = [])
theorem near4_fn (w : World) (hw : Ways w) (d : Drf) (us : List Unt) (T : Int) (sD sT sS vZ vC vW vU : Value) (h : HuOk w d us sD sT sS vZ vC vW vU) (hok : d.c.ok) :
    SX.Fn Tryd.prog 22 [hnv d sD sT sS vZ vC vW vU T] w (fun _ => False) (Near4 d) := by
  have dn : ∀ (g : Nat) (xs : List Value), det0 g xs = none := fun _ _ => rfl
  obtain ⟨eW, eH, hW, hH, hlen⟩ := hok.dims
  have hst := fun (k : Nat) (hk : k < d.c.W * d.c.H) (H : List HO) w' (hp : Hp ⟨w, fun _ => False⟩ H w') => steps_fn w' (hw.hp hp) d.c.W d.c.H k sD sT sS hW hH hk
  rw [← eW, ← eH] at hst
  have hNN : d.c.W * d.c.H ≤ 144 := Nat.mul_le_mul hW.2 hH.2
  obtain ⟨hd, hu⟩ := h
  obtain ⟨hc, hzo, hcu, hwi⟩ := hd
  obtain ⟨sD', sT', sS', he, hsD, hsT, hsS⟩ := hc
  injection he with he
  injection he with he
  simp only [List.cons.injEq, true_and, and_true] at he
  obtain ⟨rfl, rfl, rfl⟩ := he
  obtain ⟨aD, nD, cD, rfl⟩ := hsD.shape
  have hnD := hsD.le i1_len (by omega)
  subst hnD
  unfold hnv Near4
  refine walk [] [] (det0_ok _ _) Tryd.func22 rfl Tryd.ntmps22 res22 (by kernel_rfl) no_facts ?_
  simp (config := { maxSteps := 4000000 }) only [↓sx0, ↓sx1, ↓sx2, ↓sx3, ↓sx4, ↓sx5, ↓sx6, sx0, sx1, sx2, sx3, sx4, sx5, sx6, tf22, ev3_hold, sxo, sxc, sxp, sxq, sxr, sxs, sxl, sxm, simprocAttr, dn]
  refine loop_constH [HO.row (.slice none 0 0) 22 1 (cat lpc ([] : List (Lp Int)))] (HImp.nilRow _ _ _ _) [(3, 21)] (fun q : Nat × Option Addr × Nat => [(3, .slice q.2.1 q.1 q.2.2), (4, I q.1)])
    (fun q H1 => q.1 ≤ d.c.depth.length ∧ ∃ pn DN, pn.length = q.1 ∧ (q.2.1 = none → pn = []) ∧ NearD d.c.W d.c.H pn ∧ H1 = HO.row (.slice q.2.1 q.1 q.2.2) 22 1 (cat lpc (pn : List (Lp Int))) :: DN ∧ ∀ p ∈ pn, HO.row (lpv p) 3 1 (cat i1 p.1) ∈ DN) (fun q => d.c.depth.length - q.1) (0, none, 0) ?_ ⟨Nat.zero_le _, [], [], rfl, fun _ => rfl, fun i p h => by simp at h, rfl, by simp⟩ ?_
  · simp (config := { maxSteps := 4000000 }) only [↓sx0, ↓sx1, ↓sx2, ↓sx3, ↓sx4, ↓sx5, ↓sx6, sx0, sx1, sx2, sx3, sx4, sx5, sx6, tf22, ev3_hold, sxo, sxc, sxp, sxq, sxr, sxs, sxl, sxm, simprocAttr]
    try simp
  rintro ⟨k, an, cn⟩ H3 g3 hinv3
  simp only [] at hinv3
  obtain ⟨hk, pn, DN, hpl, hnil, hnd, rfl, hDN⟩ := hinv3
  by_cases hkn : k = d.c.depth.length
  · subst hkn
    have e7 : ((d.c.depth.length : Int) < (d.c.depth.length : Int)) = False := eq_false (by omega)
    refine ⟨?_⟩
    simp (config := { maxSteps := 4000000 }) only [↓sx0, ↓sx1, ↓sx2, ↓sx3, ↓sx4, ↓sx5, ↓sx6, sx0, sx1, sx2, sx3, sx4, sx5, sx6, tf22, ev3_hold, sxo, sxc, sxp, sxq, sxr, sxs, sxl, sxm, simprocAttr, e7]
    exact ⟨an, cn, pn, rfl, hpl, hnd, List.mem_cons_self, fun p hp => List.mem_cons_of_mem _ (hDN p hp), hnil⟩
  have e7 : ((k : Int) < (d.c.depth.length : Int)) = True := eq_true (by omega)
  have e8 : wr (k + 1) = ((k + 1 : Nat) : Int) := (wrap_id (by omega)).trans (by omega)
  have hk2 : k < d.c.W * d.c.H := by omega
  have hst := hst k hk2
  refine ⟨?_⟩
  simp (config := { maxSteps := 4000000 }) only [↓sx0, ↓sx1, ↓sx2, ↓sx3, ↓sx4, ↓sx5, ↓sx6, sx0, sx1, sx2, sx3, sx4, sx5, sx6, tf22, ev3_hold, sxo, sxc, sxp, sxq, sxr, sxs, sxl, sxm, simprocAttr, e7, dn]
  refine CallOb.pureH (fun w' hp => hst _ w' hp) ?_
  rintro r N ⟨b, l, rfl, hm, hl, hds⟩
  refine ⟨?_⟩
  simp (config := { maxSteps := 4000000 }) only [↓sx0, ↓sx1, ↓sx2, ↓sx3, ↓sx4, ↓sx5, ↓sx6, sx0, sx1, sx2, sx3, sx4, sx5, sx6, tf22, ev3_hold, sxo, sxc, sxp, sxq, sxr, sxs, sxl, sxm, simprocAttr]
  intro b6
  refine app_one (f := lpc) (l := pn) ((l, some ⟨b, 0, none⟩, d.c.W * d.c.H, d.c.W * d.c.H) : Lp Int) (A := N ++ DN) (HImp.perm List.perm_middle) lpc_len lpc_one (by omega) fun a7 c7 => ?_
  rw [hpl]
  simp (config := { maxSteps := 4000000 }) only [↓sx0, ↓sx1, ↓sx2, ↓sx3, ↓sx4, ↓sx5, ↓sx6, sx0, sx1, sx2, sx3, sx4, sx5, sx6, tf22, ev3_hold, sxo, sxc, sxp, sxq, sxr, sxs, sxl, sxm, simprocAttr, e8]
  exact ⟨(k + 1, some a7, c7), _, ⟨rfl, rfl⟩, HImp.refl _ _, ⟨by simp only []; omega, pn ++ [((l, some ⟨b, 0, none⟩, d.c.W * d.c.H, d.c.W * d.c.H) : Lp Int)], N ++ DN, by rw [List.length_append, hpl]; rfl, fun h => (by cases h), fun i p hi => by
    rw [List.getElem?_append] at hi
    split at hi
    · exact hnd i p hi
    · rename_i hge
      have : i - pn.length = 0 := by
        have := (List.getElem?_eq_some_iff.1 hi).1
        rw [List.length_singleton] at this
        omega
      rw [this] at hi
      simp only [List.getElem?_cons_zero, Option.some.injEq] at hi
      subst hi
      obtain rfl : i = k := by omega
      exact ⟨hl, rfl, by simp, fun x hx => hds x _ hx (dst_is hk2 hx)⟩, rfl, fun p hp => by
    rcases List.mem_append.1 hp with h | h
    · exact List.mem_append_right _ (hDN p h)
    · rw [List.mem_singleton] at h
      subst h
      exact List.mem_append_left _ hm⟩, by simp only []; omega⟩
theorem at_10 {α : Type} {w0 : Base} {H : List HO} {a : Option Addr} {len cap : Nat} {f : α → List Value} {l : List α} {u : α} {x : Value} {K : Addr → SV → Prop} (h : Rdv w0 H (.slice a len cap) 1 (cat f l)) (hf : ∀ a, (f a).length = 1)
    (hu : l[0]? = some u) (hx : f u = [x]) (hK : ∀ ad, K ad (.v x)) : (0 : Int) < (len : Int) ∧ ∃ ad, a = some ad ∧ hold (LdOb w0 H (ad.add 0) none (K ad)) ⟨0⟩ := by
  obtain ⟨h1, h2, ad, e, h3⟩ := at_1 (k := 0) h hf hu hx hK
  exact ⟨by omega, ad, e, h3⟩
theorem can4_fn (w : World) (d : Drf) (us : List Unt) (T : Int) (sD sT sS vZ vC vW vU : Value) (h : HuOk w d us sD sT sS vZ vC vW vU) (hok : d.c.ok) (u1 u2 g u4 : Int) (k t : Nat) (hk : k < d.c.depth.length) (ht : t < d.c.tide.length) :
    SX.Fn Tryd.prog 23 [hnv d sD sT sS vZ vC vW vU T, .agg #[I u1, I u2, I g, I u4], I k, I t] w (fun _ => False) fun q N => q = .bool (decide (g = 0) || d.c.flt g t k) := by
  have dn : ∀ (g : Nat) (xs : List Value), det0 g xs = none := fun _ _ => rfl
  have hs := fun (H : List HO) w' (hp : Hp ⟨w, fun _ => False⟩ H w') => sure_fn w' _ d.c ((h.hp hp.ext).df.ch) hok g k t hk ht
  unfold hnv
  by_cases h0 : g = 0
  · have e0 : (g = 0) = True := eq_true h0
    rw [decide_eq_true h0]
    refine walk [] [] (det0_ok _ _) Tryd.func23 rfl Tryd.ntmps23 res23 (by kernel_rfl) no_facts ?_
    simp (config := { maxSteps := 4000000 }) only [↓sx0, ↓sx1, ↓sx2, ↓sx3, ↓sx4, ↓sx5, ↓sx6, sx0, sx1, sx2, sx3, sx4, sx5, sx6, tf23, ev3_hold, sxo, sxc, sxp, sxq, sxr, sxs, sxl, sxm, simprocAttr, e0, dn]
    try rfl
  · have e0 : (g = 0) = False := eq_false h0
    rw [decide_eq_false h0, Bool.false_or]
    unfold Cht.flt
    obtain ⟨B, hB⟩ : ∃ B, decide (d.c.over k t (d.c.tlo t) ≥ g) = B := ⟨_, rfl⟩
    rw [hB] at hs ⊢
    refine walk [] [] (det0_ok _ _) Tryd.func23 rfl Tryd.ntmps23 res23 (by kernel_rfl) no_facts ?_
    simp (config := { maxSteps := 4000000 }) only [↓sx0, ↓sx1, ↓sx2, ↓sx3, ↓sx4, ↓sx5, ↓sx6, sx0, sx1, sx2, sx3, sx4, sx5, sx6, tf23, ev3_hold, sxo, sxc, sxp, sxq, sxr, sxs, sxl, sxm, simprocAttr, e0, dn]
    refine CallOb.pureH (fun w' hp => hs _ w' hp) ?_
    rintro q N rfl
    refine ⟨?_⟩
    simp (config := { maxSteps := 4000000 }) only [↓sx0, ↓sx1, ↓sx2, ↓sx3, ↓sx4, ↓sx5, ↓sx6, sx0, sx1, sx2, sx3, sx4, sx5, sx6, tf23, ev3_hold, sxo, sxc, sxp, sxq, sxr, sxs, sxl, sxm, simprocAttr]
    try rfl
theorem isPlan_fn (w : World) (hw : Ways w) (d : Drf) (us : List Unt) (T : Nat) (sD sT sS vZ vC vW vU : Value) (h : HuOk w d us sD sT sS vZ vC vW vU) (hP : HuntP d us T) (vp : Value) (plan : List (List Int)) (hpl : LLOk i1 1 w vp plan) (hp20 : plan.length ≤ 20) :
    SX.Fn Tryd.prog 8 [hnv d sD sT sS vZ vC vW vU T, vp] w (fun _ => False) fun q N => ∃ b, q = .bool b ∧ (b = true → PlanOk d.c T us plan) := by
  have hok := hP.ok.c
  have hT1 := hP.T1
  have hn3 := hP.n3
  obtain ⟨eW, eH, hW, hH, hlen⟩ := hok.dims
  have hNN : d.c.W * d.c.H ≤ 144 := Nat.mul_le_mul hW.2 hH.2
  have hT60 := hok.2.2.2.1
  have hne := fun (H : List HO) w' (hp : Hp ⟨w, fun _ => False⟩ H w') => near4_fn w' (hw.hp hp) d us T sD sT sS vZ vC vW vU (h.hp hp.ext) hok
  have hca := fun (u : Unt) (k t : Nat) (hk : k < d.c.depth.length) (ht : t < d.c.tide.length) (H : List HO) w' (hp : Hp ⟨w, fun _ => False⟩ H w') => can4_fn w' d us T sD sT sS vZ vC vW vU (h.hp hp.ext) hok u.cell u.reach u.dr u.chance k t hk ht
  have hm : wr (d.c.wide * d.c.high) = (d.c.depth.length : Int) := by
    have := Nat.mul_le_mul hW.2 hH.2
    rw [eW, eH, hlen]
    refine (wrap_id ?_).trans (by push_cast; rfl)
    constructor <;> (have h2 : ((d.c.W : Int) * (d.c.H : Int)) = ((d.c.W * d.c.H : Nat) : Int) := by push_cast; rfl) <;> omega
  have hm2 : wr ((d.c.depth.length : Int) - 1) = (d.c.depth.length : Int) - 1 := wrap_id (by omega)
  have hic : ∀ n, isCellB d.c.wide d.c.high n = inB n 0 ((d.c.depth.length : Int) - 1) := fun n => by
    unfold isCellB
    rw [hm, hm2]
  obtain ⟨hd, hu⟩ := h
  obtain ⟨aU, nU, cU, rfl⟩ := hu.shape
  have hnU := hu.le untc_len (by omega)
  subst hnU
  have hrU := fun H => hu.rd0 H
  obtain ⟨ps, hps, hs, hr⟩ := hpl
  obtain ⟨a, n, c, rfl⟩ := hs.shape
  have hn := hs.le lpc_len (by omega)
  subst hn
  have hpsl : ps.length = plan.length := by rw [← hps, List.length_map]
  have hrC := fun H => hs.rd0 H
  have hgl : ∀ (i : Nat) p, ps[i]? = some p → plan.getD i [] = p.1 := fun i p hi => by
    rw [List.getD_eq_getElem?_getD, ← hps, List.getElem?_map, hi]
    rfl
  unfold hnv at hne hca ⊢
  unfold PlanOk
  have dn : (∀ xs, detH 22 xs = none) ∧ (∀ xs, detH 23 xs = none) := ⟨fun _ => rfl, fun _ => rfl⟩
  refine walkC [15, 27] [] [] (detH_ok _ _) Tryd.func8 rfl Tryd.ntmps8 res8 (by kernel_rfl) no_facts ?_
  by_cases hl : (ps.length : Int) = (us.length : Int)
  case neg =>
    have z1 : ((ps.length : Int) = (us.length : Int)) = False := eq_false hl
    simp (config := { maxSteps := 4000000 }) only [↓sx0, ↓sx1, ↓sx2, ↓sx3, ↓sx4, ↓sx5, ↓sx6, sx0, sx1, sx2, sx3, sx4, sx5, sx6, tf8, ev3_hold, sxo, sxc, sxp, sxq, sxr, sxs, sxl, sxm, simprocAttr, z1]
    exact ⟨false, rfl, fun h => by cases h⟩
  have z1 : ((ps.length : Int) = (us.length : Int)) = True := eq_true hl
  simp (config := { maxSteps := 4000000 }) only [↓sx0, ↓sx1, ↓sx2, ↓sx3, ↓sx4, ↓sx5, ↓sx6, sx0, sx1, sx2, sx3, sx4, sx5, sx6, tf8, ev3_hold, sxo, sxc, sxp, sxq, sxr, sxs, sxl, sxm, simprocAttr, z1, dn]
  refine CallOb.pureH (fun w' hp => hne _ w' hp) ?_
  rintro r N0 ⟨an, cn, pn, rfl, hpn, hnd, hrow, hrows, hnil⟩
  have hrN : ∀ H, (∀ h ∈ N0, h ∈ H) → Rdv ⟨w, fun _ => False⟩ H (.slice an d.c.depth.length cn) 1 (cat lpc pn) := fun H hm => row_rdv (E := 22) (hm _ hrow) ⟨_, _, _, rfl, by rw [cat_len lpc_len, hpn], fun h => by rw [hnil h]; rfl⟩
  refine ⟨?_⟩
  simp (config := { maxSteps := 4000000 }) only [↓sx0, ↓sx1, ↓sx2, ↓sx3, ↓sx4, ↓sx5, ↓sx6, sx0, sx1, sx2, sx3, sx4, sx5, sx6, tf8, ev3_hold, sxo, sxc, sxp, sxq, sxr, sxs, sxl, sxm, simprocAttr]
  refine loop_constH N0 (HImp.refl _ _) [(4, 4), (6, 9), (18, 118)] (fun i : Nat => [(4, .bool false), (6, I i)]) (fun i H1 => i ≤ ps.length ∧ H1 = N0 ∧ ∀ j, j < i → (plan.getD j []).length = T ∧ ∀ t, t < T → rowT d.c plan (us.getD j unt0) (plan.getD j []) j t) (fun i => ps.length - i) 0 ?_ ⟨Nat.zero_le _, rfl, fun j h => by omega⟩ ?_
  · simp (config := { maxSteps := 4000000 }) only [↓sx0, ↓sx1, ↓sx2, ↓sx3, ↓sx4, ↓sx5, ↓sx6, sx0, sx1, sx2, sx3, sx4, sx5, sx6, tf8, ev3_hold, sxo, sxc, sxp, sxq, sxr, sxs, sxl, sxm, simprocAttr]
    try simp
  rintro i H1 g1 ⟨hi, rfl, hall⟩
  by_cases hin : i = ps.length
  · have e7 : ((i : Int) < (ps.length : Int)) = False := eq_false (by omega)
    refine ⟨?_⟩
    simp (config := { maxSteps := 4000000 }) only [↓sx0, ↓sx1, ↓sx2, ↓sx3, ↓sx4, ↓sx5, ↓sx6, sx0, sx1, sx2, sx3, sx4, sx5, sx6, tf8, ev3_hold, sxo, sxc, sxp, sxq, sxr, sxs, sxl, sxm, simprocAttr, e7]
    exact ⟨true, rfl, fun _ => ⟨by omega, fun j hj => hall j (by omega)⟩⟩
  have e7 : ((i : Int) < (ps.length : Int)) = True := eq_true (by omega)
  have e8 : wr (i + 1) = ((i + 1 : Nat) : Int) := (wrap_id (by omega)).trans (by omega)
  obtain ⟨p, hp⟩ : ∃ p, ps[i]? = some p := ⟨_, List.getElem?_eq_getElem (by omega)⟩
  have hpm := List.mem_of_getElem? hp
  have hgp := hgl i p hp
  obtain ⟨pl, pa, pk, pc⟩ := p
  have hsl : Sl w (.slice pa pk pc) 1 (cat i1 pl) := hr _ hpm
  have hnp := hsl.le i1_len (by omega)
  subst hnp
  have hrP := fun H => hsl.rd0 H
  obtain ⟨u, hx⟩ : ∃ u, us[i]? = some u := ⟨_, List.getElem?_eq_getElem (by omega)⟩
  have hgu : us.getD i unt0 = u := by rw [List.getD_eq_getElem?_getD, hx]; rfl
  have hca := hca u
  have hux : untc u = [I u.cell, I u.reach, I u.dr, I u.chance] := rfl
  simp only [] at hgp
  have hdone : pl.length = T → (∀ t, t < T → rowT d.c plan u pl i t) → ∀ j, j < i + 1 → (plan.getD j []).length = T ∧ ∀ t, t < T → rowT d.c plan (us.getD j unt0) (plan.getD j []) j t := fun h1 h2 j hj => by
    by_cases hji : j = i
    · subst hji
      rw [hgp, hgu]
      exact ⟨h1, h2⟩
    · exact hall j (by omega)
  have hiU : ((i : Int) < (us.length : Int)) = True := eq_true (by omega)
  refine ⟨?_⟩
  simp (config := { maxSteps := 4000000 }) only [↓sx0, ↓sx1, ↓sx2, ↓sx3, ↓sx4, ↓sx5, ↓sx6, sx0, sx1, sx2, sx3, sx4, sx5, sx6, tf8, ev3_hold, sxo, sxc, sxp, sxq, sxr, sxs, sxl, sxm, simprocAttr, e7]
  refine cut_constH [(24, 46)] (fun b : Bool => [(46, .bool b)]) (fun b H2 => H2 = H1 ∧ (b = false → pl.length = T)) ?_ ?_
  · by_cases hlT : (pl.length : Int) = (T : Int)
    case neg =>
      have z2 : ((pl.length : Int) = (T : Int)) = False := eq_false hlT
      refine ⟨?_⟩
      simp (config := { maxSteps := 4000000 }) only [↓sx0, ↓sx1, ↓sx2, ↓sx3, ↓sx4, ↓sx5, ↓sx6, sx0, sx1, sx2, sx3, sx4, sx5, sx6, tf8, ev3_hold, sxo, sxc, sxp, sxq, sxr, sxs, sxl, sxm, simprocAttr, e7]
      refine amid (at_1 (hrC _) lpc_len hp rfl fun ad => ?_)
      unfold lpv
      simp (config := { maxSteps := 4000000 }) only [↓sx0, ↓sx1, ↓sx2, ↓sx3, ↓sx4, ↓sx5, ↓sx6, sx0, sx1, sx2, sx3, sx4, sx5, sx6, tf8, ev3_hold, sxo, sxc, sxp, sxq, sxr, sxs, sxl, sxm, simprocAttr, z2]
      exact ⟨true, _, rfl, HImp.refl _ _, rfl, fun h => by cases h⟩
    have z2 : ((pl.length : Int) = (T : Int)) = True := eq_true hlT
    obtain ⟨z, hz⟩ : ∃ z, pl[0]? = some z := ⟨_, List.getElem?_eq_getElem (by omega)⟩
    have z3 : ((0 : Int) < (pl.length : Int)) = True := eq_true (by omega)
    obtain ⟨B, hB⟩ : ∃ B, decide (z = u.cell) = B := ⟨_, rfl⟩
    refine ⟨?_⟩
    simp (config := { maxSteps := 4000000 }) only [↓sx0, ↓sx1, ↓sx2, ↓sx3, ↓sx4, ↓sx5, ↓sx6, sx0, sx1, sx2, sx3, sx4, sx5, sx6, tf8, ev3_hold, sxo, sxc, sxp, sxq, sxr, sxs, sxl, sxm, simprocAttr, e7]
    refine amid (at_1 (hrC _) lpc_len hp rfl fun ad => ?_)
    unfold lpv
    simp (config := { maxSteps := 4000000 }) only [↓sx0, ↓sx1, ↓sx2, ↓sx3, ↓sx4, ↓sx5, ↓sx6, sx0, sx1, sx2, sx3, sx4, sx5, sx6, tf8, ev3_hold, sxo, sxc, sxp, sxq, sxr, sxs, sxl, sxm, simprocAttr, z2, e7]
    refine amid (at_1 (hrC _) lpc_len hp rfl fun ad2 => ?_)
    unfold lpv
    simp (config := { maxSteps := 4000000 }) only [↓sx0, ↓sx1, ↓sx2, ↓sx3, ↓sx4, ↓sx5, ↓sx6, sx0, sx1, sx2, sx3, sx4, sx5, sx6, tf8, ev3_hold, sxo, sxc, sxp, sxq, sxr, sxs, sxl, sxm, simprocAttr, z3]
    refine (at_10 (hrP _) i1_len hz rfl fun ad3 => ?_).2
    simp (config := { maxSteps := 4000000 }) only [↓sx0, ↓sx1, ↓sx2, ↓sx3, ↓sx4, ↓sx5, ↓sx6, sx0, sx1, sx2, sx3, sx4, sx5, sx6, tf8, ev3_hold, sxo, sxc, sxp, sxq, sxr, sxs, sxl, sxm, simprocAttr, hiU]
    refine amid (at_f (hrU _) untc_len hx (o := 0) (x := I u.cell) rfl fun ad4 => ?_)
    simp (config := { maxSteps := 4000000 }) only [↓sx0, ↓sx1, ↓sx2, ↓sx3, ↓sx4, ↓sx5, ↓sx6, sx0, sx1, sx2, sx3, sx4, sx5, sx6, tf8, ev3_hold, sxo, sxc, sxp, sxq, sxr, sxs, sxl, sxm, simprocAttr]
    exact ⟨_, _, rfl, HImp.refl _ _, rfl, fun _ => by omega⟩
  rintro b H2 g2 ⟨rfl, hb⟩
  cases b with
  | true =>
    refine ⟨?_⟩
    simp (config := { maxSteps := 4000000 }) only [↓sx0, ↓sx1, ↓sx2, ↓sx3, ↓sx4, ↓sx5, ↓sx6, sx0, sx1, sx2, sx3, sx4, sx5, sx6, tf8, ev3_hold, sxo, sxc, sxp, sxq, sxr, sxs, sxl, sxm, simprocAttr]
    exact ⟨false, rfl, fun h => by cases h⟩
  | false =>
  have hlT := hb rfl
  refine ⟨?_⟩
  simp (config := { maxSteps := 4000000 }) only [↓sx0, ↓sx1, ↓sx2, ↓sx3, ↓sx4, ↓sx5, ↓sx6, sx0, sx1, sx2, sx3, sx4, sx5, sx6, tf8, ev3_hold, sxo, sxc, sxp, sxq, sxr, sxs, sxl, sxm, simprocAttr]
  refine loop_constH H2 (HImp.refl _ _) [(4, 4), (7, 9), (47, 118)] (fun t : Nat => [(4, .bool false), (7, I t)]) (fun t H1 => t ≤ T ∧ H1 = H2 ∧ ∀ s, s < t → rowT d.c plan u pl i s) (fun t => T - t) 0 ?_ ⟨Nat.zero_le _, rfl, fun s h => by omega⟩ ?_
  · simp (config := { maxSteps := 4000000 }) only [↓sx0, ↓sx1, ↓sx2, ↓sx3, ↓sx4, ↓sx5, ↓sx6, sx0, sx1, sx2, sx3, sx4, sx5, sx6, tf8, ev3_hold, sxo, sxc, sxp, sxq, sxr, sxs, sxl, sxm, simprocAttr]
    try simp
  rintro t H3 g3 ⟨ht, rfl, hrow2⟩
  by_cases htn : t = T
  · have f7 : ((t : Int) < (T : Int)) = False := eq_false (by omega)
    refine ⟨?_⟩
    simp (config := { maxSteps := 4000000 }) only [↓sx0, ↓sx1, ↓sx2, ↓sx3, ↓sx4, ↓sx5, ↓sx6, sx0, sx1, sx2, sx3, sx4, sx5, sx6, tf8, ev3_hold, sxo, sxc, sxp, sxq, sxr, sxs, sxl, sxm, simprocAttr, f7, e8]
    exact ⟨i + 1, _, rfl, HImp.refl _ _, ⟨by omega, rfl, hdone hlT fun s hs => hrow2 s (by omega)⟩, by omega⟩
  have f7 : ((t : Int) < (T : Int)) = True := eq_true (by omega)
  have f8 : wr (t + 1) = ((t + 1 : Nat) : Int) := (wrap_id (by omega)).trans (by omega)
  have f9 : ((t : Int) < (pl.length : Int)) = True := eq_true (by omega)
  obtain ⟨z, hz⟩ : ∃ z, pl[t]? = some z := ⟨_, List.getElem?_eq_getElem (by omega)⟩
  have hzl : lv pl t = z := by unfold lv; rw [List.getD_eq_getElem?_getD, hz]; rfl
  refine ⟨?_⟩
  simp (config := { maxSteps := 4000000 }) only [↓sx0, ↓sx1, ↓sx2, ↓sx3, ↓sx4, ↓sx5, ↓sx6, sx0, sx1, sx2, sx3, sx4, sx5, sx6, tf8, ev3_hold, sxo, sxc, sxp, sxq, sxr, sxs, sxl, sxm, simprocAttr, f7, e7]
  refine amid (at_1 (hrC _) lpc_len hp rfl fun ad => ?_)
  unfold lpv
  simp (config := { maxSteps := 4000000 }) only [↓sx0, ↓sx1, ↓sx2, ↓sx3, ↓sx4, ↓sx5, ↓sx6, sx0, sx1, sx2, sx3, sx4, sx5, sx6, tf8, ev3_hold, sxo, sxc, sxp, sxq, sxr, sxs, sxl, sxm, simprocAttr, f9]
  refine amid (at_1 (hrP _) i1_len hz rfl fun ad2 => ?_)
  simp (config := { maxSteps := 4000000 }) only [↓sx0, ↓sx1, ↓sx2, ↓sx3, ↓sx4, ↓sx5, ↓sx6, sx0, sx1, sx2, sx3, sx4, sx5, sx6, tf8, ev3_hold, sxo, sxc, sxp, sxq, sxr, sxs, sxl, sxm, simprocAttr]
  refine cut_constH [(60, 104)] (fun b : Bool => [(104, .bool b)]) (fun b H4 => H4 = H3 ∧ (b = false → (0 ≤ z ∧ z < (d.c.depth.length : Int)) ∧ (u.dr = 0 ∨ d.c.flt u.dr t z.toNat = true) ∧ (0 < t → ((dst d.c.W d.c.H (lv pl (t - 1)).toNat z.toNat : Nat) : Int) ≤ u.reach))) ?_ ?_
  · cases h1 : inB z 0 ((d.c.depth.length : Int) - 1) with
    | false =>
      refine ⟨?_⟩
      simp (config := { maxSteps := 4000000 }) only [↓sx0, ↓sx1, ↓sx2, ↓sx3, ↓sx4, ↓sx5, ↓sx6, sx0, sx1, sx2, sx3, sx4, sx5, sx6, tf8, ev3_hold, sxo, sxc, sxp, sxq, sxr, sxs, sxl, sxm, simprocAttr, detH_eq, hic, h1]
      exact ⟨true, _, rfl, HImp.refl _ _, rfl, fun h => by cases h⟩
    | true =>
    have hz1 := (inB_iff _ _ _).1 h1
    obtain ⟨k, hk⟩ : ∃ k : Nat, z = k := ⟨z.toNat, by omega⟩
    have hca2 := hca k t (by omega) (by omega)
    rw [← hk] at hca2
    obtain ⟨B, hB⟩ : ∃ B, (decide (u.dr = 0) || d.c.flt u.dr t k) = B := ⟨_, rfl⟩
    rw [hB] at hca2
    cases B with
    | false =>
      refine ⟨?_⟩
      simp (config := { maxSteps := 4000000 }) only [↓sx0, ↓sx1, ↓sx2, ↓sx3, ↓sx4, ↓sx5, ↓sx6, sx0, sx1, sx2, sx3, sx4, sx5, sx6, tf8, ev3_hold, sxo, sxc, sxp, sxq, sxr, sxs, sxl, sxm, simprocAttr, detH_eq, hic, h1, hiU, dn]
      refine amid (at_n (hrU _) untc_len (by omega) hx fun ad3 => ?_)
      simp (config := { maxSteps := 4000000 }) only [↓sx0, ↓sx1, ↓sx2, ↓sx3, ↓sx4, ↓sx5, ↓sx6, sx0, sx1, sx2, sx3, sx4, sx5, sx6, tf8, ev3_hold, sxo, sxc, sxp, sxq, sxr, sxs, sxl, sxm, simprocAttr, hux, dn]
      refine CallOb.pureH (fun w' hp => hca2 _ w' hp) ?_
      rintro q N rfl
      refine ⟨?_⟩
      simp (config := { maxSteps := 4000000 }) only [↓sx0, ↓sx1, ↓sx2, ↓sx3, ↓sx4, ↓sx5, ↓sx6, sx0, sx1, sx2, sx3, sx4, sx5, sx6, tf8, ev3_hold, sxo, sxc, sxp, sxq, sxr, sxs, sxl, sxm, simprocAttr]
      exact ⟨true, _, rfl, HImp.app _ _ _, rfl, fun h => by cases h⟩
    | true =>
    rw [Bool.or_eq_true, decide_eq_true_eq] at hB
    have hB2 : u.dr = 0 ∨ d.c.flt u.dr t z.toNat = true := by rw [hk]; exact hB
    by_cases ht0 : t = 0
    · have t0 : ((t : Int) > 0) = False := eq_false (by omega)
      refine ⟨?_⟩
      simp (config := { maxSteps := 4000000 }) only [↓sx0, ↓sx1, ↓sx2, ↓sx3, ↓sx4, ↓sx5, ↓sx6, sx0, sx1, sx2, sx3, sx4, sx5, sx6, tf8, ev3_hold, sxo, sxc, sxp, sxq, sxr, sxs, sxl, sxm, simprocAttr, detH_eq, hic, h1, hiU, dn]
      refine amid (at_n (hrU _) untc_len (by omega) hx fun ad3 => ?_)
      simp (config := { maxSteps := 4000000 }) only [↓sx0, ↓sx1, ↓sx2, ↓sx3, ↓sx4, ↓sx5, ↓sx6, sx0, sx1, sx2, sx3, sx4, sx5, sx6, tf8, ev3_hold, sxo, sxc, sxp, sxq, sxr, sxs, sxl, sxm, simprocAttr, hux, dn]
      refine CallOb.pureH (fun w' hp => hca2 _ w' hp) ?_
      rintro q N rfl
      refine ⟨?_⟩
      simp (config := { maxSteps := 4000000 }) only [↓sx0, ↓sx1, ↓sx2, ↓sx3, ↓sx4, ↓sx5, ↓sx6, sx0, sx1, sx2, sx3, sx4, sx5, sx6, tf8, ev3_hold, sxo, sxc, sxp, sxq, sxr, sxs, sxl, sxm, simprocAttr, t0]
      exact ⟨_, _, rfl, HImp.app _ _ _, rfl, fun _ => ⟨⟨by omega, by omega⟩, hB2, fun h => absurd h (by omega)⟩⟩
    have t0 : ((t : Int) > 0) = True := eq_true (by omega)
    have t1 : wr ((t : Int) - 1) = ((t - 1 : Nat) : Int) := (wrap_id (by omega)).trans (by omega)
    have hy0 := (hrow2 (t - 1) (by omega)).1
    obtain ⟨y, hy⟩ : ∃ y, pl[t - 1]? = some y := ⟨_, List.getElem?_eq_getElem (by omega)⟩
    have hyl : lv pl (t - 1) = y := by unfold lv; rw [List.getD_eq_getElem?_getD, hy]; rfl
    rw [hyl] at hy0
    obtain ⟨m, hmm⟩ : ∃ m : Nat, y = m := ⟨y.toNat, by omega⟩
    obtain ⟨nr, hnr⟩ : ∃ nr, pn[m]? = some nr := ⟨_, List.getElem?_eq_getElem (by omega)⟩
    obtain ⟨hnl, hnn, hna, hnx⟩ := hnd m nr hnr
    have hnm := hrows nr (List.mem_of_getElem? hnr)
    obtain ⟨nl, na, nn, nc⟩ := nr
    simp only [] at hnl hnn hna hnx
    subst hnn
    have hds : nl[k]? = some ((dst d.c.W d.c.H m k : Nat) : Int) := by
      rw [getD_at (show k < nl.length by omega) 0]
      exact congrArg some (hnx k (by omega))
    obtain ⟨D, hD⟩ : ∃ D : Nat, dst d.c.W d.c.H m k = D := ⟨_, rfl⟩
    rw [hD] at hds
    have hrR : ∀ H, (∀ h ∈ H3, h ∈ H) → Rdv ⟨w, fun _ => False⟩ H (.slice na (d.c.W * d.c.H) nc) 1 (ints nl) := fun H hm => row_rdv (E := 3) (hm _ hnm) ⟨_, _, _, rfl, by rw [cat_len i1_len, hnl, Nat.mul_one], fun h => absurd h hna⟩
    have f10 : (((t - 1 : Nat) : Int) < (pl.length : Int)) = True := eq_true (by omega)
    have f11 : (y < (d.c.depth.length : Int)) = True := eq_true (by omega)
    have f12 : (z < ((d.c.W * d.c.H : Nat) : Int)) = True := eq_true (by omega)
    obtain ⟨C, hC⟩ : ∃ C, decide ((D : Int) > u.reach) = C := ⟨_, rfl⟩
    refine ⟨?_⟩
    simp (config := { maxSteps := 4000000 }) only [↓sx0, ↓sx1, ↓sx2, ↓sx3, ↓sx4, ↓sx5, ↓sx6, sx0, sx1, sx2, sx3, sx4, sx5, sx6, tf8, ev3_hold, sxo, sxc, sxp, sxq, sxr, sxs, sxl, sxm, simprocAttr, detH_eq, hic, h1, hiU, dn]
    refine amid (at_n (hrU _) untc_len (by omega) hx fun ad3 => ?_)
    simp (config := { maxSteps := 4000000 }) only [↓sx0, ↓sx1, ↓sx2, ↓sx3, ↓sx4, ↓sx5, ↓sx6, sx0, sx1, sx2, sx3, sx4, sx5, sx6, tf8, ev3_hold, sxo, sxc, sxp, sxq, sxr, sxs, sxl, sxm, simprocAttr, hux, dn]
    refine CallOb.pureH (fun w' hp => hca2 _ w' hp) ?_
    rintro q N rfl
    refine ⟨?_⟩
    simp (config := { maxSteps := 4000000 }) only [↓sx0, ↓sx1, ↓sx2, ↓sx3, ↓sx4, ↓sx5, ↓sx6, sx0, sx1, sx2, sx3, sx4, sx5, sx6, tf8, ev3_hold, sxo, sxc, sxp, sxq, sxr, sxs, sxl, sxm, simprocAttr, t0, t1, e7]
    refine amid (at_1 (hrC _) lpc_len hp rfl fun ad4 => ?_)
    unfold lpv
    simp (config := { maxSteps := 4000000 }) only [↓sx0, ↓sx1, ↓sx2, ↓sx3, ↓sx4, ↓sx5, ↓sx6, sx0, sx1, sx2, sx3, sx4, sx5, sx6, tf8, ev3_hold, sxo, sxc, sxp, sxq, sxr, sxs, sxl, sxm, simprocAttr, f10, t1]
    refine amid (at_1 (k := t - 1) (hrP _) i1_len hy rfl fun ad5 => ?_)
    simp (config := { maxSteps := 4000000 }) only [↓sx0, ↓sx1, ↓sx2, ↓sx3, ↓sx4, ↓sx5, ↓sx6, sx0, sx1, sx2, sx3, sx4, sx5, sx6, tf8, ev3_hold, sxo, sxc, sxp, sxq, sxr, sxs, sxl, sxm, simprocAttr, f11]
    refine ⟨by omega, (at_1 (k := y.toNat) (hrN _ (by simp +contextual)) lpc_len (by rw [show y.toNat = m by omega]; exact hnr) rfl fun ad6 => ?_).2.2⟩
    unfold lpv
    simp (config := { maxSteps := 4000000 }) only [↓sx0, ↓sx1, ↓sx2, ↓sx3, ↓sx4, ↓sx5, ↓sx6, sx0, sx1, sx2, sx3, sx4, sx5, sx6, tf8, ev3_hold, sxo, sxc, sxp, sxq, sxr, sxs, sxl, sxm, simprocAttr, f12]
    refine ⟨by omega, (at_1 (k := z.toNat) (hrR _ (by simp +contextual)) i1_len (by rw [show z.toNat = k by omega]; exact hds) rfl fun ad7 => ?_).2.2⟩
    simp (config := { maxSteps := 4000000 }) only [↓sx0, ↓sx1, ↓sx2, ↓sx3, ↓sx4, ↓sx5, ↓sx6, sx0, sx1, sx2, sx3, sx4, sx5, sx6, tf8, ev3_hold, sxo, sxc, sxp, sxq, sxr, sxs, sxl, sxm, simprocAttr, hiU]
    refine amid (at_f (hrU _) untc_len hx (o := 1) (x := I u.reach) rfl fun ad8 => ?_)
    simp (config := { maxSteps := 4000000 }) only [↓sx0, ↓sx1, ↓sx2, ↓sx3, ↓sx4, ↓sx5, ↓sx6, sx0, sx1, sx2, sx3, sx4, sx5, sx6, tf8, ev3_hold, sxo, sxc, sxp, sxq, sxr, sxs, sxl, sxm, simprocAttr]
    exact ⟨_, _, rfl, HImp.app _ _ _, rfl, fun h => ⟨⟨by omega, by omega⟩, hB2, fun _ => by
      rw [hyl, show y.toNat = m by omega, show z.toNat = k by omega, hD]
      have := of_decide_eq_false h
      omega⟩⟩
  rintro b H4 g4 ⟨rfl, hb2⟩
  cases b with
  | true =>
    refine ⟨?_⟩
    simp (config := { maxSteps := 4000000 }) only [↓sx0, ↓sx1, ↓sx2, ↓sx3, ↓sx4, ↓sx5, ↓sx6, sx0, sx1, sx2, sx3, sx4, sx5, sx6, tf8, ev3_hold, sxo, sxc, sxp, sxq, sxr, sxs, sxl, sxm, simprocAttr]
    exact ⟨false, rfl, fun h => by cases h⟩
  | false =>
  obtain ⟨q1, q2, q3⟩ := hb2 rfl
  refine ⟨?_⟩
  simp (config := { maxSteps := 4000000 }) only [↓sx0, ↓sx1, ↓sx2, ↓sx3, ↓sx4, ↓sx5, ↓sx6, sx0, sx1, sx2, sx3, sx4, sx5, sx6, tf8, ev3_hold, sxo, sxc, sxp, sxq, sxr, sxs, sxl, sxm, simprocAttr]
  refine loop_constH H4 (HImp.refl _ _) [(4, 4), (9, 9), (105, 118)] (fun k : Nat => [(4, .bool false), (9, I k)]) (fun k H1 => k ≤ i ∧ H1 = H4 ∧ ∀ s, s < k → lv (plan.getD s []) t ≠ z) (fun k => i - k) 0 ?_ ⟨Nat.zero_le _, rfl, fun s h => by omega⟩ ?_
  · simp (config := { maxSteps := 4000000 }) only [↓sx0, ↓sx1, ↓sx2, ↓sx3, ↓sx4, ↓sx5, ↓sx6, sx0, sx1, sx2, sx3, sx4, sx5, sx6, tf8, ev3_hold, sxo, sxc, sxp, sxq, sxr, sxs, sxl, sxm, simprocAttr]
    try simp
  rintro k H5 g5 ⟨hk, rfl, hdis⟩
  by_cases hki : k = i
  · have h7 : ((k : Int) < (i : Int)) = False := eq_false (by omega)
    refine ⟨?_⟩
    simp (config := { maxSteps := 4000000 }) only [↓sx0, ↓sx1, ↓sx2, ↓sx3, ↓sx4, ↓sx5, ↓sx6, sx0, sx1, sx2, sx3, sx4, sx5, sx6, tf8, ev3_hold, sxo, sxc, sxp, sxq, sxr, sxs, sxl, sxm, simprocAttr, h7, f8]
    refine ⟨t + 1, _, rfl, HImp.refl _ _, ⟨by omega, rfl, fun s hs => ?_⟩, by omega⟩
    by_cases hst : s = t
    · subst hst
      unfold rowT
      rw [hzl]
      exact ⟨q1, q2, q3, fun k' hk' => hdis k' (by omega)⟩
    · exact hrow2 s (by omega)
  have h7 : ((k : Int) < (i : Int)) = True := eq_true (by omega)
  have h8 : wr (k + 1) = ((k + 1 : Nat) : Int) := (wrap_id (by omega)).trans (by omega)
  have h9 : ((k : Int) < (ps.length : Int)) = True := eq_true (by omega)
  obtain ⟨r, hr2⟩ : ∃ r, ps[k]? = some r := ⟨_, List.getElem?_eq_getElem (by omega)⟩
  have hrm := List.mem_of_getElem? hr2
  have hgr := hgl k r hr2
  have hall2 := hall k (by omega)
  obtain ⟨rl, ra, rn, rc⟩ := r
  have hsl2 : Sl w (.slice ra rn rc) 1 (cat i1 rl) := hr _ hrm
  have hnp2 := hsl2.le i1_len (by omega)
  subst hnp2
  simp only [] at hgr
  rw [hgr] at hall2
  have hrR2 := fun H => hsl2.rd0 H
  have h10 : ((t : Int) < (rl.length : Int)) = True := eq_true (by omega)
  obtain ⟨y, hy⟩ : ∃ y, rl[t]? = some y := ⟨_, List.getElem?_eq_getElem (by omega)⟩
  have hyl : lv (plan.getD k []) t = y := by rw [hgr]; unfold lv; rw [List.getD_eq_getElem?_getD, hy]; rfl
  by_cases hyz : y = z
  · have z5 : (y = z) = True := eq_true hyz
    refine ⟨?_⟩
    simp (config := { maxSteps := 4000000 }) only [↓sx0, ↓sx1, ↓sx2, ↓sx3, ↓sx4, ↓sx5, ↓sx6, sx0, sx1, sx2, sx3, sx4, sx5, sx6, tf8, ev3_hold, sxo, sxc, sxp, sxq, sxr, sxs, sxl, sxm, simprocAttr, h7, h9]
    refine amid (at_1 (hrC _) lpc_len hr2 rfl fun ad => ?_)
    unfold lpv
    simp (config := { maxSteps := 4000000 }) only [↓sx0, ↓sx1, ↓sx2, ↓sx3, ↓sx4, ↓sx5, ↓sx6, sx0, sx1, sx2, sx3, sx4, sx5, sx6, tf8, ev3_hold, sxo, sxc, sxp, sxq, sxr, sxs, sxl, sxm, simprocAttr, h10]
    refine amid (at_1 (hrR2 _) i1_len hy rfl fun ad2 => ?_)
    simp (config := { maxSteps := 4000000 }) only [↓sx0, ↓sx1, ↓sx2, ↓sx3, ↓sx4, ↓sx5, ↓sx6, sx0, sx1, sx2, sx3, sx4, sx5, sx6, tf8, ev3_hold, sxo, sxc, sxp, sxq, sxr, sxs, sxl, sxm, simprocAttr, z5]
    exact ⟨false, rfl, fun h => by cases h⟩
  · have z5 : (y = z) = False := eq_false hyz
    refine ⟨?_⟩
    simp (config := { maxSteps := 4000000 }) only [↓sx0, ↓sx1, ↓sx2, ↓sx3, ↓sx4, ↓sx5, ↓sx6, sx0, sx1, sx2, sx3, sx4, sx5, sx6, tf8, ev3_hold, sxo, sxc, sxp, sxq, sxr, sxs, sxl, sxm, simprocAttr, h7, h9]
    refine amid (at_1 (hrC _) lpc_len hr2 rfl fun ad => ?_)
    unfold lpv
    simp (config := { maxSteps := 4000000 }) only [↓sx0, ↓sx1, ↓sx2, ↓sx3, ↓sx4, ↓sx5, ↓sx6, sx0, sx1, sx2, sx3, sx4, sx5, sx6, tf8, ev3_hold, sxo, sxc, sxp, sxq, sxr, sxs, sxl, sxm, simprocAttr, h10]
    refine amid (at_1 (hrR2 _) i1_len hy rfl fun ad2 => ?_)
    simp (config := { maxSteps := 4000000 }) only [↓sx0, ↓sx1, ↓sx2, ↓sx3, ↓sx4, ↓sx5, ↓sx6, sx0, sx1, sx2, sx3, sx4, sx5, sx6, tf8, ev3_hold, sxo, sxc, sxp, sxq, sxr, sxs, sxl, sxm, simprocAttr, z5, h8]
    refine ⟨k + 1, _, rfl, HImp.refl _ _, ⟨by omega, rfl, fun s hs => ?_⟩, by omega⟩
    by_cases hsk : s = k
    · subst hsk
      rw [hyl]
      exact hyz
    · exact hdis s (by omega)
end Go.Proofs.YtogicfoigeongaaDoor

