/- Regions that draw their order, walked by a plan: where two operations that turn something are in no order, the walk goes both ways. -/
import Derived.Test.YtpfbpelkodlljaaSxH
set_option linter.all false
namespace Go.SX
open Go.RowKit

def execsP (E : Env) (all : List Oper) : Plan → List SV → List Box → List HO → (List SV → List Box → List HO → Prop) → Prop
  | .fin, fr, L, H, k => k fr L H
  | .one i p, fr, L, H, k => match all[i]? with
    | some o => execs E true all [o] fr L H fun fr L H => execsP E all p fr L H k
    | none => False
  | .alt i p q, fr, L, H, k => (match all[i]? with
    | some o => execs E true all [o] fr L H fun fr L H => execsP E all p fr L H k
    | none => False) ∧ execsP E all q fr L H k
  | .no, _, _, _, _ => True

/-- C1: what the walk has come over; hd: the other ways that are gone from here. -/
def planB (ops : List Oper) : Plan → List Nat → List Nat → Bool
  | .fin, C1, hd => hd.isEmpty && (List.range ops.length).all fun i => C1.contains i
  | .one i p, C1, hd => hd.isEmpty && decide (i < ops.length) && !C1.contains i && ((List.range ops.length).all fun j => C1.contains j || j == i || pairB ops (masks ops []) i j) && planB ops p (C1 ++ [i]) []
  | .alt i p q, C1, hd => decide (i < ops.length) && !C1.contains i && planB ops p (C1 ++ [i]) [] && planB ops q C1 (i :: hd)
  | .no, C1, hd => !hd.isEmpty && (List.range ops.length).all fun r => C1.contains r || hd.contains r || !(match ops[r]? with | some o => o.after.toList.all fun e => !Region.binds .any e || C1.contains e.on | none => false)

def cnt : Nat → (Nat → Bool) → Nat
  | 0, _ => 0
  | n + 1, f => cnt n f + if f n then 1 else 0

theorem cnt_same {f g : Nat → Bool} : ∀ {n : Nat}, (∀ i, i < n → f i = g i) → cnt n f = cnt n g
  | 0, _ => rfl
  | n + 1, h => by rw [cnt, cnt, cnt_same fun i hi => h i (by omega), h n (by omega)]

theorem cnt_less {f g : Nat → Bool} {i : Nat} : ∀ {n : Nat}, i < n → f i = true → g i = false → (∀ j, j ≠ i → f j = g j) → cnt n g + 1 = cnt n f
  | 0, h, _, _, _ => by omega
  | n + 1, h, hf, hg, hs => by
    by_cases e : i = n
    · subst e
      rw [cnt, cnt, cnt_same (n := i) (f := f) (g := g) fun j hj => hs j (by omega), hf, hg]
      simp
    · have := cnt_less (n := n) (by omega) hf hg hs
      rw [cnt, cnt, hs n (by omega)]
      omega

theorem cnt_zero {f : Nat → Bool} : ∀ {n : Nat}, cnt n f = 0 → ∀ i, i < n → f i = false
  | 0, _, i, hi => by omega
  | n + 1, h, i, hi => by
    rw [cnt] at h
    by_cases e : i = n
    · subst e
      cases hb : f i with
      | false => rfl
      | true => rw [hb] at h; simp at h
    · exact cnt_zero (n := n) (by omega) i (by omega)

theorem cnt_le (f : Nat → Bool) : ∀ n, cnt n f ≤ n
  | 0 => Nat.le_refl _
  | n + 1 => by have := cnt_le f n; rw [cnt]; split <;> omega

/-- The state of a walk by plan. -/
structure PInv (E : Env) (ops : Array Oper) (k : List SV → List Box → List HO → Prop) (listed : Array Bool) (p : Plan) (hd C1 D : List Nat) (frR frC : List SV) (L : List Box) (H : List HO) : Prop where
  plan : planB ops.toList p C1 hd = true
  ex : execsP E ops.toList p frC L H k
  rep : Replay E ops D frR L H frC
  wfC : WfFr L.length frC
  sub : ∀ d ∈ D, d ∈ C1
  lt : ∀ c ∈ C1, c < ops.size
  lst : ∀ i, i < ops.size → (listed.getD i false = true ↔ i ∈ C1 ∧ i ∉ D)
  prs : pairsB (pairB ops.toList (masks ops.toList [])) D = true
  out : ∀ d ∈ D, ∀ j, j < ops.size → j ∉ C1 → pairB ops.toList (masks ops.toList []) d j = true

theorem pairsB_snoc {p : Nat → Nat → Bool} : ∀ {l : List Nat} {a : Nat}, pairsB p l = true → (∀ d ∈ l, p d a = true) → pairsB p (l ++ [a]) = true
  | [], a, _, _ => by simp [pairsB]
  | x :: l, a, h, ha => by
    simp only [pairsB, Bool.and_eq_true, List.all_eq_true, List.cons_append] at h ⊢
    refine ⟨fun y hy => ?_, pairsB_snoc h.2 fun d hd => ha d (List.mem_cons_of_mem _ hd)⟩
    rcases List.mem_append.1 hy with hy | hy
    · exact h.1 y hy
    · rw [List.mem_singleton] at hy
      subst hy
      exact ha x List.mem_cons_self

/-- The walk goes on to an operation that the machine does next. -/
theorem reach {E : Env} (hE : E.Fine) {ops : Array Oper} {k : List SV → List Box → List HO → Prop} {listed : Array Bool} (hcl : ClosedS ops.toList (fun i => listed.getD i false = true)) {i : Nat} {oi : Oper} (hoi : ops[i]? = some oi)
    (hdeps : ∀ o, ops[i]? = some o → ∀ e ∈ o.after.toList, Region.binds .any e = true → listed.getD e.on false = true) {frR : List SV} {L : List Box} {H : List HO} :
    ∀ (p : Plan) (hd C1 D : List Nat) (frC : List SV), PInv E ops k listed p hd C1 D frR frC L H → i ∉ C1 → i ∉ hd → (∀ e, e < ops.size ∨ listed.getD e false = false) →
      ∃ C1' D' frC' p', execs E true ops.toList [oi] frC' L H (fun fr L H => execsP E ops.toList p' fr L H k) ∧ planB ops.toList p' (C1' ++ [i]) [] = true ∧ Replay E ops D' frR L H frC' ∧ WfFr L.length frC' ∧ (∀ d ∈ D', d ∈ C1') ∧ (∀ c ∈ C1', c < ops.size) ∧
        (∀ i, i < ops.size → (listed.getD i false = true ↔ i ∈ C1' ∧ i ∉ D')) ∧ pairsB (pairB ops.toList (masks ops.toList [])) D' = true ∧ (∀ d ∈ D', ∀ j, j < ops.size → j ∉ C1' → pairB ops.toList (masks ops.toList []) d j = true) ∧ i ∉ C1'
  | .fin, hd, C1, D, frC, inv, hi, _, _ => by
    exfalso
    have h := inv.plan
    simp only [planB, Bool.and_eq_true, List.all_eq_true, List.mem_range, Array.length_toList, List.contains_eq_mem, decide_eq_true_eq] at h
    exact hi (h.2 i (Array.getElem?_eq_some_iff.1 hoi).1)
  | .one y p, hd, C1, D, frC, inv, hi, hh, hin => by
    have h := inv.plan
    simp only [planB, Bool.and_eq_true, List.all_eq_true, List.mem_range, Array.length_toList, List.contains_eq_mem, decide_eq_true_eq, Bool.or_eq_true, Bool.not_eq_true', decide_eq_false_iff_not, beq_iff_eq] at h
    obtain ⟨⟨⟨⟨_, hyl⟩, hyC⟩, hyp⟩, hpl⟩ := h
    have hil : i < ops.size := (Array.getElem?_eq_some_iff.1 hoi).1
    have hex := inv.ex
    obtain ⟨oy, hoy⟩ : ∃ oy, ops[y]? = some oy := ⟨ops[y], Array.getElem?_eq_getElem hyl⟩
    simp only [execsP, Array.getElem?_toList, hoy] at hex
    by_cases hyi : y = i
    · subst hyi
      rw [hoi] at hoy
      cases hoy
      exact ⟨C1, D, frC, p, hex, hpl, inv.rep, inv.wfC, inv.sub, inv.lt, inv.lst, inv.prs, inv.out, hi⟩
    · have hyu : listed.getD y false = false := by
        cases hb : listed.getD y false with
        | false => rfl
        | true => exact absurd ((inv.lst y hyl).1 hb).1 hyC
      have hpy : pairB ops.toList (masks ops.toList []) y i = true := by
        rcases hyp i hil with (h | h) | h
        · exact absurd h hi
        · exact absurd h.symm hyi
        · exact h
      obtain ⟨o1, o2, h1, h2, hfree, hap, _⟩ := pair_apart hcl hpy hyu hil hdeps
      have hadv := advance hE (k := fun fr L H => execsP E ops.toList p fr L H k) (Z := []) [y] D frR frC (by simpa [hoy] using hex) inv.wfC inv.rep (fun z hz => by rw [List.mem_singleton] at hz; subst hz; exact ⟨o1, h1, hfree⟩)
      obtain ⟨frC', hex', hwf', hrep'⟩ := hadv
      simp only [List.filterMap_nil, execs] at hex'
      have hyD : y ∉ D := fun h => hyC (inv.sub y h)
      refine reach hE hcl hoi hdeps p [] (C1 ++ [y]) (D ++ [y]) frC' ⟨hpl, hex', hrep', hwf', fun d hd => ?_, fun c hc => ?_, fun x hx => ?_, pairsB_snoc inv.prs fun d hd => inv.out d hd y hyl hyC, fun d hd j hj hjC => ?_⟩ (by simp [hi, Ne.symm hyi]) (by simp) hin
      · rcases List.mem_append.1 hd with h | h
        · exact List.mem_append_left _ (inv.sub d h)
        · exact List.mem_append_right _ h
      · rcases List.mem_append.1 hc with h | h
        · exact inv.lt c h
        · rw [List.mem_singleton] at h; subst h; exact hyl
      · rw [inv.lst x hx]
        simp only [List.mem_append, List.mem_singleton, not_or]
        constructor
        · rintro ⟨a, b⟩
          exact ⟨.inl a, b, fun e => hyC (e ▸ a)⟩
        · rintro ⟨a | a, b, c⟩
          · exact ⟨a, b⟩
          · exact absurd a c
      · simp only [List.mem_append, List.mem_singleton, not_or] at hjC
        rcases List.mem_append.1 hd with h | h
        · exact inv.out d h j hj hjC.1
        · rw [List.mem_singleton] at h
          subst h
          rcases hyp j hj with (h | h) | h
          · exact absurd h hjC.1
          · exact absurd h hjC.2
          · exact h
  | .alt y p q, hd, C1, D, frC, inv, hi, hh, hin => by
    have h := inv.plan
    simp only [planB, Bool.and_eq_true, decide_eq_true_eq, Array.length_toList] at h
    obtain ⟨⟨⟨hyl, hyC⟩, hpl⟩, hql⟩ := h
    have hex := inv.ex
    obtain ⟨oy, hoy⟩ : ∃ oy, ops[y]? = some oy := ⟨ops[y], Array.getElem?_eq_getElem hyl⟩
    simp only [execsP, Array.getElem?_toList, hoy] at hex
    by_cases hyi : y = i
    · subst hyi
      rw [hoi] at hoy
      cases hoy
      exact ⟨C1, D, frC, p, hex.1, hpl, inv.rep, inv.wfC, inv.sub, inv.lt, inv.lst, inv.prs, inv.out, hi⟩
    · exact reach hE hcl hoi hdeps q (y :: hd) C1 D frC ⟨hql, hex.2, inv.rep, inv.wfC, inv.sub, inv.lt, inv.lst, inv.prs, inv.out⟩ hi (by simp [hh, Ne.symm hyi]) hin
  | .no, hd, C1, D, frC, inv, hi, hh, hin => by
    exfalso
    have h := inv.plan
    have hil : i < ops.size := (Array.getElem?_eq_some_iff.1 hoi).1
    simp only [planB, Bool.and_eq_true, List.all_eq_true, List.mem_range, Array.length_toList] at h
    have h2 := h.2 i hil
    simp only [Array.getElem?_toList, hoi, Bool.or_eq_true, List.contains_eq_mem, decide_eq_true_eq, hi, hh, false_or, Bool.not_eq_true'] at h2
    have h3 : (oi.after.toList.all fun e => !Region.binds .any e || decide (e.on ∈ C1)) = true := by
      rw [List.all_eq_true]
      intro e he
      cases hb : Region.binds .any e with
      | false => rfl
      | true =>
        have := hdeps oi hoi e he hb
        rcases hin e.on with x | x
        · simp [((inv.lst _ x).1 this).1]
        · rw [x] at this; cases this
    rw [h3] at h2
    cases h2

/-- A region that draws its order, walked by a plan. -/
theorem plan_sound {E : Env} (hE : E.Fine) (hD : E.DetOk) {ops : Array Oper} (hedgeB : edgesB ops.toList = true) {k : List SV → List Box → List HO → Prop} {ks : List (Nat × Obj)} {rd : Option Nat} {df : List Deferred} {Q : Exit → Act → World → Prop}
    {bs0 : Nat → Nat} {L0 : List Box} {H0 : List HO} {w00 : World}
    (hQ : ∀ fr' bs' L' H' w', k fr' L' H' → WfFr L'.length fr' → Come bs0 bs' L0 L' H0 H' w00 w' → Rel E.w0 bs' ks L' H' w' → Q .normal { tmps := rf bs' fr', defers := df } w') :
    ∀ (fuel : Nat) (listed : Array Bool) (p : Plan) (C1 D : List Nat) (frR frC : List SV) (L : List Box) (H : List HO) (bs : Nat → Nat) (w : World), cnt ops.size (fun i => !listed.getD i false) ≤ fuel → listed.size = ops.size → ClosedS ops.toList (fun i => listed.getD i false = true) →
      PInv E ops k listed p [] C1 D frR frC L H → Rel E.w0 bs ks L H w → WfFr L.length frR → Come bs0 bs L0 L H0 H w00 w →
      wpAnyIn (fence rd) 0 E.P .any ops Q fuel listed { tmps := rf bs frR, defers := df } w := by
  have hedge : ∀ i o, ops.toList[i]? = some o → ∀ e ∈ o.after.toList, Region.binds .any e = true → e.on < i := fun i o ho e he hb => by
    unfold edgesB at hedgeB
    rw [List.all_eq_true] at hedgeB
    have := hedgeB (o, i) (List.mem_zipIdx_iff_getElem?.2 ho)
    simp only [List.all_eq_true, Bool.or_eq_true, Bool.not_eq_true', decide_eq_true_eq] at this
    rcases this e he with h | h
    · rw [hb] at h; cases h
    · exact h
  have done : ∀ (listed : Array Bool) (p : Plan) (C1 D : List Nat) (frR frC : List SV) (L : List Box) (H : List HO) (bs : Nat → Nat) (w : World), (∀ i, i < ops.size → listed.getD i false = true) →
      PInv E ops k listed p [] C1 D frR frC L H → Rel E.w0 bs ks L H w → WfFr L.length frR → Come bs0 bs L0 L H0 H w00 w → Q .normal { tmps := rf bs frR, defers := df } w := by
    intro listed p C1 D frR frC L H bs w hall inv rel wfR hc
    have hDn : D = [] := by
      rcases D with _ | ⟨d, D⟩
      · rfl
      · have hdl := inv.lt d (inv.sub d List.mem_cons_self)
        exact absurd List.mem_cons_self ((inv.lst d hdl).1 (hall d hdl)).2
    subst hDn
    have hC : ∀ i, i < ops.size → i ∈ C1 := fun i hi => ((inv.lst i hi).1 (hall i hi)).1
    have h := inv.plan
    have hr := inv.rep
    simp only [Replay] at hr
    cases p with
    | fin =>
      have hx := inv.ex
      simp only [execsP] at hx
      rw [hr.rf bs]
      exact hQ frC bs L H w hx inv.wfC hc rel
    | one i p =>
      exfalso
      simp only [planB, Bool.and_eq_true, decide_eq_true_eq, Bool.not_eq_true', List.contains_eq_mem, decide_eq_false_iff_not, Array.length_toList] at h
      exact h.1.1.2 (hC i h.1.1.1.2)
    | alt i p q =>
      exfalso
      simp only [planB, Bool.and_eq_true, decide_eq_true_eq, Bool.not_eq_true', List.contains_eq_mem, decide_eq_false_iff_not, Array.length_toList] at h
      exact h.1.1.2 (hC i h.1.1.1)
    | no =>
      exfalso
      simp [planB] at h
  intro fuel
  induction fuel with
  | zero =>
    intro listed p C1 D frR frC L H bs w hn hsz hcl inv rel wfR hc
    have hall : ∀ i, i < ops.size → listed.getD i false = true := fun i hi => by
      have := cnt_zero (f := fun i => !listed.getD i false) (n := ops.size) (by omega) i hi
      simpa using this
    refine ⟨?_, done listed p C1 D frR frC L H bs w hall inv rel wfR hc⟩
    rw [List.eq_nil_iff_forall_not_mem]
    intro i hi
    obtain ⟨hun, oi, hoi, _⟩ := mem_ready.1 hi
    have hlt' : i < ops.size := (Array.getElem?_eq_some_iff.1 hoi).1
    have hu := gd_both hun
    rw [hall i hlt'] at hu
    cases hu
  | succ fuel ih =>
    intro listed p C1 D frR frC L H bs w hn hsz hcl inv rel wfR hc
    refine ⟨fun hready => ?_, fun i hi => ?_⟩
    · refine done listed p C1 D frR frC L H bs w (fun i hi => ?_) inv rel wfR hc
      cases hu : listed.getD i false with
      | true => rfl
      | false =>
        exfalso
        have least : ∀ n i, i ≤ n → i < ops.size → listed.getD i false = false → ∃ j, j < ops.size ∧ listed.getD j false = false ∧ ∀ m, m < j → listed.getD m false = true := by
          intro n
          induction n with
          | zero =>
            intro i hi hs hu
            exact ⟨i, hs, hu, fun m hm => by omega⟩
          | succ n ih' =>
            intro i hi hs hu
            by_cases hsm : ∃ m, m < i ∧ listed.getD m false = false
            · obtain ⟨m, hm, hmu⟩ := hsm
              exact ih' m (by omega) (by omega) hmu
            · refine ⟨i, hs, hu, fun m hm => ?_⟩
              cases hb : listed.getD m false with
              | true => rfl
              | false => exact absurd ⟨m, hm, hb⟩ hsm
        obtain ⟨j, hj, hju, hjm⟩ := least i i (Nat.le_refl _) hi hu
        have : j ∈ Region.ready .any ops listed := by
          refine mem_ready.2 ⟨gd_in (by rw [hsz]; exact hj) hju, ops[j], Array.getElem?_eq_getElem hj, fun e he hb => ?_⟩
          exact hjm _ (hedge j ops[j] (by simp [hj]) e (Array.mem_toList_iff.2 he) hb)
        rw [hready] at this
        cases this
    · obtain ⟨hun, oi, hoi, hdeps⟩ := mem_ready.1 hi
      have hil : i < ops.size := (Array.getElem?_eq_some_iff.1 hoi).1
      have hu := gd_both hun
      have hdeps' : ∀ o, ops[i]? = some o → ∀ e ∈ o.after.toList, Region.binds .any e = true → listed.getD e.on false = true := by
        intro o ho e he hb
        rw [hoi] at ho
        cases ho
        exact hdeps e (Array.mem_toList_iff.1 he) hb
      have closed' : ClosedS ops.toList (fun x => (listed.setIfInBounds i true).getD x false = true) := by
        intro j o ho hj e he hb
        rw [getD_set (by rw [hsz]; exact hil)] at hj ⊢
        by_cases hji : j = i
        · subst hji
          have := hdeps' o (by simpa using ho) e he hb
          simp [this]
        · simp only [hji, if_false] at hj
          have := hcl j o ho hj e he hb
          simp [this]
      have hcnt : cnt ops.size (fun x => !(listed.setIfInBounds i true).getD x false) ≤ fuel := by
        have := cnt_less (f := fun x => !listed.getD x false) (g := fun x => !(listed.setIfInBounds i true).getD x false) (i := i) (n := ops.size) hil (by simp [hu]) (by show (!(listed.setIfInBounds i true).getD i false) = false; rw [getD_set (by rw [hsz]; exact hil)]; simp) (fun j hj => by show (!listed.getD j false) = (!(listed.setIfInBounds i true).getD j false); rw [getD_set (by rw [hsz]; exact hil)]; simp [hj])
        omega
      have hnl : ∀ d, d ∈ D → listed.getD d false = false := by
        intro d hd
        have hdl : d < ops.size := inv.lt d (inv.sub d hd)
        cases hb : listed.getD d false with
        | false => rfl
        | true => exact absurd hd ((inv.lst d hdl).1 hb).2
      by_cases hiD : i ∈ D
      · -- one that was put off
        obtain ⟨D1, D2, rfl⟩ := List.append_of_mem hiD
        have hpD := inv.prs
        have hap : ApartD ops D1 oi := by
          intro d hd o ho
          have hp := pairsB_append hpD d hd i List.mem_cons_self
          obtain ⟨o1, o2, h1, h2, _, h4, _⟩ := pair_apart hcl hp (hnl d (by simp [hd])) hil hdeps'
          rw [ho] at h1; cases h1
          rw [hoi] at h2; cases h2
          exact h4
        obtain ⟨s, hv, hr⟩ := Replay.bubble hoi inv.rep hap
        have hnd : ∀ x ∈ D1 ++ D2, x ≠ i := by
          rintro x hx rfl
          rcases List.mem_append.1 hx with hx | hx
          · have hp := pairsB_append hpD x hx x List.mem_cons_self
            simp [pairB] at hp
          · have hp := pairsB_append (a := D1 ++ [x]) (b := D2) (by simpa using hpD) x (by simp) x hx
            simp [pairB] at hp
        have hsubD : (D1 ++ D2).Sublist (D1 ++ i :: D2) := List.Sublist.append (List.Sublist.refl D1) (List.sublist_cons_self i D2)
        have hnew : PInv E ops k (listed.setIfInBounds i true) p [] C1 (D1 ++ D2) (put frR oi.dst s) frC L H := by
          refine ⟨inv.plan, inv.ex, hr, inv.wfC, fun d hd => inv.sub d (hsubD.subset hd), inv.lt, fun x hx => ?_, pairsB_sub hsubD hpD, fun d hd => inv.out d (hsubD.subset hd)⟩
          rw [getD_set (by rw [hsz]; exact hil)]
          by_cases hxi : x = i
          · subst hxi
            simp only [if_true, true_iff]
            exact ⟨inv.sub x hiD, fun h => hnd x h rfl⟩
          · simp only [hxi, if_false]
            rw [inv.lst x hx]
            simp [hxi]
        have hsz' : (listed.setIfInBounds i true).size = ops.size := by simp [hsz]
        rcases hv.2 with ⟨hw, hfree, hg⟩ | ⟨hw, rfl⟩
        · unfold wpOpIn
          simp only [hoi, wantedS_eq, hw, if_true]
          unfold Oper.wpIn
          refine ⟨fun _ _ => trivial, ?_⟩
          have hnd : ∀ c, oi.op ≠ .defer c := by
            intro c e
            have := hg bs ks L H w (fun x => (op1 frR x).real bs) oi rel (fun _ => ⟨List.prefix_refl _, fun _ h => h⟩) (fun _ _ => rfl) rfl
            simp [execOp, e] at this
            cases hres : (resolve (fun x => (op1 frR x).real bs) c oi.type).run E.P w <;> simp [hres, Result.andThen] at this
          rw [Oper.semAt_eq _ _ _ hnd]
          rw [hg bs ks L H w _ oi rel (fun _ => ⟨List.prefix_refl _, fun _ h => h⟩) (fun x _ => op1_real bs frR df x) rfl, Oper.uponIn_value, put_real]
          exact ih _ _ _ _ _ _ _ _ _ _ hcnt hsz' closed' hnew rel (wfR.put hv.1 _) hc
        · exact wp_skip_op hoi hw (ih _ _ _ _ _ _ _ _ _ _ hcnt hsz' closed' hnew rel (wfR.put hv.1 _) hc)
      · -- one that the walk has not come to
        have hiC : i ∉ C1 := fun h => by
          have := (inv.lst i hil).2 ⟨h, hiD⟩
          rw [hu] at this
          cases this
        obtain ⟨C1', D', frC', p', hex, hpl, hrep, hwf', hsub, hlt, hlst, hprs, hout, hiC'⟩ := reach hE hcl hoi hdeps' p [] C1 D frC inv hiC (by simp) (fun e => by
          by_cases he : e < ops.size
          · exact .inl he
          · exact .inr (by simp [hsz, he]))
        have hnl' : ∀ d, d ∈ D' → listed.getD d false = false := by
          intro d hd
          have hdl : d < ops.size := hlt d (hsub d hd)
          cases hb : listed.getD d false with
          | false => rfl
          | true => exact absurd hd ((hlst d hdl).1 hb).2
        have hap : ApartD ops D' oi := by
          intro d hd o ho
          obtain ⟨o1, o2, h1, h2, _, h4, _⟩ := pair_apart hcl (hout d hd i hil hiC') (hnl' d hd) hil hdeps'
          rw [ho] at h1; cases h1
          rw [hoi] at h2; cases h2
          exact h4
        have hstore : ∀ d ∈ D', ∀ o, ops[d]? = some o → isLoad o.op = true → storeLike oi.op = false := by
          intro d hd o ho hld
          obtain ⟨o1, o2, h1, h2, _, _, h5⟩ := pair_apart hcl (hout d hd i hil hiC') (hnl' d hd) hil hdeps'
          rw [ho] at h1; cases h1
          rw [hoi] at h2; cases h2
          cases hs : storeLike oi.op with
          | false => rfl
          | true => rw [h5 hs] at hld; cases hld
        obtain ⟨fr1, he1, hf1, hex⟩ := execs_cons hex
        have hrep1 := hrep.feqC he1.symm
        have hlook := Replay.at hrep1 hap
        have hws : wantedS ops.toList frR oi = wantedS ops.toList frC' oi := by
          rw [wantedS_same hlook, ← wantedS_eq (fun _ => 0), ← wantedS_eq (fun _ => 0), he1.rf]
        have hiD' : i ∉ D' := fun h => hiC' (hsub i h)
        have newInv : ∀ s bs' L' H' w', execs E true ops.toList [] (put fr1 oi.dst s) L' H' (fun fr L H => execsP E ops.toList p' fr L H k) → s.wf L'.length → L.length ≤ L'.length → Rel E.w0 bs' ks L' H' w' → (storeLike oi.op = false → L <+: L' ∧ ∀ x ∈ H, x ∈ H') →
            PInv E ops k (listed.setIfInBounds i true) p' [] (C1' ++ [i]) D' (put frR oi.dst s) (put fr1 oi.dst s) L' H' := by
          intro s bs' L' H' w' hk hwf hle hrel hpre
          simp only [execs] at hk
          refine ⟨hpl, hk, Replay.put (Replay.mono hle hrep1 fun d hd o ho hld => hpre (hstore d hd o ho hld)) hap, ((hf1 _ hwf').le hle).put hwf _, fun d hd => List.mem_append_left _ (hsub d hd), fun c hc => ?_, fun x hx => ?_, hprs, fun d hd j hj hjC => hout d hd j hj fun h => hjC (List.mem_append_left _ h)⟩
          · rcases List.mem_append.1 hc with h | h
            · exact hlt c h
            · rw [List.mem_singleton] at h; subst h; exact hil
          · rw [getD_set (by rw [hsz]; exact hil)]
            by_cases hxi : x = i
            · subst hxi
              simp only [if_true, true_iff]
              exact ⟨by simp, hiD'⟩
            · simp only [hxi, if_false]
              rw [hlst x hx]
              simp [hxi]
        have hsz' : (listed.setIfInBounds i true).size = ops.size := by simp [hsz]
        rcases hex with ⟨hw, hex⟩ | ⟨hw, hex⟩
        · refine wp_op hE hD hoi hex (hws.trans hw) rel (hf1 _ hwf') wfR (fun x hx => op1_same hlook hx bs) fun s bs' L' H' w' hk hwf hx => ?_
          exact ih _ _ _ _ _ _ _ _ _ _ hcnt hsz' closed' (newInv s bs' L' H' w' hk hwf hx.le hx.rel fun hs => hx.pre rfl hs) hx.rel ((wfR.le hx.le).put hwf _) (hc.trans hx.toCome)
        · exact wp_skip_op hoi (hws.trans hw) (ih _ _ _ _ _ _ _ _ _ _ hcnt hsz' closed' (newInv (.v undef) bs L H w hex trivial (Nat.le_refl _) rel fun _ => ⟨List.prefix_refl _, fun _ h => h⟩) rel (WfFr.put wfR (y := .v undef) trivial _) hc)

end Go.SX
