/- Regions: lists of operations, in the order of the text, or in any order that the program's edges allow. -/
import Derived.Test.YtpfbpelkodlljaaSxF
set_option linter.all false
namespace Go.SX
open Go.RowKit

def isFree : Op → Bool
  | .alloc _ => false
  | .box _ _ => false
  | .store .. => false
  | .buildSlice .. => false
  | .makeSlice .. => false
  | .call c => match c.callee with
    | .builtin .len => true
    | .builtin .cap => true
    | .builtin .max => true
    | .builtin .min => true
    | _ => false
  | _ => true

def exec1 (E : Env) (dr : Bool) (fr : List SV) (L : List Box) (H : List HO) (d : Option Nat) (op : Op) (k : SV → List Box → List HO → Prop) : Prop :=
  bif isFree op then freeOp E fr L H op fun s => k s L H else chainOp E dr fr L H d op k

def dstOf (all : List Oper) (j : Nat) : Option Nat := (all[j]?).bind (·.dst)

/-- A guard: the slot that it looks at is settled (and said anew), or parts the way. -/
def gdS (fr : List SV) (d : Option Nat) (want : Bool) (yes no : List SV → Prop) : Prop :=
  match d with
  | some d => match fget fr d with
    | .b t => bif t == want then yes fr else no fr
    | .v (.bool t) => (t = want → yes (fset fr d (.b want))) ∧ (t = !want → no (fset fr d (.b !want)))
    | .v (.tuple _) => no fr
    | _ => False
  | none => no fr

def execs (E : Env) (dr : Bool) (all : List Oper) : List Oper → List SV → List Box → List HO → (List SV → List Box → List HO → Prop) → Prop
  | [], fr, L, H, k => k fr L H
  | o :: r, fr, L, H, k => match o.guard with
    | none => exec1 E dr fr L H o.dst o.op fun s L H => execs E dr all r (put fr o.dst s) L H k
    | some (j, want) => gdS fr (dstOf all j) want (fun fr => exec1 E dr fr L H o.dst o.op fun s L H => execs E dr all r (put fr o.dst s) L H k) (fun fr => execs E dr all r (put fr o.dst (.v undef)) L H k)

/-- Two frames hold the same. -/
def FEq (fr fr' : List SV) : Prop := fr.length = fr'.length ∧ ∀ t bs, (fget fr t).real bs = (fget fr' t).real bs

theorem FEq.refl (fr : List SV) : FEq fr fr := ⟨rfl, fun _ _ => rfl⟩
theorem FEq.symm {a b : List SV} (h : FEq a b) : FEq b a := ⟨h.1.symm, fun t bs => (h.2 t bs).symm⟩
theorem FEq.trans {a b c : List SV} (h : FEq a b) (k : FEq b c) : FEq a c := ⟨h.1.trans k.1, fun t bs => (h.2 t bs).trans (k.2 t bs)⟩

theorem FEq.rf {a b : List SV} (h : FEq a b) (bs : Nat → Nat) : rf bs a = rf bs b := by
  apply Array.ext
  · simp [SX.rf, h.1]
  · intro i h1 h2
    have e1 := rf_get bs a i
    have e2 := rf_get bs b i
    rw [h.2 i bs] at e1
    simp only [Array.getD_eq_getD_getElem?, Array.getElem?_eq_getElem h1, Array.getElem?_eq_getElem h2, Option.getD_some] at e1 e2
    rw [e1, e2]

theorem fget_set_real (fr : List SV) (d t : Nat) (s : SV) (bs : Nat → Nat) : (fget (fset fr d s) t).real bs = if t = d ∧ d < fr.length then s.real bs else (fget fr t).real bs := by
  by_cases e : t = d
  · subst e
    by_cases hl : t < fr.length
    · simp [fget_set_same _ _ _ hl, hl]
    · have hn : ∀ (fr : List SV) (t : Nat), ¬ t < fr.length → fset fr t s = fr := by
        intro fr
        induction fr with
        | nil => intro t _; rfl
        | cons x l ih =>
          intro t ht
          cases t with
          | zero => simp at ht
          | succ t => simp [fset, ih t (by simpa using ht)]
      simp [hn fr t hl, hl]
  · simp [fget_set_ne _ _ _ _ e, e]

theorem FEq.set {a b : List SV} (h : FEq a b) (d : Nat) {s s' : SV} (hs : ∀ bs, s.real bs = s'.real bs) : FEq (fset a d s) (fset b d s') := by
  refine ⟨by simp [length_fset, h.1], fun t bs => ?_⟩
  rw [fget_set_real, fget_set_real, h.1, h.2 t bs, hs bs]

theorem FEq.put {a b : List SV} (h : FEq a b) (d : Option Nat) (s : SV) : FEq (put a d s) (put b d s) := by
  cases d with
  | none => exact h
  | some d => exact h.set d fun _ => rfl

theorem FEq.set_self {a : List SV} {d : Nat} {s : SV} (h : ∀ bs, s.real bs = (fget a d).real bs) : FEq (fset a d s) a := by
  refine ⟨length_fset _ _ _, fun t bs => ?_⟩
  rw [fget_set_real]
  split
  · rename_i hc; rw [hc.1]; exact h bs
  · rfl

theorem op1_feq {a b : List SV} (h : FEq a b) (x : Operand) (bs : Nat → Nat) : (op1 a x).real bs = (op1 b x).real bs := by
  have h1 := op1_real bs a [] x
  have h2 := op1_real bs b [] x
  rw [← h1, ← h2, h.rf bs]

/-- Is the operation carried out? -/
def wantedS (all : List Oper) (fr : List SV) (o : Oper) : Bool :=
  match o.guard with
  | none => true
  | some (j, want) => match dstOf all j with
    | some d => match (fget fr d).real (fun _ => 0) with
      | .bool t => t == want
      | _ => false
    | none => false

theorem real_bool {s : SV} {t : Bool} {bs bs' : Nat → Nat} (h : s.real bs = .bool t) : s.real bs' = .bool t := by
  cases s <;> simp_all [SV.real]

theorem wantedS_eq {ops : Array Oper} {o : Oper} {fr : List SV} (bs : Nat → Nat) : Region.wanted o (yielded ops (rf bs fr)) = wantedS ops.toList fr o := by
  unfold Region.wanted wantedS dstOf
  cases hg : o.guard with
  | none => rfl
  | some g =>
    obtain ⟨j, want⟩ := g
    simp only [yielded, Array.getElem?_toList]
    cases hd : (ops[j]?).bind (·.dst) with
    | none => rfl
    | some d =>
      simp only [Option.bind_some]
      have e := rf_get bs fr d
      cases ht : (rf bs fr)[d]? with
      | none =>
        rw [Array.getD_eq_getD_getElem?, ht] at e
        simp only [Option.getD_none] at e
        have : ∀ t, (fget fr d).real (fun _ => 0) ≠ .bool t := fun t h => by
          have := real_bool (bs' := bs) h
          rw [← e] at this
          cases this
        cases hv : (fget fr d).real (fun _ => 0) <;> first | rfl | exact absurd hv (this _)
      | some v =>
        rw [Array.getD_eq_getD_getElem?, ht] at e
        simp only [Option.getD_some] at e
        cases v with
        | bool t =>
          rw [real_bool (bs' := fun _ => 0) e.symm]
          rfl
        | _ =>
          have : ∀ t, (fget fr d).real (fun _ => 0) ≠ .bool t := fun t h => by
            have := real_bool (bs' := bs) h
            rw [← e] at this
            cases this
          cases hv : (fget fr d).real (fun _ => 0) <;> first | rfl | exact absurd hv (this _)

/-- One operation of a list. -/
theorem execs_cons {E : Env} {dr : Bool} {all r : List Oper} {o : Oper} {fr : List SV} {L : List Box} {H : List HO} {k : List SV → List Box → List HO → Prop} (h : execs E dr all (o :: r) fr L H k) :
    ∃ fr1, FEq fr1 fr ∧ (∀ n, WfFr n fr → WfFr n fr1) ∧
      ((wantedS all fr o = true ∧ exec1 E dr fr1 L H o.dst o.op fun s L H => execs E dr all r (put fr1 o.dst s) L H k) ∨ (wantedS all fr o = false ∧ execs E dr all r (put fr1 o.dst (.v undef)) L H k)) := by
  unfold execs at h
  cases hg : o.guard with
  | none =>
    simp only [hg] at h
    exact ⟨fr, FEq.refl _, fun _ h => h, .inl ⟨by simp [wantedS, hg], h⟩⟩
  | some g =>
    obtain ⟨j, want⟩ := g
    simp only [hg] at h
    unfold gdS at h
    cases hd : dstOf all j with
    | none =>
      simp only [hd] at h
      exact ⟨fr, FEq.refl _, fun _ h => h, .inr ⟨by simp [wantedS, hg, hd], h⟩⟩
    | some d =>
      simp only [hd] at h
      split at h
      · rename_i t ht
        have e : wantedS all fr o = (t == want) := by simp [wantedS, hg, hd, ht, SV.real]
        refine ⟨fr, FEq.refl _, fun _ h => h, ?_⟩
        rw [e]
        cases hw : (t == want) <;> simp only [hw, cond_true, cond_false] at h
        · exact .inr ⟨rfl, h⟩
        · exact .inl ⟨rfl, h⟩
      · rename_i t ht
        have e : wantedS all fr o = (t == want) := by simp [wantedS, hg, hd, ht, SV.real]
        rw [e]
        by_cases hw : t = want
        · subst hw
          exact ⟨_, FEq.set_self (by simp [ht, SV.real]), fun n hf => hf.set (y := .b t) trivial d, .inl ⟨by simp, h.1 rfl⟩⟩
        · have hw' : t = !want := by cases t <;> cases want <;> simp_all
          subst hw'
          exact ⟨_, FEq.set_self (by simp [ht, SV.real]), fun n hf => hf.set (y := .b !want) trivial d, .inr ⟨by simp, h.2 rfl⟩⟩
      · rename_i vs ht
        exact ⟨fr, FEq.refl _, fun _ h => h, .inr ⟨by simp [wantedS, hg, hd, ht, SV.real], h⟩⟩
      · exact h.elim

theorem put_real (bs : Nat → Nat) (fr : List SV) (d : Option Nat) (s : SV) (df : List Deferred) : ({ tmps := rf bs fr, defers := df } : Act).put d (s.real bs) = { tmps := rf bs (put fr d s), defers := df } := by
  cases d with
  | none => rfl
  | some d => simp only [Act.put, put, rf_set]

theorem not_defer {E : Env} {dr : Bool} {fr : List SV} {L : List Box} {H : List HO} {d : Option Nat} {op : Op} {k : SV → List Box → List HO → Prop} (h : exec1 E dr fr L H d op k) (c : Call) : op ≠ .defer c := by
  rintro rfl
  simp [exec1, isFree, freeOp] at h

/-- The machine at one operation, in a frame that holds what the walk's frame holds where the operation looks. -/
theorem wp_op {E : Env} (hE : E.Fine) (hD : E.DetOk) {dr : Bool} {ops : Array Oper} {i : Nat} {o : Oper} (ho : ops[i]? = some o) {frC frR : List SV} {L : List Box} {H : List HO} {k : SV → List Box → List HO → Prop} (h : exec1 E dr frC L H o.dst o.op k)
    (hw : wantedS ops.toList frR o = true) {bs : Nat → Nat} {ks : List (Nat × Obj)} {w : World} (r : Rel E.w0 bs ks L H w) (hf : WfFr L.length frC) (hfR : WfFr L.length frR) (hx : ∀ x ∈ o.op.operands, (op1 frR x).real bs = (op1 frC x).real bs)
    {rd : Option Nat} {df : List Deferred} {Q : Exit → Act → World → Prop} {K : Act → World → Prop}
    (hK : ∀ s bs' L' H' w', k s L' H' → s.wf L'.length → Next' E dr o.op bs bs' ks L L' H H' w w' → K { tmps := rf bs' (put frR o.dst s), defers := df } w') :
    wpOpIn (fence rd) 0 E.P ops Q i K { tmps := rf bs frR, defers := df } w := by
  have hnd := not_defer h
  unfold wpOpIn
  simp only [ho, wantedS_eq, hw, if_true]
  unfold Oper.wpIn
  refine ⟨fun _ _ => trivial, ?_⟩
  rw [Oper.semAt_eq _ _ _ hnd]
  have hρ : ∀ x ∈ o.op.operands, ({ tmps := rf bs frR, defers := df } : Act).eval x = (op1 frC x).real bs := fun x hxm => by rw [op1_real]; exact hx x hxm
  unfold exec1 at h
  cases hfree : isFree o.op with
  | true =>
    simp only [hfree, cond_true] at h
    obtain ⟨s, hk, hwf, hg⟩ := free_sound hE h
    rw [hg bs ks L H w _ o r (fun _ => ⟨List.prefix_refl _, fun _ h => h⟩) hρ rfl, Oper.uponIn_value, put_real]
    exact hK s bs L H w hk (hwf _ hf) ⟨Come.refl _ _ _ _, r, fun _ _ => ⟨List.prefix_refl _, fun _ h => h⟩⟩
  | false =>
    simp only [hfree, cond_false] at h
    refine chain_sound hD h r hρ rfl fun s bs' L' H' w' hk hwf hx => ?_
    have e : rf bs frR = rf bs' frR := (rf_agree hfR hx.agree).symm
    show K (({ tmps := rf bs frR, defers := df } : Act).put o.dst (s.real bs')) w'
    rw [e, put_real]
    exact hK s bs' L' H' w' hk hwf hx

theorem wp_skip_op {E : Env} {ops : Array Oper} {i : Nat} {o : Oper} (ho : ops[i]? = some o) {fr : List SV} (hw : wantedS ops.toList fr o = false) {bs : Nat → Nat} {w : World} {rd : Option Nat} {df : List Deferred} {Q : Exit → Act → World → Prop} {K : Act → World → Prop}
    (hK : K { tmps := rf bs (put fr o.dst (.v undef)), defers := df } w) : wpOpIn (fence rd) 0 E.P ops Q i K { tmps := rf bs fr, defers := df } w := by
  unfold wpOpIn
  simp only [ho, wantedS_eq, hw]
  refine ⟨fun _ _ => trivial, ?_⟩
  have : (undef : Value) = (SV.v undef).real bs := rfl
  rw [this, put_real]
  exact hK

/-- In the order of the text (or of any list). -/
theorem execs_sound {E : Env} (hE : E.Fine) (hD : E.DetOk) {dr : Bool} {ops : Array Oper} {k : List SV → List Box → List HO → Prop} {ks : List (Nat × Obj)} {rd : Option Nat} {df : List Deferred} {Q : Exit → Act → World → Prop} :
    ∀ (il : List Nat) (fr frR : List SV) (L : List Box) (H : List HO) (bs : Nat → Nat) (w : World), execs E dr ops.toList (il.filterMap (ops[·]?)) fr L H k → Rel E.w0 bs ks L H w → WfFr L.length fr → FEq frR fr → WfFr L.length frR →
      (∀ fr' bs' L' H' w', k fr' L' H' → WfFr L'.length fr' → Come bs bs' L L' H H' w w' → Rel E.w0 bs' ks L' H' w' → Q .normal { tmps := rf bs' fr', defers := df } w') →
      wpOpsIn (fence rd) 0 E.P ops Q il { tmps := rf bs frR, defers := df } w
  | [], fr, frR, L, H, bs, w, h, r, hf, he, _, hQ => by
    simp only [List.filterMap_nil, execs] at h
    simp only [wpOpsIn]
    rw [he.rf bs]
    exact hQ fr bs L H w h hf (Come.refl _ _ _ _) r
  | i :: il, fr, frR, L, H, bs, w, h, r, hf, he, hfR, hQ => by
    rw [wpOpsIn_cons]
    cases ho : ops[i]? with
    | none =>
      simp only [List.filterMap_cons, ho] at h
      simp only [wpOpIn, ho]
      exact execs_sound hE hD il fr frR L H bs w h r hf he hfR hQ
    | some o =>
      simp only [List.filterMap_cons, ho] at h
      obtain ⟨fr1, he1, hf1, h⟩ := execs_cons h
      have heR : FEq frR fr1 := he.trans he1.symm
      have hws : wantedS ops.toList frR o = wantedS ops.toList fr o := by rw [← wantedS_eq (fun _ => 0), ← wantedS_eq (fun _ => 0), he.rf]
      rcases h with ⟨hw, h⟩ | ⟨hw, h⟩
      · refine wp_op hE hD ho h (hws.trans hw) r (hf1 _ hf) hfR (fun x _ => op1_feq heR x bs) fun s bs' L' H' w' hk hwf hx => ?_
        exact execs_sound hE hD il _ _ L' H' bs' w' hk hx.rel (((hf1 _ hf).le hx.le).put hwf _) (heR.put _ s) ((hfR.le hx.le).put hwf _) fun fr' bs'' L'' H'' w'' hk' hf' hc hr =>
          hQ fr' bs'' L'' H'' w'' hk' hf' (Come.trans hx.toCome hc) hr
      · exact wp_skip_op ho (hws.trans hw) (execs_sound hE hD il _ _ L H bs w h r ((hf1 _ hf).put (y := .v undef) trivial _) (heR.put _ _) (hfR.put (y := .v undef) trivial _) hQ)

end Go.SX
