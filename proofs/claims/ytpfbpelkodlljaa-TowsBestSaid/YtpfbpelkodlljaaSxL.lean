/- The walk over code; a function's contract. -/
import Derived.Test.YtpfbpelkodlljaaSxK
set_option linter.all false
namespace Go.SX
open Go.RowKit

def lkO (i : Nat) : List (Nat × Plan) → Option Plan
  | [] => none
  | (j, l) :: r => bif i == j then some l else lkO i r

/-- A region that draws its order: by its plan; else in the order of the text. -/
def planS (E : Env) (o : Option Plan) (ops : List Oper) (fr : List SV) (L : List Box) (H : List HO) (k : List SV → List Box → List HO → Prop) : Prop :=
  match o with
  | some p => execsP E ops p fr L H k
  | none => execs E true ops ops fr L H k

def planOk (o : Option Plan) (ops : List Oper) : Bool :=
  match o with
  | some p => edgesB ops && planB ops p [] []
  | none => regB ops (List.range ops.length)

def cndS (fr : List SV) (c : Operand) (yes no : List SV → Prop) : Prop :=
  match op1 fr c with
  | .b t => bif t then yes fr else no fr
  | .v (.bool t) => match c with
    | .tmp d => (t = true → yes (fset fr d (.b true))) ∧ (t = false → no (fset fr d (.b false)))
    | _ => (t = true → yes fr) ∧ (t = false → no fr)
  | _ => False

def seqQ (K : St) (Q : XSt) : XSt := fun x =>
  match x with
  | .nxt => K
  | .ext i => Q (.ext i)
  | .ret => Q .ret

def blkQ (id : Nat) (Q : XSt) : XSt := fun x =>
  match x with
  | .nxt => Q .nxt
  | .ext i => bif i == id then Q .nxt else Q (.ext i)
  | .ret => Q .ret

/-- Where the walk is cut: before a region (twice its number), or behind one (twice its number and one). -/
def headR : Code → Nat
  | .region id _ _ => 2 * id
  | .seq a _ => headR a
  | .block _ a => headR a
  | .loop a => headR a
  | _ => 1000000

def tailR : Code → Nat
  | .region id _ _ => 2 * id + 1
  | .seq _ b => tailR b
  | _ => 1000000

def inCut (i : Nat) : List Nat → Bool
  | [] => false
  | j :: l => bif i == j then true else inCut i l

def cutL : List Nat → Code → Code → Bool
  | [], _, _ => false
  | l, a, b => inCut (headR b) l || inCut (tailR a) l

def cutQ {σ : Type} (w0 : Base) (wr : List (Nat × Nat)) (enc : σ → List (Nat × Value)) (Lf : σ → List Box) (Inv : σ → List HO → Prop) (fr : List SV) (n : Nat) (Q : XSt) : XSt := fun x fr' L' H' =>
  match x with
  | .nxt => ∃ s' H2, fits 0 wr (enc s') fr fr' ∧ L'.take n = Lf s' ∧ HImp w0 H' H2 ∧ Inv s' H2
  | .ext i => Q (.ext i) fr' L' H'
  | .ret => Q .ret fr' L' H'

/-- A cut: what holds behind the first part is told, and the second is walked once. -/
def CutOb (w0 : Base) (B : XSt → St) (K : St) (Q : XSt) (fr : List SV) (L : List Box) (H : List HO) : Prop :=
  ∃ (σ : Type) (wr : List (Nat × Nat)) (enc : σ → List (Nat × Value)) (Lf : σ → List Box) (Inv : σ → List HO → Prop), (∀ s, (Lf s).length = L.length) ∧
    B (cutQ w0 wr enc Lf Inv fr L.length Q) fr L H ∧ ∀ s H1 g, Inv s H1 → K (hv 0 wr (enc s) g fr) (Lf s) H1

def W (E : Env) : Code → XSt → St
  | .skip, Q, fr, L, H => Q .nxt fr L H
  | .ret, Q, fr, L, H => Q .ret fr L H
  | .exit i, Q, fr, L, H => Q (.ext i) fr L H
  | .seq a b, Q, fr, L, H => bif cutL E.cuts a b then CutOb E.w0 (W E a) (W E b Q) Q fr L H else W E a (seqQ (W E b Q) Q) fr L H
  | .block id a, Q, fr, L, H => W E a (blkQ id Q) fr L H
  | .region id ops draw, Q, fr, L, H => bif draw then planS E (lkO id E.ord) ops.toList fr L H (Q .nxt) else execs E false ops.toList ops.toList fr L H (Q .nxt)
  | .cond c a b, Q, fr, L, H => cndS fr c (fun fr => W E a Q fr L H) (fun fr => W E b Q fr L H)
  | .loop body, Q, fr, L, H => LoopOb E.w0 (W E body) Q fr L H
  | .rangeFunc g ps assign body, Q, fr, L, H => RangeOb E.P E.w0 (W E assign) (W E body) (op1 fr g) ps.toList Q fr L H
  | _, _, _, _, _ => False

def codeB (ord : List (Nat × Plan)) : Code → Bool
  | .seq a b => codeB ord a && codeB ord b
  | .block _ a => codeB ord a
  | .region id ops draw => !draw || planOk (lkO id ord) ops.toList
  | .cond _ a b => codeB ord a && codeB ord b
  | .loop a => codeB ord a
  | .rangeFunc _ _ a b => codeB ord a && codeB ord b
  | _ => true

theorem pick_range {α : Type} (l : List α) : (List.range l.length).filterMap (l[·]?) = l := by
  induction l with
  | nil => rfl
  | cons x l ih =>
    rw [List.length_cons, List.range_succ_eq_map, List.filterMap_cons]
    simp only [List.getElem?_cons_zero, List.filterMap_map]
    congr 1

theorem post_mono {E : Env} {bs : Nat → Nat} {L : List Box} {H : List HO} {w : World} {ks : List (Nat × Obj)} {ms : List Nat} {rd : Option Nat} {Q : XSt} {bs1 : Nat → Nat} {L1 : List Box} {H1 : List HO} {w1 : World} {ks1 : List (Nat × Obj)} {ms1 : List Nat}
    (hc : Come bs bs1 L L1 H H1 w w1) (hks : ∀ y ∈ ks, y ∈ ks1) (hmr : rd.isSome = true → ms1 = ms) {e : Exit} {a : Act} {w' : World} (h : PostW E bs1 L1 H1 w1 ks1 ms1 rd Q e a w') : PostW E bs L H w ks ms rd Q e a w' := by
  obtain ⟨x, fr', bs2, ks2, ms2, L2, H2, rfl, rfl, hq, hf2, hc2, hks2, hm2, hmr2, hr2⟩ := h
  exact ⟨x, fr', bs2, ks2, ms2, L2, H2, rfl, rfl, hq, hf2, hc.trans hc2, fun y hy => hks2 y (hks y hy), hm2, fun h => (hmr2 h).trans (hmr h), hr2⟩

theorem Wp.feq {E : Env} {c : Code} {Q : XSt} {fr fr' : List SV} {L : List Box} {H : List HO} (h : Wp E c Q fr' L H) (he : FEq fr' fr) (hw : ∀ n, WfFr n fr → WfFr n fr') : Wp E c Q fr L H := by
  intro rd bs ks ms w r hf hm hrd
  rw [← he.rf bs]
  exact h rd bs ks ms w r (hw _ hf) hm hrd

/-- The program lets every order happen. -/
def Env.Mixed (E : Env) : Prop := E.P.follows .mixedOrders = true

theorem W_sound {E : Env} (hE : E.Fine) (hD : E.DetOk) (hM : E.Mixed) : ∀ (c : Code) (Q : XSt) (fr : List SV) (L : List Box) (H : List HO), codeB E.ord c = true → W E c Q fr L H → Wp E c Q fr L H
  | .skip, Q, fr, L, H, _, h => fun rd bs ks ms w r hf hm hrd => wpIn_skip ⟨.nxt, fr, bs, ks, ms, L, H, rfl, rfl, h, hf, Come.refl _ _ _ _, fun _ h => h, hm, fun _ => rfl, r⟩
  | .ret, Q, fr, L, H, _, h => fun rd bs ks ms w r hf hm hrd => wpIn_ret ⟨.ret, fr, bs, ks, ms, L, H, rfl, rfl, h, hf, Come.refl _ _ _ _, fun _ h => h, hm, fun _ => rfl, r⟩
  | .exit i, Q, fr, L, H, _, h => fun rd bs ks ms w r hf hm hrd => wpIn_exit ⟨.ext i, fr, bs, ks, ms, L, H, rfl, rfl, h, hf, Come.refl _ _ _ _, fun _ h => h, hm, fun _ => rfl, r⟩
  | .seq a b, Q, fr, L, H, hc, h => by
    simp only [codeB, Bool.and_eq_true] at hc
    simp only [W] at h
    cases hcut : cutL E.cuts a b with
    | false =>
      rw [hcut] at h
      simp only [cond_false] at h
      have ha := W_sound hE hD hM a _ fr L H hc.1 h
      intro rd bs ks ms w r hf hm hrd
      refine wpIn_seq (wpIn_mono (ha rd bs ks ms w r hf hm hrd) fun e a1 w1 hp => ?_)
      obtain ⟨x, fr', bs1, ks1, ms1, L1, H1, rfl, rfl, hq, hf1, hc1, hks1, hm1, hmr1, hr1⟩ := hp
      cases x with
      | nxt =>
        have hb := W_sound hE hD hM b Q fr' L1 H1 hc.2 hq rd bs1 ks1 ms1 w1 hr1 hf1 hm1 fun l hl => by obtain ⟨r0, h0⟩ := hrd l hl; exact ⟨r0, hks1 _ h0⟩
        exact wpIn_mono hb fun e a2 w2 hp => post_mono hc1 hks1 hmr1 hp
      | ext i => exact ⟨.ext i, fr', bs1, ks1, ms1, L1, H1, rfl, rfl, hq, hf1, hc1, hks1, hm1, hmr1, hr1⟩
      | ret => exact ⟨.ret, fr', bs1, ks1, ms1, L1, H1, rfl, rfl, hq, hf1, hc1, hks1, hm1, hmr1, hr1⟩
    | true =>
      rw [hcut] at h
      simp only [cond_true] at h
      obtain ⟨σ, wr, enc, Lf, Inv, hlen, hB, hK⟩ := h
      have ha := W_sound hE hD hM a _ fr L H hc.1 hB
      intro rd bs ks ms w r hf hm hrd
      refine wpIn_seq (wpIn_mono (ha rd bs ks ms w r hf hm hrd) fun e a1 w1 hp => ?_)
      obtain ⟨x, fr', bs1, ks1, ms1, L1, H1, rfl, rfl, hq, hf1, hc1, hks1, hm1, hmr1, hr1⟩ := hp
      cases x with
      | nxt =>
        obtain ⟨s', H2, hfit, hL', himp, hinv⟩ := hq
        have hag : ∀ j, j < L.length → bs1 j = bs j := fun j hj => hc1.agree j hj
        obtain ⟨g, hg⟩ := fits_rf (bs := bs) (bs' := bs1) hag hfit hf
        have hr2 : Rel E.w0 bs1 ks1 (Lf s') H2 w1 := by rw [← hL']; exact (hr1.take L.length).imp himp
        have hcm : Come bs bs1 L (Lf s') H H2 w w1 := ⟨hag, Nat.le_of_eq (hlen s').symm, by rw [← hL']; exact (hc1.frm.take _).imp hr1.hp himp⟩
        have hfl : WfFr (Lf s').length fr := hf.le (Nat.le_of_eq (hlen s').symm)
        have hb := W_sound hE hD hM b Q _ (Lf s') H2 hc.2 (hK s' H2 g hinv) rd bs1 ks1 ms1 w1 hr2 (hv_wf fr 0 hfl) hm1 fun l hl => by obtain ⟨r0, h0⟩ := hrd l hl; exact ⟨r0, hks1 _ h0⟩
        refine wpIn_mono ?_ fun e a2 w2 hp => post_mono hcm hks1 hmr1 hp
        show Code.wpIn _ _ _ _ _ { tmps := rf bs1 fr', defers := _ } _
        rw [hg]
        exact hb
      | ext i => exact ⟨.ext i, fr', bs1, ks1, ms1, L1, H1, rfl, rfl, hq, hf1, hc1, hks1, hm1, hmr1, hr1⟩
      | ret => exact ⟨.ret, fr', bs1, ks1, ms1, L1, H1, rfl, rfl, hq, hf1, hc1, hks1, hm1, hmr1, hr1⟩
  | .block id a, Q, fr, L, H, hc, h => by
    simp only [codeB] at hc
    have ha := W_sound hE hD hM a _ fr L H hc h
    intro rd bs ks ms w r hf hm hrd
    refine wpIn_block (wpIn_mono (ha rd bs ks ms w r hf hm hrd) fun e a1 w1 hp => ?_)
    obtain ⟨x, fr', bs1, ks1, ms1, L1, H1, rfl, rfl, hq, hf1, hc1, hks1, hm1, hmr1, hr1⟩ := hp
    cases x with
    | nxt => exact ⟨.nxt, fr', bs1, ks1, ms1, L1, H1, rfl, rfl, hq, hf1, hc1, hks1, hm1, hmr1, hr1⟩
    | ret => exact ⟨.ret, fr', bs1, ks1, ms1, L1, H1, rfl, rfl, hq, hf1, hc1, hks1, hm1, hmr1, hr1⟩
    | ext i =>
      simp only [blkQ] at hq
      simp only [X.exit, Exit.inBlock]
      by_cases e : i = id
      · subst e
        simp only [beq_self_eq_true, cond_true] at hq
        simp only [if_true]
        exact ⟨.nxt, fr', bs1, ks1, ms1, L1, H1, rfl, rfl, hq, hf1, hc1, hks1, hm1, hmr1, hr1⟩
      · have e' : (i == id) = false := by simpa using e
        rw [e'] at hq
        simp only [e, if_false]
        exact ⟨.ext i, fr', bs1, ks1, ms1, L1, H1, rfl, rfl, hq, hf1, hc1, hks1, hm1, hmr1, hr1⟩
  | .region id ops draw, Q, fr, L, H, hc, h => by
    intro rd bs ks ms w r hf hm hrd
    cases draw with
    | false =>
      simp only [W, cond_false] at h
      refine wpIn_region ?_
      refine execs_sound (dr := false) hE hD (List.range ops.size) fr fr L H bs w (k := Q .nxt) ?_ r hf (FEq.refl _) hf fun fr' bs' L' H' w' hk hf' hcm hr => ⟨.nxt, fr', bs', ks, ms, L', H', rfl, rfl, hk, hf', hcm, fun _ h => h, hm, fun _ => rfl, hr⟩
      have := pick_range ops.toList
      simp only [Array.length_toList, Array.getElem?_toList] at this
      rw [this]
      exact h
    | true =>
      simp only [W, cond_true] at h
      simp only [codeB, Bool.not_true, Bool.false_or] at hc
      refine wpIn_region_any hM ?_
      have r' := r.drew
      have hcd : Come bs bs L L H H w w.drew := ⟨fun _ _ => rfl, Nat.le_refl _, Frm.new (Keep.drew (Keep.refl _ w)) fun h hh _ _ => .inl hh⟩
      have hq : ∀ fr' bs' L' H' w', Q .nxt fr' L' H' → WfFr L'.length fr' → Come bs bs' L L' H H' w w' → Rel E.w0 bs' ks L' H' w' → PostW E bs L H w ks ms rd Q .normal { tmps := rf bs' fr', defers := ms.map mkD } w' :=
        fun fr' bs' L' H' w' hk hf' hcm hr => ⟨.nxt, fr', bs', ks, ms, L', H', rfl, rfl, hk, hf', hcm, fun _ h => h, hm, fun _ => rfl, hr⟩
      cases hlk : lkO id E.ord with
      | none =>
        rw [hlk] at h hc
        simp only [planS] at h
        simp only [planOk] at hc
        have hspec := regB_spec hc
        have hpk := pick_range ops.toList
        simp only [Array.length_toList, Array.getElem?_toList] at hpk
        refine drawn_sound hE hD hc hq ops.size _ [] (List.range ops.toList.length) fr fr L H bs _ (by simpa using hspec.1)
          ⟨⟨[], rfl, List.Sublist.refl _, fun i hi => by simp [hi]⟩, by simp, fun j o hj' hj => by
            have hjl : j < ops.size := by simpa using (List.getElem?_eq_some_iff.1 hj').1
            simp [hjl] at hj, by simp only [Array.length_toList]; rw [hpk]; exact h, FEq.refl _, r', hf, hf⟩ hcd
      | some p =>
        rw [hlk] at h hc
        simp only [planS] at h
        simp only [planOk, Bool.and_eq_true] at hc
        refine plan_sound hE hD hc.1 hq ops.size _ p [] [] fr fr L H bs _ (cnt_le _ _) (by simp) (fun j o hj' hj => by
            have hjl : j < ops.size := by simpa using (List.getElem?_eq_some_iff.1 hj').1
            simp [hjl] at hj) ⟨hc.2, h, FEq.refl _, hf, by simp, by simp, fun i hi => by simp [hi], rfl, by simp⟩ r' hf hcd
  | .cond c a b, Q, fr, L, H, hc, h => by
    simp only [codeB, Bool.and_eq_true] at hc
    simp only [W, cndS] at h
    have part : ∀ t, op1 fr c = .v (.bool t) → ((t = true → Wp E a Q fr L H) ∧ (t = false → Wp E b Q fr L H)) → Wp E (.cond c a b) Q fr L H := by
      intro t ht hp rd bs ks ms w r hf hm hrd
      have hev : ({ tmps := rf bs fr, defers := ms.map mkD } : Act).eval c = .bool t := by rw [op1_real, ht]; rfl
      cases t with
      | true => exact wpIn_cond_true hev (hp.1 rfl rd bs ks ms w r hf hm hrd)
      | false => exact wpIn_cond_false hev (hp.2 rfl rd bs ks ms w r hf hm hrd)
    split at h
    · rename_i t ht
      intro rd bs ks ms w r hf hm hrd
      have hev : ({ tmps := rf bs fr, defers := ms.map mkD } : Act).eval c = .bool t := by rw [op1_real, ht]; rfl
      cases t with
      | true => exact wpIn_cond_true hev (W_sound hE hD hM a Q fr L H hc.1 h rd bs ks ms w r hf hm hrd)
      | false => exact wpIn_cond_false hev (W_sound hE hD hM b Q fr L H hc.2 h rd bs ks ms w r hf hm hrd)
    · rename_i t ht
      refine part t ht ?_
      split at h
      · rename_i d
        have hfd : fget fr d = .v (.bool t) := ht
        refine ⟨fun e => ?_, fun e => ?_⟩
        · subst e
          exact (W_sound hE hD hM a Q _ L H hc.1 (h.1 rfl)).feq (FEq.set_self (by simp [hfd, SV.real])) fun n hf => hf.set (y := .b true) trivial d
        · subst e
          exact (W_sound hE hD hM b Q _ L H hc.2 (h.2 rfl)).feq (FEq.set_self (by simp [hfd, SV.real])) fun n hf => hf.set (y := .b false) trivial d
      · exact ⟨fun e => W_sound hE hD hM a Q fr L H hc.1 (h.1 e), fun e => W_sound hE hD hM b Q fr L H hc.2 (h.2 e)⟩
    · exact h.elim
  | .loop body, Q, fr, L, H, hc, h => by
    simp only [codeB] at hc
    exact loop_sound (fun Q fr L H h => W_sound hE hD hM body Q fr L H hc h) h
  | .rangeFunc g ps assign body, Q, fr, L, H, hc, h => by
    simp only [codeB, Bool.and_eq_true] at hc
    exact range_sound (fun Q fr L H h => W_sound hE hD hM assign Q fr L H hc.1 h) (fun Q fr L H h => W_sound hE hD hM body Q fr L H hc.2 h) h
  | .goto _, _, _, _, _, _, h => h.elim
  | .label _, _, _, _, _, _, h => h.elim
  | .scope _, _, _, _, _, _, h => h.elim
  | .refuse _, _, _, _, _, _, h => h.elim

/-! ### Functions -/

def resK (E : Env) : List ResultVar → List SV → List Box → List HO → (List Value → Prop) → Prop
  | [], _, _, _, K => K []
  | .tmp t :: r, fr, L, H, K => withV (fget fr t) fun x => resK E r fr L H fun xs => K (x :: xs)
  | .cell a T :: r, fr, L, H, K => ldS E.w0 L H (ldT E.P T) (fget fr a) fun s => withV s fun x => resK E r fr L H fun xs => K (x :: xs)

def tupV : List Value → Value
  | [x] => x
  | xs => .tuple xs.toArray

def retQ (E : Env) (rs : List ResultVar) (Post : Value → List HO → Prop) : XSt := fun x fr L H =>
  match x with
  | .nxt => resK E rs fr L H fun vs => Post (tupV vs) H
  | .ret => resK E rs fr L H fun vs => Post (tupV vs) H
  | .ext _ => False

/-- A function's contract: called in w it returns; of what there was it turns at most the blocks of X; what it hands back, and the facts on new memory (or on X), are as Post says. -/
def Fn (P : Program) (f : Nat) (args : List Value) (w : World) (X : Nat → Prop) (Post : Value → List HO → Prop) : Prop :=
  Calls P f args.toArray w fun e w' => ∃ v N, e = .returned v ∧ Keep X w w' ∧ (∀ h ∈ N, h.ok w') ∧ (∀ h ∈ N, ∀ b, h.fp b → X b ∨ w.heap.size ≤ b) ∧ N.Pairwise Apart ∧ Post v N

def initF (args : List Value) (n : Nat) : List SV := args.map SV.v ++ List.replicate (n - args.length) (.v undef)

theorem results_run {E : Env} {bs : Nat → Nat} {ks : List (Nat × Obj)} {fr : List SV} {L : List Box} {H : List HO} {w : World} (r : Rel E.w0 bs ks L H w) : ∀ (rs : List ResultVar) (K : List Value → Prop), resK E rs fr L H K →
    ∃ vs, K vs ∧ (rs.mapM (m := Sem) fun | .tmp t => pure ((rf bs fr).getD t undef) | .cell a t => do loadVar t (← asAddr ((rf bs fr).getD a undef))).run E.P w = .ok vs w
  | [], K, h => ⟨[], h, by simp⟩
  | .tmp t :: rs, K, h => by
    simp only [resK] at h
    obtain ⟨x, hx, h⟩ := withV_iff h
    obtain ⟨vs, hK, hr⟩ := results_run r rs _ h
    refine ⟨x :: vs, hK, ?_⟩
    simp only [List.mapM_cons, Sem.run_bind, Sem.run_pure, Result.andThen_ok, hr]
    rw [rf_get, hx bs]
  | .cell a T :: rs, K, h => by
    simp only [resK] at h
    obtain ⟨s, h, _, hload⟩ := ldS_sound h
    obtain ⟨x, hx, h⟩ := withV_iff h
    obtain ⟨vs, hK, hr⟩ := results_run r rs _ h
    refine ⟨x :: vs, hK, ?_⟩
    have hl := hload bs ks L H w r (List.prefix_refl _) (fun _ h => h)
    rw [hx bs] at hl
    have hl' : (do loadVar T (← asAddr ((rf bs fr).getD a undef)) : Sem Value).run E.P w = .ok x w := by
      rw [rf_get]
      unfold Instr.loadAt at hl
      cases hp : (fget fr a).real bs with
      | pointer p =>
        cases p with
        | none => rw [hp] at hl; simp [Instr.sureAddr, stuck] at hl
        | some ad => rw [hp] at hl; simp only [Instr.sureAddr, Sem.run_bind, Sem.run_pure, Result.andThen_ok] at hl; simp only [asAddr, Sem.run_bind, Sem.run_pure, Result.andThen_ok, hl]
      | _ => rw [hp] at hl; simp [Instr.sureAddr, stuck] at hl
    rw [List.mapM_cons, Sem.run_bind, hl']
    simp only [Result.andThen_ok, Sem.run_bind, hr, Sem.run_pure]

theorem results_eq {E : Env} {bs : Nat → Nat} {ks : List (Nat × Obj)} {fr : List SV} {L : List Box} {H : List HO} {w : World} (r : Rel E.w0 bs ks L H w) (fn : Func) {K : List Value → Prop} (h : resK E fn.results.toList fr L H K) :
    ∃ vs, K vs ∧ (results fn (rf bs fr)).run E.P w = .ok (tupV vs) w := by
  obtain ⟨vs, hK, hr⟩ := results_run r fn.results.toList K h
  refine ⟨vs, hK, ?_⟩
  unfold results
  have e : (fn.results.mapM (m := Sem) fun | .tmp t => pure ((rf bs fr).getD t undef) | .cell a t => do loadVar t (← asAddr ((rf bs fr).getD a undef))).run E.P w = .ok vs.toArray w := by
    rw [← Array.toArray_toList (xs := fn.results), List.mapM_toArray]
    simp only [Sem.run_map, hr, Result.andThen_ok]
  rw [Sem.run_bind]
  refine (congrArg (fun z : Result (Array Value) => z.andThen fun vs w' => (pure (if h : vs.size = 1 then vs[0] else Value.tuple vs) : Sem Value).run E.P w') e).trans ?_
  simp only [Result.andThen_ok, Sem.run_pure]
  congr 1
  match vs with
  | [] => rfl
  | [x] => rfl
  | x :: y :: zs =>
    have : ¬ (x :: y :: zs).toArray.size = 1 := by simp
    rw [dif_neg this]
    rfl

end Go.SX
