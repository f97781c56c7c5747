/- Code: what the walk asks of each form, and that the machine does it. -/
import Derived.Test.YtpfbpelkodlljaaSxP
import Derived.RangeFuncLeaves
import Derived.RangeFuncNested
set_option linter.all false
namespace Go.SX
open Go.RowKit

/-- How code is left. -/
inductive X where
  | nxt
  | ext (id : Nat)
  | ret

def X.exit : X → Exit
  | .nxt => .normal
  | .ext i => .exit i
  | .ret => .ret

abbrev St := List SV → List Box → List HO → Prop
abbrev XSt := X → List SV → List Box → List HO → Prop

def mkD (r : Nat) : Deferred := { target := .collected r, args := #[] }

/-- The marks of loops over functions, whose calls are taken when the function is left. -/
def MarksOk (ks : List (Nat × Obj)) (ms : List Nat) : Prop := ms.Nodup ∧ ∀ r ∈ ms, (r, Obj.deferred (some [])) ∈ ks

/-- Within a round of a loop over a function its record is kept. -/
def RdOk (rd : Option Nat) (ks : List (Nat × Obj)) : Prop := ∀ l, rd = some l → ∃ r, (l, Obj.loop r) ∈ ks

def PostW (E : Env) (bs : Nat → Nat) (L : List Box) (H : List HO) (w : World) (ks : List (Nat × Obj)) (ms : List Nat) (rd : Option Nat) (Q : XSt) : Exit → Act → World → Prop := fun e a w' =>
  ∃ x fr' bs' ks' ms' L' H', e = X.exit x ∧ a = { tmps := rf bs' fr', defers := ms'.map mkD } ∧ Q x fr' L' H' ∧ WfFr L'.length fr' ∧ Come bs bs' L L' H H' w w' ∧ (∀ y ∈ ks, y ∈ ks') ∧ MarksOk ks' ms' ∧ (rd.isSome = true → ms' = ms) ∧ Rel E.w0 bs' ks' L' H' w'

/-- The machine's word for a state of the walk. -/
def Wp (E : Env) (c : Code) (Q : XSt) (fr : List SV) (L : List Box) (H : List HO) : Prop :=
  ∀ (rd : Option Nat) (bs : Nat → Nat) (ks : List (Nat × Obj)) (ms : List Nat) (w : World), Rel E.w0 bs ks L H w → WfFr L.length fr → MarksOk ks ms → RdOk rd ks →
    c.wpIn (fence rd) 0 E.P (PostW E bs L H w ks ms rd Q) { tmps := rf bs fr, defers := ms.map mkD } w

/-! ### Loops -/

def lkV (i : Nat) : List (Nat × Value) → Option Value
  | [] => none
  | (j, v) :: r => bif i == j then some v else lkV i r

def inI (i : Nat) : List (Nat × Nat) → Bool
  | [] => false
  | (a, b) :: r => (decide (a ≤ i) && decide (i ≤ b)) || inI i r

def hv1 (v : Option Value) (w : Bool) (g : Value) (x : SV) : SV :=
  match v with
  | some v => .v v
  | none => bif w then .v g else x

/-- The frame at a loop's head: the variables that are told, whatever in the slots that the loop writes besides, the rest as it was. -/
def hv (i : Nat) (wr : List (Nat × Nat)) (enc : List (Nat × Value)) (g : Nat → Value) : List SV → List SV
  | [] => []
  | x :: r => hv1 (lkV i enc) (inI i wr) (g i) x :: hv (i + 1) wr enc g r

def isV (s : SV) (v : Value) : Prop :=
  match s with
  | .v x => x = v
  | .b t => .bool t = v
  | .p _ _ => False

def fit1 (v : Option Value) (w : Bool) (x y : SV) : Prop :=
  match v with
  | some v => isV y v
  | none => bif w then True else x = y

def fits (i : Nat) (wr : List (Nat × Nat)) (enc : List (Nat × Value)) : List SV → List SV → Prop
  | [], [] => True
  | x :: r, y :: r' => fit1 (lkV i enc) (inI i wr) x y ∧ fits (i + 1) wr enc r r'
  | _, _ => False

def loopQ {σ : Type} (w0 : Base) (wr : List (Nat × Nat)) (enc : σ → List (Nat × Value)) (Lf : σ → List Box) (Inv : σ → List HO → Prop) (μ : σ → Nat) (fr : List SV) (n : Nat) (m : Nat) (Q : XSt) : XSt := fun x fr' L' H' =>
  match x with
  | .nxt => ∃ s' H2, fits 0 wr (enc s') fr fr' ∧ L'.take n = Lf s' ∧ HImp w0 H' H2 ∧ Inv s' H2 ∧ μ s' < m
  | .ext i => Q (.ext i) fr' L' H'
  | .ret => Q .ret fr' L' H'

/-- A loop: variables of some type, what holds of them and of memory at each round's head, a measure. -/
def LoopOb (w0 : Base) (B : XSt → St) (Q : XSt) (fr : List SV) (L : List Box) (H : List HO) : Prop :=
  ∃ (σ : Type) (wr : List (Nat × Nat)) (enc : σ → List (Nat × Value)) (Lf : σ → List Box) (Inv : σ → List HO → Prop) (μ : σ → Nat) (s0 : σ) (H0 : List HO),
    fits 0 wr (enc s0) fr fr ∧ L = Lf s0 ∧ (∀ s, (Lf s).length = L.length) ∧ HImp w0 H H0 ∧ Inv s0 H0 ∧
    ∀ s H1 g, Inv s H1 → B (loopQ w0 wr enc Lf Inv μ fr L.length (μ s) Q) (hv 0 wr (enc s) g fr) (Lf s) H1

theorem length_hv (wr : List (Nat × Nat)) (enc : List (Nat × Value)) (g : Nat → Value) : ∀ (fr : List SV) (i : Nat), (hv i wr enc g fr).length = fr.length
  | [], _ => rfl
  | x :: r, i => by simp [hv, length_hv wr enc g r (i + 1)]

theorem hv_wf {wr : List (Nat × Nat)} {enc : List (Nat × Value)} {g : Nat → Value} {n : Nat} : ∀ (fr : List SV) (i : Nat), WfFr n fr → WfFr n (hv i wr enc g fr)
  | [], _, _ => fun s hs => by simp [hv] at hs
  | x :: r, i, h => fun s hs => by
    simp only [hv, List.mem_cons] at hs
    rcases hs with rfl | hs
    · unfold hv1
      split
      · trivial
      · cases inI i wr
        · exact h x List.mem_cons_self
        · trivial
    · exact hv_wf r (i + 1) (fun s hs => h s (List.mem_cons_of_mem _ hs)) s hs

/-- A frame that fits is one at the loop's head. -/
theorem fits_hv {wr : List (Nat × Nat)} {enc : List (Nat × Value)} (bs bs' : Nat → Nat) {n : Nat} (ha : ∀ j, j < n → bs' j = bs j) : ∀ (fr fr' : List SV) (i : Nat) (g0 : Nat → Value), fits i wr enc fr fr' → WfFr n fr → (∀ j, i ≤ j → g0 j = (fget fr' (j - i)).real bs') →
    fr'.map (SV.real bs') = (hv i wr enc g0 fr).map (SV.real bs)
  | [], [], _, _, _, _, _ => rfl
  | [], y :: r', i, g0, h, _, _ => by simp [fits] at h
  | x :: r, [], i, g0, h, _, _ => by simp [fits] at h
  | x :: r, y :: r', i, g0, h, hw, hg => by
    obtain ⟨h1, h2⟩ := h
    simp only [List.map_cons, hv]
    congr 1
    · unfold fit1 at h1
      unfold hv1
      cases hl : lkV i enc with
      | some v =>
        simp only [hl] at h1 ⊢
        cases y <;> simp_all [isV, SV.real]
      | none =>
        simp only [hl] at h1 ⊢
        cases hi : inI i wr with
        | true =>
          have := hg i (Nat.le_refl _)
          simp only [Nat.sub_self, fget] at this
          simp [SV.real, this]
        | false =>
          rw [hi] at h1
          simp only [cond_false] at h1 ⊢
          subst h1
          exact SV.real_agree (hw x List.mem_cons_self) ha
    · refine fits_hv bs bs' ha r r' (i + 1) g0 h2 (fun s hs => hw s (List.mem_cons_of_mem _ hs)) fun j hj => ?_
      rw [hg j (by omega)]
      have : j - i = (j - (i + 1)) + 1 := by omega
      rw [this]
      rfl

theorem fits_rf {wr : List (Nat × Nat)} {enc : List (Nat × Value)} {bs bs' : Nat → Nat} {n : Nat} (ha : ∀ j, j < n → bs' j = bs j) {fr fr' : List SV} (h : fits 0 wr enc fr fr') (hw : WfFr n fr) : ∃ g, rf bs' fr' = rf bs' (hv 0 wr enc g fr) := by
  refine ⟨fun j => (fget fr' j).real bs', ?_⟩
  have := fits_hv bs bs' ha fr fr' 0 (fun j => (fget fr' j).real bs') h hw (fun j _ => by simp)
  unfold rf
  rw [this]
  congr 1
  exact (List.map_congr_left fun s hs => (SV.real_agree (hv_wf fr 0 hw s hs) ha).symm)

theorem wpIn_loopN {F : Fence} {n : Nat} {P : Program} {c : Code} {Q : Exit → Act → World → Prop} {a : Act} {w : World} (I : Nat → Act → World → Prop) (h₀ : ∃ m, I m a w)
    (round : ∀ m a w, I m a w → c.wpIn F n P (Exit.then (fun a' w' => ∃ m', m' < m ∧ I m' a' w') Q) a w) : (Code.loop c).wpIn F n P Q a w := by
  intro b k cs hro hb hr
  have key : ∀ j a w, I j a w →
      ∃ e a' w', Q e a' w' ∧ ArrivesIn (Machine.fenced P F) P (lone (b.atR a (.code c :: .inLoop c :: k)) cs w) b k cs e a' w' := by
    intro j
    induction j using Nat.strongRecOn with
    | _ j ih =>
      intro a w hI
      obtain ⟨e, a₁, w₁, hq, harr⟩ := round j a w hI b (.inLoop c :: k) cs hro hb hr
      cases e with
      | normal =>
        obtain ⟨m', hlt, hI₁⟩ := hq
        obtain ⟨e₂, a₂, w₂, hq₂, harr₂⟩ := ih m' hlt a₁ w₁ hI₁
        exact ⟨e₂, a₂, w₂, hq₂, .of_steps (StepsIn.trans harr (.one (fenced_calm hb hr rfl) stepR_inLoop)) harr₂⟩
      | exit id => exact ⟨_, a₁, w₁, hq, .pass (x := .inLoop c) rfl (fun _ _ => .inl (by simp)) harr⟩
      | goto l => exact ⟨_, a₁, w₁, hq, .pass (x := .inLoop c) rfl (fun _ _ => .inl (by simp)) harr⟩
      | ret => exact ⟨_, a₁, w₁, hq, .pass (x := .inLoop c) rfl (fun _ _ => .inl (by simp)) harr⟩
      | panic ch => exact ⟨_, a₁, w₁, hq, .pass (x := .inLoop c) rfl (fun _ _ => .inl (by simp)) harr⟩
      | outgrown => exact ⟨_, a₁, w₁, hq, .pass (x := .inLoop c) rfl (fun _ _ => .inl (by simp)) harr⟩
  obtain ⟨m, hm⟩ := h₀
  obtain ⟨e, a', w', hq, harr⟩ := key m a w hm
  exact ⟨e, a', w', hq, .of_steps (.one (fenced_calm hb hr rfl) stepR_loop) harr⟩

theorem loop_sound {E : Env} {c : Code} {B : XSt → St} (hB : ∀ Q fr L H, B Q fr L H → Wp E c Q fr L H) {Q : XSt} {fr : List SV} {L : List Box} {H : List HO} (h : LoopOb E.w0 B Q fr L H) : Wp E (.loop c) Q fr L H := by
  obtain ⟨σ, wr, enc, Lf, Inv, μ, s0, H0, hfit, hL, hlen, himp, hinv, hround⟩ := h
  intro rd bs ks ms w r hf hm hrd
  refine wpIn_loopN (fun m a w' => ∃ s H1 g bs' ks' ms', m = μ s ∧ Inv s H1 ∧ a = { tmps := rf bs' (hv 0 wr (enc s) g fr), defers := ms'.map mkD } ∧ Come bs bs' L (Lf s) H H1 w w' ∧ (∀ y ∈ ks, y ∈ ks') ∧ MarksOk ks' ms' ∧ (rd.isSome = true → ms' = ms) ∧ Rel E.w0 bs' ks' (Lf s) H1 w') ?_ ?_
  · obtain ⟨g, hg⟩ := fits_rf (bs := bs) (bs' := bs) (fun _ _ => rfl) hfit hf
    exact ⟨_, s0, H0, g, bs, ks, ms, rfl, hinv, by rw [hg], ⟨fun _ _ => rfl, by rw [← hL]; exact Nat.le_refl _, by rw [← hL]; exact (Frm.refl _ _ _ _).imp r.hp himp⟩, fun _ h => h, hm, fun _ => rfl, by rw [← hL]; exact r.imp himp⟩
  · rintro m a w' ⟨s, H1, g, bs1, ks1, ms1, rfl, hI, rfl, hc, hks, hm1, hmr, hr1⟩
    have hfl : WfFr (Lf s).length fr := hf.le (Nat.le_of_eq (hlen s).symm)
    have hw := hB _ _ _ _ (hround s H1 g hI) rd bs1 ks1 ms1 w' hr1 (hv_wf fr 0 hfl) hm1 (fun l hl => by obtain ⟨r, hr⟩ := hrd l hl; exact ⟨r, hks _ hr⟩)
    refine wpIn_mono hw fun e a w'' hp => ?_
    obtain ⟨x, fr', bs2, ks2, ms2, L2, H2, rfl, rfl, hq, hf2, hc2, hks2, hm2, hmr2, hr2⟩ := hp
    have hcc := hc.trans hc2
    cases x with
    | nxt =>
      obtain ⟨s', H3, hfit', hL', himp', hinv', hlt⟩ := hq
      have hag : ∀ j, j < L.length → bs2 j = bs j := fun j hj => hcc.agree j hj
      obtain ⟨g', hg'⟩ := fits_rf (bs := bs) (bs' := bs2) hag hfit' hf
      have hr3 : Rel E.w0 bs2 ks2 (Lf s') H3 w'' := by rw [← hL']; exact (hr2.take L.length).imp himp'
      exact ⟨μ s', hlt, s', H3, g', bs2, ks2, ms2, rfl, hinv', by rw [hg'], ⟨hag, Nat.le_of_eq (hlen s').symm, by rw [← hL']; exact (hcc.frm.take _).imp hr2.hp himp'⟩, fun y hy => hks2 y (hks y hy), hm2, fun h => (hmr2 h).trans (hmr h), hr3⟩
    | ext i => exact ⟨.ext i, fr', bs2, ks2, ms2, L2, H2, rfl, rfl, hq, hf2, hcc, fun y hy => hks2 y (hks y hy), hm2, fun h => (hmr2 h).trans (hmr h), hr2⟩
    | ret => exact ⟨.ret, fr', bs2, ks2, ms2, L2, H2, rfl, rfl, hq, hf2, hcc, fun y hy => hks2 y (hks y hy), hm2, fun h => (hmr2 h).trans (hmr h), hr2⟩

end Go.SX
