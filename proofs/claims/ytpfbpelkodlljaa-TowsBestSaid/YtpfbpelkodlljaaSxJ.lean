/- A range over a function: the iterator's contract, what the walk asks, and that the machine does it. -/
import Derived.Test.YtpfbpelkodlljaaSxI
set_option linter.all false
namespace Go.SX
open Go.RowKit

/-- Whoever is called back: J tells where it stands (some k: k rounds are over, and it goes on; none: it has said no), what it may write (C) and what it reads (R). -/
structure Handler (P : Program) (l : Nat) (n : Nat) (arg : Nat → List Value → List HO → Prop) (ws : World) (C0 A : Nat → Prop) (J : Option Nat → (Nat → Prop) → (Nat → Prop) → World → Prop) : Prop where
  stable : ∀ st C R w1 w2, SameOn (fun b => C b ∨ R b) w1 w2 → (∀ b, C b ∨ R b → b < w1.heap.size) → J st C R w1 → J st C R w2
  lt : ∀ st C R w1, J st C R w1 → ∀ b, C b ∨ R b → b < w1.heap.size
  step : ∀ k C R vs F w1, k < n → J (some k) C R w1 → arg k vs F → (∀ h ∈ F, h.ok w1) → (∀ h ∈ F, ∀ b, ¬ h.fpx b) → (∀ b, fps F b → ¬ C b ∧ ws.heap.size ≤ b) → F.Pairwise Apart → Keep (fun b => C0 b ∨ A b) ws w1 →
    YieldAt Fence.wide 0 P l vs.toArray w1 fun e w2 => ∃ t C2 R2, e = .returned (.bool t) ∧ Keep C w1 w2 ∧ (∀ b, C2 b → C b ∨ w1.heap.size ≤ b) ∧ (∀ b, R2 b → R b ∨ fps F b ∨ C b ∨ w1.heap.size ≤ b) ∧ J (bif t then some (k + 1) else none) C2 R2 w2

/-- The iterator gf, called in w with yield, hands over n times what arg says, or fewer if it is told to stop. A: what it may write of what there is; Rs: what it reads, and nobody writes meanwhile. -/
def Iter (P : Program) (gf : Nat) (pre post : List Value) (n : Nat) (arg : Nat → List Value → List HO → Prop) (A Rs : Nat → Prop) (w : World) : Prop :=
  ∀ (l : Nat) (J : Option Nat → (Nat → Prop) → (Nat → Prop) → World → Prop) (C R : Nat → Prop), Handler P l n arg w C A J → J (some 0) C R w → (∀ b, A b → ¬ C b ∧ ¬ R b) → (∀ b, Rs b → ¬ C b) →
    Calls P gf (pre ++ [Value.func (.yield l) #[] #[]] ++ post).toArray w fun e w2 => ∃ st C2 R2, e = .returned (.tuple #[]) ∧ Keep (fun b => C b ∨ A b) w w2 ∧ (∀ b, C2 b → C b ∨ w.heap.size ≤ b) ∧ (∀ b, R2 b → R b ∨ C b ∨ w.heap.size ≤ b) ∧ (st = some n ∨ st = none) ∧ J st C2 R2 w2

def setPs : List SV → List Tmp → List Value → List SV
  | fr, t :: ts, v :: vs => setPs (fset fr t (.v v)) ts vs
  | fr, _, _ => fr

/-- How a round's body is left. -/
def rangeQ (w0 : Base) (n : Nat) (I : List Box → List HO → Prop) (Q : XSt) (fr : List SV) : XSt := fun x _ L2 H2 =>
  match x with
  | .nxt => ∃ H3, HImp w0 H2 H3 ∧ I (L2.take n) H3
  | .ext i => ∃ H3, HImp w0 H2 H3 ∧ Q (.ext i) fr (L2.take n) H3
  | .ret => ∃ H3, HImp w0 H2 H3 ∧ Q .ret fr (L2.take n) H3

def assignQ (K : St) : XSt := fun x fr L H =>
  match x with
  | .nxt => K fr L H
  | _ => False

def RangeOb (P : Program) (w0 : Base) (Ba Bb : XSt → St) (g : SV) (ps : List Tmp) (Q : XSt) (fr : List SV) (L : List Box) (H : List HO) : Prop :=
  match g with
  | .v (.func (.func gf) first cap) => CallT P gf ∧
    ∃ (n : Nat) (arg : Nat → List Value → List HO → Prop) (A Hc : List HO) (I : Nat → List Box → List HO → Prop) (Aw Rs : Nat → Prop),
      HImp w0 H (A ++ Hc) ∧ (∀ b, Aw b → fpsx A b) ∧ (∀ b, Rs b → (b < w0.w.heap.size ∧ ¬ w0.X b) ∨ fpsx A b) ∧ (∀ w, Hp w0 (A ++ Hc) w → Iter P gf first.toList cap.toList n arg Aw Rs w) ∧ I 0 L Hc ∧
      (∀ k vs F, arg k vs F → vs.length = ps.length) ∧
      (∀ k vs F L' H', k < n → arg k vs F → L'.length = L.length → I k L' H' → Ba (assignQ fun fr2 L2 H2 => Bb (rangeQ w0 L.length (I (k + 1)) Q fr) fr2 L2 H2) (setPs fr ps vs) L' (F ++ H')) ∧
      (∀ L' H', L'.length = L.length → I n L' H' → Q .nxt fr L' H')
  | _ => False

/-- The part of the state that hangs on its own blocks alone. -/
structure RelS (w0 : Base) (bs : Nat → Nat) (ks : List (Nat × Obj)) (L : List Box) (H : List HO) (w : World) : Prop where
  ok : ∀ h ∈ H, h.ok w
  old : ∀ h ∈ H, ∀ b, h.fpx b → w0.X b ∨ w0.w.heap.size ≤ b
  nd : H.Pairwise Apart
  box : ∀ j T cs, L[j]? = some (T, cs) → w.heap[bs j]? = some (.cells cs.toArray T (0, 0))
  bold : ∀ j, j < L.length → w0.w.heap.size ≤ bs j
  bnd : ∀ i j, i < L.length → j < L.length → bs i = bs j → i = j
  bh : ∀ j, j < L.length → ∀ h ∈ H, ¬ h.fp (bs j)
  kok : ∀ x ∈ ks, w.heap[x.1]? = some x.2
  kold : ∀ x ∈ ks, w0.w.heap.size ≤ x.1
  kh : ∀ x ∈ ks, ∀ h ∈ H, ¬ h.fp x.1
  kb : ∀ x ∈ ks, ∀ j, j < L.length → x.1 ≠ bs j

section
variable {w0 : Base} {bs : Nat → Nat} {ks : List (Nat × Obj)} {L : List Box} {H : List HO} {w : World}

theorem Rel.part (r : Rel w0 bs ks L H w) : RelS w0 bs ks L H w := ⟨r.hp.ok, r.hp.old, r.hp.nd, r.box, r.bold, r.bnd, r.bh, r.kok, r.kold, r.kh, r.kb⟩
theorem RelS.whole (r : RelS w0 bs ks L H w) (h : Keep w0.X w0.w w) : Rel w0 bs ks L H w := ⟨⟨h, r.ok, r.old, r.nd⟩, r.box, r.bold, r.bnd, r.bh, r.kok, r.kold, r.kh, r.kb⟩

/-- The blocks that the state may write; those that it reads. -/
def ownC (bs : Nat → Nat) (L : List Box) (H : List HO) (l : Nat) (b : Nat) : Prop := (∃ j, j < L.length ∧ b = bs j) ∨ fpsx H b ∨ b = l
def ownR (ks : List (Nat × Obj)) (H : List HO) (b : Nat) : Prop := fps H b ∨ ∃ x ∈ ks, b = x.1

theorem RelS.stable {w' : World} {l : Nat} (r : RelS w0 bs ks L H w) (h : SameOn (fun b => ownC bs L H l b ∨ ownR ks H b) w w') : RelS w0 bs ks L H w' := by
  refine ⟨fun x hx => HO.stable (r.ok x hx) ⟨h.size, fun b hb => h.same b (.inr (.inl ⟨x, hx, hb⟩))⟩, r.old, r.nd, fun j T cs hj => ?_, r.bold, r.bnd, r.bh, fun x hx => ?_, r.kold, r.kh, r.kb⟩
  · rw [h.same _ (.inl (.inl ⟨j, (List.getElem?_eq_some_iff.1 hj).1, rfl⟩))]
    exact r.box j T cs hj
  · rw [h.same _ (.inr (.inr ⟨x, hx, rfl⟩))]
    exact r.kok x hx

end

theorem putObj_keep {w : World} {l : Nat} (o : Obj) : Keep (fun b => b = l) w (w.putObj l o) :=
  ⟨rfl, rfl, rfl, by simp, fun k _ hn => World.putObj_heap_other hn⟩

/-- A block that is kept, and that no fact speaks of, is written: the facts stay. -/
theorem Rel.putK {w0 : Base} {bs : Nat → Nat} {ks : List (Nat × Obj)} {L : List Box} {H : List HO} {w : World} {l : Nat} {o : Obj} (r : Rel w0 bs ks L H w) (hl : l < w.heap.size) (hold : w0.w.heap.size ≤ l) (hb : ∀ j, j < L.length → l ≠ bs j) (hh : ∀ h ∈ H, ¬ h.fp l) (hk : ∀ x ∈ ks, x.1 ≠ l) :
    Rel w0 bs ((l, o) :: ks) L H (w.putObj l o) := by
  have hp := putObj_keep (w := w) (l := l) o
  refine ⟨⟨hp.into r.hp.ext (fun b e => .inr (e ▸ hold)), fun h hh' => HO.stable (r.hp.ok h hh') (hp.sameOn (fun _ hb => HO.lt (r.hp.ok h hh') hb) fun b hb e => hh h hh' (e ▸ hb)), r.hp.old, r.hp.nd⟩,
    fun j T cs hj => ?_, r.bold, r.bnd, r.bh, fun x hx => ?_, fun x hx => ?_, fun x hx => ?_, fun x hx => ?_⟩
  · have hjl := (List.getElem?_eq_some_iff.1 hj).1
    rw [World.putObj_heap_other (Ne.symm (hb j hjl))]
    exact r.box j T cs hj
  · rcases List.mem_cons.1 hx with rfl | hx
    · exact World.putObj_heap_same hl
    · rw [World.putObj_heap_other (hk x hx)]
      exact r.kok x hx
  · rcases List.mem_cons.1 hx with rfl | hx
    · exact hold
    · exact r.kold x hx
  · rcases List.mem_cons.1 hx with rfl | hx
    · exact hh
    · exact r.kh x hx
  · rcases List.mem_cons.1 hx with rfl | hx
    · exact hb
    · exact r.kb x hx

theorem Rel.dropK {w0 : Base} {bs : Nat → Nat} {ks ks' : List (Nat × Obj)} {L : List Box} {H : List HO} {w : World} (r : Rel w0 bs ks L H w) (h : ∀ x ∈ ks', x ∈ ks) : Rel w0 bs ks' L H w :=
  ⟨r.hp, r.box, r.bold, r.bnd, r.bh, fun x hx => r.kok x (h x hx), fun x hx => r.kold x (h x hx), fun x hx => r.kh x (h x hx), fun x hx => r.kb x (h x hx)⟩

/-- A new block that is kept. -/
theorem Rel.newK {w0 : Base} {bs : Nat → Nat} {ks : List (Nat × Obj)} {L : List Box} {H : List HO} {w : World} (r : Rel w0 bs ks L H w) (o : Obj) : Rel w0 bs ((w.heap.size, o) :: ks) L H (w.alloc o) := by
  have r' : Rel w0 bs ks L H (w.alloc o) := r.keep (Keep.alloc (fun _ => False) w o) (fun _ h => h.elim) (r.hp.alloc o) fun h hh b hb => .inl ⟨h, hh, hb⟩
  refine ⟨r'.hp, r'.box, r'.bold, r'.bnd, r'.bh, fun x hx => ?_, fun x hx => ?_, fun x hx => ?_, fun x hx => ?_⟩
  · rcases List.mem_cons.1 hx with rfl | hx
    · exact heap_alloc_new w o
    · exact r'.kok x hx
  · rcases List.mem_cons.1 hx with rfl | hx
    · exact r.hp.ext.size
    · exact r'.kold x hx
  · rcases List.mem_cons.1 hx with rfl | hx
    · intro h hh hb
      have := HO.lt (r.hp.ok h hh) hb
      simp at this
    · exact r'.kh x hx
  · rcases List.mem_cons.1 hx with rfl | hx
    · intro j hj
      have := r.blt hj
      simp only []
      omega
    · exact r'.kb x hx

theorem setPs_rf (bs : Nat → Nat) : ∀ (ps : List Tmp) (vs : List Value) (fr : List SV), ps.length = vs.length →
    ((ps.toArray.zip vs.toArray).foldl (fun tmps (x : Tmp × Value) => tmps.setIfInBounds x.1 x.2) (rf bs fr)) = rf bs (setPs fr ps vs) := by
  intro ps vs fr h
  rw [List.zip_toArray, List.foldl_toArray']
  · induction ps generalizing vs fr with
    | nil => cases vs <;> simp_all [setPs]
    | cons t ts ih =>
      cases vs with
      | nil => simp at h
      | cons v vs =>
        simp only [List.zip_cons_cons, List.foldl_cons, setPs]
        have : v = (SV.v v).real bs := rfl
        rw [this, rf_set]
        exact ih vs _ (by simpa using h)
  · rfl

theorem setPs_wf {n : Nat} : ∀ (ps : List Tmp) (vs : List Value) (fr : List SV), WfFr n fr → WfFr n (setPs fr ps vs)
  | [], _, fr, h => by simpa [setPs] using h
  | t :: ts, [], fr, h => by simpa [setPs] using h
  | t :: ts, v :: vs, fr, h => setPs_wf ts vs _ (h.set (y := .v v) trivial t)

end Go.SX
