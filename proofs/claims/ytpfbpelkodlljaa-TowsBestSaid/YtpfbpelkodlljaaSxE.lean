/- Operations that make or write memory, and calls: what each asks and gives ('chain'). -/
import Derived.Test.YtpfbpelkodlljaaSxD
import Derived.Laws.MakeOwn
import Derived.Laws.Tables
import Derived.RangeFuncRecord
import Derived.RangeFuncIn
import Derived.RangeFuncSeq
set_option linter.all false
namespace Go.SX
open Go.RowKit

inductive Tg where
  | fn (f : Nat)
  | yield (l : Nat)

def fence (rd : Option Nat) : Fence := { Fence.wide with round := rd }

def Invokes (P : Program) (tg : Tg) (args : List Value) (w : World) (R : Ending → World → Prop) : Prop :=
  match tg with
  | .fn f => Calls P f args.toArray w R
  | .yield l => YieldAt Fence.wide 0 P l args.toArray w R

/-- A call: in every world in which the facts hold it returns; what it turns is among the facts' blocks; the new facts hold. dr: the old facts must be among the new ones. -/
def CallOb (P : Program) (w0 : Base) (dr : Bool) (tg : Tg) (args : List Value) (H : List HO) (k : Value → List HO → Prop) : Prop :=
  ∀ w, Hp w0 H w → Invokes P tg args w fun e w' => ∃ v M H', e = .returned v ∧ Keep M w w' ∧ (∀ b, M b → fpsx H b) ∧ Hp w0 H' w' ∧ (∀ h ∈ H', ∀ b, (h.fp b → fps H b ∨ w.heap.size ≤ b) ∧ (h.fpx b → fpsx H b ∨ w.heap.size ≤ b)) ∧
    (dr = true → ∀ x ∈ H, x ∈ H') ∧ k v H'

/-- A function of the program with a body. -/
def CallT (P : Program) (g : Nat) : Prop := ∀ args w, (callFunc g args).run P w = .ok (.enter g args) w

def vcells (v : Value) : List Value := v.cells.toList

def zerosL (n : Nat) (z : List Value) : List Value := (List.replicate n z).flatten

theorem length_zerosL (n : Nat) (z : List Value) : (zerosL n z).length = n * z.length := by simp [zerosL]

theorem madeCells_zerosL (z : List Value) (n : Nat) : madeCells z.toArray (n * z.length) = (zerosL n z).toArray := by
  apply Array.ext'
  simp only [madeCells, Array.toList_map, Array.toList_range]
  induction n with
  | zero => simp [zerosL]
  | succ n ih =>
    rw [Nat.succ_mul, List.range_add, List.map_append, ih]
    have : zerosL (n + 1) z = zerosL n z ++ z := by simp [zerosL, List.replicate_succ']
    rw [this]
    congr 1
    rw [List.map_map]
    apply List.ext_getElem
    · simp
    · intro i h1 h2
      simp only [List.length_map, List.length_range] at h1
      simp [Nat.add_mod, Nat.mod_eq_of_lt h1, h1]

/-- The size, the zero value and the number of bytes of a slice's elements. -/
def elT (P : Program) (T : TypeId) : Option (TypeId × Nat × List Value × Nat) :=
  match P.underlying T with
  | some (.slice e) => match P.info? e with
    | some i => match i.zero with
      | some z => if i.size = 0 ∨ z.cells.size ≠ i.size ∨ i.bytes = 0 then none else some (e, i.size, z.cells.toList, i.bytes)
      | none => none
    | none => none
  | _ => none

def szT (P : Program) (T : TypeId) : Option Nat := (P.info? T).map (·.size)

def newBox (E : Env) (d : Option Nat) (T : TypeId) (cs : List Value) (L : List Box) (H : List HO) (k : SV → List Box → List HO → Prop) : Prop :=
  match d with
  | some d => if E.re.contains d = true then ∀ b, k (.v (.pointer (some ⟨b, 0, none⟩))) L (.cells b T cs :: H) else k (.p L.length 0) (L ++ [(T, cs)]) H
  | none => False

/-- A slice value reads as a list of cells. -/
def Sl (w : World) (v : Value) (sz : Nat) (xs : List Value) : Prop :=
  ∃ a len cap, v = .slice a len cap ∧ xs.length = len * sz ∧ ∀ i x, xs[i]? = some x → ∃ ad, a = some ad ∧ w.cell? (ad.add i) = some x

def AppOb (w0 : Base) (k : Option (TypeId × Nat × List Value × Nat)) (s x : Value) (H : List HO) (K : Value → List HO → Prop) : Prop :=
  match k with
  | some (e, sz, _, bytes) =>
    ∃ n m xs ys A, HImp w0 H (.row s e sz xs :: A) ∧ xs.length = n * sz ∧ ys.length = m * sz ∧ (∀ w, Hp w0 H w → Sl w x sz ys) ∧ (∀ y ∈ ys, y.oneCell' = true) ∧
      (n + m) * bytes ≤ 140737488355328 ∧ ∀ ad c, (ad = none → n = 0 ∧ m = 0) → K (.slice ad (n + m) c) (.row (.slice ad (n + m) c) e sz (xs ++ ys) :: A)
  | none => False

/-- A store into real memory: one fact is said anew. -/
def WrStep (h : HO) (a : Addr) (vs : List Value) (h' : HO) : Prop :=
  (∀ b, (h'.fp b ↔ h.fp b) ∧ (h'.fpx b ↔ h.fpx b)) ∧ ∀ w, h.ok w → ∃ b off cs T, a = ⟨b, off, none⟩ ∧ h.fpx b ∧ w.heap[b]? = some (.cells cs T (0, 0)) ∧ off + vs.length ≤ cs.size ∧
    ∀ w', w'.heap[b]? = some (.cells (cs.toList.take off ++ vs ++ cs.toList.drop (off + vs.length)).toArray T (0, 0)) → (∀ c, h.fp c → c ≠ b → w'.heap[c]? = w.heap[c]?) → w.heap.size ≤ w'.heap.size → h'.ok w'

def WrOb (H : List HO) (a : Addr) (vs : List Value) (K : List HO → Prop) : Prop :=
  ∃ A h B h', H = A ++ h :: B ∧ WrStep h a vs h' ∧ K (A ++ h' :: B)

def stS (L : List Box) (H : List HO) (n : Option Nat) (a : SV) (x : Value) (K : List Box → List HO → Prop) : Prop :=
  n = some (vcells x).length ∧ (vcells x).all (·.oneCell') = true ∧
  match a with
  | .p j o => j < L.length ∧ o + (vcells x).length ≤ (boxAt L j).length ∧ K (lset L j ((boxAt L j).take o ++ vcells x ++ (boxAt L j).drop (o + (vcells x).length))) H
  | .v (.pointer (some ad)) => WrOb H ad (vcells x) fun H => K L H
  | _ => False

def mkS (k : Option (TypeId × Nat × List Value × Nat)) (n c : Value) (L : List Box) (H : List HO) (K : SV → List Box → List HO → Prop) : Prop :=
  match k, n, c with
  | some (e, sz, z, bytes), .int _ n, .int _ c => 0 ≤ n ∧ n ≤ c ∧ c * bytes ≤ 140737488355328 ∧ ∀ b, K (.v (.slice (some ⟨b, 0, none⟩) n.toNat c.toNat)) L (.row (.slice (some ⟨b, 0, none⟩) n.toNat c.toNat) e sz (zerosL n.toNat z) :: H)
  | _, _, _ => False

def bsS (k : Option (TypeId × Nat × List Value × Nat)) (n : Nat) (ps : List (Nat × Value)) (L : List Box) (H : List HO) (K : SV → List Box → List HO → Prop) : Prop :=
  match k with
  | some (e, sz, z, _) => n * sz ≤ 16777216 ∧ ∃ cs, fillS ((List.range n).map fun i => (i * sz, sz)) (zerosL n z) ps = some cs ∧
      ∀ b, K (.v (.slice (some ⟨b, 0, none⟩) n n)) L (.row (.slice (some ⟨b, 0, none⟩) n n) e sz cs :: H)
  | none => False

/-- A call of a function whose value is known, or any. -/
def callS (E : Env) (dr : Bool) (g : Nat) (args : List Value) (L : List Box) (H : List HO) (k : SV → List Box → List HO → Prop) : Prop :=
  match E.det g args with
  | some v => k (.v v) L H
  | none => CallOb E.P E.w0 dr (.fn g) args H fun v H => k (.v v) L H

def invS (E : Env) (dr : Bool) (f : SV) (args : List Value) (L : List Box) (H : List HO) (k : SV → List Box → List HO → Prop) : Prop :=
  match f with
  | .v (.func (.func g) first cap) => CallT E.P g ∧ callS E dr g (first.toList ++ args ++ cap.toList) L H k
  | .v (.func (.yield l) first _) => CallOb E.P E.w0 dr (.yield l) (first.toList ++ args) H fun v H => k (.v v) L H
  | _ => False

def calS (E : Env) (dr : Bool) (g : Operand → SV) (c : Callee) (args : List Operand) (ts : List TypeId) (L : List Box) (H : List HO) (k : SV → List Box → List HO → Prop) : Prop :=
  match c, args, ts with
  | .value f, args, _ => withVs (args.map g) fun args => invS E dr (g f) args L H k
  | .builtin .append, [s, x], [T, T'] => T' = T ∧ withV (g s) fun s => withV (g x) fun x => AppOb E.w0 (elT E.P T) s x H fun v H => k (.v v) L H
  | _, _, _ => False

def chainOp (E : Env) (dr : Bool) (fr : List SV) (L : List Box) (H : List HO) (d : Option Nat) (op : Op) (k : SV → List Box → List HO → Prop) : Prop :=
  match op with
  | .alloc T => ∃ z, zeroT E.P T = some z ∧ newBox E d T z L H k
  | .box T x => withV (op1 fr x) fun x => newBox E d T (vcells x) L H k
  | .store T a x => withV (op1 fr x) fun x => stS L H (szT E.P T) (op1 fr a) x fun L H => k (.v undef) L H
  | .buildSlice T n ps => withVs (ps.toList.map fun p => op1 fr p.2) fun xs => bsS (elT E.P T) n ((ps.toList.map (·.1)).zip xs) L H k
  | .makeSlice T n c => withV (op1 fr n) fun n => withV (op1 fr c) fun c => mkS (elT E.P T) n c L H k
  | .call c => calS E dr (op1 fr) c.callee c.args.toList c.argTypes.toList L H k
  | _ => False

/-- Functions whose value is known beforehand (in every world that keeps what the walk may not write): they return it, and turn nothing that was there. -/
def DetFn (P : Program) (w0 : Base) (det : Nat → List Value → Option Value) : Prop :=
  ∀ g args v, det g args = some v → ∀ w, Keep w0.X w0.w w → Calls P g args.toArray w fun e w' => e = .returned v ∧ Keep (fun _ => False) w w'

def Env.DetOk (E : Env) : Prop := DetFn E.P E.w0 E.det

/-- Operations after which a fact may be gone. -/
def storeLike : Op → Bool
  | .store .. => true
  | .call { callee := .builtin .max, .. } => false
  | .call { callee := .builtin .min, .. } => false
  | .call { callee := .builtin .len, .. } => false
  | .call { callee := .builtin .cap, .. } => false
  | .call { callee := .builtin _, .. } => true
  | _ => false

/-- The state behind a step. -/
structure Next' (E : Env) (dr : Bool) (op : Op) (bs bs' : Nat → Nat) (ks : List (Nat × Obj)) (L L' : List Box) (H H' : List HO) (w w' : World) : Prop extends Come bs bs' L L' H H' w w' where
  rel : Rel E.w0 bs' ks L' H' w'
  pre : dr = true → storeLike op = false → L <+: L' ∧ ∀ x ∈ H, x ∈ H'

theorem elT_some {P : Program} {T : TypeId} {e sz bytes : Nat} {z : List Value} (h : elT P T = some (e, sz, z, bytes)) :
    ∃ i zv, P.underlying T = some (.slice e) ∧ P.info? e = some i ∧ i.zero = some zv ∧ i.size = sz ∧ zv.cells.toList = z ∧ i.bytes = bytes ∧ sz ≠ 0 ∧ z.length = sz ∧ bytes ≠ 0 := by
  unfold elT at h
  split at h
  · rename_i e' hu
    split at h
    · rename_i i hi
      split at h
      · rename_i zv hz
        split at h
        · cases h
        · rename_i hc
          simp only [Option.some.injEq, Prod.mk.injEq] at h
          obtain ⟨rfl, rfl, rfl, rfl⟩ := h
          simp only [not_or, Decidable.not_not] at hc
          exact ⟨i, zv, hu, hi, hz, rfl, rfl, rfl, hc.1, by simpa using hc.2.1, hc.2.2⟩
      · cases h
    · cases h
  · cases h

/-! ### append -/

theorem firstCells_sl {P : Program} {w : World} {a : Option Addr} {len cap sz m : Nat} {ys : List Value} (h : Sl w (.slice a len cap) sz ys) (hl : ys.length = m * sz) : (Builtin.firstCells sz m (.slice a len cap)).run P w = .ok ys.toArray w := by
  obtain ⟨a', len', cap', e, _, hc⟩ := h
  cases e
  cases a with
  | none =>
    cases ys with
    | nil => simp [Builtin.firstCells]
    | cons y ys => obtain ⟨ad, hd, _⟩ := hc 0 y rfl; cases hd
  | some ad =>
    refine run_firstCells_some w sz m ad len cap ys hl fun j v hj => ?_
    obtain ⟨ad', e, hv⟩ := hc j v hj
    cases e
    exact hv

theorem append_room {P : Program} {T e : TypeId} {i : TypeInfo} {w : World} (ht : P.underlying T = some (.slice e)) (hi : P.info? e = some i) {b off n cap m : Nat} {arr : Array Value} {a : Option Addr} {xc : Nat} {ys : List Value}
    (hb : w.heap[b]? = some (.cells arr e (0, 0))) (hx : Sl w (.slice a m xc) i.size ys) (hl : ys.length = m * i.size) (h1 : ∀ y ∈ ys, y.oneCell' = true) (hroom : n + m ≤ cap) (hfit : off + n * i.size + ys.length ≤ arr.size) (ty : TypeId) :
    (Builtin.append_ #[T, T] ty #[.slice (some ⟨b, off, none⟩) n cap, .slice a m xc]).run P w =
      .ok (.slice (some ⟨b, off, none⟩) (n + m) cap) (w.setRow b (arr.toList.take (off + n * i.size) ++ ys ++ arr.toList.drop (off + n * i.size + ys.length)).toArray) := by
  have hf := firstCells_sl (P := P) hx hl
  have hst := run_storeCells_at P b (off + n * i.size) e ys 0 arr w hb (by simpa using hfit) h1
  simp only [Nat.add_zero] at hst
  simp only [Builtin.append_, List.getElem?_toArray, List.getElem?_cons_zero, List.getElem?_cons_succ, Sem.run_bind, run_underlying ht, Result.andThen_ok, run_size hi, Sem.run_pure, Builtin.lenOf]
  simp [hroom, hf, add_block, hst]

theorem append_nil0 {P : Program} {T e : TypeId} {i : TypeInfo} {w : World} (ht : P.underlying T = some (.slice e)) (hi : P.info? e = some i) {a : Option Addr} {xc : Nat} (hx : Sl w (.slice a 0 xc) i.size []) (ty : TypeId) :
    (Builtin.append_ #[T, T] ty #[.slice none 0 0, .slice a 0 xc]).run P w = .ok (.slice none 0 0) w := by
  have hf := firstCells_sl (P := P) (m := 0) hx (by simp)
  simp only [Builtin.append_, List.getElem?_toArray, List.getElem?_cons_zero, List.getElem?_cons_succ, Sem.run_bind, run_underlying ht, Result.andThen_ok, run_size hi, Sem.run_pure, Builtin.lenOf]
  simp [hf]

theorem Keep.setRow {w : World} {b : Nat} (cs : Array Value) : Keep (fun k => k = b) w (w.setRow b cs) :=
  ⟨rfl, rfl, rfl, by simp [World.setRow], fun k _ hn => setRow_other w b k cs hn⟩

theorem len0 {m k : Nat} (h : ([] : List Value).length = m * k) (hk : 0 < k) : m = 0 := by
  rcases Nat.mul_eq_zero.1 h.symm with h | h
  · exact h
  · omega

/-- append, onto a slice that is owned. -/
theorem append_run {P : Program} {T e sz bytes : Nat} {z : List Value} (hk : elT P T = some (e, sz, z, bytes)) {w : World} {s x : Value} {n m : Nat} {xs ys : List Value} (hs : RowOk w s e sz xs) (hn : xs.length = n * sz) (hm : ys.length = m * sz)
    (hx : Sl w x sz ys) (h1 : ∀ y ∈ ys, y.oneCell' = true) (hb : (n + m) * bytes ≤ 140737488355328) (ty : TypeId) :
    ∃ ad c w', (ad = none → n = 0 ∧ m = 0) ∧ (Builtin.append_ #[T, T] ty #[s, x]).run P w = .ok (.slice ad (n + m) c) w' ∧ RowOk w' (.slice ad (n + m) c) e sz (xs ++ ys) ∧ Keep (fun b => s.ownBlock = some b) w w' ∧
      (∀ b, (Value.slice ad (n + m) c).ownBlock = some b → s.ownBlock = some b ∨ w.heap.size ≤ b) := by
  obtain ⟨i, zv, hu, hi, hz, rfl, hzc, rfl, hsz, hzl, hby⟩ := elT_some hk
  have hpos : 0 < i.size := by omega
  obtain ⟨a, m', xc, rfl, hm', hxc⟩ := hx
  have e1 : m' = m := Nat.eq_of_mul_eq_mul_right hpos (hm'.symm.trans hm)
  subst e1
  have hx : Sl w (.slice a m' xc) i.size ys := ⟨a, m', xc, rfl, hm', hxc⟩
  have hsmall : n + m' ≤ 140737488355328 := Nat.le_trans (Nat.le_mul_of_pos_right _ (by omega)) hb
  have hlen : (xs ++ ys).length = (n + m') * i.size := by rw [List.length_append, hn, hm', Nat.add_mul]
  have hzsize : zv.cells.size = i.size := by rw [← Array.length_toList, hzc]; exact hzl
  have grown : ∀ old, old < n + m' → RowOk (w.drew.alloc (.cells (xs.toArray ++ ys.toArray ++ Builtin.zeroCells zv.cells (grownCap w (n + m') old e - (n + m'))) e))
      (.slice (some ⟨w.heap.size, 0, none⟩) (n + m') (grownCap w (n + m') old e)) e i.size (xs ++ ys) := by
    intro old _
    have hge := grownCap_ge w (n + m') old e
    have hcm : grownCap w (n + m') old e ≤ maxLen := grownCap_le_maxLen w (n + m') old e (by simp only [maxLen]; omega)
    refine .inr ⟨w.heap.size, 0, _, _, _, rfl, heap_alloc_new w.drew _, hlen, hge, hcm, ?_, ?_⟩
    · simp only [Array.size_append, List.size_toArray, size_zeroCells, hzsize, hn, hm', ← Nat.add_mul, Nat.zero_add]
      apply Nat.le_of_eq
      congr 1
      omega
    · simp only [Array.toList_append, List.append_assoc, List.drop_zero]
      rw [← List.append_assoc, ← hlen]
      exact List.take_left
  have kg : ∀ o : Obj, Keep (fun b => s.ownBlock = some b) w (w.drew.alloc o) := fun o => ⟨rfl, rfl, rfl, by simp, fun k hk _ => Below.heap_alloc w.drew o k hk⟩
  rcases hs with ⟨rfl, rfl⟩ | ⟨b, off, len, cap, arr, rfl, hb', hxl, hlc, hcm, hfit, htake⟩
  · have hn0 : n = 0 := len0 hn hpos
    subst hn0
    by_cases h0 : m' = 0
    · subst h0
      have : ys = [] := List.eq_nil_of_length_eq_zero (by simpa using hm')
      subst this
      exact ⟨none, 0, w, fun _ => ⟨rfl, rfl⟩, append_nil0 hu hi hx ty, .inl ⟨rfl, rfl⟩, Keep.refl _ w, fun b hb => by simp [Value.ownBlock] at hb⟩
    · cases a with
      | none =>
        cases ys with
        | nil => have := len0 hm' hpos; omega
        | cons y ys => obtain ⟨ad, hd, _⟩ := hxc 0 y rfl; cases hd
      | some ad =>
        have hr := run_append_nil (P := P) w T ty e i zv hu hi hz ad m' xc ys hm' (fun j v hj => by obtain ⟨ad', e, hv⟩ := hxc j v hj; cases e; exact hv) (by omega) (by omega) (by simp only [Nat.zero_add] at hb; omega)
        have hg := grown 0 (by omega)
        simp only [Nat.zero_add, List.nil_append, Array.empty_append] at hg ⊢
        exact ⟨_, _, _, (fun h => by cases h), hr, hg, kg _, fun b hb => by simp [Value.ownBlock] at hb; exact .inr (by omega)⟩
  · have e2 : len = n := Nat.eq_of_mul_eq_mul_right hpos (hxl.symm.trans hn)
    subst e2
    by_cases hroom : len + m' ≤ cap
    · have hle : (len + m') * i.size ≤ cap * i.size := Nat.mul_le_mul_right _ hroom
      have hle' : off + len * i.size + ys.length ≤ arr.size := by rw [hm', Nat.add_assoc, ← Nat.add_mul]; omega
      have hr := append_room hu hi hb' hx hm' h1 hroom hle' ty
      refine ⟨_, _, _, (fun h => by cases h), hr, .inr ⟨b, off, len + m', cap, _, rfl, setRow_heap w b arr _ e _ hb', hlen, hroom, hcm, ?_, ?_⟩, (Keep.setRow _).mono fun k e => by simp [Value.ownBlock, e], fun k hk => .inl (by simpa [Value.ownBlock] using hk)⟩
      · simp only [List.size_toArray, List.length_append, List.length_take, List.length_drop, Array.length_toList]
        omega
      · have hal : arr.toList.length = arr.size := rfl
        simp only [List.append_assoc]
        rw [List.drop_append_of_le_length (by simp; omega)]
        have h3 : (arr.toList.take (off + len * i.size)).drop off = xs := by
          rw [List.drop_take]
          simpa using htake
        rw [h3, ← hlen, ← List.append_assoc]
        exact List.take_left
    · cases a with
      | none =>
        cases ys with
        | nil => have := len0 hm' hpos; omega
        | cons y ys => obtain ⟨ad, hd, _⟩ := hxc 0 y rfl; cases hd
      | some ad =>
        have holds : ∀ j v, xs[j]? = some v → w.cell? ((⟨b, off, none⟩ : Addr).add j) = some v := by
          intro j v hj
          rw [add_block, cell_of_cells hb']
          rw [← htake, List.getElem?_take] at hj
          split at hj
          · simpa using hj
          · cases hj
        have hr := run_append_grow (P := P) w T ty e i zv hu hi hz ⟨b, off, none⟩ len cap xs hxl holds ad m' xc ys hm' (fun j v hj => by obtain ⟨ad', e, hv⟩ := hxc j v hj; cases e; exact hv) (by omega) (by omega) (growslice_fits (by omega) hb)
        exact ⟨_, _, _, (fun h => by cases h), hr, grown cap (by omega), kg _, fun k hk => by simp [Value.ownBlock] at hk; exact .inr (by omega)⟩

end Go.SX
