/- What comes in: the shape of each argument, from what the row says of it; and what the row asks at the end of a law. -/
import Derived.Test.YtpfbpelkodlljaaSxR
import Derived.Carry
import Derived.ProofKit
set_option linter.all false
namespace Go.SX
open Go.RowKit Go.ChangeShapes

/-- What stands in a cell. -/
inductive Kd where
  | int (k : IntKind)
  | bool
  | slice (e : TypeId)

def flatFs (P : Program) (fl : TypeId → Option (List Kd)) : List Field → Nat → Option (List Kd)
  | [], _ => some []
  | f :: r, off =>
    if f.offset = off then
      match fl f.type with
      | some ks => if ks.length = P.cellsOf f.type then (flatFs P fl r (off + ks.length)).map (ks ++ ·) else none
      | none => none
    else none

/-- The cells of a type. -/
def flat (P : Program) : Nat → TypeId → Option (List Kd)
  | 0, _ => none
  | n + 1, t =>
    match P.underlying t with
    | some (.int k) => some [.int k]
    | some .bool => some [.bool]
    | some (.slice e) => some [.slice e]
    | some (.struct fs) =>
      match flatFs P (flat P n) fs.toList 0 with
      | some ks => if ks.length = P.cellsOf t then some ks else none
      | none => none
    | _ => none

inductive Lvs (P : Program) (w : World) : List Kd → List Value → Prop where
  | nil : Lvs P w [] []
  | int {k : IntKind} {n : Int} {ks : List Kd} {vs : List Value} (h : (Lit.int k n).wf = true) (r : Lvs P w ks vs) : Lvs P w (.int k :: ks) (.int k n :: vs)
  | bool {b : Bool} {ks : List Kd} {vs : List Value} (r : Lvs P w ks vs) : Lvs P w (.bool :: ks) (.bool b :: vs)
  | slice {e : TypeId} {a : Option Addr} {len cap : Nat} (xss : List (List Value)) {ks : List Kd} {vs : List Value} (hl : xss.length = len) (hc : len ≤ cap) (hm : cap ≤ maxLen) (hs : Sl w (.slice a len cap) (P.cellsOf e) xss.flatten)
      (h1 : ∀ xs ∈ xss, xs.length = P.cellsOf e) (hx : ∀ xs ∈ xss, ∀ m es, flat P m e = some es → Lvs P w es xs) (r : Lvs P w ks vs) : Lvs P w (.slice e :: ks) (.slice a len cap :: vs)

theorem Lvs.append {P : Program} {w : World} {ks ks' : List Kd} {vs vs' : List Value} (h : Lvs P w ks vs) (h' : Lvs P w ks' vs') : Lvs P w (ks ++ ks') (vs ++ vs') := by
  induction h with
  | nil => exact h'
  | int hw _ ih => exact .int hw ih
  | bool _ ih => exact .bool ih
  | slice xss hl hc hm hs h1 hx _ _ ih => exact .slice xss hl hc hm hs h1 hx ih

theorem mapM_get {α β : Type} {f : α → Option β} : ∀ {l : List α} {r : List β}, l.mapM f = some r → r.length = l.length ∧ ∀ (i : Nat) (x : α), l[i]? = some x → f x = r[i]?
  | [], r, h => by
    simp at h
    subst h
    exact ⟨rfl, fun i x hx => by simp at hx⟩
  | a :: l, r, h => by
    simp only [List.mapM_cons, Option.pure_def, Option.bind_eq_bind, Option.bind_eq_some_iff, Option.some.injEq] at h
    obtain ⟨y, hy, ys, hys, rfl⟩ := h
    obtain ⟨hl, hg⟩ := mapM_get hys
    refine ⟨by simp [hl], fun i x hx => ?_⟩
    cases i with
    | zero =>
      simp at hx
      subst hx
      simpa using hy
    | succ i =>
      simp at hx
      simpa using hg i x hx

theorem cells_get {w : World} {base n : Nat} {a : Addr} {cs : List Value} (h : w.cells? base a n = some cs) : cs.length = n ∧ ∀ i x, cs[i]? = some x → w.cell? (a.add i) = some x := by
  unfold World.cells? at h
  split at h
  · obtain ⟨hl, hg⟩ := mapM_get h
    simp at hl
    refine ⟨hl, fun i x hx => ?_⟩
    have hi : i < n := by have := (List.getElem?_eq_some_iff.1 hx).1; omega
    have := hg i i (by simp [hi])
    rw [this, hx]
  · cases h

theorem flatFs_leaves {P : Program} {w : World} {fl : TypeId → Option (List Kd)} {T : TypeId → List Value → Prop} (hT : ∀ t cs ks, T t cs → fl t = some ks → Lvs P w ks cs) : ∀ (fs : List Field) (off : Nat) (ks : List Kd) (cs : List Value), flatFs P fl fs off = some ks →
    cs.length = off + ks.length → (∀ f ∈ fs, T f.type ((cs.drop f.offset).take (P.cellsOf f.type))) → Lvs P w ks (cs.drop off)
  | [], off, ks, cs, h, hl, _ => by
    simp [flatFs] at h
    subst h
    rw [List.drop_of_length_le (by simp at hl; omega)]
    exact .nil
  | f :: r, off, ks, cs, h, hl, hT' => by
    simp only [flatFs] at h
    split at h
    · rename_i ho
      split at h
      · rename_i ks1 hk
        split at h
        · rename_i hc
          simp only [Option.map_eq_some_iff] at h
          obtain ⟨ks2, h2, rfl⟩ := h
          have h1 := hT _ _ _ (hT' f List.mem_cons_self) hk
          have hr := flatFs_leaves hT r (off + ks1.length) ks2 cs h2 (by simp at hl; omega) fun g hg => hT' g (List.mem_cons_of_mem _ hg)
          rw [ho, ← hc] at h1
          have := h1.append hr
          rwa [← List.drop_drop, List.take_append_drop] at this
        · cases h
      · cases h
    · cases h

theorem leaves_of_trod {H : Type} {enc : TypeId × Value → H} {P : Program} {w : World} {sp : Nat → Bool} {held : Bool} : ∀ (fuel : Nat) (t : TypeId) (cs : List Value) (x : DataW H × List MemPlace), DataW.trod enc P w 0 sp held fuel t cs = some x → ∀ m ks, flat P m t = some ks → Lvs P w ks cs
  | 0, t, cs, x, h, _, _, _ => by simp [DataW.trod] at h
  | fuel + 1, t, cs, x, h, m, ks, hk => by
    cases m with
    | zero => simp [flat] at hk
    | succ m =>
    simp only [flat] at hk
    cases hu : P.underlying t with
    | none => simp [hu] at hk
    | some d =>
      rw [hu] at hk
      cases d <;> simp only [] at hk <;> try contradiction
      case bool =>
        cases hk
        obtain ⟨b, rfl, _⟩ := DataW.trod_bool hu h
        exact .bool .nil
      case int k =>
        cases hk
        obtain ⟨n, rfl, _, hw⟩ := DataW.trod_int hu h
        exact .int hw .nil
      case slice e =>
        cases hk
        rcases DataW.trod_slice hu h with ⟨rfl, _⟩ | ⟨a, len, cap, elems, rest, n, hn, rfl, _, _, hl, hm, hlen, hel, _, _⟩
        · exact .slice [] rfl (Nat.le_refl _) (by decide) (Sl.nil w _) (by simp) (by simp) .nil
        · cases hn
          have hel' : ∀ i, i < len → ∃ c, w.cells? 0 (a.add (i * P.cellsOf e)) (P.cellsOf e) = some c ∧ ∃ y, DataW.trod enc P w 0 sp held fuel e c = some y := fun i hi => by
            have := hel i hi
            rw [List.getElem?_eq_getElem (by omega)] at this
            obtain ⟨c, hc, hy⟩ := Option.bind_eq_some_iff.1 this
            exact ⟨c, hc, _, hy⟩
          let f : Nat → List Value := fun i => (w.cells? 0 (a.add (i * P.cellsOf e)) (P.cellsOf e)).getD []
          have hf : ∀ i, i < len → w.cells? 0 (a.add (i * P.cellsOf e)) (P.cellsOf e) = some (f i) := fun i hi => by
            obtain ⟨c, hc, _⟩ := hel' i hi
            simp [f, hc]
          have hmem : ∀ xs ∈ (List.range len).map f, ∃ i, i < len ∧ xs = f i := fun xs hxs => by
            obtain ⟨i, hi, rfl⟩ := List.mem_map.1 hxs
            exact ⟨i, by simpa using hi, rfl⟩
          have h1 : ∀ xs ∈ (List.range len).map f, xs.length = P.cellsOf e := fun xs hxs => by
            obtain ⟨i, hi, rfl⟩ := hmem xs hxs
            exact (cells_get (hf i hi)).1
          have key : ∀ m, m ≤ len → ((List.range m).map f).flatten.length = m * P.cellsOf e ∧ ∀ i x, (((List.range m).map f).flatten)[i]? = some x → w.cell? (a.add i) = some x := by
            intro m
            induction m with
            | zero => intro _; simp
            | succ m ih =>
              intro hle
              obtain ⟨ih1, ih2⟩ := ih (by omega)
              have hc := cells_get (hf m (by omega))
              rw [List.range_succ, List.map_append, List.flatten_append]
              simp only [List.map_cons, List.map_nil, List.flatten_cons, List.flatten_nil, List.append_nil]
              refine ⟨by rw [List.length_append, ih1, hc.1, Nat.add_mul]; omega, fun i x hx => ?_⟩
              by_cases hi : i < m * P.cellsOf e
              · rw [List.getElem?_append_left (by omega)] at hx
                exact ih2 i x hx
              · rw [List.getElem?_append_right (by omega), ih1] at hx
                have := hc.2 _ x hx
                rwa [add_add, show m * P.cellsOf e + (i - m * P.cellsOf e) = i by omega] at this
          have hk := key len (Nat.le_refl _)
          refine .slice ((List.range len).map f) (by simp) hl hm ⟨some a, len, cap, rfl, hk.1, fun i x hx => ⟨a, rfl, hk.2 i x hx⟩⟩ h1 (fun xs hxs m es hes => ?_) .nil
          obtain ⟨i, hi, rfl⟩ := hmem xs hxs
          obtain ⟨c, hc, y, hy⟩ := hel' i hi
          have : f i = c := by simp [f, hc]
          rw [this]
          exact leaves_of_trod fuel e c y hy m es hes
      case struct fs =>
        split at hk
        · rename_i ks' hfs
          split at hk
          · rename_i hkl
            cases hk
            obtain ⟨xs, n, hn, _, hlen, hxl, hx⟩ := DataW.trod_struct hu h
            cases hn
            have := flatFs_leaves (P := P) (w := w) (T := fun t cs => ∃ y, DataW.trod enc P w 0 sp held fuel t cs = some y) (fun t cs ks ⟨y, hy⟩ hk => leaves_of_trod fuel t cs y hy m ks hk) fs.toList 0 ks cs hfs (by omega) fun f hf => by
              obtain ⟨i, hi, rfl⟩ := List.mem_iff_getElem.1 hf
              have hi' : i < fs.size := by simpa using hi
              have := hx i fs[i] (by simp [hi'])
              rw [List.getElem?_eq_getElem (by omega)] at this
              exact ⟨_, by simpa using this⟩
            simpa using this
          · cases hk
        · cases hk

theorem lvs_of_Trod {H : Type} {enc : TypeId × Value → H} {P : Program} {w : World} {sp : Nat → Bool} {held : Bool} {t : TypeId} {v : Value} {d : DataW H} {ps : List MemPlace} (h : DataW.Trod enc P w 0 sp held t v d ps) (m : Nat) {ks : List Kd} (hk : flat P m t = some ks) : Lvs P w ks v.cells.toList := by
  obtain ⟨fuel, h⟩ := h
  exact leaves_of_trod fuel t _ _ h m ks hk

theorem wf_i64 {n : Int} (h : (Lit.int .i64 n).wf = true) : -9223372036854775808 ≤ n ∧ n ≤ 9223372036854775807 := by
  have e1 : IntKind.i64.min = -9223372036854775808 := by decide
  have e2 : IntKind.i64.max = 9223372036854775807 := by decide
  simp only [Lit.wf, Bool.and_eq_true, decide_eq_true_eq, e1, e2] at h
  exact h

/-- Lists of lists of cells, as cells of a list. -/
theorem cat_of {α : Type} {f : α → List Value} : ∀ {xss : List (List Value)}, (∀ xs ∈ xss, ∃ u, xs = f u) → ∃ l : List α, xss.flatten = cat f l ∧ l.length = xss.length
  | [], _ => ⟨[], rfl, rfl⟩
  | xs :: xss, h => by
    obtain ⟨u, rfl⟩ := h xs List.mem_cons_self
    obtain ⟨l, hl, hn⟩ := cat_of fun ys hy => h ys (List.mem_cons_of_mem _ hy)
    exact ⟨u :: l, by rw [List.flatten_cons, hl, cat_cons], by simp [hn]⟩

/-! ### The end of a law -/

theorem keep_but {W W' : World} (h : Keep (fun _ => False) W W') (may : MemPlace → Prop) : W.keptBut W' may := by
  refine ⟨h.os, h.output, fun i hi => ?_⟩
  rw [h.block i hi id]
  rw [Array.getElem?_eq_getElem hi]
  cases W.heap[i] <;> simp

theorem trodAll_stays {H : Type} {enc : TypeId × Value → H} {P : Program} (hl : laidOutB P = true) {W W' : World} {sp : Nat → Bool} (hb : Keep (fun _ => False) W W') : ∀ (ts : List TypeId) (vs : List Value) (ds : List (DataW H)) (ps : List MemPlace),
    ts.all (fun t => P.readableRec t && decide (t < P.types.size)) = true → DataW.TrodAll enc P W 0 (fun _ => true) true ts vs ds ps → (∀ x ∈ ps, x.block < W.heap.size) → (∀ x ∈ ps, sp x.block = true) → DataW.TrodAll enc P W' 0 sp true ts vs ds ps
  | [], [], [], ps, _, h, _, _ => h
  | [], [], _ :: _, _, _, h, _, _ => h
  | [], _ :: _, _, _, _, h, _, _ => h
  | _ :: _, [], _, _, _, h, _, _ => h
  | _ :: _, _ :: _, [], _, _, h, _, _ => h
  | t :: ts, v :: vs, d :: ds, ps, ha, h, hlt, hsp => by
    obtain ⟨p, q, h1, h2, rfl⟩ := h
    simp only [List.all_cons, Bool.and_eq_true, decide_eq_true_eq] at ha
    refine ⟨p, q, ?_, trodAll_stays hl hb ts vs ds q (by simpa using ha.2) h2 (fun x hx => hlt x (by simp [hx])) fun x hx => hsp x (by simp [hx]), rfl⟩
    exact WideElems.Trod_stays hl ha.1.1 ha.1.2 h1 (fun x hx => hb.below.same (hlt x (by simp [hx]))) fun x hx => hsp x (by simp [hx])

/-- A law that has returned true, and turned nothing that was there. -/
theorem law_post {H : Type} {enc : TypeId × Value → H} {P : Program} {f : Func} {s : ChangeSpec} {W W' : World} {args : Array Value} {ds gs : List (DataW H)} {before : List MemPlace} {b : TypeId} (hl : laidOutB P = true)
    (hts : f.params.toList.all (fun t => P.readableRec t && decide (t < P.types.size)) = true) (hr : f.resultTypes = #[b]) (hb : P.underlying b = some .bool) (hv : s.vars = [])
    (hW : DataW.Whole enc P f.params.toList s.vars false W args.toList ds gs before) (h1 : (s.fn H (ds ++ gs)).results = [.lit (.bool true)]) (h2 : (s.fn H (ds ++ gs)).args = ds) (h3 : (s.fn H (ds ++ gs)).vars = []) (hk : Keep (fun _ => False) W W') :
    s.post enc P f false true false false W args (.bool true) W' := by
  have hlt := hW.lt
  obtain ⟨p, q, hA, hV, rfl, hz, hn⟩ := id hW
  rw [hv] at hV
  have hq : q = [] := by
    cases gs with
    | nil => exact hV
    | cons g gs => exact hV.elim
  subst hq
  rw [List.append_nil] at hlt hW
  refine ⟨ds, gs, p, [], p, [], hW, ?_, ?_, ?_, keep_but hk _, fun h => by cases h⟩
  · rw [h1, hr]
    exact ⟨[], [], shut_bool hb true, rfl, rfl⟩
  · rw [h2]
    exact trodAll_stays hl hk _ _ _ _ hts hA (fun x hx => hlt x hx) fun x hx => by simpa using hlt x hx
  · rw [h3, hv]
    rfl

end Go.SX
