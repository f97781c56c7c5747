/- The free operations are the machine's. -/
import Derived.Test.YtpfbpelkodlljaaSxB
set_option linter.all false
namespace Go.SX
open Go.RowKit

theorem run_v {P : Program} {w : World} {s : Sem Value} {v : Value} (h : s.run P w = .ok v w) : ((do pure (Next.value (← s))) : Sem Next).run P w = .ok (.value v) w := by
  simp [h]

theorem ldT_some {P : Program} {T : TypeId} {k : Option Nat} (h : ldT P T = some k) : ∃ d i, P.underlying T = some d ∧ P.info? T = some i ∧
    ((k = none ∧ aggD d = false) ∨ (k = some i.size ∧ aggD d = true)) := by
  unfold ldT at h
  split at h
  · rename_i d i hd hi
    refine ⟨d, i, hd, hi, ?_⟩
    simp only [Option.some.injEq] at h
    subst h
    cases hg : aggD d <;> simp
  · cases h

theorem isAgg_false {P : Program} {T : TypeId} {d : TypeDesc} {w : World} (hd : P.underlying T = some d) (h : aggD d = false) : (isAgg T).run P w = .ok false w := by
  simp only [isAgg, Sem.run_bind, run_underlying hd, Result.andThen_ok]
  cases d <;> simp_all [aggD]

theorem isAgg_true {P : Program} {T : TypeId} {d : TypeDesc} {w : World} (hd : P.underlying T = some d) (h : aggD d = true) : (isAgg T).run P w = .ok true w := by
  simp only [isAgg, Sem.run_bind, run_underlying hd, Result.andThen_ok]
  cases d <;> simp_all [aggD]

theorem run_size {P : Program} {T : TypeId} {i : TypeInfo} {w : World} (h : P.info? T = some i) : (sizeOf T).run P w = .ok i.size w := by
  simp [sizeOf, typeInfo, h]

/-- A variable of one cell is read. -/
theorem loadVar_one {P : Program} {T : TypeId} {w : World} {a : Addr} {v : Value} (h : ldT P T = some none) (hc : w.cell? a = some v) : (loadVar T a).run P w = .ok v w := by
  obtain ⟨d, i, hd, hi, hk⟩ := ldT_some h
  rcases hk with ⟨_, hk⟩ | ⟨hk, _⟩
  · simp only [loadVar, Sem.run_bind, isAgg_false hd hk, Result.andThen_ok]
    simp [hc]
  · cases hk

/-- A variable of many cells is read. -/
theorem loadVar_many {P : Program} {T : TypeId} {w : World} {a : Addr} {n : Nat} {vs : List Value} (h : ldT P T = some (some n)) (hl : vs.length = n) (hc : ∀ j v, vs[j]? = some v → w.cell? (a.add j) = some v) :
    (loadVar T a).run P w = .ok (.agg vs.toArray) w := by
  obtain ⟨d, i, hd, hi, hk⟩ := ldT_some h
  rcases hk with ⟨hk, _⟩ | ⟨hk, hk'⟩
  · cases hk
  · cases hk
    simp only [loadVar, Sem.run_bind, isAgg_true hd hk', Result.andThen_ok, if_true, run_size hi]
    rw [← hl, run_loadCells_list (P := P) w a vs hc]
    simp

theorem add_block (b off n : Nat) : (⟨b, off, none⟩ : Addr).add n = ⟨b, off + n, none⟩ := by
  unfold Addr.add
  split <;> simp_all

theorem cell_of_cells {w : World} {b : Nat} {cs : Array Value} {T : TypeId} {f : Nat × Nat} (h : w.heap[b]? = some (.cells cs T f)) (o : Nat) : w.cell? ⟨b, o, none⟩ = cs[o]? := by
  simp [World.cell?, h]

/-- What the walk says of a read, the machine does. -/
theorem ldS_sound {P : Program} {w0 : Base} {L : List Box} {H : List HO} {T : TypeId} {s : SV} {K : SV → Prop} (h : ldS w0 L H (ldT P T) s K) :
    ∃ r, K r ∧ (∀ n, r.wf n) ∧ ∀ bs ks L' H' w, Rel w0 bs ks L' H' w → L <+: L' → (∀ x ∈ H, x ∈ H') → (Instr.loadAt T (s.real bs)).run P w = .ok (r.real bs) w := by
  unfold ldS at h
  split at h
  · rename_i k j o hk
    obtain ⟨hj, h⟩ := h
    obtain ⟨T', hT⟩ := boxAt_get L j hj
    have hblk : ∀ bs ks L' H' w, Rel w0 bs ks L' H' w → L <+: L' → w.heap[bs j]? = some (.cells (boxAt L j).toArray T' (0, 0)) := by
      intro bs ks L' H' w r hp
      refine r.box j T' _ ?_
      obtain ⟨m, rfl⟩ := hp
      rw [List.getElem?_append_left hj]
      exact hT
    unfold ldBox at h
    split at h
    · obtain ⟨v, hv, hK⟩ := h
      refine ⟨.v v, hK, fun _ => trivial, fun bs ks L' H' w r hp _ => ?_⟩
      have hb := hblk bs ks L' H' w r hp
      simp only [Instr.loadAt, Instr.sureAddr, SV.real, Sem.run_bind, Sem.run_pure, Result.andThen_ok]
      exact loadVar_one hk (by rw [cell_of_cells hb]; simpa using hv)
    · rename_i n
      obtain ⟨hle, hK⟩ := h
      refine ⟨_, hK, fun _ => trivial, fun bs ks L' H' w r hp _ => ?_⟩
      have hb := hblk bs ks L' H' w r hp
      simp only [Instr.loadAt, Instr.sureAddr, SV.real, Sem.run_bind, Sem.run_pure, Result.andThen_ok]
      refine loadVar_many hk (by simp; omega) fun i v hi => ?_
      rw [add_block, cell_of_cells hb]
      rw [List.getElem?_take] at hi
      split at hi
      · simpa using hi
      · cases hi
  · rename_i k a hk
    unfold LdOb at h
    split at h
    · obtain ⟨v, hv, hK⟩ := h
      refine ⟨.v v, hK, fun _ => trivial, fun bs ks L' H' w r _ hs => ?_⟩
      simp only [Instr.loadAt, Instr.sureAddr, SV.real, Sem.run_bind, Sem.run_pure, Result.andThen_ok]
      exact loadVar_one hk ((hv.mono hs).cell r.hp)
    · rename_i n
      obtain ⟨vs, hl, hv, hK⟩ := h
      refine ⟨_, hK, fun _ => trivial, fun bs ks L' H' w r _ hs => ?_⟩
      simp only [Instr.loadAt, Instr.sureAddr, SV.real, Sem.run_bind, Sem.run_pure, Result.andThen_ok]
      exact loadVar_many hk hl fun i v hi => ((hv i v hi).mono hs).cell r.hp
  · exact h.elim

theorem binI_sound {P : Program} {op : BinOp} {k : IntKind} {x y : Int} {K : SV → Prop} (h : binI op k x y K) :
    ∃ v, K (.v v) ∧ ∀ T w, (binOp op T (.int k x) (.int k y)).run P w = .ok v w := by
  cases op <;> simp only [binI] at h
  case add => exact ⟨_, h, fun T w => by simp [binOp, Op.intArith]⟩
  case sub => exact ⟨_, h, fun T w => by simp [binOp, Op.intArith]⟩
  case mul => exact ⟨_, h, fun T w => by simp [binOp, Op.intArith]⟩
  case quo => exact ⟨_, h.2, fun T w => by simp [binOp, Op.intDiv, h.1]⟩
  case rem => exact ⟨_, h.2, fun T w => by simp [binOp, Op.intDiv, h.1]⟩
  case and => exact ⟨_, h, fun T w => by simp [binOp, Op.intBits, bitS]⟩
  case or => exact ⟨_, h, fun T w => by simp [binOp, Op.intBits, bitS]⟩
  case xor => exact ⟨_, h, fun T w => by simp [binOp, Op.intBits, bitS]⟩
  case andNot => exact ⟨_, h, fun T w => by simp [binOp, Op.intBits, bitS]⟩
  case shl => exact ⟨_, h.2, fun T w => by have := h.1; simp [binOp, Op.shift, Int.not_lt.2 this]⟩
  case shr => exact ⟨_, h.2, fun T w => by have := h.1; simp [binOp, Op.shift, Int.not_lt.2 this]⟩
  case eql => exact ⟨_, h, fun T w => by simp [binOp, Op.intCmp]⟩
  case neq => exact ⟨_, h, fun T w => by simp [binOp, Op.intCmp]⟩
  case lss => exact ⟨_, h, fun T w => by simp [binOp, Op.intCmp]⟩
  case leq => exact ⟨_, h, fun T w => by simp [binOp, Op.intCmp]⟩
  case gtr => exact ⟨_, h, fun T w => by simp [binOp, Op.intCmp]⟩
  case geq => exact ⟨_, h, fun T w => by simp [binOp, Op.intCmp]⟩

theorem kdT_bool {P : Program} {T : TypeId} (h : kdT P T = some 1) : P.underlying T = some .bool := by
  unfold kdT at h
  cases hd : P.underlying T with
  | none => simp [hd] at h
  | some d => cases d <;> simp [hd] at h ⊢

theorem kdT_slice {P : Program} {T : TypeId} (h : kdT P T = some 2) : ∃ e, P.underlying T = some (.slice e) := by
  unfold kdT at h
  cases hd : P.underlying T with
  | none => simp [hd] at h
  | some d => cases d <;> simp [hd] at h ⊢

theorem guard_plain {P : Program} {op : BinOp} {T : TypeId} {x y : Operand} {a b : Value} {w : World} (h : a ≠ .nilIface ∧ ∀ c, a ≠ .agg c) : (eqGuard op T x y a b).run P w = .ok () w := by
  unfold eqGuard
  cases a <;> (cases op <;> simp_all)

theorem equal_bool {P : Program} {T : TypeId} (hd : P.underlying T = some .bool) (a b : Bool) (w : World) : (Op.equal T (.bool a) (.bool b)).run P w = .ok (a == b) w := by
  have e : Op.maxDepth = 9999 + 1 := rfl
  unfold Op.equal
  rw [e]
  unfold Op.equalIn
  simp only [Sem.run_bind, run_underlying hd, Result.andThen_ok]
  rfl

theorem equal_slice {P : Program} {T : TypeId} {E : TypeId} (hd : P.underlying T = some (.slice E)) (a : Option Addr) (n m n' m' : Nat) (w : World) : (Op.equal T (.slice a n m) (.slice none n' m')).run P w = .ok a.isNone w := by
  have e : Op.maxDepth = 9999 + 1 := rfl
  unfold Op.equal
  rw [e]
  unfold Op.equalIn
  simp only [Sem.run_bind, run_underlying hd, Result.andThen_ok]
  cases a <;> rfl

theorem run_eql {P : Program} {T : TypeId} {x y : Value} {r : Bool} {w : World} (h : (Op.equal T x y).run P w = .ok r w) : ((do pure (Value.bool (← Op.equal T x y))) : Sem Value).run P w = .ok (.bool r) w := by
  simp only [Sem.run_bind, h, Result.andThen_ok, Sem.run_pure]

theorem run_neq {P : Program} {T : TypeId} {x y : Value} {r : Bool} {w : World} (h : (Op.equal T x y).run P w = .ok r w) : ((do pure (Value.bool (!(← Op.equal T x y)))) : Sem Value).run P w = .ok (.bool !r) w := by
  simp only [Sem.run_bind, h, Result.andThen_ok, Sem.run_pure]

theorem run_guard_then {P : Program} {w : World} {g : Sem Unit} {s : Sem Value} {v : Value} (hg : g.run P w = .ok () w) (h : s.run P w = .ok v w) : ((do g; s) : Sem Value).run P w = .ok v w := by
  simp only [Sem.run_bind, hg, Result.andThen_ok, h]

theorem binS_sound {P : Program} {op : BinOp} {T : TypeId} {x y : Value} {K : SV → Prop} (h : binS P op T x y K) (X Y : Operand) :
    ∃ v, K (.v v) ∧ ∀ w, ((do eqGuard op T X Y x y; binOp op T x y) : Sem Value).run P w = .ok v w := by
  unfold binS at h
  split at h
  · rename_i k a k' b
    obtain ⟨rfl, h⟩ := h
    obtain ⟨v, hv, hr⟩ := binI_sound (P := P) h
    exact ⟨v, hv, fun w => run_guard_then (guard_plain ⟨by simp, by simp⟩) (hr T w)⟩
  · rename_i a b
    obtain ⟨hk, h⟩ := h
    have hd := kdT_bool hk
    cases op <;> simp only [] at h <;> try exact h.elim
    · exact ⟨_, h, fun w => run_guard_then (guard_plain ⟨by simp, by simp⟩) (run_eql (equal_bool hd a b w))⟩
    · exact ⟨_, h, fun w => run_guard_then (guard_plain ⟨by simp, by simp⟩) (run_neq (equal_bool hd a b w))⟩
  · rename_i a n m n' m'
    obtain ⟨hk, h⟩ := h
    obtain ⟨e, hd⟩ := kdT_slice hk
    cases op <;> simp only [] at h <;> try exact h.elim
    · exact ⟨_, h, fun w => run_guard_then (guard_plain ⟨by simp, by simp⟩) (run_eql (equal_slice hd a n m n' m' w))⟩
    · exact ⟨_, h, fun w => run_guard_then (guard_plain ⟨by simp, by simp⟩) (run_neq (equal_slice hd a n m n' m' w))⟩
  · rename_i xs ys
    obtain ⟨r, he, h⟩ := h
    have hg : ∀ op' w, op' = BinOp.eql ∨ op' = BinOp.neq → (eqGuard op' T X Y (.agg xs) (.agg ys)).run P w = .ok () w := by
      intro op' w ho
      have := (he w).2
      simp only [Array.toArray_toList] at this
      rcases ho with rfl | rfl <;> simpa [eqGuard] using this
    have hr : ∀ w, (Op.equal T (.agg xs) (.agg ys)).run P w = .ok r w := fun w => by simpa using (he w).1
    cases op <;> simp only [] at h <;> try exact h.elim
    · exact ⟨_, h, fun w => run_guard_then (hg .eql w (.inl rfl)) (run_eql (hr w))⟩
    · exact ⟨_, h, fun w => run_guard_then (hg .neq w (.inr rfl)) (run_neq (hr w))⟩
  · exact h.elim

theorem offT_some {P : Program} {T : TypeId} {f n : Nat} (h : offT P T f = some n) : ∃ fs fd i, P.underlying T = some (.struct fs) ∧ fs[f]? = some fd ∧ P.info? fd.type = some i ∧ i.size ≠ 0 ∧ fd.offset = n := by
  unfold offT at h
  split at h
  · rename_i fs hu
    split at h
    · rename_i fd hf
      split at h
      · rename_i i hi
        split at h
        · cases h
        · rename_i hz
          exact ⟨fs, fd, i, hu, hf, hi, hz, by simpa using h⟩
      · cases h
    · cases h
  · cases h

theorem fieldAt_run {P : Program} {T : TypeId} {f n : Nat} (h : offT P T f = some n) (a : Addr) (w : World) : (Instr.fieldAt T (.pointer (some a)) f).run P w = .ok (.pointer (some (a.add n))) w := by
  obtain ⟨fs, fd, i, hu, hf, hi, hz, rfl⟩ := offT_some h
  simp [Instr.fieldAt, run_underlying hu, hf, Instr.sureAddr, fieldPlace, run_size hi, hz]

theorem slT_some {P : Program} {T : TypeId} {e n : Nat} (h : slT P T = some (e, n)) : ∃ i, P.underlying T = some (.slice e) ∧ P.info? e = some i ∧ i.size = n ∧ n ≠ 0 := by
  unfold slT at h
  split at h
  · rename_i e' hu
    split at h
    · rename_i i hi
      split at h
      · cases h
      · rename_i hz
        simp at h
        obtain ⟨rfl, rfl⟩ := h
        exact ⟨i, hu, hi, rfl, hz⟩
    · cases h
  · cases h

theorem arT_some {P : Program} {T : TypeId} {n sz : Nat} {k : Option Nat} (h : arT P T = some (n, sz, k)) : ∃ e i, P.underlying T = some (.array n e) ∧ P.info? e = some i ∧ i.size = sz ∧ ldT P e = some k := by
  unfold arT at h
  split at h
  · rename_i n' e hu
    split at h
    · rename_i k' i hk hi
      simp at h
      obtain ⟨rfl, rfl, rfl⟩ := h
      exact ⟨e, i, hu, hi, rfl, hk⟩
    · cases h
  · cases h

theorem part_run {P : Program} {e : TypeId} {k : Option Nat} (hk : ldT P e = some k) {cs : Array Value} {o : Nat} {K : SV → Prop} (h : partS cs.toList o k K) :
    ∃ v, K (.v v) ∧ ∀ w, (part e cs o).run P w = .ok v w := by
  obtain ⟨d, i, hd, hi, hk'⟩ := ldT_some hk
  unfold partS at h
  split at h
  · obtain ⟨v, hv, hK⟩ := h
    rcases hk' with ⟨_, hk'⟩ | ⟨hk', _⟩
    · refine ⟨v, hK, fun w => ?_⟩
      simp only [part, Sem.run_bind, isAgg_false hd hk', Result.andThen_ok]
      have : cs[o]? = some v := by simpa using hv
      simp [this]
    · cases hk'
  · rename_i n
    rcases hk' with ⟨hk', _⟩ | ⟨hk', hk''⟩
    · cases hk'
    · cases hk'
      refine ⟨_, h, fun w => ?_⟩
      simp only [part, Sem.run_bind, isAgg_true hd hk'', Result.andThen_ok, if_true, run_size hi, Sem.run_pure]
      congr 2
      apply Array.ext'
      simp [List.extract_eq_take_drop]

theorem fldT_some {P : Program} {T : TypeId} {f o : Nat} {k : Option Nat} (h : fldT P T f = some (o, k)) : ∃ fs fd, P.underlying T = some (.struct fs) ∧ fs[f]? = some fd ∧ ldT P fd.type = some k ∧ fd.offset = o := by
  unfold fldT at h
  split at h
  · rename_i fs hu
    split at h
    · rename_i fd hf
      cases hk : ldT P fd.type with
      | none => simp [hk] at h
      | some k' =>
        simp [hk] at h
        obtain ⟨rfl, rfl⟩ := h
        exact ⟨fs, fd, hu, hf, hk, rfl⟩
    · cases h
  · cases h

theorem ixS_sound {P : Program} {T : TypeId} {x : SV} {i : Value} {K : SV → Prop} (h : ixS (slT P T) (arT P T) x i K) :
    ∃ s, K s ∧ (∀ n, x.wf n → s.wf n) ∧ ∀ bs w, (Instr.indexAt T (x.real bs) i).run P w = .ok (s.real bs) w := by
  unfold ixS at h
  split at h
  · rename_i ki n
    split at h
    · rename_i e sz a len cap hs
      obtain ⟨h0, hl, ad, rfl, hK⟩ := h
      obtain ⟨i, hu, hi, rfl, hz⟩ := slT_some hs
      refine ⟨_, hK, fun _ _ => trivial, fun bs w => ?_⟩
      simp [Instr.indexAt, asIntOf, SV.real, run_underlying hu, h0, hl, run_size hi]
    · rename_i len sz k j o hs ha
      obtain ⟨h0, hl, hK⟩ := h
      obtain ⟨e, i, hu, hi, rfl, _⟩ := arT_some ha
      refine ⟨_, hK, fun _ hw => hw, fun bs w => ?_⟩
      simp [Instr.indexAt, asIntOf, SV.real, run_underlying hu, h0, hl, run_size hi, Instr.sureAddr, add_block]
    · rename_i len sz k a hs ha
      obtain ⟨h0, hl, hK⟩ := h
      obtain ⟨e, i, hu, hi, rfl, _⟩ := arT_some ha
      refine ⟨_, hK, fun _ _ => trivial, fun bs w => ?_⟩
      simp [Instr.indexAt, asIntOf, SV.real, run_underlying hu, h0, hl, run_size hi, Instr.sureAddr]
    · exact h.elim
  · exact h.elim

theorem idxS_sound {P : Program} {T : TypeId} {x i : Value} {K : SV → Prop} (h : idxS (arT P T) x i K) : ∃ v, K (.v v) ∧ ∀ w, (Instr.index T x i).run P w = .ok v w := by
  unfold idxS at h
  split at h
  · rename_i len sz k cs ki n ha
    obtain ⟨h0, hl, h⟩ := h
    obtain ⟨e, i, hu, hi, rfl, hk⟩ := arT_some ha
    obtain ⟨v, hv, hr⟩ := part_run hk h
    exact ⟨v, hv, fun w => by simp [Instr.index, asIntOf, run_underlying hu, h0, hl, run_size hi, hr]⟩
  · exact h.elim

theorem fillS_fill (pl : List (Nat × Nat)) : ∀ (ps : List (Nat × Value)) (cs r : List Value), fillS pl cs ps = some r → Instr.fill (pl.toArray[·]?) cs.toArray ps = some r.toArray
  | [], cs, r, h => by
    simp only [fillS, Option.some.injEq] at h
    subst h
    rfl
  | (i, v) :: ps, cs, r, h => by
    simp only [fillS] at h
    cases hp : pl[i]? with
    | none => simp [hp] at h
    | some x =>
      obtain ⟨o, n⟩ := x
      simp only [hp] at h
      split at h
      · rename_i hc
        obtain ⟨hl, hle⟩ := hc
        have ih := fillS_fill pl ps _ r h
        have hp' : pl.toArray[i]? = some (o, n) := by simpa using hp
        have hsz : v.cells.size = n := by simpa using hl
        simp only [Instr.fill, hp', hsz, List.size_toArray]
        have e : (v.cells.zipIdx.foldl (fun cs (x : Value × Nat) => cs.setIfInBounds (o + x.2) x.1) cs.toArray) = (cs.take o ++ v.cells.toList ++ cs.drop (o + n)).toArray := by
          have key : ∀ (m k : Nat) (xs : List Value) (cur : List Value), xs.length = m → o + k + m ≤ cur.length →
              (xs.zipIdx k).foldl (fun cs (x : Value × Nat) => cs.setIfInBounds (o + x.2) x.1) cur.toArray = (cur.take (o + k) ++ xs ++ cur.drop (o + k + m)).toArray := by
            intro m
            induction m with
            | zero =>
              intro k xs cur hx _
              obtain rfl := List.eq_nil_of_length_eq_zero hx
              simp
            | succ m ih =>
              intro k xs cur hx hle
              cases xs with
              | nil => simp at hx
              | cons y ys =>
                simp only [List.zipIdx_cons, List.foldl_cons, List.setIfInBounds_toArray]
                rw [ih (k + 1) ys _ (by simpa using hx) (by simp; omega)]
                congr 1
                have hlt : o + k < cur.length := by omega
                rw [List.take_set, List.drop_set_of_lt (by omega)]
                rw [show o + (k + 1) = o + k + 1 by omega]
                rw [List.take_succ_eq_append_getElem (by simpa using hlt), List.set_append_right _ _ (by simp; omega)]
                simp [Nat.min_eq_left (by omega : o + k ≤ cur.length)]
                omega
          have := key n 0 v.cells.toList cs hl (by omega)
          simp only [Nat.add_zero] at this
          rw [← this, ← Array.toList_zipIdx, Array.foldl_toList]
        rw [e]
        have hno : ¬ (n ≠ n ∨ o + n > cs.length) := by omega
        simpa [hno, hle] using ih
      · cases h

theorem bndS_sound {P : Program} {x : Option Value} {d y : Nat} {K : Nat → Prop} (h : bndS x d y K) : ∃ n, K n ∧ (x = none → n = d) ∧
    ∀ c v w, x = some v → (Instr.sliceBound v y c).run P w = .ok n w := by
  unfold bndS at h
  split at h
  · rename_i k i
    obtain ⟨h0, h1, hK⟩ := h
    exact ⟨_, hK, fun e => by simp at e, fun c v w e => by
      simp only [Option.some.injEq] at e
      subst e
      simp [Instr.sliceBound, asIntOf, h0, h1]⟩
  · exact ⟨_, h, fun _ => rfl, fun c v w e => by simp at e⟩
  · exact h.elim

theorem slS_sound {P : Program} {T : TypeId} {x : Value} {lo hi mx : Option Value} {K : SV → Prop} (h : slS (slT P T) x lo hi mx K) :
    ∃ v, K (.v v) ∧ ∀ w, (Instr.sliceAt T x lo hi mx).run P w = .ok v w := by
  unfold slS at h
  split at h
  · rename_i e sz a len cap hs
    obtain ⟨i, hu, hi', rfl, hz⟩ := slT_some hs
    obtain ⟨m, h, hm0, hm1⟩ := bndS_sound (P := P) h
    obtain ⟨himp, h⟩ := h
    obtain ⟨hh, h, hh0, hh1⟩ := bndS_sound (P := P) h
    obtain ⟨l, hK, hl0, hl1⟩ := bndS_sound (P := P) h
    refine ⟨_, hK, fun w => ?_⟩
    simp only [Instr.sliceAt, Instr.slice, Sem.run_bind, run_underlying hu, Result.andThen_ok, Instr.sliceBounds]
    cases mx with
    | none =>
      obtain rfl := hm0 rfl
      cases hi with
      | none =>
        obtain rfl := hh0 rfl
        cases lo with
        | none => obtain rfl := hl0 rfl; simp [run_size hi']
        | some lv => simp [run_size hi', hl1 _ lv w rfl]
      | some hv =>
        cases lo with
        | none => obtain rfl := hl0 rfl; simp [run_size hi', hh1 _ hv w rfl]
        | some lv => simp [run_size hi', hl1 _ lv w rfl, hh1 _ hv w rfl]
    | some mv =>
      cases hi with
      | none => simp at himp
      | some hv =>
        cases lo with
        | none => obtain rfl := hl0 rfl; simp [run_size hi', hh1 _ hv w rfl, hm1 _ mv w rfl]
        | some lv => simp [run_size hi', hl1 _ lv w rfl, hh1 _ hv w rfl, hm1 _ mv w rfl]
  · exact h.elim

theorem optV_iff {s : Option SV} {K : Option Value → Prop} (h : optV s K) : ∃ x, (∀ bs, s.map (SV.real bs) = x) ∧ K x := by
  cases s with
  | none => exact ⟨none, fun _ => rfl, h⟩
  | some s =>
    obtain ⟨x, hx, h⟩ := withV_iff h
    exact ⟨some x, fun bs => by simp [hx], h⟩

end Go.SX
