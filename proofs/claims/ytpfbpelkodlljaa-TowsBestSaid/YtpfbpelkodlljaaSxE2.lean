/- '==' of structs of whole numbers. -/
import Derived.Test.YtpfbpelkodlljaaSxR
set_option linter.all false
namespace Go.SX
open Go.RowKit

def intFs (P : Program) : List Field → Nat → Bool
  | [], _ => true
  | f :: r, i => f.name != "_" && f.offset == i && (match ldT P f.type with | some none => true | _ => false) && (match P.underlying f.type with | some (.int .i64) => true | _ => false) && intFs P r (i + 1)

/-- A struct of n whole numbers. -/
def intSt (P : Program) (T : TypeId) (n : Nat) : Bool :=
  match P.underlying T with
  | some (.struct fs) => fs.size == n && intFs P fs.toList 0 && !P.stoodInHeld T && !P.eqGuardType P.depth T
  | _ => false

theorem ints_get (l : List Int) (i : Nat) : (ints l)[i]? = l[i]?.map fun n => Value.int .i64 n := by
  induction l generalizing i with
  | nil => simp [ints, cat]
  | cons x l ih =>
    cases i with
    | zero => simp [ints, cat_cons, i1]
    | succ i => simpa [ints, cat_cons, i1] using ih i

theorem eqFields_ints {P : Program} {w : World} (d : Nat) (xs ys : List Int) (hl : xs.length = ys.length) : ∀ (fs : List Field) (i : Nat), intFs P fs i = true → i + fs.length = xs.length →
    (Op.eqFields (d + 1) (ints xs).toArray (ints ys).toArray fs).run P w = .ok (decide (xs.drop i = ys.drop i)) w
  | [], i, _, hi => by
    simp at hi
    rw [List.drop_of_length_le (by omega), List.drop_of_length_le (by omega)]
    simp [Op.eqFields]
  | f :: r, i, hf, hi => by
    simp only [intFs, Bool.and_eq_true, bne_iff_ne, beq_iff_eq] at hf
    obtain ⟨⟨⟨⟨hn, ho⟩, hk⟩, hu⟩, hr⟩ := hf
    have hk' : ldT P f.type = some none := by
      revert hk
      cases ldT P f.type with
      | none => simp
      | some k => cases k <;> simp
    have hu' : P.underlying f.type = some (.int .i64) := by
      revert hu
      split <;> simp_all
    simp only [List.length_cons] at hi
    have h1 : i < xs.length := by omega
    have h2 : i < ys.length := by omega
    have px : (part f.type (ints xs).toArray f.offset).run P w = .ok (.int .i64 xs[i]) w := by
      obtain ⟨v, hv, hr⟩ := part_run (P := P) (e := f.type) hk' (cs := (ints xs).toArray) (o := f.offset) (K := fun s => s = .v (.int .i64 xs[i])) ⟨.int .i64 xs[i], by rw [ho]; simp [ints_get, h1], rfl⟩
      cases hv
      exact hr w
    have py : (part f.type (ints ys).toArray f.offset).run P w = .ok (.int .i64 ys[i]) w := by
      obtain ⟨v, hv, hr⟩ := part_run (P := P) (e := f.type) hk' (cs := (ints ys).toArray) (o := f.offset) (K := fun s => s = .v (.int .i64 ys[i])) ⟨.int .i64 ys[i], by rw [ho]; simp [ints_get, h2], rfl⟩
      cases hv
      exact hr w
    simp only [Op.eqFields, if_pos hn, Sem.run_bind, px, py, Result.andThen_ok, run_equalIn_int w d f.type .i64 .i64 _ _ hu', Sem.run_ite]
    have hx : xs.drop i = xs[i] :: xs.drop (i + 1) := List.drop_eq_getElem_cons h1
    have hy : ys.drop i = ys[i] :: ys.drop (i + 1) := List.drop_eq_getElem_cons h2
    have hd : decide (xs.drop i = ys.drop i) = (decide (xs[i] = ys[i]) && decide (xs.drop (i + 1) = ys.drop (i + 1))) := by
      rw [Bool.eq_iff_iff]
      simp only [decide_eq_true_eq, Bool.and_eq_true, hx, hy, List.cons.injEq]
    rw [hd]
    by_cases he : xs[i] = ys[i]
    · simp only [he, beq_self_eq_true, Bool.not_true, Bool.false_eq_true, if_false]
      rw [eqFields_ints d xs ys hl r (i + 1) hr (by omega)]
      simp
    · have : (xs[i] == ys[i]) = false := by simp [he]
      simp [this, he]

theorem eqAgg_ints {P : Program} {T : TypeId} {n : Nat} (h : intSt P T n = true) {xs ys : List Int} (hx : xs.length = n) (hy : ys.length = n) : EqAgg P T (ints xs) (ints ys) (decide (xs = ys)) := by
  unfold intSt at h
  split at h
  · rename_i fs hu
    simp only [Bool.and_eq_true, beq_iff_eq, Bool.not_eq_true'] at h
    obtain ⟨⟨⟨hs, hf⟩, hh⟩, hg⟩ := h
    intro w
    have hfo : P.fieldsOf T = fs := by simp [Program.fieldsOf, hu]
    refine ⟨?_, ?_⟩
    · have e : Op.maxDepth = 9998 + 1 + 1 := rfl
      unfold Op.equal
      rw [e, run_equalIn_struct w (9998 + 1) T _ _ (by rw [hfo]; exact hu) hh, hfo, eqFields_ints 9998 xs ys (by omega) fs.toList 0 hf (by simp; omega)]
      simp
    · unfold eqGuard
      simp [hg]
  · cases h

end Go.SX
