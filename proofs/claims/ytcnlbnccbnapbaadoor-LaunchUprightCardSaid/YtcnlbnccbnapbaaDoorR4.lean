/- Parts of a proof: the symbolic walk and what it shows of single functions. -/
import Derived.Test.YtcnlbnccbnapbaaDoorR3
set_option linter.all false
namespace Go.Proofs.YtcnlbnccbnapbaaDoor
open Go.RowKit Go.SX
set_option maxRecDepth 10000
set_option maxHeartbeats 0
set_option linter.unusedSimpArgs false
set_option linter.unusedVariables false
def RefI (P : List Int → Bool) (n s : Nat) (found : Bool) (b : List Int) : Prop :=
  (found = false ∧ b = [] ∧ ∀ s', s' < s → P (pick s'.testBit n) = false) ∨ (found = true ∧ b.Sublist (idx n) ∧ P b = true ∧ ∀ s', s' < s → P (pick s'.testBit n) = true → befB (pick s'.testBit n) b = false)
theorem RefI.zero (P : List Int → Bool) (n : Nat) : RefI P n 0 false [] := .inl ⟨rfl, rfl, fun s' h => by omega⟩
def FstR (P : List Int → Bool) (n : Nat) (q : Value) (N : List HO) : Prop := (fstL P n = none ∧ q = .tuple #[.slice none 0 0, I 3]) ∨ ∃ x v, fstL P n = some x ∧ q = .tuple #[v, I 0] ∧ GotW v x N
def RBoardP (cs : List Cls) (people : Int) (q : Value) (N : List HO) : Prop := (boardE cs people ≠ 0 ∧ q = .tuple #[.slice none 0 0, I (boardE cs people)]) ∨ (boardE cs people = 0 ∧ FstR (fun x => decide (seatsL cs x ≥ people)) cs.length q N)
end Go.Proofs.YtcnlbnccbnapbaaDoor

namespace Go.Proofs.YtcnlbnccbnapbaaDoor
open Go.RowKit Go.SX
set_option maxRecDepth 10000
set_option maxHeartbeats 0
set_option linter.unusedSimpArgs false
set_option linter.unusedVariables false
theorem sum_pick {f : Int → Int} (p : Nat → Bool) (n : Nat) : sumB f (pick p n) + sumB f (pick (fun i => !p i) n) = sumB f (idx n) := by
  induction n with
  | zero => rfl
  | succ n ih =>
    rw [pick_succ, pick_succ, idx_succ, sumB_append, sumB_append, sumB_append]
    cases p n <;> simp [sumB] <;> omega
theorem sum_idx (l : List (Int × Int × Int)) : ∀ n, n ≤ l.length → sumB (heelAt l) (idx n) = sumB highM (l.take n) := by
  intro n
  induction n with
  | zero => intro _; rfl
  | succ n ih =>
    intro h
    have hu : l[n]? = some l[n] := List.getElem?_eq_getElem (by omega)
    rw [idx_succ, sumB_append, ih (by omega), sumB_take _ hu]
    have : heelAt l n = highM l[n] := by unfold heelAt; rw [Int.toNat_natCast, hu]
    simp [sumB, this]
theorem heels_all (l : List (Int × Int × Int)) : heelsL l (idx l.length) = sumB highM l := by
  have := sum_idx l l.length (Nat.le_refl _)
  rwa [List.take_length] at this
theorem shed_some {b : Cls} {l : List (Int × Int × Int)} (h : loadE b l = 0) : ∃ x, fstL (shedB b l) l.length = some x := by
  cases hf : fstL (shedB b l) l.length with
  | some x => exact ⟨x, rfl⟩
  | none =>
    have h1 := fst_none hf (idx l.length) (List.Sublist.refl _)
    unfold shedB at h1
    rw [heels_all, decide_eq_false_iff_not] at h1
    have := ((clsB_iff b).1 (loadE_zero h).1).2.2.2.2.2.2
    omega
def RShedP (b : Cls) (l : List (Int × Int × Int)) (q : Value) (N : List HO) : Prop := (loadE b l ≠ 0 ∧ q = .tuple #[.slice none 0 0, I (loadE b l)]) ∨ (loadE b l = 0 ∧ ∃ x v, fstL (shedB b l) l.length = some x ∧ q = .tuple #[v, I 0] ∧ GotW v x N)
end Go.Proofs.YtcnlbnccbnapbaaDoor

