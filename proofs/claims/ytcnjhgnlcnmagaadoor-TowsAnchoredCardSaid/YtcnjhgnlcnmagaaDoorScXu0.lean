/- A part of a proof: the symbolic walk and what it shows of single functions. -/
import Derived.Test.YtcnjhgnlcnmagaaDoorC4
set_option linter.all false
namespace Go.Proofs.YtcnjhgnlcnmagaaDoor
open Go.RowKit Go.SX
set_option linter.unusedSimpArgs false
set_option linter.unusedVariables false

/-- The first elements of one list, then those of another one. -/
def mixL {α : Type} (M L : List α) (i : Nat) : List α := M.take i ++ L.drop i

theorem mixL_len {α : Type} {M L : List α} (h : M.length = L.length) {i : Nat} (hi : i ≤ M.length) : (mixL M L i).length = M.length := by
  unfold mixL
  simp
  omega

theorem mixL_zero {α : Type} (M L : List α) : mixL M L 0 = L := by simp [mixL]
theorem mixL_end {α : Type} {M L : List α} (h : M.length = L.length) : mixL M L M.length = M := by
  unfold mixL
  rw [List.take_length, List.drop_of_length_le (by omega), List.append_nil]

theorem mixL_set {α : Type} {M L : List α} (h : M.length = L.length) {i : Nat} (hi : i < M.length) (d : α) : (mixL M L i).set i (M.getD i d) = mixL M L (i + 1) := by
  unfold mixL
  rw [List.set_append_right _ _ (by simp; omega), List.length_take, Nat.min_eq_left (by omega), Nat.sub_self, List.drop_eq_getElem_cons (by omega : i < L.length), List.set_cons_zero, List.take_add_one, getD_at hi d]
  simp

theorem mixL_at {α : Type} {M L : List α} (h : M.length = L.length) {i : Nat} (hi : i < M.length) (d : α) : (mixL M L i)[i]? = some (L.getD i d) := by
  unfold mixL
  rw [List.getElem?_append_right (by simp; omega)]
  simp only [List.length_take, Nat.min_eq_left (by omega : i ≤ M.length), Nat.sub_self, List.getElem?_drop, Nat.add_zero]
  exact getD_at (by omega) d

theorem set_own {α : Type} {l : List α} {i : Nat} {a : α} (h : l[i]? = some a) : l.set i a = l := by
  refine List.ext_getElem? fun j => ?_
  rw [List.getElem?_set]
  by_cases hj : i = j
  · subst hj
    have := (List.getElem?_eq_some_iff.1 h).1
    rw [if_pos rfl, if_pos this, h]
  · rw [if_neg hj]

theorem mixL_same {α : Type} {M L : List α} (h : M.length = L.length) {i : Nat} (hi : i < M.length) (d : α) (he : M.getD i d = L.getD i d) : mixL M L i = mixL M L (i + 1) := by
  rw [← mixL_set h hi d, he]
  exact (set_own (mixL_at h hi d)).symm

end Go.Proofs.YtcnjhgnlcnmagaaDoor
