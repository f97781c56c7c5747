/- A part of a proof: the symbolic walk and what it shows of single functions. -/
import Derived.Test.YtnbogcpnpcbjgaaGreatDoorSeS
import Derived.Test.YtnbogcpnpcbjgaaGreatDoorG3
set_option linter.all false
namespace Go.Proofs.YtnbogcpnpcbjgaaGreatDoor
open Go.RowKit Go.SX
set_option maxRecDepth 10000
set_option maxHeartbeats 0
set_option linter.unusedSimpArgs false
set_option linter.unusedVariables false
def moreM (a b : Int) (x : Mon) : Mon := ⟨x.il + a, x.ih + b, x.cl, x.ch⟩
def zL (a b : Int) (ms : List Mon) (k : Nat) : List Mon := (ms.take k).map (moreM a b) ++ ms.drop k
theorem zL_zero (a b : Int) (ms : List Mon) : zL a b ms 0 = ms := by simp [zL]
theorem zL_len (a b : Int) (ms : List Mon) (k : Nat) : (zL a b ms k).length = ms.length := by
  unfold zL
  rw [List.length_append, List.length_map, List.length_take, List.length_drop]
  omega
theorem zL_all (a b : Int) (ms : List Mon) : zL a b ms ms.length = ms.map (moreM a b) := by simp [zL]
theorem zL_get {a b : Int} {ms : List Mon} {k : Nat} {x : Mon} (hx : ms[k]? = some x) : (zL a b ms k)[k]? = some x := by
  have hk := (List.getElem?_eq_some_iff.1 hx).1
  unfold zL
  rw [List.getElem?_append_right (by simp; omega), List.length_map, List.length_take, Nat.min_eq_left (by omega), Nat.sub_self, List.getElem?_drop, Nat.add_zero, hx]
theorem zL_set {a b : Int} {ms : List Mon} {k : Nat} {x : Mon} (hx : ms[k]? = some x) : (zL a b ms k).set k (moreM a b x) = zL a b ms (k + 1) := by
  have hk := (List.getElem?_eq_some_iff.1 hx).1
  unfold zL
  rw [List.set_append_right _ _ (by simp; omega), List.length_map, List.length_take, Nat.min_eq_left (by omega), Nat.sub_self, List.drop_eq_getElem_cons hk, List.set_cons_zero, List.take_succ, hx, List.map_append, List.append_assoc]
  rfl
theorem ovZ_more {r l : Int} {f g : Nat → Int} {a : Int} : ∀ {k : Nat}, (∀ i, i < k → g i = f i + a) → ovZ r l g k = ovZ r l f k + (k : Int) * a
  | 0, _ => by simp [ovZ]
  | k + 1, h => by
    rw [ovZ, ovZ, ovZ_more (f := f) (a := a) (k := k) fun i hi => h i (by omega), h k (by omega), show ((k + 1 : Nat) : Int) * a = (k : Int) * a + a by rw [Int.natCast_add, Int.add_mul]; simp]
    omega
theorem shops_last {r l : Int} {ms : List Mon} {a b : Int} (hy : yearB r l ms = true) (hz : yearB r l (ms.map (moreM a b)) = true) (h : monN (ovW r l ms) ms.length ≤ a) : lastN (ovW r l (ms.map (moreM a b))) 0 ms.length = ms.length := by
  have hl := (year_parts hy).2.2.1
  refine last_all.2 fun j _ hj => ?_
  have h1 := mon_ge (P := ovW r l ms) (show j < ms.length by omega)
  have h2 : ovW r l (ms.map (moreM a b)) j = ovW r l ms j + ((j + 1 : Nat) : Int) * a := by
    rw [ovW_is hy (by omega), ovW_is hz (by omega)]
    refine ovZ_more fun i hi => ?_
    have hil : i < ms.length := by omega
    rw [List.getD_eq_getElem?_getD, List.getD_eq_getElem?_getD, List.getElem?_map, List.getElem?_eq_getElem hil]
    simp only [Option.map_some, Option.getD_some, moreM]
    omega
  have h3 : ((j : Int) + 1) * monN (ovW r l ms) ms.length ≤ ((j : Int) + 1) * a := Int.mul_le_mul_of_nonneg_left h (by omega)
  rw [h2, show ((j + 1 : Nat) : Int) = (j : Int) + 1 by omega]
  unfold lackN at h1
  omega
end Go.Proofs.YtnbogcpnpcbjgaaGreatDoor
