/- Parts of a proof: the symbolic walk and what it shows of single functions. -/
import Derived.Test.YtcnlbnccbnapbaaDoorR4
import Derived.Test.YtcnlbnccbnapbaaDoorP8
import Derived.Test.YtcnlbnccbnapbaaDoorSpX
import Derived.Test.YtcnlbnccbnapbaaDoorR1
set_option linter.all false
namespace Go.Proofs.YtcnlbnccbnapbaaDoor
open Go.RowKit Go.SX
set_option maxRecDepth 10000
set_option maxHeartbeats 0
set_option linter.unusedSimpArgs false
set_option linter.unusedVariables false
def AnsL (A : List Int × Int) (q : Value) (N : List HO) : Prop := ∃ a c, q = .tuple #[.slice a A.1.length c, I A.2] ∧ (∀ (w0 : Base) (H : List HO) (w : World), (∀ h ∈ N, h ∈ H) → Hp w0 H w → Sl w (.slice a A.1.length c) 1 (ints A.1)) ∧ ∀ (w0 : Base) (H : List HO), (∀ h ∈ N, h ∈ H) → Rdv w0 H (.slice a A.1.length c) 1 (ints A.1)
def fstA (P : List Int → Bool) (n : Nat) : List Int × Int := match fstL P n with | none => ([], 3) | some x => (x, 0)
def boardA (cs : List Cls) (people : Int) : List Int × Int := if boardE cs people = 0 then fstA (fun x => decide (seatsL cs x ≥ people)) cs.length else ([], boardE cs people)
def shedA (b : Cls) (l : List (Int × Int × Int)) : List Int × Int := if loadE b l = 0 then fstA (shedB b l) l.length else ([], loadE b l)
theorem AnsL.nil (e : Int) (N : List HO) : AnsL ([], e) (.tuple #[.slice none 0 0, I e]) N := ⟨none, 0, rfl, fun _ _ w _ _ => Sl.nil w 1, fun _ _ _ => ⟨none, 0, 0, rfl, rfl, fun i x h => by simp [cat] at h⟩⟩
theorem FstP.ans {P : List Int → Bool} {n : Nat} {q : Value} {N : List HO} (h : FstP P n q N) : AnsL (fstA P n) q N := by
  unfold fstA
  rcases h with ⟨h1, rfl⟩ | ⟨x, v, h1, rfl, h2⟩
  · rw [h1]
    exact AnsL.nil 3 N
  · rw [h1]
    have h3 := h2
    obtain ⟨a, c, rfl, _, _⟩ := h3
    exact ⟨a, c, rfl, fun _ _ _ hm hp => h2.hp hm hp, fun _ _ hm => h2.rdv hm⟩
theorem FstR.ans {P : List Int → Bool} {n : Nat} {q : Value} {N : List HO} (h : FstR P n q N) : AnsL (fstA P n) q N := by
  unfold fstA
  rcases h with ⟨h1, rfl⟩ | ⟨x, v, h1, rfl, a, c, rfl, h0, h2⟩
  · rw [h1]
    exact AnsL.nil 3 N
  · rw [h1]
    exact ⟨a, c, rfl, fun _ _ _ hm hp => row_hp (hm _ h2) hp, fun _ _ hm => row_rdv (hm _ h2) ⟨_, _, _, rfl, by rw [cat_len i1_len], fun h => by rw [h0 h]; rfl⟩⟩
theorem BoardP.ans {cs : List Cls} {people : Int} {q : Value} {N : List HO} (h : BoardP cs people q N) : AnsL (boardA cs people) q N := by
  unfold boardA
  rcases h with ⟨h1, rfl⟩ | ⟨h1, h2⟩
  · rw [if_neg h1]
    exact AnsL.nil _ N
  · rw [if_pos h1]
    exact h2.ans
theorem RBoardP.ans {cs : List Cls} {people : Int} {q : Value} {N : List HO} (h : RBoardP cs people q N) : AnsL (boardA cs people) q N := by
  unfold boardA
  rcases h with ⟨h1, rfl⟩ | ⟨h1, h2⟩
  · rw [if_neg h1]
    exact AnsL.nil _ N
  · rw [if_pos h1]
    exact h2.ans
theorem ShedP.ans {b : Cls} {l : List (Int × Int × Int)} {q : Value} {N : List HO} (h : ShedP b l q N) : AnsL (shedA b l) q N := by
  unfold shedA
  rcases h with ⟨h1, rfl⟩ | ⟨h1, h2⟩
  · rw [if_neg h1]
    exact AnsL.nil _ N
  · rw [if_pos h1]
    exact h2.ans
theorem RShedP.ans {b : Cls} {l : List (Int × Int × Int)} {q : Value} {N : List HO} (h : RShedP b l q N) : AnsL (shedA b l) q N := by
  unfold shedA
  rcases h with ⟨h1, rfl⟩ | ⟨h1, x, v, h2, rfl, a, c, rfl, h0, h3⟩
  · rw [if_neg h1]
    exact AnsL.nil _ N
  · rw [if_pos h1]
    unfold fstA
    rw [h2]
    exact ⟨a, c, rfl, fun _ _ _ hm hp => row_hp (hm _ h3) hp, fun _ _ hm => row_rdv (hm _ h3) ⟨_, _, _, rfl, by rw [cat_len i1_len], fun h => by rw [h0 h]; rfl⟩⟩
end Go.Proofs.YtcnlbnccbnapbaaDoor

namespace Go.Proofs.YtcnlbnccbnapbaaDoor
open Go.RowKit Go.SX Go.ChangeShapes Go.WideShapes Go.ChangeAt
set_option maxRecDepth 100000
theorem flat_load : flat Tryd.prog 4 77 = some [.int .i64, .int .i64, .int .i64] := by kernel_rfl
theorem flat_loads : flat Tryd.prog 4 70 = some [.slice 77] := by kernel_rfl
theorem flat_classes : flat Tryd.prog 4 65 = some [.slice 27] := by kernel_rfl
theorem cells_load : Tryd.prog.cellsOf 77 = 3 := by kernel_rfl
theorem cells_class : Tryd.prog.cellsOf 27 = 7 := by kernel_rfl
theorem loads_of {H : Type} {enc : TypeId × Value → H} {w : World} {base : Nat} {v : Value} {d : DataW H} {ps : List MemPlace} (h : Value.okWide Tryd.prog w .any base 70 v) (hd : DataW.Trod enc Tryd.prog w 0 (fun _ => true) true 70 v d ps) : ∃ l, Sl w v 3 (cat ldc l) := by
  obtain ⟨a, n, c, rfl⟩ := slice_of Tryd.underlying70 h
  have hl := lvs_of_Trod hd 4 flat_loads
  rw [show (Value.slice a n c).cells.toList = [Value.slice a n c] from rfl] at hl
  cases hl with | slice x1 _ _ _ s1 _ e1 hl =>
    obtain ⟨us, hu, _⟩ := cat_of (f := ldc) (xss := x1) fun xs hxs => by
      obtain ⟨a, b, c, hl⟩ := leaves3 (e1 xs hxs 4 _ flat_load)
      exact ⟨(a, b, c), hl⟩
    rw [cells_load, hu] at s1
    exact ⟨us, s1⟩
theorem classes_of {H : Type} {enc : TypeId × Value → H} {w : World} {base : Nat} {v : Value} {d : DataW H} {ps : List MemPlace} (h : Value.okWide Tryd.prog w .any base 65 v) (hd : DataW.Trod enc Tryd.prog w 0 (fun _ => true) true 65 v d ps) : ∃ l, Sl w v 7 (cat clc l) := by
  obtain ⟨a, n, c, rfl⟩ := slice_of Tryd.underlying65 h
  have hl := lvs_of_Trod hd 4 flat_classes
  rw [show (Value.slice a n c).cells.toList = [Value.slice a n c] from rfl] at hl
  cases hl with | slice x1 _ _ _ s1 _ e1 hl =>
    obtain ⟨us, hu, _⟩ := cat_of (f := clc) (xss := x1) fun xs hxs => by
      obtain ⟨a, b, c, d, e, f, g, hl⟩ := leaves7 (e1 xs hxs 4 _ flat_class)
      exact ⟨⟨a, b, c, d, e, f, g⟩, hl⟩
    rw [cells_class, hu] at s1
    exact ⟨us, s1⟩
end Go.Proofs.YtcnlbnccbnapbaaDoor

