/- Parts of a proof: the symbolic walk and what it shows of single functions. -/
import Derived.Test.YtgpglmcbopfddaaK4
import Derived.Test.YtgpglmcbopfddaaK5
import Derived.Test.YtgpglmcbopfddaaK2
set_option linter.all false
namespace Go.Proofs.Ytgpglmcbopfddaa
open Go.RowKit Go.SX
set_option maxRecDepth 10000
set_option maxHeartbeats 0
set_option linter.unusedSimpArgs false
set_option linter.unusedVariables false
def hisN (shifts : List Spn) (rows : List (List Int)) (k : Int) : Nat → List Spn
  | 0 => []
  | i + 1 => hisN shifts rows k i ++ if k ∈ rows.getD i [] then [shifts.getD i (0, 0)] else []
theorem hisN_len (shifts : List Spn) (rows : List (List Int)) (k : Int) : ∀ i, (hisN shifts rows k i).length ≤ i
  | 0 => Nat.le_refl _
  | i + 1 => by
    have := hisN_len shifts rows k i
    rw [hisN, List.length_append]
    split
    · rw [List.length_singleton]; omega
    · rw [List.length_nil]; omega
theorem hisN_mem {shifts : List Spn} {rows : List (List Int)} {k : Int} : ∀ {i}, i ≤ shifts.length → ∀ x ∈ hisN shifts rows k i, x ∈ shifts
  | 0, _, x, h => by cases h
  | i + 1, hi, x, h => by
    rw [hisN, List.mem_append] at h
    rcases h with h | h
    · exact hisN_mem (by omega) x h
    · split at h
      · rw [List.mem_singleton] at h
        subst h
        rw [List.getD_eq_getElem?_getD, List.getElem?_eq_getElem (show i < shifts.length by omega)]
        exact List.getElem_mem _
      · cases h
theorem hisN_left {shifts : List Spn} {rows more : List (List Int)} {k : Int} : ∀ {i}, i ≤ rows.length → hisN shifts (rows ++ more) k i = hisN shifts rows k i
  | 0, _ => rfl
  | i + 1, hi => by
    rw [hisN, hisN, hisN_left (by omega), List.getD_eq_getElem?_getD, List.getElem?_append_left (show i < rows.length by omega), ← List.getD_eq_getElem?_getD]
end Go.Proofs.Ytgpglmcbopfddaa

namespace Go.Proofs.Ytgpglmcbopfddaa
open Go.RowKit Go.SX
set_option maxRecDepth 10000
set_option maxHeartbeats 0
set_option linter.unusedSimpArgs false
set_option linter.unusedVariables false
noncomputable def srvB (s : Stn) (h : Hnd) (l : List Spn) : Bool := @decide (servP s h l) (Classical.propDecidable _)
noncomputable def fitB (s : Stn) (seats : List Int) (shifts : List Spn) (rows : List (List Int)) (row : List Int) (h : Nat) : Bool := match s.hands[h]? with
  | some hd => !decide ((h : Int) ∈ row) && hasB hd.skills (seats.getD row.length 0) && srvB s hd (hisN shifts (rows ++ [row ++ [(h : Int)]]) h (rows.length + 1))
  | none => false
noncomputable def wat (s : Stn) (seats : List Int) (shifts : List Spn) : Nat → List (List Int) → List Int → Option (List (List Int))
  | 0, _, _ => none
  | f + 1, rows, row => if rows.length = shifts.length then some rows else if row.length = seats.length then wat s seats shifts f (rows ++ [row]) []
    else (List.range s.hands.length).findSome? fun h => if fitB s seats shifts rows row h then wat s seats shifts f rows (row ++ [(h : Int)]) else none
def mea (seats : List Int) (shifts : List Spn) (rows : List (List Int)) (row : List Int) : Nat := (shifts.length - rows.length) * (seats.length + 1) + (seats.length - row.length)
theorem mea_push {seats : List Int} {shifts : List Spn} {rows : List (List Int)} {row : List Int} {x : Int} (h : row.length < seats.length) : mea seats shifts rows (row ++ [x]) + 1 = mea seats shifts rows row := by
  unfold mea
  rw [List.length_append, List.length_singleton]
  omega
theorem mea_next {seats : List Int} {shifts : List Spn} {rows : List (List Int)} {row : List Int} (h : row.length = seats.length) (hr : rows.length < shifts.length) : mea seats shifts (rows ++ [row]) [] + 1 = mea seats shifts rows row := by
  unfold mea
  rw [List.length_append, List.length_singleton, h]
  obtain ⟨d, hd⟩ : ∃ d, shifts.length = rows.length + 1 + d := ⟨shifts.length - (rows.length + 1), by omega⟩
  rw [hd, show rows.length + 1 + d - (rows.length + 1) = d by omega, show rows.length + 1 + d - rows.length = d + 1 by omega, Nat.succ_mul]
  simp
  omega
def nilM : Lm := ([], none, 0)
end Go.Proofs.Ytgpglmcbopfddaa

namespace Go.Proofs.Ytgpglmcbopfddaa
open Go.RowKit Go.SX
set_option maxRecDepth 10000
set_option maxHeartbeats 0
set_option linter.unusedSimpArgs false
set_option linter.unusedVariables false
def shB : Int → List Spn → Bool
  | _, [] => true
  | last, x :: l => inB x.1 (last + 1) x.2 && decide (x.2 ≤ 400) && shB x.2 l
def chkW (s : Stn) (seats : List Int) (shifts : List Spn) : Int := if s.okB then (if shifts.length > 4 || !shB (-1) shifts then 1 else seatE seats) else 70
theorem shB_mem : ∀ {l : List Spn} {last : Int}, shB last l = true → ∀ x ∈ l, last < x.1 ∧ x.1 ≤ x.2 ∧ x.2 ≤ 400
  | [], _, _, x, hx => by cases hx
  | y :: l, last, h, x, hx => by
    rw [shB, Bool.and_eq_true, Bool.and_eq_true, inB_iff, decide_eq_true_eq] at h
    rcases List.mem_cons.1 hx with rfl | hx
    · omega
    · have := shB_mem h.2 x hx
      omega
theorem rchkW_fn (w : World) (v : Value) (s : Stn) (hs : StOk w v s) (hsm : s.small) (vt : Value) (seats : List Int) (hvt : Sl w vt 1 (ints seats)) (vs : Value) (shifts : List Spn) (hvs : Sl w vs 2 (cat spc shifts)) (hs1 : shifts.length ≤ 1000000) :
    SX.Fn Try.prog 22 [v, vt, vs] w (fun _ => False) fun r N => r = I (chkW s seats shifts) := by
  have dn : ∀ (g : Nat) (xs : List Value), det0 g xs = none := fun _ _ => rfl
  have hch := fun (H : List HO) w' (hp : Hp ⟨w, fun _ => False⟩ H w') => rcheck_fn w' v s (hs.hp hp) hsm
  have hse := fun (H : List HO) w' (hp : Hp ⟨w, fun _ => False⟩ H w') => rseats_fn w' vt seats (Sl.hp (w0 := ⟨w, fun _ => False⟩) hvt (fun _ _ => id) hp)
  have hfr := fun (n l h : Int) w' => from_fn w' n l h
  obtain ⟨hvv, psh, rfl, hpsh, hslh, hlgh⟩ := hs
  obtain ⟨aH, nH, cH, rfl⟩ := hslh.shape
  obtain ⟨aS, nS, cS, rfl⟩ := hvs.shape
  have hnS := hvs.le spc_len (by omega)
  subst hnS
  have hrS := hvs.rd0
  unfold chkW
  refine walk [] [] (det0_ok _ _) Try.func22 rfl Try.ntmps22 res22 (by kernel_rfl) no_facts ?_
  simp (config := { maxSteps := 4000000 }) only [↓sx0, ↓sx1, ↓sx2, ↓sx3, ↓sx4, ↓sx5, ↓sx6, sx0, sx1, sx2, sx3, sx4, sx5, sx6, tf22, ev3_hold, sxo, sxc, sxp, sxq, sxr, sxs, sxl, sxm, simprocAttr, dn]
  refine CallOb.pureH (fun w' hp => hch _ w' hp) ?_
  rintro r N rfl
  cases hok : s.okB with
  | false =>
    rw [if_neg Bool.false_ne_true, if_neg Bool.false_ne_true]
    refine ⟨?_⟩
    simp (config := { maxSteps := 4000000 }) only [↓sx0, ↓sx1, ↓sx2, ↓sx3, ↓sx4, ↓sx5, ↓sx6, sx0, sx1, sx2, sx3, sx4, sx5, sx6, tf22, ev3_hold, sxo, sxc, sxp, sxq, sxr, sxs, sxl, sxm, simprocAttr]
    try rfl
  | true =>
  rw [if_pos rfl, if_pos rfl]
  by_cases hl4 : shifts.length > 4
  · have e1 : ((shifts.length : Int) > 4) = True := eq_true (by omega)
    rw [decide_eq_true hl4, Bool.true_or, if_pos rfl]
    refine ⟨?_⟩
    simp (config := { maxSteps := 4000000 }) only [↓sx0, ↓sx1, ↓sx2, ↓sx3, ↓sx4, ↓sx5, ↓sx6, sx0, sx1, sx2, sx3, sx4, sx5, sx6, tf22, ev3_hold, sxo, sxc, sxp, sxq, sxr, sxs, sxl, sxm, simprocAttr, e1]
    try rfl
  have e1 : ((shifts.length : Int) > 4) = False := eq_false (by omega)
  rw [decide_eq_false hl4, Bool.false_or]
  refine ⟨?_⟩
  simp (config := { maxSteps := 4000000 }) only [↓sx0, ↓sx1, ↓sx2, ↓sx3, ↓sx4, ↓sx5, ↓sx6, sx0, sx1, sx2, sx3, sx4, sx5, sx6, tf22, ev3_hold, sxo, sxc, sxp, sxq, sxr, sxs, sxl, sxm, simprocAttr, e1, dn]
  refine loop_constH N (HImp.refl _ _) [(7, 8), (15, 47)] (fun q : Nat × Int => [(7, I q.2), (8, I q.1)]) (fun q H1 => q.1 ≤ shifts.length ∧ (-1 ≤ q.2 ∧ q.2 ≤ 400) ∧ H1 = N ∧ shB (-1) shifts = shB q.2 (shifts.drop q.1)) (fun q => shifts.length - q.1) (0, -1) ?_ ⟨Nat.zero_le _, ⟨by decide, by decide⟩, rfl, rfl⟩ ?_
  · simp (config := { maxSteps := 4000000 }) only [↓sx0, ↓sx1, ↓sx2, ↓sx3, ↓sx4, ↓sx5, ↓sx6, sx0, sx1, sx2, sx3, sx4, sx5, sx6, tf22, ev3_hold, sxo, sxc, sxp, sxq, sxr, sxs, sxl, sxm, simprocAttr]
    try simp
  rintro ⟨i, la⟩ H1 g1 hinv0
  simp only [] at hinv0
  obtain ⟨hi, hla, rfl, hinv⟩ := hinv0
  by_cases hin : i = shifts.length
  · have e7 : ((i : Int) < (shifts.length : Int)) = False := eq_false (by omega)
    rw [List.drop_of_length_le (by omega), shB] at hinv
    rw [hinv, Bool.not_true, if_neg Bool.false_ne_true]
    refine ⟨?_⟩
    simp (config := { maxSteps := 4000000 }) only [↓sx0, ↓sx1, ↓sx2, ↓sx3, ↓sx4, ↓sx5, ↓sx6, sx0, sx1, sx2, sx3, sx4, sx5, sx6, tf22, ev3_hold, sxo, sxc, sxp, sxq, sxr, sxs, sxl, sxm, simprocAttr, e7, dn]
    refine CallOb.pureH (fun w' hp => hse _ w' hp) ?_
    rintro r N2 rfl
    refine ⟨?_⟩
    simp (config := { maxSteps := 4000000 }) only [↓sx0, ↓sx1, ↓sx2, ↓sx3, ↓sx4, ↓sx5, ↓sx6, sx0, sx1, sx2, sx3, sx4, sx5, sx6, tf22, ev3_hold, sxo, sxc, sxp, sxq, sxr, sxs, sxl, sxm, simprocAttr]
    try rfl
  have e7 : ((i : Int) < (shifts.length : Int)) = True := eq_true (by omega)
  have e8 : wr (i + 1) = ((i + 1 : Nat) : Int) := (wrap_id (by omega)).trans (by omega)
  have e9 : wr (la + 1) = la + 1 := wrap_id (by omega)
  have hil : i < shifts.length := by omega
  have hx := List.getElem?_eq_getElem hil
  rw [List.drop_eq_getElem_cons hil, shB] at hinv
  generalize shifts[i] = x at hx hinv
  obtain ⟨lo, hi2⟩ := x
  simp only [] at hinv
  have hf1 := hfr lo (la + 1) hi2
  obtain ⟨B, hB⟩ : ∃ B, inB lo (la + 1) hi2 = B := ⟨_, rfl⟩
  rw [hB] at hf1 hinv
  cases B with
  | false =>
    rw [Bool.false_and, Bool.false_and] at hinv
    rw [hinv, Bool.not_false, if_pos rfl]
    refine ⟨?_⟩
    simp (config := { maxSteps := 4000000 }) only [↓sx0, ↓sx1, ↓sx2, ↓sx3, ↓sx4, ↓sx5, ↓sx6, sx0, sx1, sx2, sx3, sx4, sx5, sx6, tf22, ev3_hold, sxo, sxc, sxp, sxq, sxr, sxs, sxl, sxm, simprocAttr, e7, e9, dn]
    first | refine amid (at_f (hrS _) spc_len hx (o := 0) (x := I lo) rfl fun ad1 => ?_) | refine at_f (hrS _) spc_len hx (o := 0) (x := I lo) rfl fun ad1 => ?_
    simp (config := { maxSteps := 4000000 }) only [↓sx0, ↓sx1, ↓sx2, ↓sx3, ↓sx4, ↓sx5, ↓sx6, sx0, sx1, sx2, sx3, sx4, sx5, sx6, tf22, ev3_hold, sxo, sxc, sxp, sxq, sxr, sxs, sxl, sxm, simprocAttr, e7, e9, dn]
    first | refine amid (at_f (hrS _) spc_len hx (o := 1) (x := I hi2) rfl fun ad2 => ?_) | refine at_f (hrS _) spc_len hx (o := 1) (x := I hi2) rfl fun ad2 => ?_
    simp (config := { maxSteps := 4000000 }) only [↓sx0, ↓sx1, ↓sx2, ↓sx3, ↓sx4, ↓sx5, ↓sx6, sx0, sx1, sx2, sx3, sx4, sx5, sx6, tf22, ev3_hold, sxo, sxc, sxp, sxq, sxr, sxs, sxl, sxm, simprocAttr, e7, e9, dn]
    refine CallOb.pureH (fun w' hp => hf1 w') ?_
    rintro r N2 rfl
    refine ⟨?_⟩
    simp (config := { maxSteps := 4000000 }) only [↓sx0, ↓sx1, ↓sx2, ↓sx3, ↓sx4, ↓sx5, ↓sx6, sx0, sx1, sx2, sx3, sx4, sx5, sx6, tf22, ev3_hold, sxo, sxc, sxp, sxq, sxr, sxs, sxl, sxm, simprocAttr, e7, e9, dn]
    try rfl
  | true =>
  by_cases h4 : hi2 ≤ 400
  · have z4 : (hi2 > 400) = False := eq_false (by omega)
    rw [decide_eq_true h4, Bool.true_and, Bool.true_and] at hinv
    rw [inB_iff] at hB
    refine ⟨?_⟩
    simp (config := { maxSteps := 4000000 }) only [↓sx0, ↓sx1, ↓sx2, ↓sx3, ↓sx4, ↓sx5, ↓sx6, sx0, sx1, sx2, sx3, sx4, sx5, sx6, tf22, ev3_hold, sxo, sxc, sxp, sxq, sxr, sxs, sxl, sxm, simprocAttr, e7, e9, dn]
    first | refine amid (at_f (hrS _) spc_len hx (o := 0) (x := I lo) rfl fun ad1 => ?_) | refine at_f (hrS _) spc_len hx (o := 0) (x := I lo) rfl fun ad1 => ?_
    simp (config := { maxSteps := 4000000 }) only [↓sx0, ↓sx1, ↓sx2, ↓sx3, ↓sx4, ↓sx5, ↓sx6, sx0, sx1, sx2, sx3, sx4, sx5, sx6, tf22, ev3_hold, sxo, sxc, sxp, sxq, sxr, sxs, sxl, sxm, simprocAttr, e7, e9, dn]
    first | refine amid (at_f (hrS _) spc_len hx (o := 1) (x := I hi2) rfl fun ad2 => ?_) | refine at_f (hrS _) spc_len hx (o := 1) (x := I hi2) rfl fun ad2 => ?_
    simp (config := { maxSteps := 4000000 }) only [↓sx0, ↓sx1, ↓sx2, ↓sx3, ↓sx4, ↓sx5, ↓sx6, sx0, sx1, sx2, sx3, sx4, sx5, sx6, tf22, ev3_hold, sxo, sxc, sxp, sxq, sxr, sxs, sxl, sxm, simprocAttr, e7, e9, dn]
    refine CallOb.pureH (fun w' hp => hf1 w') ?_
    rintro r N2 rfl
    refine ⟨?_⟩
    simp (config := { maxSteps := 4000000 }) only [↓sx0, ↓sx1, ↓sx2, ↓sx3, ↓sx4, ↓sx5, ↓sx6, sx0, sx1, sx2, sx3, sx4, sx5, sx6, tf22, ev3_hold, sxo, sxc, sxp, sxq, sxr, sxs, sxl, sxm, simprocAttr, e7, e9, dn, z4]
    first | refine amid (at_f (hrS _) spc_len hx (o := 1) (x := I hi2) rfl fun ad2 => ?_) | refine at_f (hrS _) spc_len hx (o := 1) (x := I hi2) rfl fun ad2 => ?_
    simp (config := { maxSteps := 4000000 }) only [↓sx0, ↓sx1, ↓sx2, ↓sx3, ↓sx4, ↓sx5, ↓sx6, sx0, sx1, sx2, sx3, sx4, sx5, sx6, tf22, ev3_hold, sxo, sxc, sxp, sxq, sxr, sxs, sxl, sxm, simprocAttr, e7, e8, z4, dn]
    first | refine amid (at_f (hrS _) spc_len hx (o := 1) (x := I hi2) rfl fun ad2 => ?_) | refine at_f (hrS _) spc_len hx (o := 1) (x := I hi2) rfl fun ad2 => ?_
    simp (config := { maxSteps := 4000000 }) only [↓sx0, ↓sx1, ↓sx2, ↓sx3, ↓sx4, ↓sx5, ↓sx6, sx0, sx1, sx2, sx3, sx4, sx5, sx6, tf22, ev3_hold, sxo, sxc, sxp, sxq, sxr, sxs, sxl, sxm, simprocAttr, e8, dn]
    exact ⟨(i + 1, hi2), _, by first | exact ⟨rfl, rfl⟩ | rfl, HImp.app _ _ _, ⟨by simp only []; omega, by simp only []; omega, rfl, hinv⟩, by simp only []; omega⟩
  · have z4 : (hi2 > 400) = True := eq_true (by omega)
    rw [decide_eq_false h4, Bool.true_and, Bool.false_and] at hinv
    rw [hinv, Bool.not_false, if_pos rfl]
    refine ⟨?_⟩
    simp (config := { maxSteps := 4000000 }) only [↓sx0, ↓sx1, ↓sx2, ↓sx3, ↓sx4, ↓sx5, ↓sx6, sx0, sx1, sx2, sx3, sx4, sx5, sx6, tf22, ev3_hold, sxo, sxc, sxp, sxq, sxr, sxs, sxl, sxm, simprocAttr, e7, e9, dn]
    first | refine amid (at_f (hrS _) spc_len hx (o := 0) (x := I lo) rfl fun ad1 => ?_) | refine at_f (hrS _) spc_len hx (o := 0) (x := I lo) rfl fun ad1 => ?_
    simp (config := { maxSteps := 4000000 }) only [↓sx0, ↓sx1, ↓sx2, ↓sx3, ↓sx4, ↓sx5, ↓sx6, sx0, sx1, sx2, sx3, sx4, sx5, sx6, tf22, ev3_hold, sxo, sxc, sxp, sxq, sxr, sxs, sxl, sxm, simprocAttr, e7, e9, dn]
    first | refine amid (at_f (hrS _) spc_len hx (o := 1) (x := I hi2) rfl fun ad2 => ?_) | refine at_f (hrS _) spc_len hx (o := 1) (x := I hi2) rfl fun ad2 => ?_
    simp (config := { maxSteps := 4000000 }) only [↓sx0, ↓sx1, ↓sx2, ↓sx3, ↓sx4, ↓sx5, ↓sx6, sx0, sx1, sx2, sx3, sx4, sx5, sx6, tf22, ev3_hold, sxo, sxc, sxp, sxq, sxr, sxs, sxl, sxm, simprocAttr, e7, e9, dn]
    refine CallOb.pureH (fun w' hp => hf1 w') ?_
    rintro r N2 rfl
    refine ⟨?_⟩
    simp (config := { maxSteps := 4000000 }) only [↓sx0, ↓sx1, ↓sx2, ↓sx3, ↓sx4, ↓sx5, ↓sx6, sx0, sx1, sx2, sx3, sx4, sx5, sx6, tf22, ev3_hold, sxo, sxc, sxp, sxq, sxr, sxs, sxl, sxm, simprocAttr, e7, e9, dn, z4]
    first | refine amid (at_f (hrS _) spc_len hx (o := 1) (x := I hi2) rfl fun ad2 => ?_) | refine at_f (hrS _) spc_len hx (o := 1) (x := I hi2) rfl fun ad2 => ?_
    simp (config := { maxSteps := 4000000 }) only [↓sx0, ↓sx1, ↓sx2, ↓sx3, ↓sx4, ↓sx5, ↓sx6, sx0, sx1, sx2, sx3, sx4, sx5, sx6, tf22, ev3_hold, sxo, sxc, sxp, sxq, sxr, sxs, sxl, sxm, simprocAttr, e7, z4, dn]
    try rfl
def WatP (s : Stn) (seats : List Int) (shifts : List Spn) (r : Value) (N : List HO) : Prop :=
  (chkW s seats shifts ≠ 0 ∧ r = .tuple #[.slice none 0 0, I (chkW s seats shifts)]) ∨
  (chkW s seats shifts = 0 ∧ ((wat s seats shifts (mea seats shifts [] [] + 1) [] [] = none ∧ r = .tuple #[.slice none 0 0, I 3]) ∨
    ∃ R x ps, wat s seats shifts (mea seats shifts [] [] + 1) [] [] = some R ∧ r = .tuple #[x, I 0] ∧ ps.map Prod.fst = R ∧ ((x = .slice none 0 0 ∧ ps = []) ∨ HO.row x 25 1 (cat lmc ps) ∈ N) ∧ ∀ p ∈ ps, p = nilM ∨ HO.row (lmv p) 3 1 (ints p.1) ∈ N))
theorem chkW_zero {s : Stn} {seats : List Int} {shifts : List Spn} (h : chkW s seats shifts = 0) : s.okB = true ∧ shifts.length ≤ 4 ∧ shB (-1) shifts = true ∧ seatE seats = 0 := by
  unfold chkW at h
  split at h
  · rename_i h1
    split at h
    · cases h
    · rename_i h2
      rw [Bool.or_eq_true, not_or, decide_eq_true_eq, Bool.not_eq_true', Bool.not_eq_false] at h2
      exact ⟨h1, by omega, h2.2, h⟩
  · cases h
theorem shB_span {shifts : List Spn} (h : shB (-1) shifts = true) : spanB shifts := fun x hx => by
  have := shB_mem h x hx
  omega
theorem seatE_len {l : List Int} (h : seatE l = 0) : l.length ≤ 5 := by
  unfold seatE at h
  split at h
  · cases h
  · omega
end Go.Proofs.Ytgpglmcbopfddaa

namespace Go.Proofs.Ytgpglmcbopfddaa
open Go.RowKit Go.SX
set_option maxRecDepth 10000
set_option maxHeartbeats 0
set_option linter.unusedSimpArgs false
set_option linter.unusedVariables false
theorem long_fn (w : World) (vt : Value) (seats : List Int) (hvt : Sl w vt 1 (ints seats)) (vs : Value) (shifts : List Spn) (hvs : Sl w vs 2 (cat spc shifts)) :
    SX.Fn Try.prog 19 [vt, vs] w (fun _ => False) fun r N => ∃ b, r = .bool b ∧ (b = false → seats.length ≤ 20 ∧ shifts.length ≤ 20) := by
  have dn : ∀ (g : Nat) (xs : List Value), det0 g xs = none := fun _ _ => rfl
  obtain ⟨aT, nT, cT, rfl⟩ := hvt.shape
  have hnT := hvt.le i1_len (by omega)
  subst hnT
  obtain ⟨aS, nS, cS, rfl⟩ := hvs.shape
  have hnS := hvs.le spc_len (by omega)
  subst hnS
  have hrS := hvs.rd0
  refine walkC [3] [] [] (det0_ok _ _) Try.func19 rfl Try.ntmps19 res19 (by kernel_rfl) no_facts ?_
  simp (config := { maxSteps := 4000000 }) only [↓sx0, ↓sx1, ↓sx2, ↓sx3, ↓sx4, ↓sx5, ↓sx6, sx0, sx1, sx2, sx3, sx4, sx5, sx6, tf19, ev3_hold, sxo, sxc, sxp, sxq, sxr, sxs, sxl, sxm, simprocAttr, dn]
  refine cut_constH [(7, 34)] (fun b : Bool => [(34, .bool b)]) (fun b H2 => H2 = [] ∧ (b = false → seats.length ≤ 20 ∧ shifts.length ≤ 20)) ?_ ?_
  · refine ⟨?_⟩
    by_cases h1 : (seats.length : Int) > 2 <;> by_cases h2 : (seats.length : Int) ≤ 5 <;> by_cases h3 : (seats.length : Int) > 20 <;> by_cases h4 : (shifts.length : Int) > 3 <;> by_cases h5 : (shifts.length : Int) ≤ 4 <;> by_cases h6 : (shifts.length : Int) > 20 <;> first | (exfalso; omega) | skip
    all_goals
      simp (config := { maxSteps := 4000000 }) only [↓sx0, ↓sx1, ↓sx2, ↓sx3, ↓sx4, ↓sx5, ↓sx6, sx0, sx1, sx2, sx3, sx4, sx5, sx6, tf19, ev3_hold, sxo, sxc, sxp, sxq, sxr, sxs, sxl, sxm, simprocAttr, h1, h2, h3, h4, h5, h6, dn]
      first | exact ⟨true, _, rfl, HImp.refl _ _, rfl, fun h => by cases h⟩ | exact ⟨false, _, rfl, HImp.refl _ _, rfl, fun _ => ⟨by omega, by omega⟩⟩
  rintro b H2 g1 ⟨rfl, hb⟩
  cases b with
  | true =>
    refine ⟨?_⟩
    simp (config := { maxSteps := 4000000 }) only [↓sx0, ↓sx1, ↓sx2, ↓sx3, ↓sx4, ↓sx5, ↓sx6, sx0, sx1, sx2, sx3, sx4, sx5, sx6, tf19, ev3_hold, sxo, sxc, sxp, sxq, sxr, sxs, sxl, sxm, simprocAttr, dn]
    exact ⟨true, rfl, fun h => by cases h⟩
  | false =>
  obtain ⟨hL, hK⟩ := hb rfl
  refine ⟨?_⟩
  simp (config := { maxSteps := 4000000 }) only [↓sx0, ↓sx1, ↓sx2, ↓sx3, ↓sx4, ↓sx5, ↓sx6, sx0, sx1, sx2, sx3, sx4, sx5, sx6, tf19, ev3_hold, sxo, sxc, sxp, sxq, sxr, sxs, sxl, sxm, simprocAttr, dn]
  refine loop_constH [] (HImp.nil _ _) [(5, 6), (35, 60)] (fun i : Nat => [(5, I i)]) (fun i H1 => i ≤ shifts.length ∧ H1 = []) (fun i => shifts.length - i) 0 ?_ ⟨Nat.zero_le _, rfl⟩ ?_
  · simp (config := { maxSteps := 4000000 }) only [↓sx0, ↓sx1, ↓sx2, ↓sx3, ↓sx4, ↓sx5, ↓sx6, sx0, sx1, sx2, sx3, sx4, sx5, sx6, tf19, ev3_hold, sxo, sxc, sxp, sxq, sxr, sxs, sxl, sxm, simprocAttr]
    try simp
  rintro i H1 gg1 ⟨hi, rfl⟩
  by_cases hin : i = shifts.length
  · have e7 : ((i : Int) < (shifts.length : Int)) = False := eq_false (by omega)
    refine ⟨?_⟩
    simp (config := { maxSteps := 4000000 }) only [↓sx0, ↓sx1, ↓sx2, ↓sx3, ↓sx4, ↓sx5, ↓sx6, sx0, sx1, sx2, sx3, sx4, sx5, sx6, tf19, ev3_hold, sxo, sxc, sxp, sxq, sxr, sxs, sxl, sxm, simprocAttr, e7, dn]
    exact ⟨false, rfl, fun _ => ⟨hL, hK⟩⟩
  have e7 : ((i : Int) < (shifts.length : Int)) = True := eq_true (by omega)
  have e8 : wr (i + 1) = ((i + 1 : Nat) : Int) := (wrap_id (by omega)).trans (by omega)
  have hil : i < shifts.length := by omega
  have hx := List.getElem?_eq_getElem hil
  generalize shifts[i] = x at hx
  refine ⟨?_⟩
  simp (config := { maxSteps := 4000000 }) only [↓sx0, ↓sx1, ↓sx2, ↓sx3, ↓sx4, ↓sx5, ↓sx6, sx0, sx1, sx2, sx3, sx4, sx5, sx6, tf19, ev3_hold, sxo, sxc, sxp, sxq, sxr, sxs, sxl, sxm, simprocAttr, e7, dn]
  refine amid (at_n (hrS _) spc_len (by omega) hx fun ad => ?_)
  unfold spc
  simp (config := { maxSteps := 4000000 }) only [↓sx0, ↓sx1, ↓sx2, ↓sx3, ↓sx4, ↓sx5, ↓sx6, sx0, sx1, sx2, sx3, sx4, sx5, sx6, tf19, ev3_hold, sxo, sxc, sxp, sxq, sxr, sxs, sxl, sxm, simprocAttr, e8, dn]
  have nx : ∃ s' H2, Value.int IntKind.i64 ((i + 1 : Nat) : Int) = I (s' : Nat) ∧ HImp ⟨w, fun _ => False⟩ [] H2 ∧ (s' ≤ shifts.length ∧ H2 = []) ∧ shifts.length - s' < shifts.length - i := ⟨i + 1, [], rfl, HImp.refl _ _, ⟨by omega, rfl⟩, by omega⟩
  exact ⟨fun _ => ⟨fun _ => ⟨fun _ => ⟨true, rfl, fun h => by cases h⟩, fun _ => nx⟩, fun _ => nx⟩, fun _ => nx⟩
end Go.Proofs.Ytgpglmcbopfddaa

namespace Go.Proofs.Ytgpglmcbopfddaa
open Go.RowKit Go.SX
set_option maxRecDepth 10000
set_option maxHeartbeats 0
set_option linter.unusedSimpArgs false
set_option linter.unusedVariables false
def dutP (log l : List Spn) : Int → Bool := fun u => srv log u || srv l u
theorem srv_app (l : List Spn) (x : Spn) (u : Int) : srv (l ++ [x]) u = (srv l u || inS x u) := by
  unfold srv
  rw [List.any_append, List.any_cons, List.any_nil, Bool.or_false]
theorem dut_add1 (log l : List Spn) (x : Spn) : (fun u => dutP log l u || inS x u) = dutP log (l ++ [x]) := by
  funext u
  unfold dutP
  rw [srv_app, Bool.or_assoc]
theorem dut_add2 (l : List Spn) (x : Spn) : (fun u => srv l u || inS x u) = srv (l ++ [x]) := by
  funext u
  rw [srv_app]
theorem alw_serv {s : Stn} {h : Hnd} (hW : 1 ≤ s.window ∧ s.window ≤ 100) (hlog : logdB h.log = true) {l : List Spn} (hn : newOk l) : allAlw (dutP h.log l) (srv l) s.window.toNat s.duty ↔ servP s h l := by
  rw [servP_iff hW hlog hn]
  exact allAlw_iff _ _ _ _ (by omega) fun u hu => by
    obtain ⟨x, hx, hxu⟩ := srv_mem.1 hu
    have := hn.2 x hx
    rw [inS_iff] at hxu
    omega
theorem disj_sub {l m : List Spn} (h : l.Sublist m) : disj m → disj l := by
  induction h with
  | slnil => exact id
  | cons a _ ih => exact fun hd => ih hd.2.2
  | cons_cons a hs ih => exact fun hd => ⟨hd.1, fun x hx => hd.2.1 x (hs.subset hx), ih hd.2.2⟩
theorem disj_shB : ∀ {l : List Spn} {last : Int}, shB last l = true → disj l
  | [], _, _ => trivial
  | x :: l, last, h => by
    rw [shB, Bool.and_eq_true, Bool.and_eq_true, inB_iff, decide_eq_true_eq] at h
    refine ⟨by omega, fun y hy u h1 h2 => ?_, disj_shB h.2⟩
    have := shB_mem h.2 y hy
    rw [inS_iff] at h1 h2
    omega
theorem hisN_sub {shifts : List Spn} {rows : List (List Int)} {k : Int} : ∀ {i}, i ≤ shifts.length → (hisN shifts rows k i).Sublist (shifts.take i)
  | 0, _ => List.nil_sublist _
  | i + 1, hi => by
    have hl : i < shifts.length := by omega
    rw [hisN, List.take_succ, List.getElem?_eq_getElem hl]
    refine (hisN_sub (by omega)).append ?_
    split
    · rw [List.getD_eq_getElem?_getD, List.getElem?_eq_getElem hl]
      exact List.Sublist.refl _
    · exact List.nil_sublist _
theorem hisN_new {shifts : List Spn} {rows : List (List Int)} {k : Int} {i : Nat} (hi : i ≤ shifts.length) (h : shB (-1) shifts = true) : newOk (hisN shifts rows k i) :=
  ⟨disj_sub ((hisN_sub hi).trans (List.take_sublist _ _)) (disj_shB h), fun x hx => by
    have := shB_mem h x (hisN_mem hi x hx)
    omega⟩
theorem hisN_push {shifts : List Spn} {rows : List (List Int)} {row : List Int} {k : Int} : hisN shifts (rows ++ [row]) k (rows.length + 1) = hisN shifts rows k rows.length ++ if k ∈ row then [shifts.getD rows.length (0, 0)] else [] := by
  rw [hisN, hisN_left (Nat.le_refl _), List.getD_eq_getElem?_getD, List.getElem?_append_right (Nat.le_refl _), Nat.sub_self]
  rfl
end Go.Proofs.Ytgpglmcbopfddaa

namespace Go.Proofs.Ytgpglmcbopfddaa
open Go.RowKit Go.SX
set_option maxRecDepth 10000
set_option maxHeartbeats 0
set_option linter.unusedSimpArgs false
set_option linter.unusedVariables false
abbrev Wq := List Int × Addr × Nat
def wqv (q : Wq) : Value := .slice (some q.2.1) q.1.length q.2.2
def rowO (q : Wq) : HO := .row (wqv q) 3 1 (cat i1 q.1)
def rowsF (Q : List Wq) : List HO := Q.map rowO
theorem rowsF_split {Q : List Wq} {k : Nat} {q : Wq} (h : Q[k]? = some q) : rowsF Q = rowsF (Q.take k) ++ rowO q :: rowsF (Q.drop (k + 1)) := by
  obtain ⟨hk, rfl⟩ := List.getElem?_eq_some_iff.1 h
  unfold rowsF
  rw [← List.map_cons, ← List.map_append, List.getElem_cons_drop, List.take_append_drop]
theorem rowsF_set {Q : List Wq} {k : Nat} {q u : Wq} (h : Q[k]? = some q) : rowsF (Q.set k u) = rowsF (Q.take k) ++ rowO u :: rowsF (Q.drop (k + 1)) := by
  obtain ⟨hk, _⟩ := List.getElem?_eq_some_iff.1 h
  unfold rowsF
  rw [List.set_eq_take_append_cons_drop, if_pos hk, List.map_append, List.map_cons]
structure Cohr (seats : List Int) (shifts : List Spn) (rows : List (List Int)) (row : List Int) (Q : List Wq) : Prop where
  len : Q.length = shifts.length
  wid : ∀ q ∈ Q, q.1.length = seats.length
  old : ∀ (k : Nat) q, k < rows.length → Q[k]? = some q → rows[k]? = some q.1
  cur : ∀ q, Q[rows.length]? = some q → q.1.take row.length = row
theorem Cohr.put {seats : List Int} {shifts : List Spn} {rows : List (List Int)} {row : List Int} {Q : List Wq} (h : Cohr seats shifts rows row Q) {q : Wq} (hq : Q[rows.length]? = some q) {x : Int} (hr : row.length < seats.length) : Cohr seats shifts rows (row ++ [x]) (Q.set rows.length (q.1.set row.length x, q.2)) := by
  have hl := (List.getElem?_eq_some_iff.1 hq).1
  have hw := h.wid q (List.mem_of_getElem? hq)
  refine ⟨by rw [List.length_set]; exact h.len, fun p hp => ?_, fun k p hk hp => ?_, fun p hp => ?_⟩
  · rcases List.mem_or_eq_of_mem_set hp with hp | rfl
    · exact h.wid p hp
    · simp only [List.length_set]; exact hw
  · rw [List.getElem?_set_ne (by omega)] at hp
    exact h.old k p hk hp
  · rw [List.getElem?_set_self hl] at hp
    cases hp
    have hc := h.cur q hq
    simp only []
    rw [List.length_append, List.length_singleton]
    apply List.ext_getElem?
    intro i
    by_cases hi : i < row.length
    · have e : row[i]? = q.1[i]? := by
        have := List.getElem?_take_of_lt (l := q.1) hi
        rw [hc] at this
        exact this
      rw [List.getElem?_take_of_lt (by omega), List.getElem?_set_ne (by omega), List.getElem?_append_left hi, e]
    · by_cases he : i = row.length
      · subst he
        rw [List.getElem?_take_of_lt (by omega), List.getElem?_set_self (by omega), List.getElem?_append_right (Nat.le_refl _), Nat.sub_self]
        rfl
      · rw [List.getElem?_eq_none (by rw [List.length_take]; omega), List.getElem?_eq_none (by rw [List.length_append, List.length_singleton]; omega)]
theorem Cohr.back {seats : List Int} {shifts : List Spn} {rows : List (List Int)} {row : List Int} {x : Int} {Q : List Wq} (h : Cohr seats shifts rows (row ++ [x]) Q) : Cohr seats shifts rows row Q :=
  ⟨h.len, h.wid, h.old, fun q hq => by
    have := congrArg (List.take row.length) (h.cur q hq)
    rw [List.take_take, List.take_left] at this
    rwa [List.length_append, List.length_singleton, Nat.min_eq_left (by omega)] at this⟩
theorem Cohr.next {seats : List Int} {shifts : List Spn} {rows : List (List Int)} {row : List Int} {Q : List Wq} (h : Cohr seats shifts rows row Q) (hr : row.length = seats.length) (hl : rows.length < shifts.length) : Cohr seats shifts (rows ++ [row]) [] Q := by
  refine ⟨h.len, h.wid, fun k q hk hq => ?_, fun q _ => rfl⟩
  rw [List.length_append, List.length_singleton] at hk
  by_cases hk2 : k < rows.length
  · rw [List.getElem?_append_left hk2]
    exact h.old k q hk2 hq
  · obtain rfl : k = rows.length := by omega
    rw [List.getElem?_append_right (Nat.le_refl _), Nat.sub_self]
    have h1 := h.cur q hq
    have h2 := h.wid q (List.mem_of_getElem? hq)
    rw [List.take_of_length_le (by omega)] at h1
    rw [h1]
    rfl
theorem Cohr.prev {seats : List Int} {shifts : List Spn} {rows : List (List Int)} {row : List Int} {Q : List Wq} (h : Cohr seats shifts (rows ++ [row]) [] Q) : Cohr seats shifts rows row Q := by
  refine ⟨h.len, h.wid, fun k q hk hq => ?_, fun q hq => ?_⟩
  · have := h.old k q (by rw [List.length_append]; omega) hq
    rwa [List.getElem?_append_left hk] at this
  · have := h.old rows.length q (by rw [List.length_append, List.length_singleton]; omega) hq
    rw [List.getElem?_append_right (Nat.le_refl _), Nat.sub_self] at this
    have e : row = q.1 := by simpa using this
    rw [← e, List.take_length]
theorem Cohr.done {seats : List Int} {shifts : List Spn} {rows : List (List Int)} {row : List Int} {Q : List Wq} (h : Cohr seats shifts rows row Q) (hl : rows.length = shifts.length) : Q.map Prod.fst = rows := by
  apply List.ext_getElem?
  intro k
  rw [List.getElem?_map]
  by_cases hk : k < rows.length
  · have hq := List.getElem?_eq_getElem (show k < Q.length by rw [h.len]; omega)
    rw [hq, h.old k _ hk hq]
    rfl
  · rw [List.getElem?_eq_none (by rw [h.len]; omega), List.getElem?_eq_none (by omega)]
    rfl
end Go.Proofs.Ytgpglmcbopfddaa

namespace Go.Proofs.Ytgpglmcbopfddaa
open Go.RowKit Go.SX
set_option maxRecDepth 10000
set_option maxHeartbeats 0
set_option linter.unusedSimpArgs false
set_option linter.unusedVariables false
def SlX (w : World) (X : Nat → Prop) (v : Value) (sz : Nat) (xs : List Value) : Prop := Sl w v sz xs ∧ (0 < xs.length → ∀ b, v.ownBlock = some b → ¬ X b)
theorem SlX.keep {w w' : World} {X : Nat → Prop} {v : Value} {sz : Nat} {xs : List Value} (h : SlX w X v sz xs) (hk : Keep X w w') : SlX w' X v sz xs := by
  refine ⟨?_, h.2⟩
  by_cases h0 : 0 < xs.length
  · exact Sl.keep h.1 hk (h.2 h0)
  · have : xs = [] := List.eq_nil_of_length_eq_zero (by omega)
    subst this
    obtain ⟨a, l, c, e, hl, _⟩ := h.1
    exact ⟨a, l, c, e, hl, fun i x hx => by simp at hx⟩
theorem SlX.rdv {w : World} {X : Nat → Prop} {v : Value} {sz : Nat} {xs : List Value} (h : SlX w X v sz xs) (H : List HO) : Rdv ⟨w, X⟩ H v sz xs := by
  by_cases h0 : 0 < xs.length
  · exact Sl.rdv h.1 (h.2 h0) H
  · have : xs = [] := List.eq_nil_of_length_eq_zero (by omega)
    subst this
    obtain ⟨a, l, c, e, hl, _⟩ := h.1
    exact ⟨a, l, c, e, hl, fun i x hx => by simp at hx⟩
def rvc (S : Nat) (a : Addr × Nat) : List Value := [.slice (some a.1) S a.2]
theorem rvc_len (S : Nat) (a : Addr × Nat) : (rvc S a).length = 1 := rfl
def dutO (vd : Value) (bs : List Nat) : HO := .row vd 90 1 (cat pc bs)
theorem fps_FA {vd : Value} {bs : List Nat} {Q : List Wq} (b : Nat) : fps (dutO vd bs :: rowsF Q) b → fpsx (dutO vd bs :: rowsF Q) b := by
  rintro ⟨h, hh, hb⟩
  refine ⟨h, hh, ?_⟩
  rcases List.mem_cons.1 hh with rfl | hh
  · exact hb
  · obtain ⟨q, _, rfl⟩ := List.mem_map.1 hh
    exact hb
theorem fpsx_FA {vd : Value} {bs : List Nat} {Q : List Wq} {b : Nat} : fpsx (dutO vd bs :: rowsF Q) b ↔ vd.ownBlock = some b ∨ ∃ a ∈ Q.map Prod.snd, a.1.block = b := by
  constructor
  · rintro ⟨h, hh, hb⟩
    rcases List.mem_cons.1 hh with rfl | hh
    · exact .inl hb
    · obtain ⟨q, hq, rfl⟩ := List.mem_map.1 hh
      refine .inr ⟨q.2, List.mem_map_of_mem hq, ?_⟩
      simpa [rowO, wqv, HO.fpx, Value.ownBlock] using hb
  · rintro (hb | ⟨a, ha, rfl⟩)
    · exact ⟨_, List.mem_cons_self, hb⟩
    · obtain ⟨q, hq, rfl⟩ := List.mem_map.1 ha
      exact ⟨rowO q, List.mem_cons_of_mem _ (List.mem_map_of_mem hq), by simp [rowO, wqv, HO.fpx, Value.ownBlock]⟩
theorem fpsx_eq {vd : Value} {bs bs' : List Nat} {Q Q' : List Wq} (h : Q'.map Prod.snd = Q.map Prod.snd) : fpsx (dutO vd bs' :: rowsF Q') = fpsx (dutO vd bs :: rowsF Q) := by
  funext b
  rw [propext fpsx_FA, propext fpsx_FA, h]
theorem wr_rowsA {Q : List Wq} {A H : List HO} {d : HO} {k j : Nat} {q : Wq} {x : Int} {K : List HO → Prop} (hH : H = A ++ d :: rowsF Q) (h : Q[k]? = some q) (hj : j < q.1.length) (hK : K (A ++ d :: rowsF (Q.set k (q.1.set j x, q.2)))) : hold (WrOb H (q.2.1.add (j * 1)) [I x] K) ⟨0⟩ := by
  have hs := rowsF_split h
  refine wr_at (A := A ++ d :: rowsF (Q.take k)) (B := rowsF (Q.drop (k + 1))) (e := 3) (cap := q.2.2) (len := q.1.length) (f := i1) (l := q.1) (u := x) ?_ i1_len rfl hj ?_
  · rw [hH, hs, List.append_assoc]
    rfl
  · rw [rowsF_set h] at hK
    have e : rowO (q.1.set j x, q.2) = HO.row (.slice (some q.2.1) q.1.length q.2.2) 3 1 (cat i1 (q.1.set j x)) := by
      unfold rowO wqv
      simp only [List.length_set]
    rw [e] at hK
    rw [List.append_assoc]
    exact hK
theorem wr_dut {A H T : List HO} {da : Addr} {n dc i b : Nat} {bs : List Nat} {K : List HO → Prop} (hH : H = A ++ dutO (.slice (some da) n dc) bs :: T) (hl : bs.length = n) (hi : i < n) (hK : K (A ++ dutO (.slice (some da) n dc) (bs.set i b) :: T)) : hold (WrOb H (da.add (i * 1)) [.pointer (some ⟨b, 0, none⟩)] K) ⟨0⟩ :=
  wr_at (A := A) (B := T) (e := 90) (cap := dc) (len := n) (f := pc) (l := bs) (u := b) hH pc_len hl (by omega) hK
theorem set_getE_self {α : Type} {l : List α} {k : Nat} {a : α} (h : l[k]? = some a) : l.set k a = l := by
  obtain ⟨hk, rfl⟩ := List.getElem?_eq_some_iff.1 h
  exact List.set_getElem_self hk
theorem Fn.sub {P : Program} {f : Nat} {args : List Value} {w : World} {X : Nat → Prop} {Post : Value → List HO → Prop} (h : SX.Fn P f args w X fun r N => ∃ N', N'.Sublist N ∧ Post r N') : SX.Fn P f args w X Post :=
  Calls.mono h fun _e _w' ⟨v, N, a, b, c, d, e', N', hs, p⟩ => ⟨v, N', a, b, fun g hg => c g (hs.subset hg), fun g hg => d g (hs.subset hg), e'.sublist hs, p⟩
structure FilW (w : World) (X : Nat → Prop) (bw br : Nat) (s : Stn) (seats : List Int) (shifts : List Spn) (hv vt vs vr vd : Value) (Ad : List (Addr × Nat)) (psh : List Hm) : Prop where
  nw : ¬ X bw
  nr : ¬ X br
  box : ∀ (i : Nat) x, [Value.pointer (some ⟨br, 0, none⟩), vt, vs, vr, vd][i]? = some x → w.cell? ⟨bw, i, none⟩ = some x
  ros : ∀ (i : Nat) x, [hv, I s.window, I s.duty][i]? = some x → w.cell? ⟨br, i, none⟩ = some x
  fst : psh.map Prod.fst = s.hands
  han : SlX w X hv 5 (cat hdc psh)
  sea : SlX w X vt 1 (ints seats)
  shi : SlX w X vs 2 (cat spc shifts)
  row : SlX w X vr 1 (cat (rvc seats.length) Ad)
  cap : ∀ a ∈ Ad, seats.length ≤ a.2
  num : Ad.length = shifts.length
theorem FilW.keep {w w' : World} {X : Nat → Prop} {bw br : Nat} {s : Stn} {seats : List Int} {shifts : List Spn} {hv vt vs vr vd : Value} {Ad : List (Addr × Nat)} {psh : List Hm} (h : FilW w X bw br s seats shifts hv vt vs vr vd Ad psh) (hk : Keep X w w') : FilW w' X bw br s seats shifts hv vt vs vr vd Ad psh :=
  ⟨h.nw, h.nr, fun i x hx => by
    have := h.box i x hx
    rw [World.cell?_of_block (w := w) (hk.block bw (World.block_lt_of_cell? w ⟨bw, i, none⟩ this) h.nw)]
    exact this, fun i x hx => by
    have := h.ros i x hx
    rw [World.cell?_of_block (w := w) (hk.block br (World.block_lt_of_cell? w ⟨br, i, none⟩ this) h.nr)]
    exact this, h.fst, h.han.keep hk, h.sea.keep hk, h.shi.keep hk, h.row.keep hk, h.cap, h.num⟩
def hisR (shifts : List Spn) (rows : List (List Int)) (row : List Int) (k : Nat) : List Spn := hisN shifts (rows ++ [row]) k (rows.length + 1)
theorem hisR_next {shifts : List Spn} {rows : List (List Int)} {row : List Int} {k : Nat} : hisR shifts (rows ++ [row]) [] k = hisR shifts rows row k := by
  unfold hisR
  rw [hisN_push, if_neg (by simp), List.append_nil, List.length_append, List.length_singleton]
theorem hisR_other {shifts : List Spn} {rows : List (List Int)} {row : List Int} {k i : Nat} (h : k ≠ i) : hisR shifts rows (row ++ [(i : Int)]) k = hisR shifts rows row k := by
  unfold hisR
  rw [hisN_push, hisN_push]
  have : ((k : Int) ∈ row ++ [(i : Int)]) = ((k : Int) ∈ row) := by
    rw [List.mem_append, List.mem_singleton]
    exact propext ⟨fun g => g.resolve_right (by omega), .inl⟩
  simp only [this]
theorem hisR_put {shifts : List Spn} {rows : List (List Int)} {row : List Int} {i : Nat} (h : (i : Int) ∉ row) : hisR shifts rows (row ++ [(i : Int)]) i = hisR shifts rows row i ++ [shifts.getD rows.length (0, 0)] := by
  unfold hisR
  rw [hisN_push, hisN_push, if_pos (by simp), if_neg h, List.append_nil]
structure DutW (w : World) (X : Nat → Prop) (s : Stn) (shifts : List Spn) (rows : List (List Int)) (row : List Int) (bs : List Nat) : Prop where
  len : bs.length = s.hands.length
  ok : ∀ (k b : Nat) (h : Hnd), bs[k]? = some b → s.hands[k]? = some h → ¬ X b ∧ DutyOk w b (dutP h.log (hisR shifts rows row k)) (srv (hisR shifts rows row k))
theorem DutW.keep {w w' : World} {X : Nat → Prop} {s : Stn} {shifts : List Spn} {rows : List (List Int)} {row : List Int} {bs : List Nat} (h : DutW w X s shifts rows row bs) (hk : Keep X w w') : DutW w' X s shifts rows row bs :=
  ⟨h.len, fun k b g hb hg => by
    obtain ⟨h1, h2⟩ := h.ok k b g hb hg
    refine ⟨h1, fun j v hj => ?_⟩
    rw [World.cell?_of_block (w := w) (hk.block b h2.lt h1)]
    exact h2 j v hj⟩
theorem DutW.next {w : World} {X : Nat → Prop} {s : Stn} {shifts : List Spn} {rows : List (List Int)} {row : List Int} {bs : List Nat} (h : DutW w X s shifts rows row bs) : DutW w X s shifts (rows ++ [row]) [] bs :=
  ⟨h.len, fun k b g hb hg => by rw [hisR_next]; exact h.ok k b g hb hg⟩
theorem DutW.put {w : World} {X : Nat → Prop} {s : Stn} {shifts : List Spn} {rows : List (List Int)} {row : List Int} {bs : List Nat} (h : DutW w X s shifts rows row bs) {i b : Nat} {g : Hnd} (hg : s.hands[i]? = some g) (hX : ¬ X b) (hd : DutyOk w b (dutP g.log (hisR shifts rows (row ++ [(i : Int)]) i)) (srv (hisR shifts rows (row ++ [(i : Int)]) i))) : DutW w X s shifts rows (row ++ [(i : Int)]) (bs.set i b) := by
  have hi := (List.getElem?_eq_some_iff.1 hg).1
  refine ⟨by rw [List.length_set]; exact h.len, fun k b' g' hb' hg' => ?_⟩
  by_cases e : k = i
  · subst e
    rw [List.getElem?_set_self (by rw [h.len]; exact hi)] at hb'
    cases hb'
    rw [hg] at hg'
    cases hg'
    exact ⟨hX, hd⟩
  · rw [List.getElem?_set_ne (by omega)] at hb'
    rw [hisR_other e]
    exact h.ok k b' g' hb' hg'
theorem not_fpsx {w0 : Base} {A B : List HO} {w : World} (hp : Hp w0 (A ++ B) w) {g : HO} (hg : g ∈ B) {b : Nat} (hb : g.fp b) : ¬ fpsx A b := fun ⟨y, hy, hyb⟩ => ((List.pairwise_append.1 hp.nd).2.2 y hy g hg b (HO.fp_of_fpx hyb) hb).1 hyb
def FilP (seats : List Int) (shifts : List Spn) (vd : Value) (Ad : List (Addr × Nat)) (rows : List (List Int)) (row : List Int) (bs : List Nat) (res : Option (List (List Int))) (r : Value) (N : List HO) : Prop :=
  ∃ Q' bs', r = .bool res.isSome ∧ N = dutO vd bs' :: rowsF Q' ∧ Q'.map Prod.snd = Ad ∧ (res = none → bs' = bs ∧ Cohr seats shifts rows row Q') ∧ ∀ R, res = some R → Q'.map Prod.fst = R
end Go.Proofs.Ytgpglmcbopfddaa

