/- Parts of a proof: the symbolic walk and what it shows of single functions. -/
import Derived.Test.YtpmodggfogahhaaGreatDoorH5
import Derived.Test.YtpmodggfogahhaaGreatDoorT1
import Derived.Test.YtpmodggfogahhaaGreatDoorT2
import Derived.Test.YtpmodggfogahhaaGreatDoorC4
import Derived.Test.YtpmodggfogahhaaGreatDoorC2
import Derived.Test.YtpmodggfogahhaaGreatDoorC5
set_option linter.all false
namespace Go.Proofs.YtpmodggfogahhaaGreatDoor
open Go.RowKit Go.SX
set_option maxRecDepth 20000
set_option maxHeartbeats 4000000
set_option linter.unusedSimpArgs false
set_option linter.unusedVariables false
theorem contains_fn (w : World) (v : Value) (l : List Int) (x : Int) (hs : Sl w v 1 (ints l)) (hb : l.length ≤ 1099511627776) : SX.Fn Tryz.prog 17 [v, I x] w (fun _ => False) fun v N => v = .bool (decide (x ∈ l)) := by
  obtain ⟨a, n, c, rfl⟩ := hs.shape
  have hn := hs.le i1_len (by omega)
  have hr := hs.rd0
  refine walk [] [] (det0_ok _ _) Tryz.func17 rfl Tryz.ntmps17 res17 (by kernel_rfl) no_facts ?_
  simp (config := { maxSteps := 4000000 }) only [↓sx0, ↓sx1, ↓sx2, ↓sx3, ↓sx4, ↓sx5, ↓sx6, sx0, sx1, sx2, sx3, sx4, sx5, sx6, tf17, ev3_hold, sxo, sxc, sxp, sxq, sxr, sxs, sxl, sxm, simprocAttr]
  refine loop_const [(4, 17)] (fun k : Nat => [(5, I k)]) (fun k H1 => H1 = [] ∧ k ≤ n ∧ (x ∈ l ↔ x ∈ l.drop k)) (fun k => n - k) 0 ?_ ⟨rfl, Nat.zero_le _, Iff.rfl⟩ ?_
  · simp (config := { maxSteps := 4000000 }) only [↓sx0, ↓sx1, ↓sx2, ↓sx3, ↓sx4, ↓sx5, ↓sx6, sx0, sx1, sx2, sx3, sx4, sx5, sx6, tf17, ev3_hold, sxo, sxc, sxp, sxq, sxr, sxs, sxl, sxm, simprocAttr]
    try rfl
  · rintro k H1 g ⟨rfl, hk, ht⟩
    have e2 : wr (k + 1) = k + 1 := wrap_id (by omega)
    simp (config := { maxSteps := 4000000 }) only [↓sx0, ↓sx1, ↓sx2, ↓sx3, ↓sx4, ↓sx5, ↓sx6, sx0, sx1, sx2, sx3, sx4, sx5, sx6, tf17, ev3_hold, sxo, sxc, sxp, sxq, sxr, sxs, sxl, sxm, simprocAttr, e2]
    refine ⟨fun h1 => ?_, fun h1 => ?_⟩
    · have hkl : k < l.length := by omega
      refine at_1 (hr _) i1_len (List.getElem?_eq_getElem hkl) rfl fun ad => ?_
      rw [List.drop_eq_getElem_cons hkl, List.mem_cons] at ht
      simp (config := { maxSteps := 4000000 }) only [↓sx0, ↓sx1, ↓sx2, ↓sx3, ↓sx4, ↓sx5, ↓sx6, sx0, sx1, sx2, sx3, sx4, sx5, sx6, tf17, ev3_hold, sxo, sxc, sxp, sxq, sxr, sxs, sxl, sxm, simprocAttr, e2]
      refine ⟨fun h2 => ?_, fun h2 => ⟨k + 1, _, rfl, HImp.refl _ _, ⟨rfl, by omega, ?_⟩, by omega⟩⟩
      · simp [ht, h2]
      · rw [ht]
        exact ⟨fun h => h.resolve_left fun e => h2 e.symm, .inr⟩
    · have : x ∉ l := by rw [ht, List.drop_of_length_le (by omega)]; simp
      simp [this]
end Go.Proofs.YtpmodggfogahhaaGreatDoor

namespace Go.Proofs.YtpmodggfogahhaaGreatDoor.Tw
open Go.RowKit Go.SX
set_option maxRecDepth 4000
set_option maxHeartbeats 4000000
set_option linter.unusedSimpArgs false
set_option linter.unusedVariables false
theorem vv_bd {v : Int} (hv : 1 ≤ v ∧ v ≤ 20) : 1 ≤ v * v ∧ v * v ≤ 400 := by
  have := mul_bd0 (show 0 ≤ v - 1 by omega) (show v - 1 ≤ 19 by omega) (show 0 ≤ v by omega) hv.2
  have e := mul_bd0 (show 0 ≤ v by omega) hv.2 (show 0 ≤ v by omega) hv.2
  rw [Int.sub_mul] at this
  omega
theorem hold_iff {u : Tw} (hu : u.ok) {v d : Int} (hv : 1 ≤ v ∧ v ≤ 20) {t : Int} : t ≤ (bV u v d).1.2 ↔ v * v * t ≤ u.str := by
  have h2 := vv_bd hv
  have e1 : wr (v * v) = v * v := wrap_id (by omega)
  unfold Tw.ok at hu
  have e2 : (bV u v d).1.2 = u.str / (v * v) := by
    have : wr (u.str.tdiv (wr (v * v))) = u.str / (v * v) := by
      rw [e1, Int.tdiv_eq_ediv_of_nonneg (by omega)]
      have a1 := Int.ediv_nonneg (a := u.str) (b := v * v) (by omega) (by omega)
      have a2 := Int.ediv_le_self (a := u.str) (v * v) (by omega)
      exact wrap_id (by omega)
    unfold bV boundsV
    split
    · split
      · exact this
      · exact this
    · exact this
  rw [e2, Int.le_ediv_iff_mul_le (by omega), Int.mul_comm]
theorem up_le0 {x g T : Int} (hg : 0 < g) (hx : 0 ≤ x) : (x + g - 1).tdiv g ≤ T ↔ x ≤ T * g := by
  rw [Int.tdiv_eq_ediv_of_nonneg (by omega)]
  constructor
  · intro h
    have := (Int.ediv_le_iff_le_mul hg).1 h
    omega
  · intro h
    exact (Int.ediv_le_iff_le_mul hg).2 (by omega)
theorem hang_iff {u : Tw} (hu : u.ok) {v d : Int} (hv : 1 ≤ v ∧ v ≤ 20) (hd : 0 ≤ d ∧ d ≤ 1000) {t : Int} (ht : 0 ≤ t) : (¬ (u.mass > 0 ∧ d = 0) ∧ (bV u v d).1.1 ≤ t) ↔ u.mass * u.len * u.len ≤ 8 * (v * v * t) * d := by
  have h2 := vv_bd hv
  have h3 := mul_bd0 (show 0 ≤ v * v by omega) h2.2 hd.1 hd.2
  unfold Tw.ok at hu
  have m1 := mul_bd0 (show 0 ≤ u.mass by omega) (show u.mass ≤ 20 by omega) (show 0 ≤ u.len by omega) (show u.len ≤ 2000 by omega)
  have m2 := mul_bd0 m1.1 m1.2 (show 0 ≤ u.len by omega) (show u.len ≤ 2000 by omega)
  have eR : 8 * (v * v * t) * d = t * (8 * v * v * d) := by
    rw [Int.mul_comm t, Int.mul_assoc, Int.mul_assoc, Int.mul_assoc 8 v v, Int.mul_assoc 8 (v * v) d, Int.mul_assoc 8 ((v * v) * d) t, Int.mul_assoc (v * v) d t, Int.mul_comm d t, ← Int.mul_assoc (v * v) t d]
  by_cases hm : u.mass > 0
  · by_cases hd0 : d = 0
    · subst hd0
      have a1 : 1 ≤ u.mass * u.len := Int.mul_pos hm (by omega)
      have a2 : 1 ≤ u.mass * u.len * u.len := Int.mul_pos a1 (by omega)
      constructor
      · rintro ⟨h, _⟩
        exact absurd ⟨hm, rfl⟩ h
      · intro h
        rw [Int.mul_zero] at h
        omega
    · have hpos : 0 < v * v * d := Int.mul_pos (by omega) (by omega)
      have e8 : 8 * v * v * d = 8 * (v * v * d) := by simp only [Int.mul_assoc]
      have hp8 : 0 < 8 * v * v * d := by omega
      have w1 : wr (u.mass * u.len) = u.mass * u.len := wrap_id (by omega)
      have w2 : wr (u.mass * u.len * u.len) = u.mass * u.len * u.len := wrap_id (by omega)
      have w3 : wr (8 * v) = 8 * v := wrap_id (by omega)
      have w4 : wr (8 * v * v) = 8 * v * v := wrap_id (by rw [Int.mul_assoc]; omega)
      have w5 : wr (8 * v * v * d) = 8 * v * v * d := wrap_id (by omega)
      have e1 : (bV u v d).1.1 = (u.mass * u.len * u.len + 8 * v * v * d - 1).tdiv (8 * v * v * d) := by
        unfold bV boundsV
        rw [if_pos hm, if_neg hd0, w1, w2, w3, w4, w5]
        unfold upV
        rw [show wr (u.mass * u.len * u.len + 8 * v * v * d) = u.mass * u.len * u.len + 8 * v * v * d from wrap_id (by omega), show wr (u.mass * u.len * u.len + 8 * v * v * d - 1) = u.mass * u.len * u.len + 8 * v * v * d - 1 from wrap_id (by omega)]
        refine wrap_id ?_
        rw [Int.tdiv_eq_ediv_of_nonneg (by omega)]
        have a1 := Int.ediv_nonneg (a := u.mass * u.len * u.len + 8 * v * v * d - 1) (b := 8 * v * v * d) (by omega) (by omega)
        have a2 := Int.ediv_le_self (a := u.mass * u.len * u.len + 8 * v * v * d - 1) (8 * v * v * d) (by omega)
        omega
      rw [e1, up_le0 hp8 m2.1, eR]
      exact ⟨fun h => h.2, fun h => ⟨fun h' => hd0 h'.2, h⟩⟩
  · have hm0 : u.mass = 0 := by omega
    have e1 : (bV u v d).1.1 = 0 := by unfold bV boundsV; rw [if_neg hm]
    rw [e1, hm0, Int.zero_mul, Int.zero_mul, eR]
    have := Int.mul_nonneg ht (show 0 ≤ 8 * v * v * d by rw [show 8 * v * v * d = 8 * (v * v * d) by simp only [Int.mul_assoc]]; omega)
    exact ⟨fun _ => this, fun _ => ⟨fun h => by omega, ht⟩⟩
theorem is_iff {u : Tw} {v d : Int} : (bV u v d).2 = true ↔ ¬ (u.mass > 0 ∧ d = 0) ∧ (bV u v d).1.1 ≤ (bV u v d).1.2 := by
  unfold bV boundsV
  split
  · rename_i h
    split
    · rename_i h'
      simp [h, h']
    · rename_i h'
      simp [h']
  · rename_i h
    simp [h]
def sureU (v d : Int) (us : List Tw) (i : Nat) (u : Tw) : Bool := decide (v * v * hiS us i ≤ u.str) && decide (u.mass * u.len * u.len ≤ 8 * (v * v * loS us i) * d)
theorem lo_le_hi {us : List Tw} (h : ∀ u ∈ us, u.ok) : 0 ≤ loS us 0 ∧ loS us 0 ≤ hiS us 0 := by
  unfold loS hiS
  rw [List.drop_zero]
  induction us with
  | nil => simp
  | cons u us ih =>
    have h1 := ih fun v hv => h v (List.mem_cons_of_mem _ hv)
    have h2 := h u List.mem_cons_self
    unfold Tw.ok at h2
    simp only [List.map_cons, List.sum_cons]
    omega
theorem sureL_iff {v d : Int} (hv : 1 ≤ v ∧ v ≤ 20) (hd : 0 ≤ d ∧ d ≤ 1000) : ∀ {us : List Tw}, (∀ u ∈ us, u.ok) → (sureL v d us = true ↔ ∀ i u, us[i]? = some u → sureU v d us i u = true)
  | [], _ => ⟨fun _ i u h => by simp at h, fun _ => rfl⟩
  | u :: r, ho => by
    have hu := ho u List.mem_cons_self
    have hr := sureL_iff hv hd fun x hx => ho x (List.mem_cons_of_mem _ hx)
    have hlh := lo_le_hi ho
    have h1 := hold_iff (d := d) hu hv (t := hiS (u :: r) 0)
    have h2 := hang_iff hu hv hd hlh.1
    rw [sureL, Bool.and_eq_true, hr]
    constructor
    · rintro ⟨ha, hb⟩ i x hx
      cases i with
      | zero =>
        simp at hx
        subst hx
        simp only [Bool.and_eq_true, decide_eq_true_eq] at hb
        unfold sureU
        rw [decide_eq_true (h1.1 hb.2.2), decide_eq_true (h2.1 ⟨(is_iff.1 hb.1).1, hb.2.1⟩)]
        rfl
      | succ i =>
        simp at hx
        exact ha i x hx
    · intro h
      refine ⟨fun i x hx => h (i + 1) x (by simpa using hx), ?_⟩
      have h0 := h 0 u rfl
      unfold sureU at h0
      simp only [Bool.and_eq_true, decide_eq_true_eq] at h0 ⊢
      have a1 := h1.2 h0.1
      have a2 := h2.2 h0.2
      exact ⟨is_iff.2 ⟨a2.1, by omega⟩, a2.2, a1⟩
theorem deep_sure {v d x : Int} (hv : 1 ≤ v ∧ v ≤ 20) (hd : 0 ≤ d ∧ d ≤ 1000) (hx : 0 ≤ x) (hdx : d + x ≤ 1000) {us : List Tw} (h : okT us) (hs : sureL v d us = true) : sureL v (d + x) us = true := by
  rw [sureL_iff hv hd h.2.2] at hs
  rw [sureL_iff hv (by omega) h.2.2]
  intro i u hu
  have h0 := hs i u hu
  have hl := loS_bd h i
  have hvv := vv_bd hv
  unfold sureU at h0 ⊢
  simp only [Bool.and_eq_true, decide_eq_true_eq] at h0 ⊢
  have m := Int.mul_nonneg (show 0 ≤ v * v by omega) hl.1
  have := Int.mul_le_mul_of_nonneg_left (show d ≤ d + x by omega) (show 0 ≤ 8 * (v * v * loS us i) by omega)
  omega
theorem upTo_mem {p : Int → Bool} {n : Nat} {x : Int} : x ∈ upTo p n ↔ 1 ≤ x ∧ x ≤ n ∧ p x = true := by
  induction n with
  | zero => simp [upTo]; omega
  | succ n ih =>
    unfold upTo
    split
    · rename_i h
      rw [List.mem_append, ih, List.mem_singleton]
      constructor
      · rintro (⟨a, b, c⟩ | rfl)
        · exact ⟨a, by omega, c⟩
        · exact ⟨by omega, by omega, h⟩
      · rintro ⟨a, b, c⟩
        by_cases e : x = ((n + 1 : Nat) : Int)
        · exact .inr e
        · exact .inl ⟨a, by omega, c⟩
    · rename_i h
      rw [ih]
      constructor
      · rintro ⟨a, b, c⟩
        exact ⟨a, by omega, c⟩
      · rintro ⟨a, b, c⟩
        refine ⟨a, ?_, c⟩
        have : x ≠ ((n + 1 : Nat) : Int) := fun e => h (e ▸ c)
        omega
theorem deeper_sub {d x : Int} (hd : 0 ≤ d ∧ d ≤ 1000) (hx : 0 ≤ x) (hdx : d + x ≤ 1000) {us : List Tw} (h : okT us) : ((sureF us d).all fun y => decide (y ∈ sureF us (d + x))) = true := by
  rw [List.all_eq_true]
  intro v hv
  have := upTo_mem.1 hv
  exact decide_eq_true (upTo_mem.2 ⟨this.1, this.2.1, deep_sure ⟨this.1, by omega⟩ hd hx hdx h this.2.2⟩)
def longB (us : List Tw) : Bool := decide (us.length > 10) || (trainB us && decide (us.length > 5))
def detR9 : Nat → List Value → Option Value
  | 68, [.int .i64 n, .int .i64 l, .int .i64 h] => some (.bool (inB n l h))
  | _, _ => none
theorem detR9_ok (w0 : World) (X : Nat → Prop) : DetFn Tryz.prog ⟨w0, X⟩ detR9 := by
  intro g args v h w hk
  unfold detR9 at h
  split at h
  · cases h
    exact det_of_fn' (rfrom9_fn w _ _ _)
  · cases h
theorem detR9_eq : ∀ n l h : Int, detR9 68 [I n, I l, I h] = some (.bool (inB n l h)) := fun _ _ _ => rfl
theorem rcheck9_fn (w : World) (a : Option Addr) (n c : Nat) (us : List Tw) (hs : Sl w (.slice a n c) 5 (twcs us)) (hn : us.length = n) : SX.Fn Tryz.prog 36 [.agg #[.slice a n c]] w (fun _ => False) fun v N => v = I (if trainB us then 0 else 90) := by
  refine walk [] [] (detR9_ok _ _) Tryz.func36 rfl Tryz.ntmps36 res36 (by kernel_rfl) no_facts ?_
  have hin : inB n 1 8 = decide (1 ≤ us.length ∧ us.length ≤ 8) := by
    unfold inB
    rw [decide_eq_decide]
    omega
  simp (config := { maxSteps := 4000000 }) only [↓sx0, ↓sx1, ↓sx2, ↓sx3, ↓sx4, ↓sx5, ↓sx6, sx0, sx1, sx2, sx3, sx4, sx5, sx6, tf36, ev3_hold, sxo, sxc, sxp, sxq, sxr, sxs, sxl, sxm, simprocAttr, detR9_eq, hin]
  refine ⟨fun h1 => by simp [trainB, h1], fun h1 => ?_⟩
  refine loop_const [(4, 4), (10, 56)] (fun k : Nat => [(3, I k)]) (fun k H1 => H1 = [] ∧ k ≤ n ∧ us.any wrongB = (us.drop k).any wrongB) (fun k => n - k) 0 ?_ ⟨rfl, Nat.zero_le _, rfl⟩ ?_
  · simp (config := { maxSteps := 4000000 }) only [↓sx0, ↓sx1, ↓sx2, ↓sx3, ↓sx4, ↓sx5, ↓sx6, sx0, sx1, sx2, sx3, sx4, sx5, sx6, tf36, ev3_hold, sxo, sxc, sxp, sxq, sxr, sxs, sxl, sxm, simprocAttr]
    try rfl
  · rintro k H1 g ⟨rfl, hk, ht⟩
    have e2 : wr (k + 1) = k + 1 := wrap_id (by omega)
    have hlt : 0 < (twcs us).length := by rw [twcs_len]; omega
    obtain ⟨ad, hadr⟩ := hs.addr hlt
    simp (config := { maxSteps := 4000000 }) only [↓sx0, ↓sx1, ↓sx2, ↓sx3, ↓sx4, ↓sx5, ↓sx6, sx0, sx1, sx2, sx3, sx4, sx5, sx6, tf36, ev3_hold, sxo, sxc, sxp, sxq, sxr, sxs, sxl, sxm, simprocAttr, detR9_eq, e2]
    refine ⟨fun h2 => ?_, fun h2 => ?_⟩
    · have hkl : k < us.length := by omega
      have hu : us[k]? = some us[k] := List.getElem?_eq_getElem hkl
      have hs' := hs
      rw [hadr] at hs'
      have hrds := hs'.rds (X := fun _ => False) (H := []) id
      refine ⟨by omega, h2, ad, hadr, ldn (xs := twcs us) (vs := twc us[k]) hrds rfl (fun j v hj => ?_) ?_⟩
      · have hj5 : j < 5 := (List.getElem?_eq_some_iff.1 hj).1
        rw [twcs_get hu j hj5]
        exact hj
      · rw [List.drop_eq_getElem_cons hkl, List.any_cons] at ht
        generalize us[k] = u at ht
        have ew : wrongB u = (!inB u.dl 1 u.dh || decide (u.dh > 100) || !inB u.len 1 2000 || !inB u.mass 0 20 || !inB u.str 0 1000000) := by
          have : inB u.dl 1 u.dh = (!decide (u.dl < 1) && !decide (u.dl > u.dh)) := by
            unfold inB
            by_cases h1 : u.dl < 1 <;> by_cases h2 : u.dl > u.dh <;> simp [h1, h2] <;> omega
          unfold wrongB
          rw [this]
          simp only [Bool.not_and, Bool.not_not]
        simp (config := { maxSteps := 4000000 }) only [↓sx0, ↓sx1, ↓sx2, ↓sx3, ↓sx4, ↓sx5, ↓sx6, sx0, sx1, sx2, sx3, sx4, sx5, sx6, tf36, ev3_hold, sxo, sxc, sxp, sxq, sxr, sxs, sxl, sxm, simprocAttr, detR9_eq, e2, twc]
        have bad : wrongB u = true → Value.int IntKind.i64 90 = I (if trainB us = true then 0 else 90) := fun hw => by
          have h3 : us.any wrongB = true := by rw [ht, hw, Bool.true_or]
          simp [trainB, h3]
        refine ⟨fun a1 => ⟨fun a2 => ⟨fun a3 => ⟨fun a4 => ⟨fun a5 => bad (by rw [ew]; simp [a5]), fun a5 => ⟨k + 1, _, rfl, HImp.refl _ _, ⟨rfl, by omega, ?_⟩, by omega⟩⟩, fun a4 => bad (by rw [ew]; simp [a4])⟩, fun a3 => bad (by rw [ew]; simp [a3])⟩, fun a2 => bad (by rw [ew]; simp [a2])⟩, fun a1 => bad (by rw [ew]; simp [a1])⟩
        have hw : wrongB u = false := by rw [ew]; simp [a1, a3, a4, a5]; omega
        rw [ht, hw, Bool.false_or]
    · have h3 : us.any wrongB = false := by rw [ht, List.drop_of_length_le (by omega)]; rfl
      simp only [trainB, h3, h1, Bool.not_false, Bool.and_true, decide_true, and_self, if_true]
open Classical in
noncomputable def detC9 (v : Value) (us : List Tw) : Nat → List Value → Option Value
  | 36, xs => if xs = [.agg #[v]] then some (I (if trainB us then 0 else 90)) else none
  | _, _ => none
theorem detC9_ok {v : Value} {us : List Tw} {w0 : World} {X : Nat → Prop} (hs : Sl w0 v 5 (twcs us)) (hX : ∀ b, rsl w0 v b → ¬ X b) : DetFn Tryz.prog ⟨w0, X⟩ (detC9 v us) := by
  intro g args r h w hk
  obtain ⟨a, n, c, rfl⟩ := hs.shape
  have hn := hs.le (f := twc) twc_len (by omega)
  have hs' := hs.keepR hk hX
  unfold detC9 at h
  split at h
  · split at h
    · subst_vars
      cases h
      exact det_of_fn' (rcheck9_fn w a _ c us hs' rfl)
    · cases h
  · cases h
theorem detC9_eq (v : Value) (us : List Tw) : detC9 v us 36 [.agg #[v]] = some (I (if trainB us then 0 else 90)) := by simp [detC9]
theorem long_fn (w : World) (v : Value) (us : List Tw) (hs : Sl w v 5 (twcs us)) : SX.Fn Tryz.prog 35 [.agg #[v]] w (fun _ => False) fun r N => r = .bool (longB us) := by
  obtain ⟨a, n, c, rfl⟩ := hs.shape
  have hn := hs.le (f := twc) twc_len (by omega)
  have hD := detC9_ok (X := fun _ => False) hs (fun _ _ => id)
  refine walk [] [] hD Tryz.func35 rfl Tryz.ntmps35 res35 (by kernel_rfl) no_facts ?_
  by_cases ht : trainB us = true
  · simp (config := { maxSteps := 4000000 }) only [↓sx0, ↓sx1, ↓sx2, ↓sx3, ↓sx4, ↓sx5, ↓sx6, sx0, sx1, sx2, sx3, sx4, sx5, sx6, tf35, ev3_hold, sxo, sxc, sxp, sxq, sxr, sxs, sxl, sxm, simprocAttr, detC9_eq, ht]
    refine ⟨fun h1 => ?_, fun h1 => ?_⟩
    · have e1 : decide (us.length > 10) = false := decide_eq_false (by omega)
      have e2 : decide ((n : Int) > 5) = decide (us.length > 5) := by rw [decide_eq_decide]; omega
      simp [longB, e1, e2, ht]
    · have e1 : decide (us.length > 10) = true := decide_eq_true (by omega)
      simp [longB, e1]
  · simp (config := { maxSteps := 4000000 }) only [↓sx0, ↓sx1, ↓sx2, ↓sx3, ↓sx4, ↓sx5, ↓sx6, sx0, sx1, sx2, sx3, sx4, sx5, sx6, tf35, ev3_hold, sxo, sxc, sxp, sxq, sxr, sxs, sxl, sxm, simprocAttr, detC9_eq, ht]
    refine ⟨fun h1 => ?_, fun h1 => ?_⟩
    · have e1 : decide (us.length > 10) = false := decide_eq_false (by omega)
      simp [longB, e1, ht]
    · have e1 : decide (us.length > 10) = true := decide_eq_true (by omega)
      simp [longB, e1]
end Go.Proofs.YtpmodggfogahhaaGreatDoor.Tw

namespace Go.Proofs.YtpmodggfogahhaaGreatDoor
open Go.RowKit Go.SX
set_option maxRecDepth 4000
set_option maxHeartbeats 4000000
set_option linter.unusedSimpArgs false
set_option linter.unusedVariables false
theorem setN_flt {c : Cht} (hok : c.ok) {g : Int} {k t : Nat} : ∀ {i x : Nat}, x < c.depth.length → (setN c g k t i).getD x false = true → c.flt g (t + i) x = true
  | 0, x, hx, h => by
    rw [setN] at h
    by_cases e : x = k
    · subst e
      rw [List.getD_eq_getElem?_getD, List.getElem?_set_self (by simpa using hx)] at h
      unfold Cht.flt
      simpa using h
    · rw [List.getD_eq_getElem?_getD, List.getElem?_set_ne (by omega)] at h
      simp [List.getElem?_replicate, hx] at h
  | i + 1, x, hx, h => ((setN_succ c hok g k t i x hx).1 h).1
theorem pth_tail2 (c : Cht) (S : List (List Bool)) (to : Nat) : ∀ j m, m ≤ j → (pth c S to j).getD m 0 = (pth c S to (j - m)).getD 0 0
  | j, 0, _ => by rw [Nat.sub_zero]
  | 0, m + 1, h => by omega
  | j + 1, m + 1, h => by
    rw [pth, List.getD_cons_succ, pth_tail2 c S to j m (by omega), show j + 1 - (m + 1) = j - m by omega]
theorem pth_flt {c : Cht} (hok : c.ok) {g : Int} {A t i : Nat} {B : Nat} (hB : B < c.depth.length) (hin : (setN c g A t i).getD B false = true) (m : Nat) (hm : m ≤ i) :
    (pth c (setL c g A t (i + 1)) B i).getD m 0 < c.depth.length ∧ c.flt g (t + m) ((pth c (setL c g A t (i + 1)) B i).getD m 0) = true := by
  have hch := setL_chained c hok g A t (i + 1)
  have hl := setL_len c g A t (i + 1)
  have hin' : ((setL c g A t (i + 1)).getD ((setL c g A t (i + 1)).length - 1) []).getD B false = true := by
    rw [hl, Nat.add_sub_cancel, setL_get _ _ _ _ _ _ (by omega)]
    exact hin
  rw [pth_tail2 _ _ _ _ _ hm]
  obtain ⟨h1, h2⟩ := pth_head hok hch hB hin' (i - m) (by omega)
  rw [hl, show i + 1 - 1 - (i - m) = m by omega, setL_get _ _ _ _ _ _ (by omega)] at h2
  exact ⟨h1, setN_flt hok h1 h2⟩
def minS (f : Nat → Int) : Nat → Int
  | 0 => 1000
  | k + 1 => min (minS f k) (f k)
theorem minS_le {f : Nat → Int} : ∀ {n : Nat}, minS f n ≤ 1000 ∧ ∀ k, k < n → minS f n ≤ f k
  | 0 => ⟨Int.le_refl _, fun _ h => by omega⟩
  | n + 1 => by
    obtain ⟨h1, h2⟩ := minS_le (f := f) (n := n)
    rw [minS]
    refine ⟨by omega, fun k hk => ?_⟩
    by_cases e : k = n
    · subst e
      omega
    · have := h2 k (by omega)
      omega
theorem minS_ge {f : Nat → Int} {b : Int} (hb : b ≤ 1000) : ∀ {n : Nat}, (∀ k, k < n → b ≤ f k) → b ≤ minS f n
  | 0, _ => hb
  | n + 1, h => by
    have h1 := minS_ge hb (n := n) fun k hk => h k (by omega)
    have h2 := h n (by omega)
    rw [minS]
    omega
end Go.Proofs.YtpmodggfogahhaaGreatDoor

namespace Go.Proofs.YtpmodggfogahhaaGreatDoor
open Go.RowKit Go.SX Go.ChangeShapes Go.WideShapes Go.ChangeAt
set_option maxRecDepth 100000
theorem flat_haul : flat Tryz.prog 5 87 = some [.int .i64, .int .i64, .int .i64, .int .i64, .slice 158] := by kernel_rfl
theorem flat_towed : flat Tryz.prog 4 158 = some [.int .i64, .int .i64, .int .i64, .int .i64, .int .i64] := by kernel_rfl
theorem cells_towed : Tryz.prog.cellsOf 158 = 5 := by kernel_rfl
theorem haul_of {H : Type} {enc : TypeId × Value → H} {w : World} {base : Nat} {v : Value} {d : DataW H} {ps : List MemPlace} (h : Value.okWide Tryz.prog w .any base 87 v) (hd : DataW.Trod enc Tryz.prog w 0 (fun _ => true) true 87 v d ps) : ∃ (g a t b : Int) (vT : Value) (us : List Tw.Tw), v = .agg #[I g, I a, I t, I b, vT] ∧ Sl w vT 5 (Tw.twcs us) := by
  obtain ⟨cs, rfl⟩ := agg_of Tryz.underlying87 h
  have hl := lvs_of_Trod hd 5 flat_haul
  rw [show (Value.agg cs).cells.toList = cs.toList from rfl] at hl
  generalize hcs : cs.toList = l at hl
  cases hl with | int _ hl => cases hl with | int _ hl => cases hl with | int _ hl => cases hl with | int _ hl => cases hl with | @slice _ a2 n2 c2 x1 _ _ _ _ _ s1 _ e1 hl =>
    cases hl
    obtain ⟨us, hu, _⟩ := cat_of (f := Tw.twc) (xss := x1) fun xs hxs => by
      obtain ⟨a, b, c, d, e, hl⟩ := leaves5 (e1 xs hxs 4 _ flat_towed)
      exact ⟨⟨a, b, c, d, e⟩, hl⟩
    rw [cells_towed, hu] at s1
    exact ⟨_, _, _, _, _, us, by rw [show cs = cs.toList.toArray by simp, hcs], s1⟩
end Go.Proofs.YtpmodggfogahhaaGreatDoor

