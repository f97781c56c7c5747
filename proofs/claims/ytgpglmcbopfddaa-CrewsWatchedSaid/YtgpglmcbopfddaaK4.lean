/- Parts of a proof: the symbolic walk and what it shows of single functions. -/
import Derived.Test.YtgpglmcbopfddaaK3
set_option linter.all false
namespace Go.Proofs.Ytgpglmcbopfddaa
open Go.RowKit Go.SX
set_option maxRecDepth 10000
set_option maxHeartbeats 4000000
set_option linter.unusedSimpArgs false
set_option linter.unusedVariables false
def wc (p : Int → Bool) (t : Int) : Nat → Nat
  | 0 => 0
  | n + 1 => wc p t n + if p (t + n) then 1 else 0
theorem wc_le (p : Int → Bool) (t : Int) : ∀ n, wc p t n ≤ n
  | 0 => Nat.le_refl _
  | n + 1 => by
    have := wc_le p t n
    rw [wc]
    split <;> omega
theorem ct_wc (p : Int → Bool) (m : Nat) : ∀ n, ct (at300 p) (m + n) = ct (at300 p) m + wc p ((m : Int) - 300) n
  | 0 => rfl
  | n + 1 => by
    rw [← Nat.add_assoc, ct, ct_wc p m n, wc, Nat.add_assoc]
    have : at300 p (m + n) = p ((m : Int) - 300 + n) := by
      unfold at300
      rw [show (((m + n : Nat) : Int) - 300) = (m : Int) - 300 + n by omega]
    rw [this]
theorem wc_or (p q : Int → Bool) (hd : ∀ u, p u = true → q u = true → False) (t : Int) (n : Nat) : wc (fun u => p u || q u) t n = wc p t n + wc q t n := by
  induction n with
  | zero => rfl
  | succ n ih =>
    rw [wc, wc, wc, ih]
    have := hd (t + n)
    cases hp : p (t + n) <;> cases hq : q (t + n) <;> simp_all <;> omega
theorem wc_pos {p : Int → Bool} {t : Int} {n : Nat} : 0 < wc p t n ↔ ∃ u, t ≤ u ∧ u < t + n ∧ p u = true := by
  induction n with
  | zero =>
    rw [wc]
    exact ⟨fun h => by omega, fun ⟨u, h1, h2, _⟩ => by omega⟩
  | succ n ih =>
    rw [wc]
    constructor
    · intro h
      by_cases hp : p (t + n) = true
      · exact ⟨t + n, by omega, by omega, hp⟩
      · rw [if_neg hp] at h
        obtain ⟨u, h1, h2, h3⟩ := ih.1 (by omega)
        exact ⟨u, h1, by omega, h3⟩
    · rintro ⟨u, h1, h2, h3⟩
      by_cases hu : u = t + n
      · rw [hu] at h3
        rw [if_pos h3]
        omega
      · have := ih.2 ⟨u, h1, by omega, h3⟩
        omega
def com (a b : Spn) : Int := max 0 (min a.2 b.2 - max a.1 b.1 + 1)
theorem wc_span (s : Spn) (t : Int) (n : Nat) (hs : s.1 ≤ s.2 + 1) : (wc (inS s) t n : Int) = com (t, t + n - 1) s := by
  induction n with
  | zero =>
    rw [wc]
    unfold com
    simp only
    omega
  | succ n ih =>
    rw [wc]
    have : inS s (t + n) = (decide (s.1 ≤ t + n) && decide (t + n ≤ s.2)) := rfl
    rw [this]
    unfold com at ih ⊢
    simp only at ih ⊢
    generalize wc (inS s) t n = c at ih
    by_cases c1 : s.1 ≤ t + n
    · by_cases c2 : t + n ≤ s.2
      · simp only [c1, c2, decide_true, Bool.and_self, if_true]
        omega
      · simp only [c1, c2, decide_true, decide_false, Bool.and_false, Bool.false_eq_true, if_false]
        omega
    · simp only [c1, decide_false, Bool.false_and, Bool.false_eq_true, if_false]
      omega
def comL (w : Spn) (l : List Spn) : Int := (l.map (com w)).foldr (· + ·) 0
theorem comL_cons (w s : Spn) (l : List Spn) : comL w (s :: l) = com w s + comL w l := rfl
def disj : List Spn → Prop
  | [] => True
  | s :: l => s.1 ≤ s.2 + 1 ∧ (∀ x ∈ l, ∀ u, inS s u = true → inS x u = true → False) ∧ disj l
theorem srv_nil (u : Int) : srv [] u = false := rfl
theorem srv_cons (s : Spn) (l : List Spn) (u : Int) : srv (s :: l) u = (inS s u || srv l u) := by
  unfold srv
  rw [List.any_cons]
theorem srv_mem {l : List Spn} {u : Int} : srv l u = true ↔ ∃ s ∈ l, inS s u = true := by
  unfold srv
  rw [List.any_eq_true]
theorem wc_none (t : Int) (n : Nat) : wc (fun _ => false) t n = 0 := by
  induction n with
  | zero => rfl
  | succ n ih => rw [wc, ih]; rfl
theorem wc_srv {l : List Spn} (hd : disj l) (t : Int) (n : Nat) : (wc (srv l) t n : Int) = comL (t, t + n - 1) l := by
  induction l with
  | nil =>
    have : srv [] = fun _ => false := rfl
    rw [this, wc_none]
    try rfl
  | cons s l ih =>
    obtain ⟨h1, h2, h3⟩ := hd
    have : srv (s :: l) = fun u => inS s u || srv l u := funext fun u => srv_cons s l u
    rw [this, wc_or _ _ (fun u hu hv => by obtain ⟨x, hx, hxu⟩ := srv_mem.1 hv; exact h2 x hx u hu hxu), comL_cons, Int.natCast_add, wc_span s t n h1, ih h3]
theorem inS_iff {s : Spn} {u : Int} : inS s u = true ↔ s.1 ≤ u ∧ u ≤ s.2 := by
  unfold inS
  rw [Bool.and_eq_true, decide_eq_true_eq, decide_eq_true_eq]
theorem logB_disj : ∀ {l : List Spn} {last : Int}, logB last l = true → disj l
  | [], _, _ => trivial
  | s :: l, last, h => by
    simp only [logB, Bool.and_eq_true, decide_eq_true_eq] at h
    refine ⟨by omega, fun x hx u h1 h2 => ?_, logB_disj h.2⟩
    have := logB_mem h.2 x hx
    rw [inS_iff] at h1 h2
    omega
def restP (p q : Int → Bool) (W : Nat) (D : Int) : Prop := ∀ t : Int, 0 < wc q t W → (wc p t W : Int) ≤ D
theorem allAlw_iff (p q : Int → Bool) (W : Nat) (D : Int) (hW : W ≤ 100) (hq : ∀ u, q u = true → 0 ≤ u ∧ u ≤ 490) : allAlw p q W D ↔ restP p q W D := by
  have key : ∀ (r : Int → Bool) (t : Nat), W ≤ t + 1 → (ct (at300 r) (t + 1) : Int) - ct (at300 r) (t + 1 - W) = wc r (((t + 1 - W : Nat) : Int) - 300) W := fun r t ht => by
    have := ct_wc r (t + 1 - W) W
    rw [show t + 1 - W + W = t + 1 by omega] at this
    rw [this, Int.natCast_add]
    omega
  constructor
  · intro h t hp
    obtain ⟨u, h1, h2, h3⟩ := wc_pos.1 hp
    have := hq u h3
    have hk := h (t + W - 1 + 300).toNat (by omega)
    unfold alw at hk
    rw [key _ _ (by omega), key _ _ (by omega)] at hk
    rw [show (((t + W - 1 + 300).toNat + 1 - W : Nat) : Int) - 300 = t by omega] at hk
    exact hk (by omega)
  · intro h t ht
    unfold alw
    by_cases c : W ≤ t + 1
    · rw [key _ _ c, key _ _ c]
      intro hp
      exact h _ (by omega)
    · intro hp
      exfalso
      rw [show t + 1 - W = 0 by omega] at hp
      have h0 : ct (at300 q) 0 = 0 := rfl
      rw [h0] at hp
      have := ct_wc q 0 (t + 1)
      rw [Nat.zero_add, h0, Nat.zero_add] at this
      rw [this] at hp
      obtain ⟨u, h1, h2, h3⟩ := wc_pos.1 (show 0 < wc q (((0 : Nat) : Int) - 300) (t + 1) by omega)
      have := hq u h3
      omega
def servP (s : Stn) (h : Hnd) (l : List Spn) : Prop := ∀ x ∈ l, ∀ t : Int, x.1 - s.window + 1 ≤ t → t ≤ x.2 → comL (t, t + s.window - 1) h.log + comL (t, t + s.window - 1) l ≤ s.duty
def newOk (l : List Spn) : Prop := disj l ∧ ∀ x ∈ l, 0 ≤ x.1 ∧ x.1 ≤ x.2 ∧ x.2 ≤ 490
theorem servP_iff {s : Stn} {h : Hnd} {l : List Spn} (hW : 1 ≤ s.window ∧ s.window ≤ 100) (hlog : logdB h.log = true) (hn : newOk l) : servP s h l ↔ restP (fun u => srv h.log u || srv l u) (srv l) s.window.toNat s.duty := by
  unfold logdB at hlog
  rw [Bool.and_eq_true] at hlog
  have hmem := logB_mem hlog.1
  have hdl := logB_disj hlog.1
  have hcount : ∀ t, (wc (fun u => srv h.log u || srv l u) t s.window.toNat : Int) = comL (t, t + s.window - 1) h.log + comL (t, t + s.window - 1) l := fun t => by
    rw [wc_or _ _ (fun u h1 h2 => ?_), Int.natCast_add, wc_srv hdl, wc_srv hn.1, show (s.window.toNat : Int) = s.window by omega]
    obtain ⟨x, hx, hxu⟩ := srv_mem.1 h1
    obtain ⟨y, hy, hyu⟩ := srv_mem.1 h2
    have := hmem x hx
    have := hn.2 y hy
    rw [inS_iff] at hxu hyu
    omega
  constructor
  · intro hs t hp
    obtain ⟨u, h1, h2, h3⟩ := wc_pos.1 hp
    obtain ⟨x, hx, hxu⟩ := srv_mem.1 h3
    rw [inS_iff] at hxu
    rw [hcount]
    exact hs x hx t (by omega) (by omega)
  · intro hr x hx t h1 h2
    rw [← hcount]
    have hx2 := hn.2 x hx
    refine hr t (wc_pos.2 ?_)
    by_cases c : t ≤ x.1
    · exact ⟨x.1, c, by omega, srv_mem.2 ⟨x, hx, inS_iff.2 ⟨by omega, by omega⟩⟩⟩
    · exact ⟨t, by omega, by omega, srv_mem.2 ⟨x, hx, inS_iff.2 ⟨by omega, by omega⟩⟩⟩
end Go.Proofs.Ytgpglmcbopfddaa

namespace Go.Proofs.Ytgpglmcbopfddaa
open Go.RowKit Go.SX
set_option maxRecDepth 10000
set_option maxHeartbeats 4000000
set_option linter.unusedSimpArgs false
set_option linter.unusedVariables false
def comw (a b c d : Int) : Int := max 0 (wr (wr (min b d - max a c) + 1))
theorem common_fn (w : World) (a b c d : Int) : SX.Fn Try.prog 73 [.agg #[I a, I b], .agg #[I c, I d]] w (fun _ => False) fun v N => v = I (comw a b c d) := by
  refine walk [] [] (det0_ok _ _) Try.func73 rfl Try.ntmps73 res73 (by kernel_rfl) no_facts ?_
  simp (config := { maxSteps := 4000000 }) only [↓sx0, ↓sx1, ↓sx2, ↓sx3, ↓sx4, ↓sx5, ↓sx6, sx0, sx1, sx2, sx3, sx4, sx5, sx6, tf73, ev3_hold, sxo, sxc, sxp, sxq, sxr, sxs, sxl, sxm, simprocAttr]
  try rfl
theorem isHandN_fn (w : World) (a : Option Addr) (n c : Nat) (x y k : Int) : SX.Fn Try.prog 16 [.agg #[.slice a n c, I x, I y], I k] w (fun _ => False) fun v N => v = .bool (inB k 0 (wr ((n : Int) - 1))) := by
  refine walk [] [] (det1_ok _ _) Try.func16 rfl Try.ntmps16 res16 (by kernel_rfl) no_facts ?_
  simp (config := { maxSteps := 4000000 }) only [↓sx0, ↓sx1, ↓sx2, ↓sx3, ↓sx4, ↓sx5, ↓sx6, sx0, sx1, sx2, sx3, sx4, sx5, sx6, tf16, ev3_hold, sxo, sxc, sxp, sxq, sxr, sxs, sxl, sxm, simprocAttr, det1_eq]
def detB : Nat → List Value → Option Value
  | 73, [.agg ⟨[.int .i64 a, .int .i64 b]⟩, .agg ⟨[.int .i64 c, .int .i64 d]⟩] => some (I (comw a b c d))
  | 16, [.agg ⟨[.slice _ n _, .int .i64 _, .int .i64 _]⟩, .int .i64 k] => some (.bool (inB k 0 (wr ((n : Int) - 1))))
  | g, xs => detA g xs
theorem detB_ok (w0 : World) (X : Nat → Prop) : DetFn Try.prog ⟨w0, X⟩ detB := by
  intro g args v h w hk
  unfold detB at h
  split at h
  · cases h
    exact det_of_fn (common_fn w _ _ _ _)
  · cases h
    exact det_of_fn (isHandN_fn w _ _ _ _ _ _)
  · exact detA_ok w0 X _ _ _ h w hk
theorem detB_eq : (∀ n l h : Int, detB 30 [I n, I l, I h] = some (.bool (inB n l h))) ∧ (∀ n l h : Int, detB 24 [I n, I l, I h] = some (.bool (inB n l h))) ∧
    (∀ n : Int, detB 45 [I n] = some (.bool (inB n 0 255))) ∧
    (∀ a b c d : Int, detB 73 [.agg #[I a, I b], .agg #[I c, I d]] = some (I (comw a b c d))) ∧
    (∀ (a : Option Addr) (n c : Nat) (x y k : Int), detB 16 [.agg #[.slice a n c, I x, I y], I k] = some (.bool (inB k 0 (wr ((n : Int) - 1))))) := ⟨fun _ _ _ => rfl, fun _ _ _ => rfl, fun _ => rfl, fun _ _ _ _ => rfl, fun _ _ _ _ _ _ => rfl⟩
def spanB (l : List Spn) : Prop := ∀ x ∈ l, (-5000 ≤ x.1 ∧ x.1 ≤ 5000) ∧ -5000 ≤ x.2 ∧ x.2 ≤ 5000
theorem logB_span {l : List Spn} (h : logdB l = true) : spanB l ∧ l.length ≤ 10 := by
  unfold logdB at h
  rw [Bool.and_eq_true, decide_eq_true_eq] at h
  refine ⟨fun x hx => ?_, h.2⟩
  have := logB_mem h.1 x hx
  omega
end Go.Proofs.Ytgpglmcbopfddaa

namespace Go.Proofs.Ytgpglmcbopfddaa
open Go.RowKit Go.SX
set_option maxRecDepth 10000
set_option maxHeartbeats 4000000
set_option linter.unusedSimpArgs false
set_option linter.unusedVariables false
theorem in_fn (w : World) (v : Value) (l : List Spn) (hs : Sl w v 2 (cat spc l)) (hb : l.length ≤ 1000) (u : Int) : SX.Fn Try.prog 63 [v, I u] w (fun _ => False) fun r N => r = .bool (srv l u) := by
  obtain ⟨a, n, c, rfl⟩ := hs.shape
  have hn := hs.le spc_len (by omega)
  subst hn
  have hr := hs.rd0
  refine walk [] [] (det0_ok _ _) Try.func63 rfl Try.ntmps63 res63 (by kernel_rfl) no_facts ?_
  simp (config := { maxSteps := 4000000 }) only [↓sx0, ↓sx1, ↓sx2, ↓sx3, ↓sx4, ↓sx5, ↓sx6, sx0, sx1, sx2, sx3, sx4, sx5, sx6, tf63, ev3_hold, sxo, sxc, sxp, sxq, sxr, sxs, sxl, sxm, simprocAttr]
  refine loop_constH [] (HImp.nil _ _) [(4, 27)] (fun i : Nat => [(5, I i)]) (fun i H1 => i ≤ l.length ∧ H1 = [] ∧ srv l u = srv (l.drop i) u) (fun i => l.length - i) 0 ?_ ⟨Nat.zero_le _, rfl, rfl⟩ ?_
  · simp (config := { maxSteps := 4000000 }) only [↓sx0, ↓sx1, ↓sx2, ↓sx3, ↓sx4, ↓sx5, ↓sx6, sx0, sx1, sx2, sx3, sx4, sx5, sx6, tf63, ev3_hold, sxo, sxc, sxp, sxq, sxr, sxs, sxl, sxm, simprocAttr]
    try simp
  rintro i H1 g1 ⟨hi, rfl, ht⟩
  by_cases hin : i = l.length
  · have e7 : ((i : Int) < (l.length : Int)) = False := eq_false (by omega)
    rw [List.drop_of_length_le (by omega), srv_nil] at ht
    rw [ht]
    refine ⟨?_⟩
    simp (config := { maxSteps := 4000000 }) only [↓sx0, ↓sx1, ↓sx2, ↓sx3, ↓sx4, ↓sx5, ↓sx6, sx0, sx1, sx2, sx3, sx4, sx5, sx6, tf63, ev3_hold, sxo, sxc, sxp, sxq, sxr, sxs, sxl, sxm, simprocAttr, e7]
  have e7 : ((i : Int) < (l.length : Int)) = True := eq_true (by omega)
  have e2 : wr (i + 1) = ((i + 1 : Nat) : Int) := (wrap_id (by omega)).trans (by omega)
  have hil : i < l.length := by omega
  have hu := List.getElem?_eq_getElem hil
  rw [List.drop_eq_getElem_cons hil, srv_cons] at ht
  generalize l[i] = x at hu ht
  obtain ⟨xa, xb⟩ := x
  have hin : inS (xa, xb) u = (decide (xa ≤ u) && decide (u ≤ xb)) := rfl
  rw [hin] at ht
  by_cases c1 : xa ≤ u
  case neg =>
    have p1 : (xa ≤ u) = False := eq_false c1
    rw [decide_eq_false c1, Bool.false_and, Bool.false_or] at ht
    refine ⟨?_⟩
    simp (config := { maxSteps := 4000000 }) only [↓sx0, ↓sx1, ↓sx2, ↓sx3, ↓sx4, ↓sx5, ↓sx6, sx0, sx1, sx2, sx3, sx4, sx5, sx6, tf63, ev3_hold, sxo, sxc, sxp, sxq, sxr, sxs, sxl, sxm, simprocAttr, e7]
    refine amid (at_f (o := 0) (hr _) spc_len hu rfl fun ad1 => ?_)
    simp (config := { maxSteps := 4000000 }) only [↓sx0, ↓sx1, ↓sx2, ↓sx3, ↓sx4, ↓sx5, ↓sx6, sx0, sx1, sx2, sx3, sx4, sx5, sx6, tf63, ev3_hold, sxo, sxc, sxp, sxq, sxr, sxs, sxl, sxm, simprocAttr, p1, e2]
    exact ⟨i + 1, _, rfl, HImp.refl _ _, ⟨by omega, rfl, ht⟩, by omega⟩
  have p1 : (xa ≤ u) = True := eq_true c1
  by_cases c2 : u ≤ xb
  case neg =>
    have p2 : (u ≤ xb) = False := eq_false c2
    rw [decide_eq_false c2, Bool.and_false, Bool.false_or] at ht
    refine ⟨?_⟩
    simp (config := { maxSteps := 4000000 }) only [↓sx0, ↓sx1, ↓sx2, ↓sx3, ↓sx4, ↓sx5, ↓sx6, sx0, sx1, sx2, sx3, sx4, sx5, sx6, tf63, ev3_hold, sxo, sxc, sxp, sxq, sxr, sxs, sxl, sxm, simprocAttr, e7]
    refine amid (at_f (o := 0) (hr _) spc_len hu rfl fun ad1 => ?_)
    simp (config := { maxSteps := 4000000 }) only [↓sx0, ↓sx1, ↓sx2, ↓sx3, ↓sx4, ↓sx5, ↓sx6, sx0, sx1, sx2, sx3, sx4, sx5, sx6, tf63, ev3_hold, sxo, sxc, sxp, sxq, sxr, sxs, sxl, sxm, simprocAttr, p1, e7]
    refine amid (at_f (o := 1) (hr _) spc_len hu rfl fun ad1 => ?_)
    simp (config := { maxSteps := 4000000 }) only [↓sx0, ↓sx1, ↓sx2, ↓sx3, ↓sx4, ↓sx5, ↓sx6, sx0, sx1, sx2, sx3, sx4, sx5, sx6, tf63, ev3_hold, sxo, sxc, sxp, sxq, sxr, sxs, sxl, sxm, simprocAttr, p2, e2]
    exact ⟨i + 1, _, rfl, HImp.refl _ _, ⟨by omega, rfl, ht⟩, by omega⟩
  have p2 : (u ≤ xb) = True := eq_true c2
  rw [decide_eq_true c1, decide_eq_true c2, Bool.and_self, Bool.true_or] at ht
  rw [ht]
  refine ⟨?_⟩
  simp (config := { maxSteps := 4000000 }) only [↓sx0, ↓sx1, ↓sx2, ↓sx3, ↓sx4, ↓sx5, ↓sx6, sx0, sx1, sx2, sx3, sx4, sx5, sx6, tf63, ev3_hold, sxo, sxc, sxp, sxq, sxr, sxs, sxl, sxm, simprocAttr, e7]
  refine amid (at_f (o := 0) (hr _) spc_len hu rfl fun ad1 => ?_)
  simp (config := { maxSteps := 4000000 }) only [↓sx0, ↓sx1, ↓sx2, ↓sx3, ↓sx4, ↓sx5, ↓sx6, sx0, sx1, sx2, sx3, sx4, sx5, sx6, tf63, ev3_hold, sxo, sxc, sxp, sxq, sxr, sxs, sxl, sxm, simprocAttr, p1, e7]
  refine amid (at_f (o := 1) (hr _) spc_len hu rfl fun ad1 => ?_)
  simp (config := { maxSteps := 4000000 }) only [↓sx0, ↓sx1, ↓sx2, ↓sx3, ↓sx4, ↓sx5, ↓sx6, sx0, sx1, sx2, sx3, sx4, sx5, sx6, tf63, ev3_hold, sxo, sxc, sxp, sxq, sxr, sxs, sxl, sxm, simprocAttr, p2]
def tiredP (s : Stn) (h : Hnd) (l : List Spn) : Prop := ∃ x ∈ l, ∃ t : Int, (x.1 - s.window + 1 ≤ t ∧ t ≤ x.2) ∧ s.duty < wc (fun u => srv h.log u || srv l u) t s.window.toNat
open Classical in
theorem tired_fn (w : World) (v : Value) (s : Stn) (hs : StOk w v s) (hn : s.hands.length ≤ 100) (hW : 1 ≤ s.window ∧ s.window ≤ 100) (k : Nat) (h : Hnd) (hk : s.hands[k]? = some h) (hlog : h.log.length ≤ 1000) (vl : Value) (l : List Spn) (hl : Sl w vl 2 (cat spc l)) (hlb : spanB l ∧ l.length ≤ 1000) :
    SX.Fn Try.prog 44 [v, I k, vl] w (fun _ => False) fun r N => r = .bool (decide (tiredP s h l)) := by
  obtain ⟨hv, ps, rfl, hps, hsl, hlg⟩ := hs
  obtain ⟨a, n, c, rfl⟩ := hsl.shape
  have hl0 := hl
  obtain ⟨al, m, cl, rfl⟩ := hl.shape
  have hn' := hsl.le hdc_len (by omega)
  have hm := hl.le spc_len (by omega)
  subst hn' hm
  have hlen : s.hands.length = ps.length := by rw [← hps, List.length_map]
  have hr := hsl.rd0
  have hrl := hl.rd0
  obtain ⟨p, hp, hph⟩ : ∃ p, ps[k]? = some p ∧ p.1 = h := by
    rw [← hps, List.getElem?_map] at hk
    cases hq : ps[k]? with
    | none => rw [hq] at hk; cases hk
    | some p => rw [hq] at hk; exact ⟨p, rfl, by simpa using hk⟩
  have hkp := (List.getElem?_eq_some_iff.1 hp).1
  have hlo := hlg p (List.mem_of_getElem? hp)
  obtain ⟨h', ap, cp⟩ := p
  simp only at hph
  subst hph
  have hlo' : Sl w (.slice ap h'.log.length cp) 2 (cat spc h'.log) := hlo
  have hin1 := fun (H : List HO) w' (hp : Hp ⟨w, fun _ => False⟩ H w') u => in_fn w' _ h'.log (Sl.hp (w0 := ⟨w, fun _ => False⟩) hlo' (fun _ _ => id) hp) hlog u
  have hin2 := fun (H : List HO) w' (hp : Hp ⟨w, fun _ => False⟩ H w') u => in_fn w' _ l (Sl.hp (w0 := ⟨w, fun _ => False⟩) hl0 (fun _ _ => id) hp) hlb.2 u
  have e0 : ((k : Int) < (ps.length : Int)) = True := eq_true (by omega)
  obtain ⟨W, hWe⟩ : ∃ W : Nat, s.window = W := ⟨s.window.toNat, by omega⟩
  obtain ⟨D, hDe⟩ : ∃ D, s.duty = D := ⟨_, rfl⟩
  obtain ⟨P, hP⟩ : ∃ P : Int → Bool, P = fun u => srv h'.log u || srv l u := ⟨_, rfl⟩
  have hPu : ∀ u, P u = (srv h'.log u || srv l u) := fun u => by rw [hP]
  have hsv : tiredP s h' l ↔ ∃ x ∈ l, ∃ t : Int, (x.1 - W + 1 ≤ t ∧ t ≤ x.2) ∧ D < wc P t W := by
    unfold tiredP
    rw [hWe, hDe, ← hP, Int.toNat_natCast]
  have hno : (∀ x ∈ l, ∀ t : Int, x.1 - W + 1 ≤ t → t ≤ x.2 → (wc P t W : Int) ≤ D) → decide (tiredP s h' l) = false := fun h => decide_eq_false fun hq => by
    obtain ⟨x, hx, t, ⟨h1, h2⟩, h3⟩ := hsv.1 hq
    have := h x hx t h1 h2
    omega
  have hyes : ∀ x ∈ l, ∀ t : Int, x.1 - W + 1 ≤ t → t ≤ x.2 → D < wc P t W → decide (tiredP s h' l) = true := fun x hx t h1 h2 h3 => decide_eq_true (hsv.2 ⟨x, hx, t, ⟨h1, h2⟩, h3⟩)
  rw [hWe] at hW ⊢
  rw [hDe]
  clear hsv hP
  generalize hdec : decide (tiredP s h' l) = dec at hyes hno
  refine walk [] [] (det0_ok _ _) Try.func44 rfl Try.ntmps44 res44 (by kernel_rfl) no_facts ?_
  simp (config := { maxSteps := 4000000 }) only [↓sx0, ↓sx1, ↓sx2, ↓sx3, ↓sx4, ↓sx5, ↓sx6, sx0, sx1, sx2, sx3, sx4, sx5, sx6, tf44, ev3_hold, sxo, sxc, sxp, sxq, sxr, sxs, sxl, sxm, simprocAttr]
  refine loop_constH [] (HImp.nil _ _) [(6, 62)] (fun i : Nat => [(7, I i)]) (fun i H1 => i ≤ l.length ∧ ∀ x ∈ l.take i, ∀ t : Int, x.1 - W + 1 ≤ t → t ≤ x.2 → (wc P t W : Int) ≤ D) (fun i => l.length - i) 0 ?_ ⟨Nat.zero_le _, by simp⟩ ?_
  · simp (config := { maxSteps := 4000000 }) only [↓sx0, ↓sx1, ↓sx2, ↓sx3, ↓sx4, ↓sx5, ↓sx6, sx0, sx1, sx2, sx3, sx4, sx5, sx6, tf44, ev3_hold, sxo, sxc, sxp, sxq, sxr, sxs, sxl, sxm, simprocAttr]
    try simp
  rintro i H1 g1 ⟨hi, hall⟩
  by_cases hin : i = l.length
  · have e7 : ((i : Int) < (l.length : Int)) = False := eq_false (by omega)
    have hd := hno (by rwa [List.take_of_length_le (by omega)] at hall)
    rw [hd]
    refine ⟨?_⟩
    simp (config := { maxSteps := 4000000 }) only [↓sx0, ↓sx1, ↓sx2, ↓sx3, ↓sx4, ↓sx5, ↓sx6, sx0, sx1, sx2, sx3, sx4, sx5, sx6, tf44, ev3_hold, sxo, sxc, sxp, sxq, sxr, sxs, sxl, sxm, simprocAttr, e7]
  have e7 : ((i : Int) < (l.length : Int)) = True := eq_true (by omega)
  have e2 : wr (i + 1) = ((i + 1 : Nat) : Int) := (wrap_id (by omega)).trans (by omega)
  have hil : i < l.length := by omega
  have hu := List.getElem?_eq_getElem hil
  have hmem := List.getElem_mem hil
  have htk : l.take (i + 1) = l.take i ++ [l[i]] := (List.take_append_getElem hil).symm
  generalize l[i] = x at hu hmem htk
  obtain ⟨xa, xb⟩ := x
  have hx := hlb.1 _ hmem
  have hyx := hyes _ hmem
  simp only at hx hyx
  have f1 : wr (xa - W) = xa - W := wrap_id (by omega)
  have f2 : wr (xa - W + 1) = xa - W + 1 := wrap_id (by omega)
  refine ⟨?_⟩
  simp (config := { maxSteps := 4000000 }) only [↓sx0, ↓sx1, ↓sx2, ↓sx3, ↓sx4, ↓sx5, ↓sx6, sx0, sx1, sx2, sx3, sx4, sx5, sx6, tf44, ev3_hold, sxo, sxc, sxp, sxq, sxr, sxs, sxl, sxm, simprocAttr, e7]
  refine amid (at_f (o := 0) (hrl _) spc_len hu rfl fun ad1 => ?_)
  simp (config := { maxSteps := 4000000 }) only [↓sx0, ↓sx1, ↓sx2, ↓sx3, ↓sx4, ↓sx5, ↓sx6, sx0, sx1, sx2, sx3, sx4, sx5, sx6, tf44, ev3_hold, sxo, sxc, sxp, sxq, sxr, sxs, sxl, sxm, simprocAttr, f1, f2]
  refine loop_constH [] (HImp.nil _ _) [(6, 6), (8, 10), (26, 62)] (fun t : Int => [(8, I t)]) (fun t H1 => xa - W + 1 ≤ t ∧ (t ≤ xb + 1 ∨ t = xa - W + 1) ∧ ∀ t', xa - W + 1 ≤ t' → t' < t → (wc P t' W : Int) ≤ D) (fun t => (xb + 1 - t).toNat) (xa - W + 1) ?_ ⟨by omega, .inr rfl, fun t' h1 h2 => by omega⟩ ?_
  · simp (config := { maxSteps := 4000000 }) only [↓sx0, ↓sx1, ↓sx2, ↓sx3, ↓sx4, ↓sx5, ↓sx6, sx0, sx1, sx2, sx3, sx4, sx5, sx6, tf44, ev3_hold, sxo, sxc, sxp, sxq, sxr, sxs, sxl, sxm, simprocAttr]
    try simp
  rintro t H1 g2 ⟨ht1, ht2, hok⟩
  by_cases hend : t ≤ xb
  case neg =>
    have e9 : (t ≤ xb) = False := eq_false hend
    refine ⟨?_⟩
    simp (config := { maxSteps := 4000000 }) only [↓sx0, ↓sx1, ↓sx2, ↓sx3, ↓sx4, ↓sx5, ↓sx6, sx0, sx1, sx2, sx3, sx4, sx5, sx6, tf44, ev3_hold, sxo, sxc, sxp, sxq, sxr, sxs, sxl, sxm, simprocAttr, e7]
    refine amid (at_f (o := 1) (hrl _) spc_len hu rfl fun ad1 => ?_)
    simp (config := { maxSteps := 4000000 }) only [↓sx0, ↓sx1, ↓sx2, ↓sx3, ↓sx4, ↓sx5, ↓sx6, sx0, sx1, sx2, sx3, sx4, sx5, sx6, tf44, ev3_hold, sxo, sxc, sxp, sxq, sxr, sxs, sxl, sxm, simprocAttr, e9, e2]
    refine ⟨i + 1, _, rfl, HImp.refl _ _, ⟨by omega, fun x hx2 t' h1 h2 => ?_⟩, by omega⟩
    rw [htk] at hx2
    rcases List.mem_append.1 hx2 with h | h
    · exact hall x h t' h1 h2
    · rw [List.mem_singleton] at h
      subst h
      simp only at h1 h2
      exact hok t' h1 (by omega)
  have e9 : (t ≤ xb) = True := eq_true hend
  have f3 : wr (t + W) = t + W := wrap_id (by omega)
  have f6 : wr (t + 1) = t + 1 := wrap_id (by omega)
  obtain ⟨cn, hcn⟩ : ∃ cn : Nat → Nat, ∀ j, cn j = wc P t j := ⟨fun j => wc P t j, fun _ => rfl⟩
  have hc0 : ((cn 0 : Nat) : Int) = 0 := by rw [hcn]; rfl
  have hle := fun j => (hcn j) ▸ wc_le P t j
  have hst : ∀ j : Nat, cn (j + 1) = cn j + if P (t + j) then 1 else 0 := fun j => by rw [hcn, hcn]; rfl
  have hyt := hyx t ht1 hend
  rw [← hcn] at hyt
  refine ⟨?_⟩
  simp (config := { maxSteps := 4000000 }) only [↓sx0, ↓sx1, ↓sx2, ↓sx3, ↓sx4, ↓sx5, ↓sx6, sx0, sx1, sx2, sx3, sx4, sx5, sx6, tf44, ev3_hold, sxo, sxc, sxp, sxq, sxr, sxs, sxl, sxm, simprocAttr, e7]
  refine amid (at_f (o := 1) (hrl _) spc_len hu rfl fun ad1 => ?_)
  simp (config := { maxSteps := 4000000 }) only [↓sx0, ↓sx1, ↓sx2, ↓sx3, ↓sx4, ↓sx5, ↓sx6, sx0, sx1, sx2, sx3, sx4, sx5, sx6, tf44, ev3_hold, sxo, sxc, sxp, sxq, sxr, sxs, sxl, sxm, simprocAttr, e9]
  refine loop_constH [] (HImp.nil _ _) [(9, 10), (36, 58)] (fun j : Nat => [(9, I (cn j : Nat)), (10, I (t + j))]) (fun j H1 => j ≤ W) (fun j => W - j) 0 ?_ (Nat.zero_le _) ?_
  · simp (config := { maxSteps := 4000000 }) only [↓sx0, ↓sx1, ↓sx2, ↓sx3, ↓sx4, ↓sx5, ↓sx6, sx0, sx1, sx2, sx3, sx4, sx5, sx6, tf44, ev3_hold, sxo, sxc, sxp, sxq, sxr, sxs, sxl, sxm, simprocAttr, hc0]
    try simp
  rintro j H1 g3 hj
  by_cases hjn : j = W
  case neg =>
    have e10 : (t + (j : Int) < t + (W : Int)) = True := eq_true (by omega)
    have f4 : wr (t + j + 1) = t + ((j + 1 : Nat) : Int) := (wrap_id (by omega)).trans (by omega)
    have hlej := hle j
    have hstj := hst j
    have hPj := hPu (t + j)
    have f5 : wr (cn j + 1) = cn j + 1 := wrap_id (by omega)
    cases h1 : srv h'.log (t + j) with
    | true =>
      rw [h1, Bool.true_or] at hPj
      rw [hPj, if_pos rfl] at hstj
      refine ⟨?_⟩
      simp (config := { maxSteps := 4000000 }) only [↓sx0, ↓sx1, ↓sx2, ↓sx3, ↓sx4, ↓sx5, ↓sx6, sx0, sx1, sx2, sx3, sx4, sx5, sx6, tf44, ev3_hold, sxo, sxc, sxp, sxq, sxr, sxs, sxl, sxm, simprocAttr, f3, e10, e0]
      refine amid (at_f (o := 3) (hr _) hdc_len hp rfl fun ad => ?_)
      unfold lgv
      simp (config := { maxSteps := 4000000 }) only [↓sx0, ↓sx1, ↓sx2, ↓sx3, ↓sx4, ↓sx5, ↓sx6, sx0, sx1, sx2, sx3, sx4, sx5, sx6, tf44, ev3_hold, sxo, sxc, sxp, sxq, sxr, sxs, sxl, sxm, simprocAttr, det0]
      refine CallOb.pureH (fun w' hp' => hin1 _ w' hp' _) ?_
      rintro r N hr'
      rw [h1] at hr'
      subst hr'
      refine ⟨?_⟩
      simp (config := { maxSteps := 4000000 }) only [↓sx0, ↓sx1, ↓sx2, ↓sx3, ↓sx4, ↓sx5, ↓sx6, sx0, sx1, sx2, sx3, sx4, sx5, sx6, tf44, ev3_hold, sxo, sxc, sxp, sxq, sxr, sxs, sxl, sxm, simprocAttr, f4, f5]
      exact ⟨j + 1, _, by rw [hstj]; exact ⟨rfl, rfl⟩, HImp.refl _ _, by omega, by omega⟩
    | false =>
      rw [h1, Bool.false_or] at hPj
      rw [hPj] at hstj
      refine ⟨?_⟩
      simp (config := { maxSteps := 4000000 }) only [↓sx0, ↓sx1, ↓sx2, ↓sx3, ↓sx4, ↓sx5, ↓sx6, sx0, sx1, sx2, sx3, sx4, sx5, sx6, tf44, ev3_hold, sxo, sxc, sxp, sxq, sxr, sxs, sxl, sxm, simprocAttr, f3, e10, e0]
      refine amid (at_f (o := 3) (hr _) hdc_len hp rfl fun ad => ?_)
      unfold lgv
      simp (config := { maxSteps := 4000000 }) only [↓sx0, ↓sx1, ↓sx2, ↓sx3, ↓sx4, ↓sx5, ↓sx6, sx0, sx1, sx2, sx3, sx4, sx5, sx6, tf44, ev3_hold, sxo, sxc, sxp, sxq, sxr, sxs, sxl, sxm, simprocAttr, det0]
      refine CallOb.pureH (fun w' hp' => hin1 _ w' hp' _) ?_
      rintro r N hr'
      rw [h1] at hr'
      subst hr'
      refine ⟨?_⟩
      simp (config := { maxSteps := 4000000 }) only [↓sx0, ↓sx1, ↓sx2, ↓sx3, ↓sx4, ↓sx5, ↓sx6, sx0, sx1, sx2, sx3, sx4, sx5, sx6, tf44, ev3_hold, sxo, sxc, sxp, sxq, sxr, sxs, sxl, sxm, simprocAttr, det0]
      refine CallOb.pureH (fun w' hp' => hin2 _ w' hp' _) ?_
      cases h2 : srv l (t + j) with
      | true =>
        rw [h2, if_pos rfl] at hstj
        rintro r N hr'
        subst hr'
        refine ⟨?_⟩
        simp (config := { maxSteps := 4000000 }) only [↓sx0, ↓sx1, ↓sx2, ↓sx3, ↓sx4, ↓sx5, ↓sx6, sx0, sx1, sx2, sx3, sx4, sx5, sx6, tf44, ev3_hold, sxo, sxc, sxp, sxq, sxr, sxs, sxl, sxm, simprocAttr, f4, f5]
        exact ⟨j + 1, _, by rw [hstj]; exact ⟨rfl, rfl⟩, HImp.refl _ _, by omega, by omega⟩
      | false =>
        rw [h2] at hstj
        rintro r N hr'
        subst hr'
        refine ⟨?_⟩
        simp (config := { maxSteps := 4000000 }) only [↓sx0, ↓sx1, ↓sx2, ↓sx3, ↓sx4, ↓sx5, ↓sx6, sx0, sx1, sx2, sx3, sx4, sx5, sx6, tf44, ev3_hold, sxo, sxc, sxp, sxq, sxr, sxs, sxl, sxm, simprocAttr, f4, f5]
        exact ⟨j + 1, _, by rw [hstj]; exact ⟨rfl, rfl⟩, HImp.refl _ _, by omega, by omega⟩
  subst hjn
  have e10 : (t + (j : Int) < t + (j : Int)) = False := eq_false (by omega)
  by_cases hD : D < (cn j : Int)
  · have e14 : ((cn j : Int) > D) = True := eq_true hD
    rw [hyt hD]
    refine ⟨?_⟩
    simp (config := { maxSteps := 4000000 }) only [↓sx0, ↓sx1, ↓sx2, ↓sx3, ↓sx4, ↓sx5, ↓sx6, sx0, sx1, sx2, sx3, sx4, sx5, sx6, tf44, ev3_hold, sxo, sxc, sxp, sxq, sxr, sxs, sxl, sxm, simprocAttr, f3, e10, e14]
  have e14 : ((cn j : Int) > D) = False := eq_false hD
  refine ⟨?_⟩
  simp (config := { maxSteps := 4000000 }) only [↓sx0, ↓sx1, ↓sx2, ↓sx3, ↓sx4, ↓sx5, ↓sx6, sx0, sx1, sx2, sx3, sx4, sx5, sx6, tf44, ev3_hold, sxo, sxc, sxp, sxq, sxr, sxs, sxl, sxm, simprocAttr, f3, e10, e14, f6]
  refine ⟨t + 1, _, rfl, HImp.refl _ _, ⟨by omega, by omega, fun t' h1 h2 => ?_⟩, by omega⟩
  by_cases ht' : t' = t
  · subst ht'
    rw [← hcn]
    omega
  · exact hok t' h1 (by omega)
end Go.Proofs.Ytgpglmcbopfddaa

namespace Go.Proofs.Ytgpglmcbopfddaa
open Go.RowKit Go.SX
set_option maxRecDepth 10000
set_option maxHeartbeats 4000000
set_option linter.unusedSimpArgs false
set_option linter.unusedVariables false
def CpN (N : List HO) (v : Value) (s : Stn) : Prop := ∃ ao co ps, v = .agg #[.slice ao s.hands.length co, I s.window, I s.duty] ∧ ps.map Prod.fst = s.hands ∧ (ao = none → ps = []) ∧ ∃ DF, N = HO.row (.slice ao s.hands.length co) 44 5 (cat hdc ps) :: DF ∧ ∀ p ∈ ps, HO.row (lgv p) 41 2 (cat spc p.1.log) ∈ DF
theorem CpN.ok {N H : List HO} {w0 : Base} {w : World} {v : Value} {s : Stn} (h : CpN N v s) (hm : ∀ h ∈ N, h ∈ H) (hp : Hp w0 H w) : StOk w v s := by
  obtain ⟨ao, co, ps, rfl, h1, h2, DF, rfl, h4⟩ := h
  exact ⟨_, ps, rfl, h1, row_hp (hm _ List.mem_cons_self) hp, fun p hp' => row_hp (hm _ (List.mem_cons_of_mem _ (h4 p hp'))) hp⟩
end Go.Proofs.Ytgpglmcbopfddaa

namespace Go.Proofs.Ytgpglmcbopfddaa
open Go.RowKit Go.SX
set_option maxRecDepth 10000
set_option maxHeartbeats 4000000
set_option linter.unusedSimpArgs false
set_option linter.unusedVariables false
def bigB (s : Stn) : Bool := decide (12 < s.hands.length) || s.hands.any (fun h => decide (12 < h.log.length)) || (s.okB && (decide (6 < s.hands.length) || decide (20 < s.window)))
theorem bigB_false {s : Stn} (h : bigB s = false) : s.small ∧ s.hands.length ≤ 12 ∧ (s.okB = true → s.hands.length ≤ 6 ∧ s.window ≤ 20) := by
  unfold bigB at h
  simp only [Bool.or_eq_false_iff, Bool.and_eq_false_imp, decide_eq_false_iff_not, List.any_eq_false, decide_eq_true_eq] at h
  obtain ⟨⟨h1, h2⟩, h3⟩ := h
  refine ⟨⟨by omega, fun x hx => ?_⟩, by omega, fun hk => ?_⟩
  · have := h2 x hx
    omega
  · have := h3 hk
    omega
theorem big_fn (w : World) (v : Value) (s : Stn) (hs : StOk w v s) : SX.Fn Try.prog 7 [v] w (fun _ => False) fun r N => r = .bool (bigB s) := by
  have hs0 := hs
  obtain ⟨hv, ps, rfl, hps, hsl, hlg⟩ := hs
  obtain ⟨a, n, c, rfl⟩ := hsl.shape
  have hn := hsl.le hdc_len (by omega)
  have hlen : s.hands.length = ps.length := by rw [← hps, List.length_map]
  subst hn
  have hr := hsl.rd0
  by_cases h12 : 12 < ps.length
  · have e0 : ((ps.length : Int) > 12) = True := eq_true (by omega)
    have hb : bigB s = true := by
      unfold bigB
      rw [decide_eq_true (by omega : 12 < s.hands.length), Bool.true_or, Bool.true_or]
    rw [hb]
    refine walk [] [] (det0_ok _ _) Try.func7 rfl Try.ntmps7 res7 (by kernel_rfl) no_facts ?_
    simp (config := { maxSteps := 4000000 }) only [↓sx0, ↓sx1, ↓sx2, ↓sx3, ↓sx4, ↓sx5, ↓sx6, sx0, sx1, sx2, sx3, sx4, sx5, sx6, tf7, ev3_hold, sxo, sxc, sxp, sxq, sxr, sxs, sxl, sxm, simprocAttr, e0]
  have e0 : ((ps.length : Int) > 12) = False := eq_false (by omega)
  have hyes : ∀ p ∈ ps, 12 < p.1.log.length → bigB s = true := fun p hp h => by
    unfold bigB
    rw [(List.any_eq_true (p := fun h : Hnd => decide (12 < h.log.length)) (l := s.hands)).2 ⟨p.1, by rw [← hps]; exact List.mem_map_of_mem hp, decide_eq_true h⟩, Bool.or_true, Bool.true_or]
  have hno : (∀ p ∈ ps, ¬ 12 < p.1.log.length) → bigB s = (s.okB && (decide (6 < s.hands.length) || decide (20 < s.window))) ∧ s.small := fun h => by
    have h1 : s.hands.any (fun h : Hnd => decide (12 < h.log.length)) = false := by
      rw [List.any_eq_false]
      intro x hx
      rw [← hps] at hx
      obtain ⟨p, hp, rfl⟩ := List.mem_map.1 hx
      have := h p hp
      simpa using this
    refine ⟨?_, by omega, fun x hx => ?_⟩
    · unfold bigB
      rw [h1, decide_eq_false (by omega), Bool.or_self, Bool.false_or]
    · rw [← hps] at hx
      obtain ⟨p, hp, rfl⟩ := List.mem_map.1 hx
      have := h p hp
      omega
  generalize hB : bigB s = B at hyes hno
  refine walk [] [] (det0_ok _ _) Try.func7 rfl Try.ntmps7 res7 (by kernel_rfl) no_facts ?_
  simp (config := { maxSteps := 4000000 }) only [↓sx0, ↓sx1, ↓sx2, ↓sx3, ↓sx4, ↓sx5, ↓sx6, sx0, sx1, sx2, sx3, sx4, sx5, sx6, tf7, ev3_hold, sxo, sxc, sxp, sxq, sxr, sxs, sxl, sxm, simprocAttr, e0]
  refine loop_constH [] (HImp.nil _ _) [(2, 3), (8, 22)] (fun i : Nat => [(2, .bool false), (3, I i)]) (fun i H1 => i ≤ ps.length ∧ ∀ p ∈ ps.take i, ¬ 12 < p.1.log.length) (fun i => ps.length - i) 0 ?_ ⟨Nat.zero_le _, by simp⟩ ?_
  · simp (config := { maxSteps := 4000000 }) only [↓sx0, ↓sx1, ↓sx2, ↓sx3, ↓sx4, ↓sx5, ↓sx6, sx0, sx1, sx2, sx3, sx4, sx5, sx6, tf7, ev3_hold, sxo, sxc, sxp, sxq, sxr, sxs, sxl, sxm, simprocAttr]
    try simp
  rintro i H1 g1 hinv
  have hi := hinv.1
  have hall := hinv.2
  by_cases hin : i = ps.length
  · have e7 : ((i : Int) < (ps.length : Int)) = False := eq_false (by omega)
    have hq := hno (by rwa [List.take_of_length_le (by omega)] at hall)
    refine ⟨?_⟩
    simp (config := { maxSteps := 4000000 }) only [↓sx0, ↓sx1, ↓sx2, ↓sx3, ↓sx4, ↓sx5, ↓sx6, sx0, sx1, sx2, sx3, sx4, sx5, sx6, tf7, ev3_hold, sxo, sxc, sxp, sxq, sxr, sxs, sxl, sxm, simprocAttr, e7, det0]
    refine CallOb.pureH (fun w' hp' => rcheck_fn w' _ s (hs0.hp hp') hq.2) ?_
    rintro r N rfl
    cases hok : s.okB with
    | false =>
      rw [hok, Bool.false_and] at hq
      rw [hq.1]
      refine ⟨?_⟩
      simp (config := { maxSteps := 4000000 }) only [↓sx0, ↓sx1, ↓sx2, ↓sx3, ↓sx4, ↓sx5, ↓sx6, sx0, sx1, sx2, sx3, sx4, sx5, sx6, tf7, ev3_hold, sxo, sxc, sxp, sxq, sxr, sxs, sxl, sxm, simprocAttr]
    | true =>
      rw [hok, Bool.true_and] at hq
      by_cases c1 : 6 < s.hands.length
      · have p1 : ((ps.length : Int) > 6) = True := eq_true (by omega)
        rw [decide_eq_true c1, Bool.true_or] at hq
        rw [hq.1]
        refine ⟨?_⟩
        simp (config := { maxSteps := 4000000 }) only [↓sx0, ↓sx1, ↓sx2, ↓sx3, ↓sx4, ↓sx5, ↓sx6, sx0, sx1, sx2, sx3, sx4, sx5, sx6, tf7, ev3_hold, sxo, sxc, sxp, sxq, sxr, sxs, sxl, sxm, simprocAttr, p1]
      · have p1 : ((ps.length : Int) > 6) = False := eq_false (by omega)
        rw [decide_eq_false c1, Bool.false_or] at hq
        by_cases c2 : 20 < s.window
        · have p2 : (s.window > 20) = True := eq_true c2
          rw [decide_eq_true c2] at hq
          rw [hq.1]
          refine ⟨?_⟩
          simp (config := { maxSteps := 4000000 }) only [↓sx0, ↓sx1, ↓sx2, ↓sx3, ↓sx4, ↓sx5, ↓sx6, sx0, sx1, sx2, sx3, sx4, sx5, sx6, tf7, ev3_hold, sxo, sxc, sxp, sxq, sxr, sxs, sxl, sxm, simprocAttr, p1, p2]
        · have p2 : (s.window > 20) = False := eq_false c2
          rw [decide_eq_false c2] at hq
          rw [hq.1]
          refine ⟨?_⟩
          simp (config := { maxSteps := 4000000 }) only [↓sx0, ↓sx1, ↓sx2, ↓sx3, ↓sx4, ↓sx5, ↓sx6, sx0, sx1, sx2, sx3, sx4, sx5, sx6, tf7, ev3_hold, sxo, sxc, sxp, sxq, sxr, sxs, sxl, sxm, simprocAttr, p1, p2]
  have e7 : ((i : Int) < (ps.length : Int)) = True := eq_true (by omega)
  have e2 : wr (i + 1) = ((i + 1 : Nat) : Int) := (wrap_id (by omega)).trans (by omega)
  have hil : i < ps.length := by omega
  have hu := List.getElem?_eq_getElem hil
  have hmem := List.getElem_mem hil
  have htk : ps.take (i + 1) = ps.take i ++ [ps[i]] := (List.take_append_getElem hil).symm
  generalize ps[i] = p at hu hmem htk
  have hyp := hyes p hmem
  by_cases c1 : 12 < p.1.log.length
  · have p1 : ((p.1.log.length : Int) > 12) = True := eq_true (by omega)
    rw [hyp c1]
    refine ⟨?_⟩
    simp (config := { maxSteps := 4000000 }) only [↓sx0, ↓sx1, ↓sx2, ↓sx3, ↓sx4, ↓sx5, ↓sx6, sx0, sx1, sx2, sx3, sx4, sx5, sx6, tf7, ev3_hold, sxo, sxc, sxp, sxq, sxr, sxs, sxl, sxm, simprocAttr, e7]
    refine amid (at_f (o := 3) (hr _) hdc_len hu rfl fun ad => ?_)
    unfold lgv
    simp (config := { maxSteps := 4000000 }) only [↓sx0, ↓sx1, ↓sx2, ↓sx3, ↓sx4, ↓sx5, ↓sx6, sx0, sx1, sx2, sx3, sx4, sx5, sx6, tf7, ev3_hold, sxo, sxc, sxp, sxq, sxr, sxs, sxl, sxm, simprocAttr, p1]
  have p1 : ((p.1.log.length : Int) > 12) = False := eq_false (by omega)
  refine ⟨?_⟩
  simp (config := { maxSteps := 4000000 }) only [↓sx0, ↓sx1, ↓sx2, ↓sx3, ↓sx4, ↓sx5, ↓sx6, sx0, sx1, sx2, sx3, sx4, sx5, sx6, tf7, ev3_hold, sxo, sxc, sxp, sxq, sxr, sxs, sxl, sxm, simprocAttr, e7]
  refine amid (at_f (o := 3) (hr _) hdc_len hu rfl fun ad => ?_)
  unfold lgv
  simp (config := { maxSteps := 4000000 }) only [↓sx0, ↓sx1, ↓sx2, ↓sx3, ↓sx4, ↓sx5, ↓sx6, sx0, sx1, sx2, sx3, sx4, sx5, sx6, tf7, ev3_hold, sxo, sxc, sxp, sxq, sxr, sxs, sxl, sxm, simprocAttr, p1, e2]
  refine ⟨i + 1, _, rfl, HImp.refl _ _, ⟨by omega, fun x hx => ?_⟩, by omega⟩
  rw [htk] at hx
  rcases List.mem_append.1 hx with h | h
  · exact hall x h
  · rw [List.mem_singleton] at h
    subst h
    exact c1
end Go.Proofs.Ytgpglmcbopfddaa

