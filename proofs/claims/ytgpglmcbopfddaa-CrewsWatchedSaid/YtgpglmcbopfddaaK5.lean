/- Parts of a proof: the symbolic walk and what it shows of single functions. -/
import Derived.Test.YtgpglmcbopfddaaK4
import Derived.Test.YtgpglmcbopfddaaK3
import Derived.Test.YtgpglmcbopfddaaK2
set_option linter.all false
namespace Go.Proofs.Ytgpglmcbopfddaa
open Go.RowKit Go.SX
set_option maxRecDepth 10000
set_option maxHeartbeats 4000000
set_option linter.unusedSimpArgs false
set_option linter.unusedVariables false
theorem tired_serv {s : Stn} {h : Hnd} {l : List Spn} (hW : 1 ≤ s.window ∧ s.window ≤ 100) (hlog : logdB h.log = true) (hn : newOk l) : tiredP s h l ↔ ¬ servP s h l := by
  unfold logdB at hlog
  rw [Bool.and_eq_true] at hlog
  have hmem := logB_mem hlog.1
  have hdl := logB_disj hlog.1
  have hcount : ∀ t, (wc (fun u => srv h.log u || srv l u) t s.window.toNat : Int) = comL (t, t + s.window - 1) h.log + comL (t, t + s.window - 1) l := fun t => by
    rw [wc_or _ _ (fun u h1 h2 => ?_), Int.natCast_add, wc_srv hdl, wc_srv hn.1, show (s.window.toNat : Int) = s.window by omega]
    obtain ⟨x, hx, hxu⟩ := srv_mem.1 h1
    obtain ⟨y, hy, hyu⟩ := srv_mem.1 h2
    have := hmem x hx
    have := hn.2 y hy
    rw [inS_iff] at hxu hyu
    omega
  constructor
  · rintro ⟨x, hx, t, ⟨h1, h2⟩, h3⟩ hs
    rw [hcount] at h3
    have := hs x hx t h1 h2
    omega
  · intro hs
    refine Classical.byContradiction fun hc => hs fun x hx t h1 h2 => ?_
    refine Classical.byContradiction fun hlt => hc ⟨x, hx, t, ⟨h1, h2⟩, ?_⟩
    rw [hcount]
    omega
end Go.Proofs.Ytgpglmcbopfddaa

namespace Go.Proofs.Ytgpglmcbopfddaa
open Go.RowKit Go.SX
set_option maxRecDepth 10000
set_option maxHeartbeats 4000000
set_option linter.unusedSimpArgs false
set_option linter.unusedVariables false
abbrev Lm := List Int × Option Addr × Nat
def lmv (p : Lm) : Value := .slice p.2.1 p.1.length p.2.2
def lmc (p : Lm) : List Value := [lmv p]
theorem lmc_len (p : Lm) : (lmc p).length = 1 := rfl
def LlOk (w : World) (v : Value) (cs : List (List Int)) : Prop := ∃ ps : List Lm, ps.map Prod.fst = cs ∧ Sl w v 1 (cat lmc ps) ∧ ∀ p ∈ ps, Sl w (lmv p) 1 (ints p.1)
theorem LlOk.hp {w0 : World} {H : List HO} {v : Value} {cs : List (List Int)} (h : LlOk w0 v cs) {w : World} (hp : Hp ⟨w0, fun _ => False⟩ H w) : LlOk w v cs := by
  obtain ⟨ps, h1, h2, h3⟩ := h
  exact ⟨ps, h1, Sl.hp (w0 := ⟨w0, fun _ => False⟩) h2 (fun _ _ => id) hp, fun p hm => Sl.hp (w0 := ⟨w0, fun _ => False⟩) (h3 p hm) (fun _ _ => id) hp⟩
end Go.Proofs.Ytgpglmcbopfddaa

namespace Go.Proofs.Ytgpglmcbopfddaa
open Go.RowKit Go.SX
set_option maxRecDepth 10000
set_option maxHeartbeats 4000000
set_option linter.unusedSimpArgs false
set_option linter.unusedVariables false
theorem rseats_fn (w : World) (v : Value) (l : List Int) (hs : Sl w v 1 (ints l)) : SX.Fn Try.prog 37 [v] w (fun _ => False) fun r N => r = I (seatE l) := by
  obtain ⟨a, n, c, rfl⟩ := hs.shape
  have hn := hs.le i1_len (by omega)
  subst hn
  have hr := hs.rd0
  unfold seatE
  by_cases h5 : l.length > 5
  · have e0 : ((l.length : Int) > 5) = True := eq_true (by omega)
    rw [if_pos h5]
    refine walk [] [] (detB_ok _ _) Try.func37 rfl Try.ntmps37 res37 (by kernel_rfl) no_facts ?_
    simp (config := { maxSteps := 4000000 }) only [↓sx0, ↓sx1, ↓sx2, ↓sx3, ↓sx4, ↓sx5, ↓sx6, sx0, sx1, sx2, sx3, sx4, sx5, sx6, tf37, ev3_hold, sxo, sxc, sxp, sxq, sxr, sxs, sxl, sxm, simprocAttr, e0]
  have e0 : ((l.length : Int) > 5) = False := eq_false (by omega)
  rw [if_neg h5]
  refine walk [] [] (detB_ok _ _) Try.func37 rfl Try.ntmps37 res37 (by kernel_rfl) no_facts ?_
  simp (config := { maxSteps := 4000000 }) only [↓sx0, ↓sx1, ↓sx2, ↓sx3, ↓sx4, ↓sx5, ↓sx6, sx0, sx1, sx2, sx3, sx4, sx5, sx6, tf37, ev3_hold, sxo, sxc, sxp, sxq, sxr, sxs, sxl, sxm, simprocAttr, e0]
  refine loop_constH [] (HImp.nil _ _) [(2, 3), (7, 18)] (fun i : Nat => [(2, I 0), (3, I i)]) (fun i H1 => i ≤ l.length ∧ l.any (fun n => !inB n 0 255) = (l.drop i).any (fun n => !inB n 0 255)) (fun i => l.length - i) 0 ?_ ⟨Nat.zero_le _, rfl⟩ ?_
  · simp (config := { maxSteps := 4000000 }) only [↓sx0, ↓sx1, ↓sx2, ↓sx3, ↓sx4, ↓sx5, ↓sx6, sx0, sx1, sx2, sx3, sx4, sx5, sx6, tf37, ev3_hold, sxo, sxc, sxp, sxq, sxr, sxs, sxl, sxm, simprocAttr]
    try simp
  rintro i H1 g1 ⟨hi, hinv⟩
  by_cases hin : i = l.length
  · have e7 : ((i : Int) < (l.length : Int)) = False := eq_false (by omega)
    rw [List.drop_of_length_le (by omega), List.any_nil] at hinv
    rw [hinv]
    refine ⟨?_⟩
    simp (config := { maxSteps := 4000000 }) only [↓sx0, ↓sx1, ↓sx2, ↓sx3, ↓sx4, ↓sx5, ↓sx6, sx0, sx1, sx2, sx3, sx4, sx5, sx6, tf37, ev3_hold, sxo, sxc, sxp, sxq, sxr, sxs, sxl, sxm, simprocAttr, e7]
  have e7 : ((i : Int) < (l.length : Int)) = True := eq_true (by omega)
  have e2 : wr (i + 1) = ((i + 1 : Nat) : Int) := (wrap_id (by omega)).trans (by omega)
  have hil : i < l.length := by omega
  have hu := List.getElem?_eq_getElem hil
  rw [List.drop_eq_getElem_cons hil, List.any_cons] at hinv
  generalize l[i] = y at hu hinv
  cases hy : inB y 0 255 with
  | false =>
    rw [hy, Bool.not_false, Bool.true_or] at hinv
    rw [hinv]
    refine ⟨?_⟩
    simp (config := { maxSteps := 4000000 }) only [↓sx0, ↓sx1, ↓sx2, ↓sx3, ↓sx4, ↓sx5, ↓sx6, sx0, sx1, sx2, sx3, sx4, sx5, sx6, tf37, ev3_hold, sxo, sxc, sxp, sxq, sxr, sxs, sxl, sxm, simprocAttr, e7]
    refine amid (at_1 (hr _) i1_len hu rfl fun ad1 => ?_)
    simp (config := { maxSteps := 4000000 }) only [↓sx0, ↓sx1, ↓sx2, ↓sx3, ↓sx4, ↓sx5, ↓sx6, sx0, sx1, sx2, sx3, sx4, sx5, sx6, tf37, ev3_hold, sxo, sxc, sxp, sxq, sxr, sxs, sxl, sxm, simprocAttr, detB_eq, hy]
  | true =>
    rw [hy, Bool.not_true, Bool.false_or] at hinv
    refine ⟨?_⟩
    simp (config := { maxSteps := 4000000 }) only [↓sx0, ↓sx1, ↓sx2, ↓sx3, ↓sx4, ↓sx5, ↓sx6, sx0, sx1, sx2, sx3, sx4, sx5, sx6, tf37, ev3_hold, sxo, sxc, sxp, sxq, sxr, sxs, sxl, sxm, simprocAttr, e7]
    refine amid (at_1 (hr _) i1_len hu rfl fun ad1 => ?_)
    simp (config := { maxSteps := 4000000 }) only [↓sx0, ↓sx1, ↓sx2, ↓sx3, ↓sx4, ↓sx5, ↓sx6, sx0, sx1, sx2, sx3, sx4, sx5, sx6, tf37, ev3_hold, sxo, sxc, sxp, sxq, sxr, sxs, sxl, sxm, simprocAttr, detB_eq, hy, e2]
    exact ⟨i + 1, _, rfl, HImp.refl _ _, ⟨by omega, hinv⟩, by omega⟩
end Go.Proofs.Ytgpglmcbopfddaa

