/- Parts of a proof: the symbolic walk and what it shows of single functions. -/
import Derived.Test.YtgpglmcbopfddaaK4
import Derived.Test.YtgpglmcbopfddaaK3
import Derived.Test.YtgpglmcbopfddaaK2
set_option linter.all false
namespace Go.Proofs.Ytgpglmcbopfddaa
open Go.RowKit Go.SX
set_option maxRecDepth 10000
set_option maxHeartbeats 4000000
set_option linter.unusedSimpArgs false
set_option linter.unusedVariables false
theorem has_fn (w : World) (v : Value) (l : List Int) (hs : Sl w v 1 (ints l)) (hb : l.length ≤ 1000000) (x : Int) : SX.Fn Try.prog 38 [v, I x] w (fun _ => False) fun r N => r = .bool (decide (x ∈ l)) := by
  obtain ⟨a, n, c, rfl⟩ := hs.shape
  have hn := hs.le i1_len (by omega)
  subst hn
  have hr := hs.rd0
  refine walk [] [] (det0_ok _ _) Try.func38 rfl Try.ntmps38 res38 (by kernel_rfl) no_facts ?_
  simp (config := { maxSteps := 4000000 }) only [↓sx0, ↓sx1, ↓sx2, ↓sx3, ↓sx4, ↓sx5, ↓sx6, sx0, sx1, sx2, sx3, sx4, sx5, sx6, tf38, ev3_hold, sxo, sxc, sxp, sxq, sxr, sxs, sxl, sxm, simprocAttr]
  refine loop_constH [] (HImp.nil _ _) [(4, 17)] (fun i : Nat => [(5, I i)]) (fun i H1 => i ≤ l.length ∧ (x ∈ l ↔ x ∈ l.drop i)) (fun i => l.length - i) 0 ?_ ⟨Nat.zero_le _, Iff.rfl⟩ ?_
  · simp (config := { maxSteps := 4000000 }) only [↓sx0, ↓sx1, ↓sx2, ↓sx3, ↓sx4, ↓sx5, ↓sx6, sx0, sx1, sx2, sx3, sx4, sx5, sx6, tf38, ev3_hold, sxo, sxc, sxp, sxq, sxr, sxs, sxl, sxm, simprocAttr]
    try simp
  rintro i H1 g1 ⟨hi, ht⟩
  by_cases hin : i = l.length
  · have e7 : ((i : Int) < (l.length : Int)) = False := eq_false (by omega)
    rw [List.drop_of_length_le (by omega)] at ht
    rw [decide_eq_false fun h => by cases ht.1 h]
    refine ⟨?_⟩
    simp (config := { maxSteps := 4000000 }) only [↓sx0, ↓sx1, ↓sx2, ↓sx3, ↓sx4, ↓sx5, ↓sx6, sx0, sx1, sx2, sx3, sx4, sx5, sx6, tf38, ev3_hold, sxo, sxc, sxp, sxq, sxr, sxs, sxl, sxm, simprocAttr, e7]
  have e7 : ((i : Int) < (l.length : Int)) = True := eq_true (by omega)
  have e2 : wr (i + 1) = ((i + 1 : Nat) : Int) := (wrap_id (by omega)).trans (by omega)
  have hil : i < l.length := by omega
  have hu := List.getElem?_eq_getElem hil
  rw [List.drop_eq_getElem_cons hil, List.mem_cons] at ht
  generalize l[i] = y at hu ht
  by_cases c1 : y = x
  · have p1 : (y = x) = True := eq_true c1
    rw [decide_eq_true (ht.2 (.inl c1.symm))]
    refine ⟨?_⟩
    simp (config := { maxSteps := 4000000 }) only [↓sx0, ↓sx1, ↓sx2, ↓sx3, ↓sx4, ↓sx5, ↓sx6, sx0, sx1, sx2, sx3, sx4, sx5, sx6, tf38, ev3_hold, sxo, sxc, sxp, sxq, sxr, sxs, sxl, sxm, simprocAttr, e7]
    refine amid (at_1 (hr _) i1_len hu rfl fun ad1 => ?_)
    simp (config := { maxSteps := 4000000 }) only [↓sx0, ↓sx1, ↓sx2, ↓sx3, ↓sx4, ↓sx5, ↓sx6, sx0, sx1, sx2, sx3, sx4, sx5, sx6, tf38, ev3_hold, sxo, sxc, sxp, sxq, sxr, sxs, sxl, sxm, simprocAttr, p1]
  have p1 : (y = x) = False := eq_false c1
  refine ⟨?_⟩
  simp (config := { maxSteps := 4000000 }) only [↓sx0, ↓sx1, ↓sx2, ↓sx3, ↓sx4, ↓sx5, ↓sx6, sx0, sx1, sx2, sx3, sx4, sx5, sx6, tf38, ev3_hold, sxo, sxc, sxp, sxq, sxr, sxs, sxl, sxm, simprocAttr, e7]
  refine amid (at_1 (hr _) i1_len hu rfl fun ad1 => ?_)
  simp (config := { maxSteps := 4000000 }) only [↓sx0, ↓sx1, ↓sx2, ↓sx3, ↓sx4, ↓sx5, ↓sx6, sx0, sx1, sx2, sx3, sx4, sx5, sx6, tf38, ev3_hold, sxo, sxc, sxp, sxq, sxr, sxs, sxl, sxm, simprocAttr, p1, e2]
  exact ⟨i + 1, _, rfl, HImp.refl _ _, ⟨by omega, ht.trans ⟨fun h => h.resolve_left fun e => c1 e.symm, .inr⟩⟩, by omega⟩
abbrev Lm := List Int × Option Addr × Nat
def lmv (p : Lm) : Value := .slice p.2.1 p.1.length p.2.2
def lmc (p : Lm) : List Value := [lmv p]
theorem lmc_len (p : Lm) : (lmc p).length = 1 := rfl
theorem lmc_one (p : Lm) : ∀ y ∈ lmc p, y.oneCell' = true := by simp [lmc, lmv, Value.oneCell']
def LlOk (w : World) (v : Value) (cs : List (List Int)) : Prop := ∃ ps : List Lm, ps.map Prod.fst = cs ∧ Sl w v 1 (cat lmc ps) ∧ ∀ p ∈ ps, Sl w (lmv p) 1 (ints p.1)
theorem LlOk.hp {w0 : World} {H : List HO} {v : Value} {cs : List (List Int)} (h : LlOk w0 v cs) {w : World} (hp : Hp ⟨w0, fun _ => False⟩ H w) : LlOk w v cs := by
  obtain ⟨ps, h1, h2, h3⟩ := h
  exact ⟨ps, h1, Sl.hp (w0 := ⟨w0, fun _ => False⟩) h2 (fun _ _ => id) hp, fun p hm => Sl.hp (w0 := ⟨w0, fun _ => False⟩) (h3 p hm) (fun _ _ => id) hp⟩
def fillR (cs : List (List Int)) : Nat → List Int → Option (List Int)
  | 0, who => some who
  | r + 1, who => (cs.getD who.length []).findSome? fun x => if x ∈ who then none else fillR cs r (who ++ [x])
theorem filled_fn (cs : List (List Int)) (hc5 : cs.length ≤ 1000) (hcb : ∀ c ∈ cs, c.length ≤ 1000) : ∀ (r : Nat) (w : World) (vc vw : Value) (hvc : LlOk w vc cs) (who : List Int) (hvw : Sl w vw 1 (ints who)) (hwl : who.length + r = cs.length),
    SX.Fn Try.prog 56 [vc, vw] w (fun _ => False) (SeatP vw who (fillR cs r who)) := by
  intro r
  induction r with
  | zero =>
    intro w vc vw hvc who hvw hwl
    obtain ⟨ps, hps, hsl, hlg⟩ := hvc
    have hlen : cs.length = ps.length := by rw [← hps, List.length_map]
    obtain ⟨a, n, c, rfl⟩ := hsl.shape
    obtain ⟨aw, nw, cw, rfl⟩ := hvw.shape
    have hns := hsl.le lmc_len (by omega)
    have hnw := hvw.le i1_len (by omega)
    subst hns hnw
    have e1 : ((who.length : Int) = (ps.length : Int)) = True := eq_true (by omega)
    refine walk [] [(8, (ones [0, 2, 4, 5, 6] (.ld 7 (.pre 1 (.pre 8 (ones [1] (.kl 3 (ones [8] (.kl 9 (ones [10, 11, 12, 13, 14, 15] .fin))))))))))] (det0_ok _ _) Try.func56 rfl Try.ntmps56 res56 (by kernel_rfl) no_facts ?_
    simp (config := { maxSteps := 4000000 }) only [↓sx0, ↓sx1, ↓sx2, ↓sx3, ↓sx4, ↓sx5, ↓sx6, sx0, sx1, sx2, sx3, sx4, sx5, sx6, tf56, ev3_hold, sxo, sxc, sxp, sxq, sxr, sxs, sxl, sxm, simprocAttr, e1]
    exact .inr ⟨who, _, rfl, rfl, .inl ⟨rfl, rfl⟩⟩
  | succ r ih =>
  intro w vc vw hvc who hvw hwl
  have hvc0 := hvc
  have hvw0 := hvw
  obtain ⟨ps, hps, hsl, hlg⟩ := hvc
  have hlen : cs.length = ps.length := by rw [← hps, List.length_map]
  obtain ⟨a, n, c, rfl⟩ := hsl.shape
  obtain ⟨aw, nw, cw, rfl⟩ := hvw.shape
  have hns := hsl.le lmc_len (by omega)
  have hnw := hvw.le i1_len (by omega)
  subst hns hnw
  have hr := hsl.rd0
  have e1 : ((who.length : Int) = (ps.length : Int)) = False := eq_false (by omega)
  have hkl : who.length < ps.length := by omega
  have hu := List.getElem?_eq_getElem hkl
  have hm := List.getElem_mem hkl
  have hck : cs.getD who.length [] = (ps[who.length]).1 := by
    rw [← hps, List.getD_eq_getElem?_getD, List.getElem?_map, hu]
    try rfl
  generalize ps[who.length] = p at hu hm hck
  have hlp := hlg p hm
  have hlb : p.1.length ≤ 1000 := hcb _ (by rw [← hps]; exact List.mem_map_of_mem hm)
  obtain ⟨l, al, cl⟩ := p
  simp only at hck hlb
  have hlp' : Sl w (.slice al l.length cl) 1 (ints l) := hlp
  have hrl := hlp'.rd0
  have hF : fillR cs (r + 1) who = l.findSome? fun x => if x ∈ who then none else fillR cs r (who ++ [x]) := by
    rw [fillR, hck]
  generalize hG : (fun x : Int => if x ∈ who then none else fillR cs r (who ++ [x])) = G at hF
  have hGe : ∀ x : Int, G x = if x ∈ who then none else fillR cs r (who ++ [x]) := fun x => by rw [← hG]
  have hcon := fun (H : List HO) w' (hp : Hp ⟨w, fun _ => False⟩ H w') (x : Int) => has_fn w' _ who (hvw0.hp (fun _ _ => id) hp) (by omega) x
  refine walk [] [(8, (ones [0, 2, 4, 5, 6] (.ld 7 (.pre 1 (.pre 8 (ones [1] (.kl 3 (ones [8] (.kl 9 (ones [10, 11, 12, 13, 14, 15] .fin))))))))))] (det0_ok _ _) Try.func56 rfl Try.ntmps56 res56 (by kernel_rfl) no_facts ?_
  simp (config := { maxSteps := 4000000 }) only [↓sx0, ↓sx1, ↓sx2, ↓sx3, ↓sx4, ↓sx5, ↓sx6, sx0, sx1, sx2, sx3, sx4, sx5, sx6, tf56, ev3_hold, sxo, sxc, sxp, sxq, sxr, sxs, sxl, sxm, simprocAttr, e1]
  refine at_1 (hr _) lmc_len hu rfl fun ad => ?_
  unfold lmv
  simp (config := { maxSteps := 4000000 }) only [↓sx0, ↓sx1, ↓sx2, ↓sx3, ↓sx4, ↓sx5, ↓sx6, sx0, sx1, sx2, sx3, sx4, sx5, sx6, tf56, ev3_hold, sxo, sxc, sxp, sxq, sxr, sxs, sxl, sxm, simprocAttr]
  refine loop_constH [] (HImp.nil _ _) [(4, 5), (7, 9), (21, 48)] (fun i : Nat => [(7, I i)]) (fun i H1 => i ≤ l.length ∧ H1 = [] ∧ fillR cs (r + 1) who = (l.drop i).findSome? G) (fun i => l.length - i) 0 ?_ ⟨Nat.zero_le _, rfl, hF⟩ ?_
  · simp (config := { maxSteps := 4000000 }) only [↓sx0, ↓sx1, ↓sx2, ↓sx3, ↓sx4, ↓sx5, ↓sx6, sx0, sx1, sx2, sx3, sx4, sx5, sx6, tf56, ev3_hold, sxo, sxc, sxp, sxq, sxr, sxs, sxl, sxm, simprocAttr]
    try simp
  rintro i H1 g1 ⟨hi, rfl, hinv⟩
  by_cases hin : i = l.length
  · have e7 : ((i : Int) < (l.length : Int)) = False := eq_false (by omega)
    rw [List.drop_of_length_le (by omega)] at hinv
    rw [hinv]
    refine ⟨?_⟩
    simp (config := { maxSteps := 4000000 }) only [↓sx0, ↓sx1, ↓sx2, ↓sx3, ↓sx4, ↓sx5, ↓sx6, sx0, sx1, sx2, sx3, sx4, sx5, sx6, tf56, ev3_hold, sxo, sxc, sxp, sxq, sxr, sxs, sxl, sxm, simprocAttr, e7]
    exact .inl ⟨rfl, rfl⟩
  have e7 : ((i : Int) < (l.length : Int)) = True := eq_true (by omega)
  have e8 : wr (i + 1) = ((i + 1 : Nat) : Int) := (wrap_id (by omega)).trans (by omega)
  have hil : i < l.length := by omega
  have hx := List.getElem?_eq_getElem hil
  generalize l[i] = x at hx
  have hgi := hGe x
  have hco := fun (H : List HO) w' hp => hcon H w' hp x
  by_cases hmw : x ∈ who
  · rw [if_pos hmw] at hgi
    rw [findSome_drop hx hgi] at hinv
    rw [decide_eq_true hmw] at hco
    refine ⟨?_⟩
    simp (config := { maxSteps := 4000000 }) only [↓sx0, ↓sx1, ↓sx2, ↓sx3, ↓sx4, ↓sx5, ↓sx6, sx0, sx1, sx2, sx3, sx4, sx5, sx6, tf56, ev3_hold, sxo, sxc, sxp, sxq, sxr, sxs, sxl, sxm, simprocAttr, e7]
    refine amid (at_1 (hrl _) i1_len hx rfl fun ad1 => ?_)
    simp (config := { maxSteps := 4000000 }) only [↓sx0, ↓sx1, ↓sx2, ↓sx3, ↓sx4, ↓sx5, ↓sx6, sx0, sx1, sx2, sx3, sx4, sx5, sx6, tf56, ev3_hold, sxo, sxc, sxp, sxq, sxr, sxs, sxl, sxm, simprocAttr, det0]
    refine CallOb.pureH (fun w' hp => hco _ w' hp) ?_
    rintro rc Nc rfl
    refine ⟨?_⟩
    simp (config := { maxSteps := 4000000 }) only [↓sx0, ↓sx1, ↓sx2, ↓sx3, ↓sx4, ↓sx5, ↓sx6, sx0, sx1, sx2, sx3, sx4, sx5, sx6, tf56, ev3_hold, sxo, sxc, sxp, sxq, sxr, sxs, sxl, sxm, simprocAttr, e8]
    exact ⟨i + 1, _, rfl, HImp.nil _ _, ⟨by omega, rfl, hinv⟩, by omega⟩
  rw [if_neg hmw] at hgi
  rw [decide_eq_false hmw] at hco
  refine ⟨?_⟩
  simp (config := { maxSteps := 4000000 }) only [↓sx0, ↓sx1, ↓sx2, ↓sx3, ↓sx4, ↓sx5, ↓sx6, sx0, sx1, sx2, sx3, sx4, sx5, sx6, tf56, ev3_hold, sxo, sxc, sxp, sxq, sxr, sxs, sxl, sxm, simprocAttr, e7]
  refine amid (at_1 (hrl _) i1_len hx rfl fun ad1 => ?_)
  simp (config := { maxSteps := 4000000 }) only [↓sx0, ↓sx1, ↓sx2, ↓sx3, ↓sx4, ↓sx5, ↓sx6, sx0, sx1, sx2, sx3, sx4, sx5, sx6, tf56, ev3_hold, sxo, sxc, sxp, sxq, sxr, sxs, sxl, sxm, simprocAttr, det0]
  refine CallOb.pureH (fun w' hp => hco _ w' hp) ?_
  rintro rc Nc rfl
  refine ⟨?_⟩
  simp (config := { maxSteps := 4000000 }) only [↓sx0, ↓sx1, ↓sx2, ↓sx3, ↓sx4, ↓sx5, ↓sx6, sx0, sx1, sx2, sx3, sx4, sx5, sx6, tf56, ev3_hold, sxo, sxc, sxp, sxq, sxr, sxs, sxl, sxm, simprocAttr, e7]
  refine amid (at_1 (hrl _) i1_len hx rfl fun ad2 => ?_)
  simp (config := { maxSteps := 4000000 }) only [↓sx0, ↓sx1, ↓sx2, ↓sx3, ↓sx4, ↓sx5, ↓sx6, sx0, sx1, sx2, sx3, sx4, sx5, sx6, tf56, ev3_hold, sxo, sxc, sxp, sxq, sxr, sxs, sxl, sxm, simprocAttr, List.length_nil]
  intro b
  refine app_at (f := i1) (l := []) (m := who) (HImp.refl _ _) i1_len i1_one (fun w' hp' => Sl.hp (w0 := ⟨w, fun _ => False⟩) hvw0 (fun _ _ => id) hp') (bytes := 8) (by simp only [List.length_nil]; omega) ?_
  intro ad3 c3 hnil
  rw [List.nil_append, List.length_nil, Nat.zero_add]
  simp (config := { maxSteps := 4000000 }) only [↓sx0, ↓sx1, ↓sx2, ↓sx3, ↓sx4, ↓sx5, ↓sx6, sx0, sx1, sx2, sx3, sx4, sx5, sx6, tf56, ev3_hold, sxo, sxc, sxp, sxq, sxr, sxs, sxl, sxm, simprocAttr]
  intro b4
  refine app_one (l := who) x (HImp.refl _ _) i1_len i1_one (by omega) fun ad4 c4 => ?_
  simp (config := { maxSteps := 4000000 }) only [↓sx0, ↓sx1, ↓sx2, ↓sx3, ↓sx4, ↓sx5, ↓sx6, sx0, sx1, sx2, sx3, sx4, sx5, sx6, tf56, ev3_hold, sxo, sxc, sxp, sxq, sxr, sxs, sxl, sxm, simprocAttr, det0]
  refine CallOb.pureH (fun w' hp => ih w' _ _ (hvc0.hp hp) (who ++ [x]) (row_hp List.mem_cons_self hp) (by rw [List.length_append, List.length_singleton]; omega)) ?_
  rintro r3 N3 (⟨h3, rfl⟩ | ⟨l3, x3, h3, rfl, h4⟩)
  · rw [findSome_drop hx (hgi.trans h3)] at hinv
    refine ⟨?_⟩
    simp (config := { maxSteps := 4000000 }) only [↓sx0, ↓sx1, ↓sx2, ↓sx3, ↓sx4, ↓sx5, ↓sx6, sx0, sx1, sx2, sx3, sx4, sx5, sx6, tf56, ev3_hold, sxo, sxc, sxp, sxq, sxr, sxs, sxl, sxm, simprocAttr, e8]
    exact ⟨i + 1, _, rfl, HImp.nil _ _, ⟨by omega, rfl, hinv⟩, by omega⟩
  · rw [findSome_hit hx (hgi.trans h3)] at hinv
    refine ⟨?_⟩
    simp (config := { maxSteps := 4000000 }) only [↓sx0, ↓sx1, ↓sx2, ↓sx3, ↓sx4, ↓sx5, ↓sx6, sx0, sx1, sx2, sx3, sx4, sx5, sx6, tf56, ev3_hold, sxo, sxc, sxp, sxq, sxr, sxs, sxl, sxm, simprocAttr]
    refine .inr ⟨l3, x3, hinv, rfl, .inr ?_⟩
    rcases h4 with ⟨rfl, rfl⟩ | h4
    · exact Got.row (by simp) (List.mem_append_right _ List.mem_cons_self) (fun h => by cases h)
    · exact h4.mono fun h hh => by simp [hh]
end Go.Proofs.Ytgpglmcbopfddaa

namespace Go.Proofs.Ytgpglmcbopfddaa
open Go.RowKit Go.SX
set_option maxRecDepth 10000
set_option maxHeartbeats 4000000
set_option linter.unusedSimpArgs false
set_option linter.unusedVariables false
open Classical in
noncomputable def sitB (s : Stn) (call len tick seat : Int) (h : Hnd) : Bool := decide (h.ans = 1) && hasB h.skills seat && decide (call + h.high ≤ tick) && decide (servP s h [(tick, tick + len - 1)])
open Classical in
theorem sits_fn (w : World) (v : Value) (s : Stn) (hs : StOk w v s) (hok : s.okB = true) (call tick : Int) (hc : 0 ≤ call ∧ call ≤ 100) (ht : 0 ≤ tick ∧ tick ≤ 400) (k : Nat) (h : Hnd) (hk : s.hands[k]? = some h) (seat len : Int) (hl : 1 ≤ len ∧ len ≤ 40) :
    SX.Fn Try.prog 55 [v, I call, I tick, I k, I seat, I len] w (fun _ => False) fun r N => r = .bool (sitB s call len tick seat h) := by
  have hs0 := hs
  obtain ⟨hv, ps, rfl, hps, hsl, hlg⟩ := hs
  obtain ⟨a, n, c, rfl⟩ := hsl.shape
  have hn := hsl.le hdc_len (by omega)
  have hlen : s.hands.length = ps.length := by rw [← hps, List.length_map]
  subst hn
  have hr := hsl.rd0
  have hob := okB_of hok
  have hhb := handB_of (hob.2.2.2 h (List.mem_of_getElem? hk))
  have hlb := logB_span hhb.2.2.2.2.1
  obtain ⟨p, hp, hph⟩ : ∃ p, ps[k]? = some p ∧ p.1 = h := by
    rw [← hps, List.getElem?_map] at hk
    cases hq : ps[k]? with
    | none => rw [hq] at hk; cases hk
    | some p => rw [hq] at hk; exact ⟨p, rfl, by simpa using hk⟩
  subst hph
  have e0 : ((k : Int) < (ps.length : Int)) = True := eq_true (by have := (List.getElem?_eq_some_iff.1 hp).1; omega)
  have f1 : wr (call + p.1.high) = call + p.1.high := wrap_id (by omega)
  have f2 : wr (tick + len) = tick + len := wrap_id (by omega)
  have f3 : wr (tick + len - 1) = tick + len - 1 := wrap_id (by omega)
  have hserv := fun (H : List HO) w' (hp : Hp ⟨w, fun _ => False⟩ H w') (vl : Value) (hl : Sl w' vl 2 (cat spc [(tick, tick + len - 1)])) => serves_ref w' _ s (hs0.hp hp) (by omega) hob.2.1 k p.1 hk ⟨hlb.1, by omega⟩ vl _ hl ⟨fun x hx => (by rw [List.mem_singleton] at hx; subst hx; simp only; omega), by simp⟩
  have hl1 : (lgv p).oneCell' = true := rfl
  have hq : hdc p = [I p.1.skills, I p.1.low, I p.1.high, lgv p, I p.1.ans] := rfl
  by_cases k1 : p.1.ans = 1
  case neg =>
    have q1 : (p.1.ans = 1) = False := eq_false k1
    have hB : sitB s call len tick seat p.1 = false := by unfold sitB; simp [k1]
    rw [hB]
    refine walk [] [] (det0_ok _ _) Try.func55 rfl Try.ntmps55 res55 (by kernel_rfl) no_facts ?_
    simp (config := { maxSteps := 4000000 }) only [↓sx0, ↓sx1, ↓sx2, ↓sx3, ↓sx4, ↓sx5, ↓sx6, sx0, sx1, sx2, sx3, sx4, sx5, sx6, tf55, ev3_hold, sxo, sxc, sxp, sxq, sxr, sxs, sxl, sxm, simprocAttr]
    refine at_n (hr _) hdc_len (by omega) hp fun ad => ?_
    rw [hq]
    simp (config := { maxSteps := 4000000 }) only [↓sx0, ↓sx1, ↓sx2, ↓sx3, ↓sx4, ↓sx5, ↓sx6, sx0, sx1, sx2, sx3, sx4, sx5, sx6, tf55, ev3_hold, sxo, sxc, sxp, sxq, sxr, sxs, sxl, sxm, simprocAttr, hl1, q1]
  have q1 : (p.1.ans = 1) = True := eq_true k1
  by_cases k2 : bitS .and .i64 p.1.skills seat = seat
  case neg =>
    have q2 : (bitS .and .i64 p.1.skills seat = seat) = False := eq_false k2
    have hB : sitB s call len tick seat p.1 = false := by unfold sitB hasB; simp [k2]
    rw [hB]
    refine walk [] [] (det0_ok _ _) Try.func55 rfl Try.ntmps55 res55 (by kernel_rfl) no_facts ?_
    simp (config := { maxSteps := 4000000 }) only [↓sx0, ↓sx1, ↓sx2, ↓sx3, ↓sx4, ↓sx5, ↓sx6, sx0, sx1, sx2, sx3, sx4, sx5, sx6, tf55, ev3_hold, sxo, sxc, sxp, sxq, sxr, sxs, sxl, sxm, simprocAttr]
    refine at_n (hr _) hdc_len (by omega) hp fun ad => ?_
    rw [hq]
    simp (config := { maxSteps := 4000000 }) only [↓sx0, ↓sx1, ↓sx2, ↓sx3, ↓sx4, ↓sx5, ↓sx6, sx0, sx1, sx2, sx3, sx4, sx5, sx6, tf55, ev3_hold, sxo, sxc, sxp, sxq, sxr, sxs, sxl, sxm, simprocAttr, hl1, q1, q2]
  have q2 : (bitS .and .i64 p.1.skills seat = seat) = True := eq_true k2
  by_cases k3 : call + p.1.high ≤ tick
  case neg =>
    have q3 : (call + p.1.high ≤ tick) = False := eq_false k3
    have hB : sitB s call len tick seat p.1 = false := by unfold sitB; simp [k3]
    rw [hB]
    refine walk [] [] (det0_ok _ _) Try.func55 rfl Try.ntmps55 res55 (by kernel_rfl) no_facts ?_
    simp (config := { maxSteps := 4000000 }) only [↓sx0, ↓sx1, ↓sx2, ↓sx3, ↓sx4, ↓sx5, ↓sx6, sx0, sx1, sx2, sx3, sx4, sx5, sx6, tf55, ev3_hold, sxo, sxc, sxp, sxq, sxr, sxs, sxl, sxm, simprocAttr]
    refine at_n (hr _) hdc_len (by omega) hp fun ad => ?_
    rw [hq]
    simp (config := { maxSteps := 4000000 }) only [↓sx0, ↓sx1, ↓sx2, ↓sx3, ↓sx4, ↓sx5, ↓sx6, sx0, sx1, sx2, sx3, sx4, sx5, sx6, tf55, ev3_hold, sxo, sxc, sxp, sxq, sxr, sxs, sxl, sxm, simprocAttr, hl1, q1, q2, f1, q3]
  have q3 : (call + p.1.high ≤ tick) = True := eq_true k3
  have hB : sitB s call len tick seat p.1 = decide (servP s p.1 [(tick, tick + len - 1)]) := by unfold sitB hasB; simp [k1, k2, k3]
  rw [hB]
  refine walk [] [] (det0_ok _ _) Try.func55 rfl Try.ntmps55 res55 (by kernel_rfl) no_facts ?_
  simp (config := { maxSteps := 4000000 }) only [↓sx0, ↓sx1, ↓sx2, ↓sx3, ↓sx4, ↓sx5, ↓sx6, sx0, sx1, sx2, sx3, sx4, sx5, sx6, tf55, ev3_hold, sxo, sxc, sxp, sxq, sxr, sxs, sxl, sxm, simprocAttr]
  refine at_n (hr _) hdc_len (by omega) hp fun ad => ?_
  rw [hq]
  simp (config := { maxSteps := 4000000 }) only [↓sx0, ↓sx1, ↓sx2, ↓sx3, ↓sx4, ↓sx5, ↓sx6, sx0, sx1, sx2, sx3, sx4, sx5, sx6, tf55, ev3_hold, sxo, sxc, sxp, sxq, sxr, sxs, sxl, sxm, simprocAttr, hl1, q1, q2, f1, q3, f2, f3, det0]
  intro b
  refine CallOb.pureH (fun w' hp => hserv _ w' hp _ (row_hp (E := 41) (xs := cat spc [(tick, tick + len - 1)]) (by simp [cat, spc]) hp)) ?_
  rintro r N2 rfl
  refine ⟨?_⟩
  simp (config := { maxSteps := 4000000 }) only [↓sx0, ↓sx1, ↓sx2, ↓sx3, ↓sx4, ↓sx5, ↓sx6, sx0, sx1, sx2, sx3, sx4, sx5, sx6, tf55, ev3_hold, sxo, sxc, sxp, sxq, sxr, sxs, sxl, sxm, simprocAttr]
theorem rseats_fn (w : World) (v : Value) (l : List Int) (hs : Sl w v 1 (ints l)) : SX.Fn Try.prog 37 [v] w (fun _ => False) fun r N => r = I (seatE l) := by
  obtain ⟨a, n, c, rfl⟩ := hs.shape
  have hn := hs.le i1_len (by omega)
  subst hn
  have hr := hs.rd0
  unfold seatE
  by_cases h5 : l.length > 5
  · have e0 : ((l.length : Int) > 5) = True := eq_true (by omega)
    rw [if_pos h5]
    refine walk [] [] (detB_ok _ _) Try.func37 rfl Try.ntmps37 res37 (by kernel_rfl) no_facts ?_
    simp (config := { maxSteps := 4000000 }) only [↓sx0, ↓sx1, ↓sx2, ↓sx3, ↓sx4, ↓sx5, ↓sx6, sx0, sx1, sx2, sx3, sx4, sx5, sx6, tf37, ev3_hold, sxo, sxc, sxp, sxq, sxr, sxs, sxl, sxm, simprocAttr, e0]
  have e0 : ((l.length : Int) > 5) = False := eq_false (by omega)
  rw [if_neg h5]
  refine walk [] [] (detB_ok _ _) Try.func37 rfl Try.ntmps37 res37 (by kernel_rfl) no_facts ?_
  simp (config := { maxSteps := 4000000 }) only [↓sx0, ↓sx1, ↓sx2, ↓sx3, ↓sx4, ↓sx5, ↓sx6, sx0, sx1, sx2, sx3, sx4, sx5, sx6, tf37, ev3_hold, sxo, sxc, sxp, sxq, sxr, sxs, sxl, sxm, simprocAttr, e0]
  refine loop_constH [] (HImp.nil _ _) [(2, 3), (7, 18)] (fun i : Nat => [(2, I 0), (3, I i)]) (fun i H1 => i ≤ l.length ∧ l.any (fun n => !inB n 0 255) = (l.drop i).any (fun n => !inB n 0 255)) (fun i => l.length - i) 0 ?_ ⟨Nat.zero_le _, rfl⟩ ?_
  · simp (config := { maxSteps := 4000000 }) only [↓sx0, ↓sx1, ↓sx2, ↓sx3, ↓sx4, ↓sx5, ↓sx6, sx0, sx1, sx2, sx3, sx4, sx5, sx6, tf37, ev3_hold, sxo, sxc, sxp, sxq, sxr, sxs, sxl, sxm, simprocAttr]
    try simp
  rintro i H1 g1 ⟨hi, hinv⟩
  by_cases hin : i = l.length
  · have e7 : ((i : Int) < (l.length : Int)) = False := eq_false (by omega)
    rw [List.drop_of_length_le (by omega), List.any_nil] at hinv
    rw [hinv]
    refine ⟨?_⟩
    simp (config := { maxSteps := 4000000 }) only [↓sx0, ↓sx1, ↓sx2, ↓sx3, ↓sx4, ↓sx5, ↓sx6, sx0, sx1, sx2, sx3, sx4, sx5, sx6, tf37, ev3_hold, sxo, sxc, sxp, sxq, sxr, sxs, sxl, sxm, simprocAttr, e7]
  have e7 : ((i : Int) < (l.length : Int)) = True := eq_true (by omega)
  have e2 : wr (i + 1) = ((i + 1 : Nat) : Int) := (wrap_id (by omega)).trans (by omega)
  have hil : i < l.length := by omega
  have hu := List.getElem?_eq_getElem hil
  rw [List.drop_eq_getElem_cons hil, List.any_cons] at hinv
  generalize l[i] = y at hu hinv
  cases hy : inB y 0 255 with
  | false =>
    rw [hy, Bool.not_false, Bool.true_or] at hinv
    rw [hinv]
    refine ⟨?_⟩
    simp (config := { maxSteps := 4000000 }) only [↓sx0, ↓sx1, ↓sx2, ↓sx3, ↓sx4, ↓sx5, ↓sx6, sx0, sx1, sx2, sx3, sx4, sx5, sx6, tf37, ev3_hold, sxo, sxc, sxp, sxq, sxr, sxs, sxl, sxm, simprocAttr, e7]
    refine amid (at_1 (hr _) i1_len hu rfl fun ad1 => ?_)
    simp (config := { maxSteps := 4000000 }) only [↓sx0, ↓sx1, ↓sx2, ↓sx3, ↓sx4, ↓sx5, ↓sx6, sx0, sx1, sx2, sx3, sx4, sx5, sx6, tf37, ev3_hold, sxo, sxc, sxp, sxq, sxr, sxs, sxl, sxm, simprocAttr, detB_eq, hy]
  | true =>
    rw [hy, Bool.not_true, Bool.false_or] at hinv
    refine ⟨?_⟩
    simp (config := { maxSteps := 4000000 }) only [↓sx0, ↓sx1, ↓sx2, ↓sx3, ↓sx4, ↓sx5, ↓sx6, sx0, sx1, sx2, sx3, sx4, sx5, sx6, tf37, ev3_hold, sxo, sxc, sxp, sxq, sxr, sxs, sxl, sxm, simprocAttr, e7]
    refine amid (at_1 (hr _) i1_len hu rfl fun ad1 => ?_)
    simp (config := { maxSteps := 4000000 }) only [↓sx0, ↓sx1, ↓sx2, ↓sx3, ↓sx4, ↓sx5, ↓sx6, sx0, sx1, sx2, sx3, sx4, sx5, sx6, tf37, ev3_hold, sxo, sxc, sxp, sxq, sxr, sxs, sxl, sxm, simprocAttr, detB_eq, hy, e2]
    exact ⟨i + 1, _, rfl, HImp.refl _ _, ⟨by omega, hinv⟩, by omega⟩
theorem rcseats_fn (w : World) (v : Value) (s : Stn) (hs : StOk w v s) (hsm : s.small) (call : Int) (vs : Value) (seats : List Int) (hvs : Sl w vs 1 (ints seats)) (len : Int) :
    SX.Fn Try.prog 15 [v, I call, vs, I len] w (fun _ => False) fun r N => r = I (callE s call seats len) := by
  have hs0 := hs
  obtain ⟨hv, ps, rfl, hps, hsl, hlg⟩ := hs
  obtain ⟨a, n, c, rfl⟩ := hsl.shape
  obtain ⟨asx, ns, cs, rfl⟩ := hvs.shape
  have dn : (∀ xs, detB 9 xs = none) ∧ (∀ xs, detB 37 xs = none) := ⟨fun _ => rfl, fun _ => rfl⟩
  unfold callE
  refine walk [] [] (detB_ok _ _) Try.func15 rfl Try.ntmps15 res15 (by kernel_rfl) no_facts ?_
  simp (config := { maxSteps := 4000000 }) only [↓sx0, ↓sx1, ↓sx2, ↓sx3, ↓sx4, ↓sx5, ↓sx6, sx0, sx1, sx2, sx3, sx4, sx5, sx6, tf15, ev3_hold, sxo, sxc, sxp, sxq, sxr, sxs, sxl, sxm, simprocAttr, dn]
  refine CallOb.pureH (fun w' hp => rcheck_fn w' _ s (hs0.hp hp) hsm) ?_
  rintro r N rfl
  cases hok : s.okB with
  | false =>
    refine ⟨?_⟩
    simp (config := { maxSteps := 4000000 }) only [↓sx0, ↓sx1, ↓sx2, ↓sx3, ↓sx4, ↓sx5, ↓sx6, sx0, sx1, sx2, sx3, sx4, sx5, sx6, tf15, ev3_hold, sxo, sxc, sxp, sxq, sxr, sxs, sxl, sxm, simprocAttr]
  | true =>
  cases h1 : inB call 0 100 with
  | false =>
    refine ⟨?_⟩
    simp (config := { maxSteps := 4000000 }) only [↓sx0, ↓sx1, ↓sx2, ↓sx3, ↓sx4, ↓sx5, ↓sx6, sx0, sx1, sx2, sx3, sx4, sx5, sx6, tf15, ev3_hold, sxo, sxc, sxp, sxq, sxr, sxs, sxl, sxm, simprocAttr, detB_eq, h1]
  | true =>
  cases h2 : inB len 1 40 with
  | false =>
    refine ⟨?_⟩
    simp (config := { maxSteps := 4000000 }) only [↓sx0, ↓sx1, ↓sx2, ↓sx3, ↓sx4, ↓sx5, ↓sx6, sx0, sx1, sx2, sx3, sx4, sx5, sx6, tf15, ev3_hold, sxo, sxc, sxp, sxq, sxr, sxs, sxl, sxm, simprocAttr, detB_eq, h1, h2]
  | true =>
  refine ⟨?_⟩
  simp (config := { maxSteps := 4000000 }) only [↓sx0, ↓sx1, ↓sx2, ↓sx3, ↓sx4, ↓sx5, ↓sx6, sx0, sx1, sx2, sx3, sx4, sx5, sx6, tf15, ev3_hold, sxo, sxc, sxp, sxq, sxr, sxs, sxl, sxm, simprocAttr, dn, detB_eq, h1, h2]
  refine CallOb.pureH (fun w' hp => rseats_fn w' _ seats (hvs.hp (fun _ _ => id) hp)) ?_
  rintro r N2 rfl
  refine ⟨?_⟩
  simp (config := { maxSteps := 4000000 }) only [↓sx0, ↓sx1, ↓sx2, ↓sx3, ↓sx4, ↓sx5, ↓sx6, sx0, sx1, sx2, sx3, sx4, sx5, sx6, tf15, ev3_hold, sxo, sxc, sxp, sxq, sxr, sxs, sxl, sxm, simprocAttr]
end Go.Proofs.Ytgpglmcbopfddaa

namespace Go.Proofs.Ytgpglmcbopfddaa
open Go.RowKit Go.SX
set_option maxRecDepth 10000
set_option maxHeartbeats 8000000
set_option linter.unusedSimpArgs false
set_option linter.unusedVariables false
noncomputable def sitAt (s : Stn) (call len tick seat : Int) (i : Nat) : Bool := match s.hands[i]? with
  | some h => sitB s call len tick seat h
  | none => false
noncomputable def sitN (s : Stn) (call len tick seat : Int) (i : Nat) : List Int := ((List.range i).filter (sitAt s call len tick seat)).map fun k : Nat => (k : Int)
noncomputable def sitL (s : Stn) (call len tick : Int) (seat : Int) : List Int := sitN s call len tick seat s.hands.length
theorem sitN_zero (s : Stn) (call len tick seat : Int) : sitN s call len tick seat 0 = [] := rfl
theorem sitN_succ (s : Stn) (call len tick seat : Int) (i : Nat) : sitN s call len tick seat (i + 1) = if sitAt s call len tick seat i then sitN s call len tick seat i ++ [(i : Int)] else sitN s call len tick seat i := by
  unfold sitN
  rw [List.range_succ, List.filter_append, List.map_append]
  cases h : sitAt s call len tick seat i <;> simp [h]
theorem sitN_len (s : Stn) (call len tick seat : Int) (i : Nat) : (sitN s call len tick seat i).length ≤ i := by
  unfold sitN
  rw [List.length_map]
  exact Nat.le_trans (List.length_filter_le _ _) (by rw [List.length_range]; exact Nat.le_refl _)
noncomputable def rmusG (s : Stn) (call len : Int) (seats : List Int) : Option (Nat × List Int) := (List.range 101).findSome? fun (j : Nat) => (fillR (seats.map (sitL s call len (call + (j : Int)))) seats.length []).map fun l => (j, l)
theorem fill_eq {cs : List (List Int)} {ok : Nat → Nat → Bool} {n : Nat} : ∀ (r : Nat) (who : List Int), who.length + r = cs.length → (∀ p, p < cs.length → cs.getD p [] = ((List.range n).filter (ok p)).map fun k : Nat => (k : Int)) → fillR cs r who = fillG ok n r who
  | 0, who, _, _ => rfl
  | r + 1, who, hl, hc => by
    rw [fillR, fillG, hc _ (by omega), List.findSome?_map]
    have ih := fun x : Int => fill_eq (cs := cs) (ok := ok) (n := n) r (who ++ [x]) (by rw [List.length_append, List.length_singleton]; omega) hc
    generalize List.range n = L
    induction L with
    | nil => rfl
    | cons a L ihL =>
      rw [List.findSome?_cons]
      cases ha : ok who.length a with
      | false =>
        rw [List.filter_cons_of_neg (by simp [ha]), ihL]
        try simp
      | true =>
        rw [List.filter_cons_of_pos ha, List.findSome?_cons, ihL]
        by_cases hm : (a : Int) ∈ who
        · simp [hm]
        · simp [hm, ih]
open Classical in
theorem sit_can {s : Stn} {call len tick : Int} (hok : s.okB = true) (ht : 0 ≤ tick ∧ tick ≤ 300) (hl : 1 ≤ len ∧ len ≤ 40) (h : Hnd) (hm : h ∈ s.hands) (seat : Int) : sitB s call len tick seat h = (canB s call len tick h && hasB h.skills seat) := by
  have hob := okB_of hok
  have hhb := handB_of (hob.2.2.2 h hm)
  have : mayP s h tick len ↔ servP s h [(tick, tick + len - 1)] := may_serv hob.2.1 hhb.2.2.2.2.1 ht.1 hl.1 (by omega)
  unfold sitB canB
  rw [show decide (mayP s h tick len) = decide (servP s h [(tick, tick + len - 1)]) from by simp only [this]]
  cases decide (h.ans = 1) <;> cases hasB h.skills seat <;> cases decide (call + h.high ≤ tick) <;> simp
theorem rmusG_eq {s : Stn} {call len : Int} (hok : s.okB = true) (hc : 0 ≤ call ∧ call ≤ 100) (hl : 1 ≤ len ∧ len ≤ 40) (seats : List Int) : rmusG s call len seats = musG s call len seats := by
  unfold rmusG musG
  have key : ∀ j : Nat, j < 101 → fillR (seats.map (sitL s call len (call + (j : Int)))) seats.length [] = fillG (okS (atL s call len (call + (j : Int))) s.hands seats) s.hands.length seats.length [] := fun j hj => by
    refine fill_eq _ _ (by simp) fun p hp => ?_
    rw [List.length_map] at hp
    rw [List.getD_eq_getElem?_getD, List.getElem?_map, List.getElem?_eq_getElem hp, Option.map_some, Option.getD_some]
    unfold sitL sitN
    congr 1
    refine List.filter_congr fun i hi => ?_
    rw [List.mem_range] at hi
    have hh := List.getElem?_eq_getElem hi
    have hmem := List.getElem_mem hi
    generalize s.hands[i] = h at hh hmem
    unfold sitAt okS atL
    rw [hh]
    simp only [List.getD_eq_getElem?_getD, List.getElem?_map, hh, Option.map_some, Option.getD_some, List.getElem?_eq_getElem hp]
    exact sit_can hok (by omega) hl h hmem _
  have : ∀ L : List Nat, (∀ j ∈ L, j < 101) → (L.findSome? fun (j : Nat) => (fillR (seats.map (sitL s call len (call + (j : Int)))) seats.length []).map fun l => (j, l)) = L.findSome? fun (j : Nat) => (fillG (okS (atL s call len (call + (j : Int))) s.hands seats) s.hands.length seats.length []).map fun l => (j, l) := by
    intro L
    induction L with
    | nil => intro _; rfl
    | cons a L ih =>
      intro hL
      rw [List.findSome?_cons, List.findSome?_cons, key a (hL a (by simp)), ih fun j hj => hL j (by simp [hj])]
  exact this _ fun j hj => List.mem_range.1 hj
end Go.Proofs.Ytgpglmcbopfddaa

namespace Go.Proofs.Ytgpglmcbopfddaa
open Go.RowKit Go.SX
set_option maxRecDepth 10000
set_option maxHeartbeats 0
set_option linter.unusedSimpArgs false
set_option linter.unusedVariables false
theorem rmus_fn (w : World) (v : Value) (s : Stn) (hs : StOk w v s) (hok : s.okB = true) (call len : Int) (hc : 0 ≤ call ∧ call ≤ 100) (hl : 1 ≤ len ∧ len ≤ 40) (vs : Value) (seats : List Int) (hvs : Sl w vs 1 (ints seats)) (hsl5 : seats.length ≤ 1000) :
    SX.Fn Try.prog 35 [v, I call, vs, I len] w (fun _ => False) (MusP call (rmusG s call len seats)) := by
  have hs0 := hs
  obtain ⟨hv, ps, rfl, hps, hsl, hlg⟩ := hs
  obtain ⟨a, n, c, rfl⟩ := hsl.shape
  obtain ⟨asx, ns, cs, rfl⟩ := hvs.shape
  have hn := hsl.le hdc_len (by omega)
  have hns := hvs.le i1_len (by omega)
  have hlen : s.hands.length = ps.length := by rw [← hps, List.length_map]
  subst hn hns
  have hrs := hvs.rd0
  have hob := okB_of hok
  have e3 : wr (call + 100) = call + 100 := wrap_id (by omega)
  have hsit := fun (H : List HO) w' (hp : Hp ⟨w, fun _ => False⟩ H w') (tick : Int) (ht : 0 ≤ tick ∧ tick ≤ 400) (k : Nat) (h : Hnd) (hk : s.hands[k]? = some h) (seat : Int) => sits_fn w' _ s (hs0.hp hp) hok call tick hc ht k h hk seat len hl
  have hF : rmusG s call len seats = (List.range 101).findSome? fun (j : Nat) => (fillR (seats.map (sitL s call len (call + (j : Int)))) seats.length []).map fun l => (j, l) := rfl
  generalize hG : (fun (j : Nat) => (fillR (seats.map (sitL s call len (call + (j : Int)))) seats.length []).map fun l => (j, l)) = G at hF
  have hGe : ∀ j : Nat, G j = (fillR (seats.map (sitL s call len (call + (j : Int)))) seats.length []).map fun l => (j, l) := fun j => by rw [← hG]
  refine walk [] [] (det0_ok _ _) Try.func35 rfl Try.ntmps35 res35 (by kernel_rfl) no_facts ?_
  simp (config := { maxSteps := 4000000 }) only [↓sx0, ↓sx1, ↓sx2, ↓sx3, ↓sx4, ↓sx5, ↓sx6, sx0, sx1, sx2, sx3, sx4, sx5, sx6, tf35, ev3_hold, sxo, sxc, sxp, sxq, sxr, sxs, sxl, sxm, simprocAttr]
  refine loop_constH [] (HImp.nil _ _) [(8, 17), (19, 63)] (fun j : Nat => [(11, I (call + (j : Nat)))]) (fun j H1 => j ≤ 101 ∧ rmusG s call len seats = ((List.range 101).drop j).findSome? G) (fun j => 101 - j) 0 ?_ ⟨Nat.zero_le _, hF⟩ ?_
  · simp (config := { maxSteps := 4000000 }) only [↓sx0, ↓sx1, ↓sx2, ↓sx3, ↓sx4, ↓sx5, ↓sx6, sx0, sx1, sx2, sx3, sx4, sx5, sx6, tf35, ev3_hold, sxo, sxc, sxp, sxq, sxr, sxs, sxl, sxm, simprocAttr]
    try simp
  rintro j H1 g1 ⟨hj, hinv⟩
  by_cases hjn : j = 101
  · have e7 : (call + (j : Int) ≤ call + 100) = False := eq_false (by omega)
    rw [List.drop_of_length_le (by rw [List.length_range]; omega)] at hinv
    rw [hinv]
    refine ⟨?_⟩
    simp (config := { maxSteps := 4000000 }) only [↓sx0, ↓sx1, ↓sx2, ↓sx3, ↓sx4, ↓sx5, ↓sx6, sx0, sx1, sx2, sx3, sx4, sx5, sx6, tf35, ev3_hold, sxo, sxc, sxp, sxq, sxr, sxs, sxl, sxm, simprocAttr, e3, e7]
    exact .inl ⟨rfl, rfl⟩
  have e7 : (call + (j : Int) ≤ call + 100) = True := eq_true (by omega)
  have e8 : wr (call + (j : Int) + 1) = call + ((j + 1 : Nat) : Int) := (wrap_id (by omega)).trans (by omega)
  have hrj : (List.range 101)[j]? = some j := List.getElem?_range (by omega)
  have hgj := hGe j
  obtain ⟨tick, htk⟩ : ∃ tick, call + (j : Int) = tick := ⟨_, rfl⟩
  rw [htk] at hgj
  have ht : 0 ≤ tick ∧ tick ≤ 400 := by omega
  have hsit2 := fun (H : List HO) w' hp => hsit H w' hp tick ht
  refine ⟨?_⟩
  simp (config := { maxSteps := 4000000 }) only [↓sx0, ↓sx1, ↓sx2, ↓sx3, ↓sx4, ↓sx5, ↓sx6, sx0, sx1, sx2, sx3, sx4, sx5, sx6, tf35, ev3_hold, sxo, sxc, sxp, sxq, sxr, sxs, sxl, sxm, simprocAttr, e3, e7]
  refine loop_constH [.row (.slice none 0 0) 25 1 []] ((HImp.nil _ _).trans (HImp.nilRow _ _ _ _)) [(12, 15), (25, 55)] (fun q : Nat × Option Addr × Nat => [(12, .slice q.2.1 q.1 q.2.2), (13, I q.1)])
    (fun q H1 => q.1 ≤ seats.length ∧ ∃ qs DF, qs.map Prod.fst = (seats.take q.1).map (sitL s call len tick) ∧ (q.2.1 = none → qs = []) ∧ H1 = .row (.slice q.2.1 q.1 q.2.2) 25 1 (cat lmc qs) :: DF ∧ ∀ p ∈ qs, Got (lmv p) 3 1 i1 p.1 DF)
    (fun q => seats.length - q.1) (0, none, 0) ?_ ⟨Nat.zero_le _, [], [], rfl, fun _ => rfl, rfl, fun p hp => (by cases hp)⟩ ?_
  · simp (config := { maxSteps := 4000000 }) only [↓sx0, ↓sx1, ↓sx2, ↓sx3, ↓sx4, ↓sx5, ↓sx6, sx0, sx1, sx2, sx3, sx4, sx5, sx6, tf35, ev3_hold, sxo, sxc, sxp, sxq, sxr, sxs, sxl, sxm, simprocAttr]
    try simp
  rintro ⟨k, ao, co⟩ H2 g2 hinv2
  simp only [] at hinv2
  obtain ⟨hk, qs, DF, hqs, hnil, rfl, hdf⟩ := hinv2
  have hql : qs.length = k := by
    have := congrArg List.length hqs
    rw [List.length_map, List.length_map, List.length_take] at this
    omega
  by_cases hkn : k = seats.length
  · have e9 : ((k : Int) < (seats.length : Int)) = False := eq_false (by omega)
    rw [List.take_of_length_le (by omega)] at hqs
    refine ⟨?_⟩
    simp (config := { maxSteps := 4000000 }) only [↓sx0, ↓sx1, ↓sx2, ↓sx3, ↓sx4, ↓sx5, ↓sx6, sx0, sx1, sx2, sx3, sx4, sx5, sx6, tf35, ev3_hold, sxo, sxc, sxp, sxq, sxr, sxs, sxl, sxm, simprocAttr, e9, det0]
    refine CallOb.pureH (fun w' hp => filled_fn (seats.map (sitL s call len tick)) (by rw [List.length_map]; omega) (fun c hc => ?_) seats.length w' _ _ ⟨qs, hqs, row_hp List.mem_cons_self hp, fun p hm => (hdf p hm).hp (fun h hh => List.mem_cons_of_mem _ hh) hp⟩ [] (Sl.nil _ _) (by simp)) ?_
    · obtain ⟨seat, _, rfl⟩ := List.mem_map.1 hc
      exact Nat.le_trans (sitN_len _ _ _ _ _ _) (by omega)
    rintro r3 N3 (⟨h3, rfl⟩ | ⟨l3, x3, h3, rfl, h4⟩)
    · rw [h3, Option.map_none] at hgj
      rw [findSome_drop hrj hgj] at hinv
      refine ⟨?_⟩
      simp (config := { maxSteps := 4000000 }) only [↓sx0, ↓sx1, ↓sx2, ↓sx3, ↓sx4, ↓sx5, ↓sx6, sx0, sx1, sx2, sx3, sx4, sx5, sx6, tf35, ev3_hold, sxo, sxc, sxp, sxq, sxr, sxs, sxl, sxm, simprocAttr, e8]
      exact ⟨j + 1, _, rfl, HImp.refl _ _, ⟨by omega, hinv⟩, by omega⟩
    · rw [h3, Option.map_some] at hgj
      rw [findSome_hit hrj hgj] at hinv
      rw [hinv]
      refine ⟨?_⟩
      simp (config := { maxSteps := 4000000 }) only [↓sx0, ↓sx1, ↓sx2, ↓sx3, ↓sx4, ↓sx5, ↓sx6, sx0, sx1, sx2, sx3, sx4, sx5, sx6, tf35, ev3_hold, sxo, sxc, sxp, sxq, sxr, sxs, sxl, sxm, simprocAttr]
      refine .inr ⟨j, l3, x3, rfl, by rw [htk], ?_⟩
      rcases h4 with ⟨rfl, rfl⟩ | h4
      · exact Got.nil _
      · exact h4.mono fun h hh => by simp [hh]
  have e9 : ((k : Int) < (seats.length : Int)) = True := eq_true (by omega)
  have e10 : wr ((k : Int) + 1) = ((k + 1 : Nat) : Int) := (wrap_id (by omega)).trans (by omega)
  have hks : k < seats.length := by omega
  have hus := List.getElem?_eq_getElem hks
  have hst : seats.take (k + 1) = seats.take k ++ [seats[k]] := (List.take_append_getElem hks).symm
  generalize seats[k] = seat at hus hst
  refine ⟨?_⟩
  simp (config := { maxSteps := 4000000 }) only [↓sx0, ↓sx1, ↓sx2, ↓sx3, ↓sx4, ↓sx5, ↓sx6, sx0, sx1, sx2, sx3, sx4, sx5, sx6, tf35, ev3_hold, sxo, sxc, sxp, sxq, sxr, sxs, sxl, sxm, simprocAttr, e9]
  refine loop_constH (.row (.slice none 0 0) 3 1 [] :: .row (.slice ao k co) 25 1 (cat lmc qs) :: DF) (HImp.nilRow _ _ _ _) [(14, 15), (31, 51)] (fun q : Nat × Option Addr × Nat => [(14, .slice q.2.1 (sitN s call len tick seat q.1).length q.2.2), (15, I q.1)])
    (fun q H1 => q.1 ≤ ps.length ∧ (q.2.1 = none → sitN s call len tick seat q.1 = []) ∧ H1 = .row (.slice q.2.1 (sitN s call len tick seat q.1).length q.2.2) 3 1 (ints (sitN s call len tick seat q.1)) :: .row (.slice ao k co) 25 1 (cat lmc qs) :: DF)
    (fun q => ps.length - q.1) (0, none, 0) ?_ ⟨Nat.zero_le _, fun _ => rfl, rfl⟩ ?_
  · simp (config := { maxSteps := 4000000 }) only [↓sx0, ↓sx1, ↓sx2, ↓sx3, ↓sx4, ↓sx5, ↓sx6, sx0, sx1, sx2, sx3, sx4, sx5, sx6, tf35, ev3_hold, sxo, sxc, sxp, sxq, sxr, sxs, sxl, sxm, simprocAttr]
    try simp [sitN_zero]
  rintro ⟨i, al, cl⟩ H3 g3 hinv3
  simp only [] at hinv3
  obtain ⟨hi, hnil3, rfl⟩ := hinv3
  by_cases hin : i = ps.length
  · have e11 : ((i : Int) < (ps.length : Int)) = False := eq_false (by omega)
    have hL : sitN s call len tick seat i = sitL s call len tick seat := by rw [hin, ← hlen]; rfl
    rw [hL] at hnil3
    rw [hL]
    refine ⟨?_⟩
    simp (config := { maxSteps := 4000000 }) only [↓sx0, ↓sx1, ↓sx2, ↓sx3, ↓sx4, ↓sx5, ↓sx6, sx0, sx1, sx2, sx3, sx4, sx5, sx6, tf35, ev3_hold, sxo, sxc, sxp, sxq, sxr, sxs, sxl, sxm, simprocAttr, e11]
    intro b
    refine app_one (l := qs) (A := .row (.slice al (sitL s call len tick seat).length cl) 3 1 (ints (sitL s call len tick seat)) :: DF) (sitL s call len tick seat, al, cl) (HImp.swap _ _ _ _) lmc_len lmc_one (by omega) fun ad3 c3 => ?_
    rw [hql]
    simp (config := { maxSteps := 4000000 }) only [↓sx0, ↓sx1, ↓sx2, ↓sx3, ↓sx4, ↓sx5, ↓sx6, sx0, sx1, sx2, sx3, sx4, sx5, sx6, tf35, ev3_hold, sxo, sxc, sxp, sxq, sxr, sxs, sxl, sxm, simprocAttr, e10]
    refine ⟨(k + 1, some ad3, c3), _, ⟨rfl, rfl⟩, HImp.refl _ _, ⟨by simp only []; omega, qs ++ [(sitL s call len tick seat, al, cl)], _, ?_, fun h => (by cases h), rfl, fun p hp => ?_⟩, by simp only []; omega⟩
    · simp only []
      rw [List.map_append, hqs, hst, List.map_append]
      try rfl
    · rcases List.mem_append.1 hp with h | h
      · exact (hdf p h).mono fun h hh => List.mem_cons_of_mem _ hh
      · rw [List.mem_singleton] at h
        subst h
        exact Got.row rfl List.mem_cons_self hnil3
  have e11 : ((i : Int) < (ps.length : Int)) = True := eq_true (by omega)
  have e12 : wr ((i : Int) + 1) = ((i + 1 : Nat) : Int) := (wrap_id (by omega)).trans (by omega)
  have hil : i < s.hands.length := by omega
  have hh := List.getElem?_eq_getElem hil
  generalize s.hands[i] = h at hh
  have hsa : sitAt s call len tick seat i = sitB s call len tick seat h := by unfold sitAt; rw [hh]
  have hsn := sitN_succ s call len tick seat i
  have hsl := sitN_len s call len tick seat i
  rw [hsa] at hsn
  have hs3 := fun (H : List HO) w' hp => hsit2 H w' hp i h hh seat
  generalize sitB s call len tick seat h = B at hsn hs3
  rw [← htk] at hs3
  cases B with
  | false =>
    rw [if_neg (by simp)] at hsn
    refine ⟨?_⟩
    simp (config := { maxSteps := 4000000 }) only [↓sx0, ↓sx1, ↓sx2, ↓sx3, ↓sx4, ↓sx5, ↓sx6, sx0, sx1, sx2, sx3, sx4, sx5, sx6, tf35, ev3_hold, sxo, sxc, sxp, sxq, sxr, sxs, sxl, sxm, simprocAttr, e11]
    refine at_1 (hrs _) i1_len hus rfl fun ad1 => ?_
    simp (config := { maxSteps := 4000000 }) only [↓sx0, ↓sx1, ↓sx2, ↓sx3, ↓sx4, ↓sx5, ↓sx6, sx0, sx1, sx2, sx3, sx4, sx5, sx6, tf35, ev3_hold, sxo, sxc, sxp, sxq, sxr, sxs, sxl, sxm, simprocAttr, det0]
    refine CallOb.pureH (fun w' hp => hs3 _ w' hp) ?_
    rintro rc Nc rfl
    refine ⟨?_⟩
    simp (config := { maxSteps := 4000000 }) only [↓sx0, ↓sx1, ↓sx2, ↓sx3, ↓sx4, ↓sx5, ↓sx6, sx0, sx1, sx2, sx3, sx4, sx5, sx6, tf35, ev3_hold, sxo, sxc, sxp, sxq, sxr, sxs, sxl, sxm, simprocAttr, e12]
    exact ⟨(i + 1, al, cl), _, by simp only []; rw [hsn]; exact ⟨rfl, trivial⟩, HImp.app _ _ _, ⟨by simp only []; omega, by simp only []; rw [hsn]; exact hnil3, by simp only []; rw [hsn]⟩, by simp only []; omega⟩
  | true =>
    rw [if_pos rfl] at hsn
    refine ⟨?_⟩
    simp (config := { maxSteps := 4000000 }) only [↓sx0, ↓sx1, ↓sx2, ↓sx3, ↓sx4, ↓sx5, ↓sx6, sx0, sx1, sx2, sx3, sx4, sx5, sx6, tf35, ev3_hold, sxo, sxc, sxp, sxq, sxr, sxs, sxl, sxm, simprocAttr, e11]
    refine at_1 (hrs _) i1_len hus rfl fun ad1 => ?_
    simp (config := { maxSteps := 4000000 }) only [↓sx0, ↓sx1, ↓sx2, ↓sx3, ↓sx4, ↓sx5, ↓sx6, sx0, sx1, sx2, sx3, sx4, sx5, sx6, tf35, ev3_hold, sxo, sxc, sxp, sxq, sxr, sxs, sxl, sxm, simprocAttr, det0]
    refine CallOb.pureH (fun w' hp => hs3 _ w' hp) ?_
    rintro rc Nc rfl
    refine ⟨?_⟩
    simp (config := { maxSteps := 4000000 }) only [↓sx0, ↓sx1, ↓sx2, ↓sx3, ↓sx4, ↓sx5, ↓sx6, sx0, sx1, sx2, sx3, sx4, sx5, sx6, tf35, ev3_hold, sxo, sxc, sxp, sxq, sxr, sxs, sxl, sxm, simprocAttr]
    intro b
    refine app_one (l := sitN s call len tick seat i) (i : Int) (HImp.app _ _ _) i1_len i1_one (by omega) fun ad3 c3 => ?_
    simp (config := { maxSteps := 4000000 }) only [↓sx0, ↓sx1, ↓sx2, ↓sx3, ↓sx4, ↓sx5, ↓sx6, sx0, sx1, sx2, sx3, sx4, sx5, sx6, tf35, ev3_hold, sxo, sxc, sxp, sxq, sxr, sxs, sxl, sxm, simprocAttr, e12]
    have hsl2 : (sitN s call len tick seat (i + 1)).length = (sitN s call len tick seat i).length + 1 := by rw [hsn, List.length_append, List.length_singleton]
    exact ⟨(i + 1, some ad3, c3), _, by simp only []; rw [hsl2]; exact ⟨rfl, trivial⟩, HImp.refl _ _, ⟨by simp only []; omega, fun h => (by cases h), by simp only []; rw [hsl2, hsn]⟩, by simp only []; omega⟩
end Go.Proofs.Ytgpglmcbopfddaa

namespace Go.Proofs.Ytgpglmcbopfddaa
open Go.RowKit Go.SX
set_option maxRecDepth 10000
set_option maxHeartbeats 0
set_option linter.unusedSimpArgs false
set_option linter.unusedVariables false
def loudB (n : Nat) (len : Int) : Bool := decide (3 < n ∧ n ≤ 5) || decide (20 < n) || decide (12 < len ∧ len ≤ 40)
theorem loudB_false {n : Nat} {len : Int} (h : loudB n len = false) : (n ≤ 3 ∨ 5 < n) ∧ n ≤ 20 ∧ (len ≤ 12 ∨ 40 < len) := by
  unfold loudB at h
  simp only [Bool.or_eq_false_iff, decide_eq_false_iff_not] at h
  omega
theorem loud_fn (w : World) (x y : Int) (a : Option Addr) (n c : Nat) : SX.Fn Try.prog 8 [.agg #[I x, .slice a n c, I y]] w (fun _ => False) fun r N => r = .bool (loudB n y) := by
  by_cases c1 : 3 < n
  · have p1 : ((n : Int) > 3) = True := eq_true (by omega)
    by_cases c2 : n ≤ 5
    · have p2 : ((n : Int) ≤ 5) = True := eq_true (by omega)
      have : loudB n y = true := by unfold loudB; simp [c1, c2]
      rw [this]
      refine walk [] [] (det0_ok _ _) Try.func8 rfl Try.ntmps8 res8 (by kernel_rfl) no_facts ?_
      simp (config := { maxSteps := 4000000 }) only [↓sx0, ↓sx1, ↓sx2, ↓sx3, ↓sx4, ↓sx5, ↓sx6, sx0, sx1, sx2, sx3, sx4, sx5, sx6, tf8, ev3_hold, sxo, sxc, sxp, sxq, sxr, sxs, sxl, sxm, simprocAttr, p1, p2]
    have p2 : ((n : Int) ≤ 5) = False := eq_false (by omega)
    by_cases c3 : 20 < n
    · have p3 : ((n : Int) > 20) = True := eq_true (by omega)
      have : loudB n y = true := by unfold loudB; simp [c3]
      rw [this]
      refine walk [] [] (det0_ok _ _) Try.func8 rfl Try.ntmps8 res8 (by kernel_rfl) no_facts ?_
      simp (config := { maxSteps := 4000000 }) only [↓sx0, ↓sx1, ↓sx2, ↓sx3, ↓sx4, ↓sx5, ↓sx6, sx0, sx1, sx2, sx3, sx4, sx5, sx6, tf8, ev3_hold, sxo, sxc, sxp, sxq, sxr, sxs, sxl, sxm, simprocAttr, p1, p2, p3]
    have p3 : ((n : Int) > 20) = False := eq_false (by omega)
    by_cases c4 : 12 < y
    · have p4 : (y > 12) = True := eq_true c4
      by_cases c5 : y ≤ 40
      · have p5 : (y ≤ 40) = True := eq_true c5
        have : loudB n y = true := by unfold loudB; simp [c4, c5]
        rw [this]
        refine walk [] [] (det0_ok _ _) Try.func8 rfl Try.ntmps8 res8 (by kernel_rfl) no_facts ?_
        simp (config := { maxSteps := 4000000 }) only [↓sx0, ↓sx1, ↓sx2, ↓sx3, ↓sx4, ↓sx5, ↓sx6, sx0, sx1, sx2, sx3, sx4, sx5, sx6, tf8, ev3_hold, sxo, sxc, sxp, sxq, sxr, sxs, sxl, sxm, simprocAttr, p1, p2, p3, p4, p5]
      have p5 : (y ≤ 40) = False := eq_false c5
      have : loudB n y = false := by unfold loudB; simp only [Bool.or_eq_false_iff, decide_eq_false_iff_not]; omega
      rw [this]
      refine walk [] [] (det0_ok _ _) Try.func8 rfl Try.ntmps8 res8 (by kernel_rfl) no_facts ?_
      simp (config := { maxSteps := 4000000 }) only [↓sx0, ↓sx1, ↓sx2, ↓sx3, ↓sx4, ↓sx5, ↓sx6, sx0, sx1, sx2, sx3, sx4, sx5, sx6, tf8, ev3_hold, sxo, sxc, sxp, sxq, sxr, sxs, sxl, sxm, simprocAttr, p1, p2, p3, p4, p5]
    have p4 : (y > 12) = False := eq_false c4
    have : loudB n y = false := by unfold loudB; simp only [Bool.or_eq_false_iff, decide_eq_false_iff_not]; omega
    rw [this]
    refine walk [] [] (det0_ok _ _) Try.func8 rfl Try.ntmps8 res8 (by kernel_rfl) no_facts ?_
    simp (config := { maxSteps := 4000000 }) only [↓sx0, ↓sx1, ↓sx2, ↓sx3, ↓sx4, ↓sx5, ↓sx6, sx0, sx1, sx2, sx3, sx4, sx5, sx6, tf8, ev3_hold, sxo, sxc, sxp, sxq, sxr, sxs, sxl, sxm, simprocAttr, p1, p2, p3, p4]
  have p1 : ((n : Int) > 3) = False := eq_false (by omega)
  have p3 : ((n : Int) > 20) = False := eq_false (by omega)
  by_cases c4 : 12 < y
  · have p4 : (y > 12) = True := eq_true c4
    by_cases c5 : y ≤ 40
    · have p5 : (y ≤ 40) = True := eq_true c5
      have : loudB n y = true := by unfold loudB; simp [c4, c5]
      rw [this]
      refine walk [] [] (det0_ok _ _) Try.func8 rfl Try.ntmps8 res8 (by kernel_rfl) no_facts ?_
      simp (config := { maxSteps := 4000000 }) only [↓sx0, ↓sx1, ↓sx2, ↓sx3, ↓sx4, ↓sx5, ↓sx6, sx0, sx1, sx2, sx3, sx4, sx5, sx6, tf8, ev3_hold, sxo, sxc, sxp, sxq, sxr, sxs, sxl, sxm, simprocAttr, p1, p3, p4, p5]
    have p5 : (y ≤ 40) = False := eq_false c5
    have : loudB n y = false := by unfold loudB; simp only [Bool.or_eq_false_iff, decide_eq_false_iff_not]; omega
    rw [this]
    refine walk [] [] (det0_ok _ _) Try.func8 rfl Try.ntmps8 res8 (by kernel_rfl) no_facts ?_
    simp (config := { maxSteps := 4000000 }) only [↓sx0, ↓sx1, ↓sx2, ↓sx3, ↓sx4, ↓sx5, ↓sx6, sx0, sx1, sx2, sx3, sx4, sx5, sx6, tf8, ev3_hold, sxo, sxc, sxp, sxq, sxr, sxs, sxl, sxm, simprocAttr, p1, p3, p4, p5]
  have p4 : (y > 12) = False := eq_false c4
  have : loudB n y = false := by unfold loudB; simp only [Bool.or_eq_false_iff, decide_eq_false_iff_not]; omega
  rw [this]
  refine walk [] [] (det0_ok _ _) Try.func8 rfl Try.ntmps8 res8 (by kernel_rfl) no_facts ?_
  simp (config := { maxSteps := 4000000 }) only [↓sx0, ↓sx1, ↓sx2, ↓sx3, ↓sx4, ↓sx5, ↓sx6, sx0, sx1, sx2, sx3, sx4, sx5, sx6, tf8, ev3_hold, sxo, sxc, sxp, sxq, sxr, sxs, sxl, sxm, simprocAttr, p1, p3, p4]
end Go.Proofs.Ytgpglmcbopfddaa

