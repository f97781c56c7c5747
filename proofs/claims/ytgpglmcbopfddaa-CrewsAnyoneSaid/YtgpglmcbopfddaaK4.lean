/- Parts of a proof: the symbolic walk and what it shows of single functions. -/
import Derived.Test.YtgpglmcbopfddaaK3
set_option linter.all false
namespace Go.Proofs.Ytgpglmcbopfddaa
open Go.RowKit Go.SX
set_option maxRecDepth 10000
set_option maxHeartbeats 4000000
set_option linter.unusedSimpArgs false
set_option linter.unusedVariables false
def comw (a b c d : Int) : Int := max 0 (wr (wr (min b d - max a c) + 1))
theorem common_fn (w : World) (a b c d : Int) : SX.Fn Try.prog 73 [.agg #[I a, I b], .agg #[I c, I d]] w (fun _ => False) fun v N => v = I (comw a b c d) := by
  refine walk [] [] (det0_ok _ _) Try.func73 rfl Try.ntmps73 res73 (by kernel_rfl) no_facts ?_
  simp (config := { maxSteps := 4000000 }) only [↓sx0, ↓sx1, ↓sx2, ↓sx3, ↓sx4, ↓sx5, ↓sx6, sx0, sx1, sx2, sx3, sx4, sx5, sx6, tf73, ev3_hold, sxo, sxc, sxp, sxq, sxr, sxs, sxl, sxm, simprocAttr]
  try rfl
theorem isHandN_fn (w : World) (a : Option Addr) (n c : Nat) (x y k : Int) : SX.Fn Try.prog 16 [.agg #[.slice a n c, I x, I y], I k] w (fun _ => False) fun v N => v = .bool (inB k 0 (wr ((n : Int) - 1))) := by
  refine walk [] [] (det1_ok _ _) Try.func16 rfl Try.ntmps16 res16 (by kernel_rfl) no_facts ?_
  simp (config := { maxSteps := 4000000 }) only [↓sx0, ↓sx1, ↓sx2, ↓sx3, ↓sx4, ↓sx5, ↓sx6, sx0, sx1, sx2, sx3, sx4, sx5, sx6, tf16, ev3_hold, sxo, sxc, sxp, sxq, sxr, sxs, sxl, sxm, simprocAttr, det1_eq]
def detB : Nat → List Value → Option Value
  | 73, [.agg ⟨[.int .i64 a, .int .i64 b]⟩, .agg ⟨[.int .i64 c, .int .i64 d]⟩] => some (I (comw a b c d))
  | 16, [.agg ⟨[.slice _ n _, .int .i64 _, .int .i64 _]⟩, .int .i64 k] => some (.bool (inB k 0 (wr ((n : Int) - 1))))
  | g, xs => detA g xs
theorem detB_ok (w0 : World) (X : Nat → Prop) : DetFn Try.prog ⟨w0, X⟩ detB := by
  intro g args v h w hk
  unfold detB at h
  split at h
  · cases h
    exact det_of_fn (common_fn w _ _ _ _)
  · cases h
    exact det_of_fn (isHandN_fn w _ _ _ _ _ _)
  · exact detA_ok w0 X _ _ _ h w hk
theorem detB_eq : (∀ n l h : Int, detB 30 [I n, I l, I h] = some (.bool (inB n l h))) ∧ (∀ n l h : Int, detB 24 [I n, I l, I h] = some (.bool (inB n l h))) ∧
    (∀ n : Int, detB 45 [I n] = some (.bool (inB n 0 255))) ∧
    (∀ a b c d : Int, detB 73 [.agg #[I a, I b], .agg #[I c, I d]] = some (I (comw a b c d))) ∧
    (∀ (a : Option Addr) (n c : Nat) (x y k : Int), detB 16 [.agg #[.slice a n c, I x, I y], I k] = some (.bool (inB k 0 (wr ((n : Int) - 1))))) := ⟨fun _ _ _ => rfl, fun _ _ _ => rfl, fun _ => rfl, fun _ _ _ _ => rfl, fun _ _ _ _ _ _ => rfl⟩
end Go.Proofs.Ytgpglmcbopfddaa

namespace Go.Proofs.Ytgpglmcbopfddaa
open Go.RowKit Go.SX
set_option maxRecDepth 10000
set_option maxHeartbeats 4000000
set_option linter.unusedSimpArgs false
set_option linter.unusedVariables false
def CpN (N : List HO) (v : Value) (s : Stn) : Prop := ∃ ao co ps, v = .agg #[.slice ao s.hands.length co, I s.window, I s.duty] ∧ ps.map Prod.fst = s.hands ∧ (ao = none → ps = []) ∧ ∃ DF, N = HO.row (.slice ao s.hands.length co) 44 5 (cat hdc ps) :: DF ∧ ∀ p ∈ ps, HO.row (lgv p) 41 2 (cat spc p.1.log) ∈ DF
theorem CpN.ok {N H : List HO} {w0 : Base} {w : World} {v : Value} {s : Stn} (h : CpN N v s) (hm : ∀ h ∈ N, h ∈ H) (hp : Hp w0 H w) : StOk w v s := by
  obtain ⟨ao, co, ps, rfl, h1, h2, DF, rfl, h4⟩ := h
  exact ⟨_, ps, rfl, h1, row_hp (hm _ List.mem_cons_self) hp, fun p hp' => row_hp (hm _ (List.mem_cons_of_mem _ (h4 p hp'))) hp⟩
theorem copy_fn (w : World) (v : Value) (s : Stn) (hs : StOk w v s) (hsm : s.small) : SX.Fn Try.prog 12 [v] w (fun _ => False) fun r N => CpN N r s := by
  obtain ⟨hv, ps, rfl, hps, hsl, hlg⟩ := hs
  obtain ⟨a, n, c, rfl⟩ := hsl.shape
  have hn := hsl.le hdc_len (by omega)
  have hlen : s.hands.length = ps.length := by rw [← hps, List.length_map]
  subst hn
  have hr := hsl.rd0
  have hsm1 := hsm.1
  refine walk [5] [] (det0_ok _ _) Try.func12 rfl Try.ntmps12 res12 (by kernel_rfl) no_facts ?_
  simp (config := { maxSteps := 4000000 }) only [↓sx0, ↓sx1, ↓sx2, ↓sx3, ↓sx4, ↓sx5, ↓sx6, sx0, sx1, sx2, sx3, sx4, sx5, sx6, tf12, ev3_hold, sxo, sxc, sxp, sxq, sxr, sxs, sxl, sxm, simprocAttr, det0]
  refine loop_boxH [.row (.slice none 0 0) 44 5 []] (HImp.nilRow _ _ _ _) [(4, 5), (8, 30)] (fun q : Nat × Value => [(4, I q.1)]) (fun q => [(24, [.slice a ps.length c, I s.window, I s.duty]), (24, [.slice none 0 0, I 0, I 0]), (24, [q.2, I s.window, I s.duty])])
    (fun q H1 => q.1 ≤ ps.length ∧ ∃ ao co ps' DF, q.2 = .slice ao q.1 co ∧ ps'.map Prod.fst = s.hands.take q.1 ∧ (ao = none → ps' = []) ∧ H1 = .row (.slice ao q.1 co) 44 5 (cat hdc ps') :: DF ∧ ∀ p ∈ ps', HO.row (lgv p) 41 2 (cat spc p.1.log) ∈ DF)
    (fun q => ps.length - q.1) (0, .slice none 0 0) ?_ rfl (fun _ => rfl) ⟨Nat.zero_le _, none, 0, [], [], rfl, rfl, fun _ => rfl, rfl, fun p hp => (by cases hp)⟩ ?_
  · simp (config := { maxSteps := 4000000 }) only [↓sx0, ↓sx1, ↓sx2, ↓sx3, ↓sx4, ↓sx5, ↓sx6, sx0, sx1, sx2, sx3, sx4, sx5, sx6, tf12, ev3_hold, sxo, sxc, sxp, sxq, sxr, sxs, sxl, sxm, simprocAttr]
    try simp
  rintro ⟨k, x⟩ H1 g1 hinv
  simp only [] at hinv
  obtain ⟨hk, ao, co, ps', DF, rfl, hps', hnil, rfl, hdf⟩ := hinv
  by_cases hkn : k = ps.length
  · have e7 : ((k : Int) < (ps.length : Int)) = False := eq_false (by omega)
    refine ⟨?_⟩
    simp (config := { maxSteps := 4000000 }) only [↓sx0, ↓sx1, ↓sx2, ↓sx3, ↓sx4, ↓sx5, ↓sx6, sx0, sx1, sx2, sx3, sx4, sx5, sx6, tf12, ev3_hold, sxo, sxc, sxp, sxq, sxr, sxs, sxl, sxm, simprocAttr, e7]
    exact ⟨ao, co, ps', by rw [hlen, hkn], by rw [hps', List.take_of_length_le (by omega)], hnil, DF, by rw [hlen, ← hkn], hdf⟩
  have e7 : ((k : Int) < (ps.length : Int)) = True := eq_true (by omega)
  have e2 : wr (k + 1) = ((k + 1 : Nat) : Int) := (wrap_id (by omega)).trans (by omega)
  have hkl : k < ps.length := by omega
  have hu := List.getElem?_eq_getElem hkl
  have hm := List.getElem_mem hkl
  have hhk : s.hands[k]? = some (ps[k]).1 := by rw [← hps, List.getElem?_map, hu]; rfl
  have hl' : ps'.length = k := by
    have := congrArg List.length hps'
    rw [List.length_map, List.length_take] at this
    omega
  generalize ps[k] = p at hu hm hhk
  have hlo := hlg p hm
  have hl1 : (lgv p).oneCell' = true := rfl
  have hb1 : p.1.log.length ≤ 100 := hsm.2 _ (List.mem_of_getElem? hhk)
  refine ⟨?_⟩
  simp (config := { maxSteps := 4000000 }) only [↓sx0, ↓sx1, ↓sx2, ↓sx3, ↓sx4, ↓sx5, ↓sx6, sx0, sx1, sx2, sx3, sx4, sx5, sx6, tf12, ev3_hold, sxo, sxc, sxp, sxq, sxr, sxs, sxl, sxm, simprocAttr, e7]
  refine amid (at_n (hr _) hdc_len (by omega) hu fun ad => ?_)
  have hq : hdc p = [I p.1.skills, I p.1.low, I p.1.high, lgv p, I p.1.ans] := rfl
  rw [hq]
  simp (config := { maxSteps := 4000000 }) only [↓sx0, ↓sx1, ↓sx2, ↓sx3, ↓sx4, ↓sx5, ↓sx6, sx0, sx1, sx2, sx3, sx4, sx5, sx6, tf12, ev3_hold, sxo, sxc, sxp, sxq, sxr, sxs, sxl, sxm, simprocAttr, hl1]
  intro bh
  refine wr_cell (A := []) rfl (by simp) ?_
  simp (config := { maxSteps := 4000000 }) only [↓sx0, ↓sx1, ↓sx2, ↓sx3, ↓sx4, ↓sx5, ↓sx6, sx0, sx1, sx2, sx3, sx4, sx5, sx6, tf12, ev3_hold, sxo, sxc, sxp, sxq, sxr, sxs, sxl, sxm, simprocAttr, List.take, List.drop, List.length_cons, List.length_nil, List.nil_append]
  intro b1
  refine ld_cella (List.mem_cons_of_mem _ List.mem_cons_self) rfl ?_
  simp (config := { maxSteps := 4000000 }) only [↓sx0, ↓sx1, ↓sx2, ↓sx3, ↓sx4, ↓sx5, ↓sx6, sx0, sx1, sx2, sx3, sx4, sx5, sx6, tf12, ev3_hold, sxo, sxc, sxp, sxq, sxr, sxs, sxl, sxm, simprocAttr, hl1]
  refine app_at (f := spc) (l := []) (m := p.1.log) (HImp.refl _ _) spc_len (fun p => by simp [spc, Value.oneCell']) (fun w' hp' => Sl.hp (w0 := ⟨w, fun _ => False⟩) hlo (fun _ _ => id) hp') (bytes := 16) (by simp only [List.length_nil]; omega) ?_
  intro ad2 c2 hnil2
  rw [List.nil_append, List.length_nil, Nat.zero_add]
  simp (config := { maxSteps := 4000000 }) only [↓sx0, ↓sx1, ↓sx2, ↓sx3, ↓sx4, ↓sx5, ↓sx6, sx0, sx1, sx2, sx3, sx4, sx5, sx6, tf12, ev3_hold, sxo, sxc, sxp, sxq, sxr, sxs, sxl, sxm, simprocAttr]
  refine wr_cella (A := [_]) rfl (by simp) ?_
  simp (config := { maxSteps := 4000000 }) only [↓sx0, ↓sx1, ↓sx2, ↓sx3, ↓sx4, ↓sx5, ↓sx6, sx0, sx1, sx2, sx3, sx4, sx5, sx6, tf12, ev3_hold, sxo, sxc, sxp, sxq, sxr, sxs, sxl, sxm, simprocAttr, List.take, List.drop, List.length_cons, List.length_nil, List.nil_append, List.cons_append]
  refine ld_cells (o := 0) (n := 5) (hdc (p.1, ad2, c2)) (List.mem_cons_of_mem _ List.mem_cons_self) rfl rfl ?_
  simp (config := { maxSteps := 4000000 }) only [↓sx0, ↓sx1, ↓sx2, ↓sx3, ↓sx4, ↓sx5, ↓sx6, sx0, sx1, sx2, sx3, sx4, sx5, sx6, tf12, ev3_hold, sxo, sxc, sxp, sxq, sxr, sxs, sxl, sxm, simprocAttr, hdc_len]
  intro b4
  refine app_one (l := ps') (A := .row (.slice ad2 p.1.log.length c2) 41 2 (cat spc p.1.log) :: .cells bh 44 [I p.1.skills, I p.1.low, I p.1.high, .slice ad2 p.1.log.length c2, I p.1.ans] :: DF) (p.1, ad2, c2) (HImp.perm ?_) hdc_len hdc_one (by omega) fun ad3 c3 => ?_
  · exact (List.Perm.cons _ (List.Perm.swap _ _ _)).trans (List.Perm.swap _ _ _)
  rw [hl']
  simp (config := { maxSteps := 4000000 }) only [↓sx0, ↓sx1, ↓sx2, ↓sx3, ↓sx4, ↓sx5, ↓sx6, sx0, sx1, sx2, sx3, sx4, sx5, sx6, tf12, ev3_hold, sxo, sxc, sxp, sxq, sxr, sxs, sxl, sxm, simprocAttr, e2]
  refine ⟨(k + 1, .slice (some ad3) (k + 1) c3), _, rfl, rfl, HImp.refl _ _, ⟨by simp only []; omega, some ad3, c3, ps' ++ [(p.1, ad2, c2)], _, rfl, ?_, fun h => (by cases h), rfl, fun p2 hp2 => ?_⟩, by simp only []; omega⟩
  · simp only []
    rw [List.map_append, hps', List.take_add_one, hhk]
    try rfl
  · rcases List.mem_append.1 hp2 with h | h
    · exact List.mem_cons_of_mem _ (List.mem_cons_of_mem _ (hdf _ h))
    · rw [List.mem_singleton] at h
      subst h
      exact List.mem_cons_self
end Go.Proofs.Ytgpglmcbopfddaa

namespace Go.Proofs.Ytgpglmcbopfddaa
open Go.RowKit Go.SX
set_option maxRecDepth 10000
set_option maxHeartbeats 4000000
set_option linter.unusedSimpArgs false
set_option linter.unusedVariables false
def bigB (s : Stn) : Bool := decide (12 < s.hands.length) || s.hands.any (fun h => decide (12 < h.log.length)) || (s.okB && (decide (6 < s.hands.length) || decide (20 < s.window)))
theorem bigB_false {s : Stn} (h : bigB s = false) : s.small ∧ s.hands.length ≤ 12 ∧ (s.okB = true → s.hands.length ≤ 6 ∧ s.window ≤ 20) := by
  unfold bigB at h
  simp only [Bool.or_eq_false_iff, Bool.and_eq_false_imp, decide_eq_false_iff_not, List.any_eq_false, decide_eq_true_eq] at h
  obtain ⟨⟨h1, h2⟩, h3⟩ := h
  refine ⟨⟨by omega, fun x hx => ?_⟩, by omega, fun hk => ?_⟩
  · have := h2 x hx
    omega
  · have := h3 hk
    omega
theorem big_fn (w : World) (v : Value) (s : Stn) (hs : StOk w v s) : SX.Fn Try.prog 7 [v] w (fun _ => False) fun r N => r = .bool (bigB s) := by
  have hs0 := hs
  obtain ⟨hv, ps, rfl, hps, hsl, hlg⟩ := hs
  obtain ⟨a, n, c, rfl⟩ := hsl.shape
  have hn := hsl.le hdc_len (by omega)
  have hlen : s.hands.length = ps.length := by rw [← hps, List.length_map]
  subst hn
  have hr := hsl.rd0
  by_cases h12 : 12 < ps.length
  · have e0 : ((ps.length : Int) > 12) = True := eq_true (by omega)
    have hb : bigB s = true := by
      unfold bigB
      rw [decide_eq_true (by omega : 12 < s.hands.length), Bool.true_or, Bool.true_or]
    rw [hb]
    refine walk [] [] (det0_ok _ _) Try.func7 rfl Try.ntmps7 res7 (by kernel_rfl) no_facts ?_
    simp (config := { maxSteps := 4000000 }) only [↓sx0, ↓sx1, ↓sx2, ↓sx3, ↓sx4, ↓sx5, ↓sx6, sx0, sx1, sx2, sx3, sx4, sx5, sx6, tf7, ev3_hold, sxo, sxc, sxp, sxq, sxr, sxs, sxl, sxm, simprocAttr, e0]
  have e0 : ((ps.length : Int) > 12) = False := eq_false (by omega)
  have hyes : ∀ p ∈ ps, 12 < p.1.log.length → bigB s = true := fun p hp h => by
    unfold bigB
    rw [(List.any_eq_true (p := fun h : Hnd => decide (12 < h.log.length)) (l := s.hands)).2 ⟨p.1, by rw [← hps]; exact List.mem_map_of_mem hp, decide_eq_true h⟩, Bool.or_true, Bool.true_or]
  have hno : (∀ p ∈ ps, ¬ 12 < p.1.log.length) → bigB s = (s.okB && (decide (6 < s.hands.length) || decide (20 < s.window))) ∧ s.small := fun h => by
    have h1 : s.hands.any (fun h : Hnd => decide (12 < h.log.length)) = false := by
      rw [List.any_eq_false]
      intro x hx
      rw [← hps] at hx
      obtain ⟨p, hp, rfl⟩ := List.mem_map.1 hx
      have := h p hp
      simpa using this
    refine ⟨?_, by omega, fun x hx => ?_⟩
    · unfold bigB
      rw [h1, decide_eq_false (by omega), Bool.or_self, Bool.false_or]
    · rw [← hps] at hx
      obtain ⟨p, hp, rfl⟩ := List.mem_map.1 hx
      have := h p hp
      omega
  generalize hB : bigB s = B at hyes hno
  refine walk [] [] (det0_ok _ _) Try.func7 rfl Try.ntmps7 res7 (by kernel_rfl) no_facts ?_
  simp (config := { maxSteps := 4000000 }) only [↓sx0, ↓sx1, ↓sx2, ↓sx3, ↓sx4, ↓sx5, ↓sx6, sx0, sx1, sx2, sx3, sx4, sx5, sx6, tf7, ev3_hold, sxo, sxc, sxp, sxq, sxr, sxs, sxl, sxm, simprocAttr, e0]
  refine loop_constH [] (HImp.nil _ _) [(2, 3), (8, 22)] (fun i : Nat => [(2, .bool false), (3, I i)]) (fun i H1 => i ≤ ps.length ∧ ∀ p ∈ ps.take i, ¬ 12 < p.1.log.length) (fun i => ps.length - i) 0 ?_ ⟨Nat.zero_le _, by simp⟩ ?_
  · simp (config := { maxSteps := 4000000 }) only [↓sx0, ↓sx1, ↓sx2, ↓sx3, ↓sx4, ↓sx5, ↓sx6, sx0, sx1, sx2, sx3, sx4, sx5, sx6, tf7, ev3_hold, sxo, sxc, sxp, sxq, sxr, sxs, sxl, sxm, simprocAttr]
    try simp
  rintro i H1 g1 hinv
  have hi := hinv.1
  have hall := hinv.2
  by_cases hin : i = ps.length
  · have e7 : ((i : Int) < (ps.length : Int)) = False := eq_false (by omega)
    have hq := hno (by rwa [List.take_of_length_le (by omega)] at hall)
    refine ⟨?_⟩
    simp (config := { maxSteps := 4000000 }) only [↓sx0, ↓sx1, ↓sx2, ↓sx3, ↓sx4, ↓sx5, ↓sx6, sx0, sx1, sx2, sx3, sx4, sx5, sx6, tf7, ev3_hold, sxo, sxc, sxp, sxq, sxr, sxs, sxl, sxm, simprocAttr, e7, det0]
    refine CallOb.pureH (fun w' hp' => rcheck_fn w' _ s (hs0.hp hp') hq.2) ?_
    rintro r N rfl
    cases hok : s.okB with
    | false =>
      rw [hok, Bool.false_and] at hq
      rw [hq.1]
      refine ⟨?_⟩
      simp (config := { maxSteps := 4000000 }) only [↓sx0, ↓sx1, ↓sx2, ↓sx3, ↓sx4, ↓sx5, ↓sx6, sx0, sx1, sx2, sx3, sx4, sx5, sx6, tf7, ev3_hold, sxo, sxc, sxp, sxq, sxr, sxs, sxl, sxm, simprocAttr]
    | true =>
      rw [hok, Bool.true_and] at hq
      by_cases c1 : 6 < s.hands.length
      · have p1 : ((ps.length : Int) > 6) = True := eq_true (by omega)
        rw [decide_eq_true c1, Bool.true_or] at hq
        rw [hq.1]
        refine ⟨?_⟩
        simp (config := { maxSteps := 4000000 }) only [↓sx0, ↓sx1, ↓sx2, ↓sx3, ↓sx4, ↓sx5, ↓sx6, sx0, sx1, sx2, sx3, sx4, sx5, sx6, tf7, ev3_hold, sxo, sxc, sxp, sxq, sxr, sxs, sxl, sxm, simprocAttr, p1]
      · have p1 : ((ps.length : Int) > 6) = False := eq_false (by omega)
        rw [decide_eq_false c1, Bool.false_or] at hq
        by_cases c2 : 20 < s.window
        · have p2 : (s.window > 20) = True := eq_true c2
          rw [decide_eq_true c2] at hq
          rw [hq.1]
          refine ⟨?_⟩
          simp (config := { maxSteps := 4000000 }) only [↓sx0, ↓sx1, ↓sx2, ↓sx3, ↓sx4, ↓sx5, ↓sx6, sx0, sx1, sx2, sx3, sx4, sx5, sx6, tf7, ev3_hold, sxo, sxc, sxp, sxq, sxr, sxs, sxl, sxm, simprocAttr, p1, p2]
        · have p2 : (s.window > 20) = False := eq_false c2
          rw [decide_eq_false c2] at hq
          rw [hq.1]
          refine ⟨?_⟩
          simp (config := { maxSteps := 4000000 }) only [↓sx0, ↓sx1, ↓sx2, ↓sx3, ↓sx4, ↓sx5, ↓sx6, sx0, sx1, sx2, sx3, sx4, sx5, sx6, tf7, ev3_hold, sxo, sxc, sxp, sxq, sxr, sxs, sxl, sxm, simprocAttr, p1, p2]
  have e7 : ((i : Int) < (ps.length : Int)) = True := eq_true (by omega)
  have e2 : wr (i + 1) = ((i + 1 : Nat) : Int) := (wrap_id (by omega)).trans (by omega)
  have hil : i < ps.length := by omega
  have hu := List.getElem?_eq_getElem hil
  have hmem := List.getElem_mem hil
  have htk : ps.take (i + 1) = ps.take i ++ [ps[i]] := (List.take_append_getElem hil).symm
  generalize ps[i] = p at hu hmem htk
  have hyp := hyes p hmem
  by_cases c1 : 12 < p.1.log.length
  · have p1 : ((p.1.log.length : Int) > 12) = True := eq_true (by omega)
    rw [hyp c1]
    refine ⟨?_⟩
    simp (config := { maxSteps := 4000000 }) only [↓sx0, ↓sx1, ↓sx2, ↓sx3, ↓sx4, ↓sx5, ↓sx6, sx0, sx1, sx2, sx3, sx4, sx5, sx6, tf7, ev3_hold, sxo, sxc, sxp, sxq, sxr, sxs, sxl, sxm, simprocAttr, e7]
    refine amid (at_f (o := 3) (hr _) hdc_len hu rfl fun ad => ?_)
    unfold lgv
    simp (config := { maxSteps := 4000000 }) only [↓sx0, ↓sx1, ↓sx2, ↓sx3, ↓sx4, ↓sx5, ↓sx6, sx0, sx1, sx2, sx3, sx4, sx5, sx6, tf7, ev3_hold, sxo, sxc, sxp, sxq, sxr, sxs, sxl, sxm, simprocAttr, p1]
  have p1 : ((p.1.log.length : Int) > 12) = False := eq_false (by omega)
  refine ⟨?_⟩
  simp (config := { maxSteps := 4000000 }) only [↓sx0, ↓sx1, ↓sx2, ↓sx3, ↓sx4, ↓sx5, ↓sx6, sx0, sx1, sx2, sx3, sx4, sx5, sx6, tf7, ev3_hold, sxo, sxc, sxp, sxq, sxr, sxs, sxl, sxm, simprocAttr, e7]
  refine amid (at_f (o := 3) (hr _) hdc_len hu rfl fun ad => ?_)
  unfold lgv
  simp (config := { maxSteps := 4000000 }) only [↓sx0, ↓sx1, ↓sx2, ↓sx3, ↓sx4, ↓sx5, ↓sx6, sx0, sx1, sx2, sx3, sx4, sx5, sx6, tf7, ev3_hold, sxo, sxc, sxp, sxq, sxr, sxs, sxl, sxm, simprocAttr, p1, e2]
  refine ⟨i + 1, _, rfl, HImp.refl _ _, ⟨by omega, fun x hx => ?_⟩, by omega⟩
  rw [htk] at hx
  rcases List.mem_append.1 hx with h | h
  · exact hall x h
  · rw [List.mem_singleton] at h
    subst h
    exact c1
end Go.Proofs.Ytgpglmcbopfddaa

