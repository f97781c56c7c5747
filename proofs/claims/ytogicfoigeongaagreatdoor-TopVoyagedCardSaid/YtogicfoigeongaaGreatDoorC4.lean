/- Parts of a proof: the symbolic walk and what it shows of single functions. -/
import Derived.Test.YtogicfoigeongaaGreatDoorC3
import Derived.Test.YtogicfoigeongaaGreatDoorX3
set_option linter.all false
namespace Go.Proofs.YtogicfoigeongaaGreatDoor
open Go.RowKit Go.SX
set_option maxRecDepth 4000
set_option maxHeartbeats 8000000
set_option linter.unusedSimpArgs false
set_option linter.unusedVariables false
theorem sail_fn (w : World) (sD sT sS sc st : Value) (c : Cht) (g : Int) (lc lt : List Int) (hc : ChOk w (.agg #[I c.wide, I c.high, sD, sT, sS]) c) (hsm : c.small) (h1 : Sl w sc 1 (ints lc)) (h2 : Sl w st 1 (ints lt)) (hl : lc.length ≤ 100 ∧ lt.length ≤ 100) :
    SX.Fn Tryz.prog 36 [.agg #[I c.wide, I c.high, sD, sT, sS], I g, sc, st] w (fun _ => False) fun r N => r = .tuple #[.agg #[I c.wide, I c.high, sD, sT, sS, I g], I (openE c lc lt [g])] := by
  have hc0 := hc
  obtain ⟨sD', sT', sS', he, hsD, hsT, hsS⟩ := hc
  injection he with he
  injection he with he
  simp only [List.cons.injEq, true_and, and_true] at he
  obtain ⟨rfl, rfl, rfl⟩ := he
  obtain ⟨aD, nD, cD, rfl⟩ := hsD.shape
  obtain ⟨aT, nT, cT, rfl⟩ := hsT.shape
  obtain ⟨aS, nS, cS, rfl⟩ := hsS.shape
  obtain ⟨a1, n1, c1, rfl⟩ := h1.shape
  obtain ⟨a2, n2, c2, rfl⟩ := h2.shape
  refine walk [] [] (det0_ok _ _) Tryz.func36 rfl Tryz.ntmps36 res36 (by kernel_rfl) no_facts ?_
  simp (config := { maxSteps := 4000000 }) only [↓sx0, ↓sx1, ↓sx2, ↓sx3, ↓sx4, ↓sx5, ↓sx6, sx0, sx1, sx2, sx3, sx4, sx5, sx6, tf36, ev3_hold, sxo, sxc, sxp, sxq, sxr, sxs, sxl, sxm, simprocAttr, det0]
  intro b
  refine CallOb.pure (fun w' hp => open_fn w' _ _ _ _ c lc lt [g] (hc0.hp hp) hsm (h1.hp (fun _ _ => id) hp) (h2.hp (fun _ _ => id) hp) (row_hp (E := 3) (xs := ints [g]) (by simp [cat, i1]) hp) (by simp; omega)) ?_
  rintro r N rfl
  simp (config := { maxSteps := 4000000 }) only [↓sx0, ↓sx1, ↓sx2, ↓sx3, ↓sx4, ↓sx5, ↓sx6, sx0, sx1, sx2, sx3, sx4, sx5, sx6, tf36, ev3_hold, sxo, sxc, sxp, sxq, sxr, sxs, sxl, sxm, simprocAttr]
theorem begin_fn (w : World) (sD sT sS : Value) (c : Cht) (hc : ChOk w (.agg #[I c.wide, I c.high, sD, sT, sS]) c) (hok : c.ok) (g : Int) (k t : Nat) (hk : k < c.depth.length) (ht : t < c.tide.length) (hn : c.depth.length < 200) :
    SX.Fn Tryz.prog 69 [.agg #[I c.wide, I c.high, sD, sT, sS, I g], I k, I t] w (fun _ => False) fun r N => ∃ b, r = .slice (some ⟨b, 0, none⟩) c.depth.length c.depth.length ∧ HO.row (.slice (some ⟨b, 0, none⟩) c.depth.length c.depth.length) 4 1 (bools ((List.replicate c.depth.length false).set k (decide (c.over k t (c.tlo t) ≥ g)))) ∈ N := by
  have hc0 := hc
  obtain ⟨sD', sT', sS', he, hsD, hsT, hsS⟩ := hc
  injection he with he
  injection he with he
  simp only [List.cons.injEq, true_and, and_true] at he
  obtain ⟨rfl, rfl, rfl⟩ := he
  obtain ⟨aD, nD, cD, rfl⟩ := hsD.shape
  have hnD := hsD.le i1_len (by omega)
  subst hnD
  refine walk [] [] (det0_ok _ _) Tryz.func69 rfl Tryz.ntmps69 res69 (by kernel_rfl) no_facts ?_
  simp (config := { maxSteps := 4000000 }) only [↓sx0, ↓sx1, ↓sx2, ↓sx3, ↓sx4, ↓sx5, ↓sx6, sx0, sx1, sx2, sx3, sx4, sx5, sx6, tf69, ev3_hold, sxo, sxc, sxp, sxq, sxr, sxs, sxl, sxm, simprocAttr, det0]
  refine ⟨by omega, by omega, by omega, fun b => ?_⟩
  refine CallOb.pure (fun w' hp => floats_fn w' _ _ _ c (hc0.hp hp) hok g k t hk ht) ?_
  rintro r N rfl
  simp (config := { maxSteps := 4000000 }) only [↓sx0, ↓sx1, ↓sx2, ↓sx3, ↓sx4, ↓sx5, ↓sx6, sx0, sx1, sx2, sx3, sx4, sx5, sx6, tf69, ev3_hold, sxo, sxc, sxp, sxq, sxr, sxs, sxl, sxm, simprocAttr]
  rw [show zerosL c.depth.length [Value.bool false] = bools (List.replicate c.depth.length false) from zeros_cat b1 false _]
  refine ⟨by omega, by omega, _, rfl, ?_⟩
  refine wr_at (A := N) (B := []) (l := List.replicate c.depth.length false) (k := k) (u := decide (c.over k t (c.tlo t) ≥ g)) rfl b1_len (by simp) (by simp; exact hk) ?_
  exact ⟨b, rfl, by simp⟩
end Go.Proofs.YtogicfoigeongaaGreatDoor

namespace Go.Proofs.YtogicfoigeongaaGreatDoor
open Go.RowKit Go.SX
set_option maxRecDepth 4000
set_option maxHeartbeats 8000000
set_option linter.unusedSimpArgs false
set_option linter.unusedVariables false
def Cht.flt (c : Cht) (g : Int) (t k : Nat) : Bool := decide (c.over k t (c.tlo t) ≥ g)
def sprN (c : Cht) (g : Int) (t : Nat) (ns : List Nat) (out : List Bool) : List Bool := ns.foldl (fun o n => o.set n (c.flt g t n)) out
theorem sprN_len (c : Cht) (g : Int) (t : Nat) : ∀ (ns : List Nat) (out : List Bool), (sprN c g t ns out).length = out.length
  | [], _ => rfl
  | n :: ns, out => by rw [sprN, List.foldl_cons]; exact (sprN_len c g t ns _).trans (List.length_set ..)
def sprK (c : Cht) (g : Int) (t : Nat) (cells : List Bool) : Nat → List Bool
  | 0 => List.replicate cells.length false
  | k + 1 => if cells.getD k false then sprN c g t (nbL c.W c.H k) (sprK c g t cells k) else sprK c g t cells k
theorem sprK_len (c : Cht) (g : Int) (t : Nat) (cells : List Bool) : ∀ k, (sprK c g t cells k).length = cells.length
  | 0 => by simp [sprK]
  | k + 1 => by
    unfold sprK
    split
    · rw [sprN_len, sprK_len c g t cells k]
    · exact sprK_len c g t cells k
theorem sprN_get (c : Cht) (g : Int) (t x : Nat) : ∀ (ns : List Nat) (out : List Bool), x < out.length → ((sprN c g t ns out).getD x false = if x ∈ ns then c.flt g t x else out.getD x false)
  | [], out, _ => by simp [sprN]
  | n :: ns, out, hx => by
    rw [sprN, List.foldl_cons]
    have ih := sprN_get c g t x ns (out.set n (c.flt g t n)) (by simpa using hx)
    rw [sprN] at ih
    rw [ih]
    by_cases h1 : x ∈ ns
    · simp [h1]
    · by_cases h2 : x = n
      · subst h2
        rw [if_neg h1, if_pos List.mem_cons_self, List.getD_eq_getElem?_getD, List.getElem?_set_self hx]
        try rfl
      · rw [if_neg h1, if_neg (by simp [h1, h2]), List.getD_eq_getElem?_getD, List.getElem?_set_ne (by omega), ← List.getD_eq_getElem?_getD]
theorem sprK_get (c : Cht) (g : Int) (t x : Nat) (cells : List Bool) (hx : x < cells.length) : ∀ k, (sprK c g t cells k).getD x false = true ↔ c.flt g t x = true ∧ ∃ y, y < k ∧ cells.getD y false = true ∧ x ∈ nbL c.W c.H y
  | 0 => by
    rw [sprK, List.getD_eq_getElem?_getD, List.getElem?_replicate, if_pos hx]
    try simp
  | k + 1 => by
    have ih := sprK_get c g t x cells hx k
    rw [sprK]
    cases hc : cells.getD k false with
    | false =>
      simp only [Bool.false_eq_true, if_false]
      rw [ih]
      constructor
      · rintro ⟨a, y, b, d⟩
        exact ⟨a, y, by omega, d⟩
      · rintro ⟨a, y, b, d, e⟩
        refine ⟨a, y, ?_, d, e⟩
        by_cases h : y = k
        · subst h; rw [hc] at d; cases d
        · omega
    | true =>
      simp only [if_true]
      rw [sprN_get c g t x _ _ (by rw [sprK_len]; exact hx)]
      by_cases hm : x ∈ nbL c.W c.H k
      · rw [if_pos hm]
        exact ⟨fun h => ⟨h, k, by omega, hc, hm⟩, fun h => h.1⟩
      · rw [if_neg hm, ih]
        constructor
        · rintro ⟨a, y, b, d⟩
          exact ⟨a, y, by omega, d⟩
        · rintro ⟨a, y, b, d, e⟩
          refine ⟨a, y, ?_, d, e⟩
          by_cases h : y = k
          · subst h; exact absurd e hm
          · omega
end Go.Proofs.YtogicfoigeongaaGreatDoor

namespace Go.Proofs.YtogicfoigeongaaGreatDoor
open Go.RowKit Go.SX
set_option maxRecDepth 4000
set_option maxHeartbeats 8000000
set_option linter.unusedSimpArgs false
set_option linter.unusedVariables false
theorem spread_fn (w : World) (hw : Ways w) (sD sT sS vc : Value) (c : Cht) (hc : ChOk w (.agg #[I c.wide, I c.high, sD, sT, sS]) c) (hok : c.ok) (g : Int) (cells : List Bool) (hcs : Sl w vc 1 (bools cells)) (hcl : cells.length = c.depth.length) (t : Nat) (ht : t < c.tide.length) (hn : c.depth.length < 200) :
    SX.Fn Tryz.prog 70 [.agg #[I c.wide, I c.high, sD, sT, sS, I g], vc, I t] w (fun _ => False) fun r N => ∃ b, r = .slice (some ⟨b, 0, none⟩) c.depth.length c.depth.length ∧ HO.row (.slice (some ⟨b, 0, none⟩) c.depth.length c.depth.length) 4 1 (bools (sprK c g t cells cells.length)) ∈ N := by
  obtain ⟨ac, nc, cc, rfl⟩ := hcs.shape
  have hnc := hcs.le b1_len (by omega)
  obtain rfl : nc = c.depth.length := by omega
  have hrc := hcs.rd0
  have hc0 := hc
  obtain ⟨sD', sT', sS', he, hsD, hsT, hsS⟩ := hc
  injection he with he
  injection he with he
  simp only [List.cons.injEq, true_and, and_true] at he
  obtain ⟨rfl, rfl, rfl⟩ := he
  obtain ⟨eW, eH, hW, hH, hlen⟩ := hok.dims
  refine walk [] [] (det0_ok _ _) Tryz.func70 rfl Tryz.ntmps70 res70 (by kernel_rfl) no_facts ?_
  simp (config := { maxSteps := 4000000 }) only [↓sx0, ↓sx1, ↓sx2, ↓sx3, ↓sx4, ↓sx5, ↓sx6, sx0, sx1, sx2, sx3, sx4, sx5, sx6, tf70, ev3_hold, sxo, sxc, sxp, sxq, sxr, sxs, sxl, sxm, simprocAttr, det0]
  refine ⟨by omega, by omega, by omega, fun b => ?_⟩
  rw [show zerosL c.depth.length [Value.bool false] = bools (List.replicate c.depth.length false) from zeros_cat b1 false _]
  have hrO : ∀ (l : List Bool), l.length = c.depth.length → ∀ G, Rdv ⟨w, fun _ => False⟩ (G ++ [HO.row (.slice (some ⟨b, 0, none⟩) c.depth.length c.depth.length) 4 1 (bools l)]) (.slice (some ⟨b, 0, none⟩) c.depth.length c.depth.length) 1 (bools l) := fun l hl G =>
    row_rdv (E := 4) (by simp) ⟨_, _, _, rfl, by rw [cat_len b1_len, hl], fun h => by cases h⟩
  have hwl := ways_lt hw
  refine loop_const [(8, 10), (16, 35)] (fun k : Nat => [(16, I k)]) (fun k H1 => k ≤ c.depth.length ∧ H1 = [HO.row (.slice (some ⟨b, 0, none⟩) c.depth.length c.depth.length) 4 1 (bools (sprK c g t cells k))]) (fun k => c.depth.length - k) 0 ?_ ⟨Nat.zero_le _, by rw [sprK, hcl]⟩ ?_
  · simp (config := { maxSteps := 4000000 }) only [↓sx0, ↓sx1, ↓sx2, ↓sx3, ↓sx4, ↓sx5, ↓sx6, sx0, sx1, sx2, sx3, sx4, sx5, sx6, tf70, ev3_hold, sxo, sxc, sxp, sxq, sxr, sxs, sxl, sxm, simprocAttr]
    try simp
  · rintro k H1 g1 ⟨hk, rfl⟩
    by_cases hkn : k = c.depth.length
    · have e7 : ((k : Int) < (c.depth.length : Int)) = False := eq_false (by omega)
      simp (config := { maxSteps := 4000000 }) only [↓sx0, ↓sx1, ↓sx2, ↓sx3, ↓sx4, ↓sx5, ↓sx6, sx0, sx1, sx2, sx3, sx4, sx5, sx6, tf70, ev3_hold, sxo, sxc, sxp, sxq, sxr, sxs, sxl, sxm, simprocAttr, e7]
      exact ⟨b, rfl, by rw [hkn, hcl]; simp⟩
    have e7 : ((k : Int) < (c.depth.length : Int)) = True := eq_true (by omega)
    have e8 : wr ((k : Int) + 1) = ((k + 1 : Nat) : Int) := (wrap_id (by omega)).trans (by omega)
    simp (config := { maxSteps := 4000000 }) only [↓sx0, ↓sx1, ↓sx2, ↓sx3, ↓sx4, ↓sx5, ↓sx6, sx0, sx1, sx2, sx3, sx4, sx5, sx6, tf70, ev3_hold, sxo, sxc, sxp, sxq, sxr, sxs, sxl, sxm, simprocAttr, e7]
    refine amid (at_1 (hrc _) b1_len (getD_at (show k < cells.length by omega) false) rfl fun ad1 => ?_)
    cases hck : cells.getD k false with
    | false =>
      simp (config := { maxSteps := 4000000 }) only [↓sx0, ↓sx1, ↓sx2, ↓sx3, ↓sx4, ↓sx5, ↓sx6, sx0, sx1, sx2, sx3, sx4, sx5, sx6, tf70, ev3_hold, sxo, sxc, sxp, sxq, sxr, sxs, sxl, sxm, simprocAttr, e8]
      exact ⟨k + 1, _, rfl, HImp.refl _ _, ⟨by omega, by rw [sprK, hck]; simp⟩, by omega⟩
    | true =>
    simp (config := { maxSteps := 4000000 }) only [↓sx0, ↓sx1, ↓sx2, ↓sx3, ↓sx4, ↓sx5, ↓sx6, sx0, sx1, sx2, sx3, sx4, sx5, sx6, tf70, ev3_hold, sxo, sxc, sxp, sxq, sxr, sxs, sxl, sxm, simprocAttr, det0]
    refine CallOb.pure (fun w' hp => near_fn w' _ _ _ _ _ _) ?_
    rintro r0 N3 ⟨bc, bs, rfl, rfl⟩
    simp (config := { maxSteps := 4000000 }) only [↓sx0, ↓sx1, ↓sx2, ↓sx3, ↓sx4, ↓sx5, ↓sx6, sx0, sx1, sx2, sx3, sx4, sx5, sx6, tf70, ev3_hold, sxo, sxc, sxp, sxq, sxr, sxs, sxl, sxm, simprocAttr]
    refine range_introR Tryz.call65 (nbL c.W c.H k).length (nearArg c.W c.H k) [.cells bc 3 [I k], .cells bs 88 [I c.wide, I c.high, sD, sT, sS]] [HO.row (.slice (some ⟨b, 0, none⟩) c.depth.length c.depth.length) 4 1 (bools (sprK c g t cells k))]
      (fun j L' H' => L' = [(90, [I c.wide, I c.high, sD, sT, sS, I g]), (3, [I t]), (103, [.slice (some ⟨b, 0, none⟩) c.depth.length c.depth.length])] ∧ H' = [HO.row (.slice (some ⟨b, 0, none⟩) c.depth.length c.depth.length) 4 1 (bools (sprN c g t ((nbL c.W c.H k).take j) (sprK c g t cells k)))]) (fun x => x = bc ∨ x = bs ∨ x = 0)
      (HImp.refl _ _) (fun x hx => ?_) (fun w' hp => ?_) ⟨rfl, rfl⟩ ?_ ?_ ?_
    · rcases hx with rfl | rfl | rfl
      · exact .inr ⟨_, List.mem_cons_self, rfl⟩
      · exact .inr ⟨_, List.mem_cons_of_mem _ List.mem_cons_self, rfl⟩
      · exact .inl ⟨hwl, id⟩
    · have h1 := cells_old (w0 := ⟨w, fun _ => False⟩) (b := bs) (List.mem_append_left _ (List.mem_cons_of_mem _ List.mem_cons_self)) hp
      refine near_it w' (hw.hp hp) bc bs c.W c.H k sD sT sS hW hH (by omega) (cells_hp (List.mem_append_left _ List.mem_cons_self) hp) ?_
      rw [← eW, ← eH]
      exact h1
    · rintro j vs F ⟨n, _, rfl, _⟩
      try rfl
    · rintro j vs F L' H' hj ⟨n, hnn, rfl, rfl⟩ - ⟨rfl, rfl⟩
      have hnN : n < c.W * c.H := nbL_lt (by omega) n (List.mem_of_getElem? hnn)
      simp (config := { maxSteps := 4000000 }) only [↓sx0, ↓sx1, ↓sx2, ↓sx3, ↓sx4, ↓sx5, ↓sx6, sx0, sx1, sx2, sx3, sx4, sx5, sx6, tf70, ev3_hold, sxo, sxc, sxp, sxq, sxr, sxs, sxl, sxm, simprocAttr, det0]
      refine CallOb.pure (fun w' hp => floats_fn w' _ _ _ c (hc0.hp hp) hok g n t (by omega) ht) ?_
      rintro r0 N4 rfl
      simp (config := { maxSteps := 4000000 }) only [↓sx0, ↓sx1, ↓sx2, ↓sx3, ↓sx4, ↓sx5, ↓sx6, sx0, sx1, sx2, sx3, sx4, sx5, sx6, tf70, ev3_hold, sxo, sxc, sxp, sxq, sxr, sxs, sxl, sxm, simprocAttr]
      refine ⟨by omega, by omega, _, rfl, ?_⟩
      refine wr_at (A := N4) (B := []) (l := sprN c g t ((nbL c.W c.H k).take j) (sprK c g t cells k)) (k := n) (u := decide (c.over n t (c.tlo t) ≥ g)) rfl b1_len (by rw [sprN_len, sprK_len]; exact hcl) (by rw [sprN_len, sprK_len]; omega) ?_
      simp (config := { maxSteps := 4000000 }) only [↓sx0, ↓sx1, ↓sx2, ↓sx3, ↓sx4, ↓sx5, ↓sx6, sx0, sx1, sx2, sx3, sx4, sx5, sx6, tf70, ev3_hold, sxo, sxc, sxp, sxq, sxr, sxs, sxl, sxm, simprocAttr]
      refine ⟨_, HImp.app _ _ _, ?_⟩
      rw [List.take_add_one, hnn, Option.toList_some, sprN, sprN, List.foldl_append]
      try rfl
    · rintro L' H' - ⟨rfl, rfl⟩
      simp (config := { maxSteps := 4000000 }) only [↓sx0, ↓sx1, ↓sx2, ↓sx3, ↓sx4, ↓sx5, ↓sx6, sx0, sx1, sx2, sx3, sx4, sx5, sx6, tf70, ev3_hold, sxo, sxc, sxp, sxq, sxr, sxs, sxl, sxm, simprocAttr, e8]
      refine ⟨k + 1, _, rfl, HImp.refl _ _, ⟨by omega, ?_⟩, by omega⟩
      rw [List.take_of_length_le (Nat.le_refl _), sprK, hck]
      try simp
end Go.Proofs.YtogicfoigeongaaGreatDoor

namespace Go.Proofs.YtogicfoigeongaaGreatDoor
open Go.RowKit Go.SX
set_option maxRecDepth 4000
set_option maxHeartbeats 8000000
set_option linter.unusedSimpArgs false
set_option linter.unusedVariables false
theorem walkIterA {gf : Nat} {fn : Func} {c : Code} {pre post : List Value} {nt n : Nat} {arg : Nat → List Value → List HO → Prop} {w : World} (A Rs : Nat → Prop) (re : List Nat) (ord : List (Nat × Plan)) {det : Nat → List Value → Option Value} (hD : ∀ X, (∀ b, Rs b → ¬ X b) → DetFn Tryz.prog ⟨w, X⟩ det)
    (hf : Tryz.prog.funcs[gf]? = some fn) (hb : fn.body = some c) (hn : fn.ntmps = nt) (hr : fn.results.toList = []) (hok : codeB ord c = true) (F0 : List HO) (hF : (∀ h ∈ F0, h.ok w) ∧ (∀ h ∈ F0, ∀ b, h.fp b → A b) ∧ F0.Pairwise Apart) (hAR : ∀ b, Rs b → ¬ A b)
    (h : ∀ l J C R, (∀ b, Rs b → ¬ (C b ∨ A b)) → Handler Tryz.prog l n arg w C A J → W (EV w (fun b => C b ∨ A b) re ord det []) c (retQ (EV w (fun b => C b ∨ A b) re ord det []) [] (iterPost n J)) ((pre ++ [Value.func (.yield l) #[] #[]] ++ post).map SV.v ++ List.replicate (nt - (pre ++ [Value.func (.yield l) #[] #[]] ++ post).length) (.v undef)) [] (consu J (some 0) C R :: F0)) :
    Iter Tryz.prog gf pre post n arg A Rs w := by
  refine Iter.introA fun l J C R hRs hA hH hk => ?_
  have hRs' : ∀ b, Rs b → ¬ (C b ∨ A b) := fun b hb hc => hc.elim (hRs b hb) (hAR b hb)
  have hw := h l J C R hRs' hH
  rw [← hr] at hw
  subst hn
  refine Calls.mono (Fn.introZ (E := EV w (fun b => C b ∨ A b) re ord det []) (fun b => C b ∨ R b ∨ A b) hf hb trivial (hD _ hRs') mixed_prog hok ⟨fun g hg => ?_, fun g hg b => ?_, List.pairwise_cons.2 ⟨fun g hg b hb hb' => ?_, hF.2.2⟩⟩ hw) ?_
  · rcases List.mem_cons.1 hg with rfl | hg
    · exact hk
    · exact hF.1 g hg
  · rcases List.mem_cons.1 hg with rfl | hg
    · exact ⟨fun x => x.elim .inl fun x => .inr (.inl x), fun x => .inl x⟩
    · exact ⟨fun x => .inr (.inr (hF.2.1 g hg b x)), fun x => .inr (hF.2.1 g hg b (HO.fp_of_fpx x))⟩
  · have := hA b (hF.2.1 g hg b hb')
    exact (hb.elim this.1 this.2).elim
  · rintro e w' ⟨v, N, he, hk, ho, _, _, hp⟩
    exact ⟨v, N, he, hk, ho, hp⟩
def setN (c : Cht) (g : Int) (k t : Nat) : Nat → List Bool
  | 0 => (List.replicate c.depth.length false).set k (decide (c.over k t (c.tlo t) ≥ g))
  | i + 1 => sprK c g (t + i + 1) (setN c g k t i) (setN c g k t i).length
theorem setN_len (c : Cht) (g : Int) (k t : Nat) : ∀ i, (setN c g k t i).length = c.depth.length
  | 0 => by simp [setN]
  | i + 1 => by rw [setN, sprK_len, setN_len c g k t i]
def forthArg (c : Cht) (g : Int) (k t : Nat) : Nat → List Value → List HO → Prop := fun i vs F => ∃ b, vs = [I ((t + i : Nat) : Int), .slice (some ⟨b, 0, none⟩) c.depth.length c.depth.length] ∧ F = [.ro (.row (.slice (some ⟨b, 0, none⟩) c.depth.length c.depth.length) 4 1 (bools (setN c g k t i)))]
def forthR (w : World) (bb bf : Nat) (sD sT sS : Value) (b : Nat) : Prop := b = bb ∨ b = bf ∨ b = 0 ∨ rsl w sD b ∨ rsl w sT b ∨ rsl w sS b
theorem forth_it (w : World) (hw : Ways w) (bb bf bt : Nat) (sD sT sS : Value) (c : Cht) (hc : ChOk w (.agg #[I c.wide, I c.high, sD, sT, sS]) c) (hok : c.ok) (g : Int) (k t : Nat) (hk : k < c.depth.length) (ht : t < c.tide.length) (hn : c.depth.length < 200)
    (hb : ∀ i v, [I c.wide, I c.high, sD, sT, sS, I g][i]? = some v → w.cell? ⟨bb, i, none⟩ = some v) (hf : w.cell? ⟨bf, 0, none⟩ = some (I k)) (htk : HO.ok w (.cells bt 3 [I t])) (hne : ∀ b, forthR w bb bf sD sT sS b → b ≠ bt) :
    Iter Tryz.prog 68 [] [.pointer (some ⟨bb, 0, none⟩), .pointer (some ⟨bf, 0, none⟩), .pointer (some ⟨bt, 0, none⟩)] (c.tide.length - t) (forthArg c g k t) (fun b => b = bt) (forthR w bb bf sD sT sS) w := by
  have hc0 := hc
  obtain ⟨sD', sT', sS', he, hsD, hsT, hsS⟩ := hc
  injection he with he
  injection he with he
  simp only [List.cons.injEq, true_and, and_true] at he
  obtain ⟨rfl, rfl, rfl⟩ := he
  obtain ⟨aT, nT, cT, rfl⟩ := hsT.shape
  have hnT := hsT.le spc_len (by omega)
  have h60 := hok.2.2.2.1.2
  refine walkIterA _ _ [] [] (fun _ _ => det0_ok _ _) Tryz.func68 rfl Tryz.ntmps68 res68 (by kernel_rfl) [.cells bt 3 [I t]] ⟨fun h hh => by rw [List.mem_singleton] at hh; subst hh; exact htk, fun h hh b hb => by rw [List.mem_singleton] at hh; subst hh; exact hb, List.pairwise_singleton _ _⟩ (fun b hb e => hne b hb e) fun l J C R hRs hHd => ?_
  have hbb := hRs bb (.inl rfl)
  have hbf := hRs bf (.inr (.inl rfl))
  have hww : ∀ H w', Hp ⟨w, fun b => C b ∨ b = bt⟩ H w' → Ways w' := fun H w' hp => hw.keep hp.ext (hRs _ (.inr (.inr (.inl rfl))))
  have hcw : ∀ H w', Hp ⟨w, fun b => C b ∨ b = bt⟩ H w' → ChOk w' (.agg #[I c.wide, I c.high, sD, .slice aT nT cT, sS]) c := fun H w' hp => ⟨_, _, _, rfl, hsD.keepR hp.ext fun b hb => hRs b (.inr (.inr (.inr (.inl hb)))), hsT.keepR hp.ext fun b hb => hRs b (.inr (.inr (.inr (.inr (.inl hb))))), hsS.keepR hp.ext fun b hb => hRs b (.inr (.inr (.inr (.inr (.inr hb)))))⟩
  simp (config := { maxSteps := 4000000 }) only [↓sx0, ↓sx1, ↓sx2, ↓sx3, ↓sx4, ↓sx5, ↓sx6, sx0, sx1, sx2, sx3, sx4, sx5, sx6, tf68, ev3_hold, sxo, sxc, sxp, sxq, sxr, sxs, sxl, sxm, simprocAttr]
  refine ld_olds (vs := [I c.wide, I c.high, sD, .slice aT nT cT, sS, I g]) hb rfl hbb ?_
  simp (config := { maxSteps := 4000000 }) only [↓sx0, ↓sx1, ↓sx2, ↓sx3, ↓sx4, ↓sx5, ↓sx6, sx0, sx1, sx2, sx3, sx4, sx5, sx6, tf68, ev3_hold, sxo, sxc, sxp, sxq, sxr, sxs, sxl, sxm, simprocAttr]
  refine ld_old hf hbf ?_
  simp (config := { maxSteps := 4000000 }) only [↓sx0, ↓sx1, ↓sx2, ↓sx3, ↓sx4, ↓sx5, ↓sx6, sx0, sx1, sx2, sx3, sx4, sx5, sx6, tf68, ev3_hold, sxo, sxc, sxp, sxq, sxr, sxs, sxl, sxm, simprocAttr]
  refine ld_cell (List.mem_cons_of_mem _ List.mem_cons_self) rfl ?_
  simp (config := { maxSteps := 4000000 }) only [↓sx0, ↓sx1, ↓sx2, ↓sx3, ↓sx4, ↓sx5, ↓sx6, sx0, sx1, sx2, sx3, sx4, sx5, sx6, tf68, ev3_hold, sxo, sxc, sxp, sxq, sxr, sxs, sxl, sxm, simprocAttr, det0]
  refine CallOb.pureF (fun w' hp => begin_fn w' _ _ _ c (hcw _ _ hp) hok g k t hk ht hn) ?_
  rintro r0 N ⟨b0, rfl, hN⟩ hnew
  have hb0 : w.heap.size ≤ b0 := hnew _ hN b0 rfl
  refine loop_constI [consu J (some 0) C R, .ro (.row (.slice (some ⟨b0, 0, none⟩) c.depth.length c.depth.length) 4 1 (bools (setN c g k t 0))), .cells bt 3 [I t]] (((HImp.sub ((List.singleton_sublist.2 hN).append_right _)).trans (HImp.ro _ _ _)).trans (HImp.swap _ _ _ _)) [(5, 5), (10, 26)] (fun s : Nat × Nat => [(5, .slice (some ⟨s.2, 0, none⟩) c.depth.length c.depth.length)])
    (fun s H1 => s.1 < c.tide.length - t ∧ w.heap.size ≤ s.2 ∧ ∃ C R, H1 = [consu J (some s.1) C R, .ro (.row (.slice (some ⟨s.2, 0, none⟩) c.depth.length c.depth.length) 4 1 (bools (setN c g k t s.1))), .cells bt 3 [I ((t + s.1 : Nat) : Int)]]) (fun s => c.tide.length - t - s.1) (0, b0) ?_ ⟨by simp; omega, hb0, C, R, rfl⟩ ?_
  · simp (config := { maxSteps := 4000000 }) only [↓sx0, ↓sx1, ↓sx2, ↓sx3, ↓sx4, ↓sx5, ↓sx6, sx0, sx1, sx2, sx3, sx4, sx5, sx6, tf68, ev3_hold, sxo, sxc, sxp, sxq, sxr, sxs, sxl, sxm, simprocAttr]
  · rintro ⟨i, b1⟩ H1 g1 ⟨hi, hb1, C1, R1, rfl⟩
    simp only [] at hi hb1
    simp (config := { maxSteps := 4000000 }) only [↓sx0, ↓sx1, ↓sx2, ↓sx3, ↓sx4, ↓sx5, ↓sx6, sx0, sx1, sx2, sx3, sx4, sx5, sx6, tf68, ev3_hold, sxo, sxc, sxp, sxq, sxr, sxs, sxl, sxm, simprocAttr]
    refine ld_cell (List.mem_cons_of_mem _ (List.mem_cons_of_mem _ List.mem_cons_self)) rfl ?_
    simp (config := { maxSteps := 4000000 }) only [↓sx0, ↓sx1, ↓sx2, ↓sx3, ↓sx4, ↓sx5, ↓sx6, sx0, sx1, sx2, sx3, sx4, sx5, sx6, tf68, ev3_hold, sxo, sxc, sxp, sxq, sxr, sxs, sxl, sxm, simprocAttr]
    refine CallOb.yield hHd (k := i) hi (F := [.ro (.row (.slice (some ⟨b1, 0, none⟩) c.depth.length c.depth.length) 4 1 (bools (setN c g k t i)))]) (B := [.ro (.row (.slice (some ⟨b1, 0, none⟩) c.depth.length c.depth.length) 4 1 (bools (setN c g k t i))), .cells bt 3 [I ((t + i : Nat) : Int)]]) (HImp.refl _ _) (by simp) ⟨b1, rfl, rfl⟩ (fun h hh b hb => by rw [List.mem_singleton] at hh; subst hh; exact hb) (fun w' hp b ⟨h, hh, hb⟩ => ?_) fun tt C2 R2 => ?_
    · rw [List.mem_singleton] at hh
      subst hh
      cases hb
      exact hb1
    cases tt with
    | false =>
      simp (config := { maxSteps := 4000000 }) only [↓sx0, ↓sx1, ↓sx2, ↓sx3, ↓sx4, ↓sx5, ↓sx6, sx0, sx1, sx2, sx3, sx4, sx5, sx6, tf68, ev3_hold, sxo, sxc, sxp, sxq, sxr, sxs, sxl, sxm, simprocAttr]
      exact ⟨rfl, none, C2, R2, List.mem_cons_self, .inr rfl⟩
    | true =>
      have e8 : wr (((t + i : Nat) : Int) + 1) = ((t + (i + 1) : Nat) : Int) := (wrap_id (by omega)).trans (by omega)
      simp (config := { maxSteps := 4000000 }) only [↓sx0, ↓sx1, ↓sx2, ↓sx3, ↓sx4, ↓sx5, ↓sx6, sx0, sx1, sx2, sx3, sx4, sx5, sx6, tf68, ev3_hold, sxo, sxc, sxp, sxq, sxr, sxs, sxl, sxm, simprocAttr]
      refine ld_cell (List.mem_cons_of_mem _ (List.mem_cons_of_mem _ List.mem_cons_self)) rfl ?_
      simp (config := { maxSteps := 4000000 }) only [↓sx0, ↓sx1, ↓sx2, ↓sx3, ↓sx4, ↓sx5, ↓sx6, sx0, sx1, sx2, sx3, sx4, sx5, sx6, tf68, ev3_hold, sxo, sxc, sxp, sxq, sxr, sxs, sxl, sxm, simprocAttr, e8]
      refine wr_cell (A := [consu J (some (i + 1)) C2 R2, .ro (.row (.slice (some ⟨b1, 0, none⟩) c.depth.length c.depth.length) 4 1 (bools (setN c g k t i)))]) (B := []) rfl (by simp) ?_
      simp (config := { maxSteps := 4000000 }) only [↓sx0, ↓sx1, ↓sx2, ↓sx3, ↓sx4, ↓sx5, ↓sx6, sx0, sx1, sx2, sx3, sx4, sx5, sx6, tf68, ev3_hold, sxo, sxc, sxp, sxq, sxr, sxs, sxl, sxm, simprocAttr]
      refine ld_cell (List.mem_cons_of_mem _ (List.mem_cons_of_mem _ List.mem_cons_self)) rfl ?_
      simp (config := { maxSteps := 4000000 }) only [↓sx0, ↓sx1, ↓sx2, ↓sx3, ↓sx4, ↓sx5, ↓sx6, sx0, sx1, sx2, sx3, sx4, sx5, sx6, tf68, ev3_hold, sxo, sxc, sxp, sxq, sxr, sxs, sxl, sxm, simprocAttr]
      refine ld_olda (b := bb) (o := 3) (by simp only [add_block]) (hb 3 _ rfl) hbb ?_
      simp (config := { maxSteps := 4000000 }) only [↓sx0, ↓sx1, ↓sx2, ↓sx3, ↓sx4, ↓sx5, ↓sx6, sx0, sx1, sx2, sx3, sx4, sx5, sx6, tf68, ev3_hold, sxo, sxc, sxp, sxq, sxr, sxs, sxl, sxm, simprocAttr]
      refine ⟨fun h1 => ?_, fun h1 => ?_⟩
      · exact ⟨rfl, some (i + 1), C2, R2, List.mem_cons_self, .inl (congrArg some (by omega))⟩
      · refine ld_olds (vs := [I c.wide, I c.high, sD, .slice aT nT cT, sS, I g]) hb rfl hbb ?_
        simp (config := { maxSteps := 4000000 }) only [↓sx0, ↓sx1, ↓sx2, ↓sx3, ↓sx4, ↓sx5, ↓sx6, sx0, sx1, sx2, sx3, sx4, sx5, sx6, tf68, ev3_hold, sxo, sxc, sxp, sxq, sxr, sxs, sxl, sxm, simprocAttr]
        refine ld_cell (List.mem_cons_of_mem _ (List.mem_cons_of_mem _ List.mem_cons_self)) rfl ?_
        simp (config := { maxSteps := 4000000 }) only [↓sx0, ↓sx1, ↓sx2, ↓sx3, ↓sx4, ↓sx5, ↓sx6, sx0, sx1, sx2, sx3, sx4, sx5, sx6, tf68, ev3_hold, sxo, sxc, sxp, sxq, sxr, sxs, sxl, sxm, simprocAttr, det0]
        refine CallOb.pureF (fun w' hp => spread_fn w' (hww _ _ hp) _ _ _ _ c (hcw _ _ hp) hok g (setN c g k t i) (ro_hp (List.mem_cons_of_mem _ List.mem_cons_self) hp) (setN_len ..) (t + (i + 1)) (by omega) hn) ?_
        rintro r0 N ⟨b2, rfl, hN⟩ hnew
        have hb2 : w.heap.size ≤ b2 := hnew _ hN b2 rfl
        simp (config := { maxSteps := 4000000 }) only [↓sx0, ↓sx1, ↓sx2, ↓sx3, ↓sx4, ↓sx5, ↓sx6, sx0, sx1, sx2, sx3, sx4, sx5, sx6, tf68, ev3_hold, sxo, sxc, sxp, sxq, sxr, sxs, sxl, sxm, simprocAttr]
        refine ⟨(i + 1, b2), _, rfl, ((HImp.sub ((List.singleton_sublist.2 hN).append (List.Sublist.cons_cons _ (List.sublist_cons_self _ _)))).trans (HImp.ro _ _ _)).trans (HImp.swap _ _ _ _), ⟨by omega, hb2, C2, R2, rfl⟩, by omega⟩
end Go.Proofs.YtogicfoigeongaaGreatDoor

namespace Go.Proofs.YtogicfoigeongaaGreatDoor
open Go.RowKit Go.SX
set_option maxRecDepth 4000
set_option maxHeartbeats 8000000
set_option linter.unusedSimpArgs false
set_option linter.unusedVariables false
theorem forth_fn (w : World) (a b : Int) (x y z : Value) (g k t : Int) : SX.Fn Tryz.prog 46 [.agg #[I a, I b, x, y, z, I g], I k, I t] w (fun _ => False) fun r N => ∃ bb bf bt, r = .func (.func 68) #[] #[.pointer (some ⟨bb, 0, none⟩), .pointer (some ⟨bf, 0, none⟩), .pointer (some ⟨bt, 0, none⟩)] ∧ N = [.cells bt 3 [I t], .cells bf 3 [I k], .cells bb 90 [I a, I b, x, y, z, I g]] := by
  refine walk [3, 4, 5] [] (det0_ok _ _) Tryz.func46 rfl Tryz.ntmps46 res46 (by kernel_rfl) no_facts ?_
  simp (config := { maxSteps := 4000000 }) only [↓sx0, ↓sx1, ↓sx2, ↓sx3, ↓sx4, ↓sx5, ↓sx6, sx0, sx1, sx2, sx3, sx4, sx5, sx6, tf46, ev3_hold, sxo, sxc, sxp, sxq, sxr, sxs, sxl, sxm, simprocAttr]
  exact fun bb bf bt => ⟨bb, bf, bt, rfl, rfl⟩
end Go.Proofs.YtogicfoigeongaaGreatDoor

namespace Go.Proofs.YtogicfoigeongaaGreatDoor
open Go.RowKit Go.SX
set_option maxRecDepth 4000
set_option maxHeartbeats 8000000
set_option linter.unusedSimpArgs false
set_option linter.unusedVariables false
def leastN (S : List Bool) (ns : List Nat) (b : Nat) : Nat := ns.foldl (fun b x => if S.getD x false then min b x else b) b
theorem leastN_le (S : List Bool) : ∀ (ns : List Nat) (b : Nat), leastN S ns b ≤ b
  | [], b => Nat.le_refl b
  | x :: ns, b => by
    rw [leastN, List.foldl_cons]
    refine Nat.le_trans (leastN_le S ns _) ?_
    split
    · exact Nat.min_le_left ..
    · exact Nat.le_refl b
theorem leastN_min (S : List Bool) : ∀ (ns : List Nat) (b x : Nat), x ∈ ns → S.getD x false = true → leastN S ns b ≤ x
  | y :: ns, b, x, hx, hS => by
    rw [leastN, List.foldl_cons]
    rcases List.mem_cons.1 hx with rfl | hx
    · rw [hS, if_pos rfl]
      exact Nat.le_trans (leastN_le S ns _) (Nat.min_le_right ..)
    · exact leastN_min S ns _ x hx hS
theorem leastN_or (S : List Bool) : ∀ (ns : List Nat) (b : Nat), leastN S ns b = b ∨ (leastN S ns b ∈ ns ∧ S.getD (leastN S ns b) false = true)
  | [], b => .inl rfl
  | y :: ns, b => by
    rw [leastN, List.foldl_cons]
    have ih := leastN_or S ns (if S.getD y false then min b y else b)
    rw [leastN] at ih
    rcases ih with h | h
    · rw [h]
      cases hy : S.getD y false with
      | false => exact .inl rfl
      | true =>
        simp only [if_true]
        by_cases hb : b ≤ y
        · exact .inl (Nat.min_eq_left hb)
        · refine .inr ⟨?_, ?_⟩
          · rw [Nat.min_eq_right (by omega)]
            exact List.mem_cons_self
          · rw [Nat.min_eq_right (by omega)]
            exact hy
    · exact .inr ⟨List.mem_cons_of_mem _ h.1, h.2⟩
theorem leastN_snoc (S : List Bool) (ns : List Nat) (b x : Nat) : leastN S (ns ++ [x]) b = if S.getD x false then min (leastN S ns b) x else leastN S ns b := by
  rw [leastN, List.foldl_append]
  try rfl
theorem leastN_in {S : List Bool} {ns : List Nat} {b : Nat} (h : ∃ x ∈ ns, S.getD x false = true ∧ x < b) : leastN S ns b ∈ ns ∧ S.getD (leastN S ns b) false = true := by
  obtain ⟨x, hx, hS, hb⟩ := h
  rcases leastN_or S ns b with e | e
  · have := leastN_min S ns b x hx hS
    omega
  · exact e
def pth (c : Cht) (sets : List (List Bool)) (to : Nat) : Nat → List Nat
  | 0 => [to]
  | j + 1 => leastN (sets.getD (sets.length - 2 - j) []) (nbL c.W c.H ((pth c sets to j).getD 0 0)) c.depth.length :: pth c sets to j
theorem pth_len (c : Cht) (sets : List (List Bool)) (to : Nat) : ∀ j, (pth c sets to j).length = j + 1
  | 0 => rfl
  | j + 1 => by rw [pth, List.length_cons, pth_len c sets to j]
def chained (c : Cht) (sets : List (List Bool)) : Prop := ∀ i, i + 1 < sets.length → ∀ x, x < c.depth.length → (sets.getD (i + 1) []).getD x false = true → ∃ y ∈ nbL c.W c.H x, (sets.getD i []).getD y false = true
theorem pth_head {c : Cht} (hok : c.ok) {sets : List (List Bool)} (hch : chained c sets) {to : Nat} (hto : to < c.depth.length) (hin : (sets.getD (sets.length - 1) []).getD to false = true) : ∀ j, j < sets.length → (pth c sets to j).getD 0 0 < c.depth.length ∧ (sets.getD (sets.length - 1 - j) []).getD ((pth c sets to j).getD 0 0) false = true
  | 0, _ => ⟨hto, hin⟩
  | j + 1, hj => by
    obtain ⟨h1, h2⟩ := pth_head hok hch hto hin j (by omega)
    obtain ⟨eW, eH, hW, hH, hlen⟩ := hok.dims
    have h3 := hch (sets.length - 2 - j) (by omega) _ h1 (by rw [show sets.length - 2 - j + 1 = sets.length - 1 - j by omega]; exact h2)
    obtain ⟨y, hy, hS⟩ := h3
    have hyN := nbL_lt (by omega : (pth c sets to j).getD 0 0 < c.W * c.H) y hy
    have h4 := leastN_in ⟨y, hy, hS, (by omega : y < c.depth.length)⟩
    have h5 := nbL_lt (by omega : (pth c sets to j).getD 0 0 < c.W * c.H) _ h4.1
    rw [pth]
    refine ⟨?_, ?_⟩
    · show leastN _ _ _ < _
      omega
    · show (sets.getD (sets.length - 1 - (j + 1)) []).getD (leastN _ _ _) false = true
      rw [show sets.length - 1 - (j + 1) = sets.length - 2 - j by omega]
      exact h4.2
end Go.Proofs.YtogicfoigeongaaGreatDoor

namespace Go.Proofs.YtogicfoigeongaaGreatDoor
open Go.RowKit Go.SX
set_option maxRecDepth 4000
set_option maxHeartbeats 8000000
set_option linter.unusedSimpArgs false
set_option linter.unusedVariables false
def v1 (v : Value) : List Value := [v]
theorem v1_len (v : Value) : (v1 v).length = 1 := rfl
def SetsOk (w : World) (v : Value) (sets : List (List Bool)) : Prop := ∃ sv, Sl w v 1 (cat v1 sv) ∧ sv.length = sets.length ∧ ∀ i x, sv[i]? = some x → Sl w x 1 (bools (sets.getD i []))
theorem back_fn (w : World) (hw : Ways w) (sD sT sS vc : Value) (c : Cht) (hc : ChOk w (.agg #[I c.wide, I c.high, sD, sT, sS]) c) (hok : c.ok) (g : Int) (sets : List (List Bool)) (hcs : SetsOk w vc sets) (hs0 : 0 < sets.length) (hs1 : sets.length < 1000) (hsl : ∀ i, i < sets.length → (sets.getD i []).length = c.depth.length) (hch : chained c sets) (to : Nat) (hto : to < c.depth.length) (hin : (sets.getD (sets.length - 1) []).getD to false = true) (hn : c.depth.length < 200) :
    SX.Fn Tryz.prog 47 [.agg #[I c.wide, I c.high, sD, sT, sS, I g], vc, I to] w (fun _ => False) fun r N => ∃ b, r = .slice (some ⟨b, 0, none⟩) sets.length sets.length ∧ HO.row (.slice (some ⟨b, 0, none⟩) sets.length sets.length) 3 1 (ints (nts (pth c sets to (sets.length - 1)))) ∈ N := by
  obtain ⟨sv, hsv, hsvl, hsx⟩ := hcs
  obtain ⟨ac, nc, cc, rfl⟩ := hsv.shape
  have hnc := hsv.le v1_len (by omega)
  obtain rfl : nc = sets.length := by omega
  have hrc := hsv.rd0
  have hc0 := hc
  obtain ⟨sD', sT', sS', he, hsD, hsT, hsS⟩ := hc
  injection he with he
  injection he with he
  simp only [List.cons.injEq, true_and, and_true] at he
  obtain ⟨rfl, rfl, rfl⟩ := he
  obtain ⟨aD, nD, cD, rfl⟩ := hsD.shape
  have hnD := hsD.le i1_len (by omega)
  subst hnD
  obtain ⟨eW, eH, hW, hH, hlen⟩ := hok.dims
  have hwl := ways_lt hw
  have e0 : IntKind.i64.wrap ((sets.length : Int) - 1) = ((sets.length - 1 : Nat) : Int) := (wrap_id (by omega)).trans (by omega)
  refine walk [8, 9] [] (det0_ok _ _) Tryz.func47 rfl Tryz.ntmps47 res47 (by kernel_rfl) no_facts ?_
  simp (config := { maxSteps := 4000000 }) only [↓sx0, ↓sx1, ↓sx2, ↓sx3, ↓sx4, ↓sx5, ↓sx6, sx0, sx1, sx2, sx3, sx4, sx5, sx6, tf47, ev3_hold, sxo, sxc, sxp, sxq, sxr, sxs, sxl, sxm, simprocAttr]
  refine ⟨by omega, by omega, by omega, fun b b0 => ?_⟩
  rw [show zerosL sets.length [Value.int .i64 0] = ints (List.replicate sets.length 0) from zeros_cat i1 0 _]
  
  have hrO : ∀ (l : List Int), l.length = sets.length → ∀ G, Rdv ⟨w, fun _ => False⟩ (G ++ [HO.row (.slice (some ⟨b, 0, none⟩) sets.length sets.length) 3 1 (ints l)]) (.slice (some ⟨b, 0, none⟩) sets.length sets.length) 1 (ints l) := fun l hl G =>
    row_rdv (E := 3) (by simp) ⟨_, _, _, rfl, by rw [cat_len i1_len, hl], fun h => by cases h⟩
  rw [e0]
  refine wr_cell (A := []) rfl (by simp) ?_
  simp (config := { maxSteps := 4000000 }) only [↓sx0, ↓sx1, ↓sx2, ↓sx3, ↓sx4, ↓sx5, ↓sx6, sx0, sx1, sx2, sx3, sx4, sx5, sx6, tf47, ev3_hold, sxo, sxc, sxp, sxq, sxr, sxs, sxl, sxm, simprocAttr]
  refine loop_const [(2, 2), (6, 6), (8, 10), (17, 48)] (fun s : Nat × Nat => [(2, I ((pth c sets to s.1).getD 0 0 : Nat)), (8, .pointer (some ⟨s.2, 0, none⟩))]) (fun s H1 => s.1 < sets.length ∧ H1 = [.cells s.2 3 [I ((sets.length - 1 - s.1 : Nat) : Int)], HO.row (.slice (some ⟨b, 0, none⟩) sets.length sets.length) 3 1 (ints (List.replicate (sets.length - s.1) 0 ++ nts (pth c sets to s.1).tail))]) (fun s => sets.length - s.1) (0, b0) ?_ ⟨hs0, ?_⟩ ?_
  · simp (config := { maxSteps := 4000000 }) only [↓sx0, ↓sx1, ↓sx2, ↓sx3, ↓sx4, ↓sx5, ↓sx6, sx0, sx1, sx2, sx3, sx4, sx5, sx6, tf47, ev3_hold, sxo, sxc, sxp, sxq, sxr, sxs, sxl, sxm, simprocAttr]
    simp [pth]
  · simp [pth, nts]
  · rintro ⟨j, bi⟩ H1 g1 ⟨hj, rfl⟩
    simp only [] at hj
    have hjl : (nts (pth c sets to j).tail).length = j := by simp [nts, pth_len]
    have hlr : (List.replicate (sets.length - j) (0 : Int) ++ nts (pth c sets to j).tail).length = sets.length := by rw [List.length_append, hjl, List.length_replicate]; omega
    simp (config := { maxSteps := 4000000 }) only [↓sx0, ↓sx1, ↓sx2, ↓sx3, ↓sx4, ↓sx5, ↓sx6, sx0, sx1, sx2, sx3, sx4, sx5, sx6, tf47, ev3_hold, sxo, sxc, sxp, sxq, sxr, sxs, sxl, sxm, simprocAttr]
    refine ld_cell List.mem_cons_self rfl ?_
    simp (config := { maxSteps := 4000000 }) only [↓sx0, ↓sx1, ↓sx2, ↓sx3, ↓sx4, ↓sx5, ↓sx6, sx0, sx1, sx2, sx3, sx4, sx5, sx6, tf47, ev3_hold, sxo, sxc, sxp, sxq, sxr, sxs, sxl, sxm, simprocAttr]
    refine ⟨by omega, by omega, _, rfl, ?_⟩
    refine wr_at (A := [_]) (B := []) (u := ((pth c sets to j).getD 0 0 : Int)) rfl i1_len hlr (by omega) ?_
    rw [show (List.replicate (sets.length - j) (0 : Int) ++ nts (pth c sets to j).tail).set (sets.length - 1 - j) ((pth c sets to j).getD 0 0 : Int) = List.replicate (sets.length - (j + 1)) 0 ++ nts (pth c sets to j) from ?h]
    case' h =>
      rw [List.set_append_left _ _ (by simp; omega)]
      have e1 : sets.length - j = (sets.length - (j + 1)) + 1 := by omega
      rw [e1, List.replicate_succ', List.set_append_right _ _ (by simp; omega)]
      have e2 : sets.length - 1 - j - (List.replicate (sets.length - (j + 1)) (0 : Int)).length = 0 := by simp; omega
      rw [e2, List.set_cons_zero, List.append_assoc]
      congr 1
      cases h : pth c sets to j with
      | nil => have := pth_len c sets to j; rw [h] at this; simp at this
      | cons x r => simp [nts]
    obtain ⟨hhN, hhS⟩ := pth_head hok hch hto hin j hj
    have hhW : (pth c sets to j).getD 0 0 < c.W * c.H := by omega
    simp (config := { maxSteps := 4000000 }) only [↓sx0, ↓sx1, ↓sx2, ↓sx3, ↓sx4, ↓sx5, ↓sx6, sx0, sx1, sx2, sx3, sx4, sx5, sx6, tf47, ev3_hold, sxo, sxc, sxp, sxq, sxr, sxs, sxl, sxm, simprocAttr]
    refine ld_cell List.mem_cons_self rfl ?_
    by_cases hj0 : j = sets.length - 1
    · have e1 : (((sets.length - 1 - j : Nat) : Int) = 0) = True := eq_true (by omega)
      simp (config := { maxSteps := 4000000 }) only [↓sx0, ↓sx1, ↓sx2, ↓sx3, ↓sx4, ↓sx5, ↓sx6, sx0, sx1, sx2, sx3, sx4, sx5, sx6, tf47, ev3_hold, sxo, sxc, sxp, sxq, sxr, sxs, sxl, sxm, simprocAttr, e1]
      refine ⟨b, rfl, ?_⟩
      rw [show sets.length - (j + 1) = 0 by omega, ← hj0]
      try simp
    have e1 : (((sets.length - 1 - j : Nat) : Int) = 0) = False := eq_false (by omega)
    simp (config := { maxSteps := 4000000 }) only [↓sx0, ↓sx1, ↓sx2, ↓sx3, ↓sx4, ↓sx5, ↓sx6, sx0, sx1, sx2, sx3, sx4, sx5, sx6, tf47, ev3_hold, sxo, sxc, sxp, sxq, sxr, sxs, sxl, sxm, simprocAttr, e1]
    intro b9
    refine wr_cell (A := []) rfl (by simp) ?_
    simp (config := { maxSteps := 4000000 }) only [↓sx0, ↓sx1, ↓sx2, ↓sx3, ↓sx4, ↓sx5, ↓sx6, sx0, sx1, sx2, sx3, sx4, sx5, sx6, tf47, ev3_hold, sxo, sxc, sxp, sxq, sxr, sxs, sxl, sxm, simprocAttr, det0]
    refine CallOb.pure (fun w' hp => near_fn w' _ _ _ _ _ _) ?_
    rintro r0 N3 ⟨bc, bs, rfl, rfl⟩
    simp (config := { maxSteps := 4000000 }) only [↓sx0, ↓sx1, ↓sx2, ↓sx3, ↓sx4, ↓sx5, ↓sx6, sx0, sx1, sx2, sx3, sx4, sx5, sx6, tf47, ev3_hold, sxo, sxc, sxp, sxq, sxr, sxs, sxl, sxm, simprocAttr]
    have e2 : IntKind.i64.wrap (((sets.length - 1 - j : Nat) : Int) - 1) = ((sets.length - 2 - j : Nat) : Int) := (wrap_id (by omega)).trans (by omega)
    obtain ⟨vs, hvs⟩ : ∃ x, sv[sets.length - 2 - j]? = some x := ⟨_, List.getElem?_eq_getElem (by omega)⟩
    have hvS := hsx _ _ hvs
    obtain ⟨aV, nV, cV, rfl⟩ := hvS.shape
    have hnV := hvS.le b1_len (by omega)
    rw [hsl _ (by omega)] at hnV
    refine range_introR Tryz.call65 (nbL c.W c.H ((pth c sets to j).getD 0 0)).length (nearArg c.W c.H ((pth c sets to j).getD 0 0)) [.cells bc 3 [I ((pth c sets to j).getD 0 0 : Nat)], .cells bs 88 [I c.wide, I c.high, .slice aD c.depth.length cD, sT, sS]] [.cells b9 3 [I c.depth.length], .cells bi 3 [I ((sets.length - 1 - j : Nat) : Int)], HO.row (.slice (some ⟨b, 0, none⟩) sets.length sets.length) 3 1 (ints (List.replicate (sets.length - (j + 1)) 0 ++ nts (pth c sets to j)))]
      (fun i L' H' => L' = [(90, [I c.wide, I c.high, .slice aD c.depth.length cD, sT, sS, I g]), (100, [.slice ac sets.length cc])] ∧ H' = [.cells b9 3 [I ((leastN (sets.getD (sets.length - 2 - j) []) ((nbL c.W c.H ((pth c sets to j).getD 0 0)).take i) c.depth.length : Nat) : Int)], .cells bi 3 [I ((sets.length - 1 - j : Nat) : Int)], HO.row (.slice (some ⟨b, 0, none⟩) sets.length sets.length) 3 1 (ints (List.replicate (sets.length - (j + 1)) 0 ++ nts (pth c sets to j)))]) (fun x => x = bc ∨ x = bs ∨ x = 0)
      (HImp.refl _ _) (fun x hx => ?_) (fun w' hp => ?_) ⟨rfl, rfl⟩ ?_ ?_ ?_
    · rcases hx with rfl | rfl | rfl
      · exact .inr ⟨_, List.mem_cons_self, rfl⟩
      · exact .inr ⟨_, List.mem_cons_of_mem _ List.mem_cons_self, rfl⟩
      · exact .inl ⟨hwl, id⟩
    · have h1 := cells_old (w0 := ⟨w, fun _ => False⟩) (b := bs) (List.mem_append_left _ (List.mem_cons_of_mem _ List.mem_cons_self)) hp
      refine near_it w' (hw.hp hp) bc bs c.W c.H _ (.slice aD c.depth.length cD) sT sS hW hH hhW (cells_hp (List.mem_append_left _ List.mem_cons_self) hp) ?_
      rw [← eW, ← eH]
      exact h1
    · rintro i vs F ⟨n, _, rfl, _⟩
      try rfl
    · rintro i vs F L' H' hi ⟨n, hnn, rfl, rfl⟩ - ⟨rfl, rfl⟩
      have hnN : n < c.W * c.H := nbL_lt hhW n (List.mem_of_getElem? hnn)
      have htk : (nbL c.W c.H ((pth c sets to j).getD 0 0)).take (i + 1) = (nbL c.W c.H ((pth c sets to j).getD 0 0)).take i ++ [n] := by rw [List.take_add_one, hnn, Option.toList_some]
      simp (config := { maxSteps := 4000000 }) only [↓sx0, ↓sx1, ↓sx2, ↓sx3, ↓sx4, ↓sx5, ↓sx6, sx0, sx1, sx2, sx3, sx4, sx5, sx6, tf47, ev3_hold, sxo, sxc, sxp, sxq, sxr, sxs, sxl, sxm, simprocAttr]
      refine ld_cell (List.mem_cons_of_mem _ List.mem_cons_self) rfl ?_
      simp (config := { maxSteps := 4000000 }) only [↓sx0, ↓sx1, ↓sx2, ↓sx3, ↓sx4, ↓sx5, ↓sx6, sx0, sx1, sx2, sx3, sx4, sx5, sx6, tf47, ev3_hold, sxo, sxc, sxp, sxq, sxr, sxs, sxl, sxm, simprocAttr, e2]
      refine at_1 (hrc _) v1_len hvs rfl fun ad1 => ?_
      simp (config := { maxSteps := 4000000 }) only [↓sx0, ↓sx1, ↓sx2, ↓sx3, ↓sx4, ↓sx5, ↓sx6, sx0, sx1, sx2, sx3, sx4, sx5, sx6, tf47, ev3_hold, sxo, sxc, sxp, sxq, sxr, sxs, sxl, sxm, simprocAttr]
      refine at_1 (hvS.rd0 _) b1_len (getD_at (show n < (sets.getD (sets.length - 2 - j) []).length by rw [hsl _ (by omega)]; omega) false) rfl fun ad2 => ?_
      cases hSn : (sets.getD (sets.length - 2 - j) []).getD n false with
      | false =>
        simp (config := { maxSteps := 4000000 }) only [↓sx0, ↓sx1, ↓sx2, ↓sx3, ↓sx4, ↓sx5, ↓sx6, sx0, sx1, sx2, sx3, sx4, sx5, sx6, tf47, ev3_hold, sxo, sxc, sxp, sxq, sxr, sxs, sxl, sxm, simprocAttr]
        refine ⟨_, HImp.refl _ _, ?_⟩
        rw [htk, leastN_snoc, hSn]
        try rfl
      | true =>
        simp (config := { maxSteps := 4000000 }) only [↓sx0, ↓sx1, ↓sx2, ↓sx3, ↓sx4, ↓sx5, ↓sx6, sx0, sx1, sx2, sx3, sx4, sx5, sx6, tf47, ev3_hold, sxo, sxc, sxp, sxq, sxr, sxs, sxl, sxm, simprocAttr]
        refine ld_cell List.mem_cons_self rfl ?_
        simp (config := { maxSteps := 4000000 }) only [↓sx0, ↓sx1, ↓sx2, ↓sx3, ↓sx4, ↓sx5, ↓sx6, sx0, sx1, sx2, sx3, sx4, sx5, sx6, tf47, ev3_hold, sxo, sxc, sxp, sxq, sxr, sxs, sxl, sxm, simprocAttr]
        rw [show min ((leastN (sets.getD (sets.length - 2 - j) []) ((nbL c.W c.H ((pth c sets to j).getD 0 0)).take i) c.depth.length : Nat) : Int) (n : Int) = ((leastN (sets.getD (sets.length - 2 - j) []) ((nbL c.W c.H ((pth c sets to j).getD 0 0)).take (i + 1)) c.depth.length : Nat) : Int) by rw [htk, leastN_snoc, hSn, if_pos rfl]; omega]
        refine wr_cell (A := []) rfl (by simp) ?_
        simp (config := { maxSteps := 4000000 }) only [↓sx0, ↓sx1, ↓sx2, ↓sx3, ↓sx4, ↓sx5, ↓sx6, sx0, sx1, sx2, sx3, sx4, sx5, sx6, tf47, ev3_hold, sxo, sxc, sxp, sxq, sxr, sxs, sxl, sxm, simprocAttr]
        exact ⟨_, HImp.refl _ _, rfl⟩
    · rintro L' H' - ⟨rfl, rfl⟩
      rw [List.take_of_length_le (Nat.le_refl _)]
      simp (config := { maxSteps := 4000000 }) only [↓sx0, ↓sx1, ↓sx2, ↓sx3, ↓sx4, ↓sx5, ↓sx6, sx0, sx1, sx2, sx3, sx4, sx5, sx6, tf47, ev3_hold, sxo, sxc, sxp, sxq, sxr, sxs, sxl, sxm, simprocAttr]
      refine ld_cell List.mem_cons_self rfl ?_
      simp (config := { maxSteps := 4000000 }) only [↓sx0, ↓sx1, ↓sx2, ↓sx3, ↓sx4, ↓sx5, ↓sx6, sx0, sx1, sx2, sx3, sx4, sx5, sx6, tf47, ev3_hold, sxo, sxc, sxp, sxq, sxr, sxs, sxl, sxm, simprocAttr]
      refine ld_cell (List.mem_cons_of_mem _ List.mem_cons_self) rfl ?_
      simp (config := { maxSteps := 4000000 }) only [↓sx0, ↓sx1, ↓sx2, ↓sx3, ↓sx4, ↓sx5, ↓sx6, sx0, sx1, sx2, sx3, sx4, sx5, sx6, tf47, ev3_hold, sxo, sxc, sxp, sxq, sxr, sxs, sxl, sxm, simprocAttr]
      intro b10
      refine wr_cell (A := []) rfl (by simp) ?_
      simp (config := { maxSteps := 4000000 }) only [↓sx0, ↓sx1, ↓sx2, ↓sx3, ↓sx4, ↓sx5, ↓sx6, sx0, sx1, sx2, sx3, sx4, sx5, sx6, tf47, ev3_hold, sxo, sxc, sxp, sxq, sxr, sxs, sxl, sxm, simprocAttr]
      refine ld_cell List.mem_cons_self rfl ?_
      simp (config := { maxSteps := 4000000 }) only [↓sx0, ↓sx1, ↓sx2, ↓sx3, ↓sx4, ↓sx5, ↓sx6, sx0, sx1, sx2, sx3, sx4, sx5, sx6, tf47, ev3_hold, sxo, sxc, sxp, sxq, sxr, sxs, sxl, sxm, simprocAttr, e2]
      refine wr_cell (A := []) rfl (by simp) ?_
      simp (config := { maxSteps := 4000000 }) only [↓sx0, ↓sx1, ↓sx2, ↓sx3, ↓sx4, ↓sx5, ↓sx6, sx0, sx1, sx2, sx3, sx4, sx5, sx6, tf47, ev3_hold, sxo, sxc, sxp, sxq, sxr, sxs, sxl, sxm, simprocAttr]
      refine ⟨(j + 1, b10), _, ⟨rfl, rfl⟩, HImp.sub (.cons_cons _ (.cons _ (.cons _ (.refl _)))), ⟨by omega, ?_⟩, by omega⟩
      rw [show sets.length - 1 - (j + 1) = sets.length - 2 - j by omega]
      try rfl
end Go.Proofs.YtogicfoigeongaaGreatDoor

namespace Go.Proofs.YtogicfoigeongaaGreatDoor
open Go.RowKit Go.SX
set_option maxRecDepth 4000
set_option maxHeartbeats 8000000
set_option linter.unusedSimpArgs false
set_option linter.unusedVariables false
def setL (c : Cht) (g : Int) (k t n : Nat) : List (List Bool) := (List.range n).map (setN c g k t)
theorem setL_len (c : Cht) (g : Int) (k t n : Nat) : (setL c g k t n).length = n := by simp [setL]
theorem setL_get (c : Cht) (g : Int) (k t n i : Nat) (h : i < n) : (setL c g k t n).getD i [] = setN c g k t i := by
  simp [setL, List.getD_eq_getElem?_getD, List.getElem?_range h]
theorem setN_succ (c : Cht) (hok : c.ok) (g : Int) (k t i x : Nat) (hx : x < c.depth.length) : (setN c g k t (i + 1)).getD x false = true ↔ c.flt g (t + i + 1) x = true ∧ ∃ y ∈ nbL c.W c.H x, (setN c g k t i).getD y false = true := by
  obtain ⟨eW, eH, hW, hH, hlen⟩ := hok.dims
  have hl := setN_len c g k t i
  rw [setN, sprK_get c g _ x _ (by omega)]
  constructor
  · rintro ⟨h1, y, hy, h2, h3⟩
    exact ⟨h1, y, nb_symm (by omega) h3, h2⟩
  · rintro ⟨h1, y, hy, h2⟩
    have := nbL_lt (by omega) y hy
    exact ⟨h1, y, by omega, h2, nb_symm (by omega) hy⟩
theorem setL_chained (c : Cht) (hok : c.ok) (g : Int) (k t n : Nat) : chained c (setL c g k t n) := by
  intro i hi x hx h
  rw [setL_len] at hi
  rw [setL_get _ _ _ _ _ _ hi, setN_succ c hok g k t i x hx] at h
  rw [setL_get _ _ _ _ _ _ (by omega)]
  exact h.2
theorem forth_hit (w : World) (hw : Ways w) (bb bf bt : Nat) (sD sT sS : Value) (c : Cht) (hc : ChOk w (.agg #[I c.wide, I c.high, sD, sT, sS]) c) (hok : c.ok) (g : Int) (k t : Nat) (hk : k < c.depth.length) (ht : t < c.tide.length) (hn : c.depth.length < 200) (Hc : List HO) (w' : World)
    (hp : Hp ⟨w, fun _ => False⟩ ([.cells bt 3 [I t], .cells bf 3 [I k], .cells bb 90 [I c.wide, I c.high, sD, sT, sS, I g]] ++ Hc) w') :
    Iter Tryz.prog 68 [] [.pointer (some ⟨bb, 0, none⟩), .pointer (some ⟨bf, 0, none⟩), .pointer (some ⟨bt, 0, none⟩)] (c.tide.length - t) (forthArg c g k t) (fun b => b = bt) (forthR w bb bf sD sT sS) w' := by
  have hc0 := hc
  obtain ⟨sD', sT', sS', he, hsD, hsT, hsS⟩ := hc
  injection he with he
  injection he with he
  simp only [List.cons.injEq, true_and, and_true] at he
  obtain ⟨rfl, rfl, rfl⟩ := he
  have hz := hok.2.2.2
  have up : ∀ b, forthR w' bb bf sD sT sS b → forthR w bb bf sD sT sS b := by
    rintro b (h | h | h | h | h | h)
    · exact .inl h
    · exact .inr (.inl h)
    · exact .inr (.inr (.inl h))
    · exact .inr (.inr (.inr (.inl (hsD.rsl (by rw [cat_len i1_len]; omega) h))))
    · exact .inr (.inr (.inr (.inr (.inl (hsT.rsl (by rw [cat_len spc_len]; omega) h)))))
    · exact .inr (.inr (.inr (.inr (.inr (hsS.rsl (by rw [cat_len i1_len]; omega) h)))))
  have hbt : w.heap.size ≤ bt := (hp.old (.cells bt 3 [I t]) (by simp) bt rfl).resolve_left id
  have hnd := hp.nd
  simp only [List.cons_append, List.nil_append, List.pairwise_cons] at hnd
  have hwl := ways_lt hw
  refine (forth_it w' (hw.hp hp) bb bf bt sD sT sS c (hc0.hp hp) hok g k t hk ht hn (cells_old (T := 90) (by simp) hp) (cells_hp (T := 3) (by simp) hp) (hp.ok _ (by simp)) ?_).mono up
  intro b hb e
  subst e
  rcases up _ hb with h | h | h | h | h | h
  · subst h
    exact (hnd.1 (.cells b 90 [I c.wide, I c.high, sD, sT, sS, I g]) (by simp) b rfl rfl).1 rfl
  · subst h
    exact (hnd.1 (.cells b 3 [I k]) (by simp) b rfl rfl).1 rfl
  · omega
  · exact absurd h.2 (by omega)
  · exact absurd h.2 (by omega)
  · exact absurd h.2 (by omega)
theorem forth_Rs (w : World) (hw : Ways w) (bb bf bt : Nat) (sD sT sS : Value) (v1 v2 v3 : List Value) (b : Nat) (h : forthR w bb bf sD sT sS b) : (b < w.heap.size ∧ ¬ (fun _ : Nat => False) b) ∨ fpsx [.cells bt 3 v1, .cells bf 3 v2, .cells bb 90 v3] b := by
  have hwl := ways_lt hw
  rcases h with h | h | h | h | h | h
  · exact .inr ⟨.cells bb 90 v3, by simp, h⟩
  · exact .inr ⟨.cells bf 3 v2, by simp, h⟩
  · exact .inl ⟨by rw [h]; exact hwl, id⟩
  · exact .inl ⟨h.2, id⟩
  · exact .inl ⟨h.2, id⟩
  · exact .inl ⟨h.2, id⟩
end Go.Proofs.YtogicfoigeongaaGreatDoor

namespace Go.Proofs.YtogicfoigeongaaGreatDoor
open Go.RowKit Go.SX
set_option maxRecDepth 4000
set_option maxHeartbeats 8000000
set_option linter.unusedSimpArgs false
set_option linter.unusedVariables false
def slN (n b : Nat) : List Value := [.slice (some ⟨b, 0, none⟩) n n]
theorem slN_len (n b : Nat) : (slN n b).length = 1 := rfl
theorem slN_one (n b : Nat) : ∀ y ∈ slN n b, y.oneCell' = true := by simp [slN, Value.oneCell']
theorem slN_cat (n : Nat) (bs : List Nat) : cat (slN n) bs = cat v1 (bs.map fun b => .slice (some ⟨b, 0, none⟩) n n) := by
  unfold cat
  rw [List.flatMap_map]
  try rfl
theorem passage_fn (w : World) (hw : Ways w) (v : Value) (c : Cht) (hc : ChOk w v c) (hsm : c.small) (g a t b : Int) :
    SX.Fn Tryz.prog 22 [v, I g, I a, I t, I b] w (fun _ => False) fun r N => (openE c [a, b] [t] [g] ≠ 0 ∧ r = .tuple #[.slice none 0 0, I (openE c [a, b] [t] [g])]) ∨
      (openE c [a, b] [t] [g] = 0 ∧ ((∃ i x, i < c.tide.length - t.toNat ∧ (setN c g a.toNat t.toNat i).getD b.toNat false = true ∧ (∀ j, j < i → (setN c g a.toNat t.toNat j).getD b.toNat false = false) ∧ r = .tuple #[.slice (some ⟨x, 0, none⟩) (i + 1) (i + 1), I 0] ∧ HO.row (.slice (some ⟨x, 0, none⟩) (i + 1) (i + 1)) 3 1 (ints (nts (pth c (setL c g a.toNat t.toNat (i + 1)) b.toNat i))) ∈ N) ∨
        ((∀ j, j < c.tide.length - t.toNat → (setN c g a.toNat t.toNat j).getD b.toNat false = false) ∧ r = .tuple #[.slice none 0 0, I 3]))) := by
  have hc0 := hc
  obtain ⟨sD, sT, sS, rfl, hsD, hsT, hsS⟩ := hc
  obtain ⟨aD, nD, cD, rfl⟩ := hsD.shape
  obtain ⟨aT, nT, cT, rfl⟩ := hsT.shape
  obtain ⟨aS, nS, cS, rfl⟩ := hsS.shape
  refine walk [] [] (det0_ok _ _) Tryz.func22 rfl Tryz.ntmps22 res22 (by kernel_rfl) no_facts ?_
  simp (config := { maxSteps := 4000000 }) only [↓sx0, ↓sx1, ↓sx2, ↓sx3, ↓sx4, ↓sx5, ↓sx6, sx0, sx1, sx2, sx3, sx4, sx5, sx6, tf22, ev3_hold, sxo, sxc, sxp, sxq, sxr, sxs, sxl, sxm, simprocAttr, det0]
  intro b1 b2
  refine CallOb.pure (fun w' hp => sail_fn w' _ _ _ _ _ c g [a, b] [t] (hc0.hp hp) hsm (row_hp (E := 3) (xs := ints [a, b]) (by simp [cat, i1]) hp) (row_hp (E := 3) (xs := ints [t]) (by simp [cat, i1]) hp) (by simp)) ?_
  rintro r N rfl
  by_cases he : openE c [a, b] [t] [g] = 0
  case neg =>
    have e1 : (openE c [a, b] [t] [g] = 0) = False := eq_false he
    simp (config := { maxSteps := 4000000 }) only [↓sx0, ↓sx1, ↓sx2, ↓sx3, ↓sx4, ↓sx5, ↓sx6, sx0, sx1, sx2, sx3, sx4, sx5, sx6, tf22, ev3_hold, sxo, sxc, sxp, sxq, sxr, sxs, sxl, sxm, simprocAttr, e1]
    exact .inl trivial
  obtain ⟨hok, hcl, htl, hgl⟩ := openE_zero he
  have ha := hcl a (by simp)
  have hb := hcl b (by simp)
  have ht := htl t (by simp)
  obtain ⟨eW, eH, hW, hH, hlen⟩ := hok.dims
  have h60 := hok.2.2.2.1.2
  have hn144 : c.depth.length < 200 := by
    have := Nat.mul_le_mul hW.2 hH.2
    omega
  rw [he]
  obtain ⟨A, hA⟩ : ∃ A : Nat, a = A := ⟨a.toNat, by omega⟩
  obtain ⟨B, hB⟩ : ∃ B : Nat, b = B := ⟨b.toNat, by omega⟩
  obtain ⟨T, hT⟩ : ∃ T : Nat, t = T := ⟨t.toNat, by omega⟩
  subst hA hB hT
  simp only [Int.toNat_natCast] at ha hb ht ⊢
  simp (config := { maxSteps := 4000000 }) only [↓sx0, ↓sx1, ↓sx2, ↓sx3, ↓sx4, ↓sx5, ↓sx6, sx0, sx1, sx2, sx3, sx4, sx5, sx6, tf22, ev3_hold, sxo, sxc, sxp, sxq, sxr, sxs, sxl, sxm, simprocAttr, det0]
  refine CallOb.pure (fun w' hp => forth_fn w' _ _ _ _ _ _ _ _) ?_
  rintro r0 N2 ⟨bb, bf, bt, rfl, rfl⟩
  simp (config := { maxSteps := 4000000 }) only [↓sx0, ↓sx1, ↓sx2, ↓sx3, ↓sx4, ↓sx5, ↓sx6, sx0, sx1, sx2, sx3, sx4, sx5, sx6, tf22, ev3_hold, sxo, sxc, sxp, sxq, sxr, sxs, sxl, sxm, simprocAttr]
  refine range_introA Tryz.call68 (c.tide.length - T) (forthArg c g A T) [.cells bt 3 [I T], .cells bf 3 [I A], .cells bb 90 [I c.wide, I c.high, .slice aD nD cD, .slice aT nT cT, .slice aS nS cS, I g]] [.row (.slice none 0 0) 103 1 (cat (slN c.depth.length) [])]
    (fun k L' H' => ∃ ad cp bs ros, L' = [(25, [I c.wide, I c.high, .slice aD nD cD, .slice aT nT cT, .slice aS nS cS]), (3, [I B]), (22, [.slice none 0 0]), (35, [I 0]), (90, [I c.wide, I c.high, .slice aD nD cD, .slice aT nT cT, .slice aS nS cS, I g]), (100, [.slice ad k cp])] ∧
      H' = .row (.slice ad k cp) 103 1 (cat (slN c.depth.length) bs) :: ros ∧ bs.length = k ∧ (∀ i b, bs[i]? = some b → HO.ro (.row (.slice (some ⟨b, 0, none⟩) c.depth.length c.depth.length) 4 1 (bools (setN c g A T i))) ∈ ros) ∧ (ad = none → bs = []) ∧ ∀ j, j < k → (setN c g A T j).getD B false = false) (fun b => b = bt) (forthR w bb bf (.slice aD nD cD) (.slice aT nT cT) (.slice aS nS cS))
    ((HImp.sub (List.sublist_append_left [_, _, _] _)).trans ((HImp.nilRow _ _ 103 1).trans (HImp.perm (List.perm_append_comm (l₁ := [_]))))) (fun b hb => ⟨_, List.mem_cons_self, hb⟩) (fun b hb => forth_Rs w hw bb bf bt _ _ _ _ _ _ b hb) (fun w' hp => forth_hit w hw bb bf bt _ _ _ c hc0 hok g A T ha.2 ht.2 hn144 _ w' hp) ⟨none, 0, [], [], rfl, rfl, rfl, by simp, fun _ => rfl, by simp⟩ ?_ ?_ ?_
  · rintro k vs F ⟨x, rfl, _⟩
    try rfl
  · rintro k vs F L' H' hk ⟨x, rfl, rfl⟩ - ⟨ad, cp, bs, ros, rfl, rfl, rfl, hros, hnil, hnot⟩
    simp (config := { maxSteps := 4000000 }) only [↓sx0, ↓sx1, ↓sx2, ↓sx3, ↓sx4, ↓sx5, ↓sx6, sx0, sx1, sx2, sx3, sx4, sx5, sx6, tf22, ev3_hold, sxo, sxc, sxp, sxq, sxr, sxs, sxl, sxm, simprocAttr]
    intro b5
    refine app_one (l := bs) x (HImp.swap _ _ _ _) (slN_len _) (slN_one _) (by omega) fun ad5 c5 => ?_
    simp (config := { maxSteps := 4000000 }) only [↓sx0, ↓sx1, ↓sx2, ↓sx3, ↓sx4, ↓sx5, ↓sx6, sx0, sx1, sx2, sx3, sx4, sx5, sx6, tf22, ev3_hold, sxo, sxc, sxp, sxq, sxr, sxs, sxl, sxm, simprocAttr]
    refine at_1 (k := B) (ro_rdv (xs := bools (setN c g A T bs.length)) (List.mem_cons_of_mem _ List.mem_cons_self) ⟨_, _, _, rfl, by rw [cat_len b1_len, setN_len], fun h => by cases h⟩) b1_len (getD_at (by rw [setN_len]; omega) false) rfl fun ad6 => ?_
    have hros' : ∀ i b, (bs ++ [x])[i]? = some b → HO.ro (.row (.slice (some ⟨b, 0, none⟩) c.depth.length c.depth.length) 4 1 (bools (setN c g A T i))) ∈ HO.ro (.row (.slice (some ⟨x, 0, none⟩) c.depth.length c.depth.length) 4 1 (bools (setN c g A T bs.length))) :: ros := fun i b hi => by
      by_cases hib : i < bs.length
      · rw [List.getElem?_append_left hib] at hi
        exact List.mem_cons_of_mem _ (hros i b hi)
      · rw [List.getElem?_append_right (by omega)] at hi
        have h0 : i - bs.length = 0 := by
          have := (List.getElem?_eq_some_iff.1 hi).1
          simp at this
          omega
        rw [h0] at hi
        simp at hi
        subst hi
        rw [show i = bs.length by omega]
        exact List.mem_cons_self
    cases hB : (setN c g A T bs.length).getD B false with
    | false =>
      simp (config := { maxSteps := 4000000 }) only [↓sx0, ↓sx1, ↓sx2, ↓sx3, ↓sx4, ↓sx5, ↓sx6, sx0, sx1, sx2, sx3, sx4, sx5, sx6, tf22, ev3_hold, sxo, sxc, sxp, sxq, sxr, sxs, sxl, sxm, simprocAttr]
      refine ⟨_, HImp.refl _ _, some ad5, c5, bs ++ [x], _, rfl, rfl, by simp, hros', (fun h => by cases h), fun j hj => ?_⟩
      by_cases h : j < bs.length
      · exact hnot j h
      · rw [show j = bs.length by omega]
        exact hB
    | true =>
      simp (config := { maxSteps := 4000000 }) only [↓sx0, ↓sx1, ↓sx2, ↓sx3, ↓sx4, ↓sx5, ↓sx6, sx0, sx1, sx2, sx3, sx4, sx5, sx6, tf22, ev3_hold, sxo, sxc, sxp, sxq, sxr, sxs, sxl, sxm, simprocAttr, det0]
      refine CallOb.pure (fun w' hp => back_fn w' (hw.hp hp) _ _ _ _ c (hc0.hp hp) hok g (setL c g A T (bs.length + 1)) ?_ (by rw [setL_len]; omega) (by rw [setL_len]; omega) (fun i hi => ?_) (setL_chained c hok g A T _) B hb.2 ?_ hn144) ?_
      · refine ⟨(bs ++ [x]).map fun b => .slice (some ⟨b, 0, none⟩) c.depth.length c.depth.length, ?_, by simp [setL_len], fun i v hv => ?_⟩
        · rw [← slN_cat]
          exact row_hp List.mem_cons_self hp
        · rw [List.getElem?_map] at hv
          obtain ⟨b, hb1, rfl⟩ := Option.map_eq_some_iff.1 hv
          rw [setL_get _ _ _ _ _ _ (by have := (List.getElem?_eq_some_iff.1 hb1).1; simpa using this)]
          exact ro_hp (List.mem_cons_of_mem _ (hros' i b hb1)) hp
      · rw [setL_len] at hi
        rw [setL_get _ _ _ _ _ _ hi, setN_len]
      · rw [setL_len, Nat.add_sub_cancel, setL_get _ _ _ _ _ _ (by omega)]
        exact hB
      rintro r1 N4 ⟨x2, rfl, hm⟩
      rw [setL_len] at hm ⊢
      simp (config := { maxSteps := 4000000 }) only [↓sx0, ↓sx1, ↓sx2, ↓sx3, ↓sx4, ↓sx5, ↓sx6, sx0, sx1, sx2, sx3, sx4, sx5, sx6, tf22, ev3_hold, sxo, sxc, sxp, sxq, sxr, sxs, sxl, sxm, simprocAttr]
      refine ⟨_, HImp.refl _ _, .inr (.inl ⟨bs.length, x2, hk, hB, hnot, rfl, List.mem_append_left _ hm⟩)⟩
  · rintro L' H' - ⟨ad, cp, bs, ros, rfl, rfl, hbl, hros, hnil, hnot⟩
    simp (config := { maxSteps := 4000000 }) only [↓sx0, ↓sx1, ↓sx2, ↓sx3, ↓sx4, ↓sx5, ↓sx6, sx0, sx1, sx2, sx3, sx4, sx5, sx6, tf22, ev3_hold, sxo, sxc, sxp, sxq, sxr, sxs, sxl, sxm, simprocAttr]
    exact .inr (.inr hnot)
end Go.Proofs.YtogicfoigeongaaGreatDoor

namespace Go.Proofs.YtogicfoigeongaaGreatDoor
open Go.RowKit Go.SX
set_option maxRecDepth 20000
set_option maxHeartbeats 8000000
set_option linter.unusedSimpArgs false
set_option linter.unusedVariables false
def exC : Cht := ⟨4, 3, [0, 0, -50, -90, 30, 20, 10, -20, 60, 60, 40, 30], [(10, 14), (20, 26), (30, 36), (20, 26), (10, 14)], [5, 5, 5, 5, 5]⟩
theorem exC_ok : exC.ok := by unfold Cht.ok; decide
theorem exC_small : exC.small := by unfold Cht.small; decide
end Go.Proofs.YtogicfoigeongaaGreatDoor

namespace Go.Proofs.YtogicfoigeongaaGreatDoor
open Go.RowKit Go.SX
set_option maxRecDepth 20000
set_option maxHeartbeats 8000000
set_option linter.unusedSimpArgs false
set_option linter.unusedVariables false
theorem example_fn (w : World) : SX.Fn Tryz.prog 44 [] w (fun _ => False) fun r N => ∃ b1 b2 b3, r = .agg #[I 4, I 3, .slice (some ⟨b1, 0, none⟩) 12 12, .slice (some ⟨b2, 0, none⟩) 5 5, .slice (some ⟨b3, 0, none⟩) 5 5] ∧ HO.row (.slice (some ⟨b1, 0, none⟩) 12 12) 3 1 (ints exC.depth) ∈ N ∧ HO.row (.slice (some ⟨b2, 0, none⟩) 5 5) 55 2 (cat spc exC.tide) ∈ N ∧ HO.row (.slice (some ⟨b3, 0, none⟩) 5 5) 3 1 (ints exC.swell) ∈ N := by
  refine walk [] [] (det0_ok _ _) Tryz.func44 rfl Tryz.ntmps44 res44 (by kernel_rfl) no_facts ?_
  simp (config := { maxSteps := 4000000 }) only [↓sx0, ↓sx1, ↓sx2, ↓sx3, ↓sx4, ↓sx5, ↓sx6, sx0, sx1, sx2, sx3, sx4, sx5, sx6, tf44, ev3_hold, sxo, sxc, sxp, sxq, sxr, sxs, sxl, sxm, simprocAttr]
  exact fun b b1 b2 => ⟨b, b1, b2, rfl, .tail _ (.tail _ (.head _)), .tail _ (.head _), .head _⟩
end Go.Proofs.YtogicfoigeongaaGreatDoor

