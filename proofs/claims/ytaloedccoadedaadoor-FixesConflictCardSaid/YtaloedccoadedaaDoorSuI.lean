/- A part of a proof: the symbolic walk and what it shows of single functions. -/
import Derived.Test.YtaloedccoadedaaDoorSuI0
set_option linter.all false
namespace Go.Proofs.YtaloedccoadedaaDoor
open Go.RowKit Go.SX
set_option maxRecDepth 20000
set_option maxHeartbeats 0
set_option linter.unusedSimpArgs false
set_option linter.unusedVariables false
def bitP (s : Int) (i : Nat) : Bool := decide (bitS .and .i64 (s.fdiv (2 ^ (min i IntKind.i64.bits))) 1 = 1)
theorem fixesConflict_fn (w : World) (hw : Ways w) (hb : Deb w) (v : Value) (d : Dis) (hd : DsOk w v d) (set : Int) : SX.Fn Tryd.prog 3 [v, I set] w (fun _ => False) fun q N => q = .bool true := by
  have hd0 := hd
  have hwk := fun (H : List HO) w' (hp : Hp ⟨w, fun _ => False⟩ H w') => works3_fn w' (hw.hp hp) (hb.hp hp)
  have hva := fun (H : List HO) w' (hp : Hp ⟨w, fun _ => False⟩ H w') => vague_fn w' (hw.hp hp) v d (hd0.hp hp)
  have hck := fun (hs : d.small) (H : List HO) w' (hp : Hp ⟨w, fun _ => False⟩ H w') => rcheck3_fn w' (hw.hp hp) v d (hd0.hp hp) hs
  have hwh := fun (hs : d.small) (t : Int) (H : List HO) w' (hp : Hp ⟨w, fun _ => False⟩ H w') => where_fn w' (hw.hp hp) v d (hd0.hp hp) hs t
  have hcd := fun (hs : d.small) (H : List HO) w' (hp : Hp ⟨w, fun _ => False⟩ H w') => course_fn w' (hw.hp hp) v d (hd0.hp hp) hs
  have hcf := fun (hs : d.small) (h10 : d.E = 0 → d.rs.length ≤ 10) (H : List HO) w' (hp : Hp ⟨w, fun _ => False⟩ H w') => conflict_fn w' (hw.hp hp) (hb.hp hp) v d (hd0.hp hp) hs h10
  have hsk := fun (hs : d.small) (h10 : d.E = 0 → d.rs.length ≤ 10) (t k : Int) (H : List HO) w' (hp : Hp ⟨w, fun _ => False⟩ H w') => struck_fn w' (hw.hp hp) (hb.hp hp) v d (hd0.hp hp) hs h10 t k
  have hon := fun (hf : d.few) (vl : Value) (L : List Int) (hLl : L.length ≤ 1000) (ha : ascB d.rs.length L) (but : Int) (hbut : -1 ≤ but ∧ but ≤ 1000) (H : List HO) w' (hp : Hp ⟨w, fun _ => False⟩ H w') (hL : Sl w' vl 1 (ints L)) => only_fn w' v vl d (hd0.hp hp) hf L hL hLl ha but hbut
  have hco := fun (q : Dis) (hs : q.small) (v' : Value) (w' : World) (hp : Ways w') (h : DsOk w' v' q) => course_fn w' hp v' q h hs
  have hW2 : ∀ (H : List HO) (w' : World), Hp ⟨w, fun _ => False⟩ H w' → Ways w' := fun H w' hp => hw.hp hp
  obtain ⟨sD, sT, sS, sR, rfl, hc, hsR⟩ := hd
  have hD := detR_ok (X := fun _ => False) hw hc (fun _ _ => id)
  obtain ⟨_, _, _, hh, hsD, hsT, hsS⟩ := hc
  cases hh
  obtain ⟨aT, nT, cT, rfl⟩ := hsT.shape
  obtain ⟨aR, nR, cR, rfl⟩ := hsR.shape
  have hnT := hsT.le spc_len (by omega)
  have hnR := hsR.le rpc_len (by omega)
  subst hnT hnR
  have hU : (∀ n, detR (.agg #[I d.c.wide, I d.c.high, sD, .slice aT d.c.tide.length cT, sS]) d.c 36 [.agg #[I d.c.wide, I d.c.high, sD, .slice aT d.c.tide.length cT, sS], I n] = some (.bool (inB n 0 (wr ((d.c.tide.length : Int) - 1))))) ∧ (∀ n, detR (.agg #[I d.c.wide, I d.c.high, sD, .slice aT d.c.tide.length cT, sS]) d.c 40 [.agg #[I d.c.wide, I d.c.high, sD, .slice aT d.c.tide.length cT, sS], I n] = some (.bool (isCellB d.c.wide d.c.high n))) := ⟨fun _ => rfl, fun _ => rfl⟩
  have dn : (∀ xs, detR (.agg #[I d.c.wide, I d.c.high, sD, .slice aT d.c.tide.length cT, sS]) d.c 13 xs = none) ∧ (∀ xs, detR (.agg #[I d.c.wide, I d.c.high, sD, .slice aT d.c.tide.length cT, sS]) d.c 15 xs = none) ∧ (∀ xs, detR (.agg #[I d.c.wide, I d.c.high, sD, .slice aT d.c.tide.length cT, sS]) d.c 14 xs = none) ∧ (∀ xs, detR (.agg #[I d.c.wide, I d.c.high, sD, .slice aT d.c.tide.length cT, sS]) d.c 16 xs = none) ∧ (∀ xs, detR (.agg #[I d.c.wide, I d.c.high, sD, .slice aT d.c.tide.length cT, sS]) d.c 17 xs = none) ∧ (∀ xs, detR (.agg #[I d.c.wide, I d.c.high, sD, .slice aT d.c.tide.length cT, sS]) d.c 18 xs = none) ∧ (∀ xs, detR (.agg #[I d.c.wide, I d.c.high, sD, .slice aT d.c.tide.length cT, sS]) d.c 19 xs = none) := ⟨fun _ => rfl, fun _ => rfl, fun _ => rfl, fun _ => rfl, fun _ => rfl, fun _ => rfl, fun _ => rfl⟩
  refine walkC [11, 32] [] [] hD Tryd.func3 rfl Tryd.ntmps3 res3 (by kernel_rfl) no_facts ?_
  simp (config := { maxSteps := 4000000 }) only [↓sx0, ↓sx1, ↓sx2, ↓sx3, ↓sx4, ↓sx5, ↓sx6, sx0, sx1, sx2, sx3, sx4, sx5, sx6, tf3, ev3_hold, sxo, sxc, sxp, sxq, sxr, sxs, sxl, sxm, Int.reduceBEq, Int.reduceBNe, Int.reduceLT, Int.reduceLE, Int.reduceEq, Int.reduceGT, Int.reduceGE, Int.reduceToNat, ↓reduceIte, List.reduceReplicate, Nat.reduceAdd, Nat.reduceSub, Nat.reduceMul, Nat.reduceLT, Nat.reduceLeDiff, Nat.reduceBEq, Nat.reduceEqDiff, dn]
  refine CallOb.pureH (fun w' hp => hva _ w' hp) ?_
  rintro q N ⟨b, rfl, hb1⟩
  cases b with
  | true =>
    refine ⟨?_⟩
    simp (config := { maxSteps := 4000000 }) only [↓sx0, ↓sx1, ↓sx2, ↓sx3, ↓sx4, ↓sx5, ↓sx6, sx0, sx1, sx2, sx3, sx4, sx5, sx6, tf3, ev3_hold, sxo, sxc, sxp, sxq, sxr, sxs, sxl, sxm, Int.reduceBEq, Int.reduceBNe, Int.reduceLT, Int.reduceLE, Int.reduceEq, Int.reduceGT, Int.reduceGE, Int.reduceToNat, ↓reduceIte, List.reduceReplicate, Nat.reduceAdd, Nat.reduceSub, Nat.reduceMul, Nat.reduceLT, Nat.reduceLeDiff, Nat.reduceBEq, Nat.reduceEqDiff, dn]
    refine CallOb.pureH (fun w' hp => hwk _ w' hp) ?_
    rintro q N2 rfl
    refine ⟨?_⟩
    simp (config := { maxSteps := 4000000 }) only [↓sx0, ↓sx1, ↓sx2, ↓sx3, ↓sx4, ↓sx5, ↓sx6, sx0, sx1, sx2, sx3, sx4, sx5, sx6, tf3, ev3_hold, sxo, sxc, sxp, sxq, sxr, sxs, sxl, sxm, Int.reduceBEq, Int.reduceBNe, Int.reduceLT, Int.reduceLE, Int.reduceEq, Int.reduceGT, Int.reduceGE, Int.reduceToNat, ↓reduceIte, List.reduceReplicate, Nat.reduceAdd, Nat.reduceSub, Nat.reduceMul, Nat.reduceLT, Nat.reduceLeDiff, Nat.reduceBEq, Nat.reduceEqDiff]
  | false =>
  have hfew := hb1 rfl
  have hsm := hfew.small
  refine ⟨?_⟩
  simp (config := { maxSteps := 4000000 }) only [↓sx0, ↓sx1, ↓sx2, ↓sx3, ↓sx4, ↓sx5, ↓sx6, sx0, sx1, sx2, sx3, sx4, sx5, sx6, tf3, ev3_hold, sxo, sxc, sxp, sxq, sxr, sxs, sxl, sxm, Int.reduceBEq, Int.reduceBNe, Int.reduceLT, Int.reduceLE, Int.reduceEq, Int.reduceGT, Int.reduceGE, Int.reduceToNat, ↓reduceIte, List.reduceReplicate, Nat.reduceAdd, Nat.reduceSub, Nat.reduceMul, Nat.reduceLT, Nat.reduceLeDiff, Nat.reduceBEq, Nat.reduceEqDiff, dn]
  refine CallOb.pureH (fun w' hp => hck hsm _ w' hp) ?_
  rintro q N2 rfl
  by_cases hE : d.E = 0
  case neg =>
    have p1 : (d.E = 0) = False := eq_false hE
    refine ⟨?_⟩
    simp (config := { maxSteps := 4000000 }) only [↓sx0, ↓sx1, ↓sx2, ↓sx3, ↓sx4, ↓sx5, ↓sx6, sx0, sx1, sx2, sx3, sx4, sx5, sx6, tf3, ev3_hold, sxo, sxc, sxp, sxq, sxr, sxs, sxl, sxm, Int.reduceBEq, Int.reduceBNe, Int.reduceLT, Int.reduceLE, Int.reduceEq, Int.reduceGT, Int.reduceGE, Int.reduceToNat, ↓reduceIte, List.reduceReplicate, Nat.reduceAdd, Nat.reduceSub, Nat.reduceMul, Nat.reduceLT, Nat.reduceLeDiff, Nat.reduceBEq, Nat.reduceEqDiff, p1, dn]
    refine CallOb.pureH (fun w' hp => hwk _ w' hp) ?_
    rintro q N2 rfl
    refine ⟨?_⟩
    simp (config := { maxSteps := 4000000 }) only [↓sx0, ↓sx1, ↓sx2, ↓sx3, ↓sx4, ↓sx5, ↓sx6, sx0, sx1, sx2, sx3, sx4, sx5, sx6, tf3, ev3_hold, sxo, sxc, sxp, sxq, sxr, sxs, sxl, sxm, Int.reduceBEq, Int.reduceBNe, Int.reduceLT, Int.reduceLE, Int.reduceEq, Int.reduceGT, Int.reduceGE, Int.reduceToNat, ↓reduceIte, List.reduceReplicate, Nat.reduceAdd, Nat.reduceSub, Nat.reduceMul, Nat.reduceLT, Nat.reduceLeDiff, Nat.reduceBEq, Nat.reduceEqDiff]
  have p1 : (d.E = 0) = True := eq_true hE
  obtain ⟨hok, _, _, hm12, _⟩ := Dis.E_zero hE
  obtain ⟨h20, h6, hr6⟩ := hfew.2.2 hE
  have hm10 : d.rs.length ≤ 10 := by omega
  have hcell : ∀ n, isCellB d.c.wide d.c.high n = inB n 0 ((d.c.depth.length : Int) - 1) := fun n => by rw [isCell_iff hok]; unfold notCell; rw [Bool.not_not]
  have e1 : wr ((d.c.tide.length : Int) - 1) = (d.c.tide.length : Int) - 1 := wrap_id (by omega)
  have hcf := hcf hsm (fun _ => hm10)
  have hcfP : ∀ q N, ConfP d q N → FstQ (notC d.canB) d.rs.length q N := fun q N h => by
    rcases h with ⟨h, _⟩ | ⟨_, h⟩
    · exact absurd hE h
    · exact h
  have hcd := hcd hsm
  have hcdP : ∀ q N, CourseP d q N → ∃ x, q = .tuple #[x, I (if (d.crs pAll).least < NV then 0 else 3)] := fun q N h => by
    obtain ⟨x, rfl, _⟩ := h
    exact ⟨x, by rw [if_pos hE]⟩
  have hnone := Dis.can_none hE hm10
  have hless := fun y (h : fstL (notC d.canB) d.rs.length = some y) (but : Int) hb => fst_less h (but := but) hb
  have hbest := fun y (h : fstL (notC d.canB) d.rs.length = some y) => (fst_some h).2.2
  have hfn := fun (h : fstL (notC d.canB) d.rs.length = none) => fst_none h
  have hsl := fun y (hy : List.Sublist y (idx d.rs.length)) but => Dis.sub_least hE hm10 hy but
  have hsubE := fun y (hy : List.Sublist y (idx d.rs.length)) but => Dis.sub_E hE hy but
  have hnotC : ∀ y, notC d.canB y = !d.canB (orS 0 y) := fun _ => rfl
  obtain ⟨P, hP⟩ : ∃ P, fstL (notC d.canB) d.rs.length = P := ⟨_, rfl⟩
  have hcfP : ∀ q N, ConfP d q N → (P = none ∧ q = .tuple #[.slice none 0 0, I 3]) ∨ ∃ x v, P = some x ∧ q = .tuple #[v, I 0] ∧ Got v 3 1 i1 x N := fun q N h => by
    rw [← hP]
    exact hcfP q N h
  rw [hP] at hnone
  simp only [hP] at hless hbest hfn
  -- the reports of the set
  obtain ⟨p, hp⟩ : ∃ p, bitP set = p := ⟨_, rfl⟩
  have hbp : ∀ i, p i = decide (bitS .and .i64 (set.fdiv (2 ^ (min i IntKind.i64.bits))) 1 = 1) := fun i => by rw [← hp]; rfl
  have hzs := pick_sub p d.rs.length
  have hpl : ∀ i, (pick p i).length ≤ i := pick_len p
  have hps := fun i => pick_succ p i
  have hsubs : ∀ y but, List.Sublist y (idx d.rs.length) → (d.sub y but).small := fun y but hy => by
    refine ⟨few_small hfew.1, ?_⟩
    show (onlyR d y but y.length).length ≤ 20
    have := onlyR_len d y but y.length
    have := sub_len hy
    omega
  have honG := fun (but : Int) hb vl (y : List Int) (hy : List.Sublist y (idx d.rs.length)) => hon hfew vl y (by have := sub_len hy; omega) (sub_asc hy) but hb
  have hd0 : dropAt (pick p d.rs.length) (-1) = pick p d.rs.length := if_pos (by decide)
  -- the last part
  have hlast : ∀ (l : Value) (e : Int) (K : List HO), ((P = none ∧ e = 3 ∧ l = .slice none 0 0) ∨ ∃ y, P = some y ∧ e = 0 ∧ Got l 3 1 i1 y K) →
      (d.canB (orS 0 (pick p d.rs.length)) = true) ∨ (d.canB (orS 0 (pick p d.rs.length)) = false ∧ ∃ y, P = some y ∧ e = 0 ∧ Got l 3 1 i1 y K ∧ y.length ≤ 10 ∧ befB (pick p d.rs.length) y = false) := fun l e K h => by
    cases hc : d.canB (orS 0 (pick p d.rs.length)) with
    | true => exact .inl rfl
    | false =>
      refine .inr ⟨rfl, ?_⟩
      have hn : notC d.canB (pick p d.rs.length) = true := by rw [hnotC, hc]; rfl
      rcases h with ⟨h, _, _⟩ | ⟨y, h1, h2, h3⟩
      · have := hfn h _ hzs
        rw [hn] at this
        cases this
      · have h4 := sub_len (hless y h1 (-1) (by omega)).1
        exact ⟨y, h1, h2, h3, by omega, hbest y h1 _ hzs hn⟩
  refine ⟨?_⟩
  simp (config := { maxSteps := 4000000 }) only [↓sx0, ↓sx1, ↓sx2, ↓sx3, ↓sx4, ↓sx5, ↓sx6, sx0, sx1, sx2, sx3, sx4, sx5, sx6, tf3, ev3_hold, sxo, sxc, sxp, sxq, sxr, sxs, sxl, sxm, Int.reduceBEq, Int.reduceBNe, Int.reduceLT, Int.reduceLE, Int.reduceEq, Int.reduceGT, Int.reduceGE, Int.reduceToNat, ↓reduceIte, List.reduceReplicate, Nat.reduceAdd, Nat.reduceSub, Nat.reduceMul, Nat.reduceLT, Nat.reduceLeDiff, Nat.reduceBEq, Nat.reduceEqDiff, p1, dn]
  refine CallOb.pureH (fun w' hp => hcf _ w' hp) ?_
  intro q N3 hq
  have hq := hcfP q N3 hq
  obtain ⟨l, e, rfl, hle⟩ : ∃ l e, q = .tuple #[l, I e] ∧ ((P = none ∧ e = 3 ∧ l = .slice none 0 0) ∨ ∃ y, P = some y ∧ e = 0 ∧ Got l 3 1 i1 y N3) := by
    rcases hq with ⟨h1, rfl⟩ | ⟨y, vy, h1, rfl, h2⟩
    · exact ⟨_, _, rfl, .inl ⟨h1, rfl, rfl⟩⟩
    · exact ⟨_, _, rfl, .inr ⟨y, h1, rfl, h2⟩⟩
  refine ⟨?_⟩
  simp (config := { maxSteps := 4000000 }) only [↓sx0, ↓sx1, ↓sx2, ↓sx3, ↓sx4, ↓sx5, ↓sx6, sx0, sx1, sx2, sx3, sx4, sx5, sx6, tf3, ev3_hold, sxo, sxc, sxp, sxq, sxr, sxs, sxl, sxm, Int.reduceBEq, Int.reduceBNe, Int.reduceLT, Int.reduceLE, Int.reduceEq, Int.reduceGT, Int.reduceGE, Int.reduceToNat, ↓reduceIte, List.reduceReplicate, Nat.reduceAdd, Nat.reduceSub, Nat.reduceMul, Nat.reduceLT, Nat.reduceLeDiff, Nat.reduceBEq, Nat.reduceEqDiff, dn]
  refine CallOb.pureH (fun w' hp => hcd _ w' hp) ?_
  intro q N4 hq2
  obtain ⟨xc, rfl⟩ := hcdP q N4 hq2
  obtain ⟨K, hK⟩ : ∃ K, N4 ++ (N3 ++ (N2 ++ N)) = K := ⟨_, rfl⟩
  have hle : (P = none ∧ e = 3 ∧ l = .slice none 0 0) ∨ ∃ y, P = some y ∧ e = 0 ∧ Got l 3 1 i1 y K := hle.imp id fun ⟨y, h1, h2, h3⟩ => ⟨y, h1, h2, h3.mono (fun h hh => by rw [← hK]; simp [hh])⟩
  have hlast := hlast l e K hle
  obtain ⟨ec, hec⟩ : ∃ ec : Int, (if (d.crs pAll).least < NV then 0 else 3) = ec := ⟨_, rfl⟩
  have hee : (e = 3 ∧ ec = 0) ∨ (e = 0 ∧ ec = 3) := by
    rcases hle with ⟨h, h1, _⟩ | ⟨y, h, h1, _⟩
    · left
      rw [if_pos (hnone.1 h)] at hec
      exact ⟨h1, hec.symm⟩
    · right
      rw [if_neg (fun h2 => by rw [hnone.2 h2] at h; cases h)] at hec
      exact ⟨h1, hec.symm⟩
  have hls : ∃ al nl cl, l = .slice al nl cl := by
    rcases hle with ⟨_, _, h⟩ | ⟨y, _, _, h⟩
    · exact ⟨_, _, _, h⟩
    · obtain ⟨a, c, h⟩ := h.shape
      exact ⟨a, _, c, h⟩
  obtain ⟨al, nl, cl, rfl⟩ := hls
  rw [hec]
  rw [hK]
  refine ⟨?_⟩
  simp (config := { maxSteps := 4000000 }) only [↓sx0, ↓sx1, ↓sx2, ↓sx3, ↓sx4, ↓sx5, ↓sx6, sx0, sx1, sx2, sx3, sx4, sx5, sx6, tf3, ev3_hold, sxo, sxc, sxp, sxq, sxr, sxs, sxl, sxm, Int.reduceBEq, Int.reduceBNe, Int.reduceLT, Int.reduceLE, Int.reduceEq, Int.reduceGT, Int.reduceGE, Int.reduceToNat, ↓reduceIte, List.reduceReplicate, Nat.reduceAdd, Nat.reduceSub, Nat.reduceMul, Nat.reduceLT, Nat.reduceLeDiff, Nat.reduceBEq, Nat.reduceEqDiff]
  refine cut_constH [(38, 50)] (fun _ : Unit => [(50, .bool false)]) (fun _ H2 => H2 = K) ?_ ?_
  · rcases hee with ⟨rfl, rfl⟩ | ⟨rfl, rfl⟩
    · refine ⟨?_⟩
      simp (config := { maxSteps := 4000000 }) only [↓sx0, ↓sx1, ↓sx2, ↓sx3, ↓sx4, ↓sx5, ↓sx6, sx0, sx1, sx2, sx3, sx4, sx5, sx6, tf3, ev3_hold, sxo, sxc, sxp, sxq, sxr, sxs, sxl, sxm, Int.reduceBEq, Int.reduceBNe, Int.reduceLT, Int.reduceLE, Int.reduceEq, Int.reduceGT, Int.reduceGE, Int.reduceToNat, ↓reduceIte, List.reduceReplicate, Nat.reduceAdd, Nat.reduceSub, Nat.reduceMul, Nat.reduceLT, Nat.reduceLeDiff, Nat.reduceBEq, Nat.reduceEqDiff]
      exact ⟨(), _, HImp.refl _ _, rfl⟩
    · refine ⟨?_⟩
      simp (config := { maxSteps := 4000000 }) only [↓sx0, ↓sx1, ↓sx2, ↓sx3, ↓sx4, ↓sx5, ↓sx6, sx0, sx1, sx2, sx3, sx4, sx5, sx6, tf3, ev3_hold, sxo, sxc, sxp, sxq, sxr, sxs, sxl, sxm, Int.reduceBEq, Int.reduceBNe, Int.reduceLT, Int.reduceLE, Int.reduceEq, Int.reduceGT, Int.reduceGE, Int.reduceToNat, ↓reduceIte, List.reduceReplicate, Nat.reduceAdd, Nat.reduceSub, Nat.reduceMul, Nat.reduceLT, Nat.reduceLeDiff, Nat.reduceBEq, Nat.reduceEqDiff]
      exact ⟨(), _, HImp.refl _ _, rfl⟩
  rintro _ H2 g2 rfl
  refine ⟨?_⟩
  simp (config := { maxSteps := 4000000 }) only [↓sx0, ↓sx1, ↓sx2, ↓sx3, ↓sx4, ↓sx5, ↓sx6, sx0, sx1, sx2, sx3, sx4, sx5, sx6, tf3, ev3_hold, sxo, sxc, sxp, sxq, sxr, sxs, sxl, sxm, Int.reduceBEq, Int.reduceBNe, Int.reduceLT, Int.reduceLE, Int.reduceEq, Int.reduceGT, Int.reduceGE, Int.reduceToNat, ↓reduceIte, List.reduceReplicate, Nat.reduceAdd, Nat.reduceSub, Nat.reduceMul, Nat.reduceLT, Nat.reduceLeDiff, Nat.reduceBEq, Nat.reduceEqDiff]
  refine cut_constH [(4, 4), (9, 13), (51, 88)] (fun _ : Unit => []) (fun _ H3 => H3 = H2) ?_ ?_
  · refine ⟨?_⟩
    simp (config := { maxSteps := 4000000 }) only [↓sx0, ↓sx1, ↓sx2, ↓sx3, ↓sx4, ↓sx5, ↓sx6, sx0, sx1, sx2, sx3, sx4, sx5, sx6, tf3, ev3_hold, sxo, sxc, sxp, sxq, sxr, sxs, sxl, sxm, Int.reduceBEq, Int.reduceBNe, Int.reduceLT, Int.reduceLE, Int.reduceEq, Int.reduceGT, Int.reduceGE, Int.reduceToNat, ↓reduceIte, List.reduceReplicate, Nat.reduceAdd, Nat.reduceSub, Nat.reduceMul, Nat.reduceLT, Nat.reduceLeDiff, Nat.reduceBEq, Nat.reduceEqDiff]
    refine loop_constH H2 (HImp.refl _ _) [(4, 4), (9, 13), (51, 88)] (fun b : Nat => [(9, I ((b : Int) - 1))]) (fun b H1 => (e = 0 → (b : Int) ≤ nl + 1) ∧ (e = 3 → b = 0) ∧ H1 = H2) (fun b => nl + 1 - b) 0 ?_ ⟨fun _ => by omega, fun _ => rfl, rfl⟩ ?_
    · simp (config := { maxSteps := 4000000 }) only [↓sx0, ↓sx1, ↓sx2, ↓sx3, ↓sx4, ↓sx5, ↓sx6, sx0, sx1, sx2, sx3, sx4, sx5, sx6, tf3, ev3_hold, sxo, sxc, sxp, sxq, sxr, sxs, sxl, sxm, Int.reduceBEq, Int.reduceBNe, Int.reduceLT, Int.reduceLE, Int.reduceEq, Int.reduceGT, Int.reduceGE, Int.reduceToNat, ↓reduceIte, List.reduceReplicate, Nat.reduceAdd, Nat.reduceSub, Nat.reduceMul, Nat.reduceLT, Nat.reduceLeDiff, Nat.reduceBEq, Nat.reduceEqDiff]
      try simp
    rintro b H1 g1 ⟨hb0, hb3, rfl⟩
    by_cases hgo : e = 0 ∧ b < nl + 1
    · obtain ⟨rfl, hbn⟩ := hgo
      have hb0 := hb0 rfl
      obtain ⟨y, hPs, hGy⟩ : ∃ y, P = some y ∧ Got (.slice al nl cl) 3 1 i1 y H1 := by
        rcases hle with ⟨_, h, _⟩ | ⟨y, h1, _, h2⟩
        · cases h
        · exact ⟨y, h1, h2⟩
      have hny : nl = y.length := by
        obtain ⟨a, c, h⟩ := hGy.shape
        injection h
      subst hny
      have e7 : ((b : Int) - 1 < (y.length : Int)) = True := eq_true (by omega)
      obtain ⟨but, hbut⟩ : ∃ but : Int, (b : Int) - 1 = but := ⟨_, rfl⟩
      have hys := (hless y hPs (-1) (by omega)).1
      have hyl := sub_len hys
      have e8 : wr ((b : Int) - 1 + 1) = ((b + 1 : Nat) : Int) - 1 := (wrap_id (by omega)).trans (by omega)
      rw [hbut] at e7 e8
      have hon := honG but (by omega) (.slice al y.length cl) y hys
      have hco := hco _ (hsubs y but hys)
      have hcob : ∀ q N, CourseP (d.sub y but) q N → ∃ x, q = .tuple #[x, I (if 0 ≤ but then 0 else 3)] := fun q N h => by
        obtain ⟨x, rfl, _⟩ := h
        refine ⟨x, ?_⟩
        have k3 := (hless y hPs but (by omega)).2
        rw [if_pos (hsubE y hys but)]
        by_cases h0 : 0 ≤ but
        · rw [decide_eq_true h0] at k3
          rw [if_pos ((hsl y hys but).2 k3), if_pos h0]
        · rw [decide_eq_false h0] at k3
          rw [if_neg (fun h => by rw [(hsl y hys but).1 h] at k3; cases k3), if_neg h0]
      have hSBe : (⟨d.c, d.dr, d.pc, onlyR d y but y.length⟩ : Dis) = d.sub y but := rfl
      rw [hSBe] at hon
      refine ⟨?_⟩
      simp (config := { maxSteps := 4000000 }) only [↓sx0, ↓sx1, ↓sx2, ↓sx3, ↓sx4, ↓sx5, ↓sx6, sx0, sx1, sx2, sx3, sx4, sx5, sx6, tf3, ev3_hold, sxo, sxc, sxp, sxq, sxr, sxs, sxl, sxm, Int.reduceBEq, Int.reduceBNe, Int.reduceLT, Int.reduceLE, Int.reduceEq, Int.reduceGT, Int.reduceGE, Int.reduceToNat, ↓reduceIte, List.reduceReplicate, Nat.reduceAdd, Nat.reduceSub, Nat.reduceMul, Nat.reduceLT, Nat.reduceLeDiff, Nat.reduceBEq, Nat.reduceEqDiff, hbut, e7, dn]
      refine CallOb.pureH (fun w' hp => hon _ w' hp (hGy.hp (fun h hh => hh) hp)) ?_
      rintro q N6 ⟨v', rfl, hDN⟩
      have hDN0 := hDN
      obtain ⟨aq1, cq1, aq2, cq2, aq3, cq3, ad, cp, A, rfl, _⟩ := DsN.more (w0 := ⟨w, fun _ => False⟩) hDN
      refine ⟨?_⟩
      simp (config := { maxSteps := 4000000 }) only [↓sx0, ↓sx1, ↓sx2, ↓sx3, ↓sx4, ↓sx5, ↓sx6, sx0, sx1, sx2, sx3, sx4, sx5, sx6, tf3, ev3_hold, sxo, sxc, sxp, sxq, sxr, sxs, sxl, sxm, Int.reduceBEq, Int.reduceBNe, Int.reduceLT, Int.reduceLE, Int.reduceEq, Int.reduceGT, Int.reduceGE, Int.reduceToNat, ↓reduceIte, List.reduceReplicate, Nat.reduceAdd, Nat.reduceSub, Nat.reduceMul, Nat.reduceLT, Nat.reduceLeDiff, Nat.reduceBEq, Nat.reduceEqDiff, dn]
      refine CallOb.pureH (fun w' hp => hco _ w' (hW2 _ w' hp) (hDN0.ok (fun h hh => by simp [hh]) hp)) ?_
      intro q N7 hq
      obtain ⟨xc, rfl⟩ := hcob q N7 hq
      by_cases h0 : 0 ≤ but
      · have q1 : (but < 0) = False := eq_false (by omega)
        have q2 : (but ≥ 0) = True := eq_true h0
        rw [if_pos h0]
        refine ⟨?_⟩
        simp (config := { maxSteps := 4000000 }) only [↓sx0, ↓sx1, ↓sx2, ↓sx3, ↓sx4, ↓sx5, ↓sx6, sx0, sx1, sx2, sx3, sx4, sx5, sx6, tf3, ev3_hold, sxo, sxc, sxp, sxq, sxr, sxs, sxl, sxm, Int.reduceBEq, Int.reduceBNe, Int.reduceLT, Int.reduceLE, Int.reduceEq, Int.reduceGT, Int.reduceGE, Int.reduceToNat, ↓reduceIte, List.reduceReplicate, Nat.reduceAdd, Nat.reduceSub, Nat.reduceMul, Nat.reduceLT, Nat.reduceLeDiff, Nat.reduceBEq, Nat.reduceEqDiff, hbut, q1, q2, e8]
        exact ⟨b + 1, _, rfl, (HImp.app _ _ _).trans (HImp.app _ _ _), ⟨by omega, rfl⟩, by omega⟩
      · have q1 : (but < 0) = True := eq_true (by omega)
        have q2 : (but ≥ 0) = False := eq_false h0
        rw [if_neg h0]
        refine ⟨?_⟩
        simp (config := { maxSteps := 4000000 }) only [↓sx0, ↓sx1, ↓sx2, ↓sx3, ↓sx4, ↓sx5, ↓sx6, sx0, sx1, sx2, sx3, sx4, sx5, sx6, tf3, ev3_hold, sxo, sxc, sxp, sxq, sxr, sxs, sxl, sxm, Int.reduceBEq, Int.reduceBNe, Int.reduceLT, Int.reduceLE, Int.reduceEq, Int.reduceGT, Int.reduceGE, Int.reduceToNat, ↓reduceIte, List.reduceReplicate, Nat.reduceAdd, Nat.reduceSub, Nat.reduceMul, Nat.reduceLT, Nat.reduceLeDiff, Nat.reduceBEq, Nat.reduceEqDiff, hbut, q1, q2, e8]
        exact ⟨b + 1, _, rfl, (HImp.app _ _ _).trans (HImp.app _ _ _), ⟨by omega, rfl⟩, by omega⟩
    rcases hee with ⟨rfl, rfl⟩ | ⟨rfl, rfl⟩
    · refine ⟨?_⟩
      simp (config := { maxSteps := 4000000 }) only [↓sx0, ↓sx1, ↓sx2, ↓sx3, ↓sx4, ↓sx5, ↓sx6, sx0, sx1, sx2, sx3, sx4, sx5, sx6, tf3, ev3_hold, sxo, sxc, sxp, sxq, sxr, sxs, sxl, sxm, Int.reduceBEq, Int.reduceBNe, Int.reduceLT, Int.reduceLE, Int.reduceEq, Int.reduceGT, Int.reduceGE, Int.reduceToNat, ↓reduceIte, List.reduceReplicate, Nat.reduceAdd, Nat.reduceSub, Nat.reduceMul, Nat.reduceLT, Nat.reduceLeDiff, Nat.reduceBEq, Nat.reduceEqDiff]
      exact ⟨(), _, HImp.refl _ _, rfl⟩
    · have hbe : (b : Int) = nl + 1 := by
        have := hb0 rfl
        have h2 : ¬ b < nl + 1 := fun h => hgo ⟨rfl, h⟩
        omega
      have e7 : ((b : Int) - 1 < (nl : Int)) = False := eq_false (by omega)
      refine ⟨?_⟩
      simp (config := { maxSteps := 4000000 }) only [↓sx0, ↓sx1, ↓sx2, ↓sx3, ↓sx4, ↓sx5, ↓sx6, sx0, sx1, sx2, sx3, sx4, sx5, sx6, tf3, ev3_hold, sxo, sxc, sxp, sxq, sxr, sxs, sxl, sxm, Int.reduceBEq, Int.reduceBNe, Int.reduceLT, Int.reduceLE, Int.reduceEq, Int.reduceGT, Int.reduceGE, Int.reduceToNat, ↓reduceIte, List.reduceReplicate, Nat.reduceAdd, Nat.reduceSub, Nat.reduceMul, Nat.reduceLT, Nat.reduceLeDiff, Nat.reduceBEq, Nat.reduceEqDiff, e7]
      exact ⟨(), _, HImp.refl _ _, rfl⟩
  rintro _ H3 g3 rfl
  refine ⟨?_⟩
  simp (config := { maxSteps := 4000000 }) only [↓sx0, ↓sx1, ↓sx2, ↓sx3, ↓sx4, ↓sx5, ↓sx6, sx0, sx1, sx2, sx3, sx4, sx5, sx6, tf3, ev3_hold, sxo, sxc, sxp, sxq, sxr, sxs, sxl, sxm, Int.reduceBEq, Int.reduceBNe, Int.reduceLT, Int.reduceLE, Int.reduceEq, Int.reduceGT, Int.reduceGE, Int.reduceToNat, ↓reduceIte, List.reduceReplicate, Nat.reduceAdd, Nat.reduceSub, Nat.reduceMul, Nat.reduceLT, Nat.reduceLeDiff, Nat.reduceBEq, Nat.reduceEqDiff]
  refine loop_constH (HO.row (.slice none 0 0) 3 1 (ints (pick p 0)) :: H3) (HImp.nilRow _ _ _ _) [(14, 15), (89, 105)] (fun q : Nat × Option Addr × Nat => [(14, .slice q.2.1 (pick p q.1).length q.2.2), (15, I q.1)]) (fun q H1 => q.1 ≤ d.rs.length ∧ (q.2.1 = none → pick p q.1 = []) ∧ H1 = HO.row (.slice q.2.1 (pick p q.1).length q.2.2) 3 1 (ints (pick p q.1)) :: H3) (fun q => d.rs.length - q.1) (0, none, 0) ?_ ⟨Nat.zero_le _, fun _ => rfl, rfl⟩ ?_
  · simp (config := { maxSteps := 4000000 }) only [↓sx0, ↓sx1, ↓sx2, ↓sx3, ↓sx4, ↓sx5, ↓sx6, sx0, sx1, sx2, sx3, sx4, sx5, sx6, tf3, ev3_hold, sxo, sxc, sxp, sxq, sxr, sxs, sxl, sxm, Int.reduceBEq, Int.reduceBNe, Int.reduceLT, Int.reduceLE, Int.reduceEq, Int.reduceGT, Int.reduceGE, Int.reduceToNat, ↓reduceIte, List.reduceReplicate, Nat.reduceAdd, Nat.reduceSub, Nat.reduceMul, Nat.reduceLT, Nat.reduceLeDiff, Nat.reduceBEq, Nat.reduceEqDiff]
    try simp [pick]
  rintro ⟨i, ap, cp⟩ H1 g1 hinv
  simp only [] at hinv
  obtain ⟨hi, hnil, rfl⟩ := hinv
  by_cases hin : i = d.rs.length
  case neg =>
    have e7 : ((i : Int) < (d.rs.length : Int)) = True := eq_true (by omega)
    have e8 : wr (i + 1) = ((i + 1 : Nat) : Int) := (wrap_id (by omega)).trans (by omega)
    have e9 : IntKind.u64.wrap (i : Int) = i := by rw [IntKind.wrap_u64]; omega
    have hsu := hps i
    have hbi := hbp i
    have hpli := hpl i
    cases hpi : p i with
    | false =>
      rw [hpi] at hsu hbi
      have e3 : (bitS .and .i64 (set.fdiv (2 ^ (min i IntKind.i64.bits))) 1 = 1) = False := eq_false (of_decide_eq_false hbi.symm)
      simp only [Bool.false_eq_true, if_false, List.append_nil] at hsu
      refine ⟨?_⟩
      simp (config := { maxSteps := 4000000 }) only [↓sx0, ↓sx1, ↓sx2, ↓sx3, ↓sx4, ↓sx5, ↓sx6, sx0, sx1, sx2, sx3, sx4, sx5, sx6, tf3, ev3_hold, sxo, sxc, sxp, sxq, sxr, sxs, sxl, sxm, Int.reduceBEq, Int.reduceBNe, Int.reduceLT, Int.reduceLE, Int.reduceEq, Int.reduceGT, Int.reduceGE, Int.reduceToNat, ↓reduceIte, List.reduceReplicate, Nat.reduceAdd, Nat.reduceSub, Nat.reduceMul, Nat.reduceLT, Nat.reduceLeDiff, Nat.reduceBEq, Nat.reduceEqDiff, e7, e9, Int.toNat_natCast, e3, e8]
      exact ⟨by omega, (i + 1, ap, cp), _, by simp only [hsu, and_self], HImp.refl _ _, ⟨by simp only []; omega, by simp only [hsu]; exact hnil, by simp only [hsu]⟩, by simp only []; omega⟩
    | true =>
      rw [hpi] at hsu hbi
      have e3 : (bitS .and .i64 (set.fdiv (2 ^ (min i IntKind.i64.bits))) 1 = 1) = True := eq_true (of_decide_eq_true hbi.symm)
      simp only [if_true] at hsu
      have hsl2 : (pick p i).length + 1 = (pick p (i + 1)).length := by rw [hsu, List.length_append]; rfl
      refine ⟨?_⟩
      simp (config := { maxSteps := 4000000 }) only [↓sx0, ↓sx1, ↓sx2, ↓sx3, ↓sx4, ↓sx5, ↓sx6, sx0, sx1, sx2, sx3, sx4, sx5, sx6, tf3, ev3_hold, sxo, sxc, sxp, sxq, sxr, sxs, sxl, sxm, Int.reduceBEq, Int.reduceBNe, Int.reduceLT, Int.reduceLE, Int.reduceEq, Int.reduceGT, Int.reduceGE, Int.reduceToNat, ↓reduceIte, List.reduceReplicate, Nat.reduceAdd, Nat.reduceSub, Nat.reduceMul, Nat.reduceLT, Nat.reduceLeDiff, Nat.reduceBEq, Nat.reduceEqDiff, e7, e9, Int.toNat_natCast, e3]
      refine ⟨by omega, ?_⟩
      intro b4
      refine app_one (l := pick p i) (i : Int) (HImp.refl _ _) i1_len i1_one (by omega) fun ad3 c3 => ?_
      rw [← hsu, hsl2]
      simp (config := { maxSteps := 4000000 }) only [↓sx0, ↓sx1, ↓sx2, ↓sx3, ↓sx4, ↓sx5, ↓sx6, sx0, sx1, sx2, sx3, sx4, sx5, sx6, tf3, ev3_hold, sxo, sxc, sxp, sxq, sxr, sxs, sxl, sxm, Int.reduceBEq, Int.reduceBNe, Int.reduceLT, Int.reduceLE, Int.reduceEq, Int.reduceGT, Int.reduceGE, Int.reduceToNat, ↓reduceIte, List.reduceReplicate, Nat.reduceAdd, Nat.reduceSub, Nat.reduceMul, Nat.reduceLT, Nat.reduceLeDiff, Nat.reduceBEq, Nat.reduceEqDiff, e8]
      exact ⟨(i + 1, some ad3, c3), _, ⟨rfl, rfl⟩, HImp.refl _ _, ⟨by simp only []; omega, fun h => (by cases h), rfl⟩, by simp only []; omega⟩
  rw [hin] at hnil ⊢
  have e7 : ((d.rs.length : Int) < (d.rs.length : Int)) = False := eq_false (by omega)
  obtain ⟨Z, hZ⟩ : ∃ Z, pick p d.rs.length = Z := ⟨_, rfl⟩
  have hon2 := honG (-1) (by omega) (.slice ap Z.length cp) Z (by rw [← hZ]; exact hzs)
  have hco := hco _ (hsubs Z (-1) (by rw [← hZ]; exact hzs))
  rw [hZ] at hlast hd0 hnil hzs ⊢
  have hcob : ∀ q N, CourseP (d.sub Z (-1)) q N → ∃ x, q = .tuple #[x, I (if d.canB (orS 0 Z) = true then 0 else 3)] := fun q N h => by
    obtain ⟨x, rfl, _⟩ := h
    refine ⟨x, ?_⟩
    have k3 := hsl Z hzs (-1)
    rw [hd0] at k3
    rw [if_pos (hsubE Z hzs (-1))]
    by_cases hc : d.canB (orS 0 Z) = true
    · rw [if_pos hc, if_pos (k3.2 hc)]
    · rw [if_neg hc, if_neg (fun h => hc (k3.1 h))]
  have hZl : Z.length ≤ 10 := by have := sub_len hzs; omega
  have hSBe : (⟨d.c, d.dr, d.pc, onlyR d Z (-1) Z.length⟩ : Dis) = d.sub Z (-1) := rfl
  rw [hSBe] at hon2
  refine ⟨?_⟩
  simp (config := { maxSteps := 4000000 }) only [↓sx0, ↓sx1, ↓sx2, ↓sx3, ↓sx4, ↓sx5, ↓sx6, sx0, sx1, sx2, sx3, sx4, sx5, sx6, tf3, ev3_hold, sxo, sxc, sxp, sxq, sxr, sxs, sxl, sxm, Int.reduceBEq, Int.reduceBNe, Int.reduceLT, Int.reduceLE, Int.reduceEq, Int.reduceGT, Int.reduceGE, Int.reduceToNat, ↓reduceIte, List.reduceReplicate, Nat.reduceAdd, Nat.reduceSub, Nat.reduceMul, Nat.reduceLT, Nat.reduceLeDiff, Nat.reduceBEq, Nat.reduceEqDiff, e7, dn]
  refine CallOb.pureH (fun w' hp => hon2 _ w' hp (row_hp (E := 3) List.mem_cons_self hp)) ?_
  rintro q N6 ⟨v', rfl, hDN⟩
  have hDN0 := hDN
  obtain ⟨aq1, cq1, aq2, cq2, aq3, cq3, ad, cp2, A, rfl, _⟩ := DsN.more (w0 := ⟨w, fun _ => False⟩) hDN
  refine ⟨?_⟩
  simp (config := { maxSteps := 4000000 }) only [↓sx0, ↓sx1, ↓sx2, ↓sx3, ↓sx4, ↓sx5, ↓sx6, sx0, sx1, sx2, sx3, sx4, sx5, sx6, tf3, ev3_hold, sxo, sxc, sxp, sxq, sxr, sxs, sxl, sxm, Int.reduceBEq, Int.reduceBNe, Int.reduceLT, Int.reduceLE, Int.reduceEq, Int.reduceGT, Int.reduceGE, Int.reduceToNat, ↓reduceIte, List.reduceReplicate, Nat.reduceAdd, Nat.reduceSub, Nat.reduceMul, Nat.reduceLT, Nat.reduceLeDiff, Nat.reduceBEq, Nat.reduceEqDiff, dn]
  refine CallOb.pureH (fun w' hp => hco _ w' (hW2 _ w' hp) (hDN0.ok (fun h hh => by simp [hh]) hp)) ?_
  intro q N7 hq
  obtain ⟨xc, rfl⟩ := hcob q N7 hq
  rcases hlast with hc | ⟨hc, y, hPs, rfl, hGy, hyl, hbf⟩
  · rw [if_pos hc]
    refine ⟨?_⟩
    simp (config := { maxSteps := 4000000 }) only [↓sx0, ↓sx1, ↓sx2, ↓sx3, ↓sx4, ↓sx5, ↓sx6, sx0, sx1, sx2, sx3, sx4, sx5, sx6, tf3, ev3_hold, sxo, sxc, sxp, sxq, sxr, sxs, sxl, sxm, Int.reduceBEq, Int.reduceBNe, Int.reduceLT, Int.reduceLE, Int.reduceEq, Int.reduceGT, Int.reduceGE, Int.reduceToNat, ↓reduceIte, List.reduceReplicate, Nat.reduceAdd, Nat.reduceSub, Nat.reduceMul, Nat.reduceLT, Nat.reduceLeDiff, Nat.reduceBEq, Nat.reduceEqDiff, dn]
    refine CallOb.pureH (fun w' hp => hwk _ w' hp) ?_
    rintro q N9 rfl
    refine ⟨?_⟩
    simp (config := { maxSteps := 4000000 }) only [↓sx0, ↓sx1, ↓sx2, ↓sx3, ↓sx4, ↓sx5, ↓sx6, sx0, sx1, sx2, sx3, sx4, sx5, sx6, tf3, ev3_hold, sxo, sxc, sxp, sxq, sxr, sxs, sxl, sxm, Int.reduceBEq, Int.reduceBNe, Int.reduceLT, Int.reduceLE, Int.reduceEq, Int.reduceGT, Int.reduceGE, Int.reduceToNat, ↓reduceIte, List.reduceReplicate, Nat.reduceAdd, Nat.reduceSub, Nat.reduceMul, Nat.reduceLT, Nat.reduceLeDiff, Nat.reduceBEq, Nat.reduceEqDiff]
  · rw [if_neg (by rw [hc]; decide)]
    have hso := fun (w' : World) (u v : Value) (h1 : Sl w' u 1 (ints Z)) (h2 : Sl w' v 1 (ints y)) => sooner_fn w' u v Z y h1 h2 (by omega) (by omega)
    rw [hbf] at hso
    refine ⟨?_⟩
    simp (config := { maxSteps := 4000000 }) only [↓sx0, ↓sx1, ↓sx2, ↓sx3, ↓sx4, ↓sx5, ↓sx6, sx0, sx1, sx2, sx3, sx4, sx5, sx6, tf3, ev3_hold, sxo, sxc, sxp, sxq, sxr, sxs, sxl, sxm, Int.reduceBEq, Int.reduceBNe, Int.reduceLT, Int.reduceLE, Int.reduceEq, Int.reduceGT, Int.reduceGE, Int.reduceToNat, ↓reduceIte, List.reduceReplicate, Nat.reduceAdd, Nat.reduceSub, Nat.reduceMul, Nat.reduceLT, Nat.reduceLeDiff, Nat.reduceBEq, Nat.reduceEqDiff, dn]
    refine CallOb.pureH (fun w' hp => hso w' _ _ (row_hp (E := 3) (by simp) hp) (hGy.hp (fun h hh => by simp [hh]) hp)) ?_
    rintro q N8 rfl
    refine ⟨?_⟩
    simp (config := { maxSteps := 4000000 }) only [↓sx0, ↓sx1, ↓sx2, ↓sx3, ↓sx4, ↓sx5, ↓sx6, sx0, sx1, sx2, sx3, sx4, sx5, sx6, tf3, ev3_hold, sxo, sxc, sxp, sxq, sxr, sxs, sxl, sxm, Int.reduceBEq, Int.reduceBNe, Int.reduceLT, Int.reduceLE, Int.reduceEq, Int.reduceGT, Int.reduceGE, Int.reduceToNat, ↓reduceIte, List.reduceReplicate, Nat.reduceAdd, Nat.reduceSub, Nat.reduceMul, Nat.reduceLT, Nat.reduceLeDiff, Nat.reduceBEq, Nat.reduceEqDiff, dn]
    refine CallOb.pureH (fun w' hp => hwk _ w' hp) ?_
    rintro q N9 rfl
    refine ⟨?_⟩
    simp (config := { maxSteps := 4000000 }) only [↓sx0, ↓sx1, ↓sx2, ↓sx3, ↓sx4, ↓sx5, ↓sx6, sx0, sx1, sx2, sx3, sx4, sx5, sx6, tf3, ev3_hold, sxo, sxc, sxp, sxq, sxr, sxs, sxl, sxm, Int.reduceBEq, Int.reduceBNe, Int.reduceLT, Int.reduceLE, Int.reduceEq, Int.reduceGT, Int.reduceGE, Int.reduceToNat, ↓reduceIte, List.reduceReplicate, Nat.reduceAdd, Nat.reduceSub, Nat.reduceMul, Nat.reduceLT, Nat.reduceLeDiff, Nat.reduceBEq, Nat.reduceEqDiff]
end Go.Proofs.YtaloedccoadedaaDoor
