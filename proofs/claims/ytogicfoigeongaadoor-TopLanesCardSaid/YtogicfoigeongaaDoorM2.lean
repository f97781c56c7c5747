/- Parts of a proof: the symbolic walk and what it shows of single functions. -/
import Derived.Test.YtogicfoigeongaaDoorC5
import Derived.Test.YtogicfoigeongaaDoorM1
import Derived.Test.YtogicfoigeongaaDoorL3
set_option linter.all false
namespace Go.Proofs.YtogicfoigeongaaDoor
open Go.RowKit Go.SX Go.ChangeShapes Go.WideShapes Go.ChangeAt
set_option maxRecDepth 100000
theorem leaves4 {P : Program} {w : World} {vs : List Value} (h : Lvs P w [.int .i64, .int .i64, .int .i64, .int .i64] vs) : ∃ a b c d, vs = [I a, I b, I c, I d] := by
  cases h with | int _ h => cases h with | int _ h => cases h with | int _ h => cases h with | int _ h => cases h with | nil => exact ⟨_, _, _, _, rfl⟩
theorem flat_hunt : flat Tryd.prog 6 32 = some [.int .i64, .int .i64, .slice 3, .slice 94, .slice 3, .slice 3, .slice 27, .slice 123, .slice 42, .int .i64] := by kernel_rfl
theorem flat_push : flat Tryd.prog 4 123 = some [.int .i64, .int .i64, .int .i64] := by kernel_rfl
theorem flat_pushes : flat Tryd.prog 4 27 = some [.slice 123] := by kernel_rfl
theorem flat_unit : flat Tryd.prog 4 42 = some [.int .i64, .int .i64, .int .i64, .int .i64] := by kernel_rfl
theorem flat_rows : flat Tryd.prog 4 33 = some [.slice 22] := by kernel_rfl
theorem cells_push : Tryd.prog.cellsOf 123 = 3 := by kernel_rfl
theorem cells_pushes : Tryd.prog.cellsOf 27 = 1 := by kernel_rfl
theorem cells_unit : Tryd.prog.cellsOf 42 = 4 := by kernel_rfl
theorem cells_ints : Tryd.prog.cellsOf 22 = 1 := by kernel_rfl
theorem cat_ofP {α : Type} {f : α → List Value} {p : α → Prop} : ∀ {xss : List (List Value)}, (∀ xs ∈ xss, ∃ u, xs = f u ∧ p u) → ∃ l : List α, xss.flatten = cat f l ∧ l.length = xss.length ∧ ∀ u ∈ l, p u
  | [], _ => ⟨[], rfl, rfl, fun _ h => by cases h⟩
  | xs :: xss, h => by
    obtain ⟨u, rfl, hu⟩ := h xs List.mem_cons_self
    obtain ⟨l, hl, hn, hp⟩ := cat_ofP fun ys hy => h ys (List.mem_cons_of_mem _ hy)
    refine ⟨u :: l, by rw [List.flatten_cons, hl, cat_cons], by simp [hn], fun v hv => ?_⟩
    rcases List.mem_cons.1 hv with rfl | hv
    · exact hu
    · exact hp v hv
theorem sl_psh {w : World} {a : Option Addr} {len cap : Nat} {xss : List (List Value)} (hs : Sl w (.slice a len cap) (Tryd.prog.cellsOf 123) xss.flatten) (hx : ∀ xs ∈ xss, ∀ m es, flat Tryd.prog m 123 = some es → Lvs Tryd.prog w es xs) : ∃ l : List Psh, Sl w (.slice a len cap) 3 (cat psc l) := by
  obtain ⟨us, hu, _⟩ := cat_of (f := psc) (xss := xss) fun xs hxs => by
    obtain ⟨a, b, c, hl⟩ := leaves3 (hx xs hxs 4 _ flat_push)
    exact ⟨⟨a, b, c⟩, hl⟩
  rw [cells_push, hu] at hs
  exact ⟨us, hs⟩
theorem sl_cur {w : World} {a : Option Addr} {len cap : Nat} {xss : List (List Value)} (hs : Sl w (.slice a len cap) (Tryd.prog.cellsOf 27) xss.flatten) (hx : ∀ xs ∈ xss, ∀ m es, flat Tryd.prog m 27 = some es → Lvs Tryd.prog w es xs) : ∃ cs, CuOk w (.slice a len cap) cs := by
  obtain ⟨us, hu, _, hp⟩ := cat_ofP (f := csc) (p := fun p : Cs => Sl w (csv p) 3 (cat psc p.1)) (xss := xss) fun xs hxs => by
    have hl := hx xs hxs 4 _ flat_pushes
    cases hl with
    | @slice _ a2 n2 c2 x1 _ _ _ _ _ s1 _ e1 hl =>
      cases hl
      obtain ⟨l, h⟩ := sl_psh s1 e1
      exact ⟨(l, a2, n2, c2), rfl, h⟩
  rw [cells_pushes, hu] at hs
  exact ⟨us.map Prod.fst, us, rfl, hs, hp⟩
theorem sl_units {w : World} {a : Option Addr} {len cap : Nat} {xss : List (List Value)} (hs : Sl w (.slice a len cap) (Tryd.prog.cellsOf 42) xss.flatten) (hx : ∀ xs ∈ xss, ∀ m es, flat Tryd.prog m 42 = some es → Lvs Tryd.prog w es xs) : ∃ l : List Unt, Sl w (.slice a len cap) 4 (cat untc l) := by
  obtain ⟨us, hu, _⟩ := cat_of (f := untc) (xss := xss) fun xs hxs => by
    obtain ⟨a, b, c, d, hl⟩ := leaves4 (hx xs hxs 4 _ flat_unit)
    exact ⟨⟨a, b, c, d⟩, hl⟩
  rw [cells_unit, hu] at hs
  exact ⟨us, hs⟩
theorem sl_rows {w : World} {a : Option Addr} {len cap : Nat} {xss : List (List Value)} (hs : Sl w (.slice a len cap) (Tryd.prog.cellsOf 22) xss.flatten) (hx : ∀ xs ∈ xss, ∀ m es, flat Tryd.prog m 22 = some es → Lvs Tryd.prog w es xs) : ∃ cs, LLOk i1 1 w (.slice a len cap) cs := by
  obtain ⟨us, hu, _, hp⟩ := cat_ofP (f := lpc) (p := fun p : Lp Int => Sl w (lpv p) 1 (cat i1 p.1)) (xss := xss) fun xs hxs => by
    have hl := hx xs hxs 4 _ flat_ints
    cases hl with
    | @slice _ a2 n2 c2 x1 _ _ _ _ _ s1 _ e1 hl =>
      cases hl
      obtain ⟨l, h, _⟩ := sl_ints s1 e1
      exact ⟨(l, a2, n2, c2), rfl, h⟩
  rw [cells_ints, hu] at hs
  exact ⟨us.map Prod.fst, us, rfl, hs, hp⟩
theorem hunt_of {H : Type} {enc : TypeId × Value → H} {w : World} {base : Nat} {v : Value} {d : DataW H} {ps : List MemPlace} (h : Value.okWide Tryd.prog w .any base 32 v) (hd : DataW.Trod enc Tryd.prog w 0 (fun _ => true) true 32 v d ps) : ∃ (f : Drf) (us : List Unt) (T : Int) (sD sT sS vZ vC vW vU : Value), v = hnv f sD sT sS vZ vC vW vU T ∧ HuOk w f us sD sT sS vZ vC vW vU := by
  obtain ⟨cs, rfl⟩ := agg_of Tryd.underlying32 h
  have hl := lvs_of_Trod hd 6 flat_hunt
  rw [show (Value.agg cs).cells.toList = cs.toList from rfl] at hl
  generalize hcs : cs.toList = l at hl
  cases hl with | int _ hl => cases hl with | int _ hl => cases hl with | slice x1 _ _ _ s1 _ e1 hl => cases hl with | slice x2 _ _ _ s2 _ e2 hl => cases hl with | slice x3 _ _ _ s3 _ e3 hl => cases hl with | slice x4 _ _ _ s4 _ e4 hl => cases hl with | slice x5 _ _ _ s5 _ e5 hl => cases hl with | slice x6 _ _ _ s6 _ e6 hl => cases hl with | slice x7 _ _ _ s7 _ e7 hl => cases hl with | int _ hl =>
    cases hl
    obtain ⟨l1, h1, _⟩ := sl_ints s1 e1
    obtain ⟨l2, h2, _⟩ := sl_spans s2 e2
    obtain ⟨l3, h3, _⟩ := sl_ints s3 e3
    obtain ⟨l4, h4, _⟩ := sl_ints s4 e4
    obtain ⟨l5, h5⟩ := sl_cur s5 e5
    obtain ⟨l6, h6⟩ := sl_psh s6 e6
    obtain ⟨l7, h7⟩ := sl_units s7 e7
    exact ⟨⟨⟨_, _, l1, l2, l3⟩, l4, l5, l6⟩, l7, _, _, _, _, _, _, _, _, by rw [show cs = cs.toList.toArray by simp, hcs]; rfl, ⟨⟨_, _, _, rfl, h1, h2, h3⟩, h4, h5, h6⟩, h7⟩
theorem rows_of {H : Type} {enc : TypeId × Value → H} {w : World} {base : Nat} {v : Value} {d : DataW H} {ps : List MemPlace} (h : Value.okWide Tryd.prog w .any base 33 v) (hd : DataW.Trod enc Tryd.prog w 0 (fun _ => true) true 33 v d ps) : ∃ cs, LLOk i1 1 w v cs ∧ cs.length ≤ 9223372036854775807 := by
  obtain ⟨a, n, c, rfl⟩ := slice_of Tryd.underlying33 h
  have hl := lvs_of_Trod hd 4 flat_rows
  rw [show (Value.slice a n c).cells.toList = [Value.slice a n c] from rfl] at hl
  cases hl with | slice x1 k1 k2 k3 s1 _ e1 hl =>
    obtain ⟨cs, ps, h1, h2, h3⟩ := sl_rows s1 e1
    have k3 : c ≤ 9223372036854775807 := k3
    have h4 := h2.len
    rw [cat_len lpc_len] at h4
    exact ⟨cs, ⟨ps, h1, h2, h3⟩, by rw [← h1, List.length_map]; omega⟩
end Go.Proofs.YtogicfoigeongaaDoor

namespace Go.Proofs.YtogicfoigeongaaDoor
open Go.RowKit Go.SX
set_option maxRecDepth 20000
set_option maxHeartbeats 0
set_option linter.unusedSimpArgs false
set_option linter.unusedVariables false
theorem lcheck_fn (w : World) (hw : Ways w) (sD sT sS vl : Value) (c : Cht) (hc : ChOk w (.agg #[I c.wide, I c.high, sD, sT, sS]) c) (hsm : c.small) (hok : c.ok) (ls : List Lg) (hls : LegsOk w vl ls) (hl12 : ls.length ≤ 12) (hle : ∀ l ∈ ls, l.Ok c) :
    SX.Fn Tryd.prog 10 [.agg #[I c.wide, I c.high, sD, sT, sS], vl] w (fun _ => False) fun q N => q = I 0 := by
  have dn : ∀ (g : Nat) (xs : List Value), det0 g xs = none := fun _ _ => rfl
  have hop := fun (H : List HO) w' (hp : Hp ⟨w, fun _ => False⟩ H w') => lopen_fn w' (hw.hp hp) sD sT sS vl c (hc.hp hp) hsm hok ls (hls.hp hp) hl12 hle
  unfold TrN at hop
  refine walk [] [] (det0_ok _ _) Tryd.func10 rfl Tryd.ntmps10 res10 (by kernel_rfl) no_facts ?_
  simp (config := { maxSteps := 4000000 }) only [↓sx0, ↓sx1, ↓sx2, ↓sx3, ↓sx4, ↓sx5, ↓sx6, sx0, sx1, sx2, sx3, sx4, sx5, sx6, tf10, ev3_hold, sxo, sxc, sxp, sxq, sxr, sxs, sxl, sxm, simprocAttr, dn]
  refine CallOb.pureH (fun w' hp => hop _ w' hp) ?_
  rintro q N0 ⟨bx, vn, rfl, _, _⟩
  refine ⟨?_⟩
  simp (config := { maxSteps := 4000000 }) only [↓sx0, ↓sx1, ↓sx2, ↓sx3, ↓sx4, ↓sx5, ↓sx6, sx0, sx1, sx2, sx3, sx4, sx5, sx6, tf10, ev3_hold, sxo, sxc, sxp, sxq, sxr, sxs, sxl, sxm, simprocAttr]
  try rfl
theorem ld_mono {w0 : Base} {H : List HO} {a : Addr} {K K' : SV → Prop} (h : hold (LdOb w0 H a none K) ⟨0⟩) (hm : ∀ s, K s → K' s) : hold (LdOb w0 H a none K') ⟨0⟩ := by
  obtain ⟨v, h1, h2⟩ := h
  exact ⟨v, h1, hm _ h2⟩
theorem isPlan2_fn (w : World) (hw : Ways w) (d : Drf) (us : List Unt) (T : Int) (sD sT sS vZ vC vW vU : Value) (h : HuOk w d us sD sT sS vZ vC vW vU) (hP : HuntP d us T) (vp : Value) (plan : List (List Int)) (hpl : LLOk i1 1 w vp plan) (hp20 : plan.length ≤ 20) :
    SX.Fn Tryd.prog 8 [hnv d sD sT sS vZ vC vW vU T, vp] w (fun _ => False) fun q N => ∃ b, q = .bool b ∧ (b = true → PlanOk d.c T.toNat us plan) := by
  have h1 := hP.T1
  obtain ⟨TT, rfl⟩ := Int.eq_ofNat_of_zero_le (show 0 ≤ T by omega)
  exact isPlan_fn w hw d us TT sD sT sS vZ vC vW vU h hP vp plan hpl hp20
theorem topLanes_fn (w : World) (hw : Ways w) (d : Drf) (us : List Unt) (T : Int) (sD sT sS vZ vC vW vU : Value) (h : HuOk w d us sD sT sS vZ vC vW vU) (vp : Value) (plan : List (List Int)) (hpl : LLOk i1 1 w vp plan) (hpll : plan.length ≤ 9223372036854775807) :
    SX.Fn Tryd.prog 3 [hnv d sD sT sS vZ vC vW vU T, vp] w (fun _ => False) fun r N => r = .bool true := by
  have dn : ∀ (g : Nat) (xs : List Value), det0 g xs = none := fun _ _ => rfl
  have hro := fun (H : List HO) w' (hp : Hp ⟨w, fun _ => False⟩ H w') => routed_fn w' (hw.hp hp)
  have hfar := fun (H : List HO) w' (hp : Hp ⟨w, fun _ => False⟩ H w') => far4_fn w' d us T sD sT sS vZ vC vW vU (h.hp hp.ext)
  have hfp := fun (H : List HO) w' (hp : Hp ⟨w, fun _ => False⟩ H w') => farPlan_fn w' vp plan (hpl.hp hp) hpll
  have hck := fun (hs : d.small) (hu : us.length ≤ 20) (H : List HO) w' (hp : Hp ⟨w, fun _ => False⟩ H w') => rcheck4_fn w' d us T sD sT sS vZ vC vW vU (h.hp hp.ext) hs hu
  have hip := fun (hP : HuntP d us T) (hp20 : plan.length ≤ 20) (H : List HO) w' (hp : Hp ⟨w, fun _ => False⟩ H w') => isPlan2_fn w' (hw.hp hp) d us T sD sT sS vZ vC vW vU (h.hp hp.ext) hP vp plan (hpl.hp hp) hp20
  have hlc := fun (hsm : d.c.small) (hok : d.c.ok) (vl : Value) (ls : List Lg) (hl12 : ls.length ≤ 12) (hle : ∀ l ∈ ls, l.Ok d.c) (H : List HO) w' (hp : Hp ⟨w, fun _ => False⟩ H w') (hls : LegsOk w' vl ls) => lcheck_fn w' (hw.hp hp) sD sT sS vl d.c (h.df.ch.hp hp) hsm hok ls hls hl12 hle
  have hcl := fun (hsm : d.c.small) (hok : d.c.ok) (vl : Value) (ls : List Lg) (hl12 : ls.length ≤ 12) (hle : ∀ l ∈ ls, l.Ok d.c) (H : List HO) w' (hp : Hp ⟨w, fun _ => False⟩ H w') (hls : LegsOk w' vl ls) => lclashes_fn w' (hw.hp hp) sD sT sS vl d.c (h.df.ch.hp hp) hsm hok ls hls hl12 hle
  obtain ⟨hd, hu⟩ := h
  obtain ⟨aU, nU, cU, rfl⟩ := hu.shape
  have hnU := hu.le untc_len (by omega)
  subst hnU
  have hrU := fun H => hu.rd0 H
  obtain ⟨ps, hps, hs, hr⟩ := hpl
  obtain ⟨a, n, c, rfl⟩ := hs.shape
  have hn := hs.le lpc_len (by omega)
  subst hn
  have hpsl : ps.length = plan.length := by rw [← hps, List.length_map]
  have hrC := fun H => hs.rd0 H
  have hgl : ∀ (i : Nat) p, ps[i]? = some p → plan.getD i [] = p.1 := fun i p hi => by
    rw [List.getD_eq_getElem?_getD, ← hps, List.getElem?_map, hi]
    rfl
  unfold hnv at hfar hck hip ⊢
  refine walkC [3, 20] [7] [(7, (ones [0, 2, 7, 8, 9] (.ld 1 (ones [3, 4] (.ld 5 (.ld 10 (.pre 6 (.pre 13 (ones [6] (.kl 11 (ones [12, 13] (.kl 14 .fin))))))))))))] (det0_ok _ _) Tryd.func3 rfl Tryd.ntmps3 res3 (by kernel_rfl) no_facts ?_
  simp (config := { maxSteps := 4000000 }) only [↓sx0, ↓sx1, ↓sx2, ↓sx3, ↓sx4, ↓sx5, ↓sx6, sx0, sx1, sx2, sx3, sx4, sx5, sx6, tf3, ev3_hold, sxo, sxc, sxp, sxq, sxr, sxs, sxl, sxm, simprocAttr, dn]
  refine cut_constH [(14, 30)] (fun b : Bool => [(30, .bool b)]) (fun b H2 => H2 = [] ∧ (b = false → HuntP d us T ∧ d.small ∧ plan.length ≤ 20 ∧ PlanOk d.c T.toNat us plan)) ?_ ?_
  · refine ⟨?_⟩
    simp (config := { maxSteps := 4000000 }) only [↓sx0, ↓sx1, ↓sx2, ↓sx3, ↓sx4, ↓sx5, ↓sx6, sx0, sx1, sx2, sx3, sx4, sx5, sx6, tf3, ev3_hold, sxo, sxc, sxp, sxq, sxr, sxs, sxl, sxm, simprocAttr, dn]
    refine CallOb.pureH (fun w' hp => hfar _ w' hp) ?_
    rintro q N ⟨b, rfl, hb1⟩
    cases b with
    | true =>
      refine ⟨?_⟩
      simp (config := { maxSteps := 4000000 }) only [↓sx0, ↓sx1, ↓sx2, ↓sx3, ↓sx4, ↓sx5, ↓sx6, sx0, sx1, sx2, sx3, sx4, sx5, sx6, tf3, ev3_hold, sxo, sxc, sxp, sxq, sxr, sxs, sxl, sxm, simprocAttr, dn]
      exact ⟨true, _, rfl, HImp.nil _ _, rfl, fun h => by cases h⟩
    | false =>
    obtain ⟨hsm, hu20⟩ := hb1 rfl
    have hck := hck hsm hu20
    refine ⟨?_⟩
    simp (config := { maxSteps := 4000000 }) only [↓sx0, ↓sx1, ↓sx2, ↓sx3, ↓sx4, ↓sx5, ↓sx6, sx0, sx1, sx2, sx3, sx4, sx5, sx6, tf3, ev3_hold, sxo, sxc, sxp, sxq, sxr, sxs, sxl, sxm, simprocAttr, dn]
    refine CallOb.pureH (fun w' hp => hfp _ w' hp) ?_
    rintro q N2 ⟨b, rfl, hb2⟩
    cases b with
    | true =>
      refine ⟨?_⟩
      simp (config := { maxSteps := 4000000 }) only [↓sx0, ↓sx1, ↓sx2, ↓sx3, ↓sx4, ↓sx5, ↓sx6, sx0, sx1, sx2, sx3, sx4, sx5, sx6, tf3, ev3_hold, sxo, sxc, sxp, sxq, sxr, sxs, sxl, sxm, simprocAttr, dn]
      exact ⟨true, _, rfl, HImp.nil _ _, rfl, fun h => by cases h⟩
    | false =>
    obtain ⟨hp20, _⟩ := hb2 rfl
    refine ⟨?_⟩
    simp (config := { maxSteps := 4000000 }) only [↓sx0, ↓sx1, ↓sx2, ↓sx3, ↓sx4, ↓sx5, ↓sx6, sx0, sx1, sx2, sx3, sx4, sx5, sx6, tf3, ev3_hold, sxo, sxc, sxp, sxq, sxr, sxs, sxl, sxm, simprocAttr, dn]
    refine CallOb.pureH (fun w' hp => hck _ w' hp) ?_
    rintro q N3 ⟨e, rfl, he⟩
    by_cases he0 : e = 0
    case neg =>
      have z1 : (e = 0) = False := eq_false he0
      refine ⟨?_⟩
      simp (config := { maxSteps := 4000000 }) only [↓sx0, ↓sx1, ↓sx2, ↓sx3, ↓sx4, ↓sx5, ↓sx6, sx0, sx1, sx2, sx3, sx4, sx5, sx6, tf3, ev3_hold, sxo, sxc, sxp, sxq, sxr, sxs, sxl, sxm, simprocAttr, z1, dn]
      exact ⟨true, _, rfl, HImp.nil _ _, rfl, fun h => by cases h⟩
    have z1 : (e = 0) = True := eq_true he0
    have hP := he he0
    have hip := hip hP hp20
    refine ⟨?_⟩
    simp (config := { maxSteps := 4000000 }) only [↓sx0, ↓sx1, ↓sx2, ↓sx3, ↓sx4, ↓sx5, ↓sx6, sx0, sx1, sx2, sx3, sx4, sx5, sx6, tf3, ev3_hold, sxo, sxc, sxp, sxq, sxr, sxs, sxl, sxm, simprocAttr, z1, dn]
    refine CallOb.pureH (fun w' hp => hip _ w' hp) ?_
    rintro q N4 ⟨b, rfl, hb4⟩
    cases b with
    | false =>
      refine ⟨?_⟩
      simp (config := { maxSteps := 4000000 }) only [↓sx0, ↓sx1, ↓sx2, ↓sx3, ↓sx4, ↓sx5, ↓sx6, sx0, sx1, sx2, sx3, sx4, sx5, sx6, tf3, ev3_hold, sxo, sxc, sxp, sxq, sxr, sxs, sxl, sxm, simprocAttr, dn]
      exact ⟨true, _, rfl, HImp.nil _ _, rfl, fun h => by cases h⟩
    | true =>
      refine ⟨?_⟩
      simp (config := { maxSteps := 4000000 }) only [↓sx0, ↓sx1, ↓sx2, ↓sx3, ↓sx4, ↓sx5, ↓sx6, sx0, sx1, sx2, sx3, sx4, sx5, sx6, tf3, ev3_hold, sxo, sxc, sxp, sxq, sxr, sxs, sxl, sxm, simprocAttr, dn]
      exact ⟨false, _, rfl, HImp.nil _ _, rfl, fun _ => ⟨hP, hsm, hp20, hb4 rfl⟩⟩
  rintro b H2 g2 ⟨rfl, hb⟩
  cases b with
  | true =>
    refine ⟨?_⟩
    simp (config := { maxSteps := 4000000 }) only [↓sx0, ↓sx1, ↓sx2, ↓sx3, ↓sx4, ↓sx5, ↓sx6, sx0, sx1, sx2, sx3, sx4, sx5, sx6, tf3, ev3_hold, sxo, sxc, sxp, sxq, sxr, sxs, sxl, sxm, simprocAttr, dn]
    refine CallOb.pureH (fun w' hp => hro _ w' hp) ?_
    rintro q N5 rfl
    refine ⟨?_⟩
    simp (config := { maxSteps := 4000000 }) only [↓sx0, ↓sx1, ↓sx2, ↓sx3, ↓sx4, ↓sx5, ↓sx6, sx0, sx1, sx2, sx3, sx4, sx5, sx6, tf3, ev3_hold, sxo, sxc, sxp, sxq, sxr, sxs, sxl, sxm, simprocAttr]
    try rfl
  | false =>
  obtain ⟨hP, hsm, hp20, hpo⟩ := hb rfl
  have hT1 := hP.T1
  have hn3 := hP.n3
  have hok := hP.ok.c
  have hT60 := hok.2.2.2.1
  have hPl := hpo.1
  refine ⟨?_⟩
  simp (config := { maxSteps := 4000000 }) only [↓sx0, ↓sx1, ↓sx2, ↓sx3, ↓sx4, ↓sx5, ↓sx6, sx0, sx1, sx2, sx3, sx4, sx5, sx6, tf3, ev3_hold, sxo, sxc, sxp, sxq, sxr, sxs, sxl, sxm, simprocAttr, dn]
  refine loop_constH [HO.row (.slice none 0 0) 44 5 (cat lqc ([] : List Lq))] (HImp.nilRow _ _ _ _) [(4, 7), (32, 66)] (fun q : Nat × Option Addr × Nat => [(4, .bool false), (5, .slice q.2.1 q.1 q.2.2), (6, I q.1)])
    (fun q H1 => q.1 ≤ ps.length ∧ ∃ pn DN, pn.map Prod.fst = legsN us plan q.1 ∧ (q.2.1 = none → pn = []) ∧ (∀ j, j < q.1 → (us.getD j unt0).reach ≤ 1) ∧ H1 = HO.row (.slice q.2.1 q.1 q.2.2) 44 5 (cat lqc (pn : List Lq)) :: DN ∧ ∀ p ∈ pn, HO.row (lqs p) 3 1 (ints p.1.cells) ∈ DN) (fun q => ps.length - q.1) (0, none, 0) ?_ ⟨Nat.zero_le _, [], [], rfl, fun _ => rfl, fun j h => by omega, rfl, by simp⟩ ?_
  · simp (config := { maxSteps := 4000000 }) only [↓sx0, ↓sx1, ↓sx2, ↓sx3, ↓sx4, ↓sx5, ↓sx6, sx0, sx1, sx2, sx3, sx4, sx5, sx6, tf3, ev3_hold, sxo, sxc, sxp, sxq, sxr, sxs, sxl, sxm, simprocAttr]
    try simp
  rintro ⟨i, an, cn⟩ H1 g1 hinv
  simp only [] at hinv
  obtain ⟨hi, pn, DN, hpn, hnil, hre, rfl, hDN⟩ := hinv
  have hpnl : pn.length = i := by
    have := congrArg List.length hpn
    rw [List.length_map, legsN_len] at this
    exact this
  by_cases hin : i = ps.length
  case neg =>
    have e7 : ((i : Int) < (ps.length : Int)) = True := eq_true (by omega)
    have e8 : wr (i + 1) = ((i + 1 : Nat) : Int) := (wrap_id (by omega)).trans (by omega)
    have eU : ((i : Int) < (us.length : Int)) = True := eq_true (by omega)
    obtain ⟨p, hp⟩ : ∃ p, ps[i]? = some p := ⟨_, List.getElem?_eq_getElem (by omega)⟩
    have hpm := List.mem_of_getElem? hp
    have hgp := hgl i p hp
    obtain ⟨pl, pa, pk, pc⟩ := p
    have hsl : Sl w (.slice pa pk pc) 1 (cat i1 pl) := hr _ hpm
    have hnp := hsl.le i1_len (by omega)
    subst hnp
    simp only [] at hgp
    have hplT := (hpo.2 i (by omega)).1
    rw [hgp] at hplT
    obtain ⟨u, hx⟩ : ∃ u, us[i]? = some u := ⟨_, List.getElem?_eq_getElem (by omega)⟩
    have hgu : us.getD i unt0 = u := by rw [List.getD_eq_getElem?_getD, hx]; rfl
    obtain ⟨i1h, i2h, adh, hadh, hld⟩ := at_1 (K := fun _ s => s = .v (lpv (pl, pa, pl.length, pc))) (hrC []) lpc_len hp rfl (fun _ => rfl)
    obtain ⟨L, hL⟩ : ∃ L : Int, (if u.dr = 0 then 1 else 0) = L := ⟨_, rfl⟩
    obtain ⟨R0, hR0⟩ : ∃ R0, (HO.row (.slice an i cn) 44 5 (cat lqc (pn : List Lq)) :: DN) = R0 := ⟨_, rfl⟩
    rw [hR0]
    refine ⟨?_⟩
    simp (config := { maxSteps := 4000000 }) only [↓sx0, ↓sx1, ↓sx2, ↓sx3, ↓sx4, ↓sx5, ↓sx6, sx0, sx1, sx2, sx3, sx4, sx5, sx6, tf3, ev3_hold, sxo, sxc, sxp, sxq, sxr, sxs, sxl, sxm, simprocAttr, e7, eU]
    refine ⟨by omega, adh, hadh, ?_⟩
    refine amid (at_f (hrU _) untc_len hx (o := 2) (x := I u.dr) rfl fun ad2 => ?_)
    simp (config := { maxSteps := 4000000 }) only [↓sx0, ↓sx1, ↓sx2, ↓sx3, ↓sx4, ↓sx5, ↓sx6, sx0, sx1, sx2, sx3, sx4, sx5, sx6, tf3, ev3_hold, sxo, sxc, sxp, sxq, sxr, sxs, sxl, sxm, simprocAttr]
    refine ld_mono hld ?_
    rintro s rfl
    unfold lpv
    simp (config := { maxSteps := 4000000 }) only [↓sx0, ↓sx1, ↓sx2, ↓sx3, ↓sx4, ↓sx5, ↓sx6, sx0, sx1, sx2, sx3, sx4, sx5, sx6, tf3, ev3_hold, sxo, sxc, sxp, sxq, sxr, sxs, sxl, sxm, simprocAttr]
    intro b6
    refine app_at (f := i1) (l := ([] : List Int)) (m := pl) (HImp.refl _ _) i1_len i1_one (fun w' hp => Sl.hp (w0 := ⟨w, fun _ => False⟩) hsl (fun _ _ => id) hp) (by simp only [List.length_nil]; omega) fun az cz hz => ?_
    rw [List.nil_append, List.length_nil, Nat.zero_add]
    simp (config := { maxSteps := 4000000 }) only [↓sx0, ↓sx1, ↓sx2, ↓sx3, ↓sx4, ↓sx5, ↓sx6, sx0, sx1, sx2, sx3, sx4, sx5, sx6, tf3, ev3_hold, sxo, sxc, sxp, sxq, sxr, sxs, sxl, sxm, simprocAttr]
    intro b7
    refine wr_cell (A := []) (cs := [I 0, I 0, I 0, .bool false, .slice none 0 0]) rfl (by simp) ?_
    simp (config := { maxSteps := 4000000 }) only [↓sx0, ↓sx1, ↓sx2, ↓sx3, ↓sx4, ↓sx5, ↓sx6, sx0, sx1, sx2, sx3, sx4, sx5, sx6, tf3, ev3_hold, sxo, sxc, sxp, sxq, sxr, sxs, sxl, sxm, simprocAttr]
    refine cut_constH [(51, 54)] (fun q : Unit => []) (fun q H2 => H2 = HO.cells b7 44 [I 0, I L, I u.dr, .bool false, .slice az pl.length cz] :: HO.row (.slice az pl.length cz) 3 1 (ints pl) :: R0) ?_ ?_
    · by_cases hd0 : u.dr = 0
      · have z1 : (u.dr = 0) = True := eq_true hd0
        rw [if_pos hd0] at hL
        subst hL
        refine ⟨?_⟩
        simp (config := { maxSteps := 4000000 }) only [↓sx0, ↓sx1, ↓sx2, ↓sx3, ↓sx4, ↓sx5, ↓sx6, sx0, sx1, sx2, sx3, sx4, sx5, sx6, tf3, ev3_hold, sxo, sxc, sxp, sxq, sxr, sxs, sxl, sxm, simprocAttr]
        refine ld_cella (T := 44) (cs := [I 0, I 0, I u.dr, .bool false, .slice az pl.length cz]) List.mem_cons_self rfl ?_
        simp (config := { maxSteps := 4000000 }) only [↓sx0, ↓sx1, ↓sx2, ↓sx3, ↓sx4, ↓sx5, ↓sx6, sx0, sx1, sx2, sx3, sx4, sx5, sx6, tf3, ev3_hold, sxo, sxc, sxp, sxq, sxr, sxs, sxl, sxm, simprocAttr, z1]
        refine wr_cella (A := []) (cs := [I 0, I 0, I u.dr, .bool false, .slice az pl.length cz]) rfl (by simp) ?_
        simp (config := { maxSteps := 4000000 }) only [↓sx0, ↓sx1, ↓sx2, ↓sx3, ↓sx4, ↓sx5, ↓sx6, sx0, sx1, sx2, sx3, sx4, sx5, sx6, tf3, ev3_hold, sxo, sxc, sxp, sxq, sxr, sxs, sxl, sxm, simprocAttr]
        exact ⟨(), _, HImp.refl _ _, rfl⟩
      · have z1 : (u.dr = 0) = False := eq_false hd0
        rw [if_neg hd0] at hL
        subst hL
        refine ⟨?_⟩
        simp (config := { maxSteps := 4000000 }) only [↓sx0, ↓sx1, ↓sx2, ↓sx3, ↓sx4, ↓sx5, ↓sx6, sx0, sx1, sx2, sx3, sx4, sx5, sx6, tf3, ev3_hold, sxo, sxc, sxp, sxq, sxr, sxs, sxl, sxm, simprocAttr]
        refine ld_cella (T := 44) (cs := [I 0, I 0, I u.dr, .bool false, .slice az pl.length cz]) List.mem_cons_self rfl ?_
        simp (config := { maxSteps := 4000000 }) only [↓sx0, ↓sx1, ↓sx2, ↓sx3, ↓sx4, ↓sx5, ↓sx6, sx0, sx1, sx2, sx3, sx4, sx5, sx6, tf3, ev3_hold, sxo, sxc, sxp, sxq, sxr, sxs, sxl, sxm, simprocAttr, z1]
        exact ⟨(), _, HImp.refl _ _, rfl⟩
    rintro q H2 g2 rfl
    by_cases hre1 : u.reach > 1
    · have z1 : (u.reach > 1) = True := eq_true hre1
      refine ⟨?_⟩
      simp (config := { maxSteps := 4000000 }) only [↓sx0, ↓sx1, ↓sx2, ↓sx3, ↓sx4, ↓sx5, ↓sx6, sx0, sx1, sx2, sx3, sx4, sx5, sx6, tf3, ev3_hold, sxo, sxc, sxp, sxq, sxr, sxs, sxl, sxm, simprocAttr, eU]
      refine amid (at_f (hrU _) untc_len hx (o := 1) (x := I u.reach) rfl fun ad8 => ?_)
      simp (config := { maxSteps := 4000000 }) only [↓sx0, ↓sx1, ↓sx2, ↓sx3, ↓sx4, ↓sx5, ↓sx6, sx0, sx1, sx2, sx3, sx4, sx5, sx6, tf3, ev3_hold, sxo, sxc, sxp, sxq, sxr, sxs, sxl, sxm, simprocAttr, z1, dn]
      refine CallOb.pureH (fun w' hp => hro _ w' hp) ?_
      rintro q N5 rfl
      refine ⟨?_⟩
      simp (config := { maxSteps := 4000000 }) only [↓sx0, ↓sx1, ↓sx2, ↓sx3, ↓sx4, ↓sx5, ↓sx6, sx0, sx1, sx2, sx3, sx4, sx5, sx6, tf3, ev3_hold, sxo, sxc, sxp, sxq, sxr, sxs, sxl, sxm, simprocAttr]
      try rfl
    have z1 : (u.reach > 1) = False := eq_false hre1
    have hlg : legOf u pl = ⟨0, L, u.dr, false, pl⟩ := by unfold legOf; rw [hL]
    refine ⟨?_⟩
    simp (config := { maxSteps := 4000000 }) only [↓sx0, ↓sx1, ↓sx2, ↓sx3, ↓sx4, ↓sx5, ↓sx6, sx0, sx1, sx2, sx3, sx4, sx5, sx6, tf3, ev3_hold, sxo, sxc, sxp, sxq, sxr, sxs, sxl, sxm, simprocAttr, eU]
    refine amid (at_f (hrU _) untc_len hx (o := 1) (x := I u.reach) rfl fun ad8 => ?_)
    simp (config := { maxSteps := 4000000 }) only [↓sx0, ↓sx1, ↓sx2, ↓sx3, ↓sx4, ↓sx5, ↓sx6, sx0, sx1, sx2, sx3, sx4, sx5, sx6, tf3, ev3_hold, sxo, sxc, sxp, sxq, sxr, sxs, sxl, sxm, simprocAttr, z1, dn]
    refine ld_cells (T := 44) (cs := [I 0, I L, I u.dr, .bool false, .slice az pl.length cz]) [I 0, I L, I u.dr, .bool false, .slice az pl.length cz] List.mem_cons_self rfl rfl ?_
    simp (config := { maxSteps := 4000000 }) only [↓sx0, ↓sx1, ↓sx2, ↓sx3, ↓sx4, ↓sx5, ↓sx6, sx0, sx1, sx2, sx3, sx4, sx5, sx6, tf3, ev3_hold, sxo, sxc, sxp, sxq, sxr, sxs, sxl, sxm, simprocAttr]
    intro b9
    refine app_one (f := lqc) (l := pn) (((⟨0, L, u.dr, false, pl⟩ : Lg), az, pl.length, cz) : Lq) (A := HO.row (.slice az pl.length cz) 3 1 (ints pl) :: DN) (by rw [← hR0]; exact (HImp.tail _ _ _).trans (HImp.swap _ _ _ _)) lqc_len lqc_one (by omega) fun a9 c9 => ?_
    rw [hpnl]
    simp (config := { maxSteps := 4000000 }) only [↓sx0, ↓sx1, ↓sx2, ↓sx3, ↓sx4, ↓sx5, ↓sx6, sx0, sx1, sx2, sx3, sx4, sx5, sx6, tf3, ev3_hold, sxo, sxc, sxp, sxq, sxr, sxs, sxl, sxm, simprocAttr, e8]
    refine ⟨(i + 1, some a9, c9), _, by first | exact ⟨rfl, rfl⟩ | exact ⟨rfl, rfl, rfl⟩ | rfl, HImp.refl _ _, ⟨by simp only []; omega, _, HO.row (.slice az pl.length cz) 3 1 (ints pl) :: DN, ?_, (fun h => by cases h), ?_, rfl, ?_⟩, by simp only []; omega⟩
    · simp only []
      rw [legsN_succ, List.map_append, hpn, hgp, hgu, hlg]
      rfl
    · intro j hj
      by_cases hji : j = i
      · subst hji
        rw [hgu]
        omega
      · exact hre j (by simp only [] at hj; omega)
    · intro p hp
      rcases List.mem_append.1 hp with h | h
      · exact List.mem_cons_of_mem _ (hDN p h)
      · rw [List.mem_singleton] at h
        subst h
        exact List.mem_cons_self
  subst hin
  have e7 : ((ps.length : Int) < (ps.length : Int)) = False := eq_false (by omega)
  have hget : ∀ j, j < ps.length → (legsN us plan ps.length).getD j lg0 = legOf (us.getD j unt0) (plan.getD j []) := fun j hj => legsN_get hj
  have hlen : (legsN us plan ps.length).length = ps.length := legsN_len _ _ _
  have hlok : ∀ j, j < ps.length → (legOf (us.getD j unt0) (plan.getD j [])).Ok d.c := fun j hj => by
    refine leg_ok hok (T := T.toNat) ⟨by omega, by omega⟩ hpo (by omega) ?_
    have hm : us.getD j unt0 ∈ us := by
      rw [List.getD_eq_getElem?_getD, List.getElem?_eq_getElem (show j < us.length by omega)]
      exact List.getElem_mem _
    have := hP.un _ hm
    exact ⟨this.1, this.2, hre j hj⟩
  have hle : ∀ l ∈ legsN us plan ps.length, l.Ok d.c := fun l hl => by
    obtain ⟨j, hj, rfl⟩ := List.mem_map.1 hl
    exact hlok j (List.mem_range.1 hj)
  have hmem : ∀ x ∈ clA d.c.tide.length (legsN us plan ps.length) (legsN us plan ps.length).length, x.1 < x.2.1 ∧ x.2.1 < ps.length ∧ 1 ≤ x.2.2 ∧ x.2.2 < T.toNat ∧ (legOf (us.getD x.1 unt0) (plan.getD x.1 [])).lv = (legOf (us.getD x.2.1 unt0) (plan.getD x.2.1 [])).lv ∧ lv (plan.getD x.1 []) x.2.2 = lv (plan.getD x.2.1 []) (x.2.2 - 1) ∧ lv (plan.getD x.2.1 []) x.2.2 = lv (plan.getD x.1 []) (x.2.2 - 1) := fun x hx => by
    obtain ⟨m1, m2, m3, m4⟩ := clA_mem (Nat.le_refl _) hx
    rw [hlen] at m2
    rw [hget _ (by omega), hget _ m2] at m4
    have := lanes_swap hpo m1 (by omega) m4
    exact ⟨m1, m2, this.1, this.2.1, this.2.2.1, this.2.2.2.1, this.2.2.2.2⟩
  have hcll := clA_len d.c.tide.length (legsN us plan ps.length) (legsN us plan ps.length).length
  have hgq : ∀ j, j < ps.length → ∃ q : Lq, pn[j]? = some q ∧ q.1 = legOf (us.getD j unt0) (plan.getD j []) := fun j hj => by
    refine ⟨_, List.getElem?_eq_getElem (by omega), ?_⟩
    have h1 : (pn.map Prod.fst)[j]? = (legsN us plan ps.length)[j]? := by rw [hpn]
    rw [List.getElem?_map, List.getElem?_eq_getElem (by omega)] at h1
    have h2 := hget j hj
    rw [List.getD_eq_getElem?_getD, ← h1] at h2
    exact h2
  obtain ⟨ls, hls⟩ : ∃ ls, legsN us plan ps.length = ls := ⟨_, rfl⟩
  rw [hls] at hle hlen hpn hcll hmem
  obtain ⟨LA, hLA⟩ : ∃ LA, clA d.c.tide.length ls ls.length = LA := ⟨_, rfl⟩
  rw [hLA] at hmem hcll
  have hLAl : LA.length ≤ 100 := by
    have : ls.length * ls.length ≤ 3 * 3 := Nat.mul_le_mul (by omega) (by omega)
    omega
  have hlc := hlc hsm.1 hok (.slice an ps.length cn) ls (by omega) hle
  have hcl := hcl hsm.1 hok (.slice an ps.length cn) ls (by omega) hle
  rw [hLA] at hcl
  have hLk : ∀ (H : List HO) w', (∀ h ∈ (HO.row (.slice an ps.length cn) 44 5 (cat lqc (pn : List Lq)) :: DN), h ∈ H) → Hp ⟨w, fun _ => False⟩ H w' → LegsOk w' (.slice an ps.length cn) ls := fun H w' hm hp => ⟨pn, hpn, row_hp (hm _ List.mem_cons_self) hp, fun p hp2 => row_hp (hm _ (List.mem_cons_of_mem _ (hDN p hp2))) hp⟩
  refine ⟨?_⟩
  simp (config := { maxSteps := 4000000 }) only [↓sx0, ↓sx1, ↓sx2, ↓sx3, ↓sx4, ↓sx5, ↓sx6, sx0, sx1, sx2, sx3, sx4, sx5, sx6, tf3, ev3_hold, sxo, sxc, sxp, sxq, sxr, sxs, sxl, sxm, simprocAttr, e7, dn]
  refine CallOb.pureH (fun w' hp => hlc _ w' hp (hLk _ w' (fun h hh => hh) hp)) ?_
  rintro q N1 rfl
  refine ⟨?_⟩
  simp (config := { maxSteps := 4000000 }) only [↓sx0, ↓sx1, ↓sx2, ↓sx3, ↓sx4, ↓sx5, ↓sx6, sx0, sx1, sx2, sx3, sx4, sx5, sx6, tf3, ev3_hold, sxo, sxc, sxp, sxq, sxr, sxs, sxl, sxm, simprocAttr, dn]
  refine CallOb.pureH (fun w' hp => hcl _ w' hp (hLk _ w' (fun h hh => List.mem_append_right _ hh) hp)) ?_
  rintro q N2 ⟨v, rfl, hG⟩
  obtain ⟨av, cv, rfl⟩ := hG.shape
  obtain ⟨HH, hHH⟩ : ∃ HH, N2 ++ (N1 ++ (HO.row (.slice an ps.length cn) 44 5 (cat lqc (pn : List Lq)) :: DN)) = HH := ⟨_, rfl⟩
  have hrA : Rdv ⟨w, fun _ => False⟩ HH (.slice av LA.length cv) 3 (cat tric LA) := hG.rdv tric_len (fun h hh => by rw [← hHH]; exact List.mem_append_left _ hh)
  have hrL : Rdv ⟨w, fun _ => False⟩ HH (.slice an ps.length cn) 5 (cat lqc pn) := row_rdv (E := 44) (by rw [← hHH]; simp) ⟨_, _, _, rfl, by rw [cat_len lqc_len, hpnl], fun h => by rw [hnil h]; rfl⟩
  rw [hHH]
  refine ⟨?_⟩
  simp (config := { maxSteps := 4000000 }) only [↓sx0, ↓sx1, ↓sx2, ↓sx3, ↓sx4, ↓sx5, ↓sx6, sx0, sx1, sx2, sx3, sx4, sx5, sx6, tf3, ev3_hold, sxo, sxc, sxp, sxq, sxr, sxs, sxl, sxm, simprocAttr, dn]
  refine loop_constH HH (HImp.refl _ _) [(4, 4), (10, 13), (83, 175)] (fun k : Nat => [(4, .bool false), (10, I k)]) (fun k H1 => k ≤ LA.length ∧ H1 = HH) (fun k => LA.length - k) 0 ?_ ⟨Nat.zero_le _, rfl⟩ ?_
  · simp (config := { maxSteps := 4000000 }) only [↓sx0, ↓sx1, ↓sx2, ↓sx3, ↓sx4, ↓sx5, ↓sx6, sx0, sx1, sx2, sx3, sx4, sx5, sx6, tf3, ev3_hold, sxo, sxc, sxp, sxq, sxr, sxs, sxl, sxm, simprocAttr]
    try simp
  rintro k H1 g1 ⟨hk, rfl⟩
  by_cases hkn : k = LA.length
  · subst hkn
    have e5 : ((LA.length : Int) < (LA.length : Int)) = False := eq_false (by omega)
    refine ⟨?_⟩
    simp (config := { maxSteps := 4000000 }) only [↓sx0, ↓sx1, ↓sx2, ↓sx3, ↓sx4, ↓sx5, ↓sx6, sx0, sx1, sx2, sx3, sx4, sx5, sx6, tf3, ev3_hold, sxo, sxc, sxp, sxq, sxr, sxs, sxl, sxm, simprocAttr, e5, dn]
    refine CallOb.pureH (fun w' hp => hro _ w' hp) ?_
    rintro q N7 rfl
    refine ⟨?_⟩
    simp (config := { maxSteps := 4000000 }) only [↓sx0, ↓sx1, ↓sx2, ↓sx3, ↓sx4, ↓sx5, ↓sx6, sx0, sx1, sx2, sx3, sx4, sx5, sx6, tf3, ev3_hold, sxo, sxc, sxp, sxq, sxr, sxs, sxl, sxm, simprocAttr, dn]
    try rfl
  have e5 : ((k : Int) < (LA.length : Int)) = True := eq_true (by omega)
  have e6 : wr ((k : Int) + 1) = ((k + 1 : Nat) : Int) := (wrap_id (by omega)).trans (by omega)
  obtain ⟨x, hx⟩ : ∃ x, LA[k]? = some x := ⟨_, List.getElem?_eq_getElem (by omega)⟩
  have hxm := hmem x (List.mem_of_getElem? hx)
  obtain ⟨x1, x2, x3⟩ := x
  obtain ⟨m1, m2, m3, m4, m5, m6, m7⟩ := hxm
  simp only [] at m1 m2 m3 m4 m5 m6 m7
  obtain ⟨q1, hq1, hq1e⟩ := hgq x1 (by omega)
  obtain ⟨q2, hq2, hq2e⟩ := hgq x2 m2
  obtain ⟨p1, hp1⟩ : ∃ p, ps[x1]? = some p := ⟨_, List.getElem?_eq_getElem (by omega)⟩
  obtain ⟨p2, hp2⟩ : ∃ p, ps[x2]? = some p := ⟨_, List.getElem?_eq_getElem (by omega)⟩
  have hg1 := hgl _ _ hp1
  have hg2 := hgl _ _ hp2
  have hl1 := (hpo.2 x1 (by omega)).1
  have hl2 := (hpo.2 x2 (by omega)).1
  obtain ⟨L0, hL0⟩ : ∃ L0, (legOf (us.getD x1 unt0) (plan.getD x1 [])).lv = L0 := ⟨_, rfl⟩
  have hc1 : (lqc q1)[1]? = some (I L0) := by rw [show (lqc q1)[1]? = some (I q1.1.lv) from rfl, hq1e, hL0]
  have hc2 : (lqc q2)[1]? = some (I L0) := by rw [show (lqc q2)[1]? = some (I q2.1.lv) from rfl, hq2e, ← m5, hL0]
  rw [hg1] at m6 m7 hl1
  rw [hg2] at m6 m7 hl2
  have hs1 := hr _ (List.mem_of_getElem? hp1)
  have hs2 := hr _ (List.mem_of_getElem? hp2)
  obtain ⟨l1, a1, n1, c1⟩ := p1
  obtain ⟨l2, a2, n2, c2⟩ := p2
  simp only [] at m6 m7 hl1 hl2
  unfold lpv at hs1 hs2
  simp only [] at hs1 hs2
  have hn1 := hs1.le i1_len (by omega)
  have hn2 := hs2.le i1_len (by omega)
  subst hn1
  subst hn2
  have hrP1 := fun H => hs1.rd0 H
  have hrP2 := fun H => hs2.rd0 H
  obtain ⟨V1, hV1⟩ : ∃ V, lv l1 x3 = V := ⟨_, rfl⟩
  obtain ⟨V2, hV2⟩ : ∃ V, lv l2 x3 = V := ⟨_, rfl⟩
  rw [hV1] at m6
  rw [hV2] at m7
  have hv1 : l1[x3]? = some V1 := by rw [← hV1]; exact getD_at (by omega) 0
  have hv2 : l2[x3]? = some V2 := by rw [← hV2]; exact getD_at (by omega) 0
  have hv3 : l2[x3 - 1]? = some V1 := by rw [m6]; exact getD_at (by omega) 0
  have hv4 : l1[x3 - 1]? = some V2 := by rw [m7]; exact getD_at (by omega) 0
  have z1 : ((x1 : Int) < 0) = False := eq_false (by omega)
  have z2 : ((x2 : Int) ≤ (x1 : Int)) = False := eq_false (by omega)
  have z3 : ((x2 : Int) ≥ (ps.length : Int)) = False := eq_false (by omega)
  have z4 : ((x3 : Int) < 1) = False := eq_false (by omega)
  have z5 : ((x3 : Int) ≥ T) = False := eq_false (by omega)
  have z6 : ((x1 : Int) < (ps.length : Int)) = True := eq_true (by omega)
  have z7 : ((x2 : Int) < (ps.length : Int)) = True := eq_true (by omega)
  have z8 : ((x3 : Int) < (l1.length : Int)) = True := eq_true (by omega)
  have z9 : ((x3 : Int) < (l2.length : Int)) = True := eq_true (by omega)
  have y8 : (((x3 - 1 : Nat) : Int) < (l1.length : Int)) = True := eq_true (by omega)
  have y9 : (((x3 - 1 : Nat) : Int) < (l2.length : Int)) = True := eq_true (by omega)
  have y1 : wr ((x3 : Int) - 1) = ((x3 - 1 : Nat) : Int) := (wrap_id (by omega)).trans (by omega)
  refine ⟨?_⟩
  simp (config := { maxSteps := 4000000 }) only [↓sx0, ↓sx1, ↓sx2, ↓sx3, ↓sx4, ↓sx5, ↓sx6, sx0, sx1, sx2, sx3, sx4, sx5, sx6, tf3, ev3_hold, sxo, sxc, sxp, sxq, sxr, sxs, sxl, sxm, simprocAttr, e5, dn]
  refine amid (at_f hrA tric_len hx (o := 0) (x := I x1) rfl fun d1 => ?_)
  simp (config := { maxSteps := 4000000 }) only [↓sx0, ↓sx1, ↓sx2, ↓sx3, ↓sx4, ↓sx5, ↓sx6, sx0, sx1, sx2, sx3, sx4, sx5, sx6, tf3, ev3_hold, sxo, sxc, sxp, sxq, sxr, sxs, sxl, sxm, simprocAttr, e5]
  refine amid (at_f hrA tric_len hx (o := 1) (x := I x2) rfl fun d2 => ?_)
  simp (config := { maxSteps := 4000000 }) only [↓sx0, ↓sx1, ↓sx2, ↓sx3, ↓sx4, ↓sx5, ↓sx6, sx0, sx1, sx2, sx3, sx4, sx5, sx6, tf3, ev3_hold, sxo, sxc, sxp, sxq, sxr, sxs, sxl, sxm, simprocAttr, e5]
  refine amid (at_f hrA tric_len hx (o := 2) (x := I x3) rfl fun d3 => ?_)
  simp (config := { maxSteps := 4000000 }) only [↓sx0, ↓sx1, ↓sx2, ↓sx3, ↓sx4, ↓sx5, ↓sx6, sx0, sx1, sx2, sx3, sx4, sx5, sx6, tf3, ev3_hold, sxo, sxc, sxp, sxq, sxr, sxs, sxl, sxm, simprocAttr, z1, z2, z3, z4, z5, z6, z7, List.append_eq, List.cons_append, List.nil_append]
  refine amid (at_f hrL lqc_len hq1 (o := 1) (x := I L0) hc1 fun d4 => ?_)
  simp (config := { maxSteps := 4000000 }) only [↓sx0, ↓sx1, ↓sx2, ↓sx3, ↓sx4, ↓sx5, ↓sx6, sx0, sx1, sx2, sx3, sx4, sx5, sx6, tf3, ev3_hold, sxo, sxc, sxp, sxq, sxr, sxs, sxl, sxm, simprocAttr, z7, List.append_eq, List.cons_append, List.nil_append]
  refine amid (at_f hrL lqc_len hq2 (o := 1) (x := I L0) hc2 fun d5 => ?_)
  simp (config := { maxSteps := 4000000 }) only [↓sx0, ↓sx1, ↓sx2, ↓sx3, ↓sx4, ↓sx5, ↓sx6, sx0, sx1, sx2, sx3, sx4, sx5, sx6, tf3, ev3_hold, sxo, sxc, sxp, sxq, sxr, sxs, sxl, sxm, simprocAttr, z6, List.append_eq, List.cons_append, List.nil_append]
  refine amid (at_1 (hrC _) lpc_len hp1 rfl fun d6 => ?_)
  unfold lpv
  simp (config := { maxSteps := 4000000 }) only [↓sx0, ↓sx1, ↓sx2, ↓sx3, ↓sx4, ↓sx5, ↓sx6, sx0, sx1, sx2, sx3, sx4, sx5, sx6, tf3, ev3_hold, sxo, sxc, sxp, sxq, sxr, sxs, sxl, sxm, simprocAttr, z8, List.append_eq, List.cons_append, List.nil_append]
  refine amid (at_1 (hrP1 _) i1_len hv1 rfl fun d7 => ?_)
  simp (config := { maxSteps := 4000000 }) only [↓sx0, ↓sx1, ↓sx2, ↓sx3, ↓sx4, ↓sx5, ↓sx6, sx0, sx1, sx2, sx3, sx4, sx5, sx6, tf3, ev3_hold, sxo, sxc, sxp, sxq, sxr, sxs, sxl, sxm, simprocAttr, z7, List.append_eq, List.cons_append, List.nil_append]
  refine amid (at_1 (hrC _) lpc_len hp2 rfl fun d8 => ?_)
  unfold lpv
  simp (config := { maxSteps := 4000000 }) only [↓sx0, ↓sx1, ↓sx2, ↓sx3, ↓sx4, ↓sx5, ↓sx6, sx0, sx1, sx2, sx3, sx4, sx5, sx6, tf3, ev3_hold, sxo, sxc, sxp, sxq, sxr, sxs, sxl, sxm, simprocAttr, y1, y9, List.append_eq, List.cons_append, List.nil_append]
  refine amid (at_1 (k := x3 - 1) (hrP2 _) i1_len hv3 rfl fun d9 => ?_)
  simp (config := { maxSteps := 4000000 }) only [↓sx0, ↓sx1, ↓sx2, ↓sx3, ↓sx4, ↓sx5, ↓sx6, sx0, sx1, sx2, sx3, sx4, sx5, sx6, tf3, ev3_hold, sxo, sxc, sxp, sxq, sxr, sxs, sxl, sxm, simprocAttr, z7, List.append_eq, List.cons_append, List.nil_append]
  refine amid (at_1 (hrC _) lpc_len hp2 rfl fun d10 => ?_)
  unfold lpv
  simp (config := { maxSteps := 4000000 }) only [↓sx0, ↓sx1, ↓sx2, ↓sx3, ↓sx4, ↓sx5, ↓sx6, sx0, sx1, sx2, sx3, sx4, sx5, sx6, tf3, ev3_hold, sxo, sxc, sxp, sxq, sxr, sxs, sxl, sxm, simprocAttr, z9, List.append_eq, List.cons_append, List.nil_append]
  refine amid (at_1 (hrP2 _) i1_len hv2 rfl fun d11 => ?_)
  simp (config := { maxSteps := 4000000 }) only [↓sx0, ↓sx1, ↓sx2, ↓sx3, ↓sx4, ↓sx5, ↓sx6, sx0, sx1, sx2, sx3, sx4, sx5, sx6, tf3, ev3_hold, sxo, sxc, sxp, sxq, sxr, sxs, sxl, sxm, simprocAttr, z6, List.append_eq, List.cons_append, List.nil_append]
  refine amid (at_1 (hrC _) lpc_len hp1 rfl fun d12 => ?_)
  unfold lpv
  simp (config := { maxSteps := 4000000 }) only [↓sx0, ↓sx1, ↓sx2, ↓sx3, ↓sx4, ↓sx5, ↓sx6, sx0, sx1, sx2, sx3, sx4, sx5, sx6, tf3, ev3_hold, sxo, sxc, sxp, sxq, sxr, sxs, sxl, sxm, simprocAttr, y1, y8, List.append_eq, List.cons_append, List.nil_append]
  refine amid (at_1 (k := x3 - 1) (hrP1 _) i1_len hv4 rfl fun d13 => ?_)
  simp (config := { maxSteps := 4000000 }) only [↓sx0, ↓sx1, ↓sx2, ↓sx3, ↓sx4, ↓sx5, ↓sx6, sx0, sx1, sx2, sx3, sx4, sx5, sx6, tf3, ev3_hold, sxo, sxc, sxp, sxq, sxr, sxs, sxl, sxm, simprocAttr, e6, List.append_eq, List.cons_append, List.nil_append]
  exact ⟨k + 1, _, by first | exact ⟨rfl, rfl⟩ | rfl, HImp.refl _ _, ⟨by omega, rfl⟩, by omega⟩
end Go.Proofs.YtogicfoigeongaaDoor

