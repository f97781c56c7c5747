/- Parts of a proof: the symbolic walk and what it shows of single functions. -/
import Derived.Test.YtogicfoigeongaaGreatDoorC4
import Derived.Test.YtogicfoigeongaaGreatDoorX3
import Derived.LaidMore
import Derived.OpenShut
import Derived.Lay
import Derived.SevenTiedAt
import Derived.Stop.Joined
import Derived.Test.YtogicfoigeongaaGreatDoorCards
import Derived.Test.YtogicfoigeongaaGreatDoorTie
set_option linter.all false
namespace Go.Proofs.YtogicfoigeongaaGreatDoor
open Go.RowKit Go.SX Go.ChangeShapes Go.WideShapes Go.ChangeAt
set_option maxRecDepth 100000
theorem own0 : ownKnob Tryz.prog.godebug = none := by kernel_rfl
theorem laidOut0 : laidOutB Tryz.prog = true := by kernel_rfl
theorem way_of {w : World} {fuel : Nat} {cs : List Value} {a b c : Int} {p : List MemPlace} {enc : TypeId × Value → Unit} {sp : Nat → Bool} {held : Bool} (h : DataW.trod enc Tryz.prog w 0 sp held fuel 132 cs = some (.agg [.lit (.int .i64 a), .lit (.int .i64 b), .lit (.int .i64 c)], p)) : cs = [I a, I b, I c] := by
  obtain ⟨xs, m, _, ex, hl, hxl, hx⟩ := DataW.trod_struct Tryz.underlying132 h
  have c3 : Tryz.prog.cellsOf 3 = 1 := by kernel_rfl
  have c9 : Tryz.prog.cellsOf 132 = 3 := by kernel_rfl
  rw [c9] at hl
  have key : ∀ (i : Nat) (f : Field) (y : DataW Unit × List MemPlace) (z : Int), xs[i]? = some y → y.1 = .lit (.int .i64 z) → f.type = 3 → f.offset = i → DataW.trod enc Tryz.prog w 0 sp held m f.type ((cs.drop f.offset).take (Tryz.prog.cellsOf f.type)) = xs[i]? → cs[i]? = some (I z) := by
    intro i f y z hy hz ht ho hE
    rw [ht, ho, c3, hy] at hE
    obtain ⟨k, e1, e2, _⟩ := DataW.trod_int Tryz.underlying3 hE
    rw [e2] at hz
    simp only [DataW.lit.injEq, Lit.int.injEq, true_and] at hz
    subst hz
    have h0 : ((cs.drop i).take 1)[0]? = some (Value.int .i64 k) := by rw [e1]; rfl
    simpa using h0
  have e3 : xs.map (·.1) = [.lit (.int .i64 a), .lit (.int .i64 b), .lit (.int .i64 c)] := (DataW.agg.inj (Prod.mk.inj ex).1).symm
  match xs, hxl, e3 with
  | [x0, x1, x2], _, e3 =>
    simp only [List.map_cons, List.map_nil, List.cons.injEq, and_true] at e3
    have k0 := key 0 _ x0 a rfl e3.1 rfl rfl (hx 0 _ rfl)
    have k1 := key 1 _ x1 b rfl e3.2.1 rfl rfl (hx 1 _ rfl)
    have k2 := key 2 _ x2 c rfl e3.2.2 rfl rfl (hx 2 _ rfl)
    match cs, hl with
    | [y0, y1, y2], _ =>
      simp at k0 k1 k2
      rw [k0, k1, k2]
abbrev laid1 : List (String × DataW Unit) := [("coble/chart.ways", Rows.laid_coble_chart_ways)]
theorem ways_of_laid {W : World} (h : laidMetH Tryz.prog laid1 W) : Ways W := by
  rw [MakeChecks.laidMetH_plain _ _ _ (by kernel_rfl)] at h
  obtain ⟨ps, ⟨g, t, cs, fuel, p, q, hg, ht, hv, hd, _, _⟩, _, _⟩ := h
  obtain rfl := Option.some.inj ((show Tryz.prog.globalNamed "coble/chart.ways" = some 0 by kernel_rfl).symm.trans hg)
  obtain rfl := Option.some.inj ((show (Tryz.prog.globals[0]?).map (·.type) = some 133 by kernel_rfl).symm.trans ht)
  obtain ⟨xs, m, _, ex, hcl, hl, hel⟩ := DataW.trod_array Tryz.underlying133 hd
  have c9 : Tryz.prog.cellsOf 132 = 3 := by kernel_rfl
  have c18 : Tryz.prog.cellsOf 133 = 18 := by kernel_rfl
  rw [c18] at hcl
  rw [c9] at hel
  have e3 : xs.map (·.1) = ways6.map fun u => (.agg [.lit (.int .i64 u.1), .lit (.int .i64 u.2.1), .lit (.int .i64 u.2.2)] : DataW Unit) := (DataW.agg.inj (Prod.mk.inj ex).1).symm
  have rows : ∀ i, i < 6 → ∃ u, ways6[i]? = some u ∧ (cs.toList.drop (i * 3)).take 3 = wyc u := by
    intro i hi
    have e4 : (xs.map (·.1))[i]? = (ways6.map fun u => (.agg [.lit (.int .i64 u.1), .lit (.int .i64 u.2.1), .lit (.int .i64 u.2.2)] : DataW Unit))[i]? := by rw [e3]
    have h6 : ways6.length = 6 := rfl
    rw [List.getElem?_map, List.getElem?_map, List.getElem?_eq_getElem (by omega : i < xs.length), List.getElem?_eq_getElem (by omega : i < ways6.length)] at e4
    simp only [Option.map_some, Option.some.injEq] at e4
    have hE := hel i hi
    rw [List.getElem?_eq_getElem (by omega : i < xs.length), show xs[i] = (xs[i].1, xs[i].2) from rfl, e4] at hE
    exact ⟨ways6[i], List.getElem?_eq_getElem _, way_of hE⟩
  intro i v hi
  have hi18 : i < 18 := by
    have := (List.getElem?_eq_some_iff.1 hi).1
    rw [cat_len wyc_len] at this
    exact this
  obtain ⟨u, hu, hr⟩ := rows (i / 3) (by omega)
  have e5 : (cat wyc ways6)[i]? = (wyc u)[i % 3]? := by
    have := cat_get wyc_len hu (show i % 3 < 3 by omega)
    rwa [show i / 3 * 3 + i % 3 = i by omega] at this
  have e6 : cs.toList[i]? = (wyc u)[i % 3]? := by
    rw [← hr, List.getElem?_take, if_pos (by omega), List.getElem?_drop, show i / 3 * 3 + i % 3 = i by omega]
  rw [World.var?_cell hg hv i, show cs[i]? = cs.toList[i]? by simp, e6, ← e5, hi]
theorem agg_of {w : World} {base : Nat} {t : TypeId} {v : Value} {fs : Array Field} (hu : Tryz.prog.underlying t = some (.struct fs)) (h : Value.okWide Tryz.prog w .any base t v) : ∃ cs, v = .agg cs := by
  unfold Value.okWide at h
  rw [hu] at h
  obtain ⟨cs, h, _⟩ := h
  exact ⟨cs, h⟩
theorem leaves2 {P : Program} {w : World} {vs : List Value} (h : Lvs P w [.int .i64, .int .i64] vs) : ∃ a b, vs = [I a, I b] := by
  cases h with | int _ h => cases h with | int _ h => cases h with | nil => exact ⟨_, _, rfl⟩
theorem leaves1 {P : Program} {w : World} {vs : List Value} (h : Lvs P w [.int .i64] vs) : ∃ a, vs = [I a] := by
  cases h with | int _ h => cases h with | nil => exact ⟨_, rfl⟩
theorem flat_int : flat Tryz.prog 4 3 = some [.int .i64] := by kernel_rfl
theorem flat_span : flat Tryz.prog 4 55 = some [.int .i64, .int .i64] := by kernel_rfl
theorem flat_chart : flat Tryz.prog 4 25 = some [.int .i64, .int .i64, .slice 3, .slice 55, .slice 3] := by kernel_rfl
theorem cells_int : Tryz.prog.cellsOf 3 = 1 := by kernel_rfl
theorem cells_span : Tryz.prog.cellsOf 55 = 2 := by kernel_rfl
theorem sl_ints {w : World} {a : Option Addr} {len cap : Nat} {xss : List (List Value)} (hs : Sl w (.slice a len cap) (Tryz.prog.cellsOf 3) xss.flatten) (hx : ∀ xs ∈ xss, ∀ m es, flat Tryz.prog m 3 = some es → Lvs Tryz.prog w es xs) : ∃ l : List Int, Sl w (.slice a len cap) 1 (ints l) ∧ l.length = xss.length := by
  obtain ⟨us, hu, hl⟩ := cat_of (f := i1) (xss := xss) fun xs hxs => by
    obtain ⟨a, hl⟩ := leaves1 (hx xs hxs 4 _ flat_int)
    exact ⟨a, hl⟩
  rw [cells_int, hu] at hs
  exact ⟨us, hs, hl⟩
theorem sl_spans {w : World} {a : Option Addr} {len cap : Nat} {xss : List (List Value)} (hs : Sl w (.slice a len cap) (Tryz.prog.cellsOf 55) xss.flatten) (hx : ∀ xs ∈ xss, ∀ m es, flat Tryz.prog m 55 = some es → Lvs Tryz.prog w es xs) : ∃ l : List (Int × Int), Sl w (.slice a len cap) 2 (cat spc l) ∧ l.length = xss.length := by
  obtain ⟨us, hu, hl⟩ := cat_of (f := spc) (xss := xss) fun xs hxs => by
    obtain ⟨a, b, hl⟩ := leaves2 (hx xs hxs 4 _ flat_span)
    exact ⟨(a, b), hl⟩
  rw [cells_span, hu] at hs
  exact ⟨us, hs, hl⟩
theorem chart_of {H : Type} {enc : TypeId × Value → H} {w : World} {base : Nat} {v : Value} {d : DataW H} {ps : List MemPlace} (h : Value.okWide Tryz.prog w .any base 25 v) (hd : DataW.Trod enc Tryz.prog w 0 (fun _ => true) true 25 v d ps) : ∃ c, ChOk w v c := by
  obtain ⟨cs, rfl⟩ := agg_of Tryz.underlying25 h
  have hl := lvs_of_Trod hd 4 flat_chart
  rw [show (Value.agg cs).cells.toList = cs.toList from rfl] at hl
  generalize hcs : cs.toList = l at hl
  cases hl with | int _ hl => cases hl with | int _ hl => cases hl with | slice x1 _ _ _ s1 _ e1 hl => cases hl with | slice x2 _ _ _ s2 _ e2 hl => cases hl with | slice x3 _ _ _ s3 _ e3 hl =>
    cases hl
    obtain ⟨l1, h1, _⟩ := sl_ints s1 e1
    obtain ⟨l2, h2, _⟩ := sl_spans s2 e2
    obtain ⟨l3, h3, _⟩ := sl_ints s3 e3
    exact ⟨⟨_, _, l1, l2, l3⟩, _, _, _, by rw [show cs = cs.toList.toArray by simp, hcs], h1, h2, h3⟩
theorem law_calls {f : Nat} {fn : Func} {s : ChangeSpec} {H : Type} {enc : TypeId × Value → H} {W : World} {args : Array Value} {ds gs : List (DataW H)} {before : List MemPlace} {b : TypeId}
    (hts : fn.params.toList.all (fun t => Tryz.prog.readableRec t && decide (t < Tryz.prog.types.size)) = true) (hr : fn.resultTypes = #[b]) (hb : Tryz.prog.underlying b = some .bool) (hv : s.vars = [])
    (hW : DataW.Whole enc Tryz.prog fn.params.toList s.vars false W args.toList ds gs before) (h1 : (s.fn H (ds ++ gs)).results = [.lit (.bool true)]) (h2 : (s.fn H (ds ++ gs)).args = ds) (h3 : (s.fn H (ds ++ gs)).vars = [])
    (h : SX.Fn Tryz.prog f args.toList W (fun _ => False) fun r _ => r = .bool true) : Calls Tryz.prog f args W fun e W' => ∃ v, e = .returned v ∧ s.post enc Tryz.prog fn false true false false W args v W' := by
  unfold SX.Fn at h
  rw [Array.toArray_toList] at h
  refine Calls.mono h fun e W' hh => ?_
  obtain ⟨v, N, he, hk, _, _, _, rfl⟩ := hh
  exact ⟨_, he, law_post laidOut0 hts hr hb hv hW h1 h2 h3 hk⟩
end Go.Proofs.YtogicfoigeongaaGreatDoor

namespace Go.Proofs.YtogicfoigeongaaGreatDoor
open Go.RowKit Go.SX
set_option maxRecDepth 4000
set_option maxHeartbeats 8000000
set_option linter.unusedSimpArgs false
set_option linter.unusedVariables false
noncomputable def floatsV (c : Cht) (g k t : Int) : Value := if openE c [k] [t] [g] = 0 then .tuple #[.bool (decide (c.over k.toNat t.toNat (c.tlo t.toNat) ≥ g)), .bool (decide (c.over k.toNat t.toNat (c.thi t.toNat) ≥ g)), I 0] else .tuple #[.bool false, .bool false, I (openE c [k] [t] [g])]
theorem floats1_fn (w : World) (v : Value) (c : Cht) (hc : ChOk w v c) (hsm : c.small) (g k t : Int) :
    SX.Fn Tryz.prog 51 [v, I g, I k, I t] w (fun _ => False) fun r N => r = floatsV c g k t := by
  have hc0 := hc
  have hD := detM_ok (X := fun _ => False) hc (fun _ _ => id)
  obtain ⟨sD, sT, sS, rfl, hsD, hsT, hsS⟩ := hc
  obtain ⟨aD, nD, cD, rfl⟩ := hsD.shape
  obtain ⟨aT, nT, cT, rfl⟩ := hsT.shape
  obtain ⟨aS, nS, cS, rfl⟩ := hsS.shape
  have dn : (∀ xs, detM (.agg #[I c.wide, I c.high, .slice aD nD cD, .slice aT nT cT, .slice aS nS cS]) c 63 xs = none) := fun _ => rfl
  unfold floatsV
  refine walk [] [] hD Tryz.func51 rfl Tryz.ntmps51 res51 (by kernel_rfl) no_facts ?_
  simp (config := { maxSteps := 4000000 }) only [↓sx0, ↓sx1, ↓sx2, ↓sx3, ↓sx4, ↓sx5, ↓sx6, sx0, sx1, sx2, sx3, sx4, sx5, sx6, tf51, ev3_hold, sxo, sxc, sxp, sxq, sxr, sxs, sxl, sxm, simprocAttr, dn]
  intro b1 b2 b3
  refine CallOb.pureH (fun w' hp => open_fn w' _ _ _ _ c [k] [t] [g] (hc0.hp hp) hsm (row_hp (E := 3) (xs := ints [k]) (by simp [cat, i1]) hp) (row_hp (E := 3) (xs := ints [t]) (by simp [cat, i1]) hp) (row_hp (E := 3) (xs := ints [g]) (by simp [cat, i1]) hp) (by simp)) ?_
  rintro r N rfl
  by_cases he : openE c [k] [t] [g] = 0
  · obtain ⟨hok, hcl, htl, _⟩ := openE_zero he
    have hk := hcl k (by simp)
    have ht := htl t (by simp)
    obtain ⟨K, hK⟩ : ∃ K : Nat, k = K := ⟨k.toNat, by omega⟩
    obtain ⟨T, hT⟩ : ∃ T : Nat, t = T := ⟨t.toNat, by omega⟩
    subst hK hT
    have hm := detM_water (v := (.agg #[I c.wide, I c.high, .slice aD nD cD, .slice aT nT cT, .slice aS nS cS])) hok hk.2 ht.2
    simp only [Int.toNat_natCast, vS, spc] at hm ⊢
    rw [he]
    refine ⟨?_⟩
    simp (config := { maxSteps := 4000000 }) only [↓sx0, ↓sx1, ↓sx2, ↓sx3, ↓sx4, ↓sx5, ↓sx6, sx0, sx1, sx2, sx3, sx4, sx5, sx6, tf51, ev3_hold, sxo, sxc, sxp, sxq, sxr, sxs, sxl, sxm, simprocAttr, hm]
  · have e1 : (openE c [k] [t] [g] = 0) = False := eq_false he
    refine ⟨?_⟩
    simp (config := { maxSteps := 4000000 }) only [↓sx0, ↓sx1, ↓sx2, ↓sx3, ↓sx4, ↓sx5, ↓sx6, sx0, sx1, sx2, sx3, sx4, sx5, sx6, tf51, ev3_hold, sxo, sxc, sxp, sxq, sxr, sxs, sxl, sxm, simprocAttr, e1]
end Go.Proofs.YtogicfoigeongaaGreatDoor

namespace Go.Proofs.YtogicfoigeongaaGreatDoor
open Go.RowKit Go.SX
set_option maxRecDepth 20000
set_option maxHeartbeats 8000000
set_option linter.unusedSimpArgs false
set_option linter.unusedVariables false
noncomputable def winOk (c : Cht) (r : Rmp) : Bool := c.okB && rampB c r
noncomputable def winE (c : Cht) (r : Rmp) : Int := if winOk c r then 0 else if c.okB then 11 else 10
noncomputable def winS (c : Cht) (r : Rmp) : List (Int × Int) := if winOk c r then winL (sureT c r) c.tide.length else []
noncomputable def winM (c : Cht) (r : Rmp) : List (Int × Int) := if winOk c r then winL (mayT c r) c.tide.length else []
def winPost (c : Cht) (r : Rmp) (q : Value) (N : List HO) : Prop := ∃ x y, q = .tuple #[x, y, I (winE c r)] ∧ Got x 55 2 spc (winS c r) N ∧ Got y 55 2 spc (winM c r) N
theorem winOk_iff (c : Cht) (r : Rmp) : winOk c r = true ↔ c.ok ∧ rampB c r = true := by
  unfold winOk
  rw [Bool.and_eq_true, okB_iff]
theorem win_post (c : Cht) (r : Rmp) (h : c.ok ∧ rampB c r = true) (q : Value) (N : List HO) (hq : ∃ x y, q = .tuple #[x, y, I 0] ∧ Got x 55 2 spc (winL (sureT c r) c.tide.length) N ∧ Got y 55 2 spc (winL (mayT c r) c.tide.length) N) : winPost c r q N := by
  have := (winOk_iff c r).2 h
  unfold winPost winE winS winM
  rw [this]
  exact hq
theorem win_bad (c : Cht) (r : Rmp) (h : ¬ (c.ok ∧ rampB c r = true)) (q : Value) (N : List HO) (hq : q = nil2 (if c.okB then 11 else 10)) : winPost c r q N := by
  have : winOk c r = false := by
    cases hb : winOk c r with
    | false => rfl
    | true => exact absurd ((winOk_iff c r).1 hb) h
  unfold winPost winE winS winM
  rw [this]
  exact ⟨_, _, hq, Got.nil _, Got.nil _⟩
theorem win_fn (w : World) (v : Value) (c : Cht) (r : Rmp) (hc : ChOk w v c) (hsm : c.small) : SX.Fn Tryz.prog 50 [v, rmv r] w (fun _ => False) (winPost c r) := by
  by_cases h : c.ok ∧ rampB c r = true
  · exact (windows_fn w v c r hc h.1 h.2 hsm).mono (win_post c r h)
  · exact (windows_bad w v c r hc hsm h).mono (win_bad c r h)
end Go.Proofs.YtogicfoigeongaaGreatDoor

namespace Go.Proofs.YtogicfoigeongaaGreatDoor
open Go.RowKit Go.SX
set_option maxRecDepth 4000
set_option maxHeartbeats 8000000
set_option linter.unusedSimpArgs false
set_option linter.unusedVariables false
def inW (t : Int) (p : Int × Int) : Bool := decide (p.1 ≤ t) && decide (t ≤ p.2)
end Go.Proofs.YtogicfoigeongaaGreatDoor

namespace Go.Proofs.YtogicfoigeongaaGreatDoor
open Go.RowKit Go.SX
set_option maxRecDepth 4000
set_option maxHeartbeats 8000000
set_option linter.unusedSimpArgs false
set_option linter.unusedVariables false
def ordP (l : List (Int × Int)) (n : Int) : Prop := ∀ (i : Nat) (p : Int × Int), l[i]? = some p → 0 ≤ p.1 ∧ p.1 ≤ p.2 ∧ p.2 < n ∧ ∀ q : Int × Int, 0 < i → l[i - 1]? = some q → q.2 + 1 < p.1
end Go.Proofs.YtogicfoigeongaaGreatDoor

namespace Go.Proofs.YtogicfoigeongaaGreatDoor
open Go.RowKit Go.SX
set_option linter.unusedSimpArgs false
set_option linter.unusedVariables false
theorem growL_nil (t : Int) : growL [] t = [(t, t)] := rfl
theorem growL_snoc (m : List (Int × Int)) (q : Int × Int) (t : Int) : growL (m ++ [q]) t = if q.2 = t - 1 then m ++ [(q.1, t)] else (m ++ [q]) ++ [(t, t)] := by
  unfold growL
  have h : (m ++ [q])[(m ++ [q]).length - 1]? = some q := by simp
  rw [h]
  simp only []
  split
  · simp
  · rfl
theorem ordP_nil (n : Int) : ordP [] n := fun i p h => by simp at h
theorem ordP_snoc {m : List (Int × Int)} {q : Int × Int} {b n : Int} (h : ordP m b) (hb : b ≤ n) (hl : ∀ r : Int × Int, m[m.length - 1]? = some r → r.2 + 1 < q.1) (h0 : 0 ≤ q.1) (h1 : q.1 ≤ q.2) (h2 : q.2 < n) : ordP (m ++ [q]) n := by
  intro i p hp
  by_cases hi : i < m.length
  · rw [List.getElem?_append_left hi] at hp
    obtain ⟨a1, a2, a3, a4⟩ := h i p hp
    refine ⟨a1, a2, by omega, fun r hr hq => ?_⟩
    rw [List.getElem?_append_left (by omega)] at hq
    exact a4 r hr hq
  · rw [List.getElem?_append_right (by omega)] at hp
    have hlt := (List.getElem?_eq_some_iff.1 hp).1
    simp only [List.length_cons, List.length_nil] at hlt
    have hi' : i = m.length := by omega
    subst hi'
    simp only [Nat.sub_self, List.getElem?_cons_zero, Option.some.injEq] at hp
    subst hp
    refine ⟨h0, h1, h2, fun r hr hq => ?_⟩
    rw [List.getElem?_append_left (by omega)] at hq
    exact hl r hq
theorem ordP_init {m : List (Int × Int)} {q : Int × Int} {n : Int} (h : ordP (m ++ [q]) n) : ordP m n ∧ (∀ r : Int × Int, m[m.length - 1]? = some r → r.2 + 1 < q.1) ∧ 0 ≤ q.1 ∧ q.1 ≤ q.2 ∧ q.2 < n := by
  have hq := h m.length q (by simp)
  refine ⟨fun i p hp => ?_, fun r hr => ?_, hq.1, hq.2.1, hq.2.2.1⟩
  · have hi := (List.getElem?_eq_some_iff.1 hp).1
    obtain ⟨a1, a2, a3, a4⟩ := h i p (by rw [List.getElem?_append_left hi]; exact hp)
    refine ⟨a1, a2, a3, fun r h0 hr => a4 r h0 ?_⟩
    rw [List.getElem?_append_left (by omega)]
    exact hr
  · have hi := (List.getElem?_eq_some_iff.1 hr).1
    exact hq.2.2.2 r (by omega) (by rw [List.getElem?_append_left hi]; exact hr)
theorem grow_ok {l : List (Int × Int)} {t : Nat} (h : ordP l t) : ordP (growL l t) ((t + 1 : Nat) : Int) ∧ ∀ x : Nat, (growL l t).any (inW x) = (l.any (inW x) || decide (x = t)) := by
  rcases List.eq_nil_or_concat l with rfl | ⟨m, q, rfl⟩
  · rw [growL_nil]
    refine ⟨ordP_snoc (m := []) (ordP_nil 0) (by omega) (by simp) (by simp) (by simp) (by simp only []; omega), fun x => ?_⟩
    simp only [List.any_cons, List.any_nil, Bool.or_false, Bool.false_or, inW]
    rw [Bool.eq_iff_iff]
    simp only [Bool.and_eq_true, decide_eq_true_eq]
    omega
  · rw [List.concat_eq_append] at h ⊢
    obtain ⟨h1, h2, h3, h4, h5⟩ := ordP_init h
    rw [growL_snoc]
    by_cases hq : q.2 = (t : Int) - 1
    · rw [if_pos hq]
      refine ⟨ordP_snoc h1 (by omega) h2 h3 (by simp only []; omega) (by simp only []; omega), fun x => ?_⟩
      rw [List.any_append, List.any_append]
      simp only [List.any_cons, List.any_nil, Bool.or_false, inW]
      rw [Bool.or_assoc]
      congr 1
      rw [Bool.eq_iff_iff]
      simp only [Bool.and_eq_true, Bool.or_eq_true, decide_eq_true_eq]
      omega
    · rw [if_neg hq]
      refine ⟨ordP_snoc h (by omega) (fun r hr => ?_) (by simp only []; omega) (by simp) (by simp only []; omega), fun x => ?_⟩
      · have : r = q := by simpa using hr.symm
        subst this
        simp only []
        omega
      · rw [List.any_append (xs := m ++ [q])]
        congr 1
        simp only [List.any_cons, List.any_nil, Bool.or_false, inW]
        rw [Bool.eq_iff_iff]
        simp only [Bool.and_eq_true, decide_eq_true_eq]
        omega
theorem winL_ok (p : Nat → Bool) : ∀ n, ordP (winL p n) n ∧ ∀ x : Nat, (winL p n).any (inW x) = (decide (x < n) && p x)
  | 0 => ⟨ordP_nil _, fun x => by simp [winL]⟩
  | n + 1 => by
    obtain ⟨h1, h2⟩ := winL_ok p n
    rw [winL]
    cases hp : p n with
    | true =>
      rw [if_pos rfl]
      obtain ⟨h3, h4⟩ := grow_ok h1
      refine ⟨h3, fun x => ?_⟩
      rw [h4, h2, Bool.eq_iff_iff]
      simp only [Bool.and_eq_true, Bool.or_eq_true, decide_eq_true_eq]
      constructor
      · rintro (⟨a, b⟩ | rfl)
        · exact ⟨by omega, b⟩
        · exact ⟨by omega, hp⟩
      · rintro ⟨a, b⟩
        by_cases h : x = n
        · exact .inr h
        · exact .inl ⟨by omega, b⟩
    | false =>
      rw [if_neg (by simp)]
      refine ⟨fun i q hq => ?_, fun x => ?_⟩
      · obtain ⟨a1, a2, a3, a4⟩ := h1 i q hq
        exact ⟨a1, a2, by omega, a4⟩
      · rw [h2, Bool.eq_iff_iff]
        simp only [Bool.and_eq_true, decide_eq_true_eq]
        constructor
        · rintro ⟨a, b⟩
          exact ⟨by omega, b⟩
        · rintro ⟨a, b⟩
          refine ⟨?_, b⟩
          by_cases h : x = n
          · subst h
            rw [hp] at b
            cases b
          · omega
end Go.Proofs.YtogicfoigeongaaGreatDoor

namespace Go.Proofs.YtogicfoigeongaaGreatDoor
open Go.RowKit Go.SX
set_option linter.unusedSimpArgs false
set_option linter.unusedVariables false
def cst (y x : Nat) : Int := if x = y then 0 else 1
theorem cst_bd (y x : Nat) : 0 ≤ cst y x ∧ cst y x ≤ 1 := by unfold cst; split <;> omega
def Lst (P : Int → Prop) (v : Int) : Prop := (v = -1 ∧ ∀ m, ¬ P m) ∨ (0 ≤ v ∧ P v ∧ ∀ m, P m → v ≤ m)
theorem Lst.congr {P Q : Int → Prop} {v : Int} (h : Lst P v) (e : ∀ m, P m ↔ Q m) : Lst Q v := by
  have : P = Q := funext fun m => propext (e m)
  exact this ▸ h
theorem Lst.ge {P : Int → Prop} {v : Int} (h : Lst P v) : -1 ≤ v := by rcases h with ⟨h1, _⟩ | ⟨h1, _⟩ <;> omega
theorem Lst.pos {P : Int → Prop} {v : Int} (h : Lst P v) : 0 ≤ v ↔ ∃ m, P m := by
  rcases h with ⟨h1, h2⟩ | ⟨h1, h2, h3⟩
  · exact ⟨fun h => absurd h (by omega), fun ⟨m, h⟩ => absurd h (h2 m)⟩
  · exact ⟨fun _ => ⟨_, h2⟩, fun _ => h1⟩
theorem Lst.more {P : Int → Prop} {v n : Int} (h : Lst P v) (hn : 0 ≤ n) : Lst (fun m => P m ∨ m = n) (if v = -1 ∨ n < v then n else v) := by
  rcases h with ⟨h1, h2⟩ | ⟨h1, h2, h3⟩
  · rw [if_pos (.inl h1)]
    refine .inr ⟨hn, .inr rfl, ?_⟩
    rintro m (h | rfl)
    · exact absurd h (h2 m)
    · exact Int.le_refl _
  · by_cases hv : n < v
    · rw [if_pos (.inr hv)]
      refine .inr ⟨hn, .inr rfl, ?_⟩
      rintro m (h | rfl)
      · have := h3 m h
        omega
      · exact Int.le_refl _
    · rw [if_neg (by omega)]
      refine .inr ⟨h1, .inl h2, ?_⟩
      rintro m (h | rfl)
      · exact h3 m h
      · omega
def rlx (c : Cht) (g : Int) (t k : Nat) (n : Int) (o : List Int) (x : Nat) : List Int :=
  if c.flt g t x = true ∧ (lv o x = -1 ∨ n + cst k x < lv o x) then o.set x (n + cst k x) else o
theorem rlx_len (c : Cht) (g : Int) (t k : Nat) (n : Int) (o : List Int) (x : Nat) : (rlx c g t k n o x).length = o.length := by
  unfold rlx
  split <;> simp
def rlxN (c : Cht) (g : Int) (t k : Nat) (n : Int) (ns : List Nat) (o : List Int) : List Int := ns.foldl (rlx c g t k n) o
theorem rlxN_len (c : Cht) (g : Int) (t k : Nat) (n : Int) : ∀ (ns : List Nat) (o : List Int), (rlxN c g t k n ns o).length = o.length
  | [], _ => rfl
  | x :: ns, o => by rw [rlxN, List.foldl_cons]; exact (rlxN_len c g t k n ns _).trans (rlx_len ..)
theorem rlxN_snoc (c : Cht) (g : Int) (t k : Nat) (n : Int) (ns : List Nat) (o : List Int) (x : Nat) : rlxN c g t k n (ns ++ [x]) o = rlx c g t k n (rlxN c g t k n ns o) x := by
  rw [rlxN, List.foldl_append]
  try rfl
def mvK (c : Cht) (g : Int) (t : Nat) (l : List Int) : Nat → List Int
  | 0 => List.replicate l.length (-1)
  | k + 1 => if lv l k = -1 then mvK c g t l k else rlxN c g t k (lv l k) (nbL c.W c.H k) (mvK c g t l k)
theorem mvK_len (c : Cht) (g : Int) (t : Nat) (l : List Int) : ∀ k, (mvK c g t l k).length = l.length
  | 0 => by simp [mvK]
  | k + 1 => by
    unfold mvK
    split
    · exact mvK_len c g t l k
    · rw [rlxN_len, mvK_len c g t l k]
def mvL (c : Cht) (g : Int) (k t : Nat) : Nat → List Int
  | 0 => if c.flt g t k then (List.replicate c.depth.length (-1)).set k 0 else List.replicate c.depth.length (-1)
  | i + 1 => mvK c g (t + i + 1) (mvL c g k t i) (mvL c g k t i).length
theorem mvL_len (c : Cht) (g : Int) (k t : Nat) : ∀ i, (mvL c g k t i).length = c.depth.length
  | 0 => by
    unfold mvL
    split <;> simp
  | i + 1 => by rw [mvL, mvK_len, mvL_len c g k t i]
theorem rlx_lst {c : Cht} {g : Int} {t k : Nat} {n : Int} {o : List Int} {y x : Nat} {P : Int → Prop} (hn : 0 ≤ n) (hy : y < o.length) (h : Lst P (lv o x)) :
    Lst (fun m => P m ∨ (x = y ∧ c.flt g t x = true ∧ m = n + cst k x)) (lv (rlx c g t k n o y) x) := by
  have hc := cst_bd k x
  by_cases hxy : x = y
  · subst hxy
    cases hf : c.flt g t x with
    | false =>
      unfold rlx
      rw [hf, if_neg (by simp)]
      exact h.congr fun m => by simp
    | true =>
      have e : lv (rlx c g t k n o x) x = if lv o x = -1 ∨ n + cst k x < lv o x then n + cst k x else lv o x := by
        unfold rlx
        rw [hf]
        by_cases hh : lv o x = -1 ∨ n + cst k x < lv o x
        · rw [if_pos ⟨rfl, hh⟩, if_pos hh, lv_set hy, if_pos rfl]
        · rw [if_neg (fun q => hh q.2), if_neg hh]
      rw [e]
      exact (h.more (n := n + cst k x) (by omega)).congr fun m => by simp
  · have e : lv (rlx c g t k n o y) x = lv o x := by
      unfold rlx
      split
      · rw [lv_set hy, if_neg hxy]
      · rfl
    rw [e]
    exact h.congr fun m => by simp [hxy]
theorem rlxN_lst {c : Cht} {g : Int} {t k : Nat} {n : Int} (hn : 0 ≤ n) {x : Nat} : ∀ (ns : List Nat) {o : List Int} {P : Int → Prop}, (∀ y ∈ ns, y < o.length) → Lst P (lv o x) →
    Lst (fun m => P m ∨ (x ∈ ns ∧ c.flt g t x = true ∧ m = n + cst k x)) (lv (rlxN c g t k n ns o) x)
  | [], o, P, _, h => h.congr fun m => by simp
  | y :: ns, o, P, hy, h => by
    rw [rlxN, List.foldl_cons]
    have h1 := rlx_lst (c := c) (g := g) (t := t) (k := k) hn (hy y List.mem_cons_self) h
    have h2 := rlxN_lst (c := c) (g := g) (t := t) (k := k) hn ns (o := rlx c g t k n o y) (fun z hz => by rw [rlx_len]; exact hy z (List.mem_cons_of_mem _ hz)) h1
    refine h2.congr fun m => ?_
    simp only [List.mem_cons]
    constructor
    · rintro ((h | ⟨a, b⟩) | ⟨a, b⟩)
      · exact .inl h
      · exact .inr ⟨.inl a, b⟩
      · exact .inr ⟨.inr a, b⟩
    · rintro (h | ⟨a | a, b⟩)
      · exact .inl (.inl h)
      · exact .inl (.inr ⟨a, b⟩)
      · exact .inr ⟨a, b⟩
theorem mvK_lst {c : Cht} (hok : c.ok) {g : Int} {t : Nat} {l : List Int} (hl : l.length = c.depth.length) (h0 : ∀ y, -1 ≤ lv l y) {x : Nat} (hx : x < l.length) : ∀ K, K ≤ l.length →
    Lst (fun m => ∃ y, y < K ∧ 0 ≤ lv l y ∧ x ∈ nbL c.W c.H y ∧ c.flt g t x = true ∧ m = lv l y + cst y x) (lv (mvK c g t l K) x)
  | 0, _ => .inl ⟨by simp [mvK, lv, List.getD_eq_getElem?_getD, List.getElem?_replicate, hx], fun m ⟨y, h, _⟩ => by omega⟩
  | K + 1, hK => by
    obtain ⟨eW, eH, hW, hH, hlen⟩ := hok.dims
    have ih := mvK_lst hok (g := g) (t := t) hl h0 hx K (by omega)
    have hk := h0 K
    rw [mvK]
    by_cases h1 : lv l K = -1
    · rw [if_pos h1]
      refine ih.congr fun m => ⟨fun ⟨y, h, r⟩ => ⟨y, by omega, r⟩, fun ⟨y, h, r⟩ => ⟨y, ?_, r⟩⟩
      by_cases hy : y = K
      · subst hy
        have := r.1
        omega
      · omega
    · rw [if_neg h1]
      have h2 := rlxN_lst (c := c) (g := g) (t := t) (k := K) (n := lv l K) (by omega) (nbL c.W c.H K) (o := mvK c g t l K) (fun y hy => by
        have := nbL_lt (by omega : K < c.W * c.H) y hy
        rw [mvK_len]
        omega) ih
      refine h2.congr fun m => ?_
      constructor
      · rintro (⟨y, h, r⟩ | ⟨a, b, d⟩)
        · exact ⟨y, by omega, r⟩
        · exact ⟨K, by omega, by omega, a, b, d⟩
      · rintro ⟨y, h, r1, r2, r3, r4⟩
        by_cases hy : y = K
        · subst hy
          exact .inr ⟨r2, r3, r4⟩
        · exact .inl ⟨y, by omega, r1, r2, r3, r4⟩
theorem mvL_ge {c : Cht} (hok : c.ok) {g : Int} {k t : Nat} : ∀ i y, -1 ≤ lv (mvL c g k t i) y
  | 0, y => by
    by_cases hy : y < c.depth.length
    · unfold mvL
      split
      · by_cases hk : k < c.depth.length
        · rw [lv_set (by simpa using hk)]
          split
          · omega
          · simp [lv, List.getD_eq_getElem?_getD, List.getElem?_replicate, hy]
        · rw [List.set_eq_of_length_le (by simp; omega)]
          simp [lv, List.getD_eq_getElem?_getD, List.getElem?_replicate, hy]
      · simp [lv, List.getD_eq_getElem?_getD, List.getElem?_replicate, hy]
    · have : lv (mvL c g k t 0) y = 0 := by
        unfold lv
        rw [List.getD_eq_getElem?_getD, List.getElem?_eq_none (by rw [mvL_len]; omega)]
        try rfl
      omega
  | i + 1, y => by
    by_cases hy : y < c.depth.length
    · rw [mvL]
      exact (mvK_lst hok (mvL_len ..) (mvL_ge hok i) (by rw [mvL_len]; exact hy) _ (Nat.le_refl _)).ge
    · have : lv (mvL c g k t (i + 1)) y = 0 := by
        unfold lv
        rw [List.getD_eq_getElem?_getD, List.getElem?_eq_none (by rw [mvL_len]; omega)]
        try rfl
      omega
theorem mvL_zero {c : Cht} {g : Int} {k t x : Nat} (hk : k < c.depth.length) (hx : x < c.depth.length) : lv (mvL c g k t 0) x = if x = k ∧ c.flt g t k = true then 0 else -1 := by
  unfold mvL
  cases hf : c.flt g t k with
  | false =>
    simp [lv, List.getD_eq_getElem?_getD, List.getElem?_replicate, hx]
  | true =>
    rw [if_pos rfl, lv_set (by simpa using hk)]
    by_cases h : x = k
    · simp [h]
    · simp [h, lv, List.getD_eq_getElem?_getD, List.getElem?_replicate, hx]
theorem mvL_succ {c : Cht} (hok : c.ok) {g : Int} {k t i x : Nat} (hx : x < c.depth.length) :
    Lst (fun m => ∃ y, y ∈ nbL c.W c.H x ∧ 0 ≤ lv (mvL c g k t i) y ∧ c.flt g (t + i + 1) x = true ∧ m = lv (mvL c g k t i) y + cst y x) (lv (mvL c g k t (i + 1)) x) := by
  obtain ⟨eW, eH, hW, hH, hlen⟩ := hok.dims
  have hl := mvL_len c g k t i
  rw [mvL]
  refine (mvK_lst hok hl (mvL_ge hok i) (by omega) _ (Nat.le_refl _)).congr fun m => ?_
  constructor
  · rintro ⟨y, hy, h1, h2, h3, h4⟩
    exact ⟨y, nb_symm (by omega) h2, h1, h3, h4⟩
  · rintro ⟨y, h2, h1, h3, h4⟩
    have := nbL_lt (by omega) y h2
    exact ⟨y, by omega, h1, nb_symm (by omega) h2, h3, h4⟩
theorem mvL_le {c : Cht} (hok : c.ok) {g : Int} {k t : Nat} (hk : k < c.depth.length) : ∀ i x, lv (mvL c g k t i) x ≤ i
  | i, x => by
    by_cases hx : x < c.depth.length
    · cases i with
      | zero =>
        rw [mvL_zero hk hx]
        split <;> omega
      | succ i =>
        rcases mvL_succ hok (g := g) (k := k) (t := t) (i := i) hx with ⟨h1, _⟩ | ⟨h1, ⟨y, h2, h3, h4, h5⟩, _⟩
        · omega
        · have := mvL_le hok (g := g) (t := t) hk i y
          have := cst_bd y x
          omega
    · have : lv (mvL c g k t i) x = 0 := by
        unfold lv
        rw [List.getD_eq_getElem?_getD, List.getElem?_eq_none (by rw [mvL_len]; omega)]
        try rfl
      omega
theorem mvL_dry {c : Cht} (hok : c.ok) {g : Int} {k t : Nat} (hk : k < c.depth.length) (hf : c.flt g t k = false) : ∀ i, mvL c g k t i = List.replicate c.depth.length (-1)
  | 0 => by
    unfold mvL
    rw [hf]
    try rfl
  | i + 1 => by
    refine List.ext_getElem? fun x => ?_
    by_cases hx : x < c.depth.length
    · have h := mvL_succ hok (g := g) (k := k) (t := t) (i := i) hx
      rcases h with ⟨h1, _⟩ | ⟨h1, ⟨y, h2, h3, _⟩, _⟩
      · rw [getD_at (show x < (mvL c g k t (i + 1)).length by rw [mvL_len]; exact hx) 0]
        unfold lv at h1
        rw [h1, List.getElem?_replicate, if_pos hx]
      · rw [mvL_dry hok hk hf i] at h3
        exfalso
        obtain ⟨eW, eH, hW, hH, hlen⟩ := hok.dims
        have := nbL_lt (by omega : x < c.W * c.H) y h2
        unfold lv at h3
        rw [List.getD_eq_getElem?_getD, List.getElem?_replicate, if_pos (by omega)] at h3
        simp at h3
    · rw [List.getElem?_eq_none (by rw [mvL_len]; omega), List.getElem?_eq_none (by simp; omega)]
end Go.Proofs.YtogicfoigeongaaGreatDoor

namespace Go.Proofs.YtogicfoigeongaaGreatDoor
open Go.RowKit Go.SX
set_option linter.unusedSimpArgs false
set_option linter.unusedVariables false
def Rr (c : Cht) (g : Int) (t a : Nat) : Nat → Nat → Prop
  | 0, b => b = a ∧ c.flt g t a = true
  | i + 1, b => c.flt g (t + i + 1) b = true ∧ ∃ y ∈ nbL c.W c.H b, Rr c g t a i y
theorem Rr_flt {c : Cht} {g : Int} {t a : Nat} : ∀ {i b : Nat}, Rr c g t a i b → c.flt g (t + i) b = true
  | 0, b, h => h.1 ▸ h.2
  | i + 1, b, h => h.1
def isPass (c : Cht) (g : Int) (t : Nat) (p : List Nat) : Prop :=
  p ≠ [] ∧ t + p.length ≤ c.tide.length ∧ ∀ i, i < p.length → p.getD i 0 < c.depth.length ∧ c.flt g (t + i) (p.getD i 0) = true ∧ (0 < i → p.getD i 0 ∈ nbL c.W c.H (p.getD (i - 1) 0))
end Go.Proofs.YtogicfoigeongaaGreatDoor

namespace Go.Proofs.YtogicfoigeongaaGreatDoor
open Go.RowKit Go.SX
set_option maxRecDepth 4000
set_option maxHeartbeats 8000000
set_option linter.unusedSimpArgs false
set_option linter.unusedVariables false
def mvR (c : Cht) (g : Int) (k : Nat) (t u : Int) : List Int := if u < t then List.replicate c.depth.length (-1) else mvL c g k t.toNat (u - t).toNat
theorem moves_fn (w : World) (hw : Ways w) (v : Value) (c : Cht) (hc : ChOk w v c) (hsm : c.small) (g a t u : Int) :
    SX.Fn Tryz.prog 13 [v, I g, I a, I t, I u] w (fun _ => False) fun r N => (openE c [a] [t, u] [g] ≠ 0 ∧ r = .tuple #[.slice none 0 0, I (openE c [a] [t, u] [g])]) ∨
      (openE c [a] [t, u] [g] = 0 ∧ ∃ x, r = .tuple #[.slice (some ⟨x, 0, none⟩) c.depth.length c.depth.length, I 0] ∧ HO.row (.slice (some ⟨x, 0, none⟩) c.depth.length c.depth.length) 3 1 (ints (mvR c g a.toNat t u)) ∈ N) := by
  have hc0 := hc
  obtain ⟨sD, sT, sS, rfl, hsD, hsT, hsS⟩ := hc
  obtain ⟨aD, nD, cD, rfl⟩ := hsD.shape
  obtain ⟨aT, nT, cT, rfl⟩ := hsT.shape
  obtain ⟨aS, nS, cS, rfl⟩ := hsS.shape
  refine walk [15] [] (det0_ok _ _) Tryz.func13 rfl Tryz.ntmps13 res13 (by kernel_rfl) no_facts ?_
  simp (config := { maxSteps := 4000000 }) only [↓sx0, ↓sx1, ↓sx2, ↓sx3, ↓sx4, ↓sx5, ↓sx6, sx0, sx1, sx2, sx3, sx4, sx5, sx6, tf13, ev3_hold, sxo, sxc, sxp, sxq, sxr, sxs, sxl, sxm, simprocAttr, det0]
  intro b1 b2
  refine CallOb.pureH (fun w' hp => sail_fn w' _ _ _ _ _ c g [a] [t, u] (hc0.hp hp) hsm (row_hp (E := 3) (xs := ints [a]) (by simp [cat, i1]) hp) (row_hp (E := 3) (xs := ints [t, u]) (by simp [cat, i1]) hp) (by simp)) ?_
  rintro r N rfl
  by_cases he : openE c [a] [t, u] [g] = 0
  case neg =>
    have e1 : (openE c [a] [t, u] [g] = 0) = False := eq_false he
    refine ⟨?_⟩
    simp (config := { maxSteps := 4000000 }) only [↓sx0, ↓sx1, ↓sx2, ↓sx3, ↓sx4, ↓sx5, ↓sx6, sx0, sx1, sx2, sx3, sx4, sx5, sx6, tf13, ev3_hold, sxo, sxc, sxp, sxq, sxr, sxs, sxl, sxm, simprocAttr, e1]
    exact .inl trivial
  have hz := openE_zero he
  obtain ⟨hok, hcl, htl, hgl⟩ := hz
  have ha := hcl a (by simp)
  have ht := htl t (by simp)
  have hu := htl u (by simp)
  have hdm := hok.dims
  obtain ⟨eW, eH, hW, hH, hlen⟩ := hdm
  have h60 := hok.2.2.2.1.2
  have hn144 : c.depth.length < 200 := by
    have := Nat.mul_le_mul hW.2 hH.2
    omega
  have hA' : ∃ A : Nat, a = A := ⟨a.toNat, by omega⟩
  have hT' : ∃ T : Nat, t = T := ⟨t.toNat, by omega⟩
  have hU' : ∃ U : Nat, u = U := ⟨u.toNat, by omega⟩
  obtain ⟨A, hA⟩ := hA'
  obtain ⟨T, hT⟩ := hT'
  obtain ⟨U, hU⟩ := hU'
  subst hA hT hU
  simp only [Int.toNat_natCast] at ha ht hu
  rw [he]
  refine ⟨?_⟩
  simp (config := { maxSteps := 4000000 }) only [↓sx0, ↓sx1, ↓sx2, ↓sx3, ↓sx4, ↓sx5, ↓sx6, sx0, sx1, sx2, sx3, sx4, sx5, sx6, tf13, ev3_hold, sxo, sxc, sxp, sxq, sxr, sxs, sxl, sxm, simprocAttr, det0]
  refine CallOb.pureH (fun w' hp => row_fn w' _ _ _ _ _ (-1) c.depth (hsD.hp (fun _ _ => id) hp) hn144 (by omega)) ?_
  rintro r0 N1 ⟨x, rfl, hN1⟩
  by_cases hut : U < T
  case pos =>
    have e1 : ((U : Int) < (T : Int)) = True := eq_true (by omega)
    refine ⟨?_⟩
    simp (config := { maxSteps := 4000000 }) only [↓sx0, ↓sx1, ↓sx2, ↓sx3, ↓sx4, ↓sx5, ↓sx6, sx0, sx1, sx2, sx3, sx4, sx5, sx6, tf13, ev3_hold, sxo, sxc, sxp, sxq, sxr, sxs, sxl, sxm, simprocAttr, det0, e1]
    refine .inr ⟨x, rfl, ?_⟩
    have hm : mvR c g A T U = List.replicate c.depth.length (-1) := if_pos (by omega)
    rw [hm]
    exact List.mem_append_left _ hN1
  have e1 : ((U : Int) < (T : Int)) = False := eq_false (by omega)
  have hm : mvR c g A T U = mvL c g A T (U - T) := by
    unfold mvR
    rw [if_neg (by omega), show ((U : Int) - (T : Int)).toNat = U - T by omega, Int.toNat_natCast]
  refine ⟨?_⟩
  simp (config := { maxSteps := 4000000 }) only [↓sx0, ↓sx1, ↓sx2, ↓sx3, ↓sx4, ↓sx5, ↓sx6, sx0, sx1, sx2, sx3, sx4, sx5, sx6, tf13, ev3_hold, sxo, sxc, sxp, sxq, sxr, sxs, sxl, sxm, simprocAttr, det0, e1]
  refine CallOb.pureH (fun w' hp => floats_fn w' _ _ _ c (hc0.hp hp) hok g A T ha.2 ht.2) ?_
  intro r1 N2 hr1
  cases hf : c.flt g T A with
  | false =>
    have hr2 : r1 = .bool false := hr1.trans (congrArg _ hf)
    subst hr2
    refine ⟨?_⟩
    simp (config := { maxSteps := 4000000 }) only [↓sx0, ↓sx1, ↓sx2, ↓sx3, ↓sx4, ↓sx5, ↓sx6, sx0, sx1, sx2, sx3, sx4, sx5, sx6, tf13, ev3_hold, sxo, sxc, sxp, sxq, sxr, sxs, sxl, sxm, simprocAttr, det0]
    refine .inr ⟨x, rfl, ?_⟩
    rw [hm, mvL_dry hok ha.2 hf]
    simp [hN1]
  | true =>
  have hr2 : r1 = .bool true := hr1.trans (congrArg _ hf)
  subst hr2
  obtain ⟨s1, t1, rfl⟩ := List.append_of_mem hN1
  have e2 : IntKind.i64.wrap ((T : Int) + 1) = ((T + 1 : Nat) : Int) := (wrap_id (by omega)).trans (by omega)
  refine ⟨?_⟩
  simp (config := { maxSteps := 4000000 }) only [↓sx0, ↓sx1, ↓sx2, ↓sx3, ↓sx4, ↓sx5, ↓sx6, sx0, sx1, sx2, sx3, sx4, sx5, sx6, tf13, ev3_hold, sxo, sxc, sxp, sxq, sxr, sxs, sxl, sxm, simprocAttr, det0]
  refine ⟨by omega, by omega, _, rfl, ?_⟩
  refine wr_at (A := N2 ++ s1) (l := List.replicate c.depth.length (-1 : Int)) (k := A) (u := (0 : Int)) ((congrArg (N2 ++ ·) (List.append_assoc s1 _ _)).trans (List.append_assoc N2 s1 _).symm) i1_len (by simp) (by simp; omega) ?_
  simp (config := { maxSteps := 4000000 }) only [↓sx0, ↓sx1, ↓sx2, ↓sx3, ↓sx4, ↓sx5, ↓sx6, sx0, sx1, sx2, sx3, sx4, sx5, sx6, tf13, ev3_hold, sxo, sxc, sxp, sxq, sxr, sxs, sxl, sxm, simprocAttr]
  intro b3
  refine wr_cell (A := []) rfl (by simp) ?_
  have hwl := ways_lt hw
  generalize hFF : (fun (q : Nat) (i y : Nat) (l : List Int) => [HO.cells q 3 [I ((T + i + 1 : Nat) : Int)], HO.row (.slice (some ⟨y, 0, none⟩) c.depth.length c.depth.length) 3 1 (ints l)]) = FF
  have hFe : ∀ q i y l, FF q i y l = [HO.cells q 3 [I ((T + i + 1 : Nat) : Int)], HO.row (.slice (some ⟨y, 0, none⟩) c.depth.length c.depth.length) 3 1 (ints l)] := fun _ _ _ _ => by rw [← hFF]
  have hrd : ∀ (o : List Int) y, o.length = c.depth.length → ∀ G, HO.row (.slice (some ⟨y, 0, none⟩) c.depth.length c.depth.length) 3 1 (ints o) ∈ G → Rdv ⟨w, fun _ => False⟩ G (.slice (some ⟨y, 0, none⟩) c.depth.length c.depth.length) 1 (ints o) := fun o y hl G hG =>
    row_rdv (E := 3) hG ⟨_, _, _, rfl, by rw [cat_len i1_len, hl], fun h => by cases h⟩
  have hat : ∀ (l : List Int) (y : Nat), y < l.length → l[y]? = some (lv l y) := fun l y h => getD_at h 0
  have e0 : (List.replicate c.depth.length (-1 : Int)).set A 0 = mvL c g A T 0 := by
    rw [mvL, hf]
    try rfl
  refine loop_constH (FF b3 0 x (mvL c g A T 0)) (by rw [hFe, ← e0, show T + 0 + 1 = T + 1 from rfl, ← e2]; exact HImp.sub (.cons_cons _ ((List.singleton_sublist.2 List.mem_cons_self).trans (List.sublist_append_right _ _)))) [(14, 20), (54, 107)] (fun s : Nat × Nat × Nat => [(14, .slice (some ⟨s.2.1, 0, none⟩) c.depth.length c.depth.length), (15, .pointer (some ⟨s.2.2, 0, none⟩))])
    (fun s H1 => T + s.1 ≤ U ∧ H1 = FF s.2.2 s.1 s.2.1 (mvL c g A T s.1)) (fun s => U + 1 - (T + s.1)) (0, x, b3) ?_ ⟨by omega, rfl⟩ ?_
  · simp (config := { maxSteps := 4000000 }) only [↓sx0, ↓sx1, ↓sx2, ↓sx3, ↓sx4, ↓sx5, ↓sx6, sx0, sx1, sx2, sx3, sx4, sx5, sx6, tf13, ev3_hold, sxo, sxc, sxp, sxq, sxr, sxs, sxl, sxm, simprocAttr]
  · rintro ⟨i, y, q⟩ H1 g1 ⟨hi, rfl⟩
    simp only [] at hi
    have hq : ∀ l, HO.cells q 3 [I ((T + i + 1 : Nat) : Int)] ∈ FF q i y l := fun l => by rw [hFe]; simp
    have hy : ∀ l, HO.row (.slice (some ⟨y, 0, none⟩) c.depth.length c.depth.length) 3 1 (ints l) ∈ FF q i y l := fun l => by rw [hFe]; simp
    refine ⟨?_⟩
    simp (config := { maxSteps := 4000000 }) only [↓sx0, ↓sx1, ↓sx2, ↓sx3, ↓sx4, ↓sx5, ↓sx6, sx0, sx1, sx2, sx3, sx4, sx5, sx6, tf13, ev3_hold, sxo, sxc, sxp, sxq, sxr, sxs, sxl, sxm, simprocAttr]
    refine ld_cell (hq _) rfl ?_
    by_cases hiU : T + i = U
    · have e3 : (((T + i + 1 : Nat) : Int) ≤ (U : Int)) = False := eq_false (by omega)
      simp (config := { maxSteps := 4000000 }) only [↓sx0, ↓sx1, ↓sx2, ↓sx3, ↓sx4, ↓sx5, ↓sx6, sx0, sx1, sx2, sx3, sx4, sx5, sx6, tf13, ev3_hold, sxo, sxc, sxp, sxq, sxr, sxs, sxl, sxm, simprocAttr, e3]
      refine .inr ⟨y, rfl, ?_⟩
      rw [hm, hFe, show U - T = i by omega]
      try simp
    have e3 : (((T + i + 1 : Nat) : Int) ≤ (U : Int)) = True := eq_true (by omega)
    have hl := mvL_len c g A T i
    have hge := mvL_ge hok (g := g) (k := A) (t := T) i
    have hle := mvL_le hok (g := g) (t := T) ha.2 i
    have hsucc : mvL c g A T (i + 1) = mvK c g (T + i + 1) (mvL c g A T i) (mvL c g A T i).length := by rw [mvL]
    generalize mvL c g A T i = l at hl hge hle hsucc ⊢
    simp (config := { maxSteps := 4000000 }) only [↓sx0, ↓sx1, ↓sx2, ↓sx3, ↓sx4, ↓sx5, ↓sx6, sx0, sx1, sx2, sx3, sx4, sx5, sx6, tf13, ev3_hold, sxo, sxc, sxp, sxq, sxr, sxs, sxl, sxm, simprocAttr, det0, e3]
    refine CallOb.pureH (fun w' hp => row_fn w' _ _ _ _ _ (-1) c.depth (hsD.hp (fun _ _ => id) hp) hn144 (by omega)) ?_
    rintro r3 N3 ⟨x2, rfl, hN3⟩
    refine ⟨?_⟩
    simp (config := { maxSteps := 4000000 }) only [↓sx0, ↓sx1, ↓sx2, ↓sx3, ↓sx4, ↓sx5, ↓sx6, sx0, sx1, sx2, sx3, sx4, sx5, sx6, tf13, ev3_hold, sxo, sxc, sxp, sxq, sxr, sxs, sxl, sxm, simprocAttr, det0]
    have hl0 : List.replicate c.depth.length (-1) = mvK c g (T + i + 1) l 0 := by rw [mvK, hl]
    rw [hl0] at hN3
    refine loop_constH (HO.row (.slice (some ⟨x2, 0, none⟩) c.depth.length c.depth.length) 3 1 (ints (mvK c g (T + i + 1) l 0)) :: FF q i y l) (HImp.sub (List.Sublist.append (List.singleton_sublist.2 hN3) (List.Sublist.refl _))) [(17, 20), (64, 105)] (fun k : Nat => [(64, I k)])
      (fun k H1 => k ≤ c.depth.length ∧ H1 = HO.row (.slice (some ⟨x2, 0, none⟩) c.depth.length c.depth.length) 3 1 (ints (mvK c g (T + i + 1) l k)) :: FF q i y l) (fun k => c.depth.length - k) 0 ?_ ⟨Nat.zero_le _, rfl⟩ ?_
    · simp (config := { maxSteps := 4000000 }) only [↓sx0, ↓sx1, ↓sx2, ↓sx3, ↓sx4, ↓sx5, ↓sx6, sx0, sx1, sx2, sx3, sx4, sx5, sx6, tf13, ev3_hold, sxo, sxc, sxp, sxq, sxr, sxs, sxl, sxm, simprocAttr]
      try simp
    · rintro k H1 g2 ⟨hk, rfl⟩
      by_cases hkn : k = c.depth.length
      · have e7 : ((k : Int) < (c.depth.length : Int)) = False := eq_false (by omega)
        refine ⟨?_⟩
        simp (config := { maxSteps := 4000000 }) only [↓sx0, ↓sx1, ↓sx2, ↓sx3, ↓sx4, ↓sx5, ↓sx6, sx0, sx1, sx2, sx3, sx4, sx5, sx6, tf13, ev3_hold, sxo, sxc, sxp, sxq, sxr, sxs, sxl, sxm, simprocAttr, e7]
        refine ld_cell (List.mem_cons_of_mem _ (hq l)) rfl ?_
        simp (config := { maxSteps := 4000000 }) only [↓sx0, ↓sx1, ↓sx2, ↓sx3, ↓sx4, ↓sx5, ↓sx6, sx0, sx1, sx2, sx3, sx4, sx5, sx6, tf13, ev3_hold, sxo, sxc, sxp, sxq, sxr, sxs, sxl, sxm, simprocAttr]
        intro b4
        refine wr_cell (A := []) rfl (by simp) ?_
        simp (config := { maxSteps := 4000000 }) only [↓sx0, ↓sx1, ↓sx2, ↓sx3, ↓sx4, ↓sx5, ↓sx6, sx0, sx1, sx2, sx3, sx4, sx5, sx6, tf13, ev3_hold, sxo, sxc, sxp, sxq, sxr, sxs, sxl, sxm, simprocAttr]
        refine ld_cell List.mem_cons_self rfl ?_
        simp (config := { maxSteps := 4000000 }) only [↓sx0, ↓sx1, ↓sx2, ↓sx3, ↓sx4, ↓sx5, ↓sx6, sx0, sx1, sx2, sx3, sx4, sx5, sx6, tf13, ev3_hold, sxo, sxc, sxp, sxq, sxr, sxs, sxl, sxm, simprocAttr]
        refine wr_cell (A := []) rfl (by simp) ?_
        simp (config := { maxSteps := 4000000 }) only [↓sx0, ↓sx1, ↓sx2, ↓sx3, ↓sx4, ↓sx5, ↓sx6, sx0, sx1, sx2, sx3, sx4, sx5, sx6, tf13, ev3_hold, sxo, sxc, sxp, sxq, sxr, sxs, sxl, sxm, simprocAttr]
        have e9 : IntKind.i64.wrap (((T + i + 1 : Nat) : Int) + 1) = ((T + (i + 1) + 1 : Nat) : Int) := (wrap_id (by omega)).trans (by omega)
        rw [e9]
        refine ⟨(i + 1, x2, b4), _, ⟨rfl, rfl⟩, ?_, ⟨by omega, rfl⟩, by omega⟩
        simp only []
        rw [hFe, hFe, hsucc, hl, hkn]
        exact HImp.sub (.cons_cons _ (.cons_cons _ (List.nil_sublist _)))
      have e7 : ((k : Int) < (c.depth.length : Int)) = True := eq_true (by omega)
      have e8 : IntKind.i64.wrap ((k : Int) + 1) = ((k + 1 : Nat) : Int) := (wrap_id (by omega)).trans (by omega)
      refine ⟨?_⟩
      simp (config := { maxSteps := 4000000 }) only [↓sx0, ↓sx1, ↓sx2, ↓sx3, ↓sx4, ↓sx5, ↓sx6, sx0, sx1, sx2, sx3, sx4, sx5, sx6, tf13, ev3_hold, sxo, sxc, sxp, sxq, sxr, sxs, sxl, sxm, simprocAttr, e7]
      refine amid (at_1 (hrd l y hl _ (List.mem_cons_of_mem _ (hy _))) i1_len (hat l k (by omega)) rfl fun ad1 => ?_)
      by_cases hn1 : lv l k = -1
      · have e4 : (lv l k = -1) = True := eq_true hn1
        simp (config := { maxSteps := 4000000 }) only [↓sx0, ↓sx1, ↓sx2, ↓sx3, ↓sx4, ↓sx5, ↓sx6, sx0, sx1, sx2, sx3, sx4, sx5, sx6, tf13, ev3_hold, sxo, sxc, sxp, sxq, sxr, sxs, sxl, sxm, simprocAttr, e4, e8]
        exact ⟨k + 1, _, rfl, HImp.refl _ _, ⟨by omega, by rw [mvK, if_pos hn1]⟩, by omega⟩
      have e4 : (lv l k = -1) = False := eq_false hn1
      have hn0 : 0 ≤ lv l k := by have := hge k; omega
      simp (config := { maxSteps := 4000000 }) only [↓sx0, ↓sx1, ↓sx2, ↓sx3, ↓sx4, ↓sx5, ↓sx6, sx0, sx1, sx2, sx3, sx4, sx5, sx6, tf13, ev3_hold, sxo, sxc, sxp, sxq, sxr, sxs, sxl, sxm, simprocAttr, e4, det0]
      refine CallOb.pureH (fun w' hp => near_fn w' _ _ _ _ _ _) ?_
      rintro r4 N4 ⟨bc, bs, rfl, rfl⟩
      refine ⟨?_⟩
      simp (config := { maxSteps := 4000000 }) only [↓sx0, ↓sx1, ↓sx2, ↓sx3, ↓sx4, ↓sx5, ↓sx6, sx0, sx1, sx2, sx3, sx4, sx5, sx6, tf13, ev3_hold, sxo, sxc, sxp, sxq, sxr, sxs, sxl, sxm, simprocAttr]
      refine range_introH Tryz.call65 (nbL c.W c.H k).length (nearArg c.W c.H k) [.cells bc 3 [I k], .cells bs 88 [I c.wide, I c.high, .slice aD nD cD, .slice aT nT cT, .slice aS nS cS]] (HO.row (.slice (some ⟨x2, 0, none⟩) c.depth.length c.depth.length) 3 1 (ints (mvK c g (T + i + 1) l k)) :: FF q i y l)
        (fun j L' H' => L' = [(25, [I c.wide, I c.high, .slice aD nD cD, .slice aT nT cT, .slice aS nS cS]), (90, [I c.wide, I c.high, .slice aD nD cD, .slice aT nT cT, .slice aS nS cS, I g]), (22, [.slice (some ⟨x2, 0, none⟩) c.depth.length c.depth.length]), (3, [I k]), (3, [I (lv l k)])] ∧
          H' = HO.row (.slice (some ⟨x2, 0, none⟩) c.depth.length c.depth.length) 3 1 (ints (rlxN c g (T + i + 1) k (lv l k) ((nbL c.W c.H k).take j) (mvK c g (T + i + 1) l k))) :: FF q i y l) (fun _ => False) (fun b => b = bc ∨ b = bs ∨ b = 0)
        (HImp.refl _ _) (fun _ hb => hb.elim) (fun b hb => ?_) (fun w' hp => ?_) ⟨rfl, rfl⟩ ?_ ?_ ?_
      · rcases hb with rfl | rfl | rfl
        · exact .inr ⟨_, List.mem_cons_self, rfl⟩
        · exact .inr ⟨_, List.mem_cons_of_mem _ List.mem_cons_self, rfl⟩
        · exact .inl ⟨hwl, id⟩
      · have h1 := cells_old (w0 := ⟨w, fun _ => False⟩) (b := bs) (List.mem_append_left _ (List.mem_cons_of_mem _ List.mem_cons_self)) hp
        refine near_it w' (hw.hp hp) bc bs c.W c.H k (.slice aD nD cD) (.slice aT nT cT) (.slice aS nS cS) hW hH (by omega) (cells_hp (List.mem_append_left _ List.mem_cons_self) hp) ?_
        rw [← eW, ← eH]
        exact h1
      · rintro j vs F ⟨n, _, rfl, _⟩
        try rfl
      · rintro j vs F L' H' hj ⟨n, hnn, rfl, rfl⟩ - ⟨rfl, rfl⟩
        have hnN : n < c.W * c.H := nbL_lt (by omega) n (List.mem_of_getElem? hnn)
        have htk : (nbL c.W c.H k).take (j + 1) = (nbL c.W c.H k).take j ++ [n] := by rw [List.take_add_one, hnn]; rfl
        have hol : (rlxN c g (T + i + 1) k (lv l k) ((nbL c.W c.H k).take j) (mvK c g (T + i + 1) l k)).length = c.depth.length := by rw [rlxN_len, mvK_len, hl]
        have hstep := rlxN_snoc c g (T + i + 1) k (lv l k) ((nbL c.W c.H k).take j) (mvK c g (T + i + 1) l k) n
        rw [← htk] at hstep
        generalize rlxN c g (T + i + 1) k (lv l k) ((nbL c.W c.H k).take j) (mvK c g (T + i + 1) l k) = o at hol hstep ⊢
        rw [hstep]
        clear hstep htk
        by_cases hnk : n = k
        · have e5 : ((n : Int) = (k : Int)) = True := eq_true (by omega)
          have hcst : cst k n = 0 := if_pos hnk
          have hz := Int.add_zero (lv l k)
          have h4 : (c.flt g (T + i + 1) n = false) ∨ (c.flt g (T + i + 1) n = true ∧ lv o n = -1) ∨ (c.flt g (T + i + 1) n = true ∧ ¬ lv o n = -1 ∧ lv l k < lv o n) ∨ (c.flt g (T + i + 1) n = true ∧ ¬ lv o n = -1 ∧ ¬ lv l k < lv o n) := by
            cases c.flt g (T + i + 1) n with
            | false => exact .inl rfl
            | true => by_cases h1 : lv o n = -1 <;> by_cases h2 : lv l k < lv o n <;> simp [h1, h2]
          rcases h4 with hf2 | ⟨hf2, h1⟩ | ⟨hf2, h1, h2⟩ | ⟨hf2, h1, h2⟩
          all_goals refine ⟨?_⟩
          · simp (config := { maxSteps := 4000000 }) only [↓sx0, ↓sx1, ↓sx2, ↓sx3, ↓sx4, ↓sx5, ↓sx6, sx0, sx1, sx2, sx3, sx4, sx5, sx6, tf13, ev3_hold, sxo, sxc, sxp, sxq, sxr, sxs, sxl, sxm, simprocAttr, e5]
            refine ld_cell (List.mem_cons_of_mem _ (hq l)) rfl ?_
            simp (config := { maxSteps := 4000000 }) only [↓sx0, ↓sx1, ↓sx2, ↓sx3, ↓sx4, ↓sx5, ↓sx6, sx0, sx1, sx2, sx3, sx4, sx5, sx6, tf13, ev3_hold, sxo, sxc, sxp, sxq, sxr, sxs, sxl, sxm, simprocAttr, det0]
            refine CallOb.pureH (fun w' hp => floats_fn w' _ _ _ c (hc0.hp hp) hok g n (T + i + 1) (by omega) (by omega)) ?_
            intro r5 N5 hr5
            have hr6 : r5 = .bool false := hr5.trans (congrArg _ hf2)
            subst hr6
            refine ⟨?_⟩
            simp (config := { maxSteps := 4000000 }) only [↓sx0, ↓sx1, ↓sx2, ↓sx3, ↓sx4, ↓sx5, ↓sx6, sx0, sx1, sx2, sx3, sx4, sx5, sx6, tf13, ev3_hold, sxo, sxc, sxp, sxq, sxr, sxs, sxl, sxm, simprocAttr]
            refine ⟨_, HImp.app _ _ _, ?_⟩
            rw [rlx, hf2, if_neg (by simp)]
          · have e10 : (lv o n = -1) = True := eq_true h1
            simp (config := { maxSteps := 4000000 }) only [↓sx0, ↓sx1, ↓sx2, ↓sx3, ↓sx4, ↓sx5, ↓sx6, sx0, sx1, sx2, sx3, sx4, sx5, sx6, tf13, ev3_hold, sxo, sxc, sxp, sxq, sxr, sxs, sxl, sxm, simprocAttr, e5]
            refine ld_cell (List.mem_cons_of_mem _ (hq l)) rfl ?_
            simp (config := { maxSteps := 4000000 }) only [↓sx0, ↓sx1, ↓sx2, ↓sx3, ↓sx4, ↓sx5, ↓sx6, sx0, sx1, sx2, sx3, sx4, sx5, sx6, tf13, ev3_hold, sxo, sxc, sxp, sxq, sxr, sxs, sxl, sxm, simprocAttr, det0]
            refine CallOb.pureH (fun w' hp => floats_fn w' _ _ _ c (hc0.hp hp) hok g n (T + i + 1) (by omega) (by omega)) ?_
            intro r5 N5 hr5
            have hr6 : r5 = .bool true := hr5.trans (congrArg _ hf2)
            subst hr6
            refine ⟨?_⟩
            simp (config := { maxSteps := 4000000 }) only [↓sx0, ↓sx1, ↓sx2, ↓sx3, ↓sx4, ↓sx5, ↓sx6, sx0, sx1, sx2, sx3, sx4, sx5, sx6, tf13, ev3_hold, sxo, sxc, sxp, sxq, sxr, sxs, sxl, sxm, simprocAttr, e10]
            refine ⟨by omega, by omega, _, rfl, ?_⟩
            refine ld_at1 (hrd o x2 hol _ (List.mem_append_right _ List.mem_cons_self)) i1_len (hat o n (by omega)) rfl ?_
            simp (config := { maxSteps := 4000000 }) only [↓sx0, ↓sx1, ↓sx2, ↓sx3, ↓sx4, ↓sx5, ↓sx6, sx0, sx1, sx2, sx3, sx4, sx5, sx6, tf13, ev3_hold, sxo, sxc, sxp, sxq, sxr, sxs, sxl, sxm, simprocAttr, e10]
            refine ⟨by omega, by omega, _, rfl, ?_⟩
            refine wr_at (A := N5) (B := FF q i y l) (l := o) (k := n) (u := lv l k) rfl i1_len hol (by omega) ?_
            simp (config := { maxSteps := 4000000 }) only [↓sx0, ↓sx1, ↓sx2, ↓sx3, ↓sx4, ↓sx5, ↓sx6, sx0, sx1, sx2, sx3, sx4, sx5, sx6, tf13, ev3_hold, sxo, sxc, sxp, sxq, sxr, sxs, sxl, sxm, simprocAttr]
            refine ⟨_, HImp.app _ _ _, ?_⟩
            rw [rlx, if_pos ⟨hf2, .inl h1⟩, hcst, hz]
          · have e10 : (lv o n = -1) = False := eq_false h1
            have e11 : (lv l k < lv o n) = True := eq_true h2
            simp (config := { maxSteps := 4000000 }) only [↓sx0, ↓sx1, ↓sx2, ↓sx3, ↓sx4, ↓sx5, ↓sx6, sx0, sx1, sx2, sx3, sx4, sx5, sx6, tf13, ev3_hold, sxo, sxc, sxp, sxq, sxr, sxs, sxl, sxm, simprocAttr, e5]
            refine ld_cell (List.mem_cons_of_mem _ (hq l)) rfl ?_
            simp (config := { maxSteps := 4000000 }) only [↓sx0, ↓sx1, ↓sx2, ↓sx3, ↓sx4, ↓sx5, ↓sx6, sx0, sx1, sx2, sx3, sx4, sx5, sx6, tf13, ev3_hold, sxo, sxc, sxp, sxq, sxr, sxs, sxl, sxm, simprocAttr, det0]
            refine CallOb.pureH (fun w' hp => floats_fn w' _ _ _ c (hc0.hp hp) hok g n (T + i + 1) (by omega) (by omega)) ?_
            intro r5 N5 hr5
            have hr6 : r5 = .bool true := hr5.trans (congrArg _ hf2)
            subst hr6
            refine ⟨?_⟩
            simp (config := { maxSteps := 4000000 }) only [↓sx0, ↓sx1, ↓sx2, ↓sx3, ↓sx4, ↓sx5, ↓sx6, sx0, sx1, sx2, sx3, sx4, sx5, sx6, tf13, ev3_hold, sxo, sxc, sxp, sxq, sxr, sxs, sxl, sxm, simprocAttr]
            refine ⟨by omega, by omega, _, rfl, ?_⟩
            refine ld_at1 (hrd o x2 hol _ (List.mem_append_right _ List.mem_cons_self)) i1_len (hat o n (by omega)) rfl ?_
            simp (config := { maxSteps := 4000000 }) only [↓sx0, ↓sx1, ↓sx2, ↓sx3, ↓sx4, ↓sx5, ↓sx6, sx0, sx1, sx2, sx3, sx4, sx5, sx6, tf13, ev3_hold, sxo, sxc, sxp, sxq, sxr, sxs, sxl, sxm, simprocAttr, e10]
            refine ⟨by omega, by omega, _, rfl, ?_⟩
            refine ld_at1 (hrd o x2 hol _ (List.mem_append_right _ List.mem_cons_self)) i1_len (hat o n (by omega)) rfl ?_
            simp (config := { maxSteps := 4000000 }) only [↓sx0, ↓sx1, ↓sx2, ↓sx3, ↓sx4, ↓sx5, ↓sx6, sx0, sx1, sx2, sx3, sx4, sx5, sx6, tf13, ev3_hold, sxo, sxc, sxp, sxq, sxr, sxs, sxl, sxm, simprocAttr, e11]
            refine ⟨by omega, by omega, _, rfl, ?_⟩
            refine wr_at (A := N5) (B := FF q i y l) (l := o) (k := n) (u := lv l k) rfl i1_len hol (by omega) ?_
            simp (config := { maxSteps := 4000000 }) only [↓sx0, ↓sx1, ↓sx2, ↓sx3, ↓sx4, ↓sx5, ↓sx6, sx0, sx1, sx2, sx3, sx4, sx5, sx6, tf13, ev3_hold, sxo, sxc, sxp, sxq, sxr, sxs, sxl, sxm, simprocAttr]
            refine ⟨_, HImp.app _ _ _, ?_⟩
            rw [rlx, if_pos ⟨hf2, .inr (by rw [hcst]; omega)⟩, hcst, hz]
          · have e10 : (lv o n = -1) = False := eq_false h1
            have e11 : (lv l k < lv o n) = False := eq_false h2
            simp (config := { maxSteps := 4000000 }) only [↓sx0, ↓sx1, ↓sx2, ↓sx3, ↓sx4, ↓sx5, ↓sx6, sx0, sx1, sx2, sx3, sx4, sx5, sx6, tf13, ev3_hold, sxo, sxc, sxp, sxq, sxr, sxs, sxl, sxm, simprocAttr, e5]
            refine ld_cell (List.mem_cons_of_mem _ (hq l)) rfl ?_
            simp (config := { maxSteps := 4000000 }) only [↓sx0, ↓sx1, ↓sx2, ↓sx3, ↓sx4, ↓sx5, ↓sx6, sx0, sx1, sx2, sx3, sx4, sx5, sx6, tf13, ev3_hold, sxo, sxc, sxp, sxq, sxr, sxs, sxl, sxm, simprocAttr, det0]
            refine CallOb.pureH (fun w' hp => floats_fn w' _ _ _ c (hc0.hp hp) hok g n (T + i + 1) (by omega) (by omega)) ?_
            intro r5 N5 hr5
            have hr6 : r5 = .bool true := hr5.trans (congrArg _ hf2)
            subst hr6
            refine ⟨?_⟩
            simp (config := { maxSteps := 4000000 }) only [↓sx0, ↓sx1, ↓sx2, ↓sx3, ↓sx4, ↓sx5, ↓sx6, sx0, sx1, sx2, sx3, sx4, sx5, sx6, tf13, ev3_hold, sxo, sxc, sxp, sxq, sxr, sxs, sxl, sxm, simprocAttr]
            refine ⟨by omega, by omega, _, rfl, ?_⟩
            refine ld_at1 (hrd o x2 hol _ (List.mem_append_right _ List.mem_cons_self)) i1_len (hat o n (by omega)) rfl ?_
            simp (config := { maxSteps := 4000000 }) only [↓sx0, ↓sx1, ↓sx2, ↓sx3, ↓sx4, ↓sx5, ↓sx6, sx0, sx1, sx2, sx3, sx4, sx5, sx6, tf13, ev3_hold, sxo, sxc, sxp, sxq, sxr, sxs, sxl, sxm, simprocAttr, e10]
            refine ⟨by omega, by omega, _, rfl, ?_⟩
            refine ld_at1 (hrd o x2 hol _ (List.mem_append_right _ List.mem_cons_self)) i1_len (hat o n (by omega)) rfl ?_
            simp (config := { maxSteps := 4000000 }) only [↓sx0, ↓sx1, ↓sx2, ↓sx3, ↓sx4, ↓sx5, ↓sx6, sx0, sx1, sx2, sx3, sx4, sx5, sx6, tf13, ev3_hold, sxo, sxc, sxp, sxq, sxr, sxs, sxl, sxm, simprocAttr, e11]
            refine ⟨_, HImp.app _ _ _, ?_⟩
            rw [rlx, if_neg (by rw [hcst]; rintro ⟨_, h | h⟩ <;> omega)]
        · have e5 : ((n : Int) = (k : Int)) = False := eq_false (by omega)
          have hcst : cst k n = 1 := if_neg hnk
          have hlk := hle k
          have e12 : IntKind.i64.wrap (lv l k + 1) = lv l k + 1 := wrap_id (by omega)
          have h4 : (c.flt g (T + i + 1) n = false) ∨ (c.flt g (T + i + 1) n = true ∧ lv o n = -1) ∨ (c.flt g (T + i + 1) n = true ∧ ¬ lv o n = -1 ∧ lv l k + 1 < lv o n) ∨ (c.flt g (T + i + 1) n = true ∧ ¬ lv o n = -1 ∧ ¬ lv l k + 1 < lv o n) := by
            cases c.flt g (T + i + 1) n with
            | false => exact .inl rfl
            | true => by_cases h1 : lv o n = -1 <;> by_cases h2 : lv l k + 1 < lv o n <;> simp [h1, h2]
          rcases h4 with hf2 | ⟨hf2, h1⟩ | ⟨hf2, h1, h2⟩ | ⟨hf2, h1, h2⟩
          all_goals refine ⟨?_⟩
          · simp (config := { maxSteps := 4000000 }) only [↓sx0, ↓sx1, ↓sx2, ↓sx3, ↓sx4, ↓sx5, ↓sx6, sx0, sx1, sx2, sx3, sx4, sx5, sx6, tf13, ev3_hold, sxo, sxc, sxp, sxq, sxr, sxs, sxl, sxm, simprocAttr, e5, e12]
            refine ld_cell (List.mem_cons_of_mem _ (hq l)) rfl ?_
            simp (config := { maxSteps := 4000000 }) only [↓sx0, ↓sx1, ↓sx2, ↓sx3, ↓sx4, ↓sx5, ↓sx6, sx0, sx1, sx2, sx3, sx4, sx5, sx6, tf13, ev3_hold, sxo, sxc, sxp, sxq, sxr, sxs, sxl, sxm, simprocAttr, det0]
            refine CallOb.pureH (fun w' hp => floats_fn w' _ _ _ c (hc0.hp hp) hok g n (T + i + 1) (by omega) (by omega)) ?_
            intro r5 N5 hr5
            have hr6 : r5 = .bool false := hr5.trans (congrArg _ hf2)
            subst hr6
            refine ⟨?_⟩
            simp (config := { maxSteps := 4000000 }) only [↓sx0, ↓sx1, ↓sx2, ↓sx3, ↓sx4, ↓sx5, ↓sx6, sx0, sx1, sx2, sx3, sx4, sx5, sx6, tf13, ev3_hold, sxo, sxc, sxp, sxq, sxr, sxs, sxl, sxm, simprocAttr]
            refine ⟨_, HImp.app _ _ _, ?_⟩
            rw [rlx, hf2, if_neg (by simp)]
          · have e10 : (lv o n = -1) = True := eq_true h1
            simp (config := { maxSteps := 4000000 }) only [↓sx0, ↓sx1, ↓sx2, ↓sx3, ↓sx4, ↓sx5, ↓sx6, sx0, sx1, sx2, sx3, sx4, sx5, sx6, tf13, ev3_hold, sxo, sxc, sxp, sxq, sxr, sxs, sxl, sxm, simprocAttr, e5, e12]
            refine ld_cell (List.mem_cons_of_mem _ (hq l)) rfl ?_
            simp (config := { maxSteps := 4000000 }) only [↓sx0, ↓sx1, ↓sx2, ↓sx3, ↓sx4, ↓sx5, ↓sx6, sx0, sx1, sx2, sx3, sx4, sx5, sx6, tf13, ev3_hold, sxo, sxc, sxp, sxq, sxr, sxs, sxl, sxm, simprocAttr, det0]
            refine CallOb.pureH (fun w' hp => floats_fn w' _ _ _ c (hc0.hp hp) hok g n (T + i + 1) (by omega) (by omega)) ?_
            intro r5 N5 hr5
            have hr6 : r5 = .bool true := hr5.trans (congrArg _ hf2)
            subst hr6
            refine ⟨?_⟩
            simp (config := { maxSteps := 4000000 }) only [↓sx0, ↓sx1, ↓sx2, ↓sx3, ↓sx4, ↓sx5, ↓sx6, sx0, sx1, sx2, sx3, sx4, sx5, sx6, tf13, ev3_hold, sxo, sxc, sxp, sxq, sxr, sxs, sxl, sxm, simprocAttr, e10]
            refine ⟨by omega, by omega, _, rfl, ?_⟩
            refine ld_at1 (hrd o x2 hol _ (List.mem_append_right _ List.mem_cons_self)) i1_len (hat o n (by omega)) rfl ?_
            simp (config := { maxSteps := 4000000 }) only [↓sx0, ↓sx1, ↓sx2, ↓sx3, ↓sx4, ↓sx5, ↓sx6, sx0, sx1, sx2, sx3, sx4, sx5, sx6, tf13, ev3_hold, sxo, sxc, sxp, sxq, sxr, sxs, sxl, sxm, simprocAttr, e10]
            refine ⟨by omega, by omega, _, rfl, ?_⟩
            refine wr_at (A := N5) (B := FF q i y l) (l := o) (k := n) (u := lv l k + 1) rfl i1_len hol (by omega) ?_
            simp (config := { maxSteps := 4000000 }) only [↓sx0, ↓sx1, ↓sx2, ↓sx3, ↓sx4, ↓sx5, ↓sx6, sx0, sx1, sx2, sx3, sx4, sx5, sx6, tf13, ev3_hold, sxo, sxc, sxp, sxq, sxr, sxs, sxl, sxm, simprocAttr]
            refine ⟨_, HImp.app _ _ _, ?_⟩
            rw [rlx, if_pos ⟨hf2, .inl h1⟩, hcst]
          · have e10 : (lv o n = -1) = False := eq_false h1
            have e11 : (lv l k + 1 < lv o n) = True := eq_true h2
            simp (config := { maxSteps := 4000000 }) only [↓sx0, ↓sx1, ↓sx2, ↓sx3, ↓sx4, ↓sx5, ↓sx6, sx0, sx1, sx2, sx3, sx4, sx5, sx6, tf13, ev3_hold, sxo, sxc, sxp, sxq, sxr, sxs, sxl, sxm, simprocAttr, e5, e12]
            refine ld_cell (List.mem_cons_of_mem _ (hq l)) rfl ?_
            simp (config := { maxSteps := 4000000 }) only [↓sx0, ↓sx1, ↓sx2, ↓sx3, ↓sx4, ↓sx5, ↓sx6, sx0, sx1, sx2, sx3, sx4, sx5, sx6, tf13, ev3_hold, sxo, sxc, sxp, sxq, sxr, sxs, sxl, sxm, simprocAttr, det0]
            refine CallOb.pureH (fun w' hp => floats_fn w' _ _ _ c (hc0.hp hp) hok g n (T + i + 1) (by omega) (by omega)) ?_
            intro r5 N5 hr5
            have hr6 : r5 = .bool true := hr5.trans (congrArg _ hf2)
            subst hr6
            refine ⟨?_⟩
            simp (config := { maxSteps := 4000000 }) only [↓sx0, ↓sx1, ↓sx2, ↓sx3, ↓sx4, ↓sx5, ↓sx6, sx0, sx1, sx2, sx3, sx4, sx5, sx6, tf13, ev3_hold, sxo, sxc, sxp, sxq, sxr, sxs, sxl, sxm, simprocAttr]
            refine ⟨by omega, by omega, _, rfl, ?_⟩
            refine ld_at1 (hrd o x2 hol _ (List.mem_append_right _ List.mem_cons_self)) i1_len (hat o n (by omega)) rfl ?_
            simp (config := { maxSteps := 4000000 }) only [↓sx0, ↓sx1, ↓sx2, ↓sx3, ↓sx4, ↓sx5, ↓sx6, sx0, sx1, sx2, sx3, sx4, sx5, sx6, tf13, ev3_hold, sxo, sxc, sxp, sxq, sxr, sxs, sxl, sxm, simprocAttr, e10]
            refine ⟨by omega, by omega, _, rfl, ?_⟩
            refine ld_at1 (hrd o x2 hol _ (List.mem_append_right _ List.mem_cons_self)) i1_len (hat o n (by omega)) rfl ?_
            simp (config := { maxSteps := 4000000 }) only [↓sx0, ↓sx1, ↓sx2, ↓sx3, ↓sx4, ↓sx5, ↓sx6, sx0, sx1, sx2, sx3, sx4, sx5, sx6, tf13, ev3_hold, sxo, sxc, sxp, sxq, sxr, sxs, sxl, sxm, simprocAttr, e11]
            refine ⟨by omega, by omega, _, rfl, ?_⟩
            refine wr_at (A := N5) (B := FF q i y l) (l := o) (k := n) (u := lv l k + 1) rfl i1_len hol (by omega) ?_
            simp (config := { maxSteps := 4000000 }) only [↓sx0, ↓sx1, ↓sx2, ↓sx3, ↓sx4, ↓sx5, ↓sx6, sx0, sx1, sx2, sx3, sx4, sx5, sx6, tf13, ev3_hold, sxo, sxc, sxp, sxq, sxr, sxs, sxl, sxm, simprocAttr]
            refine ⟨_, HImp.app _ _ _, ?_⟩
            rw [rlx, if_pos ⟨hf2, .inr (by rw [hcst]; omega)⟩, hcst]
          · have e10 : (lv o n = -1) = False := eq_false h1
            have e11 : (lv l k + 1 < lv o n) = False := eq_false h2
            simp (config := { maxSteps := 4000000 }) only [↓sx0, ↓sx1, ↓sx2, ↓sx3, ↓sx4, ↓sx5, ↓sx6, sx0, sx1, sx2, sx3, sx4, sx5, sx6, tf13, ev3_hold, sxo, sxc, sxp, sxq, sxr, sxs, sxl, sxm, simprocAttr, e5, e12]
            refine ld_cell (List.mem_cons_of_mem _ (hq l)) rfl ?_
            simp (config := { maxSteps := 4000000 }) only [↓sx0, ↓sx1, ↓sx2, ↓sx3, ↓sx4, ↓sx5, ↓sx6, sx0, sx1, sx2, sx3, sx4, sx5, sx6, tf13, ev3_hold, sxo, sxc, sxp, sxq, sxr, sxs, sxl, sxm, simprocAttr, det0]
            refine CallOb.pureH (fun w' hp => floats_fn w' _ _ _ c (hc0.hp hp) hok g n (T + i + 1) (by omega) (by omega)) ?_
            intro r5 N5 hr5
            have hr6 : r5 = .bool true := hr5.trans (congrArg _ hf2)
            subst hr6
            refine ⟨?_⟩
            simp (config := { maxSteps := 4000000 }) only [↓sx0, ↓sx1, ↓sx2, ↓sx3, ↓sx4, ↓sx5, ↓sx6, sx0, sx1, sx2, sx3, sx4, sx5, sx6, tf13, ev3_hold, sxo, sxc, sxp, sxq, sxr, sxs, sxl, sxm, simprocAttr]
            refine ⟨by omega, by omega, _, rfl, ?_⟩
            refine ld_at1 (hrd o x2 hol _ (List.mem_append_right _ List.mem_cons_self)) i1_len (hat o n (by omega)) rfl ?_
            simp (config := { maxSteps := 4000000 }) only [↓sx0, ↓sx1, ↓sx2, ↓sx3, ↓sx4, ↓sx5, ↓sx6, sx0, sx1, sx2, sx3, sx4, sx5, sx6, tf13, ev3_hold, sxo, sxc, sxp, sxq, sxr, sxs, sxl, sxm, simprocAttr, e10]
            refine ⟨by omega, by omega, _, rfl, ?_⟩
            refine ld_at1 (hrd o x2 hol _ (List.mem_append_right _ List.mem_cons_self)) i1_len (hat o n (by omega)) rfl ?_
            simp (config := { maxSteps := 4000000 }) only [↓sx0, ↓sx1, ↓sx2, ↓sx3, ↓sx4, ↓sx5, ↓sx6, sx0, sx1, sx2, sx3, sx4, sx5, sx6, tf13, ev3_hold, sxo, sxc, sxp, sxq, sxr, sxs, sxl, sxm, simprocAttr, e11]
            refine ⟨_, HImp.app _ _ _, ?_⟩
            rw [rlx, if_neg (by rw [hcst]; rintro ⟨_, h | h⟩ <;> omega)]
      · rintro L' H' - ⟨rfl, rfl⟩
        refine ⟨?_⟩
        simp (config := { maxSteps := 4000000 }) only [↓sx0, ↓sx1, ↓sx2, ↓sx3, ↓sx4, ↓sx5, ↓sx6, sx0, sx1, sx2, sx3, sx4, sx5, sx6, tf13, ev3_hold, sxo, sxc, sxp, sxq, sxr, sxs, sxl, sxm, simprocAttr, e8]
        refine ⟨k + 1, _, rfl, HImp.refl _ _, ⟨by omega, ?_⟩, by omega⟩
        rw [List.take_of_length_le (Nat.le_refl _), mvK, if_neg hn1]
end Go.Proofs.YtogicfoigeongaaGreatDoor

