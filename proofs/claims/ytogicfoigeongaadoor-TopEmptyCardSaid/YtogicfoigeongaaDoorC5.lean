/- Parts of a proof: the symbolic walk and what it shows of single functions. -/
import Derived.Test.YtogicfoigeongaaDoorC4
import Derived.Test.YtogicfoigeongaaDoorX3
import Derived.LaidMore
import Derived.OpenShut
import Derived.Lay
import Derived.SevenTiedAt
import Derived.Stop.Joined
import Derived.Test.YtogicfoigeongaaDoorCards
import Derived.Test.YtogicfoigeongaaDoorTie
set_option linter.all false
namespace Go.Proofs.YtogicfoigeongaaDoor
open Go.RowKit Go.SX Go.ChangeShapes Go.WideShapes Go.ChangeAt
set_option maxRecDepth 100000
theorem own0 : ownKnob Tryd.prog.godebug = none := by kernel_rfl
theorem laidOut0 : laidOutB Tryd.prog = true := by kernel_rfl
theorem way_of {w : World} {fuel : Nat} {cs : List Value} {a b c : Int} {p : List MemPlace} {enc : TypeId × Value → Unit} {sp : Nat → Bool} {held : Bool} (h : DataW.trod enc Tryd.prog w 0 sp held fuel 140 cs = some (.agg [.lit (.int .i64 a), .lit (.int .i64 b), .lit (.int .i64 c)], p)) : cs = [I a, I b, I c] := by
  obtain ⟨xs, m, _, ex, hl, hxl, hx⟩ := DataW.trod_struct Tryd.underlying140 h
  have c3 : Tryd.prog.cellsOf 3 = 1 := by kernel_rfl
  have c9 : Tryd.prog.cellsOf 140 = 3 := by kernel_rfl
  rw [c9] at hl
  have key : ∀ (i : Nat) (f : Field) (y : DataW Unit × List MemPlace) (z : Int), xs[i]? = some y → y.1 = .lit (.int .i64 z) → f.type = 3 → f.offset = i → DataW.trod enc Tryd.prog w 0 sp held m f.type ((cs.drop f.offset).take (Tryd.prog.cellsOf f.type)) = xs[i]? → cs[i]? = some (I z) := by
    intro i f y z hy hz ht ho hE
    rw [ht, ho, c3, hy] at hE
    obtain ⟨k, e1, e2, _⟩ := DataW.trod_int Tryd.underlying3 hE
    rw [e2] at hz
    simp only [DataW.lit.injEq, Lit.int.injEq, true_and] at hz
    subst hz
    have h0 : ((cs.drop i).take 1)[0]? = some (Value.int .i64 k) := by rw [e1]; rfl
    simpa using h0
  have e3 : xs.map (·.1) = [.lit (.int .i64 a), .lit (.int .i64 b), .lit (.int .i64 c)] := (DataW.agg.inj (Prod.mk.inj ex).1).symm
  match xs, hxl, e3 with
  | [x0, x1, x2], _, e3 =>
    simp only [List.map_cons, List.map_nil, List.cons.injEq, and_true] at e3
    have k0 := key 0 _ x0 a rfl e3.1 rfl rfl (hx 0 _ rfl)
    have k1 := key 1 _ x1 b rfl e3.2.1 rfl rfl (hx 1 _ rfl)
    have k2 := key 2 _ x2 c rfl e3.2.2 rfl rfl (hx 2 _ rfl)
    match cs, hl with
    | [y0, y1, y2], _ =>
      simp at k0 k1 k2
      rw [k0, k1, k2]
abbrev laid1 : List (String × DataW Unit) := [("coble/chart.ways", Rows.laid_coble_chart_ways)]
theorem ways_of_laid {W : World} (h : laidMetH Tryd.prog laid1 W) : Ways W := by
  rw [MakeChecks.laidMetH_plain _ _ _ (by kernel_rfl)] at h
  obtain ⟨ps, ⟨g, t, cs, fuel, p, q, hg, ht, hv, hd, _, _⟩, _, _⟩ := h
  obtain rfl := Option.some.inj ((show Tryd.prog.globalNamed "coble/chart.ways" = some 0 by kernel_rfl).symm.trans hg)
  obtain rfl := Option.some.inj ((show (Tryd.prog.globals[0]?).map (·.type) = some 141 by kernel_rfl).symm.trans ht)
  obtain ⟨xs, m, _, ex, hcl, hl, hel⟩ := DataW.trod_array Tryd.underlying141 hd
  have c9 : Tryd.prog.cellsOf 140 = 3 := by kernel_rfl
  have c18 : Tryd.prog.cellsOf 141 = 18 := by kernel_rfl
  rw [c18] at hcl
  rw [c9] at hel
  have e3 : xs.map (·.1) = ways6.map fun u => (.agg [.lit (.int .i64 u.1), .lit (.int .i64 u.2.1), .lit (.int .i64 u.2.2)] : DataW Unit) := (DataW.agg.inj (Prod.mk.inj ex).1).symm
  have rows : ∀ i, i < 6 → ∃ u, ways6[i]? = some u ∧ (cs.toList.drop (i * 3)).take 3 = wyc u := by
    intro i hi
    have e4 : (xs.map (·.1))[i]? = (ways6.map fun u => (.agg [.lit (.int .i64 u.1), .lit (.int .i64 u.2.1), .lit (.int .i64 u.2.2)] : DataW Unit))[i]? := by rw [e3]
    have h6 : ways6.length = 6 := rfl
    rw [List.getElem?_map, List.getElem?_map, List.getElem?_eq_getElem (by omega : i < xs.length), List.getElem?_eq_getElem (by omega : i < ways6.length)] at e4
    simp only [Option.map_some, Option.some.injEq] at e4
    have hE := hel i hi
    rw [List.getElem?_eq_getElem (by omega : i < xs.length), show xs[i] = (xs[i].1, xs[i].2) from rfl, e4] at hE
    exact ⟨ways6[i], List.getElem?_eq_getElem _, way_of hE⟩
  intro i v hi
  have hi18 : i < 18 := by
    have := (List.getElem?_eq_some_iff.1 hi).1
    rw [cat_len wyc_len] at this
    exact this
  obtain ⟨u, hu, hr⟩ := rows (i / 3) (by omega)
  have e5 : (cat wyc ways6)[i]? = (wyc u)[i % 3]? := by
    have := cat_get wyc_len hu (show i % 3 < 3 by omega)
    rwa [show i / 3 * 3 + i % 3 = i by omega] at this
  have e6 : cs.toList[i]? = (wyc u)[i % 3]? := by
    rw [← hr, List.getElem?_take, if_pos (by omega), List.getElem?_drop, show i / 3 * 3 + i % 3 = i by omega]
  rw [World.var?_cell hg hv i, show cs[i]? = cs.toList[i]? by simp, e6, ← e5, hi]
theorem agg_of {w : World} {base : Nat} {t : TypeId} {v : Value} {fs : Array Field} (hu : Tryd.prog.underlying t = some (.struct fs)) (h : Value.okWide Tryd.prog w .any base t v) : ∃ cs, v = .agg cs := by
  unfold Value.okWide at h
  rw [hu] at h
  obtain ⟨cs, h, _⟩ := h
  exact ⟨cs, h⟩
theorem leaves2 {P : Program} {w : World} {vs : List Value} (h : Lvs P w [.int .i64, .int .i64] vs) : ∃ a b, vs = [I a, I b] := by
  cases h with | int _ h => cases h with | int _ h => cases h with | nil => exact ⟨_, _, rfl⟩
theorem leaves1 {P : Program} {w : World} {vs : List Value} (h : Lvs P w [.int .i64] vs) : ∃ a, vs = [I a] := by
  cases h with | int _ h => cases h with | nil => exact ⟨_, rfl⟩
theorem flat_int : flat Tryd.prog 4 3 = some [.int .i64] := by kernel_rfl
theorem flat_span : flat Tryd.prog 4 94 = some [.int .i64, .int .i64] := by kernel_rfl
theorem flat_chart : flat Tryd.prog 4 25 = some [.int .i64, .int .i64, .slice 3, .slice 94, .slice 3] := by kernel_rfl
theorem cells_int : Tryd.prog.cellsOf 3 = 1 := by kernel_rfl
theorem cells_span : Tryd.prog.cellsOf 94 = 2 := by kernel_rfl
theorem sl_ints {w : World} {a : Option Addr} {len cap : Nat} {xss : List (List Value)} (hs : Sl w (.slice a len cap) (Tryd.prog.cellsOf 3) xss.flatten) (hx : ∀ xs ∈ xss, ∀ m es, flat Tryd.prog m 3 = some es → Lvs Tryd.prog w es xs) : ∃ l : List Int, Sl w (.slice a len cap) 1 (ints l) ∧ l.length = xss.length := by
  obtain ⟨us, hu, hl⟩ := cat_of (f := i1) (xss := xss) fun xs hxs => by
    obtain ⟨a, hl⟩ := leaves1 (hx xs hxs 4 _ flat_int)
    exact ⟨a, hl⟩
  rw [cells_int, hu] at hs
  exact ⟨us, hs, hl⟩
theorem sl_spans {w : World} {a : Option Addr} {len cap : Nat} {xss : List (List Value)} (hs : Sl w (.slice a len cap) (Tryd.prog.cellsOf 94) xss.flatten) (hx : ∀ xs ∈ xss, ∀ m es, flat Tryd.prog m 94 = some es → Lvs Tryd.prog w es xs) : ∃ l : List (Int × Int), Sl w (.slice a len cap) 2 (cat spc l) ∧ l.length = xss.length := by
  obtain ⟨us, hu, hl⟩ := cat_of (f := spc) (xss := xss) fun xs hxs => by
    obtain ⟨a, b, hl⟩ := leaves2 (hx xs hxs 4 _ flat_span)
    exact ⟨(a, b), hl⟩
  rw [cells_span, hu] at hs
  exact ⟨us, hs, hl⟩
theorem chart_of {H : Type} {enc : TypeId × Value → H} {w : World} {base : Nat} {v : Value} {d : DataW H} {ps : List MemPlace} (h : Value.okWide Tryd.prog w .any base 25 v) (hd : DataW.Trod enc Tryd.prog w 0 (fun _ => true) true 25 v d ps) : ∃ c, ChOk w v c := by
  obtain ⟨cs, rfl⟩ := agg_of Tryd.underlying25 h
  have hl := lvs_of_Trod hd 4 flat_chart
  rw [show (Value.agg cs).cells.toList = cs.toList from rfl] at hl
  generalize hcs : cs.toList = l at hl
  cases hl with | int _ hl => cases hl with | int _ hl => cases hl with | slice x1 _ _ _ s1 _ e1 hl => cases hl with | slice x2 _ _ _ s2 _ e2 hl => cases hl with | slice x3 _ _ _ s3 _ e3 hl =>
    cases hl
    obtain ⟨l1, h1, _⟩ := sl_ints s1 e1
    obtain ⟨l2, h2, _⟩ := sl_spans s2 e2
    obtain ⟨l3, h3, _⟩ := sl_ints s3 e3
    exact ⟨⟨_, _, l1, l2, l3⟩, _, _, _, by rw [show cs = cs.toList.toArray by simp, hcs], h1, h2, h3⟩
theorem law_calls {f : Nat} {fn : Func} {s : ChangeSpec} {H : Type} {enc : TypeId × Value → H} {W : World} {args : Array Value} {ds gs : List (DataW H)} {before : List MemPlace} {b : TypeId}
    (hts : fn.params.toList.all (fun t => Tryd.prog.readableRec t && decide (t < Tryd.prog.types.size)) = true) (hr : fn.resultTypes = #[b]) (hb : Tryd.prog.underlying b = some .bool) (hv : s.vars = [])
    (hW : DataW.Whole enc Tryd.prog fn.params.toList s.vars false W args.toList ds gs before) (h1 : (s.fn H (ds ++ gs)).results = [.lit (.bool true)]) (h2 : (s.fn H (ds ++ gs)).args = ds) (h3 : (s.fn H (ds ++ gs)).vars = [])
    (h : SX.Fn Tryd.prog f args.toList W (fun _ => False) fun r _ => r = .bool true) : Calls Tryd.prog f args W fun e W' => ∃ v, e = .returned v ∧ s.post enc Tryd.prog fn false true false false W args v W' := by
  unfold SX.Fn at h
  rw [Array.toArray_toList] at h
  refine Calls.mono h fun e W' hh => ?_
  obtain ⟨v, N, he, hk, _, _, _, rfl⟩ := hh
  exact ⟨_, he, law_post laidOut0 hts hr hb hv hW h1 h2 h3 hk⟩
end Go.Proofs.YtogicfoigeongaaDoor

namespace Go.Proofs.YtogicfoigeongaaDoor
open Go.RowKit Go.SX
set_option maxRecDepth 4000
set_option maxHeartbeats 8000000
set_option linter.unusedSimpArgs false
set_option linter.unusedVariables false
noncomputable def floatsV (c : Cht) (g k t : Int) : Value := if openE c [k] [t] [g] = 0 then .tuple #[.bool (decide (c.over k.toNat t.toNat (c.tlo t.toNat) ≥ g)), .bool (decide (c.over k.toNat t.toNat (c.thi t.toNat) ≥ g)), I 0] else .tuple #[.bool false, .bool false, I (openE c [k] [t] [g])]
theorem floats1_fn (w : World) (v : Value) (c : Cht) (hc : ChOk w v c) (hsm : c.small) (g k t : Int) :
    SX.Fn Tryd.prog 107 [v, I g, I k, I t] w (fun _ => False) fun r N => r = floatsV c g k t := by
  have hc0 := hc
  have hD := detM_ok (X := fun _ => False) hc (fun _ _ => id)
  obtain ⟨sD, sT, sS, rfl, hsD, hsT, hsS⟩ := hc
  obtain ⟨aD, nD, cD, rfl⟩ := hsD.shape
  obtain ⟨aT, nT, cT, rfl⟩ := hsT.shape
  obtain ⟨aS, nS, cS, rfl⟩ := hsS.shape
  have dn : (∀ xs, detM (.agg #[I c.wide, I c.high, .slice aD nD cD, .slice aT nT cT, .slice aS nS cS]) c 63 xs = none) := fun _ => rfl
  unfold floatsV
  refine walk [] [] hD Tryd.func107 rfl Tryd.ntmps107 res107 (by kernel_rfl) no_facts ?_
  simp (config := { maxSteps := 4000000 }) only [↓sx0, ↓sx1, ↓sx2, ↓sx3, ↓sx4, ↓sx5, ↓sx6, sx0, sx1, sx2, sx3, sx4, sx5, sx6, tf107, ev3_hold, sxo, sxc, sxp, sxq, sxr, sxs, sxl, sxm, simprocAttr, dn]
  intro b1 b2 b3
  refine CallOb.pureH (fun w' hp => open_fn w' _ _ _ _ c [k] [t] [g] (hc0.hp hp) hsm (row_hp (E := 3) (xs := ints [k]) (by simp [cat, i1]) hp) (row_hp (E := 3) (xs := ints [t]) (by simp [cat, i1]) hp) (row_hp (E := 3) (xs := ints [g]) (by simp [cat, i1]) hp) (by simp)) ?_
  rintro r N rfl
  by_cases he : openE c [k] [t] [g] = 0
  · obtain ⟨hok, hcl, htl, _⟩ := openE_zero he
    have hk := hcl k (by simp)
    have ht := htl t (by simp)
    obtain ⟨K, hK⟩ : ∃ K : Nat, k = K := ⟨k.toNat, by omega⟩
    obtain ⟨T, hT⟩ : ∃ T : Nat, t = T := ⟨t.toNat, by omega⟩
    subst hK hT
    have hm := detM_water (v := (.agg #[I c.wide, I c.high, .slice aD nD cD, .slice aT nT cT, .slice aS nS cS])) hok hk.2 ht.2
    simp only [Int.toNat_natCast, vS, spc] at hm ⊢
    rw [he]
    refine ⟨?_⟩
    simp (config := { maxSteps := 4000000 }) only [↓sx0, ↓sx1, ↓sx2, ↓sx3, ↓sx4, ↓sx5, ↓sx6, sx0, sx1, sx2, sx3, sx4, sx5, sx6, tf107, ev3_hold, sxo, sxc, sxp, sxq, sxr, sxs, sxl, sxm, simprocAttr, hm]
  · have e1 : (openE c [k] [t] [g] = 0) = False := eq_false he
    refine ⟨?_⟩
    simp (config := { maxSteps := 4000000 }) only [↓sx0, ↓sx1, ↓sx2, ↓sx3, ↓sx4, ↓sx5, ↓sx6, sx0, sx1, sx2, sx3, sx4, sx5, sx6, tf107, ev3_hold, sxo, sxc, sxp, sxq, sxr, sxs, sxl, sxm, simprocAttr, e1]
end Go.Proofs.YtogicfoigeongaaDoor

namespace Go.Proofs.YtogicfoigeongaaDoor
open Go.RowKit Go.SX
set_option maxRecDepth 4000
set_option maxHeartbeats 8000000
set_option linter.unusedSimpArgs false
set_option linter.unusedVariables false
def arrL (c : Cht) (g : Int) (k t : Nat) : Nat → List Int
  | 0 => List.replicate c.depth.length (-1)
  | i + 1 => markK (arrL c g k t i) (setN c g k t i) ((t + i : Nat) : Int) (arrL c g k t i).length
theorem arrL_len (c : Cht) (g : Int) (k t : Nat) : ∀ i, (arrL c g k t i).length = c.depth.length
  | 0 => by simp [arrL]
  | i + 1 => by rw [arrL, markK_len, arrL_len c g k t i]
theorem arrL_get (c : Cht) (g : Int) (k t x : Nat) (hx : x < c.depth.length) : ∀ m, (∃ i, i < m ∧ (setN c g k t i).getD x false = true ∧ (∀ j, j < i → (setN c g k t j).getD x false = false) ∧ (arrL c g k t m).getD x 0 = ((t + i : Nat) : Int)) ∨ ((∀ i, i < m → (setN c g k t i).getD x false = false) ∧ (arrL c g k t m).getD x 0 = -1)
  | 0 => .inr ⟨by simp, by simp [arrL, List.getD_eq_getElem?_getD, List.getElem?_replicate, hx]⟩
  | m + 1 => by
    have hl := arrL_len c g k t m
    have hg := markK_get (arrL c g k t m) (setN c g k t m) ((t + m : Nat) : Int) x (by omega) (arrL c g k t m).length
    rw [arrL]
    rcases arrL_get c g k t x hx m with ⟨i, hi, h1, h2, h3⟩ | ⟨h1, h2⟩
    · refine .inl ⟨i, by omega, h1, h2, ?_⟩
      rw [hg, if_neg, h3]
      rintro ⟨_, _, h⟩
      omega
    · cases hS : (setN c g k t m).getD x false with
      | true =>
        refine .inl ⟨m, by omega, hS, h1, ?_⟩
        rw [hg, if_pos ⟨by omega, hS, h2⟩]
      | false =>
        refine .inr ⟨fun i hi => ?_, ?_⟩
        · by_cases h : i < m
          · exact h1 i h
          · rw [show i = m by omega]
            exact hS
        · rw [hg, if_neg, h2]
          rw [hS]
          try simp
theorem arrive_fn (w : World) (hw : Ways w) (v : Value) (c : Cht) (hc : ChOk w v c) (hsm : c.small) (g a t : Int) :
    SX.Fn Tryd.prog 16 [v, I g, I a, I t] w (fun _ => False) fun r N => (openE c [a] [t] [g] ≠ 0 ∧ r = .tuple #[.slice none 0 0, I (openE c [a] [t] [g])]) ∨
      (openE c [a] [t] [g] = 0 ∧ ∃ x, r = .tuple #[.slice (some ⟨x, 0, none⟩) c.depth.length c.depth.length, I 0] ∧ HO.row (.slice (some ⟨x, 0, none⟩) c.depth.length c.depth.length) 3 1 (ints (arrL c g a.toNat t.toNat (c.tide.length - t.toNat))) ∈ N) := by
  have hc0 := hc
  obtain ⟨sD, sT, sS, rfl, hsD, hsT, hsS⟩ := hc
  obtain ⟨aD, nD, cD, rfl⟩ := hsD.shape
  obtain ⟨aT, nT, cT, rfl⟩ := hsT.shape
  obtain ⟨aS, nS, cS, rfl⟩ := hsS.shape
  refine walk [] [] (det0_ok _ _) Tryd.func16 rfl Tryd.ntmps16 res16 (by kernel_rfl) no_facts ?_
  simp (config := { maxSteps := 4000000 }) only [↓sx0, ↓sx1, ↓sx2, ↓sx3, ↓sx4, ↓sx5, ↓sx6, sx0, sx1, sx2, sx3, sx4, sx5, sx6, tf16, ev3_hold, sxo, sxc, sxp, sxq, sxr, sxs, sxl, sxm, simprocAttr, det0]
  intro b1 b2
  refine CallOb.pureH (fun w' hp => sail_fn w' _ _ _ _ _ c g [a] [t] (hc0.hp hp) hsm (row_hp (E := 3) (xs := ints [a]) (by simp [cat, i1]) hp) (row_hp (E := 3) (xs := ints [t]) (by simp [cat, i1]) hp) (by simp)) ?_
  rintro r N rfl
  by_cases he : openE c [a] [t] [g] = 0
  case neg =>
    have e1 : (openE c [a] [t] [g] = 0) = False := eq_false he
    refine ⟨?_⟩
    simp (config := { maxSteps := 4000000 }) only [↓sx0, ↓sx1, ↓sx2, ↓sx3, ↓sx4, ↓sx5, ↓sx6, sx0, sx1, sx2, sx3, sx4, sx5, sx6, tf16, ev3_hold, sxo, sxc, sxp, sxq, sxr, sxs, sxl, sxm, simprocAttr, e1]
    exact .inl trivial
  have hz := openE_zero he
  obtain ⟨hok, hcl, htl, hgl⟩ := hz
  have ha := hcl a (by simp)
  have ht := htl t (by simp)
  have hdm := hok.dims
  obtain ⟨eW, eH, hW, hH, hlen⟩ := hdm
  have h60 := hok.2.2.2.1.2
  have hn144 : c.depth.length < 200 := by
    have := Nat.mul_le_mul hW.2 hH.2
    omega
  have hA' : ∃ A : Nat, a = A := ⟨a.toNat, by omega⟩
  have hT' : ∃ T : Nat, t = T := ⟨t.toNat, by omega⟩
  obtain ⟨A, hA⟩ := hA'
  obtain ⟨T, hT⟩ := hT'
  subst hA hT
  simp only [Int.toNat_natCast] at ha ht
  rw [he]
  refine ⟨?_⟩
  simp (config := { maxSteps := 4000000 }) only [↓sx0, ↓sx1, ↓sx2, ↓sx3, ↓sx4, ↓sx5, ↓sx6, sx0, sx1, sx2, sx3, sx4, sx5, sx6, tf16, ev3_hold, sxo, sxc, sxp, sxq, sxr, sxs, sxl, sxm, simprocAttr, det0]
  refine CallOb.pureH (fun w' hp => row_fn w' _ _ _ _ _ (-1) c.depth (hsD.hp (fun _ _ => id) hp) hn144 (by omega)) ?_
  rintro r0 N1 ⟨x, rfl, hN1⟩
  refine ⟨?_⟩
  simp (config := { maxSteps := 4000000 }) only [↓sx0, ↓sx1, ↓sx2, ↓sx3, ↓sx4, ↓sx5, ↓sx6, sx0, sx1, sx2, sx3, sx4, sx5, sx6, tf16, ev3_hold, sxo, sxc, sxp, sxq, sxr, sxs, sxl, sxm, simprocAttr, det0]
  refine CallOb.pureH (fun w' hp => forth_fn w' _ _ _ _ _ _ _ _) ?_
  rintro r1 N2 ⟨bb, bf, bt, rfl, rfl⟩
  refine ⟨?_⟩
  simp (config := { maxSteps := 4000000 }) only [↓sx0, ↓sx1, ↓sx2, ↓sx3, ↓sx4, ↓sx5, ↓sx6, sx0, sx1, sx2, sx3, sx4, sx5, sx6, tf16, ev3_hold, sxo, sxc, sxp, sxq, sxr, sxs, sxl, sxm, simprocAttr]
  have hrO : ∀ i, HO.row (.slice (some ⟨x, 0, none⟩) c.depth.length c.depth.length) 3 1 (ints (arrL c g A T i)) = HO.row (.slice (some ⟨x, 0, none⟩) (arrL c g A T i).length c.depth.length) 3 1 (ints (arrL c g A T i)) := fun i => by rw [arrL_len]
  refine range_introA Tryd.call64 (c.tide.length - T) (forthArg c g A T) [.cells bt 3 [I T], .cells bf 3 [I A], .cells bb 83 [I c.wide, I c.high, .slice aD nD cD, .slice aT nT cT, .slice aS nS cS, I g]] [HO.row (.slice (some ⟨x, 0, none⟩) c.depth.length c.depth.length) 3 1 (ints (arrL c g A T 0))]
    (fun k L' H' => L' = [(25, [I c.wide, I c.high, .slice aD nD cD, .slice aT nT cT, .slice aS nS cS]), (83, [I c.wide, I c.high, .slice aD nD cD, .slice aT nT cT, .slice aS nS cS, I g]), (22, [.slice (some ⟨x, 0, none⟩) c.depth.length c.depth.length])] ∧
      H' = [HO.row (.slice (some ⟨x, 0, none⟩) c.depth.length c.depth.length) 3 1 (ints (arrL c g A T k))]) (fun b => b = bt) (forthR w bb bf (.slice aD nD cD) (.slice aT nT cT) (.slice aS nS cS))
    (HImp.sub (List.Sublist.append (List.Sublist.refl _) ((List.singleton_sublist.2 hN1).trans (List.sublist_append_left _ _)))) (fun b hb => ⟨_, List.mem_cons_self, hb⟩) (fun b hb => forth_Rs w hw bb bf bt _ _ _ _ _ _ b hb) (fun w' hp => forth_hit w hw bb bf bt _ _ _ c hc0 hok g A T ha.2 ht.2 hn144 _ w' hp) ⟨rfl, rfl⟩ ?_ ?_ ?_
  · rintro k vs F ⟨y, rfl, _⟩
    try rfl
  · rintro k vs F L' H' hk ⟨y, rfl, rfl⟩ - ⟨rfl, rfl⟩
    simp (config := { maxSteps := 4000000 }) only [↓sx0, ↓sx1, ↓sx2, ↓sx3, ↓sx4, ↓sx5, ↓sx6, sx0, sx1, sx2, sx3, sx4, sx5, sx6, tf16, ev3_hold, sxo, sxc, sxp, sxq, sxr, sxs, sxl, sxm, simprocAttr, det0]
    refine CallOb.mut (A := [HO.row (.slice (some ⟨x, 0, none⟩) c.depth.length c.depth.length) 3 1 (ints (arrL c g A T k))]) (B := [HO.ro (HO.row (.slice (some ⟨y, 0, none⟩) c.depth.length c.depth.length) 4 1 (bools (setN c g A T k)))]) (HImp.swap _ _ _ _) (fun b ⟨h, hh, hb⟩ => ⟨h, hh, by rw [List.mem_singleton] at hh; subst hh; exact hb⟩) (fun w' hp => ?_) ?_ (Post := fun r N => r = .tuple #[] ∧ N = [HO.row (.slice (some ⟨x, 0, none⟩) c.depth.length c.depth.length) 3 1 (ints (arrL c g A T (k + 1)))])
    · have hnd := (List.pairwise_cons.1 hp.nd).1 _ List.mem_cons_self
      have := mark_fn w' ⟨x, 0, none⟩ c.depth.length (arrL c g A T k) (.slice (some ⟨y, 0, none⟩) c.depth.length c.depth.length) (setN c g A T k) ((T + k : Nat) : Int) (by rw [← hrO]; exact hp.ok _ List.mem_cons_self) (ro_hp (List.mem_cons_of_mem _ List.mem_cons_self) hp) (fun e => by
        have e2 : y = x := by simpa [Value.ownBlock] using e
        subst e2
        exact (hnd y rfl rfl).1 rfl) (by rw [setN_len, arrL_len]) (by rw [arrL_len]; omega)
      rw [← hrO, arrL_len] at this
      refine this.mono fun r N h => ⟨h.1, ?_⟩
      rw [h.2, arrL, arrL_len]
    · rintro r3 N3 ⟨rfl, rfl⟩
      simp (config := { maxSteps := 4000000 }) only [↓sx0, ↓sx1, ↓sx2, ↓sx3, ↓sx4, ↓sx5, ↓sx6, sx0, sx1, sx2, sx3, sx4, sx5, sx6, tf16, ev3_hold, sxo, sxc, sxp, sxq, sxr, sxs, sxl, sxm, simprocAttr]
      exact ⟨_, HImp.sub (.cons_cons _ (List.nil_sublist _)), rfl⟩
  · rintro L' H' - ⟨rfl, rfl⟩
    simp (config := { maxSteps := 4000000 }) only [↓sx0, ↓sx1, ↓sx2, ↓sx3, ↓sx4, ↓sx5, ↓sx6, sx0, sx1, sx2, sx3, sx4, sx5, sx6, tf16, ev3_hold, sxo, sxc, sxp, sxq, sxr, sxs, sxl, sxm, simprocAttr]
    exact .inr ⟨x, rfl, List.mem_cons_self⟩
end Go.Proofs.YtogicfoigeongaaDoor

namespace Go.Proofs.YtogicfoigeongaaDoor
open Go.RowKit Go.SX
set_option maxRecDepth 4000
set_option maxHeartbeats 8000000
set_option linter.unusedSimpArgs false
set_option linter.unusedVariables false
def dpN (c : Cht) (g : Int) (k t : Nat) : Nat → List Bool
  | 0 => (List.replicate c.depth.length false).set k (decide (c.over k t (c.tlo t) ≥ g))
  | i + 1 => sprK c g (t - (i + 1)) (dpN c g k t i) (dpN c g k t i).length
theorem dpN_len (c : Cht) (g : Int) (k t : Nat) : ∀ i, (dpN c g k t i).length = c.depth.length
  | 0 => by simp [dpN]
  | i + 1 => by rw [dpN, sprK_len, dpN_len c g k t i]
def depL (c : Cht) (g : Int) (k t : Nat) : Nat → List Int
  | 0 => List.replicate c.depth.length (-1)
  | i + 1 => markK (depL c g k t i) (dpN c g k t i) ((t - i : Nat) : Int) (depL c g k t i).length
theorem depL_len (c : Cht) (g : Int) (k t : Nat) : ∀ i, (depL c g k t i).length = c.depth.length
  | 0 => by simp [depL]
  | i + 1 => by rw [depL, markK_len, depL_len c g k t i]
theorem depL_get (c : Cht) (g : Int) (k t x : Nat) (hx : x < c.depth.length) : ∀ m, (∃ i, i < m ∧ (dpN c g k t i).getD x false = true ∧ (∀ j, j < i → (dpN c g k t j).getD x false = false) ∧ (depL c g k t m).getD x 0 = ((t - i : Nat) : Int)) ∨ ((∀ i, i < m → (dpN c g k t i).getD x false = false) ∧ (depL c g k t m).getD x 0 = -1)
  | 0 => .inr ⟨by simp, by simp [depL, List.getD_eq_getElem?_getD, List.getElem?_replicate, hx]⟩
  | m + 1 => by
    have hl := depL_len c g k t m
    have hg := markK_get (depL c g k t m) (dpN c g k t m) ((t - m : Nat) : Int) x (by omega) (depL c g k t m).length
    rw [depL]
    rcases depL_get c g k t x hx m with ⟨i, hi, h1, h2, h3⟩ | ⟨h1, h2⟩
    · refine .inl ⟨i, by omega, h1, h2, ?_⟩
      rw [hg, if_neg, h3]
      rintro ⟨_, _, h⟩
      omega
    · cases hS : (dpN c g k t m).getD x false with
      | true =>
        refine .inl ⟨m, by omega, hS, h1, ?_⟩
        rw [hg, if_pos ⟨by omega, hS, h2⟩]
      | false =>
        refine .inr ⟨fun i hi => ?_, ?_⟩
        · by_cases h : i < m
          · exact h1 i h
          · rw [show i = m by omega]
            exact hS
        · rw [hg, if_neg, h2]
          rw [hS]
          try simp
theorem dpN_succ (c : Cht) (hok : c.ok) (g : Int) (k t i x : Nat) (hx : x < c.depth.length) : (dpN c g k t (i + 1)).getD x false = true ↔ c.flt g (t - (i + 1)) x = true ∧ ∃ y ∈ nbL c.W c.H x, (dpN c g k t i).getD y false = true := by
  obtain ⟨eW, eH, hW, hH, hlen⟩ := hok.dims
  have hl := dpN_len c g k t i
  rw [dpN, sprK_get c g _ x _ (by omega)]
  constructor
  · rintro ⟨h1, y, hy, h2, h3⟩
    exact ⟨h1, y, nb_symm (by omega) h3, h2⟩
  · rintro ⟨h1, y, hy, h2⟩
    have := nbL_lt (by omega) y hy
    exact ⟨h1, y, by omega, h2, nb_symm (by omega) hy⟩
theorem depart_fn (w : World) (hw : Ways w) (v : Value) (c : Cht) (hc : ChOk w v c) (hsm : c.small) (g a t : Int) :
    SX.Fn Tryd.prog 17 [v, I g, I a, I t] w (fun _ => False) fun r N => (openE c [a] [t] [g] ≠ 0 ∧ r = .tuple #[.slice none 0 0, I (openE c [a] [t] [g])]) ∨
      (openE c [a] [t] [g] = 0 ∧ ∃ x, r = .tuple #[.slice (some ⟨x, 0, none⟩) c.depth.length c.depth.length, I 0] ∧ HO.row (.slice (some ⟨x, 0, none⟩) c.depth.length c.depth.length) 3 1 (ints (depL c g a.toNat t.toNat (t.toNat + 1))) ∈ N) := by
  have hc0 := hc
  obtain ⟨sD, sT, sS, rfl, hsD, hsT, hsS⟩ := hc
  obtain ⟨aD, nD, cD, rfl⟩ := hsD.shape
  obtain ⟨aT, nT, cT, rfl⟩ := hsT.shape
  obtain ⟨aS, nS, cS, rfl⟩ := hsS.shape
  refine walk [] [] (det0_ok _ _) Tryd.func17 rfl Tryd.ntmps17 res17 (by kernel_rfl) no_facts ?_
  simp (config := { maxSteps := 4000000 }) only [↓sx0, ↓sx1, ↓sx2, ↓sx3, ↓sx4, ↓sx5, ↓sx6, sx0, sx1, sx2, sx3, sx4, sx5, sx6, tf17, ev3_hold, sxo, sxc, sxp, sxq, sxr, sxs, sxl, sxm, simprocAttr, det0]
  intro b1 b2
  refine CallOb.pureH (fun w' hp => sail_fn w' _ _ _ _ _ c g [a] [t] (hc0.hp hp) hsm (row_hp (E := 3) (xs := ints [a]) (by simp [cat, i1]) hp) (row_hp (E := 3) (xs := ints [t]) (by simp [cat, i1]) hp) (by simp)) ?_
  rintro r N rfl
  by_cases he : openE c [a] [t] [g] = 0
  case neg =>
    have e1 : (openE c [a] [t] [g] = 0) = False := eq_false he
    refine ⟨?_⟩
    simp (config := { maxSteps := 4000000 }) only [↓sx0, ↓sx1, ↓sx2, ↓sx3, ↓sx4, ↓sx5, ↓sx6, sx0, sx1, sx2, sx3, sx4, sx5, sx6, tf17, ev3_hold, sxo, sxc, sxp, sxq, sxr, sxs, sxl, sxm, simprocAttr, e1]
    exact .inl trivial
  have hz := openE_zero he
  obtain ⟨hok, hcl, htl, hgl⟩ := hz
  have ha := hcl a (by simp)
  have ht := htl t (by simp)
  have hdm := hok.dims
  obtain ⟨eW, eH, hW, hH, hlen⟩ := hdm
  have h60 := hok.2.2.2.1.2
  have hn144 : c.depth.length < 200 := by
    have := Nat.mul_le_mul hW.2 hH.2
    omega
  have hA' : ∃ A : Nat, a = A := ⟨a.toNat, by omega⟩
  have hT' : ∃ T : Nat, t = T := ⟨t.toNat, by omega⟩
  obtain ⟨A, hA⟩ := hA'
  obtain ⟨T, hT⟩ := hT'
  subst hA hT
  simp only [Int.toNat_natCast] at ha ht
  rw [he]
  refine ⟨?_⟩
  simp (config := { maxSteps := 4000000 }) only [↓sx0, ↓sx1, ↓sx2, ↓sx3, ↓sx4, ↓sx5, ↓sx6, sx0, sx1, sx2, sx3, sx4, sx5, sx6, tf17, ev3_hold, sxo, sxc, sxp, sxq, sxr, sxs, sxl, sxm, simprocAttr, det0]
  refine CallOb.pureH (fun w' hp => row_fn w' _ _ _ _ _ (-1) c.depth (hsD.hp (fun _ _ => id) hp) hn144 (by omega)) ?_
  rintro r0 N1 ⟨x, rfl, hN1⟩
  refine ⟨?_⟩
  simp (config := { maxSteps := 4000000 }) only [↓sx0, ↓sx1, ↓sx2, ↓sx3, ↓sx4, ↓sx5, ↓sx6, sx0, sx1, sx2, sx3, sx4, sx5, sx6, tf17, ev3_hold, sxo, sxc, sxp, sxq, sxr, sxs, sxl, sxm, simprocAttr, det0]
  refine CallOb.pureH (fun w' hp => begin_fn w' _ _ _ c (hc0.hp hp) hok g A T ha.2 ht.2 hn144) ?_
  rintro r1 N2 ⟨y, rfl, hN2⟩
  refine ⟨?_⟩
  have hrO : ∀ i, HO.row (.slice (some ⟨x, 0, none⟩) c.depth.length c.depth.length) 3 1 (ints (depL c g A T i)) = HO.row (.slice (some ⟨x, 0, none⟩) (depL c g A T i).length c.depth.length) 3 1 (ints (depL c g A T i)) := fun i => by rw [depL_len]
  refine loop_constH [HO.row (.slice (some ⟨x, 0, none⟩) c.depth.length c.depth.length) 3 1 (ints (depL c g A T 0)), HO.ro (HO.row (.slice (some ⟨y, 0, none⟩) c.depth.length c.depth.length) 4 1 (bools (dpN c g A T 0)))]
    (((HImp.sub (List.Sublist.append (List.singleton_sublist.2 hN2) ((List.singleton_sublist.2 hN1).trans (List.sublist_append_left _ _)))).trans (HImp.ro _ _ _)).trans (HImp.swap _ _ _ _)) [(8, 9), (13, 14), (36, 49)] (fun s : Nat × Nat => [(13, .slice (some ⟨s.2, 0, none⟩) c.depth.length c.depth.length), (14, I ((T - s.1 : Nat) : Int))])
    (fun s H1 => s.1 ≤ T ∧ H1 = [HO.row (.slice (some ⟨x, 0, none⟩) c.depth.length c.depth.length) 3 1 (ints (depL c g A T s.1)), HO.ro (HO.row (.slice (some ⟨s.2, 0, none⟩) c.depth.length c.depth.length) 4 1 (bools (dpN c g A T s.1)))]) (fun s => T - s.1) (0, y) ?_ ⟨Nat.zero_le _, rfl⟩ ?_
  · simp (config := { maxSteps := 4000000 }) only [↓sx0, ↓sx1, ↓sx2, ↓sx3, ↓sx4, ↓sx5, ↓sx6, sx0, sx1, sx2, sx3, sx4, sx5, sx6, tf17, ev3_hold, sxo, sxc, sxp, sxq, sxr, sxs, sxl, sxm, simprocAttr]
    try simp
  · rintro ⟨i, y1⟩ H1 g1 ⟨hi, rfl⟩
    simp only [] at hi
    refine ⟨?_⟩
    simp (config := { maxSteps := 4000000 }) only [↓sx0, ↓sx1, ↓sx2, ↓sx3, ↓sx4, ↓sx5, ↓sx6, sx0, sx1, sx2, sx3, sx4, sx5, sx6, tf17, ev3_hold, sxo, sxc, sxp, sxq, sxr, sxs, sxl, sxm, simprocAttr, det0]
    refine CallOb.mutH (A := [HO.row (.slice (some ⟨x, 0, none⟩) c.depth.length c.depth.length) 3 1 (ints (depL c g A T i))]) (B := [HO.ro (HO.row (.slice (some ⟨y1, 0, none⟩) c.depth.length c.depth.length) 4 1 (bools (dpN c g A T i)))]) (HImp.refl _ _) (fun b ⟨h, hh, hb⟩ => ⟨h, hh, by rw [List.mem_singleton] at hh; subst hh; exact hb⟩) (fun w' hp => ?_) ?_ (Post := fun r N => r = .tuple #[] ∧ N = [HO.row (.slice (some ⟨x, 0, none⟩) c.depth.length c.depth.length) 3 1 (ints (depL c g A T (i + 1)))])
    · have hnd := (List.pairwise_cons.1 hp.nd).1 _ List.mem_cons_self
      have := mark_fn w' ⟨x, 0, none⟩ c.depth.length (depL c g A T i) (.slice (some ⟨y1, 0, none⟩) c.depth.length c.depth.length) (dpN c g A T i) ((T - i : Nat) : Int) (by rw [← hrO]; exact hp.ok _ List.mem_cons_self) (ro_hp (List.mem_cons_of_mem _ List.mem_cons_self) hp) (fun e => by
        have e2 : y1 = x := by simpa [Value.ownBlock] using e
        subst e2
        exact (hnd y1 rfl rfl).1 rfl) (by rw [dpN_len, depL_len]) (by rw [depL_len]; omega)
      rw [← hrO, depL_len] at this
      refine this.mono fun r N h => ⟨h.1, ?_⟩
      rw [h.2, depL, depL_len]
    · rintro r3 N3 ⟨rfl, rfl⟩
      by_cases hiT : i = T
      · have e1 : (((T - i : Nat) : Int) = 0) = True := eq_true (by omega)
        refine ⟨?_⟩
        simp (config := { maxSteps := 4000000 }) only [↓sx0, ↓sx1, ↓sx2, ↓sx3, ↓sx4, ↓sx5, ↓sx6, sx0, sx1, sx2, sx3, sx4, sx5, sx6, tf17, ev3_hold, sxo, sxc, sxp, sxq, sxr, sxs, sxl, sxm, simprocAttr, e1]
        subst hiT
        exact .inr ⟨x, rfl, List.mem_cons_self⟩
      · have e1 : (((T - i : Nat) : Int) = 0) = False := eq_false (by omega)
        have e2 : IntKind.i64.wrap (((T - i : Nat) : Int) - 1) = ((T - (i + 1) : Nat) : Int) := (wrap_id (by omega)).trans (by omega)
        refine ⟨?_⟩
        simp (config := { maxSteps := 4000000 }) only [↓sx0, ↓sx1, ↓sx2, ↓sx3, ↓sx4, ↓sx5, ↓sx6, sx0, sx1, sx2, sx3, sx4, sx5, sx6, tf17, ev3_hold, sxo, sxc, sxp, sxq, sxr, sxs, sxl, sxm, simprocAttr, e1, e2, det0]
        rw [e2]
        refine CallOb.pureH (args := [.agg #[I c.wide, I c.high, .slice aD nD cD, .slice aT nT cT, .slice aS nS cS, I g], .slice (some ⟨y1, 0, none⟩) c.depth.length c.depth.length, I ((T - (i + 1) : Nat) : Int)]) (fun w' hp => spread_fn w' (hw.hp hp) (.slice aD nD cD) (.slice aT nT cT) (.slice aS nS cS) (.slice (some ⟨y1, 0, none⟩) c.depth.length c.depth.length) c (hc0.hp hp) hok g (dpN c g A T i) (ro_hp (List.mem_cons_of_mem _ List.mem_cons_self) hp) (dpN_len ..) (T - (i + 1)) (by omega) hn144) ?_
        rintro r4 N4 ⟨y2, rfl, hN4⟩
        have e5 : dpN c g A T (i + 1) = sprK c g (T - (i + 1)) (dpN c g A T i) (dpN c g A T i).length := by rw [dpN]
        rw [← e5] at hN4
        refine ⟨?_⟩
        refine ⟨(i + 1, y2), _, ⟨rfl, rfl⟩, rfl, (((HImp.sub ((List.singleton_sublist.2 hN4).append (.cons_cons _ (List.nil_sublist _)))).trans (HImp.ro _ _ _)).trans (HImp.swap _ _ _ _)), ⟨by omega, ?_⟩, by omega⟩
        try rfl
end Go.Proofs.YtogicfoigeongaaDoor

namespace Go.Proofs.YtogicfoigeongaaDoor
open Go.RowKit Go.SX
set_option linter.unusedSimpArgs false
set_option linter.unusedVariables false
def Lst (P : Int → Prop) (v : Int) : Prop := (v = -1 ∧ ∀ m, ¬ P m) ∨ (0 ≤ v ∧ P v ∧ ∀ m, P m → v ≤ m)
theorem Lst.congr {P Q : Int → Prop} {v : Int} (h : Lst P v) (e : ∀ m, P m ↔ Q m) : Lst Q v := by
  have : P = Q := funext fun m => propext (e m)
  exact this ▸ h
theorem Lst.pos {P : Int → Prop} {v : Int} (h : Lst P v) : 0 ≤ v ↔ ∃ m, P m := by
  rcases h with ⟨h1, h2⟩ | ⟨h1, h2, h3⟩
  · exact ⟨fun h => absurd h (by omega), fun ⟨m, h⟩ => absurd h (h2 m)⟩
  · exact ⟨fun _ => ⟨_, h2⟩, fun _ => h1⟩
end Go.Proofs.YtogicfoigeongaaDoor

namespace Go.Proofs.YtogicfoigeongaaDoor
open Go.RowKit Go.SX
set_option linter.unusedSimpArgs false
set_option linter.unusedVariables false
def Rr (c : Cht) (g : Int) (t a : Nat) : Nat → Nat → Prop
  | 0, b => b = a ∧ c.flt g t a = true
  | i + 1, b => c.flt g (t + i + 1) b = true ∧ ∃ y ∈ nbL c.W c.H b, Rr c g t a i y
theorem Rr_left {c : Cht} (hok : c.ok) {g : Int} {a : Nat} (ha : a < c.depth.length) : ∀ (i t b : Nat), b < c.depth.length → (Rr c g t a (i + 1) b ↔ c.flt g t a = true ∧ ∃ y ∈ nbL c.W c.H a, Rr c g (t + 1) y i b)
  | 0, t, b, hb => by
    obtain ⟨eW, eH, hW, hH, hlen⟩ := hok.dims
    constructor
    · rintro ⟨h1, y, h2, rfl, h3⟩
      exact ⟨h3, b, nb_symm (by omega) h2, rfl, h1⟩
    · rintro ⟨h3, y, h2, rfl, h1⟩
      exact ⟨h1, a, nb_symm (by omega) h2, rfl, h3⟩
  | i + 1, t, b, hb => by
    obtain ⟨eW, eH, hW, hH, hlen⟩ := hok.dims
    constructor
    · rintro ⟨h1, y, h2, h3⟩
      have hy := nbL_lt (by omega : b < c.W * c.H) y h2
      obtain ⟨h4, z, h5, h6⟩ := (Rr_left hok ha i t y (by omega)).1 h3
      exact ⟨h4, z, h5, (by rw [show t + 1 + i + 1 = t + (i + 1) + 1 by omega]; exact h1), y, h2, h6⟩
    · rintro ⟨h4, z, h5, h1, y, h2, h6⟩
      have hy := nbL_lt (by omega : b < c.W * c.H) y h2
      exact ⟨(by rw [show t + (i + 1) + 1 = t + 1 + i + 1 by omega]; exact h1), y, h2, (Rr_left hok ha i t y (by omega)).2 ⟨h4, z, h5, h6⟩⟩
theorem Rr_flt {c : Cht} {g : Int} {t a : Nat} : ∀ {i b : Nat}, Rr c g t a i b → c.flt g (t + i) b = true
  | 0, b, h => h.1 ▸ h.2
  | i + 1, b, h => h.1
theorem setN_Rr {c : Cht} (hok : c.ok) {g : Int} {k t : Nat} (hk : k < c.depth.length) : ∀ i x, x < c.depth.length → ((setN c g k t i).getD x false = true ↔ Rr c g t k i x)
  | 0, x, hx => by
    rw [setN, Rr]
    by_cases h : x = k
    · subst h
      rw [List.getD_eq_getElem?_getD, List.getElem?_set_self (by simpa using hx)]
      unfold Cht.flt
      try simp
    · rw [List.getD_eq_getElem?_getD, List.getElem?_set_ne (by omega)]
      simp [List.getElem?_replicate, hx, h]
  | i + 1, x, hx => by
    rw [setN_succ c hok g k t i x hx, Rr]
    obtain ⟨eW, eH, hW, hH, hlen⟩ := hok.dims
    refine and_congr_right fun _ => exists_congr fun y => and_congr_right fun hy => ?_
    exact setN_Rr hok hk i y (by have := nbL_lt (by omega : x < c.W * c.H) y hy; omega)
theorem dpN_Rr {c : Cht} (hok : c.ok) {g : Int} {k t : Nat} (hk : k < c.depth.length) : ∀ i x, i ≤ t → x < c.depth.length → ((dpN c g k t i).getD x false = true ↔ Rr c g (t - i) x i k)
  | 0, x, hi, hx => by
    rw [dpN, Rr]
    by_cases h : x = k
    · subst h
      rw [List.getD_eq_getElem?_getD, List.getElem?_set_self (by simpa using hx)]
      unfold Cht.flt
      try simp
    · rw [List.getD_eq_getElem?_getD, List.getElem?_set_ne (by omega)]
      simp [List.getElem?_replicate, hx, Ne.symm h]
  | i + 1, x, hi, hx => by
    rw [dpN_succ c hok g k t i x hx, Rr_left hok hx i _ k hk]
    obtain ⟨eW, eH, hW, hH, hlen⟩ := hok.dims
    refine and_congr_right fun _ => exists_congr fun y => and_congr_right fun hy => ?_
    rw [show t - (i + 1) + 1 = t - i by omega]
    exact dpN_Rr hok hk i y (by omega) (by have := nbL_lt (by omega : x < c.W * c.H) y hy; omega)
def isPass (c : Cht) (g : Int) (t : Nat) (p : List Nat) : Prop :=
  p ≠ [] ∧ t + p.length ≤ c.tide.length ∧ ∀ i, i < p.length → p.getD i 0 < c.depth.length ∧ c.flt g (t + i) (p.getD i 0) = true ∧ (0 < i → p.getD i 0 ∈ nbL c.W c.H (p.getD (i - 1) 0))
theorem isPass_Rr {c : Cht} (hok : c.ok) {g : Int} {t : Nat} {p : List Nat} (h : isPass c g t p) : ∀ i, i < p.length → Rr c g t (p.getD 0 0) i (p.getD i 0)
  | 0, hi => ⟨rfl, (h.2.2 0 hi).2.1⟩
  | i + 1, hi => by
    obtain ⟨eW, eH, hW, hH, hlen⟩ := hok.dims
    obtain ⟨h1, h2, h3⟩ := h.2.2 (i + 1) hi
    have h4 := (h.2.2 i (by omega)).1
    exact ⟨by rw [show t + i + 1 = t + (i + 1) by omega]; exact h2, p.getD i 0, nb_symm (by omega) (h3 (by omega)), isPass_Rr hok h i (by omega)⟩
end Go.Proofs.YtogicfoigeongaaDoor

