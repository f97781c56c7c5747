/- Parts of a proof: the symbolic walk and what it shows of single functions. -/
import Derived.Test.YtogicfoigeongaaDoorC4
import Derived.Test.YtogicfoigeongaaDoorX3
import Derived.LaidMore
import Derived.OpenShut
import Derived.Lay
import Derived.SevenTiedAt
import Derived.Stop.Joined
import Derived.Test.YtogicfoigeongaaDoorCards
import Derived.Test.YtogicfoigeongaaDoorTie
set_option linter.all false
namespace Go.Proofs.YtogicfoigeongaaDoor
open Go.RowKit Go.SX Go.ChangeShapes Go.WideShapes Go.ChangeAt
set_option maxRecDepth 100000
theorem own0 : ownKnob Tryd.prog.godebug = none := by kernel_rfl
theorem laidOut0 : laidOutB Tryd.prog = true := by kernel_rfl
theorem way_of {w : World} {fuel : Nat} {cs : List Value} {a b c : Int} {p : List MemPlace} {enc : TypeId × Value → Unit} {sp : Nat → Bool} {held : Bool} (h : DataW.trod enc Tryd.prog w 0 sp held fuel 140 cs = some (.agg [.lit (.int .i64 a), .lit (.int .i64 b), .lit (.int .i64 c)], p)) : cs = [I a, I b, I c] := by
  obtain ⟨xs, m, _, ex, hl, hxl, hx⟩ := DataW.trod_struct Tryd.underlying140 h
  have c3 : Tryd.prog.cellsOf 3 = 1 := by kernel_rfl
  have c9 : Tryd.prog.cellsOf 140 = 3 := by kernel_rfl
  rw [c9] at hl
  have key : ∀ (i : Nat) (f : Field) (y : DataW Unit × List MemPlace) (z : Int), xs[i]? = some y → y.1 = .lit (.int .i64 z) → f.type = 3 → f.offset = i → DataW.trod enc Tryd.prog w 0 sp held m f.type ((cs.drop f.offset).take (Tryd.prog.cellsOf f.type)) = xs[i]? → cs[i]? = some (I z) := by
    intro i f y z hy hz ht ho hE
    rw [ht, ho, c3, hy] at hE
    obtain ⟨k, e1, e2, _⟩ := DataW.trod_int Tryd.underlying3 hE
    rw [e2] at hz
    simp only [DataW.lit.injEq, Lit.int.injEq, true_and] at hz
    subst hz
    have h0 : ((cs.drop i).take 1)[0]? = some (Value.int .i64 k) := by rw [e1]; rfl
    simpa using h0
  have e3 : xs.map (·.1) = [.lit (.int .i64 a), .lit (.int .i64 b), .lit (.int .i64 c)] := (DataW.agg.inj (Prod.mk.inj ex).1).symm
  match xs, hxl, e3 with
  | [x0, x1, x2], _, e3 =>
    simp only [List.map_cons, List.map_nil, List.cons.injEq, and_true] at e3
    have k0 := key 0 _ x0 a rfl e3.1 rfl rfl (hx 0 _ rfl)
    have k1 := key 1 _ x1 b rfl e3.2.1 rfl rfl (hx 1 _ rfl)
    have k2 := key 2 _ x2 c rfl e3.2.2 rfl rfl (hx 2 _ rfl)
    match cs, hl with
    | [y0, y1, y2], _ =>
      simp at k0 k1 k2
      rw [k0, k1, k2]
abbrev laid1 : List (String × DataW Unit) := [("coble/chart.ways", Rows.laid_coble_chart_ways)]
theorem ways_of_laid {W : World} (h : laidMetH Tryd.prog laid1 W) : Ways W := by
  rw [MakeChecks.laidMetH_plain _ _ _ (by kernel_rfl)] at h
  obtain ⟨ps, ⟨g, t, cs, fuel, p, q, hg, ht, hv, hd, _, _⟩, _, _⟩ := h
  obtain rfl := Option.some.inj ((show Tryd.prog.globalNamed "coble/chart.ways" = some 0 by kernel_rfl).symm.trans hg)
  obtain rfl := Option.some.inj ((show (Tryd.prog.globals[0]?).map (·.type) = some 141 by kernel_rfl).symm.trans ht)
  obtain ⟨xs, m, _, ex, hcl, hl, hel⟩ := DataW.trod_array Tryd.underlying141 hd
  have c9 : Tryd.prog.cellsOf 140 = 3 := by kernel_rfl
  have c18 : Tryd.prog.cellsOf 141 = 18 := by kernel_rfl
  rw [c18] at hcl
  rw [c9] at hel
  have e3 : xs.map (·.1) = ways6.map fun u => (.agg [.lit (.int .i64 u.1), .lit (.int .i64 u.2.1), .lit (.int .i64 u.2.2)] : DataW Unit) := (DataW.agg.inj (Prod.mk.inj ex).1).symm
  have rows : ∀ i, i < 6 → ∃ u, ways6[i]? = some u ∧ (cs.toList.drop (i * 3)).take 3 = wyc u := by
    intro i hi
    have e4 : (xs.map (·.1))[i]? = (ways6.map fun u => (.agg [.lit (.int .i64 u.1), .lit (.int .i64 u.2.1), .lit (.int .i64 u.2.2)] : DataW Unit))[i]? := by rw [e3]
    have h6 : ways6.length = 6 := rfl
    rw [List.getElem?_map, List.getElem?_map, List.getElem?_eq_getElem (by omega : i < xs.length), List.getElem?_eq_getElem (by omega : i < ways6.length)] at e4
    simp only [Option.map_some, Option.some.injEq] at e4
    have hE := hel i hi
    rw [List.getElem?_eq_getElem (by omega : i < xs.length), show xs[i] = (xs[i].1, xs[i].2) from rfl, e4] at hE
    exact ⟨ways6[i], List.getElem?_eq_getElem _, way_of hE⟩
  intro i v hi
  have hi18 : i < 18 := by
    have := (List.getElem?_eq_some_iff.1 hi).1
    rw [cat_len wyc_len] at this
    exact this
  obtain ⟨u, hu, hr⟩ := rows (i / 3) (by omega)
  have e5 : (cat wyc ways6)[i]? = (wyc u)[i % 3]? := by
    have := cat_get wyc_len hu (show i % 3 < 3 by omega)
    rwa [show i / 3 * 3 + i % 3 = i by omega] at this
  have e6 : cs.toList[i]? = (wyc u)[i % 3]? := by
    rw [← hr, List.getElem?_take, if_pos (by omega), List.getElem?_drop, show i / 3 * 3 + i % 3 = i by omega]
  rw [World.var?_cell hg hv i, show cs[i]? = cs.toList[i]? by simp, e6, ← e5, hi]
theorem agg_of {w : World} {base : Nat} {t : TypeId} {v : Value} {fs : Array Field} (hu : Tryd.prog.underlying t = some (.struct fs)) (h : Value.okWide Tryd.prog w .any base t v) : ∃ cs, v = .agg cs := by
  unfold Value.okWide at h
  rw [hu] at h
  obtain ⟨cs, h, _⟩ := h
  exact ⟨cs, h⟩
theorem leaves3 {P : Program} {w : World} {vs : List Value} (h : Lvs P w [.int .i64, .int .i64, .int .i64] vs) : ∃ a b c, vs = [I a, I b, I c] := by
  cases h with | int _ h => cases h with | int _ h => cases h with | int _ h => cases h with | nil => exact ⟨_, _, _, rfl⟩
theorem leaves2 {P : Program} {w : World} {vs : List Value} (h : Lvs P w [.int .i64, .int .i64] vs) : ∃ a b, vs = [I a, I b] := by
  cases h with | int _ h => cases h with | int _ h => cases h with | nil => exact ⟨_, _, rfl⟩
theorem leaves1 {P : Program} {w : World} {vs : List Value} (h : Lvs P w [.int .i64] vs) : ∃ a, vs = [I a] := by
  cases h with | int _ h => cases h with | nil => exact ⟨_, rfl⟩
theorem flat_int : flat Tryd.prog 4 3 = some [.int .i64] := by kernel_rfl
theorem flat_span : flat Tryd.prog 4 94 = some [.int .i64, .int .i64] := by kernel_rfl
theorem flat_ints : flat Tryd.prog 4 22 = some [.slice 3] := by kernel_rfl
theorem cells_int : Tryd.prog.cellsOf 3 = 1 := by kernel_rfl
theorem cells_span : Tryd.prog.cellsOf 94 = 2 := by kernel_rfl
theorem sl_ints {w : World} {a : Option Addr} {len cap : Nat} {xss : List (List Value)} (hs : Sl w (.slice a len cap) (Tryd.prog.cellsOf 3) xss.flatten) (hx : ∀ xs ∈ xss, ∀ m es, flat Tryd.prog m 3 = some es → Lvs Tryd.prog w es xs) : ∃ l : List Int, Sl w (.slice a len cap) 1 (ints l) ∧ l.length = xss.length := by
  obtain ⟨us, hu, hl⟩ := cat_of (f := i1) (xss := xss) fun xs hxs => by
    obtain ⟨a, hl⟩ := leaves1 (hx xs hxs 4 _ flat_int)
    exact ⟨a, hl⟩
  rw [cells_int, hu] at hs
  exact ⟨us, hs, hl⟩
theorem sl_spans {w : World} {a : Option Addr} {len cap : Nat} {xss : List (List Value)} (hs : Sl w (.slice a len cap) (Tryd.prog.cellsOf 94) xss.flatten) (hx : ∀ xs ∈ xss, ∀ m es, flat Tryd.prog m 94 = some es → Lvs Tryd.prog w es xs) : ∃ l : List (Int × Int), Sl w (.slice a len cap) 2 (cat spc l) ∧ l.length = xss.length := by
  obtain ⟨us, hu, hl⟩ := cat_of (f := spc) (xss := xss) fun xs hxs => by
    obtain ⟨a, b, hl⟩ := leaves2 (hx xs hxs 4 _ flat_span)
    exact ⟨(a, b), hl⟩
  rw [cells_span, hu] at hs
  exact ⟨us, hs, hl⟩
theorem slice_of {w : World} {base : Nat} {t e : TypeId} {v : Value} (hu : Tryd.prog.underlying t = some (.slice e)) (h : Value.okWide Tryd.prog w .any base t v) : ∃ a n c, v = .slice a n c := okWide_slice hu h
theorem law_calls {f : Nat} {fn : Func} {s : ChangeSpec} {H : Type} {enc : TypeId × Value → H} {W : World} {args : Array Value} {ds gs : List (DataW H)} {before : List MemPlace} {b : TypeId}
    (hts : fn.params.toList.all (fun t => Tryd.prog.readableRec t && decide (t < Tryd.prog.types.size)) = true) (hr : fn.resultTypes = #[b]) (hb : Tryd.prog.underlying b = some .bool) (hv : s.vars = [])
    (hW : DataW.Whole enc Tryd.prog fn.params.toList s.vars false W args.toList ds gs before) (h1 : (s.fn H (ds ++ gs)).results = [.lit (.bool true)]) (h2 : (s.fn H (ds ++ gs)).args = ds) (h3 : (s.fn H (ds ++ gs)).vars = [])
    (h : SX.Fn Tryd.prog f args.toList W (fun _ => False) fun r _ => r = .bool true) : Calls Tryd.prog f args W fun e W' => ∃ v, e = .returned v ∧ s.post enc Tryd.prog fn false true false false W args v W' := by
  unfold SX.Fn at h
  rw [Array.toArray_toList] at h
  refine Calls.mono h fun e W' hh => ?_
  obtain ⟨v, N, he, hk, _, _, _, rfl⟩ := hh
  exact ⟨_, he, law_post laidOut0 hts hr hb hv hW h1 h2 h3 hk⟩
end Go.Proofs.YtogicfoigeongaaDoor

namespace Go.Proofs.YtogicfoigeongaaDoor
open Go.RowKit Go.SX
set_option maxRecDepth 4000
set_option maxHeartbeats 8000000
set_option linter.unusedSimpArgs false
set_option linter.unusedVariables false
noncomputable def floatsV (c : Cht) (g k t : Int) : Value := if openE c [k] [t] [g] = 0 then .tuple #[.bool (decide (c.over k.toNat t.toNat (c.tlo t.toNat) ≥ g)), .bool (decide (c.over k.toNat t.toNat (c.thi t.toNat) ≥ g)), I 0] else .tuple #[.bool false, .bool false, I (openE c [k] [t] [g])]
theorem floats1_fn (w : World) (v : Value) (c : Cht) (hc : ChOk w v c) (hsm : c.small) (g k t : Int) :
    SX.Fn Tryd.prog 107 [v, I g, I k, I t] w (fun _ => False) fun r N => r = floatsV c g k t := by
  have hc0 := hc
  have hD := detM_ok (X := fun _ => False) hc (fun _ _ => id)
  obtain ⟨sD, sT, sS, rfl, hsD, hsT, hsS⟩ := hc
  obtain ⟨aD, nD, cD, rfl⟩ := hsD.shape
  obtain ⟨aT, nT, cT, rfl⟩ := hsT.shape
  obtain ⟨aS, nS, cS, rfl⟩ := hsS.shape
  have dn : (∀ xs, detM (.agg #[I c.wide, I c.high, .slice aD nD cD, .slice aT nT cT, .slice aS nS cS]) c 63 xs = none) := fun _ => rfl
  unfold floatsV
  refine walk [] [] hD Tryd.func107 rfl Tryd.ntmps107 res107 (by kernel_rfl) no_facts ?_
  simp (config := { maxSteps := 4000000 }) only [↓sx0, ↓sx1, ↓sx2, ↓sx3, ↓sx4, ↓sx5, ↓sx6, sx0, sx1, sx2, sx3, sx4, sx5, sx6, tf107, ev3_hold, sxo, sxc, sxp, sxq, sxr, sxs, sxl, sxm, simprocAttr, dn]
  intro b1 b2 b3
  refine CallOb.pureH (fun w' hp => open_fn w' _ _ _ _ c [k] [t] [g] (hc0.hp hp) hsm (row_hp (E := 3) (xs := ints [k]) (by simp [cat, i1]) hp) (row_hp (E := 3) (xs := ints [t]) (by simp [cat, i1]) hp) (row_hp (E := 3) (xs := ints [g]) (by simp [cat, i1]) hp) (by simp)) ?_
  rintro r N rfl
  by_cases he : openE c [k] [t] [g] = 0
  · obtain ⟨hok, hcl, htl, _⟩ := openE_zero he
    have hk := hcl k (by simp)
    have ht := htl t (by simp)
    obtain ⟨K, hK⟩ : ∃ K : Nat, k = K := ⟨k.toNat, by omega⟩
    obtain ⟨T, hT⟩ : ∃ T : Nat, t = T := ⟨t.toNat, by omega⟩
    subst hK hT
    have hm := detM_water (v := (.agg #[I c.wide, I c.high, .slice aD nD cD, .slice aT nT cT, .slice aS nS cS])) hok hk.2 ht.2
    simp only [Int.toNat_natCast, vS, spc] at hm ⊢
    rw [he]
    refine ⟨?_⟩
    simp (config := { maxSteps := 4000000 }) only [↓sx0, ↓sx1, ↓sx2, ↓sx3, ↓sx4, ↓sx5, ↓sx6, sx0, sx1, sx2, sx3, sx4, sx5, sx6, tf107, ev3_hold, sxo, sxc, sxp, sxq, sxr, sxs, sxl, sxm, simprocAttr, hm]
  · have e1 : (openE c [k] [t] [g] = 0) = False := eq_false he
    refine ⟨?_⟩
    simp (config := { maxSteps := 4000000 }) only [↓sx0, ↓sx1, ↓sx2, ↓sx3, ↓sx4, ↓sx5, ↓sx6, sx0, sx1, sx2, sx3, sx4, sx5, sx6, tf107, ev3_hold, sxo, sxc, sxp, sxq, sxr, sxs, sxl, sxm, simprocAttr, e1]
end Go.Proofs.YtogicfoigeongaaDoor

namespace Go.Proofs.YtogicfoigeongaaDoor
open Go.RowKit Go.SX
set_option maxRecDepth 20000
set_option maxHeartbeats 8000000
set_option linter.unusedSimpArgs false
set_option linter.unusedVariables false
open Classical in
noncomputable def dst (W H a x : Nat) : Nat := if h : ∃ n, isD W H a x n then h.choose else 0
theorem dst_is {W H a x : Nat} (ha : a < W * H) (hx : x < W * H) : isD W H a x (dst W H a x) := by
  obtain ⟨k, _, hk⟩ := isD_ex ha hx
  unfold dst
  rw [dif_pos ⟨k, hk⟩]
  exact Exists.choose_spec _
theorem rc_zero {W H a x : Nat} (h : Rc W H a 0 x) : x = a := by
  cases h
  try rfl
theorem dst_zero {W H a x : Nat} (ha : a < W * H) (hx : x < W * H) : dst W H a x = 0 ↔ a = x := by
  constructor
  · intro h
    have := (dst_is ha hx).1
    rw [h] at this
    exact (rc_zero this).symm
  · rintro rfl
    have := (dst_is ha ha).2 0 .zero
    omega
theorem bes_ne {W H k d n : Nat} (hk : k < W * H) (hd : d < 6) (h : bes W H k d = some n) : n ≠ k := by
  rintro rfl
  have h2 := bes_back hk hd h
  have hW : 0 < W := by
    cases W with
    | zero => simp at hk
    | succ w => omega
  have hr : n % W < W := Nat.mod_lt _ hW
  have hkk : n / W * W + n % W = n := by rw [Nat.mul_comm]; exact Nat.div_add_mod n W
  unfold bes at h
  simp only [] at h
  generalize hxe : ((n % W : Nat) : Int) + (if n / W % 2 = 1 then (wayAt d).2.1 else (wayAt d).1) = x at h
  generalize hye : ((n / W : Nat) : Int) + (wayAt d).2.2 = y at h
  split at h
  case isFalse => cases h
  rename_i hc
  simp only [Option.some.injEq] at h
  have hn1 : n / W = y.toNat := by
    conv => lhs; rw [← h, Nat.mul_comm, Nat.mul_add_div hW, Nat.div_eq_of_lt (by omega)]
    omega
  have hn2 : n % W = x.toNat := by
    conv => lhs; rw [← h, Nat.mul_comm, Nat.mul_add_mod, Nat.mod_eq_of_lt (by omega)]
  have hd' : d = 0 ∨ d = 1 ∨ d = 2 ∨ d = 3 ∨ d = 4 ∨ d = 5 := by omega
  rcases hd' with rfl | rfl | rfl | rfl | rfl | rfl <;> simp [wayAt, ways6] at hxe hye <;> omega
theorem dst_one {W H a x : Nat} (ha : a < W * H) (hx : x < W * H) : dst W H a x = 1 ↔ x ∈ besL W H a 6 := by
  constructor
  · intro h
    have h1 := (dst_is ha hx).1
    have h0 : ¬ a = x := fun e => by have := (dst_zero ha hx).2 e; omega
    rw [h] at h1
    cases h1 with
    | step hz hy =>
      rw [rc_zero hz] at hy
      rcases List.mem_cons.1 hy with e | e
      · exact absurd e.symm h0
      · exact e
  · intro h
    have h1 := (dst_is ha hx).2 1 (.step .zero (List.mem_cons_of_mem _ h))
    obtain ⟨d, hd, hb⟩ := List.mem_filterMap.1 h
    have := bes_ne ha (by simpa using hd) hb
    have h0 : dst W H a x ≠ 0 := fun e => this ((dst_zero ha hx).1 e).symm
    omega
end Go.Proofs.YtogicfoigeongaaDoor

