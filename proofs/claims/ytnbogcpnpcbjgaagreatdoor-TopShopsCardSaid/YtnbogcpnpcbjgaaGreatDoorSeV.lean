/- A part of a proof: the symbolic walk and what it shows of single functions. -/
import Derived.Test.YtnbogcpnpcbjgaaGreatDoorC5
import Derived.Test.YtnbogcpnpcbjgaaGreatDoorSeR
set_option linter.all false
namespace Go.Proofs.YtnbogcpnpcbjgaaGreatDoor
open Go.RowKit Go.SX Go.ChangeShapes Go.WideShapes Go.ChangeAt
set_option maxRecDepth 100000
abbrev laid3 : List (String × DataW Unit) := [("math/bits.deBruijn32tab", Rows.laid_math_bits_deBruijn32tab), ("math/bits.deBruijn64tab", Rows.laid_math_bits_deBruijn64tab), ("coble/chart.ways", Rows.laid_coble_chart_ways)]
theorem ways_entry {W : World} {g t fuel : Nat} {cs : Array Value} {p : List MemPlace} (hg : Tryz.prog.globalNamed "coble/chart.ways" = some g) (ht : (Tryz.prog.globals[g]?).map (·.type) = some t) (hv : W.var? Tryz.prog "coble/chart.ways" = some cs) (hd : DataW.trod (fun _ => ()) Tryz.prog W 0 (fun _ => true) false fuel t cs.toList = some (Rows.laid_coble_chart_ways, p)) : Ways W := by
  obtain rfl := Option.some.inj ((show Tryz.prog.globalNamed "coble/chart.ways" = some 1 by kernel_rfl).symm.trans hg)
  obtain rfl := Option.some.inj ((show (Tryz.prog.globals[1]?).map (·.type) = some 196 by kernel_rfl).symm.trans ht)
  obtain ⟨xs, m, _, ex, hcl, hl, hel⟩ := DataW.trod_array Tryz.underlying196 hd
  have c9 : Tryz.prog.cellsOf 195 = 3 := by kernel_rfl
  have c18 : Tryz.prog.cellsOf 196 = 18 := by kernel_rfl
  rw [c18] at hcl
  rw [c9] at hel
  have e3 : xs.map (·.1) = ways6.map fun u => (.agg [.lit (.int .i64 u.1), .lit (.int .i64 u.2.1), .lit (.int .i64 u.2.2)] : DataW Unit) := (DataW.agg.inj (Prod.mk.inj ex).1).symm
  have rows : ∀ i, i < 6 → ∃ u, ways6[i]? = some u ∧ (cs.toList.drop (i * 3)).take 3 = wyc u := by
    intro i hi
    have e4 : (xs.map (·.1))[i]? = (ways6.map fun u => (.agg [.lit (.int .i64 u.1), .lit (.int .i64 u.2.1), .lit (.int .i64 u.2.2)] : DataW Unit))[i]? := by rw [e3]
    have h6 : ways6.length = 6 := rfl
    rw [List.getElem?_map, List.getElem?_map, List.getElem?_eq_getElem (by omega : i < xs.length), List.getElem?_eq_getElem (by omega : i < ways6.length)] at e4
    simp only [Option.map_some, Option.some.injEq] at e4
    have hE := hel i hi
    rw [List.getElem?_eq_getElem (by omega : i < xs.length), show xs[i] = (xs[i].1, xs[i].2) from rfl, e4] at hE
    exact ⟨ways6[i], List.getElem?_eq_getElem _, way_of hE⟩
  intro i v hi
  have hi18 : i < 18 := by
    have := (List.getElem?_eq_some_iff.1 hi).1
    rw [cat_len wyc_len] at this
    exact this
  obtain ⟨u, hu, hr⟩ := rows (i / 3) (by omega)
  have e5 : (cat wyc ways6)[i]? = (wyc u)[i % 3]? := by
    have := cat_get wyc_len hu (show i % 3 < 3 by omega)
    rwa [show i / 3 * 3 + i % 3 = i by omega] at this
  have e6 : cs.toList[i]? = (wyc u)[i % 3]? := by
    rw [← hr, List.getElem?_take, if_pos (by omega), List.getElem?_drop, show i / 3 * 3 + i % 3 = i by omega]
  rw [World.var?_cell hg hv i, show cs[i]? = cs.toList[i]? by simp, e6, ← e5, hi]
theorem deb_entry {W : World} {g t fuel : Nat} {cs : Array Value} {p : List MemPlace} (hg : Tryz.prog.globalNamed "math/bits.deBruijn64tab" = some g) (ht : (Tryz.prog.globals[g]?).map (·.type) = some t) (hv : W.var? Tryz.prog "math/bits.deBruijn64tab" = some cs) (hd : DataW.trod (fun _ => ()) Tryz.prog W 0 (fun _ => true) false fuel t cs.toList = some (Rows.laid_math_bits_deBruijn64tab, p)) : Deb W := by
  obtain rfl := Option.some.inj ((show Tryz.prog.globalNamed "math/bits.deBruijn64tab" = some 3 by kernel_rfl).symm.trans hg)
  obtain rfl := Option.some.inj ((show (Tryz.prog.globals[3]?).map (·.type) = some 239 by kernel_rfl).symm.trans ht)
  obtain ⟨xs, m, _, ex, hcl, hl, hel⟩ := DataW.trod_array Tryz.underlying239 hd
  have c9 : Tryz.prog.cellsOf 5 = 1 := by kernel_rfl
  have c18 : Tryz.prog.cellsOf 239 = 64 := by kernel_rfl
  rw [c18] at hcl
  rw [c9] at hel
  have e3 : xs.map (·.1) = debT.map fun u => (.lit (.int .u8 u) : DataW Unit) := (DataW.agg.inj (Prod.mk.inj ex).1).symm
  intro i v hi
  have hi64 : i < 64 := (List.getElem?_eq_some_iff.1 hi).1
  have e4 : (xs.map (·.1))[i]? = (debT.map fun u => (.lit (.int .u8 u) : DataW Unit))[i]? := by rw [e3]
  have h6 : debT.length = 64 := rfl
  rw [List.getElem?_map, List.getElem?_map, List.getElem?_eq_getElem (by omega : i < xs.length), List.getElem?_eq_getElem (by omega : i < debT.length)] at e4
  simp only [Option.map_some, Option.some.injEq] at e4
  have hE := hel i hi64
  rw [List.getElem?_eq_getElem (by omega : i < xs.length), Nat.mul_one] at hE
  obtain ⟨k, e1, e2, _⟩ := DataW.trod_int Tryz.underlying5 hE
  have e5 : xs[i].1 = .lit (.int .u8 k) := by rw [e2]
  rw [e4] at e5
  simp only [DataW.lit.injEq, Lit.int.injEq, true_and] at e5
  have e6 : cs.toList[i]? = some (.int .u8 k) := by
    have h0 : ((cs.toList.drop i).take 1)[0]? = some (Value.int .u8 k) := by rw [e1]; rfl
    simpa using h0
  have e7 : (cat u8c debT)[i]? = some (.int .u8 debT[i]) := by
    have := cat_get (f := u8c) (n := 1) (fun _ => rfl) (List.getElem?_eq_getElem (by omega : i < debT.length)) (j := 0) (by decide)
    rw [Nat.mul_one, Nat.add_zero] at this
    exact this
  rw [World.var?_cell hg hv i, show cs[i]? = cs.toList[i]? by simp, e6, ← e5]
  exact e7.symm.trans hi
theorem laid3_parts {W : World} (h : laidMetH Tryz.prog laid3 W) : Ways W ∧ Deb W := by
  rw [MakeChecks.laidMetH_plain _ _ _ (by kernel_rfl)] at h
  obtain ⟨ps, ⟨_, _, _, _, _, _, _, _, _, _, ⟨_, _, _, _, _, _, hg2, ht2, hv2, hd2, ⟨_, _, _, _, _, _, hg3, ht3, hv3, hd3, _, _⟩, _⟩, _⟩, _, _⟩ := h
  exact ⟨ways_entry hg3 ht3 hv3 hd3, deb_entry hg2 ht2 hv2 hd2⟩
theorem leaves4M {P : Program} {w : World} {vs : List Value} (h : Lvs P w [.int .i64, .int .i64, .int .i64, .int .i64] vs) : ∃ m, vs = moc m := by
  cases h with | int _ h => cases h with | int _ h => cases h with | int _ h => cases h with | int _ h => cases h with | nil => exact ⟨⟨_, _, _, _⟩, rfl⟩
theorem flat_month : flat Tryz.prog 4 82 = some [.int .i64, .int .i64, .int .i64, .int .i64] := by kernel_rfl
theorem flat_year : flat Tryz.prog 4 65 = some [.int .i64, .int .i64, .slice 82] := by kernel_rfl
theorem cells_month : Tryz.prog.cellsOf 82 = 4 := by kernel_rfl
theorem flat_shop : flat Tryz.prog 4 80 = some [.int .i64, .int .i64, .int .i64] := by kernel_rfl
theorem flat_shops : flat Tryz.prog 4 74 = some [.slice 80] := by kernel_rfl
theorem cells_shop : Tryz.prog.cellsOf 80 = 3 := by kernel_rfl
theorem year_of {H : Type} {enc : TypeId × Value → H} {w : World} {base : Nat} {v : Value} {d : DataW H} {ps : List MemPlace} (h : Value.okWide Tryz.prog w .any base 65 v) (hd : DataW.Trod enc Tryz.prog w 0 (fun _ => true) true 65 v d ps) : ∃ r l vS ms, v = .agg #[I r, I l, vS] ∧ Sl w vS 4 (cat moc ms) := by
  obtain ⟨cs, rfl⟩ := agg_of Tryz.underlying65 h
  have hl := lvs_of_Trod hd 4 flat_year
  rw [show (Value.agg cs).cells.toList = cs.toList from rfl] at hl
  generalize hcs : cs.toList = l at hl
  cases hl with | int _ hl => cases hl with | int _ hl => cases hl with | slice x1 _ _ _ s1 _ e1 hl =>
    cases hl
    obtain ⟨l4, hu, _⟩ := cat_of (f := moc) (xss := x1) fun xs hxs => leaves4M (e1 xs hxs 4 _ flat_month)
    rw [cells_month, hu] at s1
    exact ⟨_, _, _, l4, by rw [show cs = cs.toList.toArray by simp, hcs], s1⟩
theorem shops_of {H : Type} {enc : TypeId × Value → H} {w : World} {base : Nat} {v : Value} {d : DataW H} {ps : List MemPlace} (h : Value.okWide Tryz.prog w .any base 74 v) (hd : DataW.Trod enc Tryz.prog w 0 (fun _ => true) true 74 v d ps) : ∃ l, Sl w v 3 (cat ldc l) := by
  obtain ⟨a, n, c, rfl⟩ := slice_of Tryz.underlying74 h
  have hl := lvs_of_Trod hd 4 flat_shops
  rw [show (Value.slice a n c).cells.toList = [Value.slice a n c] from rfl] at hl
  cases hl with | slice x1 _ _ _ s1 _ e1 hl =>
    obtain ⟨us, hu, _⟩ := cat_of (f := ldc) (xss := x1) fun xs hxs => by
      obtain ⟨a, b, c, hl⟩ := leaves3 (e1 xs hxs 4 _ flat_shop)
      exact ⟨(a, b, c), hl⟩
    rw [cells_shop, hu] at s1
    exact ⟨us, s1⟩
end Go.Proofs.YtnbogcpnpcbjgaaGreatDoor
