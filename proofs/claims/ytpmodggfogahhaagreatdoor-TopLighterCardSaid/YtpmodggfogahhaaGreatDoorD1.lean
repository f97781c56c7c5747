/- Parts of a proof: the symbolic walk and what it shows of single functions. -/
import Derived.Test.YtpmodggfogahhaaGreatDoorH4
import Derived.Test.YtpmodggfogahhaaGreatDoorC5
import Derived.Test.YtpmodggfogahhaaGreatDoorC2
import Derived.Test.YtpmodggfogahhaaGreatDoorH5
import Derived.Test.YtpmodggfogahhaaGreatDoorF8
import Derived.Test.YtpmodggfogahhaaGreatDoorF2
set_option linter.all false
namespace Go.Proofs.YtpmodggfogahhaaGreatDoor
open Go.RowKit Go.SX
set_option maxRecDepth 20000
set_option maxHeartbeats 4000000
set_option linter.unusedSimpArgs false
set_option linter.unusedVariables false
theorem floatsV_at {c : Cht} (hok : c.ok) {g : Int} {k t : Nat} (hk : k < c.depth.length) (ht : t < c.tide.length) (hg : notDraught g = false) : floatsV c g k t = .tuple #[.bool (decide (c.over k t (c.tlo t) ≥ g)), .bool (decide (c.over k t (c.thi t) ≥ g)), I 0] := by
  have h1 : notCell c (k : Int) = false := by
    unfold notCell
    rw [Bool.not_eq_false', inB_iff]
    omega
  have h2 : notTick c (t : Int) = false := by
    unfold notTick
    rw [Bool.not_eq_false', inB_iff]
    omega
  unfold floatsV
  rw [if_pos, Int.toNat_natCast, Int.toNat_natCast]
  unfold openE
  rw [(okB_iff c).2 hok, if_pos rfl]
  simp [h1, h2, hg]
end Go.Proofs.YtpmodggfogahhaaGreatDoor

namespace Go.Proofs.YtpmodggfogahhaaGreatDoor
open Go.RowKit Go.SX
set_option maxRecDepth 20000
set_option maxHeartbeats 4000000
set_option linter.unusedSimpArgs false
set_option linter.unusedVariables false
theorem contains_fn (w : World) (v : Value) (l : List Int) (x : Int) (hs : Sl w v 1 (ints l)) (hb : l.length ≤ 1099511627776) : SX.Fn Tryz.prog 17 [v, I x] w (fun _ => False) fun v N => v = .bool (decide (x ∈ l)) := by
  obtain ⟨a, n, c, rfl⟩ := hs.shape
  have hn := hs.le i1_len (by omega)
  have hr := hs.rd0
  refine walk [] [] (det0_ok _ _) Tryz.func17 rfl Tryz.ntmps17 res17 (by kernel_rfl) no_facts ?_
  simp (config := { maxSteps := 4000000 }) only [↓sx0, ↓sx1, ↓sx2, ↓sx3, ↓sx4, ↓sx5, ↓sx6, sx0, sx1, sx2, sx3, sx4, sx5, sx6, tf17, ev3_hold, sxo, sxc, sxp, sxq, sxr, sxs, sxl, sxm, simprocAttr]
  refine loop_const [(4, 17)] (fun k : Nat => [(5, I k)]) (fun k H1 => H1 = [] ∧ k ≤ n ∧ (x ∈ l ↔ x ∈ l.drop k)) (fun k => n - k) 0 ?_ ⟨rfl, Nat.zero_le _, Iff.rfl⟩ ?_
  · simp (config := { maxSteps := 4000000 }) only [↓sx0, ↓sx1, ↓sx2, ↓sx3, ↓sx4, ↓sx5, ↓sx6, sx0, sx1, sx2, sx3, sx4, sx5, sx6, tf17, ev3_hold, sxo, sxc, sxp, sxq, sxr, sxs, sxl, sxm, simprocAttr]
    try rfl
  · rintro k H1 g ⟨rfl, hk, ht⟩
    have e2 : wr (k + 1) = k + 1 := wrap_id (by omega)
    simp (config := { maxSteps := 4000000 }) only [↓sx0, ↓sx1, ↓sx2, ↓sx3, ↓sx4, ↓sx5, ↓sx6, sx0, sx1, sx2, sx3, sx4, sx5, sx6, tf17, ev3_hold, sxo, sxc, sxp, sxq, sxr, sxs, sxl, sxm, simprocAttr, e2]
    refine ⟨fun h1 => ?_, fun h1 => ?_⟩
    · have hkl : k < l.length := by omega
      refine at_1 (hr _) i1_len (List.getElem?_eq_getElem hkl) rfl fun ad => ?_
      rw [List.drop_eq_getElem_cons hkl, List.mem_cons] at ht
      simp (config := { maxSteps := 4000000 }) only [↓sx0, ↓sx1, ↓sx2, ↓sx3, ↓sx4, ↓sx5, ↓sx6, sx0, sx1, sx2, sx3, sx4, sx5, sx6, tf17, ev3_hold, sxo, sxc, sxp, sxq, sxr, sxs, sxl, sxm, simprocAttr, e2]
      refine ⟨fun h2 => ?_, fun h2 => ⟨k + 1, _, rfl, HImp.refl _ _, ⟨rfl, by omega, ?_⟩, by omega⟩⟩
      · simp [ht, h2]
      · rw [ht]
        exact ⟨fun h => h.resolve_left fun e => h2 e.symm, .inr⟩
    · have : x ∉ l := by rw [ht, List.drop_of_length_le (by omega)]; simp
      simp [this]
end Go.Proofs.YtpmodggfogahhaaGreatDoor

namespace Go.Proofs.YtpmodggfogahhaaGreatDoor
open Go.RowKit Go.SX
set_option maxRecDepth 10000
set_option maxHeartbeats 4000000
set_option linter.unusedSimpArgs false
set_option linter.unusedVariables false
theorem isC_iff (g : Crs) : ∀ L : List Nat, g.isC L ↔ (∀ j, j < L.length → L.getD j 0 < g.n) ∧ ∀ j, j + 1 < L.length → g.nr (L.getD j 0) (L.getD (j + 1) 0) = true
  | [] => ⟨fun _ => ⟨fun j h => absurd h (Nat.not_lt_zero _), fun j h => absurd h (Nat.not_lt_zero _)⟩, fun _ => trivial⟩
  | [x] => ⟨fun h => ⟨fun j hj => by have : j = 0 := by simp at hj; exact hj
                                     subst this; exact h, fun j h => by simp at h⟩, fun h => h.1 0 (by simp)⟩
  | x :: y :: l => by
    have ih := isC_iff g (y :: l)
    constructor
    · rintro ⟨h1, h2, h3⟩
      obtain ⟨h4, h5⟩ := ih.1 h3
      refine ⟨fun j hj => ?_, fun j hj => ?_⟩
      · cases j with
        | zero => exact h1
        | succ j => exact h4 j (by simpa using hj)
      · cases j with
        | zero => exact h2
        | succ j => exact h5 j (by simpa using hj)
    · rintro ⟨h1, h2⟩
      exact ⟨h1 0 (by simp), h2 0 (by simp), ih.2 ⟨fun j hj => h1 (j + 1) (by simpa using hj), fun j hj => h2 (j + 1) (by simpa using hj)⟩⟩
theorem Dis.all_tru {d : Dis} (hE : d.E = 0) (M : List Nat) : (d.crs pAll).Course M ↔ d.way M ∧ ∀ i, i < d.rs.length → d.tru i M := by
  rw [Dis.course_iff hE pAll_ok]
  exact and_congr Iff.rfl ⟨fun h i hi => h i hi rfl, fun h i hi _ => h i hi⟩
theorem Dis.few_x {d : Dis} {t : Nat} {M : List Nat} (h : d.way M) (ht : t < d.c.tide.length) : M.getD t 0 < d.c.depth.length := ((isC_iff _ M).1 h.2.1).1 t (by rw [h.1]; exact ht)
theorem mem_chpL {n : Nat} {f : Nat → Int} {m : Int} {x : Nat} : x ∈ chpL n f m ↔ x < n ∧ f x ≤ m := by
  unfold chpL
  rw [List.mem_filter, List.mem_range, decide_eq_true_eq]
theorem Dis.mem_whr {d : Dis} (hE : d.E = 0) {t x : Nat} (ht : t < d.c.tide.length) : x ∈ d.whrL t ↔ ∃ M, (d.way M ∧ M.getD t 0 = x) ∧ ∀ i, i < d.rs.length → d.tru i M := by
  have hgo := Dis.crs_ok hE pAll_ok
  unfold Dis.whrL
  rw [mem_chpL, Int.toNat_natCast]
  constructor
  · rintro ⟨h1, h2⟩
    obtain ⟨M, h3, h4, _⟩ := (Crs.thr_iff hgo (t := t) (x := x) ht h1 (n := 0) (by decide)).1 h2
    obtain ⟨h5, h6⟩ := (Dis.all_tru hE M).1 h3
    exact ⟨M, ⟨h5, h4⟩, h6⟩
  · rintro ⟨M, ⟨h1, rfl⟩, h2⟩
    have hx := Dis.few_x h1 ht
    have hc := (Dis.all_tru hE M).2 ⟨h1, h2⟩
    refine ⟨hx, (Crs.thr_iff hgo ht hx (n := 0) (by decide)).2 ⟨M, hc, rfl, ?_⟩⟩
    rw [Dis.tot_is hE pAll_ok hc, sumN_zero fun i hi => ?_]
    · exact Int.le_refl _
    · have := h2 i hi
      unfold Dis.tru at this
      rw [this]
      rfl
end Go.Proofs.YtpmodggfogahhaaGreatDoor

namespace Go.Proofs.YtpmodggfogahhaaGreatDoor
open Go.RowKit Go.SX
set_option maxRecDepth 10000
set_option maxHeartbeats 4000000
set_option linter.unusedSimpArgs false
set_option linter.unusedVariables false
theorem copyD_fn (w : World) (v : Value) (c : Cht) (hc : ChOk w v c) (hf : c.few) : SX.Fn Tryz.prog 60 [v] w (fun _ => False) fun r N => ∃ ax cx y z A B, r = .agg #[I c.wide, I c.high, .slice ax c.depth.length cx, y, z] ∧ (ax = none → c.depth = []) ∧ N = A ++ HO.row (.slice ax c.depth.length cx) 3 1 (ints c.depth) :: B ∧ Got y 44 2 spc c.tide (A ++ B) ∧ Got z 3 1 i1 c.swell (A ++ B) := by
  obtain ⟨sD, sT, sS, rfl, hsD, hsT, hsS⟩ := hc
  obtain ⟨aD, nD, cD, rfl⟩ := hsD.shape
  obtain ⟨aT, nT, cT, rfl⟩ := hsT.shape
  obtain ⟨aS, nS, cS, rfl⟩ := hsS.shape
  unfold Cht.few at hf
  refine walk [] [] (det0_ok _ _) Tryz.func60 rfl Tryz.ntmps60 res60 (by kernel_rfl) no_facts ?_
  simp (config := { maxSteps := 4000000 }) only [↓sx0, ↓sx1, ↓sx2, ↓sx3, ↓sx4, ↓sx5, ↓sx6, sx0, sx1, sx2, sx3, sx4, sx5, sx6, tf60, ev3_hold, sxo, sxc, sxp, sxq, sxr, sxs, sxl, sxm, simprocAttr]
  intro b1
  refine app_at (l := ([] : List Int)) (m := c.depth) (HImp.refl _ _) i1_len i1_one (fun w' hp => hsD.hp (fun _ _ => id) hp) (by simp; omega) fun a1 c1 h1 => ?_
  simp (config := { maxSteps := 4000000 }) only [↓sx0, ↓sx1, ↓sx2, ↓sx3, ↓sx4, ↓sx5, ↓sx6, sx0, sx1, sx2, sx3, sx4, sx5, sx6, tf60, ev3_hold, sxo, sxc, sxp, sxq, sxr, sxs, sxl, sxm, simprocAttr]
  intro b2
  refine app_at (l := ([] : List (Int × Int))) (m := c.tide) (HImp.refl _ _) spc_len spc_one (fun w' hp => hsT.hp (fun _ _ => id) hp) (by simp; omega) fun a2 c2 h2 => ?_
  simp (config := { maxSteps := 4000000 }) only [↓sx0, ↓sx1, ↓sx2, ↓sx3, ↓sx4, ↓sx5, ↓sx6, sx0, sx1, sx2, sx3, sx4, sx5, sx6, tf60, ev3_hold, sxo, sxc, sxp, sxq, sxr, sxs, sxl, sxm, simprocAttr]
  intro b3
  refine app_at (l := ([] : List Int)) (m := c.swell) (HImp.refl _ _) i1_len i1_one (fun w' hp => hsS.hp (fun _ _ => id) hp) (by simp; omega) fun a3 c3 h3 => ?_
  simp (config := { maxSteps := 4000000 }) only [↓sx0, ↓sx1, ↓sx2, ↓sx3, ↓sx4, ↓sx5, ↓sx6, sx0, sx1, sx2, sx3, sx4, sx5, sx6, tf60, ev3_hold, sxo, sxc, sxp, sxq, sxr, sxs, sxl, sxm, simprocAttr]
  exact ⟨a1, c1, _, _, [HO.row (.slice a3 c.swell.length c3) 3 1 (cat i1 c.swell), HO.row (.slice a2 c.tide.length c2) 44 2 (cat spc c.tide)], [], rfl, fun h => (h1 h).2, rfl, Got.row rfl (by simp) (fun h => (h2 h).2), Got.row rfl (by simp) (fun h => (h3 h).2)⟩
def DsR (d : Dis) (y z u : Value) (R : List HO) : Prop := Got y 44 2 spc d.c.tide R ∧ Got z 3 1 i1 d.c.swell R ∧ ∃ ad c, u = .slice ad d.rs.length c ∧ HO.row u 99 9 (cat rpc d.rs) ∈ R
theorem DsR.ok {d : Dis} {y z u : Value} {R H : List HO} (h : DsR d y z u R) {ax : Option Addr} {n cx : Nat} {D : List Int} (hr : HO.row (.slice ax n cx) 3 1 (ints D) ∈ H) (hm : ∀ h ∈ R, h ∈ H) {w0 : Base} {w : World} (hp : Hp w0 H w) (g p : Int) :
    DsOk w (.agg #[I d.c.wide, I d.c.high, .slice ax n cx, y, z, I g, I p, u]) ⟨⟨d.c.wide, d.c.high, D, d.c.tide, d.c.swell⟩, g, p, d.rs⟩ := by
  obtain ⟨h1, h2, ad, c, rfl, h3⟩ := h
  exact ⟨_, _, _, _, rfl, ⟨_, _, _, rfl, row_hp hr hp, h1.hp hm hp, h2.hp hm hp⟩, row_hp (hm _ h3) hp⟩
theorem copy3D_fn (w : World) (v : Value) (d : Dis) (hd : DsOk w v d) (hf : d.few) : SX.Fn Tryz.prog 21 [v] w (fun _ => False) fun q N => ∃ ax cx y z u A B, q = .agg #[I d.c.wide, I d.c.high, .slice ax d.c.depth.length cx, y, z, I d.dr, I d.pc, u] ∧ (ax = none → d.c.depth = []) ∧ N = A ++ HO.row (.slice ax d.c.depth.length cx) 3 1 (ints d.c.depth) :: B ∧ DsR d y z u (A ++ B) := by
  obtain ⟨sD, sT, sS, sR, rfl, hc, hsR⟩ := hd
  have hcp := fun (H : List HO) w' (hp : Hp ⟨w, fun _ => False⟩ H w') => copyD_fn w' _ d.c (hc.hp hp) hf.1
  obtain ⟨aR, nR, cR, rfl⟩ := hsR.shape
  have hnR := hsR.le rpc_len (by omega)
  subst hnR
  have h14 := hf.2.1
  have dn : ∀ (g : Nat) (xs : List Value), det0 g xs = none := fun _ _ => rfl
  refine walk [] [] (det0_ok _ _) Tryz.func21 rfl Tryz.ntmps21 res21 (by kernel_rfl) no_facts ?_
  simp (config := { maxSteps := 4000000 }) only [↓sx0, ↓sx1, ↓sx2, ↓sx3, ↓sx4, ↓sx5, ↓sx6, sx0, sx1, sx2, sx3, sx4, sx5, sx6, tf21, ev3_hold, sxo, sxc, sxp, sxq, sxr, sxs, sxl, sxm, simprocAttr, dn]
  refine CallOb.pureH (fun w' hp => hcp _ w' hp) ?_
  rintro q N ⟨ax, cx, y, z, A, B, rfl, hnil, rfl, h2, h3⟩
  obtain ⟨ay, cy, rfl⟩ := h2.shape
  obtain ⟨az, cz, rfl⟩ := h3.shape
  refine ⟨?_⟩
  simp (config := { maxSteps := 4000000 }) only [↓sx0, ↓sx1, ↓sx2, ↓sx3, ↓sx4, ↓sx5, ↓sx6, sx0, sx1, sx2, sx3, sx4, sx5, sx6, tf21, ev3_hold, sxo, sxc, sxp, sxq, sxr, sxs, sxl, sxm, simprocAttr]
  intro b1
  refine app_at (l := ([] : List Rep)) (m := d.rs) (HImp.refl _ _) rpc_len rpc_one (fun w' hp => hsR.hp (fun _ _ => id) hp) (by simp; omega) fun a1 c1 h4 => ?_
  simp (config := { maxSteps := 4000000 }) only [↓sx0, ↓sx1, ↓sx2, ↓sx3, ↓sx4, ↓sx5, ↓sx6, sx0, sx1, sx2, sx3, sx4, sx5, sx6, tf21, ev3_hold, sxo, sxc, sxp, sxq, sxr, sxs, sxl, sxm, simprocAttr]
  refine ⟨ax, cx, _, _, _, HO.row (.slice a1 d.rs.length c1) 99 9 (cat rpc d.rs) :: A, B, rfl, hnil, ?_, h2.mono (by simp +contextual), h3.mono (by simp +contextual), _, _, rfl, List.mem_cons_self⟩
  simp
def dpK (D : Int) (l : List Int) (k : Nat) : List Int := (l.take k).map (fun x => min 1000 (x + D)) ++ l.drop k
theorem dpK_len (D : Int) (l : List Int) (k : Nat) : (dpK D l k).length = l.length := by
  unfold dpK
  rw [List.length_append, List.length_map, List.length_take, List.length_drop]
  omega
theorem dpK_zero (D : Int) (l : List Int) : dpK D l 0 = l := by simp [dpK]
theorem dpK_get (D : Int) (l : List Int) (k x : Nat) : (dpK D l k)[x]? = if x < k then l[x]?.map (fun y => min 1000 (y + D)) else l[x]? := by
  unfold dpK
  by_cases hx : x < (l.take k).length
  · rw [List.getElem?_append_left (by rw [List.length_map]; exact hx), List.getElem?_map]
    rw [List.length_take] at hx
    rw [if_pos (by omega), List.getElem?_take, if_pos (by omega)]
  · rw [List.getElem?_append_right (by rw [List.length_map]; omega), List.length_map, List.getElem?_drop]
    rw [List.length_take] at hx ⊢
    by_cases hk : x < k
    · rw [if_pos hk, List.getElem?_eq_none (by omega), List.getElem?_eq_none (by omega)]
      rfl
    · rw [if_neg hk]
      by_cases hkl : k ≤ l.length
      · congr 1
        omega
      · rw [List.getElem?_eq_none (by omega), List.getElem?_eq_none (by omega)]
theorem dpK_set (D : Int) (l : List Int) (k : Nat) {y : Int} (h : l[k]? = some y) : (dpK D l k).set k (min 1000 (y + D)) = dpK D l (k + 1) := by
  refine List.ext_getElem? fun x => ?_
  rw [List.getElem?_set, dpK_get, dpK_get, dpK_len]
  have hk := (List.getElem?_eq_some_iff.1 h).1
  by_cases e : k = x
  · subst e
    rw [if_pos rfl, if_pos hk, if_pos (by omega), h]
    rfl
  · rw [if_neg e]
    by_cases hx : x < k
    · rw [if_pos hx, if_pos (by omega)]
    · rw [if_neg hx, if_neg (by omega)]
def Dis.lit (d : Dis) (g p D : Int) (k : Nat) : Dis := ⟨⟨d.c.wide, d.c.high, dpK D d.c.depth k, d.c.tide, d.c.swell⟩, d.dr - g, min 5 (d.pc + p), d.rs⟩
theorem lit_dep {d : Dis} (hok : d.c.ok) {g p D : Int} (hD : 0 ≤ D) {k x : Nat} (hx : x < d.c.depth.length) : d.c.dep x ≤ (d.lit g p D k).c.dep x := by
  have h1 : d.c.depth[x]? = some d.c.depth[x] := List.getElem?_eq_getElem hx
  have h2 := hok.2.2.2.2.2.1 _ (List.getElem_mem hx)
  have e1 : d.c.dep x = d.c.depth[x] := by
    unfold Cht.dep
    rw [List.getD_eq_getElem?_getD, h1]
    rfl
  have e2 : (d.lit g p D k).c.dep x = if x < k then min 1000 (d.c.depth[x] + D) else d.c.depth[x] := by
    unfold Cht.dep Dis.lit
    simp only []
    rw [List.getD_eq_getElem?_getD, dpK_get, h1]
    split <;> rfl
  rw [e1, e2]
  split <;> omega
theorem lit_over {d : Dis} (hok : d.c.ok) {g p D : Int} (hD : 0 ≤ D) {k x : Nat} (hx : x < d.c.depth.length) (t : Nat) (h : Int) : d.c.over x t h ≤ (d.lit g p D k).c.over x t h := by
  have h1 := lit_dep hok (g := g) (p := p) hD (k := k) hx
  have e1 : d.c.over x t h = d.c.dep x + h - d.c.swl t := rfl
  have e2 : (d.lit g p D k).c.over x t h = (d.lit g p D k).c.dep x + h - d.c.swl t := rfl
  omega
theorem lit_ok {d : Dis} (hok : d.c.ok) {g p D : Int} (hD : 0 ≤ D ∧ D ≤ 1000) (k : Nat) : (d.lit g p D k).c.ok := by
  obtain ⟨h1, h2, h3, h4, h5, h6, h7⟩ := hok
  refine ⟨h1, h2, ?_, h4, h5, fun x hx => ?_, h7⟩
  · show ((dpK D d.c.depth k).length : Int) = _
    rw [dpK_len]
    exact h3
  · have hx : x ∈ dpK D d.c.depth k := hx
    unfold dpK at hx
    rcases List.mem_append.1 hx with hx | hx
    · obtain ⟨y, hy, rfl⟩ := List.mem_map.1 hx
      have := h6 y (List.mem_of_mem_take hy)
      omega
    · exact h6 x (List.mem_of_mem_drop hx)
theorem lit_rep (d : Dis) (g p D : Int) (k : Nat) (r : Rep) : repB (d.lit g p D k).c r = repB d.c r := by
  unfold repB Dis.lit
  simp only [dpK_len]
theorem lit_E {d : Dis} (hE : d.E = 0) {g p D : Int} (hg : 0 ≤ g ∧ g < d.dr) (hp : 0 ≤ p) (hD : 0 ≤ D ∧ D ≤ 1000) (k : Nat) : (d.lit g p D k).E = 0 := by
  obtain ⟨hok, hdr, hpc, hm, hr⟩ := Dis.E_zero hE
  unfold Dis.E
  rw [(okB_iff _).2 (lit_ok hok hD k), if_pos rfl, if_pos]
  unfold Dis.valB Dis.numB
  rw [Bool.and_eq_true, List.all_eq_true, Bool.and_eq_true, Bool.and_eq_true, inB_iff, inB_iff, decide_eq_true_eq]
  refine ⟨⟨⟨?_, ?_⟩, hm⟩, fun r hm => ?_⟩
  · show 1 ≤ d.dr - g ∧ d.dr - g ≤ 100
    omega
  · show 0 ≤ min 5 (d.pc + p) ∧ min 5 (d.pc + p) ≤ 5
    omega
  · rw [lit_rep]
    exact hr r hm
theorem lit_may {d : Dis} (hok : d.c.ok) {g p D : Int} (hg : 0 ≤ g) (hD : 0 ≤ D) {k t x : Nat} (hx : x < d.c.depth.length) (h : d.may t x = true) : (d.lit g p D k).may t x = true := by
  unfold Dis.may at h ⊢
  have h := of_decide_eq_true h
  refine decide_eq_true ?_
  have h1 := lit_over hok (g := g) (p := p) hD (k := k) hx t (d.c.thi t)
  show d.dr - g ≤ (d.lit g p D k).c.over x t (d.c.thi t)
  omega
theorem lit_way {d : Dis} (hok : d.c.ok) {g p D : Int} (hg : 0 ≤ g) (hp : 0 ≤ p) (hpc : d.pc ≤ 5) (hD : 0 ≤ D) {k : Nat} {M : List Nat} (h : d.way M) : (d.lit g p D k).way M := by
  obtain ⟨h1, h2, h3⟩ := h
  have hlt := ((isC_iff _ M).1 h2).1
  refine ⟨h1, ?_, fun t ht => lit_may hok hg hD (hlt t (by rw [h1]; exact ht)) (h3 t ht)⟩
  rw [isC_iff] at h2 ⊢
  obtain ⟨a1, a2⟩ := h2
  refine ⟨fun j hj => ?_, fun j hj => ?_⟩
  · show M.getD j 0 < (dpK D d.c.depth k).length
    rw [dpK_len]
    exact a1 j hj
  · have h4 := a2 j hj
    have h4' : (decide (M.getD j 0 < d.c.depth.length ∧ M.getD (j + 1) 0 < d.c.depth.length) && decide ((dst d.c.W d.c.H (M.getD j 0) (M.getD (j + 1) 0) : Int) ≤ d.pc)) = true := h4
    show (decide (M.getD j 0 < (dpK D d.c.depth k).length ∧ M.getD (j + 1) 0 < (dpK D d.c.depth k).length) && decide ((dst d.c.W d.c.H (M.getD j 0) (M.getD (j + 1) 0) : Int) ≤ min 5 (d.pc + p))) = true
    rw [dpK_len]
    rw [Bool.and_eq_true, decide_eq_true_eq, decide_eq_true_eq] at h4' ⊢
    exact ⟨h4'.1, by omega⟩
theorem lit_where {d : Dis} (hE : d.E = 0) {g p D : Int} (hg : 0 ≤ g ∧ g < d.dr) (hp : 0 ≤ p) (hD : 0 ≤ D ∧ D ≤ 1000) {k t x : Nat} (ht : t < d.c.tide.length) (h : x ∈ d.whrL t) : x ∈ (d.lit g p D k).whrL t := by
  obtain ⟨hok, hdr, hpc, hm, hr⟩ := Dis.E_zero hE
  obtain ⟨M, ⟨h1, h2⟩, h3⟩ := (Dis.mem_whr hE ht).1 h
  exact (Dis.mem_whr (lit_E hE hg hp hD k) ht).2 ⟨M, ⟨lit_way hok hg.1 hp hpc.2 hD.1 h1, h2⟩, h3⟩
theorem lit_doubt {d : Dis} (hE : d.E = 0) {g p D : Int} (hg : 0 ≤ g ∧ g < d.dr) (hp : 0 ≤ p) (hD : 0 ≤ D ∧ D ≤ 1000) {k : Nat} (h : (d.crs d.pDbt).least < NV) : ((d.lit g p D k).crs (d.lit g p D k).pDbt).least ≤ (d.crs d.pDbt).least := by
  obtain ⟨hok, hdr, hpc, hm, hr⟩ := Dis.E_zero hE
  have hE2 := lit_E hE hg hp hD k
  have hpd := Dis.pDbt_ok hE
  have hpd2 := Dis.pDbt_ok hE2
  obtain ⟨h1, h2, _⟩ := Crs.first_ok (Dis.crs_ok hE hpd) h
  obtain ⟨L, hL⟩ : ∃ L, (d.crs d.pDbt).first = L := ⟨_, rfl⟩
  rw [hL] at h1 h2
  obtain ⟨w1, w2⟩ := (Dis.course_iff hE hpd L).1 h1
  have hc2 : ((d.lit g p D k).crs (d.lit g p D k).pDbt).Course L := (Dis.course_iff hE2 hpd2 L).2 ⟨lit_way hok hg.1 hp hpc.2 hD.1 w1, w2⟩
  have h5 := Crs.least_le (Dis.crs_ok hE2 hpd2) hc2
  rw [Dis.tot_is hE2 hpd2 hc2] at h5
  rw [Dis.tot_is hE hpd h1] at h2
  exact Int.le_trans h5 (Int.le_of_eq h2)
end Go.Proofs.YtpmodggfogahhaaGreatDoor

namespace Go.Proofs.YtpmodggfogahhaaGreatDoor
open Go.RowKit Go.SX Go.ChangeShapes Go.WideShapes Go.ChangeAt
set_option maxRecDepth 100000
theorem rep_of_leaves {P : Program} {w : World} {vs : List Value} (h : Lvs P w [.int .i64, .int .i64, .int .i64, .int .i64, .int .i64, .int .i64, .int .i64, .bool, .int .i64] vs) : ∃ r, vs = rpc r := by
  cases h with | int _ h => cases h with | int _ h => cases h with | int _ h => cases h with | int _ h => cases h with | int _ h => cases h with | int _ h => cases h with | int _ h => cases h with | bool h => cases h with | int _ h => cases h with | nil => exact ⟨⟨_, _, _, _, _, _, _, _, _⟩, rfl⟩
theorem flat_rep : flat Tryz.prog 4 99 = some [.int .i64, .int .i64, .int .i64, .int .i64, .int .i64, .int .i64, .int .i64, .bool, .int .i64] := by kernel_rfl
theorem flat_dis : flat Tryz.prog 4 51 = some [.int .i64, .int .i64, .slice 3, .slice 44, .slice 3, .int .i64, .int .i64, .slice 99] := by kernel_rfl
theorem cells_rep : Tryz.prog.cellsOf 99 = 9 := by kernel_rfl
theorem dis_of {H : Type} {enc : TypeId × Value → H} {w : World} {base : Nat} {v : Value} {d : DataW H} {ps : List MemPlace} (h : Value.okWide Tryz.prog w .any base 51 v) (hd : DataW.Trod enc Tryz.prog w 0 (fun _ => true) true 51 v d ps) : ∃ c, DsOk w v c := by
  obtain ⟨cs, rfl⟩ := agg_of Tryz.underlying51 h
  have hl := lvs_of_Trod hd 4 flat_dis
  rw [show (Value.agg cs).cells.toList = cs.toList from rfl] at hl
  generalize hcs : cs.toList = l at hl
  cases hl with | int _ hl => cases hl with | int _ hl => cases hl with | slice x1 _ _ _ s1 _ e1 hl => cases hl with | slice x2 _ _ _ s2 _ e2 hl => cases hl with | slice x3 _ _ _ s3 _ e3 hl => cases hl with | int _ hl => cases hl with | int _ hl => cases hl with | slice x4 _ _ _ s4 _ e4 hl =>
    cases hl
    obtain ⟨l1, h1, _⟩ := sl_ints s1 e1
    obtain ⟨l2, h2, _⟩ := sl_spans s2 e2
    obtain ⟨l3, h3, _⟩ := sl_ints s3 e3
    obtain ⟨l4, hu, _⟩ := cat_of (f := rpc) (xss := x4) fun xs hxs => rep_of_leaves (e4 xs hxs 4 _ flat_rep)
    rw [cells_rep, hu] at s4
    exact ⟨⟨⟨_, _, l1, l2, l3⟩, _, _, l4⟩, _, _, _, _, by rw [show cs = cs.toList.toArray by simp, hcs], ⟨_, _, _, rfl, h1, h2, h3⟩, s4⟩
theorem flat_lighter : flat Tryz.prog 4 53 = some [.int .i64, .int .i64, .int .i64] := by kernel_rfl
theorem lighter_of {H : Type} {enc : TypeId × Value → H} {w : World} {base : Nat} {v : Value} {d : DataW H} {ps : List MemPlace} (h : Value.okWide Tryz.prog w .any base 53 v) (hd : DataW.Trod enc Tryz.prog w 0 (fun _ => true) true 53 v d ps) : ∃ a b c, v = .agg #[I a, I b, I c] := by
  obtain ⟨cs, rfl⟩ := agg_of Tryz.underlying53 h
  obtain ⟨a, b, c, hl⟩ := leaves3 (lvs_of_Trod hd 4 flat_lighter)
  exact ⟨a, b, c, by rw [show cs = cs.toList.toArray by simp, show cs.toList = _ from hl]⟩
end Go.Proofs.YtpmodggfogahhaaGreatDoor

