/- Parts of a proof: the symbolic walk and what it shows of single functions. -/
import Derived.Test.YtaloedccoadedaaDoorF4
import Derived.Test.YtaloedccoadedaaDoorF5
import Derived.Test.YtaloedccoadedaaDoorX5
set_option linter.all false
namespace Go.Proofs.YtaloedccoadedaaDoor
open Go.RowKit Go.SX
set_option maxRecDepth 10000
set_option maxHeartbeats 0
set_option linter.unusedSimpArgs false
set_option linter.unusedVariables false
def pAll : Nat → Int := fun _ => NV
def Dis.pDbt (d : Dis) : Nat → Int := fun i => if (d.rep i).sure then NV else (d.rep i).weight
def pSome (S : Nat) : Nat → Int := fun i => if S.testBit i then NV else 0
theorem pAll_ok : priceOk 100 pAll := fun _ => .inl rfl
theorem pSome_ok (S : Nat) : priceOk 100 (pSome S) := fun i => by
  unfold pSome
  split
  · exact .inl rfl
  · exact .inr ⟨Int.le_refl _, by decide⟩
theorem Dis.rep_mem {d : Dis} {i : Nat} (h : i < d.rs.length) : d.rep i ∈ d.rs ∧ d.rs[i]? = some (d.rep i) := by
  have : d.rs[i]? = some (d.rep i) := getD_at h _
  exact ⟨List.mem_of_getElem? this, this⟩
theorem Dis.pDbt_ok {d : Dis} (hE : d.E = 0) : priceOk 100 d.pDbt := fun i => by
  obtain ⟨_, _, _, _, hr⟩ := Dis.E_zero hE
  unfold Dis.pDbt
  by_cases hs : (d.rep i).sure = true
  · rw [if_pos hs]; exact .inl rfl
  · rw [if_neg hs]
    by_cases hi : i < d.rs.length
    · have := wgt_bd (((repB_iff _ _).1 (hr _ (Dis.rep_mem hi).1)).2.2)
      exact .inr ⟨this.1, this.2.1⟩
    · have : d.rep i = rep0 := by unfold Dis.rep; rw [List.getD_eq_getElem?_getD, List.getElem?_eq_none (by omega)]; rfl
      rw [this]
      exact .inr ⟨Int.le_refl _, by decide⟩
theorem all_fn (w : World) (i : Int) : SX.Fn Tryd.prog 51 [I i] w (fun _ => False) fun q N => q = I NV := by
  refine walk [] [] (det0_ok _ _) Tryd.func51 rfl Tryd.ntmps51 res51 (by kernel_rfl) no_facts ?_
  simp (config := { maxSteps := 4000000 }) only [↓sx0, ↓sx1, ↓sx2, ↓sx3, ↓sx4, ↓sx5, ↓sx6, sx0, sx1, sx2, sx3, sx4, sx5, sx6, tf51, ev3_hold, sxo, sxc, sxp, sxq, sxr, sxs, sxl, sxm, simprocAttr]
  rfl
theorem all_prc (w : World) (m : Nat) : PrcOk w (.func (.func 51) #[] #[]) pAll m := ⟨51, [], [], rfl, Tryd.call51, fun w' _ i _ => all_fn w' i⟩
theorem doubt_fn (w : World) (bs : Nat) (d : Dis) (hc7 : ∃ v, w.cell? ⟨bs, 7, none⟩ = some v ∧ Sl w v 9 (cat rpc d.rs)) (i : Nat) (hi : i < d.rs.length) : SX.Fn Tryd.prog 59 [.pointer (some ⟨bs, 0, none⟩), I i] w (fun _ => False) fun q N => q = I (d.pDbt i) := by
  obtain ⟨v, hc7, hsR⟩ := hc7
  obtain ⟨aR, nR, cR, rfl⟩ := hsR.shape
  have hnR := hsR.le rpc_len (by omega)
  subst hnR
  have hrR := fun H => hsR.rd0 H
  have hr := (Dis.rep_mem hi).2
  unfold Dis.pDbt
  obtain ⟨⟨x1, x2, x3, x4, x5, x6, x7, s, x9⟩, hre⟩ : ∃ r, d.rep i = r := ⟨_, rfl⟩
  rw [hre] at hr ⊢
  simp only []
  refine walk [] [] (det0_ok _ _) Tryd.func59 rfl Tryd.ntmps59 res59 (by kernel_rfl) no_facts ?_
  simp (config := { maxSteps := 4000000 }) only [↓sx0, ↓sx1, ↓sx2, ↓sx3, ↓sx4, ↓sx5, ↓sx6, sx0, sx1, sx2, sx3, sx4, sx5, sx6, tf59, ev3_hold, sxo, sxc, sxp, sxq, sxr, sxs, sxl, sxm, simprocAttr]
  refine ld_olda (b := bs) (o := 7) rfl hc7 id ?_
  simp (config := { maxSteps := 4000000 }) only [↓sx0, ↓sx1, ↓sx2, ↓sx3, ↓sx4, ↓sx5, ↓sx6, sx0, sx1, sx2, sx3, sx4, sx5, sx6, tf59, ev3_hold, sxo, sxc, sxp, sxq, sxr, sxs, sxl, sxm, simprocAttr]
  refine at_n (hrR _) rpc_len (by omega) hr fun ad => ?_
  unfold rpc
  cases s with
  | true =>
    simp (config := { maxSteps := 4000000 }) only [↓sx0, ↓sx1, ↓sx2, ↓sx3, ↓sx4, ↓sx5, ↓sx6, sx0, sx1, sx2, sx3, sx4, sx5, sx6, tf59, ev3_hold, sxo, sxc, sxp, sxq, sxr, sxs, sxl, sxm, simprocAttr]
    all_goals rfl
  | false =>
    simp (config := { maxSteps := 4000000 }) only [↓sx0, ↓sx1, ↓sx2, ↓sx3, ↓sx4, ↓sx5, ↓sx6, sx0, sx1, sx2, sx3, sx4, sx5, sx6, tf59, ev3_hold, sxo, sxc, sxp, sxq, sxr, sxs, sxl, sxm, simprocAttr]
    all_goals rfl
theorem SeaOk.c7 {w : World} {bs : Nat} {d : Dis} (h : SeaOk w bs d) : ∃ v, w.cell? ⟨bs, 7, none⟩ = some v ∧ Sl w v 9 (cat rpc d.rs) := by
  obtain ⟨sD, sT, sS, sR, vA, vF, vX, hcel, _, hsR, _⟩ := h
  exact ⟨sR, hcel 7 _ rfl, hsR⟩
theorem SeaOk.kp {w w' : World} {bs : Nat} {d : Dis} (h : SeaOk w bs d) (hk : Keep (fun _ => False) w w') : SeaOk w' bs d := h.hp (H := []) ⟨hk, by simp, by simp, List.Pairwise.nil⟩
theorem doubt_prc {w : World} {bs : Nat} {d : Dis} (h : SeaOk w bs d) : PrcOk w (.func (.func 59) #[.pointer (some ⟨bs, 0, none⟩)] #[]) d.pDbt d.rs.length := ⟨59, [.pointer (some ⟨bs, 0, none⟩)], [], rfl, Tryd.call59, fun w' hk i hi => doubt_fn w' bs d (h.kp hk).c7 i hi⟩
theorem bit10 : ∀ s : Fin 1024, ∀ i : Fin 12, (bitS .and .i64 (((s.val : Nat) : Int).fdiv (2 ^ (min i.val IntKind.i64.bits))) 1 == 1) = s.val.testBit i.val := by
  decide +kernel
theorem some1_fn (w : World) (b S i : Nat) (hc : w.cell? ⟨b, 0, none⟩ = some (I S)) (hS : S < 1024) (hi : i < 12) : SX.Fn Tryd.prog 93 [I i, .pointer (some ⟨b, 0, none⟩)] w (fun _ => False) fun q N => q = I (pSome S i) := by
  have hb := bit10 ⟨S, hS⟩ ⟨i, hi⟩
  simp only [] at hb
  unfold pSome
  obtain ⟨B, hB⟩ : ∃ B, bitS .and .i64 ((S : Int).fdiv (2 ^ (min i IntKind.i64.bits))) 1 = B := ⟨_, rfl⟩
  rw [hB] at hb
  refine walk [] [] (det0_ok _ _) Tryd.func93 rfl Tryd.ntmps93 res93 (by kernel_rfl) no_facts ?_
  simp (config := { maxSteps := 4000000 }) only [↓sx0, ↓sx1, ↓sx2, ↓sx3, ↓sx4, ↓sx5, ↓sx6, sx0, sx1, sx2, sx3, sx4, sx5, sx6, tf93, ev3_hold, sxo, sxc, sxp, sxq, sxr, sxs, sxl, sxm, simprocAttr]
  refine ld_old hc id ?_
  cases ht : S.testBit i with
  | true =>
    rw [ht] at hb
    have e1 : (B = 1) = True := eq_true (by simpa using hb)
    simp (config := { maxSteps := 4000000 }) only [↓sx0, ↓sx1, ↓sx2, ↓sx3, ↓sx4, ↓sx5, ↓sx6, sx0, sx1, sx2, sx3, sx4, sx5, sx6, tf93, ev3_hold, sxo, sxc, sxp, sxq, sxr, sxs, sxl, sxm, simprocAttr, Int.toNat_natCast, hB, e1]
    exact ⟨by omega, rfl⟩
  | false =>
    rw [ht] at hb
    have e1 : (B = 1) = False := eq_false (by simpa using hb)
    simp (config := { maxSteps := 4000000 }) only [↓sx0, ↓sx1, ↓sx2, ↓sx3, ↓sx4, ↓sx5, ↓sx6, sx0, sx1, sx2, sx3, sx4, sx5, sx6, tf93, ev3_hold, sxo, sxc, sxp, sxq, sxr, sxs, sxl, sxm, simprocAttr, Int.toNat_natCast, hB, e1]
    omega
def someV (b : Nat) : Value := .func (.func 93) #[] #[.pointer (some ⟨b, 0, none⟩)]
theorem some_fn (w : World) (S : Int) : SX.Fn Tryd.prog 57 [I S] w (fun _ => False) fun q N => ∃ b, q = someV b ∧ HO.cells b 3 [I S] ∈ N := by
  refine walk [1] [] (det0_ok _ _) Tryd.func57 rfl Tryd.ntmps57 res57 (by kernel_rfl) no_facts ?_
  simp (config := { maxSteps := 4000000 }) only [↓sx0, ↓sx1, ↓sx2, ↓sx3, ↓sx4, ↓sx5, ↓sx6, sx0, sx1, sx2, sx3, sx4, sx5, sx6, tf57, ev3_hold, sxo, sxc, sxp, sxq, sxr, sxs, sxl, sxm, simprocAttr]
  intro b
  exact ⟨b, rfl, by simp⟩
theorem some_prc {w : World} {b S m : Nat} (hc : w.cell? ⟨b, 0, none⟩ = some (I S)) (hS : S < 1024) (hm : m ≤ 12) : PrcOk w (someV b) (pSome S) m := ⟨93, [], [.pointer (some ⟨b, 0, none⟩)], rfl, Tryd.call93, fun w' hk i hi => some1_fn w' b S i ((World.cell?_of_block (w := w) (hk.block b (World.block_lt_of_cell? w _ hc) id)).trans hc) hS (by omega)⟩
noncomputable def Dis.canB (d : Dis) (S : Nat) : Bool := decide ((d.crs (pSome S)).least < NV)
theorem can_fn (w : World) (bs : Nat) (d : Dis) (hs : SeaOk w bs d) (hE : d.E = 0) (S : Nat) (hS : S < 1024) : SX.Fn Tryd.prog 48 [.pointer (some ⟨bs, 0, none⟩), I S] w (fun _ => False) fun q N => q = .bool (d.canB S) := by
  obtain ⟨_, _, _, hm12, _⟩ := Dis.E_zero hE
  have hfi := fun (vp : Value) (H : List HO) w' (hp' : Hp ⟨w, fun _ => False⟩ H w') (h : PrcOk w' vp (pSome S) d.rs.length) => first_fn w' bs d (hs.hp hp') hE (pSome S) (pSome_ok S) vp h
  have dn : ∀ (g : Nat) (xs : List Value), det0 g xs = none := fun _ _ => rfl
  unfold Dis.canB
  unfold FirstP at hfi
  obtain ⟨g, hg⟩ : ∃ g, d.crs (pSome S) = g := ⟨_, rfl⟩
  simp only [hg] at hfi ⊢
  refine walk [] [] (det0_ok _ _) Tryd.func48 rfl Tryd.ntmps48 res48 (by kernel_rfl) no_facts ?_
  simp (config := { maxSteps := 4000000 }) only [↓sx0, ↓sx1, ↓sx2, ↓sx3, ↓sx4, ↓sx5, ↓sx6, sx0, sx1, sx2, sx3, sx4, sx5, sx6, tf48, ev3_hold, sxo, sxc, sxp, sxq, sxr, sxs, sxl, sxm, simprocAttr, dn]
  refine CallOb.pureH (fun w' hp => some_fn w' _) ?_
  rintro q N ⟨b, rfl, hN⟩
  refine ⟨?_⟩
  simp (config := { maxSteps := 4000000 }) only [↓sx0, ↓sx1, ↓sx2, ↓sx3, ↓sx4, ↓sx5, ↓sx6, sx0, sx1, sx2, sx3, sx4, sx5, sx6, tf48, ev3_hold, sxo, sxc, sxp, sxq, sxr, sxs, sxl, sxm, simprocAttr, dn]
  refine CallOb.pureH (fun w' hp => hfi (someV b) _ w' hp (some_prc (cells_hp (T := 3) hN hp) hS hm12)) ?_
  rintro q N2 (⟨h1, x, rfl, _⟩ | ⟨h1, rfl⟩)
  · have e1 : (g.least < 1073741824) = True := eq_true h1
    refine ⟨?_⟩
    simp (config := { maxSteps := 4000000 }) only [↓sx0, ↓sx1, ↓sx2, ↓sx3, ↓sx4, ↓sx5, ↓sx6, sx0, sx1, sx2, sx3, sx4, sx5, sx6, tf48, ev3_hold, sxo, sxc, sxp, sxq, sxr, sxs, sxl, sxm, simprocAttr, e1]
    rw [decide_eq_true h1]
  · refine ⟨?_⟩
    simp (config := { maxSteps := 4000000 }) only [↓sx0, ↓sx1, ↓sx2, ↓sx3, ↓sx4, ↓sx5, ↓sx6, sx0, sx1, sx2, sx3, sx4, sx5, sx6, tf48, ev3_hold, sxo, sxc, sxp, sxq, sxr, sxs, sxl, sxm, simprocAttr]
    rw [decide_eq_false h1]
end Go.Proofs.YtaloedccoadedaaDoor

namespace Go.Proofs.YtaloedccoadedaaDoor
open Go.RowKit Go.SX
set_option maxRecDepth 10000
set_option maxHeartbeats 0
set_option linter.unusedSimpArgs false
set_option linter.unusedVariables false
theorem SeaN.mono {N N' : List HO} {v : Value} {bs : Nat} {d : Dis} (h : SeaN N v bs d) (hm : ∀ h ∈ N, h ∈ N') : SeaN N' v bs d := by
  obtain ⟨sD, sT, sS, sR, vA, vF, vX, h1, h2, h3, h4, h5⟩ := h
  exact ⟨sD, sT, sS, sR, vA, vF, vX, h1, hm _ h2, h3.mono hm, h4.mono hm, h5.mono hm⟩
def CourseP (d : Dis) (q : Value) (N : List HO) : Prop := ∃ x, q = .tuple #[x, I (if d.E = 0 then (if (d.crs pAll).least < NV then 0 else 3) else d.E)] ∧ Got x 3 1 i1 (if d.E = 0 ∧ (d.crs pAll).least < NV then zs (d.crs pAll).first else []) N
theorem least_zero {d : Dis} (hE : d.E = 0) {p : Nat → Int} (hp : priceOk 100 p) : 0 ≤ (d.crs p).least ∧ (d.crs p).least ≤ NV := by
  have hgo := Dis.crs_ok hE hp
  have hT := hgo.T1
  refine ⟨?_, (d.crs p).leastC_top _⟩
  rcases (d.crs p).leastC_att (d.crs p).n with h | ⟨x, _, h⟩
  · unfold Crs.least
    rw [h]
    decide
  · unfold Crs.least
    rw [← h]
    exact (onw_pos hgo (by omega) x).1
theorem course_fn (w : World) (hw : Ways w) (v : Value) (d : Dis) (hd : DsOk w v d) (hsm : d.small) : SX.Fn Tryd.prog 17 [v] w (fun _ => False) (CourseP d) := by
  have hop := fun (H : List HO) w' (hp : Hp ⟨w, fun _ => False⟩ H w') => open3_fn w' (hw.hp hp) v d (hd.hp hp) hsm
  have hok := fun (bs : Nat) (N H : List HO) (h : SeaN N v bs d) (hm : ∀ h ∈ N, h ∈ H) w' (hp : Hp ⟨w, fun _ => False⟩ H w') => h.ok hm hd hp
  obtain ⟨sD, sT, sS, sR, rfl, hc, hsR⟩ := hd
  have dn : ∀ (g : Nat) (xs : List Value), det0 g xs = none := fun _ _ => rfl
  unfold CourseP
  unfold OpenP at hop
  refine walk [] [] (det0_ok _ _) Tryd.func17 rfl Tryd.ntmps17 res17 (by kernel_rfl) no_facts ?_
  simp (config := { maxSteps := 4000000 }) only [↓sx0, ↓sx1, ↓sx2, ↓sx3, ↓sx4, ↓sx5, ↓sx6, sx0, sx1, sx2, sx3, sx4, sx5, sx6, tf17, ev3_hold, sxo, sxc, sxp, sxq, sxr, sxs, sxl, sxm, simprocAttr, dn]
  refine CallOb.pureH (fun w' hp => hop _ w' hp) ?_
  rintro q N (⟨hE, rfl⟩ | ⟨hE, bs, rfl, hS⟩)
  · have p1 : (d.E = 0) = False := eq_false hE
    rw [if_neg hE, if_neg (fun h => hE h.1)]
    refine ⟨?_⟩
    simp (config := { maxSteps := 4000000 }) only [↓sx0, ↓sx1, ↓sx2, ↓sx3, ↓sx4, ↓sx5, ↓sx6, sx0, sx1, sx2, sx3, sx4, sx5, sx6, tf17, ev3_hold, sxo, sxc, sxp, sxq, sxr, sxs, sxl, sxm, simprocAttr, p1]
    first | exact ⟨_, rfl, Got.nil _⟩ | exact Got.nil _
  rw [if_pos hE]
  have hfi := fun (H : List HO) (hm : ∀ h ∈ N, h ∈ H) w' (hp : Hp ⟨w, fun _ => False⟩ H w') => first_fn w' bs d (hok bs N H hS hm w' hp) hE pAll pAll_ok _ (all_prc w' _)
  have hlz := (least_zero hE pAll_ok).2
  unfold FirstP at hfi
  obtain ⟨g, hg⟩ : ∃ g, d.crs pAll = g := ⟨_, rfl⟩
  simp only [hg] at hfi hlz ⊢
  refine ⟨?_⟩
  simp (config := { maxSteps := 4000000 }) only [↓sx0, ↓sx1, ↓sx2, ↓sx3, ↓sx4, ↓sx5, ↓sx6, sx0, sx1, sx2, sx3, sx4, sx5, sx6, tf17, ev3_hold, sxo, sxc, sxp, sxq, sxr, sxs, sxl, sxm, simprocAttr, dn]
  refine CallOb.pureH (fun w' hp => hfi _ (fun h hh => by simpa using hh) w' hp) ?_
  rintro q N2 (⟨hl, x, rfl, hG⟩ | ⟨hl, rfl⟩)
  · have p1 : (g.least = 1073741824) = False := eq_false fun h => by unfold NV at hl; omega
    rw [if_pos hl, if_pos ⟨hE, hl⟩]
    refine ⟨?_⟩
    simp (config := { maxSteps := 4000000 }) only [↓sx0, ↓sx1, ↓sx2, ↓sx3, ↓sx4, ↓sx5, ↓sx6, sx0, sx1, sx2, sx3, sx4, sx5, sx6, tf17, ev3_hold, sxo, sxc, sxp, sxq, sxr, sxs, sxl, sxm, simprocAttr, p1]
    first | exact ⟨_, rfl, hG.mono (by simp +contextual)⟩ | exact hG.mono (by simp +contextual)
  · rw [if_neg hl, if_neg (fun h => hl h.2)]
    refine ⟨?_⟩
    simp (config := { maxSteps := 4000000 }) only [↓sx0, ↓sx1, ↓sx2, ↓sx3, ↓sx4, ↓sx5, ↓sx6, sx0, sx1, sx2, sx3, sx4, sx5, sx6, tf17, ev3_hold, sxo, sxc, sxp, sxq, sxr, sxs, sxl, sxm, simprocAttr]
    first | exact ⟨_, rfl, Got.nil _⟩ | exact Got.nil _
end Go.Proofs.YtaloedccoadedaaDoor

namespace Go.Proofs.YtaloedccoadedaaDoor
open Go.RowKit Go.SX
set_option maxRecDepth 10000
set_option maxHeartbeats 0
set_option linter.unusedSimpArgs false
set_option linter.unusedVariables false
def DoubtP (d : Dis) (q : Value) (N : List HO) : Prop := ∃ x, q = .tuple #[I (if d.E = 0 ∧ (d.crs d.pDbt).least < NV then (d.crs d.pDbt).least else 0), x, I (if d.E = 0 then (if (d.crs d.pDbt).least < NV then 0 else 3) else d.E)] ∧ Got x 3 1 i1 (if d.E = 0 ∧ (d.crs d.pDbt).least < NV then zs (d.crs d.pDbt).first else []) N
theorem doubt3_fn (w : World) (hw : Ways w) (v : Value) (d : Dis) (hd : DsOk w v d) (hsm : d.small) : SX.Fn Tryd.prog 25 [v] w (fun _ => False) (DoubtP d) := by
  have hop := fun (H : List HO) w' (hp : Hp ⟨w, fun _ => False⟩ H w') => open3_fn w' (hw.hp hp) v d (hd.hp hp) hsm
  have hok := fun (bs : Nat) (N H : List HO) (h : SeaN N v bs d) (hm : ∀ h ∈ N, h ∈ H) w' (hp : Hp ⟨w, fun _ => False⟩ H w') => h.ok hm hd hp
  obtain ⟨sD, sT, sS, sR, rfl, hc, hsR⟩ := hd
  have dn : ∀ (g : Nat) (xs : List Value), det0 g xs = none := fun _ _ => rfl
  unfold DoubtP
  unfold OpenP at hop
  refine walk [] [] (det0_ok _ _) Tryd.func25 rfl Tryd.ntmps25 res25 (by kernel_rfl) no_facts ?_
  simp (config := { maxSteps := 4000000 }) only [↓sx0, ↓sx1, ↓sx2, ↓sx3, ↓sx4, ↓sx5, ↓sx6, sx0, sx1, sx2, sx3, sx4, sx5, sx6, tf25, ev3_hold, sxo, sxc, sxp, sxq, sxr, sxs, sxl, sxm, simprocAttr, dn]
  refine CallOb.pureH (fun w' hp => hop _ w' hp) ?_
  rintro q N (⟨hE, rfl⟩ | ⟨hE, bs, rfl, hS⟩)
  · have p1 : (d.E = 0) = False := eq_false hE
    rw [if_neg hE, if_neg (fun h => hE h.1), if_neg (fun h => hE h.1)]
    refine ⟨?_⟩
    simp (config := { maxSteps := 4000000 }) only [↓sx0, ↓sx1, ↓sx2, ↓sx3, ↓sx4, ↓sx5, ↓sx6, sx0, sx1, sx2, sx3, sx4, sx5, sx6, tf25, ev3_hold, sxo, sxc, sxp, sxq, sxr, sxs, sxl, sxm, simprocAttr, p1]
    first | exact ⟨_, rfl, Got.nil _⟩ | exact Got.nil _
  have hfi := fun (H : List HO) (hm : ∀ h ∈ N, h ∈ H) w' (hp : Hp ⟨w, fun _ => False⟩ H w') => first_fn w' bs d (hok bs N H hS hm w' hp) hE d.pDbt (Dis.pDbt_ok hE) _ (doubt_prc (hok bs N H hS hm w' hp))
  have hlz := (least_zero hE (Dis.pDbt_ok hE)).2
  unfold FirstP at hfi
  obtain ⟨g, hg⟩ : ∃ g, d.crs d.pDbt = g := ⟨_, rfl⟩
  simp only [hg] at hfi hlz ⊢
  rw [if_pos hE]
  refine ⟨?_⟩
  simp (config := { maxSteps := 4000000 }) only [↓sx0, ↓sx1, ↓sx2, ↓sx3, ↓sx4, ↓sx5, ↓sx6, sx0, sx1, sx2, sx3, sx4, sx5, sx6, tf25, ev3_hold, sxo, sxc, sxp, sxq, sxr, sxs, sxl, sxm, simprocAttr, dn]
  refine CallOb.pureH (fun w' hp => hfi _ (fun h hh => by simpa using hh) w' hp) ?_
  rintro q N2 (⟨hl, x, rfl, hG⟩ | ⟨hl, rfl⟩)
  · have p1 : (g.least = 1073741824) = False := eq_false fun h => by unfold NV at hl; omega
    rw [if_pos hl, if_pos ⟨hE, hl⟩, if_pos ⟨hE, hl⟩]
    refine ⟨?_⟩
    simp (config := { maxSteps := 4000000 }) only [↓sx0, ↓sx1, ↓sx2, ↓sx3, ↓sx4, ↓sx5, ↓sx6, sx0, sx1, sx2, sx3, sx4, sx5, sx6, tf25, ev3_hold, sxo, sxc, sxp, sxq, sxr, sxs, sxl, sxm, simprocAttr, p1]
    first | exact ⟨_, rfl, hG.mono (by simp +contextual)⟩ | exact hG.mono (by simp +contextual)
  · rw [if_neg hl, if_neg (fun h => hl h.2), if_neg (fun h => hl h.2)]
    refine ⟨?_⟩
    simp (config := { maxSteps := 4000000 }) only [↓sx0, ↓sx1, ↓sx2, ↓sx3, ↓sx4, ↓sx5, ↓sx6, sx0, sx1, sx2, sx3, sx4, sx5, sx6, tf25, ev3_hold, sxo, sxc, sxp, sxq, sxr, sxs, sxl, sxm, simprocAttr]
    first | exact ⟨_, rfl, Got.nil _⟩ | exact Got.nil _
end Go.Proofs.YtaloedccoadedaaDoor

