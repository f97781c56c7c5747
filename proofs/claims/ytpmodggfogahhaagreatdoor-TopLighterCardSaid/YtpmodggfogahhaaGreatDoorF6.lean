/- Parts of a proof: the symbolic walk and what it shows of single functions. -/
import Derived.Test.YtpmodggfogahhaaGreatDoorF4
import Derived.Test.YtpmodggfogahhaaGreatDoorF5
import Derived.Test.YtpmodggfogahhaaGreatDoorX5
set_option linter.all false
namespace Go.Proofs.YtpmodggfogahhaaGreatDoor
open Go.RowKit Go.SX
set_option maxRecDepth 10000
set_option maxHeartbeats 0
set_option linter.unusedSimpArgs false
set_option linter.unusedVariables false
def pAll : Nat → Int := fun _ => NV
def Dis.pDbt (d : Dis) : Nat → Int := fun i => if (d.rep i).sure then NV else (d.rep i).weight
theorem pAll_ok : priceOk 100 pAll := fun _ => .inl rfl
theorem Dis.rep_mem {d : Dis} {i : Nat} (h : i < d.rs.length) : d.rep i ∈ d.rs ∧ d.rs[i]? = some (d.rep i) := by
  have : d.rs[i]? = some (d.rep i) := getD_at h _
  exact ⟨List.mem_of_getElem? this, this⟩
theorem Dis.pDbt_ok {d : Dis} (hE : d.E = 0) : priceOk 100 d.pDbt := fun i => by
  obtain ⟨_, _, _, _, hr⟩ := Dis.E_zero hE
  unfold Dis.pDbt
  by_cases hs : (d.rep i).sure = true
  · rw [if_pos hs]; exact .inl rfl
  · rw [if_neg hs]
    by_cases hi : i < d.rs.length
    · have := wgt_bd (((repB_iff _ _).1 (hr _ (Dis.rep_mem hi).1)).2.2)
      exact .inr ⟨this.1, this.2.1⟩
    · have : d.rep i = rep0 := by unfold Dis.rep; rw [List.getD_eq_getElem?_getD, List.getElem?_eq_none (by omega)]; rfl
      rw [this]
      exact .inr ⟨Int.le_refl _, by decide⟩
theorem all_fn (w : World) (i : Int) : SX.Fn Tryz.prog 64 [I i] w (fun _ => False) fun q N => q = I NV := by
  refine walk [] [] (det0_ok _ _) Tryz.func64 rfl Tryz.ntmps64 res64 (by kernel_rfl) no_facts ?_
  simp (config := { maxSteps := 4000000 }) only [↓sx0, ↓sx1, ↓sx2, ↓sx3, ↓sx4, ↓sx5, ↓sx6, sx0, sx1, sx2, sx3, sx4, sx5, sx6, tf64, ev3_hold, sxo, sxc, sxp, sxq, sxr, sxs, sxl, sxm, simprocAttr]
  rfl
theorem all_prc (w : World) (m : Nat) : PrcOk w (.func (.func 64) #[] #[]) pAll m := ⟨64, [], [], rfl, Tryz.call64, fun w' _ i _ => all_fn w' i⟩
theorem doubt_fn (w : World) (bs : Nat) (d : Dis) (hc7 : ∃ v, w.cell? ⟨bs, 7, none⟩ = some v ∧ Sl w v 9 (cat rpc d.rs)) (i : Nat) (hi : i < d.rs.length) : SX.Fn Tryz.prog 67 [.pointer (some ⟨bs, 0, none⟩), I i] w (fun _ => False) fun q N => q = I (d.pDbt i) := by
  obtain ⟨v, hc7, hsR⟩ := hc7
  obtain ⟨aR, nR, cR, rfl⟩ := hsR.shape
  have hnR := hsR.le rpc_len (by omega)
  subst hnR
  have hrR := fun H => hsR.rd0 H
  have hr := (Dis.rep_mem hi).2
  unfold Dis.pDbt
  obtain ⟨⟨x1, x2, x3, x4, x5, x6, x7, s, x9⟩, hre⟩ : ∃ r, d.rep i = r := ⟨_, rfl⟩
  rw [hre] at hr ⊢
  simp only []
  refine walk [] [] (det0_ok _ _) Tryz.func67 rfl Tryz.ntmps67 res67 (by kernel_rfl) no_facts ?_
  simp (config := { maxSteps := 4000000 }) only [↓sx0, ↓sx1, ↓sx2, ↓sx3, ↓sx4, ↓sx5, ↓sx6, sx0, sx1, sx2, sx3, sx4, sx5, sx6, tf67, ev3_hold, sxo, sxc, sxp, sxq, sxr, sxs, sxl, sxm, simprocAttr]
  refine ld_olda (b := bs) (o := 7) rfl hc7 id ?_
  simp (config := { maxSteps := 4000000 }) only [↓sx0, ↓sx1, ↓sx2, ↓sx3, ↓sx4, ↓sx5, ↓sx6, sx0, sx1, sx2, sx3, sx4, sx5, sx6, tf67, ev3_hold, sxo, sxc, sxp, sxq, sxr, sxs, sxl, sxm, simprocAttr]
  refine at_n (hrR _) rpc_len (by omega) hr fun ad => ?_
  unfold rpc
  cases s with
  | true =>
    simp (config := { maxSteps := 4000000 }) only [↓sx0, ↓sx1, ↓sx2, ↓sx3, ↓sx4, ↓sx5, ↓sx6, sx0, sx1, sx2, sx3, sx4, sx5, sx6, tf67, ev3_hold, sxo, sxc, sxp, sxq, sxr, sxs, sxl, sxm, simprocAttr]
    all_goals rfl
  | false =>
    simp (config := { maxSteps := 4000000 }) only [↓sx0, ↓sx1, ↓sx2, ↓sx3, ↓sx4, ↓sx5, ↓sx6, sx0, sx1, sx2, sx3, sx4, sx5, sx6, tf67, ev3_hold, sxo, sxc, sxp, sxq, sxr, sxs, sxl, sxm, simprocAttr]
    all_goals rfl
theorem SeaOk.c7 {w : World} {bs : Nat} {d : Dis} (h : SeaOk w bs d) : ∃ v, w.cell? ⟨bs, 7, none⟩ = some v ∧ Sl w v 9 (cat rpc d.rs) := by
  obtain ⟨sD, sT, sS, sR, vA, vF, vX, hcel, _, hsR, _⟩ := h
  exact ⟨sR, hcel 7 _ rfl, hsR⟩
theorem SeaOk.kp {w w' : World} {bs : Nat} {d : Dis} (h : SeaOk w bs d) (hk : Keep (fun _ => False) w w') : SeaOk w' bs d := h.hp (H := []) ⟨hk, by simp, by simp, List.Pairwise.nil⟩
theorem doubt_prc {w : World} {bs : Nat} {d : Dis} (h : SeaOk w bs d) : PrcOk w (.func (.func 67) #[.pointer (some ⟨bs, 0, none⟩)] #[]) d.pDbt d.rs.length := ⟨67, [.pointer (some ⟨bs, 0, none⟩)], [], rfl, Tryz.call67, fun w' hk i hi => doubt_fn w' bs d (h.kp hk).c7 i hi⟩
end Go.Proofs.YtpmodggfogahhaaGreatDoor

namespace Go.Proofs.YtpmodggfogahhaaGreatDoor
open Go.RowKit Go.SX
set_option maxRecDepth 10000
set_option maxHeartbeats 0
set_option linter.unusedSimpArgs false
set_option linter.unusedVariables false
def chpL (n : Nat) (f : Nat → Int) (m : Int) : List Nat := (List.range n).filter fun x => decide (f x ≤ m)
theorem chpL_succ (n : Nat) (f : Nat → Int) (m : Int) : chpL (n + 1) f m = chpL n f m ++ (if f n ≤ m then [n] else []) := by
  unfold chpL
  rw [List.range_succ, List.filter_append]
  by_cases h : f n ≤ m <;> simp [h]
theorem chpL_len (n : Nat) (f : Nat → Int) (m : Int) : (chpL n f m).length ≤ n := Nat.le_trans (List.length_filter_le _ _) (by rw [List.length_range]; exact Nat.le_refl _)
theorem cheap_fn (w : World) (v : Value) (n : Nat) (hn : n ≤ 200) (f : Nat → Int) (m : Int) (hs : Sl w v 1 (ints (rowF n f))) : SX.Fn Tryz.prog 62 [v, I m] w (fun _ => False) fun q N => Got q 3 1 i1 (zs (chpL n f m)) N := by
  obtain ⟨a, na, c, rfl⟩ := hs.shape
  have hna := hs.le i1_len (by omega)
  rw [rowF_len] at hna
  subst hna
  have hr := hs.rd0
  refine walk [] [] (det0_ok _ _) Tryz.func62 rfl Tryz.ntmps62 res62 (by kernel_rfl) no_facts ?_
  simp (config := { maxSteps := 4000000 }) only [↓sx0, ↓sx1, ↓sx2, ↓sx3, ↓sx4, ↓sx5, ↓sx6, sx0, sx1, sx2, sx3, sx4, sx5, sx6, tf62, ev3_hold, sxo, sxc, sxp, sxq, sxr, sxs, sxl, sxm, simprocAttr]
  refine loop_constH [HO.row (.slice none 0 0) 3 1 (ints (zs (chpL 0 f m)))] ((HImp.nil _ _).trans (HImp.nilRow _ _ _ _)) [(5, 7), (10, 22)] (fun q : Nat × Option Addr × Nat => [(5, .slice q.2.1 (zs (chpL q.1 f m)).length q.2.2), (10, I q.1)])
    (fun q H1 => q.1 ≤ n ∧ (q.2.1 = none → zs (chpL q.1 f m) = []) ∧ H1 = [HO.row (.slice q.2.1 (zs (chpL q.1 f m)).length q.2.2) 3 1 (ints (zs (chpL q.1 f m)))]) (fun q => n - q.1) (0, none, 0) ?_ ⟨Nat.zero_le _, fun _ => rfl, rfl⟩ ?_
  · simp (config := { maxSteps := 4000000 }) only [↓sx0, ↓sx1, ↓sx2, ↓sx3, ↓sx4, ↓sx5, ↓sx6, sx0, sx1, sx2, sx3, sx4, sx5, sx6, tf62, ev3_hold, sxo, sxc, sxp, sxq, sxr, sxs, sxl, sxm, simprocAttr]
    try simp [chpL, zs]
  rintro ⟨k, ad, cp⟩ H1 g1 hinv
  simp only [] at hinv
  obtain ⟨hk, hnil, rfl⟩ := hinv
  by_cases hkn : k = n
  · have e7 : ((k : Int) < (n : Int)) = False := eq_false (by omega)
    subst hkn
    refine ⟨?_⟩
    simp (config := { maxSteps := 4000000 }) only [↓sx0, ↓sx1, ↓sx2, ↓sx3, ↓sx4, ↓sx5, ↓sx6, sx0, sx1, sx2, sx3, sx4, sx5, sx6, tf62, ev3_hold, sxo, sxc, sxp, sxq, sxr, sxs, sxl, sxm, simprocAttr, e7]
    exact Got.row rfl List.mem_cons_self hnil
  have e7 : ((k : Int) < (n : Int)) = True := eq_true (by omega)
  have e8 : wr (k + 1) = ((k + 1 : Nat) : Int) := (wrap_id (by omega)).trans (by omega)
  have hsu := chpL_succ k f m
  have hcl := chpL_len k f m
  have hzl := zs_len (chpL k f m)
  by_cases hle : f k ≤ m
  · have p1 : (f k ≤ m) = True := eq_true hle
    rw [if_pos hle] at hsu
    have hz2 : zs (chpL k f m) ++ [(k : Int)] = zs (chpL (k + 1) f m) := by rw [hsu, zs_app]; rfl
    have hz3 : (zs (chpL k f m)).length + 1 = (zs (chpL (k + 1) f m)).length := by rw [← hz2, List.length_append]; rfl
    refine ⟨?_⟩
    simp (config := { maxSteps := 4000000 }) only [↓sx0, ↓sx1, ↓sx2, ↓sx3, ↓sx4, ↓sx5, ↓sx6, sx0, sx1, sx2, sx3, sx4, sx5, sx6, tf62, ev3_hold, sxo, sxc, sxp, sxq, sxr, sxs, sxl, sxm, simprocAttr, e7]
    refine amid (at_1 (hr _) i1_len (rowF_get f (show k < n by omega)) rfl fun ad1 => ?_)
    simp (config := { maxSteps := 4000000 }) only [↓sx0, ↓sx1, ↓sx2, ↓sx3, ↓sx4, ↓sx5, ↓sx6, sx0, sx1, sx2, sx3, sx4, sx5, sx6, tf62, ev3_hold, sxo, sxc, sxp, sxq, sxr, sxs, sxl, sxm, simprocAttr, p1]
    intro b4
    refine app_one (l := zs (chpL k f m)) (k : Int) (HImp.refl _ _) i1_len i1_one (by omega) fun ad3 c3 => ?_
    rw [hz2, hz3]
    simp (config := { maxSteps := 4000000 }) only [↓sx0, ↓sx1, ↓sx2, ↓sx3, ↓sx4, ↓sx5, ↓sx6, sx0, sx1, sx2, sx3, sx4, sx5, sx6, tf62, ev3_hold, sxo, sxc, sxp, sxq, sxr, sxs, sxl, sxm, simprocAttr, e8]
    exact ⟨(k + 1, some ad3, c3), _, ⟨rfl, rfl⟩, HImp.refl _ _, ⟨by simp only []; omega, fun h => (by cases h), rfl⟩, by simp only []; omega⟩
  · have p1 : (f k ≤ m) = False := eq_false hle
    rw [if_neg hle, List.append_nil] at hsu
    refine ⟨?_⟩
    simp (config := { maxSteps := 4000000 }) only [↓sx0, ↓sx1, ↓sx2, ↓sx3, ↓sx4, ↓sx5, ↓sx6, sx0, sx1, sx2, sx3, sx4, sx5, sx6, tf62, ev3_hold, sxo, sxc, sxp, sxq, sxr, sxs, sxl, sxm, simprocAttr, e7]
    refine amid (at_1 (hr _) i1_len (rowF_get f (show k < n by omega)) rfl fun ad1 => ?_)
    simp (config := { maxSteps := 4000000 }) only [↓sx0, ↓sx1, ↓sx2, ↓sx3, ↓sx4, ↓sx5, ↓sx6, sx0, sx1, sx2, sx3, sx4, sx5, sx6, tf62, ev3_hold, sxo, sxc, sxp, sxq, sxr, sxs, sxl, sxm, simprocAttr, p1, e8]
    exact ⟨(k + 1, ad, cp), _, by simp only [hsu, and_self], HImp.refl _ _, ⟨by simp only []; omega, by simp only [hsu]; exact hnil, by simp only [hsu]⟩, by simp only []; omega⟩
noncomputable def Dis.E2 (d : Dis) (t k : Int) : Int := if d.E = 0 then (if inB t 0 ((d.c.tide.length : Int) - 1) && inB k 0 ((d.c.depth.length : Int) - 1) then 0 else 1) else d.E
theorem Dis.E2_zero {d : Dis} {t k : Int} (h : d.E2 t k = 0) : d.E = 0 ∧ (0 ≤ t ∧ t ≤ (d.c.tide.length : Int) - 1) ∧ 0 ≤ k ∧ k ≤ (d.c.depth.length : Int) - 1 := by
  unfold Dis.E2 at h
  split at h
  · rename_i h1
    split at h
    · rename_i h2
      rw [Bool.and_eq_true, inB_iff, inB_iff] at h2
      exact ⟨h1, h2⟩
    · cases h
  · rename_i h1
    exact absurd h h1
def AtP (v : Value) (d : Dis) (e : Int) (q : Value) (N : List HO) : Prop := (e ≠ 0 ∧ ∃ x, q = .tuple #[.pointer x, I e]) ∨ (e = 0 ∧ ∃ bs, q = .tuple #[.pointer (some ⟨bs, 0, none⟩), I 0] ∧ SeaN N v bs d)
theorem SeaN.mono {N N' : List HO} {v : Value} {bs : Nat} {d : Dis} (h : SeaN N v bs d) (hm : ∀ h ∈ N, h ∈ N') : SeaN N' v bs d := by
  obtain ⟨sD, sT, sS, sR, vA, vF, vX, h1, h2, h3, h4, h5⟩ := h
  exact ⟨sD, sT, sS, sR, vA, vF, vX, h1, hm _ h2, h3.mono hm, h4.mono hm, h5.mono hm⟩
theorem at3_fn (w : World) (hw : Ways w) (v : Value) (d : Dis) (hd : DsOk w v d) (hsm : d.small) (t k : Int) : SX.Fn Tryz.prog 61 [v, I t, I k] w (fun _ => False) (AtP v d (d.E2 t k)) := by
  have hop := fun (H : List HO) w' (hp : Hp ⟨w, fun _ => False⟩ H w') => open3_fn w' (hw.hp hp) v d (hd.hp hp) hsm
  obtain ⟨sD, sT, sS, sR, rfl, hc, hsR⟩ := hd
  obtain ⟨_, _, _, hh, hsD, hsT, hsS⟩ := hc
  cases hh
  obtain ⟨aD, nD, cD, rfl⟩ := hsD.shape
  obtain ⟨aT, nT, cT, rfl⟩ := hsT.shape
  have hnD := hsD.le i1_len (by omega)
  have hnT := hsT.le spc_len (by omega)
  subst hnD hnT
  have hdl : d.c.depth.length ≤ 200 := hsm.1.1
  have htl : d.c.tide.length ≤ 100 := hsm.1.2.1
  have e0 : wr ((d.c.depth.length : Int) - 1) = (d.c.depth.length : Int) - 1 := wrap_id (by omega)
  have e1 : wr ((d.c.tide.length : Int) - 1) = (d.c.tide.length : Int) - 1 := wrap_id (by omega)
  have dn : ∀ xs, detT 65 xs = none := fun _ => rfl
  unfold AtP Dis.E2
  unfold OpenP at hop
  refine walk [] [] (detT_ok _ _) Tryz.func61 rfl Tryz.ntmps61 res61 (by kernel_rfl) no_facts ?_
  simp (config := { maxSteps := 4000000 }) only [↓sx0, ↓sx1, ↓sx2, ↓sx3, ↓sx4, ↓sx5, ↓sx6, sx0, sx1, sx2, sx3, sx4, sx5, sx6, tf61, ev3_hold, sxo, sxc, sxp, sxq, sxr, sxs, sxl, sxm, simprocAttr, dn]
  refine CallOb.pureH (fun w' hp => hop _ w' hp) ?_
  rintro q N (⟨hE, rfl⟩ | ⟨hE, bs, rfl, hS⟩)
  · have p1 : (d.E = 0) = False := eq_false hE
    rw [if_neg hE]
    refine ⟨?_⟩
    simp (config := { maxSteps := 4000000 }) only [↓sx0, ↓sx1, ↓sx2, ↓sx3, ↓sx4, ↓sx5, ↓sx6, sx0, sx1, sx2, sx3, sx4, sx5, sx6, tf61, ev3_hold, sxo, sxc, sxp, sxq, sxr, sxs, sxl, sxm, simprocAttr, p1]
    first | exact .inl ⟨hE, _, rfl, rfl⟩ | exact .inl ⟨_, rfl⟩ | exact .inl ⟨hE, _, rfl⟩
  rw [if_pos hE]
  cases h1 : inB t 0 ((d.c.tide.length : Int) - 1) with
  | false =>
    refine ⟨?_⟩
    simp (config := { maxSteps := 4000000 }) only [↓sx0, ↓sx1, ↓sx2, ↓sx3, ↓sx4, ↓sx5, ↓sx6, sx0, sx1, sx2, sx3, sx4, sx5, sx6, tf61, ev3_hold, sxo, sxc, sxp, sxq, sxr, sxs, sxl, sxm, simprocAttr, detT_eq, e1, h1]
    first | exact .inl ⟨_, rfl⟩ | exact .inl ⟨by decide, _, rfl⟩
  | true =>
  cases h2 : inB k 0 ((d.c.depth.length : Int) - 1) with
  | false =>
    refine ⟨?_⟩
    simp (config := { maxSteps := 4000000 }) only [↓sx0, ↓sx1, ↓sx2, ↓sx3, ↓sx4, ↓sx5, ↓sx6, sx0, sx1, sx2, sx3, sx4, sx5, sx6, tf61, ev3_hold, sxo, sxc, sxp, sxq, sxr, sxs, sxl, sxm, simprocAttr, detT_eq, e0, e1, h1, h2]
    first | exact .inl ⟨_, rfl⟩ | exact .inl ⟨by decide, _, rfl⟩
  | true =>
    refine ⟨?_⟩
    simp (config := { maxSteps := 4000000 }) only [↓sx0, ↓sx1, ↓sx2, ↓sx3, ↓sx4, ↓sx5, ↓sx6, sx0, sx1, sx2, sx3, sx4, sx5, sx6, tf61, ev3_hold, sxo, sxc, sxp, sxq, sxr, sxs, sxl, sxm, simprocAttr, detT_eq, e0, e1, h1, h2]
    have hS := hS.mono (N' := N ++ []) (fun h hh => List.mem_append_left _ hh)
    rw [List.append_nil] at hS
    first | exact .inr ⟨bs, rfl, hS⟩ | exact .inr ⟨rfl, bs, rfl, hS⟩
noncomputable def Dis.whrL (d : Dis) (t : Int) : List Nat := chpL d.c.depth.length ((d.crs pAll).thr t.toNat) 0
def WhereP (d : Dis) (t : Int) (q : Value) (N : List HO) : Prop := ∃ x, q = .tuple #[x, I (if d.E2 t 0 = 0 then (if d.whrL t = [] then 3 else 0) else d.E2 t 0)] ∧ Got x 3 1 i1 (if d.E2 t 0 = 0 then zs (d.whrL t) else []) N
theorem where_fn (w : World) (hw : Ways w) (v : Value) (d : Dis) (hd : DsOk w v d) (hsm : d.small) (t : Int) : SX.Fn Tryz.prog 22 [v, I t] w (fun _ => False) (WhereP d t) := by
  have hat := fun (H : List HO) w' (hp : Hp ⟨w, fun _ => False⟩ H w') => at3_fn w' (hw.hp hp) v d (hd.hp hp) hsm t 0
  have hok := fun (bs : Nat) (N H : List HO) (h : SeaN N v bs d) (hm : ∀ h ∈ N, h ∈ H) w' (hp : Hp ⟨w, fun _ => False⟩ H w') => h.ok hm hd hp
  obtain ⟨sD, sT, sS, sR, rfl, hc, hsR⟩ := hd
  have dn : ∀ (g : Nat) (xs : List Value), det0 g xs = none := fun _ _ => rfl
  unfold WhereP
  unfold AtP at hat
  refine walk [] [] (det0_ok _ _) Tryz.func22 rfl Tryz.ntmps22 res22 (by kernel_rfl) no_facts ?_
  simp (config := { maxSteps := 4000000 }) only [↓sx0, ↓sx1, ↓sx2, ↓sx3, ↓sx4, ↓sx5, ↓sx6, sx0, sx1, sx2, sx3, sx4, sx5, sx6, tf22, ev3_hold, sxo, sxc, sxp, sxq, sxr, sxs, sxl, sxm, simprocAttr, dn]
  refine CallOb.pureH (fun w' hp => hat _ w' hp) ?_
  rintro q N (⟨hE, x, rfl⟩ | ⟨hE, bs, rfl, hS⟩)
  · have p1 : (d.E2 t 0 = 0) = False := eq_false hE
    rw [if_neg hE, if_neg hE]
    refine ⟨?_⟩
    simp (config := { maxSteps := 4000000 }) only [↓sx0, ↓sx1, ↓sx2, ↓sx3, ↓sx4, ↓sx5, ↓sx6, sx0, sx1, sx2, sx3, sx4, sx5, sx6, tf22, ev3_hold, sxo, sxc, sxp, sxq, sxr, sxs, sxl, sxm, simprocAttr, p1]
    first | exact ⟨_, rfl, Got.nil _⟩ | exact Got.nil _
  obtain ⟨hE0, ht, _⟩ := Dis.E2_zero hE
  rw [if_pos hE, if_pos hE]
  obtain ⟨hok1, _, _, hm12, _⟩ := Dis.E_zero hE0
  have h144 : d.c.depth.length ≤ 200 := hsm.1.1
  obtain ⟨T0, rfl⟩ : ∃ T0 : Nat, t = T0 := ⟨t.toNat, by omega⟩
  have hth := fun (H : List HO) (hm : ∀ h ∈ N, h ∈ H) w' (hp : Hp ⟨w, fun _ => False⟩ H w') => through_fn w' bs d (hok bs N H hS hm w' hp) hE0 pAll pAll_ok _ (all_prc w' _) T0 (by omega)
  unfold Dis.whrL
  rw [Int.toNat_natCast]
  refine ⟨?_⟩
  simp (config := { maxSteps := 4000000 }) only [↓sx0, ↓sx1, ↓sx2, ↓sx3, ↓sx4, ↓sx5, ↓sx6, sx0, sx1, sx2, sx3, sx4, sx5, sx6, tf22, ev3_hold, sxo, sxc, sxp, sxq, sxr, sxs, sxl, sxm, simprocAttr, dn]
  refine CallOb.pureH (fun w' hp => hth _ (fun h hh => by simpa using hh) w' hp) ?_
  rintro q N2 ⟨b, rfl, hN2⟩
  refine ⟨?_⟩
  simp (config := { maxSteps := 4000000 }) only [↓sx0, ↓sx1, ↓sx2, ↓sx3, ↓sx4, ↓sx5, ↓sx6, sx0, sx1, sx2, sx3, sx4, sx5, sx6, tf22, ev3_hold, sxo, sxc, sxp, sxq, sxr, sxs, sxl, sxm, simprocAttr, dn]
  refine CallOb.pureH (fun w' hp => cheap_fn w' _ _ (by omega) ((d.crs pAll).thr T0) 0 (row_hp (E := 3) (List.mem_append_left _ hN2) hp)) ?_
  rintro q N3 hG
  obtain ⟨L, hL⟩ : ∃ L, chpL d.c.depth.length ((d.crs pAll).thr T0) 0 = L := ⟨_, rfl⟩
  rw [hL] at hG ⊢
  obtain ⟨ax, cx, rfl⟩ := hG.shape
  have hzl := zs_len L
  by_cases hn : L = []
  · subst hn
    have p0 : (((zs ([] : List Nat)).length : Int) = 0) = True := eq_true rfl
    refine ⟨?_⟩
    simp (config := { maxSteps := 4000000 }) only [↓sx0, ↓sx1, ↓sx2, ↓sx3, ↓sx4, ↓sx5, ↓sx6, sx0, sx1, sx2, sx3, sx4, sx5, sx6, tf22, ev3_hold, sxo, sxc, sxp, sxq, sxr, sxs, sxl, sxm, simprocAttr, p0]
    first | exact ⟨_, ⟨rfl, rfl⟩, Got.nil _⟩ | exact Got.nil _ | exact ⟨_, rfl, Got.nil _⟩
  · have p1 : (((zs L).length : Int) = 0) = False := eq_false fun h => hn (List.eq_nil_of_length_eq_zero (by omega))
    rw [if_neg hn]
    refine ⟨?_⟩
    simp (config := { maxSteps := 4000000 }) only [↓sx0, ↓sx1, ↓sx2, ↓sx3, ↓sx4, ↓sx5, ↓sx6, sx0, sx1, sx2, sx3, sx4, sx5, sx6, tf22, ev3_hold, sxo, sxc, sxp, sxq, sxr, sxs, sxl, sxm, simprocAttr, p1]
    first | exact hG.mono (by simp +contextual) | exact ⟨_, rfl, hG.mono (by simp +contextual)⟩
def CourseP (d : Dis) (q : Value) (N : List HO) : Prop := ∃ x, q = .tuple #[x, I (if d.E = 0 then (if (d.crs pAll).least < NV then 0 else 3) else d.E)] ∧ Got x 3 1 i1 (if d.E = 0 ∧ (d.crs pAll).least < NV then zs (d.crs pAll).first else []) N
theorem least_zero {d : Dis} (hE : d.E = 0) {p : Nat → Int} (hp : priceOk 100 p) : 0 ≤ (d.crs p).least ∧ (d.crs p).least ≤ NV := by
  have hgo := Dis.crs_ok hE hp
  have hT := hgo.T1
  refine ⟨?_, (d.crs p).leastC_top _⟩
  rcases (d.crs p).leastC_att (d.crs p).n with h | ⟨x, _, h⟩
  · unfold Crs.least
    rw [h]
    decide
  · unfold Crs.least
    rw [← h]
    exact (onw_pos hgo (by omega) x).1
theorem course_fn (w : World) (hw : Ways w) (v : Value) (d : Dis) (hd : DsOk w v d) (hsm : d.small) : SX.Fn Tryz.prog 45 [v] w (fun _ => False) (CourseP d) := by
  have hop := fun (H : List HO) w' (hp : Hp ⟨w, fun _ => False⟩ H w') => open3_fn w' (hw.hp hp) v d (hd.hp hp) hsm
  have hok := fun (bs : Nat) (N H : List HO) (h : SeaN N v bs d) (hm : ∀ h ∈ N, h ∈ H) w' (hp : Hp ⟨w, fun _ => False⟩ H w') => h.ok hm hd hp
  obtain ⟨sD, sT, sS, sR, rfl, hc, hsR⟩ := hd
  have dn : ∀ (g : Nat) (xs : List Value), det0 g xs = none := fun _ _ => rfl
  unfold CourseP
  unfold OpenP at hop
  refine walk [] [] (det0_ok _ _) Tryz.func45 rfl Tryz.ntmps45 res45 (by kernel_rfl) no_facts ?_
  simp (config := { maxSteps := 4000000 }) only [↓sx0, ↓sx1, ↓sx2, ↓sx3, ↓sx4, ↓sx5, ↓sx6, sx0, sx1, sx2, sx3, sx4, sx5, sx6, tf45, ev3_hold, sxo, sxc, sxp, sxq, sxr, sxs, sxl, sxm, simprocAttr, dn]
  refine CallOb.pureH (fun w' hp => hop _ w' hp) ?_
  rintro q N (⟨hE, rfl⟩ | ⟨hE, bs, rfl, hS⟩)
  · have p1 : (d.E = 0) = False := eq_false hE
    rw [if_neg hE, if_neg (fun h => hE h.1)]
    refine ⟨?_⟩
    simp (config := { maxSteps := 4000000 }) only [↓sx0, ↓sx1, ↓sx2, ↓sx3, ↓sx4, ↓sx5, ↓sx6, sx0, sx1, sx2, sx3, sx4, sx5, sx6, tf45, ev3_hold, sxo, sxc, sxp, sxq, sxr, sxs, sxl, sxm, simprocAttr, p1]
    first | exact ⟨_, rfl, Got.nil _⟩ | exact Got.nil _
  rw [if_pos hE]
  have hfi := fun (H : List HO) (hm : ∀ h ∈ N, h ∈ H) w' (hp : Hp ⟨w, fun _ => False⟩ H w') => first_fn w' bs d (hok bs N H hS hm w' hp) hE pAll pAll_ok _ (all_prc w' _)
  have hlz := (least_zero hE pAll_ok).2
  unfold FirstP at hfi
  obtain ⟨g, hg⟩ : ∃ g, d.crs pAll = g := ⟨_, rfl⟩
  simp only [hg] at hfi hlz ⊢
  refine ⟨?_⟩
  simp (config := { maxSteps := 4000000 }) only [↓sx0, ↓sx1, ↓sx2, ↓sx3, ↓sx4, ↓sx5, ↓sx6, sx0, sx1, sx2, sx3, sx4, sx5, sx6, tf45, ev3_hold, sxo, sxc, sxp, sxq, sxr, sxs, sxl, sxm, simprocAttr, dn]
  refine CallOb.pureH (fun w' hp => hfi _ (fun h hh => by simpa using hh) w' hp) ?_
  rintro q N2 (⟨hl, x, rfl, hG⟩ | ⟨hl, rfl⟩)
  · have p1 : (g.least = 1073741824) = False := eq_false fun h => by unfold NV at hl; omega
    rw [if_pos hl, if_pos ⟨hE, hl⟩]
    refine ⟨?_⟩
    simp (config := { maxSteps := 4000000 }) only [↓sx0, ↓sx1, ↓sx2, ↓sx3, ↓sx4, ↓sx5, ↓sx6, sx0, sx1, sx2, sx3, sx4, sx5, sx6, tf45, ev3_hold, sxo, sxc, sxp, sxq, sxr, sxs, sxl, sxm, simprocAttr, p1]
    first | exact ⟨_, rfl, hG.mono (by simp +contextual)⟩ | exact hG.mono (by simp +contextual)
  · rw [if_neg hl, if_neg (fun h => hl h.2)]
    refine ⟨?_⟩
    simp (config := { maxSteps := 4000000 }) only [↓sx0, ↓sx1, ↓sx2, ↓sx3, ↓sx4, ↓sx5, ↓sx6, sx0, sx1, sx2, sx3, sx4, sx5, sx6, tf45, ev3_hold, sxo, sxc, sxp, sxq, sxr, sxs, sxl, sxm, simprocAttr]
    first | exact ⟨_, rfl, Got.nil _⟩ | exact Got.nil _
end Go.Proofs.YtpmodggfogahhaaGreatDoor

namespace Go.Proofs.YtpmodggfogahhaaGreatDoor
open Go.RowKit Go.SX
set_option maxRecDepth 10000
set_option maxHeartbeats 0
set_option linter.unusedSimpArgs false
set_option linter.unusedVariables false
def DoubtP (d : Dis) (q : Value) (N : List HO) : Prop := ∃ x, q = .tuple #[I (if d.E = 0 ∧ (d.crs d.pDbt).least < NV then (d.crs d.pDbt).least else 0), x, I (if d.E = 0 then (if (d.crs d.pDbt).least < NV then 0 else 3) else d.E)] ∧ Got x 3 1 i1 (if d.E = 0 ∧ (d.crs d.pDbt).least < NV then zs (d.crs d.pDbt).first else []) N
theorem doubt3_fn (w : World) (hw : Ways w) (v : Value) (d : Dis) (hd : DsOk w v d) (hsm : d.small) : SX.Fn Tryz.prog 23 [v] w (fun _ => False) (DoubtP d) := by
  have hop := fun (H : List HO) w' (hp : Hp ⟨w, fun _ => False⟩ H w') => open3_fn w' (hw.hp hp) v d (hd.hp hp) hsm
  have hok := fun (bs : Nat) (N H : List HO) (h : SeaN N v bs d) (hm : ∀ h ∈ N, h ∈ H) w' (hp : Hp ⟨w, fun _ => False⟩ H w') => h.ok hm hd hp
  obtain ⟨sD, sT, sS, sR, rfl, hc, hsR⟩ := hd
  have dn : ∀ (g : Nat) (xs : List Value), det0 g xs = none := fun _ _ => rfl
  unfold DoubtP
  unfold OpenP at hop
  refine walk [] [] (det0_ok _ _) Tryz.func23 rfl Tryz.ntmps23 res23 (by kernel_rfl) no_facts ?_
  simp (config := { maxSteps := 4000000 }) only [↓sx0, ↓sx1, ↓sx2, ↓sx3, ↓sx4, ↓sx5, ↓sx6, sx0, sx1, sx2, sx3, sx4, sx5, sx6, tf23, ev3_hold, sxo, sxc, sxp, sxq, sxr, sxs, sxl, sxm, simprocAttr, dn]
  refine CallOb.pureH (fun w' hp => hop _ w' hp) ?_
  rintro q N (⟨hE, rfl⟩ | ⟨hE, bs, rfl, hS⟩)
  · have p1 : (d.E = 0) = False := eq_false hE
    rw [if_neg hE, if_neg (fun h => hE h.1), if_neg (fun h => hE h.1)]
    refine ⟨?_⟩
    simp (config := { maxSteps := 4000000 }) only [↓sx0, ↓sx1, ↓sx2, ↓sx3, ↓sx4, ↓sx5, ↓sx6, sx0, sx1, sx2, sx3, sx4, sx5, sx6, tf23, ev3_hold, sxo, sxc, sxp, sxq, sxr, sxs, sxl, sxm, simprocAttr, p1]
    first | exact ⟨_, rfl, Got.nil _⟩ | exact Got.nil _
  have hfi := fun (H : List HO) (hm : ∀ h ∈ N, h ∈ H) w' (hp : Hp ⟨w, fun _ => False⟩ H w') => first_fn w' bs d (hok bs N H hS hm w' hp) hE d.pDbt (Dis.pDbt_ok hE) _ (doubt_prc (hok bs N H hS hm w' hp))
  have hlz := (least_zero hE (Dis.pDbt_ok hE)).2
  unfold FirstP at hfi
  obtain ⟨g, hg⟩ : ∃ g, d.crs d.pDbt = g := ⟨_, rfl⟩
  simp only [hg] at hfi hlz ⊢
  rw [if_pos hE]
  refine ⟨?_⟩
  simp (config := { maxSteps := 4000000 }) only [↓sx0, ↓sx1, ↓sx2, ↓sx3, ↓sx4, ↓sx5, ↓sx6, sx0, sx1, sx2, sx3, sx4, sx5, sx6, tf23, ev3_hold, sxo, sxc, sxp, sxq, sxr, sxs, sxl, sxm, simprocAttr, dn]
  refine CallOb.pureH (fun w' hp => hfi _ (fun h hh => by simpa using hh) w' hp) ?_
  rintro q N2 (⟨hl, x, rfl, hG⟩ | ⟨hl, rfl⟩)
  · have p1 : (g.least = 1073741824) = False := eq_false fun h => by unfold NV at hl; omega
    rw [if_pos hl, if_pos ⟨hE, hl⟩, if_pos ⟨hE, hl⟩]
    refine ⟨?_⟩
    simp (config := { maxSteps := 4000000 }) only [↓sx0, ↓sx1, ↓sx2, ↓sx3, ↓sx4, ↓sx5, ↓sx6, sx0, sx1, sx2, sx3, sx4, sx5, sx6, tf23, ev3_hold, sxo, sxc, sxp, sxq, sxr, sxs, sxl, sxm, simprocAttr, p1]
    first | exact ⟨_, rfl, hG.mono (by simp +contextual)⟩ | exact hG.mono (by simp +contextual)
  · rw [if_neg hl, if_neg (fun h => hl h.2), if_neg (fun h => hl h.2)]
    refine ⟨?_⟩
    simp (config := { maxSteps := 4000000 }) only [↓sx0, ↓sx1, ↓sx2, ↓sx3, ↓sx4, ↓sx5, ↓sx6, sx0, sx1, sx2, sx3, sx4, sx5, sx6, tf23, ev3_hold, sxo, sxc, sxp, sxq, sxr, sxs, sxl, sxm, simprocAttr]
    first | exact ⟨_, rfl, Got.nil _⟩ | exact Got.nil _
end Go.Proofs.YtpmodggfogahhaaGreatDoor

