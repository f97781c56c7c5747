/- Parts of a proof: the symbolic walk and what it shows of single functions. -/
import Derived.Test.YtnbogcpnpcbjgaaGreatDoorF4
import Derived.Test.YtnbogcpnpcbjgaaGreatDoorF5
import Derived.Test.YtnbogcpnpcbjgaaGreatDoorX5
set_option linter.all false
namespace Go.Proofs.YtnbogcpnpcbjgaaGreatDoor
open Go.RowKit Go.SX
set_option maxRecDepth 10000
set_option maxHeartbeats 0
set_option linter.unusedSimpArgs false
set_option linter.unusedVariables false
def pAll : Nat → Int := fun _ => NV
theorem pAll_ok : priceOk 100 pAll := fun _ => .inl rfl
theorem all_fn (w : World) (i : Int) : SX.Fn Tryz.prog 44 [I i] w (fun _ => False) fun q N => q = I NV := by
  refine walk [] [] (det0_ok _ _) Tryz.func44 rfl Tryz.ntmps44 res44 (by kernel_rfl) no_facts ?_
  simp (config := { maxSteps := 4000000 }) only [↓sx0, ↓sx1, ↓sx2, ↓sx3, ↓sx4, ↓sx5, ↓sx6, sx0, sx1, sx2, sx3, sx4, sx5, sx6, tf44, ev3_hold, sxo, sxc, sxp, sxq, sxr, sxs, sxl, sxm, simprocAttr]
  rfl
theorem all_prc (w : World) (m : Nat) : PrcOk w (.func (.func 44) #[] #[]) pAll m := ⟨44, [], [], rfl, Tryz.call44, fun w' _ i _ => all_fn w' i⟩
end Go.Proofs.YtnbogcpnpcbjgaaGreatDoor

namespace Go.Proofs.YtnbogcpnpcbjgaaGreatDoor
open Go.RowKit Go.SX
set_option maxRecDepth 10000
set_option maxHeartbeats 0
set_option linter.unusedSimpArgs false
set_option linter.unusedVariables false
theorem SeaN.mono {N N' : List HO} {v : Value} {bs : Nat} {d : Dis} (h : SeaN N v bs d) (hm : ∀ h ∈ N, h ∈ N') : SeaN N' v bs d := by
  obtain ⟨sD, sT, sS, sR, vA, vF, vX, h1, h2, h3, h4, h5⟩ := h
  exact ⟨sD, sT, sS, sR, vA, vF, vX, h1, hm _ h2, h3.mono hm, h4.mono hm, h5.mono hm⟩
def CourseP (d : Dis) (q : Value) (N : List HO) : Prop := ∃ x, q = .tuple #[x, I (if d.E = 0 then (if (d.crs pAll).least < NV then 0 else 3) else d.E)] ∧ Got x 3 1 i1 (if d.E = 0 ∧ (d.crs pAll).least < NV then zs (d.crs pAll).first else []) N
theorem least_zero {d : Dis} (hE : d.E = 0) {p : Nat → Int} (hp : priceOk 100 p) : 0 ≤ (d.crs p).least ∧ (d.crs p).least ≤ NV := by
  have hgo := Dis.crs_ok hE hp
  have hT := hgo.T1
  refine ⟨?_, (d.crs p).leastC_top _⟩
  rcases (d.crs p).leastC_att (d.crs p).n with h | ⟨x, _, h⟩
  · unfold Crs.least
    rw [h]
    decide
  · unfold Crs.least
    rw [← h]
    exact (onw_pos hgo (by omega) x).1
theorem course_fn (w : World) (hw : Ways w) (v : Value) (d : Dis) (hd : DsOk w v d) (hsm : d.small) : SX.Fn Tryz.prog 37 [v] w (fun _ => False) (CourseP d) := by
  have hop := fun (H : List HO) w' (hp : Hp ⟨w, fun _ => False⟩ H w') => open3_fn w' (hw.hp hp) v d (hd.hp hp) hsm
  have hok := fun (bs : Nat) (N H : List HO) (h : SeaN N v bs d) (hm : ∀ h ∈ N, h ∈ H) w' (hp : Hp ⟨w, fun _ => False⟩ H w') => h.ok hm hd hp
  obtain ⟨sD, sT, sS, sR, rfl, hc, hsR⟩ := hd
  have dn : ∀ (g : Nat) (xs : List Value), det0 g xs = none := fun _ _ => rfl
  unfold CourseP
  unfold OpenP at hop
  refine walk [] [] (det0_ok _ _) Tryz.func37 rfl Tryz.ntmps37 res37 (by kernel_rfl) no_facts ?_
  simp (config := { maxSteps := 4000000 }) only [↓sx0, ↓sx1, ↓sx2, ↓sx3, ↓sx4, ↓sx5, ↓sx6, sx0, sx1, sx2, sx3, sx4, sx5, sx6, tf37, ev3_hold, sxo, sxc, sxp, sxq, sxr, sxs, sxl, sxm, simprocAttr, dn]
  refine CallOb.pureH (fun w' hp => hop _ w' hp) ?_
  rintro q N (⟨hE, rfl⟩ | ⟨hE, bs, rfl, hS⟩)
  · have p1 : (d.E = 0) = False := eq_false hE
    rw [if_neg hE, if_neg (fun h => hE h.1)]
    refine ⟨?_⟩
    simp (config := { maxSteps := 4000000 }) only [↓sx0, ↓sx1, ↓sx2, ↓sx3, ↓sx4, ↓sx5, ↓sx6, sx0, sx1, sx2, sx3, sx4, sx5, sx6, tf37, ev3_hold, sxo, sxc, sxp, sxq, sxr, sxs, sxl, sxm, simprocAttr, p1]
    first | exact ⟨_, rfl, Got.nil _⟩ | exact Got.nil _
  rw [if_pos hE]
  have hfi := fun (H : List HO) (hm : ∀ h ∈ N, h ∈ H) w' (hp : Hp ⟨w, fun _ => False⟩ H w') => first_fn w' bs d (hok bs N H hS hm w' hp) hE pAll pAll_ok _ (all_prc w' _)
  have hlz := (least_zero hE pAll_ok).2
  unfold FirstP at hfi
  obtain ⟨g, hg⟩ : ∃ g, d.crs pAll = g := ⟨_, rfl⟩
  simp only [hg] at hfi hlz ⊢
  refine ⟨?_⟩
  simp (config := { maxSteps := 4000000 }) only [↓sx0, ↓sx1, ↓sx2, ↓sx3, ↓sx4, ↓sx5, ↓sx6, sx0, sx1, sx2, sx3, sx4, sx5, sx6, tf37, ev3_hold, sxo, sxc, sxp, sxq, sxr, sxs, sxl, sxm, simprocAttr, dn]
  refine CallOb.pureH (fun w' hp => hfi _ (fun h hh => by simpa using hh) w' hp) ?_
  rintro q N2 (⟨hl, x, rfl, hG⟩ | ⟨hl, rfl⟩)
  · have p1 : (g.least = 1073741824) = False := eq_false fun h => by unfold NV at hl; omega
    rw [if_pos hl, if_pos ⟨hE, hl⟩]
    refine ⟨?_⟩
    simp (config := { maxSteps := 4000000 }) only [↓sx0, ↓sx1, ↓sx2, ↓sx3, ↓sx4, ↓sx5, ↓sx6, sx0, sx1, sx2, sx3, sx4, sx5, sx6, tf37, ev3_hold, sxo, sxc, sxp, sxq, sxr, sxs, sxl, sxm, simprocAttr, p1]
    first | exact ⟨_, rfl, hG.mono (by simp +contextual)⟩ | exact hG.mono (by simp +contextual)
  · rw [if_neg hl, if_neg (fun h => hl h.2)]
    refine ⟨?_⟩
    simp (config := { maxSteps := 4000000 }) only [↓sx0, ↓sx1, ↓sx2, ↓sx3, ↓sx4, ↓sx5, ↓sx6, sx0, sx1, sx2, sx3, sx4, sx5, sx6, tf37, ev3_hold, sxo, sxc, sxp, sxq, sxr, sxs, sxl, sxm, simprocAttr]
    first | exact ⟨_, rfl, Got.nil _⟩ | exact Got.nil _
end Go.Proofs.YtnbogcpnpcbjgaaGreatDoor

