/- Parts of a proof: the symbolic walk and what it shows of single functions. -/
import Derived.Test.YtaloedccoadedaaDoorG2
import Derived.Test.YtaloedccoadedaaDoorF8
import Derived.Test.YtaloedccoadedaaDoorF9
import Derived.Test.YtaloedccoadedaaDoorX5
set_option linter.all false
namespace Go.Proofs.YtaloedccoadedaaDoor
open Go.RowKit Go.SX
set_option maxRecDepth 20000
set_option maxHeartbeats 0
set_option linter.unusedSimpArgs false
set_option linter.unusedVariables false
theorem Dis.prc_some (d : Dis) (S : Nat) : d.prc S.testBit (fun _ => true) = pSome S := by
  funext i
  unfold Dis.prc priceOf pSome
  simp
end Go.Proofs.YtaloedccoadedaaDoor

namespace Go.Proofs.YtaloedccoadedaaDoor
open Go.RowKit Go.SX
set_option maxRecDepth 20000
set_option maxHeartbeats 0
set_option linter.unusedSimpArgs false
set_option linter.unusedVariables false
def k1 (x : Int) : List Value := [.int .i8 x]
theorem k1_len (x : Int) : (k1 x).length = 1 := rfl
def kwR (bk L : Nat) (kn : List Int) : HO := .row (.slice (some ⟨bk, 0, none⟩) L L) 146 1 (cat k1 kn)
def KwOk (can : Nat → Bool) (L : Nat) (kn : List Int) : Prop := kn.length = L ∧ ∀ (s : Nat) (x : Int), kn[s]? = some x → x = 0 ∨ x = if can s then 1 else -1
theorem KwOk.set {can : Nat → Bool} {L : Nat} {kn : List Int} (h : KwOk can L kn) {s : Nat} {x : Int} (hx : x = if can s then 1 else -1) : KwOk can L (kn.set s x) := by
  refine ⟨by rw [List.length_set]; exact h.1, fun s' x' h' => ?_⟩
  rw [List.getElem?_set] at h'
  by_cases e : s = s'
  · subst e
    rw [if_pos rfl] at h'
    split at h'
    · cases h'
      exact .inr hx
    · cases h'
  · rw [if_neg e] at h'
    exact h.2 s' x' h'
theorem kwR_fp {bk L : Nat} {kn : List Int} : (kwR bk L kn).fp bk ∧ (kwR bk L kn).fpx bk := by
  simp [kwR, HO.fp, HO.fpx, Value.ownBlock]
theorem fpsx_kwR {bk L : Nat} {kn : List Int} {b : Nat} : fpsx [kwR bk L kn] b ↔ b = bk := by
  constructor
  · rintro ⟨h, hh, hb⟩
    rw [List.mem_singleton] at hh
    subst hh
    simpa [kwR, HO.fpx, Value.ownBlock, eq_comm] using hb
  · rintro rfl
    exact ⟨_, List.mem_singleton.2 rfl, by simp [kwR, HO.fpx, Value.ownBlock]⟩
theorem fps_kwR {bk L : Nat} {kn : List Int} (b : Nat) (h : fps [kwR bk L kn] b) : fpsx [kwR bk L kn] b := by
  obtain ⟨g, hg, hb⟩ := h
  refine ⟨g, hg, ?_⟩
  rw [List.mem_singleton] at hg
  subst hg
  simpa [kwR, HO.fpx, HO.fp] using hb
theorem kwR_old {w : World} {bk L : Nat} {kn : List Int} (hrow : HO.ok w (kwR bk L kn)) : (∀ h ∈ [kwR bk L kn], h.ok w) ∧ (∀ h ∈ [kwR bk L kn], ∀ b, h.fp b → fpsx [kwR bk L kn] b) ∧ [kwR bk L kn].Pairwise Apart :=
  ⟨fun g hg => by rw [List.mem_singleton] at hg; subst hg; exact hrow, fun g hg b hb => ⟨g, hg, by rw [List.mem_singleton] at hg; subst hg; exact hb⟩, List.pairwise_singleton _ _⟩
theorem row_kept {w0 : Base} {w : World} {bk L : Nat} {kn : List Int} {B : List HO} {v : Value} {e sz : Nat} {xs : List Value} (hp : Hp w0 (kwR bk L kn :: B) w) (hm : HO.row v e sz xs ∈ B) : ∀ w', Keep (fun b => b = bk) w w' → Sl w' v sz xs := fun w' hk => by
  have hnd := List.pairwise_cons.1 hp.nd
  have hne : ∀ b, (HO.row v e sz xs).fp b → b ≠ bk := fun b hb e => by
    subst e
    exact (hnd.1 _ hm b kwR_fp.1 hb).1 kwR_fp.2
  exact RowOk.sl (HO.stable (hp.ok _ (List.mem_cons_of_mem _ hm)) (hk.sameOn (fun b hb => HO.lt (hp.ok _ (List.mem_cons_of_mem _ hm)) hb) fun b hb => hne b hb))
structure PaOk (w : World) (bp bs bk L : Nat) (d : Dis) : Prop where
  np : bp ≠ bk
  ns : bs ≠ bk
  all : ∀ w', Keep (fun b => b = bk) w w' → (w'.cell? ⟨bp, 0, none⟩ = some (.pointer (some ⟨bs, 0, none⟩)) ∧ w'.cell? ⟨bp, 1, none⟩ = some (.slice (some ⟨bk, 0, none⟩) L L)) ∧ SeaOk w' bs d
theorem PaOk.keep {w w' : World} {bp bs bk L : Nat} {d : Dis} (h : PaOk w bp bs bk L d) (hk : Keep (fun b => b = bk) w w') : PaOk w' bp bs bk L d := ⟨h.np, h.ns, fun w2 h2 => h.all w2 ((hk.trans h2).mono fun b hb => hb.elim id id)⟩
theorem one_fn (w : World) (bp bs bk L : Nat) (d : Dis) (hpa : PaOk w bp bs bk L d) (hE : d.E = 0) (kn : List Int) (hrow : HO.ok w (kwR bk L kn)) (hkn : KwOk d.canB L kn) (S : Nat) (hS : S < L) (hL : L ≤ 1024) :
    SX.Fn Tryd.prog 111 [.pointer (some ⟨bp, 0, none⟩), I S] w (fpsx [kwR bk L kn]) fun r N => ∃ kn', KwOk d.canB L kn' ∧ kwR bk L kn' ∈ N ∧ r = .bool (d.canB S) := by
  have hX : ∀ b, b ≠ bk → ¬ fpsx [kwR bk L kn] b := fun b hb hx => hb (fpsx_kwR.1 hx)
  obtain ⟨⟨c0, c1⟩, _⟩ := hpa.all w (Keep.refl _ w)
  have hnp := hX _ hpa.np
  have hca := fun (H : List HO) w' (hp : Hp ⟨w, fpsx [kwR bk L kn]⟩ H w') => can_fn w' bs d (hpa.all w' (hp.ext.mono fun b hb => fpsx_kwR.1 hb)).2 hE S (by omega)
  obtain ⟨x, hx⟩ : ∃ x, kn[S]? = some x := ⟨_, List.getElem?_eq_getElem (by rw [hkn.1]; exact hS)⟩
  have hlen := hkn.1
  have dn : ∀ (g : Nat) (xs : List Value), det0 g xs = none := fun _ _ => rfl
  obtain ⟨B, hB⟩ : ∃ B, d.canB S = B := ⟨_, rfl⟩
  have hks := fun x (h : x = if B then 1 else -1) => hkn.set (s := S) (x := x) (by rw [hB]; exact h)
  have hkx := hkn.2 S x hx
  rw [hB] at hkx ⊢
  simp only [hB] at hca
  have hrd : ∀ (kn' : List Int) (H : List HO), kn'.length = L → kwR bk L kn' ∈ H → Rdv ⟨w, fpsx [kwR bk L kn]⟩ H (.slice (some ⟨bk, 0, none⟩) L L) 1 (cat k1 kn') := fun kn' H hl h => row_rdv h ⟨_, _, _, rfl, by rw [cat_len k1_len, hl], fun h => by cases h⟩
  obtain ⟨X0, hX0⟩ : ∃ X0, fpsx [kwR bk L kn] = X0 := ⟨_, rfl⟩
  have h0 := kwR_old hrow
  rw [hX0] at hnp hca hrd h0 ⊢
  refine walk [] [] (det0_ok _ _) Tryd.func111 rfl Tryd.ntmps111 res111 (by kernel_rfl) (H0 := [kwR bk L kn]) h0 ?_
  simp (config := { maxSteps := 4000000 }) only [↓sx0, ↓sx1, ↓sx2, ↓sx3, ↓sx4, ↓sx5, ↓sx6, sx0, sx1, sx2, sx3, sx4, sx5, sx6, tf111, ev3_hold, sxo, sxc, sxp, sxq, sxr, sxs, sxl, sxm, Int.reduceBEq, Int.reduceBNe, Int.reduceLT, Int.reduceLE, Int.reduceEq, Int.reduceGT, Int.reduceGE, Int.reduceToNat, ↓reduceIte, List.reduceReplicate, Nat.reduceAdd, Nat.reduceSub, Nat.reduceMul, Nat.reduceLT, Nat.reduceLeDiff, Nat.reduceBEq, Nat.reduceEqDiff]
  refine ld_olda (by simp [add_block]) c1 hnp ?_
  simp (config := { maxSteps := 4000000 }) only [↓sx0, ↓sx1, ↓sx2, ↓sx3, ↓sx4, ↓sx5, ↓sx6, sx0, sx1, sx2, sx3, sx4, sx5, sx6, tf111, ev3_hold, sxo, sxc, sxp, sxq, sxr, sxs, sxl, sxm, Int.reduceBEq, Int.reduceBNe, Int.reduceLT, Int.reduceLE, Int.reduceEq, Int.reduceGT, Int.reduceGE, Int.reduceToNat, ↓reduceIte, List.reduceReplicate, Nat.reduceAdd, Nat.reduceSub, Nat.reduceMul, Nat.reduceLT, Nat.reduceLeDiff, Nat.reduceBEq, Nat.reduceEqDiff]
  refine at_1 (hrd kn _ hlen (by simp)) k1_len hx rfl fun ad => ?_
  rcases hkx with rfl | hkx
  case inr =>
    have p1 : (x = 0) = False := eq_false (by rw [hkx]; split <;> omega)
    have p2 : decide (x > 0) = B := by rw [hkx]; cases B <;> rfl
    simp (config := { maxSteps := 4000000 }) only [↓sx0, ↓sx1, ↓sx2, ↓sx3, ↓sx4, ↓sx5, ↓sx6, sx0, sx1, sx2, sx3, sx4, sx5, sx6, tf111, ev3_hold, sxo, sxc, sxp, sxq, sxr, sxs, sxl, sxm, Int.reduceBEq, Int.reduceBNe, Int.reduceLT, Int.reduceLE, Int.reduceEq, Int.reduceGT, Int.reduceGE, Int.reduceToNat, ↓reduceIte, List.reduceReplicate, Nat.reduceAdd, Nat.reduceSub, Nat.reduceMul, Nat.reduceLT, Nat.reduceLeDiff, Nat.reduceBEq, Nat.reduceEqDiff, p1]
    refine ld_olda (by simp [add_block]) c1 hnp ?_
    simp (config := { maxSteps := 4000000 }) only [↓sx0, ↓sx1, ↓sx2, ↓sx3, ↓sx4, ↓sx5, ↓sx6, sx0, sx1, sx2, sx3, sx4, sx5, sx6, tf111, ev3_hold, sxo, sxc, sxp, sxq, sxr, sxs, sxl, sxm, Int.reduceBEq, Int.reduceBNe, Int.reduceLT, Int.reduceLE, Int.reduceEq, Int.reduceGT, Int.reduceGE, Int.reduceToNat, ↓reduceIte, List.reduceReplicate, Nat.reduceAdd, Nat.reduceSub, Nat.reduceMul, Nat.reduceLT, Nat.reduceLeDiff, Nat.reduceBEq, Nat.reduceEqDiff]
    refine at_1 (hrd kn _ hlen (by simp)) k1_len hx rfl fun ad => ?_
    simp (config := { maxSteps := 4000000 }) only [↓sx0, ↓sx1, ↓sx2, ↓sx3, ↓sx4, ↓sx5, ↓sx6, sx0, sx1, sx2, sx3, sx4, sx5, sx6, tf111, ev3_hold, sxo, sxc, sxp, sxq, sxr, sxs, sxl, sxm, Int.reduceBEq, Int.reduceBNe, Int.reduceLT, Int.reduceLE, Int.reduceEq, Int.reduceGT, Int.reduceGE, Int.reduceToNat, ↓reduceIte, List.reduceReplicate, Nat.reduceAdd, Nat.reduceSub, Nat.reduceMul, Nat.reduceLT, Nat.reduceLeDiff, Nat.reduceBEq, Nat.reduceEqDiff]
    exact ⟨kn, hkn, List.mem_singleton.2 rfl, by rw [p2]⟩
  simp (config := { maxSteps := 4000000 }) only [↓sx0, ↓sx1, ↓sx2, ↓sx3, ↓sx4, ↓sx5, ↓sx6, sx0, sx1, sx2, sx3, sx4, sx5, sx6, tf111, ev3_hold, sxo, sxc, sxp, sxq, sxr, sxs, sxl, sxm, Int.reduceBEq, Int.reduceBNe, Int.reduceLT, Int.reduceLE, Int.reduceEq, Int.reduceGT, Int.reduceGE, Int.reduceToNat, ↓reduceIte, List.reduceReplicate, Nat.reduceAdd, Nat.reduceSub, Nat.reduceMul, Nat.reduceLT, Nat.reduceLeDiff, Nat.reduceBEq, Nat.reduceEqDiff]
  refine ld_olda (by simp [add_block]) c1 hnp ?_
  simp (config := { maxSteps := 4000000 }) only [↓sx0, ↓sx1, ↓sx2, ↓sx3, ↓sx4, ↓sx5, ↓sx6, sx0, sx1, sx2, sx3, sx4, sx5, sx6, tf111, ev3_hold, sxo, sxc, sxp, sxq, sxr, sxs, sxl, sxm, Int.reduceBEq, Int.reduceBNe, Int.reduceLT, Int.reduceLE, Int.reduceEq, Int.reduceGT, Int.reduceGE, Int.reduceToNat, ↓reduceIte, List.reduceReplicate, Nat.reduceAdd, Nat.reduceSub, Nat.reduceMul, Nat.reduceLT, Nat.reduceLeDiff, Nat.reduceBEq, Nat.reduceEqDiff]
  refine ⟨by omega, by omega, _, rfl, ?_⟩
  refine wr_at (A := []) (B := []) (ad := ⟨bk, 0, none⟩) (len := L) (cap := L) (e := 146) (f := k1) (l := kn) (u := -1) rfl k1_len hlen (by omega) ?_
  obtain ⟨k2, hk2⟩ : ∃ k2, kn.set S (-1) = k2 := ⟨_, rfl⟩
  have hl2 : k2.length = L := by rw [← hk2, List.length_set]; exact hlen
  have hg2 : k2[S]? = some (-1) := by rw [← hk2, List.getElem?_set_self (by omega)]
  have hs2 : k2.set S 1 = kn.set S 1 := by rw [← hk2, List.set_set]
  rw [hk2]
  obtain ⟨R2, hR2⟩ : ∃ R2, HO.row (.slice (some ⟨bk, 0, none⟩) L L) 146 1 (cat k1 k2) = R2 := ⟨_, rfl⟩
  have hR2k : kwR bk L k2 = R2 := hR2
  rw [hR2]
  simp (config := { maxSteps := 4000000 }) only [↓sx0, ↓sx1, ↓sx2, ↓sx3, ↓sx4, ↓sx5, ↓sx6, sx0, sx1, sx2, sx3, sx4, sx5, sx6, tf111, ev3_hold, sxo, sxc, sxp, sxq, sxr, sxs, sxl, sxm, Int.reduceBEq, Int.reduceBNe, Int.reduceLT, Int.reduceLE, Int.reduceEq, Int.reduceGT, Int.reduceGE, Int.reduceToNat, ↓reduceIte, List.reduceReplicate, Nat.reduceAdd, Nat.reduceSub, Nat.reduceMul, Nat.reduceLT, Nat.reduceLeDiff, Nat.reduceBEq, Nat.reduceEqDiff]
  refine ld_olda (by simp [add_block]) c0 hnp ?_
  simp (config := { maxSteps := 4000000 }) only [↓sx0, ↓sx1, ↓sx2, ↓sx3, ↓sx4, ↓sx5, ↓sx6, sx0, sx1, sx2, sx3, sx4, sx5, sx6, tf111, ev3_hold, sxo, sxc, sxp, sxq, sxr, sxs, sxl, sxm, Int.reduceBEq, Int.reduceBNe, Int.reduceLT, Int.reduceLE, Int.reduceEq, Int.reduceGT, Int.reduceGE, Int.reduceToNat, ↓reduceIte, List.reduceReplicate, Nat.reduceAdd, Nat.reduceSub, Nat.reduceMul, Nat.reduceLT, Nat.reduceLeDiff, Nat.reduceBEq, Nat.reduceEqDiff, dn]
  refine CallOb.pureH (fun w' hp => hca _ w' hp) ?_
  rintro q N rfl
  cases B with
  | true =>
    have hg3 : (k2.set S 1)[S]? = some 1 := by rw [List.getElem?_set_self (by omega)]
    refine ⟨?_⟩
    simp (config := { maxSteps := 4000000 }) only [↓sx0, ↓sx1, ↓sx2, ↓sx3, ↓sx4, ↓sx5, ↓sx6, sx0, sx1, sx2, sx3, sx4, sx5, sx6, tf111, ev3_hold, sxo, sxc, sxp, sxq, sxr, sxs, sxl, sxm, Int.reduceBEq, Int.reduceBNe, Int.reduceLT, Int.reduceLE, Int.reduceEq, Int.reduceGT, Int.reduceGE, Int.reduceToNat, ↓reduceIte, List.reduceReplicate, Nat.reduceAdd, Nat.reduceSub, Nat.reduceMul, Nat.reduceLT, Nat.reduceLeDiff, Nat.reduceBEq, Nat.reduceEqDiff]
    refine ld_olda (by simp [add_block]) c1 hnp ?_
    simp (config := { maxSteps := 4000000 }) only [↓sx0, ↓sx1, ↓sx2, ↓sx3, ↓sx4, ↓sx5, ↓sx6, sx0, sx1, sx2, sx3, sx4, sx5, sx6, tf111, ev3_hold, sxo, sxc, sxp, sxq, sxr, sxs, sxl, sxm, Int.reduceBEq, Int.reduceBNe, Int.reduceLT, Int.reduceLE, Int.reduceEq, Int.reduceGT, Int.reduceGE, Int.reduceToNat, ↓reduceIte, List.reduceReplicate, Nat.reduceAdd, Nat.reduceSub, Nat.reduceMul, Nat.reduceLT, Nat.reduceLeDiff, Nat.reduceBEq, Nat.reduceEqDiff]
    refine ⟨by omega, by omega, _, rfl, ?_⟩
    refine wr_at (A := N) (B := []) (ad := ⟨bk, 0, none⟩) (len := L) (cap := L) (e := 146) (f := k1) (l := k2) (u := 1) (by rw [hR2]) k1_len hl2 (by omega) ?_
    simp (config := { maxSteps := 4000000 }) only [↓sx0, ↓sx1, ↓sx2, ↓sx3, ↓sx4, ↓sx5, ↓sx6, sx0, sx1, sx2, sx3, sx4, sx5, sx6, tf111, ev3_hold, sxo, sxc, sxp, sxq, sxr, sxs, sxl, sxm, Int.reduceBEq, Int.reduceBNe, Int.reduceLT, Int.reduceLE, Int.reduceEq, Int.reduceGT, Int.reduceGE, Int.reduceToNat, ↓reduceIte, List.reduceReplicate, Nat.reduceAdd, Nat.reduceSub, Nat.reduceMul, Nat.reduceLT, Nat.reduceLeDiff, Nat.reduceBEq, Nat.reduceEqDiff]
    refine ld_olda (by simp [add_block]) c1 hnp ?_
    simp (config := { maxSteps := 4000000 }) only [↓sx0, ↓sx1, ↓sx2, ↓sx3, ↓sx4, ↓sx5, ↓sx6, sx0, sx1, sx2, sx3, sx4, sx5, sx6, tf111, ev3_hold, sxo, sxc, sxp, sxq, sxr, sxs, sxl, sxm, Int.reduceBEq, Int.reduceBNe, Int.reduceLT, Int.reduceLE, Int.reduceEq, Int.reduceGT, Int.reduceGE, Int.reduceToNat, ↓reduceIte, List.reduceReplicate, Nat.reduceAdd, Nat.reduceSub, Nat.reduceMul, Nat.reduceLT, Nat.reduceLeDiff, Nat.reduceBEq, Nat.reduceEqDiff]
    refine at_1 (hrd (k2.set S 1) _ (by rw [List.length_set]; exact hl2) (List.mem_append_right _ List.mem_cons_self)) k1_len hg3 rfl fun ad => ?_
    simp (config := { maxSteps := 4000000 }) only [↓sx0, ↓sx1, ↓sx2, ↓sx3, ↓sx4, ↓sx5, ↓sx6, sx0, sx1, sx2, sx3, sx4, sx5, sx6, tf111, ev3_hold, sxo, sxc, sxp, sxq, sxr, sxs, sxl, sxm, Int.reduceBEq, Int.reduceBNe, Int.reduceLT, Int.reduceLE, Int.reduceEq, Int.reduceGT, Int.reduceGE, Int.reduceToNat, ↓reduceIte, List.reduceReplicate, Nat.reduceAdd, Nat.reduceSub, Nat.reduceMul, Nat.reduceLT, Nat.reduceLeDiff, Nat.reduceBEq, Nat.reduceEqDiff]
    refine ⟨kn.set S 1, hks 1 rfl, ?_⟩
    rw [← hs2]
    exact List.mem_append_right _ List.mem_cons_self
  | false =>
    refine ⟨?_⟩
    simp (config := { maxSteps := 4000000 }) only [↓sx0, ↓sx1, ↓sx2, ↓sx3, ↓sx4, ↓sx5, ↓sx6, sx0, sx1, sx2, sx3, sx4, sx5, sx6, tf111, ev3_hold, sxo, sxc, sxp, sxq, sxr, sxs, sxl, sxm, Int.reduceBEq, Int.reduceBNe, Int.reduceLT, Int.reduceLE, Int.reduceEq, Int.reduceGT, Int.reduceGE, Int.reduceToNat, ↓reduceIte, List.reduceReplicate, Nat.reduceAdd, Nat.reduceSub, Nat.reduceMul, Nat.reduceLT, Nat.reduceLeDiff, Nat.reduceBEq, Nat.reduceEqDiff]
    refine ld_olda (by simp [add_block]) c1 hnp ?_
    simp (config := { maxSteps := 4000000 }) only [↓sx0, ↓sx1, ↓sx2, ↓sx3, ↓sx4, ↓sx5, ↓sx6, sx0, sx1, sx2, sx3, sx4, sx5, sx6, tf111, ev3_hold, sxo, sxc, sxp, sxq, sxr, sxs, sxl, sxm, Int.reduceBEq, Int.reduceBNe, Int.reduceLT, Int.reduceLE, Int.reduceEq, Int.reduceGT, Int.reduceGE, Int.reduceToNat, ↓reduceIte, List.reduceReplicate, Nat.reduceAdd, Nat.reduceSub, Nat.reduceMul, Nat.reduceLT, Nat.reduceLeDiff, Nat.reduceBEq, Nat.reduceEqDiff]
    refine at_1 (hrd k2 _ hl2 (List.mem_append_right _ (by rw [hR2k]; exact List.mem_cons_self))) k1_len hg2 rfl fun ad => ?_
    simp (config := { maxSteps := 4000000 }) only [↓sx0, ↓sx1, ↓sx2, ↓sx3, ↓sx4, ↓sx5, ↓sx6, sx0, sx1, sx2, sx3, sx4, sx5, sx6, tf111, ev3_hold, sxo, sxc, sxp, sxq, sxr, sxs, sxl, sxm, Int.reduceBEq, Int.reduceBNe, Int.reduceLT, Int.reduceLE, Int.reduceEq, Int.reduceGT, Int.reduceGE, Int.reduceToNat, ↓reduceIte, List.reduceReplicate, Nat.reduceAdd, Nat.reduceSub, Nat.reduceMul, Nat.reduceLT, Nat.reduceLeDiff, Nat.reduceBEq, Nat.reduceEqDiff]
    refine ⟨kn.set S (-1), hks (-1) rfl, ?_⟩
    rw [hk2, hR2k]
    exact List.mem_append_right _ List.mem_cons_self
theorem sl_nonil {w : World} {n c sz : Nat} {xs : List Value} (h : Sl w (.slice none n c) sz xs) : xs = [] := by
  cases xs with
  | nil => rfl
  | cons y ys =>
    obtain ⟨_, _, _, e, _, hcl⟩ := h
    cases e
    obtain ⟨ad, h, _⟩ := hcl 0 _ rfl
    cases h
theorem ints_nil {l : List Int} (h : ints l = []) : l = [] := by
  cases l with
  | nil => rfl
  | cons y ys => simp [cat, i1] at h
theorem clone1_fn (w : World) (v : Value) (l : List Int) (hs : Sl w v 1 (ints l)) (hb : l.length ≤ 1000000) : SX.Fn Tryd.prog 110 [v] w (fun _ => False) fun r N => ∃ ad c, r = .slice ad l.length c ∧ (ad = none → l = []) ∧ (HO.row r 3 1 (ints l) ∈ N ∨ (l = [] ∧ r = .slice none 0 0)) := by
  have hs0 := hs
  obtain ⟨a, n, c, rfl⟩ := hs.shape
  have hn := hs.le i1_len (by omega)
  subst hn
  refine walk [] [] (det0_ok _ _) Tryd.func110 rfl Tryd.ntmps110 res110 (by kernel_rfl) no_facts ?_
  simp (config := { maxSteps := 4000000 }) only [↓sx0, ↓sx1, ↓sx2, ↓sx3, ↓sx4, ↓sx5, ↓sx6, sx0, sx1, sx2, sx3, sx4, sx5, sx6, tf110, ev3_hold, sxo, sxc, sxp, sxq, sxr, sxs, sxl, sxm, Int.reduceBEq, Int.reduceBNe, Int.reduceLT, Int.reduceLE, Int.reduceEq, Int.reduceGT, Int.reduceGE, Int.reduceToNat, ↓reduceIte, List.reduceReplicate, Nat.reduceAdd, Nat.reduceSub, Nat.reduceMul, Nat.reduceLT, Nat.reduceLeDiff, Nat.reduceBEq, Nat.reduceEqDiff]
  refine ⟨fun h => ?_, fun h b => ?_⟩
  · cases a with
    | none =>
      have hl : l = [] := ints_nil (sl_nonil hs)
      subst hl
      exact ⟨none, 0, rfl, fun _ => rfl, .inr rfl⟩
    | some a => cases h
  refine app_at (f := i1) (l := []) (m := l) (HImp.refl _ _) i1_len i1_one (fun w' hp' => Sl.hp (w0 := ⟨w, fun _ => False⟩) hs0 (fun _ _ => id) hp') (bytes := 8) (by simp only [List.length_nil]; omega) ?_
  intro ad3 c3 hnil
  rw [List.nil_append, List.length_nil, Nat.zero_add]
  simp (config := { maxSteps := 4000000 }) only [↓sx0, ↓sx1, ↓sx2, ↓sx3, ↓sx4, ↓sx5, ↓sx6, sx0, sx1, sx2, sx3, sx4, sx5, sx6, tf110, ev3_hold, sxo, sxc, sxp, sxq, sxr, sxs, sxl, sxm, Int.reduceBEq, Int.reduceBNe, Int.reduceLT, Int.reduceLE, Int.reduceEq, Int.reduceGT, Int.reduceGE, Int.reduceToNat, ↓reduceIte, List.reduceReplicate, Nat.reduceAdd, Nat.reduceSub, Nat.reduceMul, Nat.reduceLT, Nat.reduceLeDiff, Nat.reduceBEq, Nat.reduceEqDiff]
  exact ⟨ad3, c3, rfl, fun h => (hnil h).2, .inl List.mem_cons_self⟩
theorem findSome_drop {α β : Type} {l : List α} {k : Nat} {a : α} {g : α → Option β} (h : l[k]? = some a) (hn : g a = none) : (l.drop k).findSome? g = (l.drop (k + 1)).findSome? g := by
  have hk := (List.getElem?_eq_some_iff.1 h).1
  rw [List.drop_eq_getElem_cons hk, List.findSome?_cons, (List.getElem?_eq_some_iff.1 h).2, hn]
theorem findSome_hit {α β : Type} {l : List α} {k : Nat} {a : α} {b : β} {g : α → Option β} (h : l[k]? = some a) (hn : g a = some b) : (l.drop k).findSome? g = some b := by
  have hk := (List.getElem?_eq_some_iff.1 h).1
  rw [List.drop_eq_getElem_cons hk, List.findSome?_cons, (List.getElem?_eq_some_iff.1 h).2, hn]
theorem row_cap {w0 : Base} {H : List HO} {ad : Option Addr} {n c e sz : Nat} {xs : List Value} (h : HO.row (.slice ad n c) e sz xs ∈ H) {w : World} (hp : Hp w0 H w) : n ≤ c := by
  rcases hp.ok _ h with ⟨h1, _⟩ | ⟨b, off, len, cap, arr, hv, _, _, hlc, _⟩
  · simp only [Value.slice.injEq] at h1
    omega
  · simp only [Value.slice.injEq] at hv
    omega
theorem sl_full {w : World} {ad : Addr} {n c : Nat} {xs : List Value} (h : Sl w (.slice (some ad) n c) 1 xs) : Sl w (.slice (some (if n = 0 then ad else ad.add 0)) n n) 1 xs := by
  have hl := h.len
  split
  · rename_i h0
    subst h0
    have : xs = [] := List.eq_nil_of_length_eq_zero (by omega)
    subst this
    exact ⟨_, _, _, rfl, rfl, fun i x hx => by simp at hx⟩
  · have := Sl.pre (m := n) (c := n) h (Nat.le_refl _)
    rwa [List.take_of_length_le (by omega)] at this
def ShP (can : Nat → Bool) (bk L most f : Nat) (who : List Nat) (vo r : Value) (N : List HO) : Prop := ∃ kn', KwOk can L kn' ∧ kwR bk L kn' ∈ N ∧ ((splL can most f who = none ∧ r = .tuple #[.slice none 0 0, .bool false]) ∨ ∃ l x, splL can most f who = some l ∧ r = .tuple #[x, .bool true] ∧ ((x = vo ∧ l = who) ∨ Got x 3 1 i1 (zs l) N))
theorem zs_set (l : List Nat) (i x : Nat) : zs (l.set i x) = (zs l).set i (x : Int) := by
  unfold zs
  rw [List.map_set]
theorem share_fn (bp bs bk : Nat) (d : Dis) (hE : d.E = 0) (hm10 : d.rs.length ≤ 10) (most : Nat) (hmost : most ≤ 20) : ∀ (f : Nat) (w : World) (hpa : PaOk w bp bs bk (2 ^ d.rs.length) d) (kn : List Int) (hrow : HO.ok w (kwR bk (2 ^ d.rs.length) kn)) (hkn : KwOk d.canB (2 ^ d.rs.length) kn) (who : List Nat) (vo vc : Value)
    (hvo : ∀ w', Keep (fun b => b = bk) w w' → Sl w' vo 1 (ints (zs who))) (hcap : ∀ a n c, vo = .slice a n c → n ≤ c) (hvc : ∀ w', Keep (fun b => b = bk) w w' → Sl w' vc 1 (ints (zs (msks who)))) (hf : who.length + f = d.rs.length) (hu : usd who ≤ 20),
    SX.Fn Tryd.prog 76 [.pointer (some ⟨bp, 0, none⟩), vo, vc, I most] w (fpsx [kwR bk (2 ^ d.rs.length) kn]) (ShP d.canB bk (2 ^ d.rs.length) most f who vo) := by
  intro f
  induction f with
  | zero =>
    intro w hpa kn hrow hkn who vo vc hvo hcap hvc hf hu
    obtain ⟨L, hL⟩ : ∃ L, 2 ^ d.rs.length = L := ⟨_, rfl⟩
    rw [hL] at hpa hrow hkn ⊢
    have hX : ∀ b, b ≠ bk → ¬ fpsx [kwR bk L kn] b := fun b hb hx => hb (fpsx_kwR.1 hx)
    obtain ⟨⟨c0, c1⟩, hsea⟩ := hpa.all w (Keep.refl _ w)
    obtain ⟨sR, c7, hsR⟩ := hsea.c7
    obtain ⟨aR, nR, cR, rfl⟩ := hsR.shape
    have hnR := hsR.le rpc_len (by omega)
    subst hnR
    obtain ⟨ao, no, co, rfl⟩ := (hvo w (Keep.refl _ w)).shape
    have hno := (hvo w (Keep.refl _ w)).le i1_len (by decide)
    rw [zs_len] at hno
    subst hno
    have e1 : ((who.length : Int) = (d.rs.length : Int)) = True := eq_true (by omega)
    refine walk [] [] (det0_ok _ _) Tryd.func76 rfl Tryd.ntmps76 res76 (by kernel_rfl) (H0 := [kwR bk L kn]) (kwR_old hrow) ?_
    simp (config := { maxSteps := 4000000 }) only [↓sx0, ↓sx1, ↓sx2, ↓sx3, ↓sx4, ↓sx5, ↓sx6, sx0, sx1, sx2, sx3, sx4, sx5, sx6, tf76, ev3_hold, sxo, sxc, sxp, sxq, sxr, sxs, sxl, sxm, Int.reduceBEq, Int.reduceBNe, Int.reduceLT, Int.reduceLE, Int.reduceEq, Int.reduceGT, Int.reduceGE, Int.reduceToNat, ↓reduceIte, List.reduceReplicate, Nat.reduceAdd, Nat.reduceSub, Nat.reduceMul, Nat.reduceLT, Nat.reduceLeDiff, Nat.reduceBEq, Nat.reduceEqDiff]
    refine ld_olda (by simp [add_block]) c0 (hX _ hpa.np) ?_
    simp (config := { maxSteps := 4000000 }) only [↓sx0, ↓sx1, ↓sx2, ↓sx3, ↓sx4, ↓sx5, ↓sx6, sx0, sx1, sx2, sx3, sx4, sx5, sx6, tf76, ev3_hold, sxo, sxc, sxp, sxq, sxr, sxs, sxl, sxm, Int.reduceBEq, Int.reduceBNe, Int.reduceLT, Int.reduceLE, Int.reduceEq, Int.reduceGT, Int.reduceGE, Int.reduceToNat, ↓reduceIte, List.reduceReplicate, Nat.reduceAdd, Nat.reduceSub, Nat.reduceMul, Nat.reduceLT, Nat.reduceLeDiff, Nat.reduceBEq, Nat.reduceEqDiff]
    refine ld_olda (by simp [add_block]) c7 (hX _ hpa.ns) ?_
    simp (config := { maxSteps := 4000000 }) only [↓sx0, ↓sx1, ↓sx2, ↓sx3, ↓sx4, ↓sx5, ↓sx6, sx0, sx1, sx2, sx3, sx4, sx5, sx6, tf76, ev3_hold, sxo, sxc, sxp, sxq, sxr, sxs, sxl, sxm, Int.reduceBEq, Int.reduceBNe, Int.reduceLT, Int.reduceLE, Int.reduceEq, Int.reduceGT, Int.reduceGE, Int.reduceToNat, ↓reduceIte, List.reduceReplicate, Nat.reduceAdd, Nat.reduceSub, Nat.reduceMul, Nat.reduceLT, Nat.reduceLeDiff, Nat.reduceBEq, Nat.reduceEqDiff, e1]
    exact ⟨kn, hkn, List.mem_singleton.2 rfl, .inr ⟨who, _, rfl, rfl, .inl ⟨rfl, rfl⟩⟩⟩
  | succ f ih =>
  intro w hpa kn hrow hkn who vo vc hvo hcap hvc hf hu
  have hone := fun (kn' : List Int) (hkn' : KwOk d.canB (2 ^ d.rs.length) kn') (S : Nat) (hS : S < 2 ^ d.rs.length) (hL : 2 ^ d.rs.length ≤ 1024) (B : List HO) w' (hp : Hp ⟨w, fpsx [kwR bk (2 ^ d.rs.length) kn]⟩ (kwR bk (2 ^ d.rs.length) kn' :: B) w') => one_fn w' bp bs bk _ d (hpa.keep (hp.ext.mono fun b hb => fpsx_kwR.1 hb)) hE kn' (hp.ok _ List.mem_cons_self) hkn' S hS hL
  have hL10 : 2 ^ d.rs.length ≤ 1024 := Nat.le_trans (Nat.pow_le_pow_right (by decide) hm10) (by decide)
  have hpow : 2 ^ (who.length + 1) ≤ 2 ^ d.rs.length := Nat.pow_le_pow_right (by decide) (by omega)
  obtain ⟨L, hL⟩ : ∃ L, 2 ^ d.rs.length = L := ⟨_, rfl⟩
  simp only [hL] at ih hone
  rw [hL] at hpa hrow hkn hL10 hpow ⊢
  have hX : ∀ b, b ≠ bk → ¬ fpsx [kwR bk L kn] b := fun b hb hx => hb (fpsx_kwR.1 hx)
  obtain ⟨⟨c0, c1⟩, hsea⟩ := hpa.all w (Keep.refl _ w)
  obtain ⟨sR, c7, hsR⟩ := hsea.c7
  obtain ⟨aR, nR, cR, rfl⟩ := hsR.shape
  have hnR := hsR.le rpc_len (by omega)
  subst hnR
  obtain ⟨ao, no, co, rfl⟩ := (hvo w (Keep.refl _ w)).shape
  have hno := (hvo w (Keep.refl _ w)).le i1_len (by decide)
  rw [zs_len] at hno
  subst hno
  obtain ⟨ac, nc, cc, rfl⟩ := (hvc w (Keep.refl _ w)).shape
  have hnc := (hvc w (Keep.refl _ w)).le i1_len (by decide)
  rw [zs_len, msks_len] at hnc
  subst hnc
  have hcap0 := hcap _ _ _ rfl
  have e1 : ((who.length : Int) = (d.rs.length : Int)) = False := eq_false (by omega)
  have e2 : wr ((usd who : Int) + 1) = ((usd who + 1 : Nat) : Int) := (wrap_id (by omega)).trans (by omega)
  have hmin : min (most : Int) ((usd who + 1 : Nat) : Int) = ((min most (usd who + 1) : Nat) : Int) := by omega
  obtain ⟨M, hM⟩ : ∃ M, min most (usd who + 1) = M := ⟨_, rfl⟩
  have hF : splL d.canB most (f + 1) who = (List.range M).findSome? fun i => if d.canB (msk (who ++ [i]) i) then splL d.canB most f (who ++ [i]) else none := by rw [← hM]; rfl
  obtain ⟨G, hG⟩ : ∃ G, (fun i => if d.canB (msk (who ++ [i]) i) then splL d.canB most f (who ++ [i]) else none) = G := ⟨_, rfl⟩
  have hGe : ∀ i, G i = if d.canB (msk (who ++ [i]) i) then splL d.canB most f (who ++ [i]) else none := fun i => by rw [← hG]
  rw [hG] at hF
  rw [hM] at hmin
  obtain ⟨X0, hX0⟩ : ∃ X0, fpsx [kwR bk L kn] = X0 := ⟨_, rfl⟩
  have hX0b : ∀ b, X0 b → b = bk := fun b hb => by rw [← hX0] at hb; exact fpsx_kwR.1 hb
  have h0 := kwR_old hrow
  have hnp := hX _ hpa.np
  have hns := hX _ hpa.ns
  have dn : ∀ (g : Nat) (xs : List Value), det0 g xs = none := fun _ _ => rfl
  have hcl := fun (H : List HO) w' (hp : Hp ⟨w, X0⟩ H w') => clone1_fn w' _ _ (hvc w' (hp.ext.mono hX0b)) (by rw [zs_len, msks_len]; omega)
  rw [zs_len, msks_len] at hcl
  simp only [hX0] at hone
  rw [hX0] at h0 hnp hns ⊢
  refine walkC [20] [] [] (det0_ok _ _) Tryd.func76 rfl Tryd.ntmps76 res76 (by kernel_rfl) (H0 := [kwR bk L kn]) h0 ?_
  simp (config := { maxSteps := 4000000 }) only [↓sx0, ↓sx1, ↓sx2, ↓sx3, ↓sx4, ↓sx5, ↓sx6, sx0, sx1, sx2, sx3, sx4, sx5, sx6, tf76, ev3_hold, sxo, sxc, sxp, sxq, sxr, sxs, sxl, sxm, Int.reduceBEq, Int.reduceBNe, Int.reduceLT, Int.reduceLE, Int.reduceEq, Int.reduceGT, Int.reduceGE, Int.reduceToNat, ↓reduceIte, List.reduceReplicate, Nat.reduceAdd, Nat.reduceSub, Nat.reduceMul, Nat.reduceLT, Nat.reduceLeDiff, Nat.reduceBEq, Nat.reduceEqDiff]
  refine ld_olda (by simp [add_block]) c0 hnp ?_
  simp (config := { maxSteps := 4000000 }) only [↓sx0, ↓sx1, ↓sx2, ↓sx3, ↓sx4, ↓sx5, ↓sx6, sx0, sx1, sx2, sx3, sx4, sx5, sx6, tf76, ev3_hold, sxo, sxc, sxp, sxq, sxr, sxs, sxl, sxm, Int.reduceBEq, Int.reduceBNe, Int.reduceLT, Int.reduceLE, Int.reduceEq, Int.reduceGT, Int.reduceGE, Int.reduceToNat, ↓reduceIte, List.reduceReplicate, Nat.reduceAdd, Nat.reduceSub, Nat.reduceMul, Nat.reduceLT, Nat.reduceLeDiff, Nat.reduceBEq, Nat.reduceEqDiff]
  refine ld_olda (by simp [add_block]) c7 hns ?_
  simp (config := { maxSteps := 4000000 }) only [↓sx0, ↓sx1, ↓sx2, ↓sx3, ↓sx4, ↓sx5, ↓sx6, sx0, sx1, sx2, sx3, sx4, sx5, sx6, tf76, ev3_hold, sxo, sxc, sxp, sxq, sxr, sxs, sxl, sxm, Int.reduceBEq, Int.reduceBNe, Int.reduceLT, Int.reduceLE, Int.reduceEq, Int.reduceGT, Int.reduceGE, Int.reduceToNat, ↓reduceIte, List.reduceReplicate, Nat.reduceAdd, Nat.reduceSub, Nat.reduceMul, Nat.reduceLT, Nat.reduceLeDiff, Nat.reduceBEq, Nat.reduceEqDiff, e1, e2, hmin]
  refine loop_constH [kwR bk L kn] (HImp.refl _ _) [(8, 9), (11, 14), (34, 77)] (fun i : Nat => [(34, I i)]) (fun i H1 => i ≤ M ∧ ∃ kn', KwOk d.canB L kn' ∧ H1 = [kwR bk L kn'] ∧ splL d.canB most (f + 1) who = ((List.range M).drop i).findSome? G) (fun i => M - i) 0 ?_ ⟨Nat.zero_le _, kn, hkn, rfl, hF⟩ ?_
  · simp (config := { maxSteps := 4000000 }) only [↓sx0, ↓sx1, ↓sx2, ↓sx3, ↓sx4, ↓sx5, ↓sx6, sx0, sx1, sx2, sx3, sx4, sx5, sx6, tf76, ev3_hold, sxo, sxc, sxp, sxq, sxr, sxs, sxl, sxm, Int.reduceBEq, Int.reduceBNe, Int.reduceLT, Int.reduceLE, Int.reduceEq, Int.reduceGT, Int.reduceGE, Int.reduceToNat, ↓reduceIte, List.reduceReplicate, Nat.reduceAdd, Nat.reduceSub, Nat.reduceMul, Nat.reduceLT, Nat.reduceLeDiff, Nat.reduceBEq, Nat.reduceEqDiff]
    try simp
  rintro i H1 g1 ⟨hi, kn', hkn', rfl, hinv⟩
  by_cases hin : i = M
  · have e7 : ((i : Int) < (M : Int)) = False := eq_false (by omega)
    rw [List.drop_of_length_le (by rw [List.length_range]; omega)] at hinv
    refine ⟨?_⟩
    simp (config := { maxSteps := 4000000 }) only [↓sx0, ↓sx1, ↓sx2, ↓sx3, ↓sx4, ↓sx5, ↓sx6, sx0, sx1, sx2, sx3, sx4, sx5, sx6, tf76, ev3_hold, sxo, sxc, sxp, sxq, sxr, sxs, sxl, sxm, Int.reduceBEq, Int.reduceBNe, Int.reduceLT, Int.reduceLE, Int.reduceEq, Int.reduceGT, Int.reduceGE, Int.reduceToNat, ↓reduceIte, List.reduceReplicate, Nat.reduceAdd, Nat.reduceSub, Nat.reduceMul, Nat.reduceLT, Nat.reduceLeDiff, Nat.reduceBEq, Nat.reduceEqDiff, e7]
    exact ⟨kn', hkn', List.mem_singleton.2 rfl, .inl ⟨hinv, rfl⟩⟩
  have e7 : ((i : Int) < (M : Int)) = True := eq_true (by omega)
  have e8 : wr ((i : Int) + 1) = ((i + 1 : Nat) : Int) := (wrap_id (by omega)).trans (by omega)
  have hiM : i < M := by omega
  have hri : (List.range M)[i]? = some i := List.getElem?_range hiM
  have hgi := hGe i
  refine ⟨?_⟩
  simp (config := { maxSteps := 4000000 }) only [↓sx0, ↓sx1, ↓sx2, ↓sx3, ↓sx4, ↓sx5, ↓sx6, sx0, sx1, sx2, sx3, sx4, sx5, sx6, tf76, ev3_hold, sxo, sxc, sxp, sxq, sxr, sxs, sxl, sxm, Int.reduceBEq, Int.reduceBNe, Int.reduceLT, Int.reduceLE, Int.reduceEq, Int.reduceGT, Int.reduceGE, Int.reduceToNat, ↓reduceIte, List.reduceReplicate, Nat.reduceAdd, Nat.reduceSub, Nat.reduceMul, Nat.reduceLT, Nat.reduceLeDiff, Nat.reduceBEq, Nat.reduceEqDiff, e7, dn]
  refine CallOb.pureH (fun w' hp => hcl _ w' hp) ?_
  rintro q N ⟨an, cn, rfl, hnn, hr1⟩
  obtain ⟨E, hEe⟩ : ∃ E, (if i = usd who then msks who ++ [0] else msks who) = E := ⟨_, rfl⟩
  obtain ⟨E0, hE0⟩ : ∃ E0, msks who = E0 := ⟨_, rfl⟩
  have hE0l : E0.length = usd who := by rw [← hE0]; exact msks_len _
  have hi2 : HImp ⟨w, X0⟩ (N ++ [kwR bk L kn']) [HO.row (.slice an (usd who) cn) 3 1 (ints (zs E0)), kwR bk L kn'] := by
    rw [hE0] at hr1
    rcases hr1 with h | ⟨h1, h2⟩
    · exact HImp.append (HImp.pick h)
    · injection h2 with h2 h3 h4
      rw [h2, h3, h4, h1]
      exact (HImp.app _ _ _).trans (HImp.nilRow _ _ _ _)
  rw [hE0] at hEe hnn
  refine ⟨?_⟩
  simp (config := { maxSteps := 4000000 }) only [↓sx0, ↓sx1, ↓sx2, ↓sx3, ↓sx4, ↓sx5, ↓sx6, sx0, sx1, sx2, sx3, sx4, sx5, sx6, tf76, ev3_hold, sxo, sxc, sxp, sxq, sxr, sxs, sxl, sxm, Int.reduceBEq, Int.reduceBNe, Int.reduceLT, Int.reduceLE, Int.reduceEq, Int.reduceGT, Int.reduceGE, Int.reduceToNat, ↓reduceIte, List.reduceReplicate, Nat.reduceAdd, Nat.reduceSub, Nat.reduceMul, Nat.reduceLT, Nat.reduceLeDiff, Nat.reduceBEq, Nat.reduceEqDiff]
  refine cut_constH [(12, 12), (39, 45)] (fun q : Addr × Nat => [(12, .slice (some q.1) E.length q.2)]) (fun q H2 => H2 = [HO.row (.slice (some q.1) E.length q.2) 3 1 (ints (zs E)), kwR bk L kn']) ?_ ?_
  · by_cases hiu : i = usd who
    · have f1 : ((i : Int) = (usd who : Int)) = True := eq_true (by omega)
      rw [if_pos hiu] at hEe
      have hz : zs E0 ++ [(0 : Int)] = zs E := by rw [← hEe, zs_app]; rfl
      have hzl : (zs E0).length + 1 = E.length := by rw [zs_len, ← hEe, List.length_append]; rfl
      have hzu : (zs E0).length = usd who := by rw [zs_len]; exact hE0l
      refine ⟨?_⟩
      simp (config := { maxSteps := 4000000 }) only [↓sx0, ↓sx1, ↓sx2, ↓sx3, ↓sx4, ↓sx5, ↓sx6, sx0, sx1, sx2, sx3, sx4, sx5, sx6, tf76, ev3_hold, sxo, sxc, sxp, sxq, sxr, sxs, sxl, sxm, Int.reduceBEq, Int.reduceBNe, Int.reduceLT, Int.reduceLE, Int.reduceEq, Int.reduceGT, Int.reduceGE, Int.reduceToNat, ↓reduceIte, List.reduceReplicate, Nat.reduceAdd, Nat.reduceSub, Nat.reduceMul, Nat.reduceLT, Nat.reduceLeDiff, Nat.reduceBEq, Nat.reduceEqDiff, f1]
      intro b
      rw [← hzu] at hi2 ⊢
      refine app_one (l := zs E0) (0 : Int) hi2 i1_len i1_one (by omega) fun ad3 c3 => ?_
      rw [hz, hzl]
      simp (config := { maxSteps := 4000000 }) only [↓sx0, ↓sx1, ↓sx2, ↓sx3, ↓sx4, ↓sx5, ↓sx6, sx0, sx1, sx2, sx3, sx4, sx5, sx6, tf76, ev3_hold, sxo, sxc, sxp, sxq, sxr, sxs, sxl, sxm, Int.reduceBEq, Int.reduceBNe, Int.reduceLT, Int.reduceLE, Int.reduceEq, Int.reduceGT, Int.reduceGE, Int.reduceToNat, ↓reduceIte, List.reduceReplicate, Nat.reduceAdd, Nat.reduceSub, Nat.reduceMul, Nat.reduceLT, Nat.reduceLeDiff, Nat.reduceBEq, Nat.reduceEqDiff]
      exact ⟨(ad3, c3), _, rfl, HImp.refl _ _, rfl⟩
    · have f1 : ((i : Int) = (usd who : Int)) = False := eq_false (by omega)
      rw [if_neg hiu] at hEe
      subst hEe
      cases an with
      | none =>
        exfalso
        have := hnn rfl
        have h3 : (zs E0).length = 0 := by rw [this]; rfl
        rw [zs_len] at h3
        omega
      | some an =>
      refine ⟨?_⟩
      simp (config := { maxSteps := 4000000 }) only [↓sx0, ↓sx1, ↓sx2, ↓sx3, ↓sx4, ↓sx5, ↓sx6, sx0, sx1, sx2, sx3, sx4, sx5, sx6, tf76, ev3_hold, sxo, sxc, sxp, sxq, sxr, sxs, sxl, sxm, Int.reduceBEq, Int.reduceBNe, Int.reduceLT, Int.reduceLE, Int.reduceEq, Int.reduceGT, Int.reduceGE, Int.reduceToNat, ↓reduceIte, List.reduceReplicate, Nat.reduceAdd, Nat.reduceSub, Nat.reduceMul, Nat.reduceLT, Nat.reduceLeDiff, Nat.reduceBEq, Nat.reduceEqDiff, f1]
      exact ⟨(an, cn), _, by rw [hE0l], hi2, by rw [hE0l]⟩
  rintro ⟨an2, cn2⟩ H2 g2 rfl
  have hiE : i < E.length := by
    rw [← hEe]
    split
    · rw [List.length_append, List.length_singleton]; omega
    · omega
  have hEi : (zs E)[i]? = some ((msk who i : Nat) : Int) := by
    unfold zs
    rw [List.getElem?_map, ← hEe, ← hE0]
    by_cases h : i = usd who
    · rw [if_pos h, List.getElem?_append_right (by rw [msks_len]; omega), msks_len, h, Nat.sub_self, msk_none (by omega)]
      rfl
    · rw [if_neg h, msks_get (by omega)]
      rfl
  have hset : (zs E).set i ((msk (who ++ [i]) i : Nat) : Int) = zs (msks (who ++ [i])) := by
    rw [← zs_set, ← hEe, ← hE0, msks_snoc (by omega)]
  have hzE : (zs E).length = E.length := zs_len _
  have hrd : ∀ (l : List Int) (H : List HO), l.length = E.length → HO.row (.slice (some an2) E.length cn2) 3 1 (ints l) ∈ H → Rdv ⟨w, X0⟩ H (.slice (some an2) E.length cn2) 1 (ints l) := fun l H hl h => row_rdv h ⟨_, _, _, rfl, by rw [cat_len i1_len, hl], fun h => by cases h⟩
  have hml : msk who i < 1024 := by
    have := msk_lt who i
    have : 2 ^ who.length ≤ 2 ^ (who.length + 1) := Nat.pow_le_pow_right (by decide) (by omega)
    omega
  have hor := or10 ⟨msk who i, hml⟩ ⟨who.length, by omega⟩
  have hshl := shl12 ⟨who.length, by omega⟩
  have hsn : msk (who ++ [i]) i = msk who i ||| 2 ^ who.length := by rw [msk_snoc, if_pos rfl]
  have hnl : msk (who ++ [i]) i < L := by
    have := msk_lt (who ++ [i]) i
    rw [List.length_append, List.length_singleton] at this
    omega
  simp only [] at hor hshl
  rw [← hsn] at hor
  refine ⟨?_⟩
  simp (config := { maxSteps := 4000000 }) only [↓sx0, ↓sx1, ↓sx2, ↓sx3, ↓sx4, ↓sx5, ↓sx6, sx0, sx1, sx2, sx3, sx4, sx5, sx6, tf76, ev3_hold, sxo, sxc, sxp, sxq, sxr, sxs, sxl, sxm, Int.reduceBEq, Int.reduceBNe, Int.reduceLT, Int.reduceLE, Int.reduceEq, Int.reduceGT, Int.reduceGE, Int.reduceToNat, ↓reduceIte, List.reduceReplicate, Nat.reduceAdd, Nat.reduceSub, Nat.reduceMul, Nat.reduceLT, Nat.reduceLeDiff, Nat.reduceBEq, Nat.reduceEqDiff]
  refine at_1 (hrd (zs E) _ hzE (by simp)) i1_len hEi rfl fun ad => ?_
  simp (config := { maxSteps := 4000000 }) only [↓sx0, ↓sx1, ↓sx2, ↓sx3, ↓sx4, ↓sx5, ↓sx6, sx0, sx1, sx2, sx3, sx4, sx5, sx6, tf76, ev3_hold, sxo, sxc, sxp, sxq, sxr, sxs, sxl, sxm, Int.reduceBEq, Int.reduceBNe, Int.reduceLT, Int.reduceLE, Int.reduceEq, Int.reduceGT, Int.reduceGE, Int.reduceToNat, ↓reduceIte, List.reduceReplicate, Nat.reduceAdd, Nat.reduceSub, Nat.reduceMul, Nat.reduceLT, Nat.reduceLeDiff, Nat.reduceBEq, Nat.reduceEqDiff, Int.toNat_natCast, hshl, hor]
  refine ⟨by omega, by omega, by omega, _, rfl, ?_⟩
  refine wr_at (A := []) (B := [kwR bk L kn']) (ad := an2) (len := E.length) (cap := cn2) (e := 3) (f := i1) (l := zs E) (u := ((msk (who ++ [i]) i : Nat) : Int)) rfl i1_len hzE (by omega) ?_
  rw [hset]
  obtain ⟨Z, hZ⟩ : ∃ Z, msks (who ++ [i]) = Z := ⟨_, rfl⟩
  rw [hZ] at hset ⊢
  have hZl : (zs Z).length = E.length := by rw [← hset, List.length_set]; exact hzE
  have hZi : (zs Z)[i]? = some ((msk (who ++ [i]) i : Nat) : Int) := by rw [← hset, List.getElem?_set_self (by omega)]
  obtain ⟨Q, hQ⟩ : ∃ Q, HO.row (.slice (some an2) E.length cn2) 3 1 (ints (zs Z)) = Q := ⟨_, rfl⟩
  have hrdQ := fun (H : List HO) (h : Q ∈ H) => hrd (zs Z) H hZl (by rw [hQ]; exact h)
  have hon2 := hone kn' hkn' (msk (who ++ [i]) i) hnl hL10 [Q]
  rw [hQ]
  obtain ⟨S, hS⟩ : ∃ S, msk (who ++ [i]) i = S := ⟨_, rfl⟩
  rw [hS] at hZi hgi
  simp only [hS] at hon2
  obtain ⟨B, hB⟩ : ∃ B, d.canB S = B := ⟨_, rfl⟩
  rw [hB] at hgi
  simp only [hB] at hon2
  simp (config := { maxSteps := 4000000 }) only [↓sx0, ↓sx1, ↓sx2, ↓sx3, ↓sx4, ↓sx5, ↓sx6, sx0, sx1, sx2, sx3, sx4, sx5, sx6, tf76, ev3_hold, sxo, sxc, sxp, sxq, sxr, sxs, sxl, sxm, Int.reduceBEq, Int.reduceBNe, Int.reduceLT, Int.reduceLE, Int.reduceEq, Int.reduceGT, Int.reduceGE, Int.reduceToNat, ↓reduceIte, List.reduceReplicate, Nat.reduceAdd, Nat.reduceSub, Nat.reduceMul, Nat.reduceLT, Nat.reduceLeDiff, Nat.reduceBEq, Nat.reduceEqDiff]
  refine at_1 (hrdQ _ (by simp)) i1_len hZi rfl fun ad => ?_
  simp (config := { maxSteps := 4000000 }) only [↓sx0, ↓sx1, ↓sx2, ↓sx3, ↓sx4, ↓sx5, ↓sx6, sx0, sx1, sx2, sx3, sx4, sx5, sx6, tf76, ev3_hold, sxo, sxc, sxp, sxq, sxr, sxs, sxl, sxm, Int.reduceBEq, Int.reduceBNe, Int.reduceLT, Int.reduceLE, Int.reduceEq, Int.reduceGT, Int.reduceGE, Int.reduceToNat, ↓reduceIte, List.reduceReplicate, Nat.reduceAdd, Nat.reduceSub, Nat.reduceMul, Nat.reduceLT, Nat.reduceLeDiff, Nat.reduceBEq, Nat.reduceEqDiff, dn]
  refine CallOb.mutH (A := [kwR bk L kn']) (B := [Q]) (HImp.swap _ _ _ _) fps_kwR (fun w' hp => hon2 w' hp) ?_
  rintro r N2 ⟨kn2, hkn2, hm2, rfl⟩
  have hsub1 : HImp ⟨w, X0⟩ (N2 ++ [Q]) [kwR bk L kn2, Q] := HImp.append (HImp.pick hm2)
  cases B with
  | false =>
    rw [if_neg (by simp)] at hgi
    rw [findSome_drop hri hgi] at hinv
    refine ⟨?_⟩
    simp (config := { maxSteps := 4000000 }) only [↓sx0, ↓sx1, ↓sx2, ↓sx3, ↓sx4, ↓sx5, ↓sx6, sx0, sx1, sx2, sx3, sx4, sx5, sx6, tf76, ev3_hold, sxo, sxc, sxp, sxq, sxr, sxs, sxl, sxm, Int.reduceBEq, Int.reduceBNe, Int.reduceLT, Int.reduceLE, Int.reduceEq, Int.reduceGT, Int.reduceGE, Int.reduceToNat, ↓reduceIte, List.reduceReplicate, Nat.reduceAdd, Nat.reduceSub, Nat.reduceMul, Nat.reduceLT, Nat.reduceLeDiff, Nat.reduceBEq, Nat.reduceEqDiff, e8]
    exact ⟨i + 1, _, rfl, hsub1.trans (HImp.tail2 _ _ _ _), ⟨by omega, kn2, hkn2, rfl, hinv⟩, by omega⟩
  | true =>
  rw [if_pos rfl] at hgi
  have hw1 : (who ++ [i]).length = who.length + 1 := by rw [List.length_append]; rfl
  have hz1 : zs who ++ [(i : Int)] = zs (who ++ [i]) := by rw [zs_app]; rfl
  have hzw : (zs who).length = who.length := zs_len _
  have husd : usd (who ++ [i]) ≤ 20 := by rw [usd_snoc]; omega
  have hcall : ∀ (vo2 : Value) (H : List HO) (kont : Value → List HO → Prop), HImp ⟨w, X0⟩ H (HO.row vo2 3 1 (ints (zs (who ++ [i]))) :: (N2 ++ [Q])) →
      (∀ v N, ShP d.canB bk L most f (who ++ [i]) vo2 v N → SX.Hid (kont v (N ++ [HO.row vo2 3 1 (ints (zs (who ++ [i]))), Q]))) →
      CallOb Tryd.prog ⟨w, X0⟩ false (.fn 76) [.pointer (some ⟨bp, 0, none⟩), vo2, .slice (some an2) E.length cn2, I most] H kont := fun vo2 H kont hH hk => by
    refine CallOb.mutH (A := [kwR bk L kn2]) (B := [HO.row vo2 3 1 (ints (zs (who ++ [i]))), Q]) (hH.trans ((HImp.cons hsub1).trans (HImp.swap _ _ _ _))) fps_kwR (fun w' hp => ?_) hk
    exact ih w' (hpa.keep (hp.ext.mono hX0b)) kn2 (hp.ok _ List.mem_cons_self) hkn2 (who ++ [i]) vo2 _ (row_kept hp List.mem_cons_self) (fun a n c h => by subst h; exact row_cap (e := 3) (List.mem_cons_of_mem _ List.mem_cons_self) hp) (by rw [hZ]; exact row_kept (e := 3) hp (List.mem_cons_of_mem _ (by rw [hQ]; exact List.mem_cons_self))) (by rw [hw1]; omega) husd
  have hdone : ∀ (vo2 : Value) (N3 : List HO) l x, ((x = vo2 ∧ l = who ++ [i]) ∨ Got x 3 1 i1 (zs l) N3) → Got vo2 3 1 i1 (zs (who ++ [i])) [HO.row vo2 3 1 (ints (zs (who ++ [i]))), Q] → Got x 3 1 i1 (zs l) (N3 ++ [HO.row vo2 3 1 (ints (zs (who ++ [i]))), Q]) := fun vo2 N3 l x h hg => by
    rcases h with ⟨rfl, rfl⟩ | h
    · exact hg.mono fun h hh => List.mem_append_right _ hh
    · exact h.mono fun h hh => List.mem_append_left _ hh
  cases ao with
  | none =>
    have hl0 : zs who = [] := ints_nil (sl_nonil (hvo w (Keep.refl _ w)))
    have hw0 : who = [] := List.eq_nil_of_length_eq_zero (by rw [← zs_len, hl0]; rfl)
    subst hw0
    refine ⟨?_⟩
    simp (config := { maxSteps := 4000000 }) only [↓sx0, ↓sx1, ↓sx2, ↓sx3, ↓sx4, ↓sx5, ↓sx6, sx0, sx1, sx2, sx3, sx4, sx5, sx6, tf76, ev3_hold, sxo, sxc, sxp, sxq, sxr, sxs, sxl, sxm, Int.reduceBEq, Int.reduceBNe, Int.reduceLT, Int.reduceLE, Int.reduceEq, Int.reduceGT, Int.reduceGE, Int.reduceToNat, ↓reduceIte, List.reduceReplicate, Nat.reduceAdd, Nat.reduceSub, Nat.reduceMul, Nat.reduceLT, Nat.reduceLeDiff, Nat.reduceBEq, Nat.reduceEqDiff]
    refine ⟨by simp, by simp, by simp, by simp, fun b => ?_⟩
    simp only [List.length_nil, Nat.sub_self, if_true]
    refine app_one (l := ([] : List Int)) (i : Int) (HImp.nilRow _ _ _ _) i1_len i1_one (by simp) fun ad2 c2 => ?_
    simp (config := { maxSteps := 4000000 }) only [↓sx0, ↓sx1, ↓sx2, ↓sx3, ↓sx4, ↓sx5, ↓sx6, sx0, sx1, sx2, sx3, sx4, sx5, sx6, tf76, ev3_hold, sxo, sxc, sxp, sxq, sxr, sxs, sxl, sxm, Int.reduceBEq, Int.reduceBNe, Int.reduceLT, Int.reduceLE, Int.reduceEq, Int.reduceGT, Int.reduceGE, Int.reduceToNat, ↓reduceIte, List.reduceReplicate, Nat.reduceAdd, Nat.reduceSub, Nat.reduceMul, Nat.reduceLT, Nat.reduceLeDiff, Nat.reduceBEq, Nat.reduceEqDiff, dn]
    refine hcall _ _ _ (HImp.refl _ _) ?_
    rintro r3 N3 ⟨kn3, hkn3, hm3, hr⟩
    have hsub3 : HImp ⟨w, X0⟩ (N3 ++ [HO.row (.slice (some ad2) 1 c2) 3 1 (ints (zs ([] ++ [i]))), Q]) [kwR bk L kn3] := (HImp.pick (List.mem_append_left _ hm3))
    rcases hr with ⟨h3, rfl⟩ | ⟨l, x, h3, rfl, h4⟩
    · rw [findSome_drop hri (hgi.trans h3)] at hinv
      refine ⟨?_⟩
      simp (config := { maxSteps := 4000000 }) only [↓sx0, ↓sx1, ↓sx2, ↓sx3, ↓sx4, ↓sx5, ↓sx6, sx0, sx1, sx2, sx3, sx4, sx5, sx6, tf76, ev3_hold, sxo, sxc, sxp, sxq, sxr, sxs, sxl, sxm, Int.reduceBEq, Int.reduceBNe, Int.reduceLT, Int.reduceLE, Int.reduceEq, Int.reduceGT, Int.reduceGE, Int.reduceToNat, ↓reduceIte, List.reduceReplicate, Nat.reduceAdd, Nat.reduceSub, Nat.reduceMul, Nat.reduceLT, Nat.reduceLeDiff, Nat.reduceBEq, Nat.reduceEqDiff, e8]
      exact ⟨i + 1, _, rfl, hsub3, ⟨by omega, kn3, hkn3, rfl, hinv⟩, by omega⟩
    · rw [findSome_hit hri (hgi.trans h3)] at hinv
      have hgx := hdone _ N3 l x h4 (Got.row (by rw [zs_len, hw1]; rfl) List.mem_cons_self (fun h => by cases h))
      refine ⟨?_⟩
      simp (config := { maxSteps := 4000000 }) only [↓sx0, ↓sx1, ↓sx2, ↓sx3, ↓sx4, ↓sx5, ↓sx6, sx0, sx1, sx2, sx3, sx4, sx5, sx6, tf76, ev3_hold, sxo, sxc, sxp, sxq, sxr, sxs, sxl, sxm, Int.reduceBEq, Int.reduceBNe, Int.reduceLT, Int.reduceLE, Int.reduceEq, Int.reduceGT, Int.reduceGE, Int.reduceToNat, ↓reduceIte, List.reduceReplicate, Nat.reduceAdd, Nat.reduceSub, Nat.reduceMul, Nat.reduceLT, Nat.reduceLeDiff, Nat.reduceBEq, Nat.reduceEqDiff]
      exact ⟨kn3, hkn3, List.mem_append_left _ hm3, .inr ⟨l, x, hinv, rfl, .inr hgx⟩⟩
  | some ao =>
    refine ⟨?_⟩
    simp (config := { maxSteps := 4000000 }) only [↓sx0, ↓sx1, ↓sx2, ↓sx3, ↓sx4, ↓sx5, ↓sx6, sx0, sx1, sx2, sx3, sx4, sx5, sx6, tf76, ev3_hold, sxo, sxc, sxp, sxq, sxr, sxs, sxl, sxm, Int.reduceBEq, Int.reduceBNe, Int.reduceLT, Int.reduceLE, Int.reduceEq, Int.reduceGT, Int.reduceGE, Int.reduceToNat, ↓reduceIte, List.reduceReplicate, Nat.reduceAdd, Nat.reduceSub, Nat.reduceMul, Nat.reduceLT, Nat.reduceLeDiff, Nat.reduceBEq, Nat.reduceEqDiff]
    refine ⟨by omega, by omega, by omega, by omega, fun b => ?_⟩
    rw [show (if who.length = 0 then some ao else some (ao.add 0)) = some (if who.length = 0 then ao else ao.add 0) by split <;> rfl, Nat.sub_zero]
    rw [← hzw]
    refine app_ro (l := zs who) (m := [(i : Int)]) i1_len (by simp) (fun w' hp => ?_) (fun w' hp => row_hp List.mem_cons_self hp) (by simp only [List.length_cons, List.length_nil]; omega) fun b2 c2 => ?_
    · have h := hvo w' (hp.ext.mono hX0b)
      rw [← hzw] at h
      exact sl_full h
    rw [hz1, List.length_singleton]
    simp (config := { maxSteps := 4000000 }) only [↓sx0, ↓sx1, ↓sx2, ↓sx3, ↓sx4, ↓sx5, ↓sx6, sx0, sx1, sx2, sx3, sx4, sx5, sx6, tf76, ev3_hold, sxo, sxc, sxp, sxq, sxr, sxs, sxl, sxm, Int.reduceBEq, Int.reduceBNe, Int.reduceLT, Int.reduceLE, Int.reduceEq, Int.reduceGT, Int.reduceGE, Int.reduceToNat, ↓reduceIte, List.reduceReplicate, Nat.reduceAdd, Nat.reduceSub, Nat.reduceMul, Nat.reduceLT, Nat.reduceLeDiff, Nat.reduceBEq, Nat.reduceEqDiff, dn]
    refine hcall _ _ _ (HImp.tail2 _ _ _ _) ?_
    rintro r3 N3 ⟨kn3, hkn3, hm3, hr⟩
    have hsub3 : HImp ⟨w, X0⟩ (N3 ++ [HO.row (.slice (some ⟨b2, 0, none⟩) ((zs who).length + 1) c2) 3 1 (ints (zs (who ++ [i]))), Q]) [kwR bk L kn3] := (HImp.pick (List.mem_append_left _ hm3))
    rcases hr with ⟨h3, rfl⟩ | ⟨l, x, h3, rfl, h4⟩
    · rw [findSome_drop hri (hgi.trans h3)] at hinv
      refine ⟨?_⟩
      simp (config := { maxSteps := 4000000 }) only [↓sx0, ↓sx1, ↓sx2, ↓sx3, ↓sx4, ↓sx5, ↓sx6, sx0, sx1, sx2, sx3, sx4, sx5, sx6, tf76, ev3_hold, sxo, sxc, sxp, sxq, sxr, sxs, sxl, sxm, Int.reduceBEq, Int.reduceBNe, Int.reduceLT, Int.reduceLE, Int.reduceEq, Int.reduceGT, Int.reduceGE, Int.reduceToNat, ↓reduceIte, List.reduceReplicate, Nat.reduceAdd, Nat.reduceSub, Nat.reduceMul, Nat.reduceLT, Nat.reduceLeDiff, Nat.reduceBEq, Nat.reduceEqDiff, e8]
      exact ⟨i + 1, _, rfl, hsub3, ⟨by omega, kn3, hkn3, rfl, hinv⟩, by omega⟩
    · rw [findSome_hit hri (hgi.trans h3)] at hinv
      have hgx := hdone _ N3 l x h4 (Got.row (by rw [zs_len, hw1]; rw [hzw]) List.mem_cons_self (fun h => by cases h))
      refine ⟨?_⟩
      simp (config := { maxSteps := 4000000 }) only [↓sx0, ↓sx1, ↓sx2, ↓sx3, ↓sx4, ↓sx5, ↓sx6, sx0, sx1, sx2, sx3, sx4, sx5, sx6, tf76, ev3_hold, sxo, sxc, sxp, sxq, sxr, sxs, sxl, sxm, Int.reduceBEq, Int.reduceBNe, Int.reduceLT, Int.reduceLE, Int.reduceEq, Int.reduceGT, Int.reduceGE, Int.reduceToNat, ↓reduceIte, List.reduceReplicate, Nat.reduceAdd, Nat.reduceSub, Nat.reduceMul, Nat.reduceLT, Nat.reduceLeDiff, Nat.reduceBEq, Nat.reduceEqDiff]
      exact ⟨kn3, hkn3, List.mem_append_left _ hm3, .inr ⟨l, x, hinv, rfl, .inr hgx⟩⟩
end Go.Proofs.YtaloedccoadedaaDoor

namespace Go.Proofs.YtaloedccoadedaaDoor
open Go.RowKit Go.SX
set_option maxRecDepth 20000
set_option maxHeartbeats 0
set_option linter.unusedSimpArgs false
set_option linter.unusedVariables false
theorem hp_drop {w0 w : World} {bk L : Nat} {kn : List Int} {B : List HO} (hp : Hp ⟨w0, fun _ => False⟩ (kwR bk L kn :: B) w) : ∀ w', Keep (fun b => b = bk) w w' → Hp ⟨w0, fun _ => False⟩ B w' := fun w' hk => by
  have hnd := List.pairwise_cons.1 hp.nd
  refine ⟨hk.into hp.ext fun b hb => .inr ?_, fun g hg => ?_, fun g hg => hp.old _ (List.mem_cons_of_mem _ hg), hnd.2⟩
  · have hb : b = bk := hb
    rw [hb]
    exact (hp.old _ List.mem_cons_self bk kwR_fp.2).resolve_left id
  · have hne : ∀ b, g.fp b → b ≠ bk := fun b hb e => by
      subst e
      exact (hnd.1 _ hg b kwR_fp.1 hb).1 kwR_fp.2
    exact HO.stable (hp.ok _ (List.mem_cons_of_mem _ hg)) (hk.sameOn (fun b hb => HO.lt (hp.ok _ (List.mem_cons_of_mem _ hg)) hb) fun b hb => hne b hb)
theorem cells_ne {w0 : Base} {w : World} {bk L b : Nat} {kn : List Int} {B : List HO} {T : TypeId} {cs : List Value} (hp : Hp w0 (kwR bk L kn :: B) w) (h : HO.cells b T cs ∈ B) : b ≠ bk := fun e => by
  subst e
  exact ((List.pairwise_cons.1 hp.nd).1 _ h b kwR_fp.1 rfl).1 kwR_fp.2
def SrcP (d : Dis) (q : Value) (N : List HO) : Prop := (d.E ≠ 0 ∧ q = .tuple #[.slice none 0 0, I d.E]) ∨ (d.E = 0 ∧ ((srcL d.canB d.rs.length = none ∧ q = .tuple #[.slice none 0 0, I 3]) ∨ ∃ l x, srcL d.canB d.rs.length = some l ∧ q = .tuple #[x, I 0] ∧ Got x 3 1 i1 (zs l) N))
theorem PaOk.of {w0 w : World} {bp bs bk L : Nat} {d : Dis} {v : Value} {kn : List Int} {N B : List HO} (hS : SeaN N v bs d) (hm : ∀ h ∈ N, h ∈ B) (hd : DsOk w0 v d) (hc : HO.cells bp 103 [.pointer (some ⟨bs, 0, none⟩), .slice (some ⟨bk, 0, none⟩) L L] ∈ B) (hp : Hp ⟨w0, fun _ => False⟩ (kwR bk L kn :: B) w) : PaOk w bp bs bk L d := by
  refine ⟨cells_ne hp hc, ?_, fun w' hk => ?_⟩
  · obtain ⟨sD, sT, sS, sR, vA, vF, vX, h1, h2, h3⟩ := hS
    exact cells_ne hp (hm _ h2)
  · have hp2 := hp_drop hp w' hk
    have hcc := hp2.ok _ hc
    exact ⟨⟨by rw [cell_of_cells hcc]; rfl, by rw [cell_of_cells hcc]; rfl⟩, hS.ok hm hd hp2⟩
theorem sources_fn (w : World) (hw : Ways w) (v : Value) (d : Dis) (hd : DsOk w v d) (hsm : d.small) (h10 : d.E = 0 → d.rs.length ≤ 10) : SX.Fn Tryd.prog 37 [v] w (fun _ => False) (SrcP d) := by
  have hd0 := hd
  have hop := fun (H : List HO) w' (hp : Hp ⟨w, fun _ => False⟩ H w') => open3_fn w' (hw.hp hp) v d (hd0.hp hp) hsm
  obtain ⟨sD, sT, sS, sR, rfl, hc, hsR⟩ := hd
  obtain ⟨aR, nR, cR, rfl⟩ := hsR.shape
  have hnR := hsR.le rpc_len (by omega)
  subst hnR
  have dn : ∀ (g : Nat) (xs : List Value), det0 g xs = none := fun _ _ => rfl
  unfold SrcP
  unfold OpenP at hop
  refine walk [25] [] (det0_ok _ _) Tryd.func37 rfl Tryd.ntmps37 res37 (by kernel_rfl) no_facts ?_
  simp (config := { maxSteps := 4000000 }) only [↓sx0, ↓sx1, ↓sx2, ↓sx3, ↓sx4, ↓sx5, ↓sx6, sx0, sx1, sx2, sx3, sx4, sx5, sx6, tf37, ev3_hold, sxo, sxc, sxp, sxq, sxr, sxs, sxl, sxm, simprocAttr, dn]
  refine CallOb.pureH (fun w' hp => hop _ w' hp) ?_
  rintro q N (⟨hE, rfl⟩ | ⟨hE, bs, rfl, hS⟩)
  · have p1 : (d.E = 0) = False := eq_false hE
    refine ⟨?_⟩
    simp (config := { maxSteps := 4000000 }) only [↓sx0, ↓sx1, ↓sx2, ↓sx3, ↓sx4, ↓sx5, ↓sx6, sx0, sx1, sx2, sx3, sx4, sx5, sx6, tf37, ev3_hold, sxo, sxc, sxp, sxq, sxr, sxs, sxl, sxm, simprocAttr, p1]
    exact .inl trivial
  have hm10 := h10 hE
  have e1 := shl12 ⟨d.rs.length, by omega⟩
  simp only [] at e1
  have hpw : 2 ^ d.rs.length ≤ 1024 := Nat.le_trans (Nat.pow_le_pow_right (by decide) hm10) (by decide)
  have hp0 : 0 < 2 ^ d.rs.length := Nat.pow_pos (by decide)
  have e2 : wr ((d.rs.length : Int) + 1) = ((d.rs.length + 1 : Nat) : Int) := (wrap_id (by omega)).trans (by omega)
  have hshare := fun bp bk (kn : List Int) (hkn : KwOk d.canB (2 ^ d.rs.length) kn) (B : List HO) (hm : ∀ h ∈ N, h ∈ B) (hc : HO.cells bp 103 [.pointer (some ⟨bs, 0, none⟩), .slice (some ⟨bk, 0, none⟩) (2 ^ d.rs.length) (2 ^ d.rs.length)] ∈ B) (most : Nat) (hmost : most ≤ 20) w' (hp : Hp ⟨w, fun _ => False⟩ (kwR bk (2 ^ d.rs.length) kn :: B) w') => share_fn bp bs bk d hE hm10 most hmost d.rs.length w' (PaOk.of hS hm hd0 hc hp) kn (hp.ok _ List.mem_cons_self) hkn [] (.slice none 0 0) (.slice none 0 0) (fun _ _ => Sl.nil _ _) (fun a n c h => by cases h; exact Nat.le_refl _) (fun _ _ => Sl.nil _ _) (by simp) (by decide)
  have hsr : srcL d.canB d.rs.length = (List.range (d.rs.length + 1)).findSome? fun most => splL d.canB most d.rs.length [] := rfl
  obtain ⟨G, hG⟩ : ∃ G, (fun most => splL d.canB most d.rs.length []) = G := ⟨_, rfl⟩
  have hGe : ∀ i, splL d.canB i d.rs.length [] = G i := fun i => by rw [← hG]
  rw [hG] at hsr
  unfold ShP at hshare
  simp only [hGe] at hshare
  refine ⟨?_⟩
  simp (config := { maxSteps := 4000000 }) only [↓sx0, ↓sx1, ↓sx2, ↓sx3, ↓sx4, ↓sx5, ↓sx6, sx0, sx1, sx2, sx3, sx4, sx5, sx6, tf37, ev3_hold, sxo, sxc, sxp, sxq, sxr, sxs, sxl, sxm, simprocAttr, Int.toNat_natCast, e1, e2, dn]
  refine ⟨by omega, by omega, by omega, by omega, fun bk bp => ?_⟩
  obtain ⟨L, hL⟩ : ∃ L, 2 ^ d.rs.length = L := ⟨_, rfl⟩
  simp only [hL] at hshare ⊢
  rw [hL] at hpw hp0
  have hz : zerosL L [Value.int .i8 0] = cat k1 (List.replicate L 0) := zeros_cat k1 0 L
  have hk0 : KwOk d.canB L (List.replicate L 0) := ⟨List.length_replicate, fun s x hx => .inl (List.eq_of_mem_replicate (List.mem_of_getElem? hx))⟩
  obtain ⟨B, hB⟩ : ∃ B, HO.cells bp 103 [.pointer (some ⟨bs, 0, none⟩), .slice (some ⟨bk, 0, none⟩) L L] :: N = B := ⟨_, rfl⟩
  have hshare := fun (kn : List Int) (hkn : KwOk d.canB L kn) => hshare bp bk kn hkn B (by rw [← hB]; simp +contextual) (by rw [← hB]; exact List.mem_cons_self)
  refine loop_constH (kwR bk L (List.replicate L 0) :: B) (by rw [hL, hz, ← hB]; exact HImp.swap _ _ _ _) [(2, 3), (7, 9), (30, 41)] (fun i : Nat => [(30, I i)]) (fun i H1 => i ≤ d.rs.length + 1 ∧ ∃ kn', KwOk d.canB L kn' ∧ H1 = kwR bk L kn' :: B ∧ srcL d.canB d.rs.length = ((List.range (d.rs.length + 1)).drop i).findSome? G) (fun i => d.rs.length + 1 - i) 0 ?_ ⟨Nat.zero_le _, _, hk0, rfl, hsr⟩ ?_
  · simp (config := { maxSteps := 4000000 }) only [↓sx0, ↓sx1, ↓sx2, ↓sx3, ↓sx4, ↓sx5, ↓sx6, sx0, sx1, sx2, sx3, sx4, sx5, sx6, tf37, ev3_hold, sxo, sxc, sxp, sxq, sxr, sxs, sxl, sxm, simprocAttr]
    try simp
  rintro i H1 g1 ⟨hi, kn', hkn', rfl, hinv⟩
  by_cases hin : i = d.rs.length + 1
  · have e7 : ((i : Int) < ((d.rs.length + 1 : Nat) : Int)) = False := eq_false (by omega)
    rw [List.drop_of_length_le (by rw [List.length_range]; omega)] at hinv
    refine ⟨?_⟩
    simp (config := { maxSteps := 4000000 }) only [↓sx0, ↓sx1, ↓sx2, ↓sx3, ↓sx4, ↓sx5, ↓sx6, sx0, sx1, sx2, sx3, sx4, sx5, sx6, tf37, ev3_hold, sxo, sxc, sxp, sxq, sxr, sxs, sxl, sxm, simprocAttr, e7]
    exact .inr ⟨hE, .inl hinv⟩
  have e7 : ((i : Int) < ((d.rs.length + 1 : Nat) : Int)) = True := eq_true (by omega)
  have e8 : wr ((i : Int) + 1) = ((i + 1 : Nat) : Int) := (wrap_id (by omega)).trans (by omega)
  have hri : (List.range (d.rs.length + 1))[i]? = some i := List.getElem?_range (by omega)
  refine ⟨?_⟩
  simp (config := { maxSteps := 4000000 }) only [↓sx0, ↓sx1, ↓sx2, ↓sx3, ↓sx4, ↓sx5, ↓sx6, sx0, sx1, sx2, sx3, sx4, sx5, sx6, tf37, ev3_hold, sxo, sxc, sxp, sxq, sxr, sxs, sxl, sxm, simprocAttr, e7, dn]
  refine CallOb.mutH (A := [kwR bk L kn']) (B := B) (HImp.refl _ _) fps_kwR (fun w' hp => hshare kn' hkn' i (by omega) w' hp) ?_
  rintro r N2 ⟨kn2, hkn2, hm2, hr⟩
  have hsub : HImp ⟨w, fun _ => False⟩ (N2 ++ B) (kwR bk L kn2 :: B) := HImp.append (HImp.pick hm2)
  rcases hr with ⟨h3, rfl⟩ | ⟨l, x, h3, rfl, h4⟩
  · rw [findSome_drop hri h3] at hinv
    refine ⟨?_⟩
    simp (config := { maxSteps := 4000000 }) only [↓sx0, ↓sx1, ↓sx2, ↓sx3, ↓sx4, ↓sx5, ↓sx6, sx0, sx1, sx2, sx3, sx4, sx5, sx6, tf37, ev3_hold, sxo, sxc, sxp, sxq, sxr, sxs, sxl, sxm, simprocAttr, e8]
    exact ⟨i + 1, _, rfl, hsub, ⟨by omega, kn2, hkn2, rfl, hinv⟩, by omega⟩
  · rw [findSome_hit hri h3] at hinv
    refine ⟨?_⟩
    simp (config := { maxSteps := 4000000 }) only [↓sx0, ↓sx1, ↓sx2, ↓sx3, ↓sx4, ↓sx5, ↓sx6, sx0, sx1, sx2, sx3, sx4, sx5, sx6, tf37, ev3_hold, sxo, sxc, sxp, sxq, sxr, sxs, sxl, sxm, simprocAttr]
    refine .inr ⟨hE, .inr ⟨l, x, hinv, rfl, ?_⟩⟩
    rcases h4 with ⟨rfl, rfl⟩ | h4
    · exact Got.nil _
    · exact h4.mono fun h hh => List.mem_append_left _ hh
end Go.Proofs.YtaloedccoadedaaDoor

namespace Go.Proofs.YtaloedccoadedaaDoor
open Go.RowKit Go.SX
set_option maxRecDepth 20000
set_option maxHeartbeats 0
set_option linter.unusedSimpArgs false
set_option linter.unusedVariables false
theorem rjoint_fn (w : World) (hw : Ways w) (v : Value) (d : Dis) (hd : DsOk w v d) (hE : d.E = 0) (vo : Value) (who : List Nat) (hwho : Sl w vo 1 (ints (zs who))) (hl : who.length ≤ d.rs.length) (n : Nat) :
    SX.Fn Tryd.prog 78 [v, vo, I n] w (fun _ => False) fun q N => q = .bool (d.canB (msk who n)) := by
  have hd0 := hd
  obtain ⟨_, _, _, hm12, _⟩ := Dis.E_zero hE
  have hev := fun (H : List HO) w' (hp : Hp ⟨w, fun _ => False⟩ H w') => every_fn w' v d (hd0.hp hp) (by omega) true
  have hfi := fun (vc vu : Value) (H : List HO) w' (hp : Hp ⟨w, fun _ => False⟩ H w') (hc : Sl w' vc 1 (cat b1 (rowF d.rs.length (msk who n).testBit))) (hu : Sl w' vu 1 (cat b1 (rowF d.rs.length fun _ => true))) => rfirst_fn w' (hw.hp hp) v vc vu d (hd0.hp hp) hE _ _ hc hu
  simp only [Dis.prc_some] at hfi
  have hcan : d.canB (msk who n) = decide ((d.crs (pSome (msk who n))).least < NV) := rfl
  obtain ⟨sD, sT, sS, sR, rfl, hc, hsR⟩ := hd
  obtain ⟨aR, nR, cR, rfl⟩ := hsR.shape
  have hnR := hsR.le rpc_len (by omega)
  subst hnR
  obtain ⟨ao, no, co, rfl⟩ := hwho.shape
  have hno := hwho.le i1_len (by decide)
  rw [zs_len] at hno
  subst hno
  have hrw := fun H => hwho.rd0 H
  have hbit : ∀ j, (msk who n).testBit j = decide (who[j]? = some n) := fun j => msk_bit who n j
  obtain ⟨p, hp⟩ : ∃ p, (msk who n).testBit = p := ⟨_, rfl⟩
  simp only [hp] at hfi hbit
  rw [hcan]
  obtain ⟨g, hg⟩ : ∃ g, d.crs (pSome (msk who n)) = g := ⟨_, rfl⟩
  simp only [hg] at hfi ⊢
  obtain ⟨m, hm⟩ : ∃ m, d.rs.length = m := ⟨_, rfl⟩
  simp only [hm] at hev hfi hl hm12 ⊢
  have dn : ∀ (g : Nat) (xs : List Value), det0 g xs = none := fun _ _ => rfl
  refine walk [] [] (det0_ok _ _) Tryd.func78 rfl Tryd.ntmps78 res78 (by kernel_rfl) no_facts ?_
  simp (config := { maxSteps := 4000000 }) only [↓sx0, ↓sx1, ↓sx2, ↓sx3, ↓sx4, ↓sx5, ↓sx6, sx0, sx1, sx2, sx3, sx4, sx5, sx6, tf78, ev3_hold, sxo, sxc, sxp, sxq, sxr, sxs, sxl, sxm, simprocAttr]
  refine ⟨by omega, by omega, by omega, fun b => ?_⟩
  have hz : zerosL m [Value.bool false] = cat b1 (rowF m fun x => if x < 0 then p x else false) := by
    rw [show (rowF m fun x => if x < 0 then p x else false) = List.replicate m false by rw [rowF_rep]; rfl]
    exact zeros_cat b1 false m
  refine loop_constH [HO.row (.slice (some ⟨b, 0, none⟩) m m) 4 1 (cat b1 (rowF m fun x => if x < 0 then p x else false))] (by rw [← hz]; exact HImp.refl _ _) [(8, 8), (15, 29)] (fun i : Nat => [(8, I i)])
    (fun i H1 => i ≤ who.length ∧ H1 = [HO.row (.slice (some ⟨b, 0, none⟩) m m) 4 1 (cat b1 (rowF m fun x => if x < i then p x else false))]) (fun i => who.length - i) 0 ?_ ⟨Nat.zero_le _, rfl⟩ ?_
  · simp (config := { maxSteps := 4000000 }) only [↓sx0, ↓sx1, ↓sx2, ↓sx3, ↓sx4, ↓sx5, ↓sx6, sx0, sx1, sx2, sx3, sx4, sx5, sx6, tf78, ev3_hold, sxo, sxc, sxp, sxq, sxr, sxs, sxl, sxm, simprocAttr]
    try simp
  rintro i H1 g1 ⟨hi, rfl⟩
  by_cases hin : i = who.length
  · have e7 : ((i : Int) < (who.length : Int)) = False := eq_false (by omega)
    have hfull : (rowF m fun x => if x < i then p x else false) = rowF m p := rowF_congr fun x hx => by
      by_cases h : x < i
      · rw [if_pos h]
      · rw [if_neg h, hbit x, List.getElem?_eq_none (by omega)]
        rfl
    rw [hfull]
    obtain ⟨H, hH⟩ : ∃ H, [HO.row (.slice (some ⟨b, 0, none⟩) m m) 4 1 (cat b1 (rowF m p))] = H := ⟨_, rfl⟩
    have hmem : HO.row (.slice (some ⟨b, 0, none⟩) m m) 4 1 (cat b1 (rowF m p)) ∈ H := by rw [← hH]; exact List.mem_cons_self
    rw [hH]
    refine ⟨?_⟩
    simp (config := { maxSteps := 4000000 }) only [↓sx0, ↓sx1, ↓sx2, ↓sx3, ↓sx4, ↓sx5, ↓sx6, sx0, sx1, sx2, sx3, sx4, sx5, sx6, tf78, ev3_hold, sxo, sxc, sxp, sxq, sxr, sxs, sxl, sxm, simprocAttr, e7, dn]
    refine CallOb.pureH (fun w' hp => hev _ w' hp) ?_
    intro q N1 hG1
    obtain ⟨a1, c1, hq⟩ := hG1.shape
    subst hq
    refine ⟨?_⟩
    simp (config := { maxSteps := 4000000 }) only [↓sx0, ↓sx1, ↓sx2, ↓sx3, ↓sx4, ↓sx5, ↓sx6, sx0, sx1, sx2, sx3, sx4, sx5, sx6, tf78, ev3_hold, sxo, sxc, sxp, sxq, sxr, sxs, sxl, sxm, simprocAttr, dn]
    refine CallOb.pureH (fun w' hp => hfi _ _ _ w' hp (row_hp (E := 4) (List.mem_append_right _ hmem) hp) (hG1.hp (fun h hh => List.mem_append_left _ hh) hp)) ?_
    rintro q N2 (⟨hl, x, rfl, hG⟩ | ⟨hl, rfl⟩)
    · have p2 : (g.least < 1073741824) = True := eq_true hl
      refine ⟨?_⟩
      simp (config := { maxSteps := 4000000 }) only [↓sx0, ↓sx1, ↓sx2, ↓sx3, ↓sx4, ↓sx5, ↓sx6, sx0, sx1, sx2, sx3, sx4, sx5, sx6, tf78, ev3_hold, sxo, sxc, sxp, sxq, sxr, sxs, sxl, sxm, simprocAttr, p2]
      rw [decide_eq_true hl]
    · rw [decide_eq_false hl]
      refine ⟨?_⟩
      simp (config := { maxSteps := 4000000 }) only [↓sx0, ↓sx1, ↓sx2, ↓sx3, ↓sx4, ↓sx5, ↓sx6, sx0, sx1, sx2, sx3, sx4, sx5, sx6, tf78, ev3_hold, sxo, sxc, sxp, sxq, sxr, sxs, sxl, sxm, simprocAttr]
  have e7 : ((i : Int) < (who.length : Int)) = True := eq_true (by omega)
  have e8 : wr (i + 1) = ((i + 1 : Nat) : Int) := (wrap_id (by omega)).trans (by omega)
  have hil : i < who.length := by omega
  obtain ⟨u, hu⟩ : ∃ u, who[i]? = some u := ⟨_, List.getElem?_eq_getElem hil⟩
  have hzu : (zs who)[i]? = some (u : Int) := by
    unfold zs
    rw [List.getElem?_map, hu]
    rfl
  have hpi := hbit i
  rw [hu] at hpi
  have hset : ∀ v, p i = v → (rowF m fun x => if x < i then p x else false).set i v = rowF m fun x => if x < i + 1 then p x else false := fun v hv => by
    rw [rowF_set]
    refine rowF_congr fun x hx => ?_
    by_cases e : x = i
    · rw [if_pos e, if_pos (by omega), e, hv]
    · rw [if_neg e]
      by_cases h : x < i
      · rw [if_pos h, if_pos (by omega)]
      · rw [if_neg h, if_neg (by omega)]
  have hfin : ∀ v, p i = v → decide ((u : Int) = (n : Int)) = v := fun v hv => by
    rw [← hv, hpi]
    by_cases h : u = n
    · rw [decide_eq_true (by omega), h, decide_eq_true rfl]
    · rw [decide_eq_false (by omega), decide_eq_false (fun h2 => h (by injection h2))]
  refine ⟨?_⟩
  simp (config := { maxSteps := 4000000 }) only [↓sx0, ↓sx1, ↓sx2, ↓sx3, ↓sx4, ↓sx5, ↓sx6, sx0, sx1, sx2, sx3, sx4, sx5, sx6, tf78, ev3_hold, sxo, sxc, sxp, sxq, sxr, sxs, sxl, sxm, simprocAttr, e7]
  refine amid (at_1 (hrw _) i1_len hzu rfl fun ad => ?_)
  obtain ⟨vb, hvb⟩ : ∃ vb, p i = vb := ⟨_, rfl⟩
  have hset := hset vb hvb
  have hfin := hfin vb hvb
  have hfi3 : ((u : Int) == (n : Int)) = vb := hfin
  simp (config := { maxSteps := 4000000 }) only [↓sx0, ↓sx1, ↓sx2, ↓sx3, ↓sx4, ↓sx5, ↓sx6, sx0, sx1, sx2, sx3, sx4, sx5, sx6, tf78, ev3_hold, sxo, sxc, sxp, sxq, sxr, sxs, sxl, sxm, simprocAttr]
  rw [hfi3]
  refine ⟨by omega, by omega, _, rfl, ?_⟩
  refine wr_at (A := []) (B := []) (ad := ⟨b, 0, none⟩) (len := m) (cap := m) (e := 4) (f := b1) (l := rowF m fun x => if x < i then p x else false) (u := vb) (k := i) rfl b1_len (by rw [rowF_len]) (by rw [rowF_len]; omega) ?_
  rw [hset]
  simp (config := { maxSteps := 4000000 }) only [↓sx0, ↓sx1, ↓sx2, ↓sx3, ↓sx4, ↓sx5, ↓sx6, sx0, sx1, sx2, sx3, sx4, sx5, sx6, tf78, ev3_hold, sxo, sxc, sxp, sxq, sxr, sxs, sxl, sxm, simprocAttr, e8]
  exact ⟨i + 1, _, rfl, HImp.refl _ _, ⟨by omega, rfl⟩, by omega⟩
def SplP (can : Nat → Bool) (most f : Nat) (who : List Nat) (vo r : Value) (N : List HO) : Prop := (splL can most f who = none ∧ r = .tuple #[.slice none 0 0, .bool false]) ∨ ∃ l x, splL can most f who = some l ∧ r = .tuple #[x, .bool true] ∧ ((x = vo ∧ l = who) ∨ Got x 3 1 i1 (zs l) N)
theorem rsplit_fn (d : Dis) (v : Value) (hE : d.E = 0) (most : Nat) (hmost : most ≤ 20) : ∀ (f : Nat) (w : World) (hw : Ways w) (hd : DsOk w v d) (who : List Nat) (vo : Value) (hvo : Sl w vo 1 (ints (zs who))) (hf : who.length + f = d.rs.length) (hu : usd who ≤ 20),
    SX.Fn Tryd.prog 77 [v, vo, I (usd who), I most] w (fun _ => False) (SplP d.canB most f who vo) := by
  intro f
  induction f with
  | zero =>
    intro w hw hd who vo hvo hf hu
    obtain ⟨_, _, _, hm12, _⟩ := Dis.E_zero hE
    obtain ⟨sD, sT, sS, sR, rfl, hc, hsR⟩ := hd
    obtain ⟨aR, nR, cR, rfl⟩ := hsR.shape
    have hnR := hsR.le rpc_len (by omega)
    subst hnR
    obtain ⟨ao, no, co, rfl⟩ := hvo.shape
    have hno := hvo.le i1_len (by decide)
    rw [zs_len] at hno
    subst hno
    have e1 : ((who.length : Int) = (d.rs.length : Int)) = True := eq_true (by omega)
    refine walk [] [] (det0_ok _ _) Tryd.func77 rfl Tryd.ntmps77 res77 (by kernel_rfl) no_facts ?_
    simp (config := { maxSteps := 4000000 }) only [↓sx0, ↓sx1, ↓sx2, ↓sx3, ↓sx4, ↓sx5, ↓sx6, sx0, sx1, sx2, sx3, sx4, sx5, sx6, tf77, ev3_hold, sxo, sxc, sxp, sxq, sxr, sxs, sxl, sxm, simprocAttr, e1]
    exact .inr ⟨who, _, rfl, rfl, .inl ⟨rfl, rfl⟩⟩
  | succ f ih =>
  intro w hw hd who vo hvo hf hu
  have hd0 := hd
  obtain ⟨_, _, _, hm12, _⟩ := Dis.E_zero hE
  have hjo := fun (whi : List Nat) (n : Nat) (vi : Value) (hl : whi.length ≤ d.rs.length) (H : List HO) w' (hp : Hp ⟨w, fun _ => False⟩ H w') (hs : Sl w' vi 1 (ints (zs whi))) => rjoint_fn w' (hw.hp hp) v d (hd0.hp hp) hE vi whi hs hl n
  have hih := fun (whi : List Nat) (vi : Value) (hl : whi.length + f = d.rs.length) (hu : usd whi ≤ 20) (H : List HO) w' (hp : Hp ⟨w, fun _ => False⟩ H w') (hs : Sl w' vi 1 (ints (zs whi))) => ih w' (hw.hp hp) (hd0.hp hp) whi vi hs hl hu
  obtain ⟨sD, sT, sS, sR, rfl, hc, hsR⟩ := hd
  obtain ⟨aR, nR, cR, rfl⟩ := hsR.shape
  have hnR := hsR.le rpc_len (by omega)
  subst hnR
  have hvo0 := hvo
  obtain ⟨ao, no, co, rfl⟩ := hvo.shape
  have hno := hvo.le i1_len (by decide)
  rw [zs_len] at hno
  subst hno
  have e1 : ((who.length : Int) = (d.rs.length : Int)) = False := eq_false (by omega)
  obtain ⟨M, hM⟩ : ∃ M, min most (usd who + 1) = M := ⟨_, rfl⟩
  have hF : splL d.canB most (f + 1) who = (List.range M).findSome? fun i => if d.canB (msk (who ++ [i]) i) then splL d.canB most f (who ++ [i]) else none := by rw [← hM]; rfl
  obtain ⟨G, hG⟩ : ∃ G, (fun i => if d.canB (msk (who ++ [i]) i) then splL d.canB most f (who ++ [i]) else none) = G := ⟨_, rfl⟩
  have hGe : ∀ i, G i = if d.canB (msk (who ++ [i]) i) then splL d.canB most f (who ++ [i]) else none := fun i => by rw [← hG]
  rw [hG] at hF
  have dn : ∀ (g : Nat) (xs : List Value), det0 g xs = none := fun _ _ => rfl
  refine walk [] [] (det0_ok _ _) Tryd.func77 rfl Tryd.ntmps77 res77 (by kernel_rfl) no_facts ?_
  simp (config := { maxSteps := 4000000 }) only [↓sx0, ↓sx1, ↓sx2, ↓sx3, ↓sx4, ↓sx5, ↓sx6, sx0, sx1, sx2, sx3, sx4, sx5, sx6, tf77, ev3_hold, sxo, sxc, sxp, sxq, sxr, sxs, sxl, sxm, simprocAttr, e1]
  refine loop_constH [] (HImp.refl _ _) [(8, 13), (21, 54)] (fun i : Nat => [(10, I i)]) (fun i H1 => i ≤ M ∧ H1 = [] ∧ splL d.canB most (f + 1) who = ((List.range M).drop i).findSome? G) (fun i => M - i) 0 ?_ ⟨Nat.zero_le _, rfl, hF⟩ ?_
  · simp (config := { maxSteps := 4000000 }) only [↓sx0, ↓sx1, ↓sx2, ↓sx3, ↓sx4, ↓sx5, ↓sx6, sx0, sx1, sx2, sx3, sx4, sx5, sx6, tf77, ev3_hold, sxo, sxc, sxp, sxq, sxr, sxs, sxl, sxm, simprocAttr]
    try simp
  rintro i H1 g1 ⟨hi, rfl, hinv⟩
  by_cases hin : i = M
  · rw [List.drop_of_length_le (by rw [List.length_range]; omega)] at hinv
    by_cases h1 : i ≤ usd who
    · have e7 : ((i : Int) ≤ (usd who : Int)) = True := eq_true (by omega)
      have e9 : ((i : Int) < (most : Int)) = False := eq_false (by omega)
      refine ⟨?_⟩
      simp (config := { maxSteps := 4000000 }) only [↓sx0, ↓sx1, ↓sx2, ↓sx3, ↓sx4, ↓sx5, ↓sx6, sx0, sx1, sx2, sx3, sx4, sx5, sx6, tf77, ev3_hold, sxo, sxc, sxp, sxq, sxr, sxs, sxl, sxm, simprocAttr, e7, e9]
      exact .inl ⟨hinv, rfl⟩
    · have e7 : ((i : Int) ≤ (usd who : Int)) = False := eq_false (by omega)
      refine ⟨?_⟩
      simp (config := { maxSteps := 4000000 }) only [↓sx0, ↓sx1, ↓sx2, ↓sx3, ↓sx4, ↓sx5, ↓sx6, sx0, sx1, sx2, sx3, sx4, sx5, sx6, tf77, ev3_hold, sxo, sxc, sxp, sxq, sxr, sxs, sxl, sxm, simprocAttr, e7]
      exact .inl ⟨hinv, rfl⟩
  have e7 : ((i : Int) ≤ (usd who : Int)) = True := eq_true (by omega)
  have e9 : ((i : Int) < (most : Int)) = True := eq_true (by omega)
  have e8 : wr ((i : Int) + 1) = ((i + 1 : Nat) : Int) := (wrap_id (by omega)).trans (by omega)
  have hri : (List.range M)[i]? = some i := List.getElem?_range (by omega)
  have hgi := hGe i
  have hw1 : (who ++ [i]).length = who.length + 1 := by rw [List.length_append]; rfl
  have hz1 : zs who ++ [(i : Int)] = zs (who ++ [i]) := by rw [zs_app]; rfl
  have hzw : (zs who).length = who.length := zs_len _
  have hzw1 : (zs (who ++ [i])).length = who.length + 1 := by rw [zs_len, hw1]
  have husd : usd (who ++ [i]) ≤ 20 := by rw [usd_snoc]; omega
  have hmx : max (usd who : Int) ((i + 1 : Nat) : Int) = ((usd (who ++ [i]) : Nat) : Int) := by rw [usd_snoc]; omega
  have hjo := hjo (who ++ [i]) i
  have hih := hih (who ++ [i])
  obtain ⟨B, hB⟩ : ∃ B, d.canB (msk (who ++ [i]) i) = B := ⟨_, rfl⟩
  rw [hB] at hgi
  simp only [hB] at hjo
  refine ⟨?_⟩
  simp (config := { maxSteps := 4000000 }) only [↓sx0, ↓sx1, ↓sx2, ↓sx3, ↓sx4, ↓sx5, ↓sx6, sx0, sx1, sx2, sx3, sx4, sx5, sx6, tf77, ev3_hold, sxo, sxc, sxp, sxq, sxr, sxs, sxl, sxm, simprocAttr, e7, e9]
  intro b0
  refine app_at (f := i1) (l := []) (m := zs who) (HImp.refl _ _) i1_len i1_one (fun w' hp' => Sl.hp (w0 := ⟨w, fun _ => False⟩) hvo0 (fun _ _ => id) hp') (bytes := 8) (by simp only [List.length_nil]; omega) ?_
  intro ad3 c3 hnil
  rw [List.nil_append, List.length_nil, Nat.zero_add]
  simp (config := { maxSteps := 4000000 }) only [↓sx0, ↓sx1, ↓sx2, ↓sx3, ↓sx4, ↓sx5, ↓sx6, sx0, sx1, sx2, sx3, sx4, sx5, sx6, tf77, ev3_hold, sxo, sxc, sxp, sxq, sxr, sxs, sxl, sxm, simprocAttr]
  intro b4
  refine app_one (l := zs who) (i : Int) (HImp.refl _ _) i1_len i1_one (by omega) fun ad4 c4 => ?_
  rw [hz1, hzw]
  have hrow : HO.row (.slice (some ad4) (who.length + 1) c4) 3 1 (ints (zs (who ++ [i]))) ∈ [HO.row (.slice (some ad4) (who.length + 1) c4) 3 1 (ints (zs (who ++ [i])))] := List.mem_cons_self
  simp (config := { maxSteps := 4000000 }) only [↓sx0, ↓sx1, ↓sx2, ↓sx3, ↓sx4, ↓sx5, ↓sx6, sx0, sx1, sx2, sx3, sx4, sx5, sx6, tf77, ev3_hold, sxo, sxc, sxp, sxq, sxr, sxs, sxl, sxm, simprocAttr, dn]
  refine CallOb.pureH (fun w' hp => hjo _ (by omega) _ w' hp (row_hp (E := 3) List.mem_cons_self hp)) ?_
  rintro q N rfl
  cases B with
  | false =>
    rw [if_neg (by simp)] at hgi
    rw [findSome_drop hri hgi] at hinv
    refine ⟨?_⟩
    simp (config := { maxSteps := 4000000 }) only [↓sx0, ↓sx1, ↓sx2, ↓sx3, ↓sx4, ↓sx5, ↓sx6, sx0, sx1, sx2, sx3, sx4, sx5, sx6, tf77, ev3_hold, sxo, sxc, sxp, sxq, sxr, sxs, sxl, sxm, simprocAttr, e8]
    exact ⟨i + 1, _, rfl, HImp.nil _ _, ⟨by omega, rfl, hinv⟩, by omega⟩
  | true =>
  rw [if_pos rfl] at hgi
  refine ⟨?_⟩
  simp (config := { maxSteps := 4000000 }) only [↓sx0, ↓sx1, ↓sx2, ↓sx3, ↓sx4, ↓sx5, ↓sx6, sx0, sx1, sx2, sx3, sx4, sx5, sx6, tf77, ev3_hold, sxo, sxc, sxp, sxq, sxr, sxs, sxl, sxm, simprocAttr, e8, hmx, dn]
  refine CallOb.pureH (fun w' hp => hih _ (by omega) husd _ w' hp (row_hp (E := 3) (List.mem_append_right _ List.mem_cons_self) hp)) ?_
  rintro r N3 (⟨h3, rfl⟩ | ⟨l, x, h3, rfl, h4⟩)
  · rw [findSome_drop hri (hgi.trans h3)] at hinv
    refine ⟨?_⟩
    simp (config := { maxSteps := 4000000 }) only [↓sx0, ↓sx1, ↓sx2, ↓sx3, ↓sx4, ↓sx5, ↓sx6, sx0, sx1, sx2, sx3, sx4, sx5, sx6, tf77, ev3_hold, sxo, sxc, sxp, sxq, sxr, sxs, sxl, sxm, simprocAttr, e8]
    exact ⟨i + 1, _, rfl, HImp.nil _ _, ⟨by omega, rfl, hinv⟩, by omega⟩
  · rw [findSome_hit hri (hgi.trans h3)] at hinv
    refine ⟨?_⟩
    simp (config := { maxSteps := 4000000 }) only [↓sx0, ↓sx1, ↓sx2, ↓sx3, ↓sx4, ↓sx5, ↓sx6, sx0, sx1, sx2, sx3, sx4, sx5, sx6, tf77, ev3_hold, sxo, sxc, sxp, sxq, sxr, sxs, sxl, sxm, simprocAttr]
    refine .inr ⟨l, x, hinv, rfl, .inr ?_⟩
    rcases h4 with ⟨rfl, rfl⟩ | h4
    · exact Got.row hzw1 (by simp) (fun h => by cases h)
    · exact h4.mono fun h hh => by simp [hh]
theorem rsources_fn (w : World) (hw : Ways w) (v : Value) (d : Dis) (hd : DsOk w v d) (hsm : d.small) : SX.Fn Tryd.prog 38 [v] w (fun _ => False) (SrcP d) := by
  have hd0 := hd
  have hck := fun (H : List HO) w' (hp : Hp ⟨w, fun _ => False⟩ H w') => rcheck3_fn w' (hw.hp hp) v d (hd0.hp hp) hsm
  have hsp := fun (hE : d.E = 0) (most : Nat) (hmost : most ≤ 20) (H : List HO) w' (hp : Hp ⟨w, fun _ => False⟩ H w') => rsplit_fn d v hE most hmost d.rs.length w' (hw.hp hp) (hd0.hp hp) [] (.slice none 0 0) (Sl.nil _ _) (by simp) (by decide)
  obtain ⟨sD, sT, sS, sR, rfl, hc, hsR⟩ := hd
  obtain ⟨aR, nR, cR, rfl⟩ := hsR.shape
  have hnR := hsR.le rpc_len (by omega)
  subst hnR
  have dn : ∀ (g : Nat) (xs : List Value), det0 g xs = none := fun _ _ => rfl
  have hsr : srcL d.canB d.rs.length = (List.range (d.rs.length + 1)).findSome? fun most => splL d.canB most d.rs.length [] := rfl
  obtain ⟨G, hG⟩ : ∃ G, (fun most => splL d.canB most d.rs.length []) = G := ⟨_, rfl⟩
  have hGe : ∀ i, splL d.canB i d.rs.length [] = G i := fun i => by rw [← hG]
  rw [hG] at hsr
  unfold SplP at hsp
  simp only [hGe] at hsp
  unfold SrcP
  refine walk [] [] (det0_ok _ _) Tryd.func38 rfl Tryd.ntmps38 res38 (by kernel_rfl) no_facts ?_
  simp (config := { maxSteps := 4000000 }) only [↓sx0, ↓sx1, ↓sx2, ↓sx3, ↓sx4, ↓sx5, ↓sx6, sx0, sx1, sx2, sx3, sx4, sx5, sx6, tf38, ev3_hold, sxo, sxc, sxp, sxq, sxr, sxs, sxl, sxm, simprocAttr, dn]
  refine CallOb.pureH (fun w' hp => hck _ w' hp) ?_
  rintro q N rfl
  by_cases hE : d.E = 0
  case neg =>
    have p1 : (d.E = 0) = False := eq_false hE
    refine ⟨?_⟩
    simp (config := { maxSteps := 4000000 }) only [↓sx0, ↓sx1, ↓sx2, ↓sx3, ↓sx4, ↓sx5, ↓sx6, sx0, sx1, sx2, sx3, sx4, sx5, sx6, tf38, ev3_hold, sxo, sxc, sxp, sxq, sxr, sxs, sxl, sxm, simprocAttr, p1]
    exact .inl trivial
  have p1 : (d.E = 0) = True := eq_true hE
  obtain ⟨_, _, _, hm12, _⟩ := Dis.E_zero hE
  have hsp := hsp hE
  refine ⟨?_⟩
  simp (config := { maxSteps := 4000000 }) only [↓sx0, ↓sx1, ↓sx2, ↓sx3, ↓sx4, ↓sx5, ↓sx6, sx0, sx1, sx2, sx3, sx4, sx5, sx6, tf38, ev3_hold, sxo, sxc, sxp, sxq, sxr, sxs, sxl, sxm, simprocAttr, p1]
  refine loop_constH [] (HImp.nil _ _) [(2, 3), (5, 7), (13, 27)] (fun i : Nat => [(5, I i)]) (fun i H1 => i ≤ d.rs.length + 1 ∧ H1 = [] ∧ srcL d.canB d.rs.length = ((List.range (d.rs.length + 1)).drop i).findSome? G) (fun i => d.rs.length + 1 - i) 0 ?_ ⟨Nat.zero_le _, rfl, hsr⟩ ?_
  · simp (config := { maxSteps := 4000000 }) only [↓sx0, ↓sx1, ↓sx2, ↓sx3, ↓sx4, ↓sx5, ↓sx6, sx0, sx1, sx2, sx3, sx4, sx5, sx6, tf38, ev3_hold, sxo, sxc, sxp, sxq, sxr, sxs, sxl, sxm, simprocAttr]
    try simp
  rintro i H1 g1 ⟨hi, rfl, hinv⟩
  by_cases hin : i = d.rs.length + 1
  · have e7 : ((i : Int) ≤ (d.rs.length : Int)) = False := eq_false (by omega)
    rw [List.drop_of_length_le (by rw [List.length_range]; omega)] at hinv
    refine ⟨?_⟩
    simp (config := { maxSteps := 4000000 }) only [↓sx0, ↓sx1, ↓sx2, ↓sx3, ↓sx4, ↓sx5, ↓sx6, sx0, sx1, sx2, sx3, sx4, sx5, sx6, tf38, ev3_hold, sxo, sxc, sxp, sxq, sxr, sxs, sxl, sxm, simprocAttr, e7]
    exact .inr ⟨hE, .inl hinv⟩
  have e7 : ((i : Int) ≤ (d.rs.length : Int)) = True := eq_true (by omega)
  have e8 : wr ((i : Int) + 1) = ((i + 1 : Nat) : Int) := (wrap_id (by omega)).trans (by omega)
  have hri : (List.range (d.rs.length + 1))[i]? = some i := List.getElem?_range (by omega)
  have hsp := hsp i (by omega)
  refine ⟨?_⟩
  simp (config := { maxSteps := 4000000 }) only [↓sx0, ↓sx1, ↓sx2, ↓sx3, ↓sx4, ↓sx5, ↓sx6, sx0, sx1, sx2, sx3, sx4, sx5, sx6, tf38, ev3_hold, sxo, sxc, sxp, sxq, sxr, sxs, sxl, sxm, simprocAttr, e7, dn]
  refine CallOb.pureH (fun w' hp => hsp _ w' hp) ?_
  rintro r N2 (⟨h3, rfl⟩ | ⟨l, x, h3, rfl, h4⟩)
  · rw [findSome_drop hri h3] at hinv
    refine ⟨?_⟩
    simp (config := { maxSteps := 4000000 }) only [↓sx0, ↓sx1, ↓sx2, ↓sx3, ↓sx4, ↓sx5, ↓sx6, sx0, sx1, sx2, sx3, sx4, sx5, sx6, tf38, ev3_hold, sxo, sxc, sxp, sxq, sxr, sxs, sxl, sxm, simprocAttr, e8]
    exact ⟨i + 1, _, rfl, HImp.nil _ _, ⟨by omega, rfl, hinv⟩, by omega⟩
  · rw [findSome_hit hri h3] at hinv
    refine ⟨?_⟩
    simp (config := { maxSteps := 4000000 }) only [↓sx0, ↓sx1, ↓sx2, ↓sx3, ↓sx4, ↓sx5, ↓sx6, sx0, sx1, sx2, sx3, sx4, sx5, sx6, tf38, ev3_hold, sxo, sxc, sxp, sxq, sxr, sxs, sxl, sxm, simprocAttr]
    refine .inr ⟨hE, .inr ⟨l, x, hinv, rfl, ?_⟩⟩
    rcases h4 with ⟨rfl, rfl⟩ | h4
    · exact Got.nil _
    · exact h4.mono fun h hh => by simp [hh]
end Go.Proofs.YtaloedccoadedaaDoor

