/- Parts of a proof: the symbolic walk and what it shows of single functions. -/
import Derived.Test.YtcnlbnccbnapbaaDoorP3
set_option linter.all false
namespace Go.Proofs.YtcnlbnccbnapbaaDoor
open Go.RowKit Go.SX
set_option maxRecDepth 10000
set_option maxHeartbeats 4000000
set_option linter.unusedSimpArgs false
set_option linter.unusedVariables false
structure Vg where
  c : Cht
  b : Cls
  k : Nat
  t : Nat
  tc : Nat
  ts : Nat
def Vg.n (g : Vg) : Nat := g.c.depth.length
def Vg.st (g : Vg) (y s : Nat) : Nat := if s > g.ts then s else if y = g.tc then s + 1 else 0
def Vg.wg (g : Vg) (x y : Nat) : Int := if y = x then g.b.idle else g.b.move
inductive Vg.R (g : Vg) : Nat → Nat → Nat → Int → Prop
  | zero : g.R 0 (g.st g.k 0) g.k 0
  | step {i s x y : Nat} {B : Int} : g.R i s x B → y ∈ nbL g.c.W g.c.H x → canB g.c g.b (g.t + i + 1) y = true → g.R (i + 1) (g.st y s) y (B + g.wg x y)
structure Vg.Ok (g : Vg) : Prop where
  ok : g.c.ok
  cls : clsB g.b = true
  k : g.k < g.c.depth.length
  t : g.t < g.c.tide.length
  tc : g.tc < g.c.depth.length
  ts : g.ts ≤ 8
theorem Vg.st_le (g : Vg) {y s : Nat} (h : s < g.ts + 2) : g.st y s < g.ts + 2 := by
  unfold Vg.st
  split
  · omega
  · split <;> omega
theorem Vg.wg_bd {g : Vg} (h : g.Ok) (x y : Nat) : 0 ≤ g.wg x y ∧ g.wg x y ≤ 100 := by
  have := (clsB_iff g.b).1 h.cls
  unfold Vg.wg
  split <;> omega
theorem nb_lt {g : Vg} (h : g.Ok) {x y : Nat} (hx : x < g.c.depth.length) (hy : y ∈ nbL g.c.W g.c.H x) : y < g.c.depth.length := by
  have hd := h.ok.dims
  have := nbL_lt (W := g.c.W) (H := g.c.H) (k := x) (by omega) y hy
  omega
theorem Vg.R_bd {g : Vg} (h : g.Ok) {i s x : Nat} {B : Int} (hr : g.R i s x B) : s < g.ts + 2 ∧ x < g.c.depth.length ∧ 0 ≤ B ∧ B ≤ 100 * i := by
  induction hr with
  | zero => exact ⟨g.st_le (by omega), h.k, by omega, by omega⟩
  | @step i s x y B _ hy _ ih =>
    have h1 := g.wg_bd h x y
    have h2 := ih.2.2
    exact ⟨g.st_le ih.1, nb_lt h ih.2.1 hy, by omega, by omega⟩
def nvr : Int := 1073741824
def en (R : List (List Frm)) (s x : Nat) : Frm := (R.getD s []).getD x (0, 0, 0)
def setE (R : List (List Frm)) (s x : Nat) (e : Frm) : List (List Frm) := R.set s ((R.getD s []).set x e)
def Vg.shape (g : Vg) (R : List (List Frm)) : Prop := R.length = g.ts + 2 ∧ ∀ s, s < g.ts + 2 → (R.getD s []).length = g.c.depth.length
theorem getD_set {α : Type} {l : List α} {i j : Nat} {x d : α} (hi : i < l.length) : (l.set i x).getD j d = if i = j then x else l.getD j d := by
  rw [List.getD_eq_getElem?_getD, List.getD_eq_getElem?_getD, List.getElem?_set]
  split
  · rename_i h
    subst h
    simp [hi]
  · rfl
theorem en_set {g : Vg} {R : List (List Frm)} (h : g.shape R) {s x s' x' : Nat} (hs : s < g.ts + 2) (hx : x < g.c.depth.length) (e : Frm) : en (setE R s x e) s' x' = if s = s' ∧ x = x' then e else en R s' x' := by
  unfold en setE
  rw [getD_set (by rw [h.1]; exact hs)]
  by_cases h1 : s = s'
  · subst h1
    rw [if_pos rfl, getD_set (by rw [h.2 s hs]; exact hx)]
    by_cases h2 : x = x'
    · rw [if_pos h2, if_pos ⟨rfl, h2⟩]
    · rw [if_neg h2, if_neg fun h => h2 h.2]
  · rw [if_neg h1, if_neg fun h => h1 h.1]
theorem shape_set {g : Vg} {R : List (List Frm)} (h : g.shape R) {s x : Nat} (hs : s < g.ts + 2) (e : Frm) : g.shape (setE R s x e) := by
  refine ⟨by unfold setE; rw [List.length_set]; exact h.1, fun s' hs' => ?_⟩
  unfold setE
  rw [getD_set (by rw [h.1]; exact hs)]
  split
  · rw [List.length_set, h.2 s hs]
  · exact h.2 s' hs'
structure Vg.Tab (g : Vg) (i : Nat) (R : List (List Frm)) : Prop where
  shape : g.shape R
  least : ∀ s x B, g.R i s x B → (en R s x).1 ≤ B
  att : ∀ s x, s < g.ts + 2 → x < g.c.depth.length → (en R s x).1 ≠ nvr → g.R i s x (en R s x).1
theorem Vg.Tab.bd {g : Vg} (h : g.Ok) {i : Nat} {R : List (List Frm)} (hT : g.Tab i R) {s x : Nat} (hs : s < g.ts + 2) (hx : x < g.c.depth.length) : (en R s x).1 = nvr ∨ 0 ≤ (en R s x).1 ∧ (en R s x).1 ≤ 100 * i := by
  by_cases h0 : (en R s x).1 = nvr
  · exact .inl h0
  · have := g.R_bd h (hT.att s x hs hx h0)
    exact .inr ⟨this.2.2.1, this.2.2.2⟩
def Vg.Prd (g : Vg) (i : Nat) (R R' : List (List Frm)) : Prop := ∀ s y, s < g.ts + 2 → y < g.c.depth.length → (en R' s y).1 ≠ nvr → ∃ x s0 : Nat, (en R' s y).2 = ((x : Int), (s0 : Int)) ∧ x < g.c.depth.length ∧ s0 < g.ts + 2 ∧ (en R s0 x).1 ≠ nvr ∧ y ∈ nbL g.c.W g.c.H x ∧ canB g.c g.b (g.t + i + 1) y = true ∧ s = g.st y s0 ∧ (en R' s y).1 = (en R s0 x).1 + g.wg x y
structure Vg.Nxt (g : Vg) (i : Nat) (R : List (List Frm)) (done : Nat → Nat → Nat → Prop) (N : List (List Frm)) : Prop where
  shape : g.shape N
  prd : g.Prd i R N
  low : ∀ s0 x0 j y, done s0 x0 j → s0 < g.ts + 2 → x0 < g.c.depth.length → (en R s0 x0).1 ≠ nvr → (nbL g.c.W g.c.H x0)[j]? = some y → canB g.c g.b (g.t + i + 1) y = true → (en N (g.st y s0) y).1 ≤ (en R s0 x0).1 + g.wg x0 y
  top : ∀ s x, (en N s x).1 ≤ nvr
def Vg.void (g : Vg) : List (List Frm) := List.replicate (g.ts + 2) (List.replicate g.c.depth.length (nvr, 0, 0))
theorem Vg.void_shape (g : Vg) : g.shape g.void := by
  refine ⟨List.length_replicate, fun s hs => ?_⟩
  unfold Vg.void
  rw [List.getD_eq_getElem?_getD, List.getElem?_replicate, if_pos hs, Option.getD_some, List.length_replicate]
theorem Vg.void_en (g : Vg) {s x : Nat} (hs : s < g.ts + 2) (hx : x < g.c.depth.length) : en g.void s x = (nvr, 0, 0) := by
  unfold en Vg.void
  rw [List.getD_eq_getElem?_getD (l := List.replicate (g.ts + 2) _), List.getElem?_replicate, if_pos hs, Option.getD_some, List.getD_eq_getElem?_getD, List.getElem?_replicate, if_pos hx, Option.getD_some]
theorem Vg.void_le (g : Vg) (s x : Nat) : (en g.void s x).1 ≤ nvr := by
  by_cases hs : s < g.ts + 2
  · by_cases hx : x < g.c.depth.length
    · rw [g.void_en hs hx]
      exact Int.le_refl _
    · unfold en Vg.void
      rw [List.getD_eq_getElem?_getD (l := List.replicate (g.ts + 2) _), List.getElem?_replicate, if_pos hs, Option.getD_some, List.getD_eq_getElem?_getD, List.getElem?_replicate, if_neg hx]
      decide
  · unfold en Vg.void
    rw [List.getD_eq_getElem?_getD (l := List.replicate (g.ts + 2) _), List.getElem?_replicate, if_neg hs]
    show (0 : Int) ≤ nvr
    decide
theorem Vg.Nxt.init (g : Vg) (i : Nat) (R : List (List Frm)) : g.Nxt i R (fun _ _ _ => False) g.void :=
  ⟨g.void_shape, fun s y hs hy h => absurd (congrArg Prod.fst (g.void_en hs hy)) h, fun _ _ _ _ h => h.elim, g.void_le⟩
theorem Vg.Nxt.mono {g : Vg} {i : Nat} {R N : List (List Frm)} {d d' : Nat → Nat → Nat → Prop} (h : g.Nxt i R d N) (hd : ∀ s0 x0 j, d' s0 x0 j → s0 < g.ts + 2 → x0 < g.c.depth.length → (en R s0 x0).1 ≠ nvr → j < (nbL g.c.W g.c.H x0).length → d s0 x0 j) : g.Nxt i R d' N :=
  ⟨h.shape, h.prd, fun s0 x0 j y h1 h2 h3 h4 h5 h6 => h.low s0 x0 j y (hd s0 x0 j h1 h2 h3 h4 (List.getElem?_eq_some_iff.1 h5).1) h2 h3 h4 h5 h6, h.top⟩
theorem Vg.Nxt.skip {g : Vg} {i : Nat} {R N : List (List Frm)} {d : Nat → Nat → Nat → Prop} (h : g.Nxt i R d N) {S X J y : Nat} (hy : (nbL g.c.W g.c.H X)[J]? = some y) (hc : canB g.c g.b (g.t + i + 1) y = true → (en N (g.st y S) y).1 ≤ (en R S X).1 + g.wg X y) : g.Nxt i R (fun s x j => d s x j ∨ s = S ∧ x = X ∧ j = J) N := by
  refine ⟨h.shape, h.prd, fun s0 x0 j z h1 h2 h3 h4 h5 h6 => ?_, h.top⟩
  rcases h1 with h1 | ⟨rfl, rfl, rfl⟩
  · exact h.low s0 x0 j z h1 h2 h3 h4 h5 h6
  · rw [hy] at h5
    cases h5
    exact hc h6
theorem Vg.Nxt.better {g : Vg} {i : Nat} {R N : List (List Frm)} {d : Nat → Nat → Nat → Prop} (h : g.Nxt i R d N) {S X J y : Nat} (hS : S < g.ts + 2) (hX : X < g.c.depth.length) (hyn : y < g.c.depth.length) (hR : (en R S X).1 ≠ nvr) (hy : (nbL g.c.W g.c.H X)[J]? = some y) (hc : canB g.c g.b (g.t + i + 1) y = true) (hlt : (en R S X).1 + g.wg X y < (en N (g.st y S) y).1) : g.Nxt i R (fun s x j => d s x j ∨ s = S ∧ x = X ∧ j = J) (setE N (g.st y S) y ((en R S X).1 + g.wg X y, (X : Int), (S : Int))) := by
  have hst := g.st_le (y := y) hS
  have hen := fun s' x' => en_set h.shape (s' := s') (x' := x') hst hyn ((en R S X).1 + g.wg X y, (X : Int), (S : Int))
  refine ⟨shape_set h.shape hst _, fun s z hs hz h1 => ?_, fun s0 x0 j z h1 h2 h3 h4 h5 h6 => ?_, fun s z => ?_⟩
  · rw [hen] at h1 ⊢
    by_cases hk : g.st y S = s ∧ y = z
    · rw [if_pos hk] at h1 ⊢
      obtain ⟨rfl, rfl⟩ := hk
      exact ⟨X, S, rfl, hX, hS, hR, List.mem_of_getElem? hy, hc, rfl, rfl⟩
    · rw [if_neg hk] at h1 ⊢
      exact h.prd s z hs hz h1
  · rw [hen]
    by_cases hk : g.st y S = g.st z s0 ∧ y = z
    · rw [if_pos hk]
      rcases h1 with h1 | ⟨rfl, rfl, rfl⟩
      · have := h.low s0 x0 j z h1 h2 h3 h4 h5 h6
        obtain ⟨hk1, rfl⟩ := hk
        rw [← hk1] at this
        simp only []
        omega
      · rw [hy] at h5
        cases h5
        exact Int.le_refl _
    · rw [if_neg hk]
      rcases h1 with h1 | ⟨rfl, rfl, rfl⟩
      · exact h.low s0 x0 j z h1 h2 h3 h4 h5 h6
      · rw [hy] at h5
        cases h5
        exact absurd ⟨rfl, rfl⟩ hk
  · rw [hen]
    split
    · have := h.top (g.st y S) y
      simp only []
      omega
    · exact h.top s z
theorem Vg.Nxt.tab {g : Vg} (hg : g.Ok) {i : Nat} {R N : List (List Frm)} {d : Nat → Nat → Nat → Prop} (hi : i ≤ 100) (hT : g.Tab i R) (h : g.Nxt i R d N) (hd : ∀ s x j, s < g.ts + 2 → d s x j) : g.Tab (i + 1) N := by
  refine ⟨h.shape, fun s x B hr => ?_, fun s x hs hx h0 => ?_⟩
  · cases hr with
    | @step _ s0 x0 _ B0 hr hy hc =>
      have hb := g.R_bd hg hr
      have hl := hT.least s0 x0 B0 hr
      have hne : (en R s0 x0).1 ≠ nvr := by unfold nvr; omega
      obtain ⟨j, hj⟩ := List.getElem?_of_mem hy
      have := h.low s0 x0 j x (hd s0 x0 j hb.1) hb.1 hb.2.1 hne hj hc
      omega
  · obtain ⟨y, s0, h1, h2, h3, h4, h5, h6, h7, h8⟩ := h.prd s x hs hx h0
    rw [h8]
    have := Vg.R.step (hT.att s0 y h3 h2 h4) h5 h6
    rw [← h7] at this
    exact this
theorem Vg.Tab.first {g : Vg} (hg : g.Ok) : g.Tab 0 (setE g.void (g.st g.k 0) g.k (0, 0, 0)) := by
  have hst := g.st_le (y := g.k) (s := 0) (by omega)
  have hen := fun s' x' => en_set g.void_shape (s' := s') (x' := x') hst hg.k (0, 0, 0)
  refine ⟨shape_set g.void_shape hst _, fun s x B hr => ?_, fun s x hs hx h0 => ?_⟩
  · cases hr with
    | zero =>
      rw [hen, if_pos ⟨rfl, rfl⟩]
      exact Int.le_refl _
  · rw [hen] at h0 ⊢
    by_cases hk : g.st g.k 0 = s ∧ g.k = x
    · obtain ⟨rfl, rfl⟩ := hk
      rw [if_pos ⟨rfl, rfl⟩]
      exact Vg.R.zero
    · rw [if_neg hk, g.void_en hs hx] at h0
      exact absurd rfl h0
end Go.Proofs.YtcnlbnccbnapbaaDoor

namespace Go.Proofs.YtcnlbnccbnapbaaDoor
open Go.RowKit Go.SX
set_option maxRecDepth 10000
set_option maxHeartbeats 0
set_option linter.unusedSimpArgs false
set_option linter.unusedVariables false
def FR (n : Nat) (aa : List Addr) (R : List (List Frm)) : List HO := List.zipWith (fun a l => HO.row (.slice (some a) n n) 162 3 (cat frc l)) aa R
def aq (n : Nat) (a : Addr) : Option Addr × Nat × Nat := (some a, n, n)
theorem FR_append (n : Nat) (aa bs : List Addr) (R S : List (List Frm)) (h : aa.length = R.length) : FR n (aa ++ bs) (R ++ S) = FR n aa R ++ FR n bs S := by
  unfold FR
  exact List.zipWith_append h
theorem FR_at {n : Nat} {aa : List Addr} {R : List (List Frm)} (h : aa.length = R.length) {s : Nat} (hs : s < aa.length) : FR n aa R = FR n (aa.take s) (R.take s) ++ HO.row (.slice (some (aa[s])) n n) 162 3 (cat frc (R.getD s [])) :: FR n (aa.drop (s + 1)) (R.drop (s + 1)) := by
  have h1 : aa = aa.take s ++ aa[s] :: aa.drop (s + 1) := by rw [List.getElem_cons_drop, List.take_append_drop]
  have h2 : R = R.take s ++ R.getD s [] :: R.drop (s + 1) := by
    rw [List.getD_eq_getElem?_getD, List.getElem?_eq_getElem (by omega), Option.getD_some, List.getElem_cons_drop, List.take_append_drop]
  conv => lhs; rw [h1, h2]
  rw [FR_append _ _ _ _ _ (by rw [List.length_take, List.length_take, h])]
  rfl
theorem FR_set {n : Nat} {aa : List Addr} {R : List (List Frm)} (h : aa.length = R.length) {s : Nat} (hs : s < aa.length) (l : List Frm) : FR n aa (R.set s l) = FR n (aa.take s) (R.take s) ++ HO.row (.slice (some (aa[s])) n n) 162 3 (cat frc l) :: FR n (aa.drop (s + 1)) (R.drop (s + 1)) := by
  have h1 := FR_at (n := n) (R := R.set s l) (by rw [List.length_set]; exact h) hs
  rw [h1, getD_set (by omega), if_pos rfl, List.take_set_of_le (Nat.le_refl _), List.drop_set_of_lt (by omega)]
theorem FR_mem {n : Nat} {aa : List Addr} {R : List (List Frm)} (h : aa.length = R.length) {s : Nat} (hs : s < aa.length) : HO.row (.slice (some (aa[s])) n n) 162 3 (cat frc (R.getD s [])) ∈ FR n aa R := by
  rw [FR_at h hs]
  simp
theorem void_len (g : Vg) : g.void.length = g.ts + 2 := List.length_replicate
theorem rows5_fn (w : World) (bk bx bs : Nat) (g : Vg) (hg : g.Ok) (aD : Option Addr) (cD : Nat) (hk : w.cell? ⟨bk, 1, none⟩ = some (I g.ts)) (hx : w.cell? ⟨bx, 0, none⟩ = some (.pointer (some ⟨bs, 0, none⟩))) (hs : w.cell? ⟨bs, 2, none⟩ = some (.slice aD g.c.depth.length cD)) :
    SX.Fn Tryd.prog 106 [.pointer (some ⟨bk, 0, none⟩), .pointer (some ⟨bx, 0, none⟩)] w (fun _ => False) fun r N => ∃ b aa, r = .slice (some ⟨b, 0, none⟩) (g.ts + 2) (g.ts + 2) ∧ aa.length = g.ts + 2 ∧ N = HO.row (.slice (some ⟨b, 0, none⟩) (g.ts + 2) (g.ts + 2)) 163 1 (cat slq (aa.map (aq g.c.depth.length))) :: FR g.c.depth.length aa g.void := by
  have hts := hg.ts
  have hk0 := hg.k
  have h144 : g.c.depth.length < 200 := by have := hg.ok.dims; obtain ⟨_, _, h1, h2, h3⟩ := this; rw [h3]; exact Nat.lt_of_le_of_lt (Nat.mul_le_mul h1.2 h2.2) (by decide)
  have e1 : wr ((g.ts : Int) + 2) = ((g.ts + 2 : Nat) : Int) := (wrap_id (by omega)).trans (by omega)
  have dn : ∀ (g : Nat) (xs : List Value), det0 g xs = none := fun _ _ => rfl
  refine walk [] [] (det0_ok _ _) Tryd.func106 rfl Tryd.ntmps106 res106 (by kernel_rfl) no_facts ?_
  simp (config := { maxSteps := 4000000 }) only [↓sx0, ↓sx1, ↓sx2, ↓sx3, ↓sx4, ↓sx5, ↓sx6, sx0, sx1, sx2, sx3, sx4, sx5, sx6, tf106, ev3_hold, sxo, sxc, sxp, sxq, sxr, sxs, sxl, sxm, Int.reduceBEq, Int.reduceBNe, Int.reduceLT, Int.reduceLE, Int.reduceEq, Int.reduceGT, Int.reduceGE, Int.reduceToNat, ↓reduceIte, List.reduceReplicate, Nat.reduceAdd, Nat.reduceSub, Nat.reduceMul, Nat.reduceLT, Nat.reduceLeDiff, Nat.reduceBEq, Nat.reduceEqDiff]
  refine ld_olda (by simp [add_block]) hk id ?_
  simp (config := { maxSteps := 4000000 }) only [↓sx0, ↓sx1, ↓sx2, ↓sx3, ↓sx4, ↓sx5, ↓sx6, sx0, sx1, sx2, sx3, sx4, sx5, sx6, tf106, ev3_hold, sxo, sxc, sxp, sxq, sxr, sxs, sxl, sxm, Int.reduceBEq, Int.reduceBNe, Int.reduceLT, Int.reduceLE, Int.reduceEq, Int.reduceGT, Int.reduceGE, Int.reduceToNat, ↓reduceIte, List.reduceReplicate, Nat.reduceAdd, Nat.reduceSub, Nat.reduceMul, Nat.reduceLT, Nat.reduceLeDiff, Nat.reduceBEq, Nat.reduceEqDiff, e1]
  refine ⟨by omega, by omega, by omega, fun b => ?_⟩
  have hz : zerosL (g.ts + 2) [Value.slice none 0 0] = cat slq (([] : List Addr).map (aq g.c.depth.length) ++ List.replicate (g.ts + 2 - 0) (none, 0, 0)) := by
    rw [List.map_nil, List.nil_append, Nat.sub_zero]
    exact zeros_cat slq (none, 0, 0) _
  refine loop_constH [HO.row (.slice (some ⟨b, 0, none⟩) (g.ts + 2) (g.ts + 2)) 163 1 (cat slq (([] : List Addr).map (aq g.c.depth.length) ++ List.replicate (g.ts + 2 - 0) (none, 0, 0)))] (by rw [← hz]; exact HImp.refl _ _) [(4, 4), (11, 26)] (fun q : Nat × List Addr => [(11, I q.1)])
    (fun q H1 => q.1 ≤ g.ts + 2 ∧ q.2.length = q.1 ∧ H1 = HO.row (.slice (some ⟨b, 0, none⟩) (g.ts + 2) (g.ts + 2)) 163 1 (cat slq (q.2.map (aq g.c.depth.length) ++ List.replicate (g.ts + 2 - q.1) (none, 0, 0))) :: FR g.c.depth.length q.2 (List.replicate q.1 (List.replicate g.c.depth.length (nvr, 0, 0)))) (fun q => g.ts + 2 - q.1) (0, []) ?_ ⟨Nat.zero_le _, rfl, rfl⟩ ?_
  · simp (config := { maxSteps := 4000000 }) only [↓sx0, ↓sx1, ↓sx2, ↓sx3, ↓sx4, ↓sx5, ↓sx6, sx0, sx1, sx2, sx3, sx4, sx5, sx6, tf106, ev3_hold, sxo, sxc, sxp, sxq, sxr, sxs, sxl, sxm, Int.reduceBEq, Int.reduceBNe, Int.reduceLT, Int.reduceLE, Int.reduceEq, Int.reduceGT, Int.reduceGE, Int.reduceToNat, ↓reduceIte, List.reduceReplicate, Nat.reduceAdd, Nat.reduceSub, Nat.reduceMul, Nat.reduceLT, Nat.reduceLeDiff, Nat.reduceBEq, Nat.reduceEqDiff]
    try simp
  rintro ⟨i, aa⟩ H1 g1 hinv
  simp only [] at hinv
  obtain ⟨hi, hal, rfl⟩ := hinv
  by_cases hin : i = g.ts + 2
  · have e7 : ((i : Int) < ((g.ts + 2 : Nat) : Int)) = False := eq_false (by omega)
    refine ⟨?_⟩
    simp (config := { maxSteps := 4000000 }) only [↓sx0, ↓sx1, ↓sx2, ↓sx3, ↓sx4, ↓sx5, ↓sx6, sx0, sx1, sx2, sx3, sx4, sx5, sx6, tf106, ev3_hold, sxo, sxc, sxp, sxq, sxr, sxs, sxl, sxm, Int.reduceBEq, Int.reduceBNe, Int.reduceLT, Int.reduceLE, Int.reduceEq, Int.reduceGT, Int.reduceGE, Int.reduceToNat, ↓reduceIte, List.reduceReplicate, Nat.reduceAdd, Nat.reduceSub, Nat.reduceMul, Nat.reduceLT, Nat.reduceLeDiff, Nat.reduceBEq, Nat.reduceEqDiff, e7]
    refine ⟨b, aa, rfl, by omega, ?_⟩
    rw [hin, Nat.sub_self, List.replicate_zero, List.append_nil]
    rfl
  have e7 : ((i : Int) < ((g.ts + 2 : Nat) : Int)) = True := eq_true (by omega)
  have e2 : wr (i + 1) = ((i + 1 : Nat) : Int) := (wrap_id (by omega)).trans (by omega)
  refine ⟨?_⟩
  simp (config := { maxSteps := 4000000 }) only [↓sx0, ↓sx1, ↓sx2, ↓sx3, ↓sx4, ↓sx5, ↓sx6, sx0, sx1, sx2, sx3, sx4, sx5, sx6, tf106, ev3_hold, sxo, sxc, sxp, sxq, sxr, sxs, sxl, sxm, Int.reduceBEq, Int.reduceBNe, Int.reduceLT, Int.reduceLE, Int.reduceEq, Int.reduceGT, Int.reduceGE, Int.reduceToNat, ↓reduceIte, List.reduceReplicate, Nat.reduceAdd, Nat.reduceSub, Nat.reduceMul, Nat.reduceLT, Nat.reduceLeDiff, Nat.reduceBEq, Nat.reduceEqDiff, e7]
  intro b2
  refine ld_olda (by simp [add_block]) hx id ?_
  simp (config := { maxSteps := 4000000 }) only [↓sx0, ↓sx1, ↓sx2, ↓sx3, ↓sx4, ↓sx5, ↓sx6, sx0, sx1, sx2, sx3, sx4, sx5, sx6, tf106, ev3_hold, sxo, sxc, sxp, sxq, sxr, sxs, sxl, sxm, Int.reduceBEq, Int.reduceBNe, Int.reduceLT, Int.reduceLE, Int.reduceEq, Int.reduceGT, Int.reduceGE, Int.reduceToNat, ↓reduceIte, List.reduceReplicate, Nat.reduceAdd, Nat.reduceSub, Nat.reduceMul, Nat.reduceLT, Nat.reduceLeDiff, Nat.reduceBEq, Nat.reduceEqDiff]
  refine ld_olda (by simp [add_block]) hs id ?_
  simp (config := { maxSteps := 4000000 }) only [↓sx0, ↓sx1, ↓sx2, ↓sx3, ↓sx4, ↓sx5, ↓sx6, sx0, sx1, sx2, sx3, sx4, sx5, sx6, tf106, ev3_hold, sxo, sxc, sxp, sxq, sxr, sxs, sxl, sxm, Int.reduceBEq, Int.reduceBNe, Int.reduceLT, Int.reduceLE, Int.reduceEq, Int.reduceGT, Int.reduceGE, Int.reduceToNat, ↓reduceIte, List.reduceReplicate, Nat.reduceAdd, Nat.reduceSub, Nat.reduceMul, Nat.reduceLT, Nat.reduceLeDiff, Nat.reduceBEq, Nat.reduceEqDiff, dn]
  refine CallOb.pureH (fun w' hp => repeatF_fn w' _ (1073741824, 0, 0) g.c.depth.length (row_hp (E := 162) List.mem_cons_self hp) h144 (by omega)) ?_
  rintro r N ⟨b3, rfl, hm⟩
  have hll : (aa.map (aq g.c.depth.length) ++ List.replicate (g.ts + 2 - i) ((none, 0, 0) : Option Addr × Nat × Nat)).length = g.ts + 2 := by
    rw [List.length_append, List.length_map, List.length_replicate]; omega
  have hset : (aa.map (aq g.c.depth.length) ++ List.replicate (g.ts + 2 - i) ((none, 0, 0) : Option Addr × Nat × Nat)).set i (aq g.c.depth.length ⟨b3, 0, none⟩) = (aa ++ [(⟨b3, 0, none⟩ : Addr)]).map (aq g.c.depth.length) ++ List.replicate (g.ts + 2 - (i + 1)) (none, 0, 0) := by
    rw [List.set_append, if_neg (by rw [List.length_map]; omega), List.length_map, hal, Nat.sub_self, show g.ts + 2 - i = (g.ts + 2 - (i + 1)) + 1 by omega, List.replicate_succ, List.set_cons_zero, List.map_append, List.append_assoc]
    rfl
  have hfr : FR g.c.depth.length (aa ++ [(⟨b3, 0, none⟩ : Addr)]) (List.replicate (i + 1) (List.replicate g.c.depth.length (nvr, 0, 0))) = FR g.c.depth.length aa (List.replicate i (List.replicate g.c.depth.length (nvr, 0, 0))) ++ [HO.row (.slice (some ⟨b3, 0, none⟩) g.c.depth.length g.c.depth.length) 162 3 (cat frc (List.replicate g.c.depth.length (nvr, 0, 0)))] := by
    rw [List.replicate_succ', FR_append _ _ _ _ _ (by rw [List.length_replicate, hal])]
    rfl
  refine ⟨?_⟩
  simp (config := { maxSteps := 4000000 }) only [↓sx0, ↓sx1, ↓sx2, ↓sx3, ↓sx4, ↓sx5, ↓sx6, sx0, sx1, sx2, sx3, sx4, sx5, sx6, tf106, ev3_hold, sxo, sxc, sxp, sxq, sxr, sxs, sxl, sxm, Int.reduceBEq, Int.reduceBNe, Int.reduceLT, Int.reduceLE, Int.reduceEq, Int.reduceGT, Int.reduceGE, Int.reduceToNat, ↓reduceIte, List.reduceReplicate, Nat.reduceAdd, Nat.reduceSub, Nat.reduceMul, Nat.reduceLT, Nat.reduceLeDiff, Nat.reduceBEq, Nat.reduceEqDiff]
  refine ⟨by omega, by omega, _, rfl, ?_⟩
  refine wr_at (A := N ++ [_]) (f := slq) (u := aq g.c.depth.length ⟨b3, 0, none⟩) (by rw [List.append_assoc]; rfl) slq_len hll (by omega) ?_
  rw [hset]
  simp (config := { maxSteps := 4000000 }) only [↓sx0, ↓sx1, ↓sx2, ↓sx3, ↓sx4, ↓sx5, ↓sx6, sx0, sx1, sx2, sx3, sx4, sx5, sx6, tf106, ev3_hold, sxo, sxc, sxp, sxq, sxr, sxs, sxl, sxm, Int.reduceBEq, Int.reduceBNe, Int.reduceLT, Int.reduceLE, Int.reduceEq, Int.reduceGT, Int.reduceGE, Int.reduceToNat, ↓reduceIte, List.reduceReplicate, Nat.reduceAdd, Nat.reduceSub, Nat.reduceMul, Nat.reduceLT, Nat.reduceLeDiff, Nat.reduceBEq, Nat.reduceEqDiff, e2]
  refine ⟨(i + 1, aa ++ [(⟨b3, 0, none⟩ : Addr)]), _, rfl, ?_, ⟨by simp only []; omega, by simp only [List.length_append, List.length_singleton]; omega, by simp only []; rw [hfr]⟩, by simp only []; omega⟩
  exact HImp.trans (HImp.sub (List.Sublist.append (List.singleton_sublist.2 (List.mem_append_left _ hm)) (List.Sublist.refl _))) (HImp.perm List.perm_append_comm)
end Go.Proofs.YtcnlbnccbnapbaaDoor

namespace Go.Proofs.YtcnlbnccbnapbaaDoor
open Go.RowKit Go.SX
set_option maxRecDepth 10000
set_option maxHeartbeats 0
set_option linter.unusedSimpArgs false
set_option linter.unusedVariables false
theorem ld_row {α : Type} {w0 : Base} {H : List HO} {ad : Addr} {len cap E sz k o : Nat} {f : α → List Value} {l : List α} {u : α} {v : Value} {K : SV → Prop} (h : HO.row (.slice (some ad) len cap) E sz (cat f l) ∈ H) (hf : ∀ a, (f a).length = sz) (hl : l.length = len) (hu : l[k]? = some u) (hov : (f u)[o]? = some v) (hK : K (.v v)) : hold (LdOb w0 H ((ad.add (k * sz)).add o) none K) ⟨0⟩ := by
  obtain ⟨a, n, c, e, _, hc⟩ := row_rdv (w0 := w0) h ⟨_, _, _, rfl, by rw [cat_len hf, hl], fun h => by cases h⟩
  cases e
  have ho : o < sz := by
    have := (List.getElem?_eq_some_iff.1 hov).1
    rwa [hf] at this
  obtain ⟨ad', e, hr⟩ := hc (k * sz + o) v (by rw [cat_get hf hu ho]; exact hov)
  cases e
  rw [add_add]
  exact ⟨v, hr, hK⟩
theorem row_rdS {α : Type} {w0 : Base} {H : List HO} {ad : Addr} {len cap E sz : Nat} {f : α → List Value} {l : List α} (h : HO.row (.slice (some ad) len cap) E sz (cat f l) ∈ H) (hf : ∀ a, (f a).length = sz) (hl : l.length = len) : Rdv w0 H (.slice (some ad) len cap) sz (cat f l) :=
  row_rdv h ⟨_, _, _, rfl, by rw [cat_len hf, hl], fun h => by cases h⟩
theorem stN_eq (g : Vg) (y s : Nat) : stN (g.tc : Int) (g.ts : Int) (y : Int) (s : Int) = ((g.st y s : Nat) : Int) := by
  unfold stN Vg.st
  by_cases h1 : s > g.ts
  · rw [if_pos h1, if_pos (by omega)]
  · rw [if_neg h1, if_neg (by omega)]
    by_cases h2 : y = g.tc
    · rw [if_pos h2, if_pos (by omega)]
      omega
    · rw [if_neg h2, if_neg (by omega)]
      rfl
def detT : Nat → List Value → Option Value
  | 108, [.agg ⟨[.int .i64 a, .int .i64 b]⟩, .int .i64 y, .int .i64 s] => if 0 ≤ s ∧ s ≤ 1000 then some (I (stN a b y s)) else none
  | _, _ => none
theorem detT_ok (w0 : World) (X : Nat → Prop) : DetFn Tryd.prog ⟨w0, X⟩ detT := by
  intro g args v h w hk
  unfold detT at h
  split at h
  · split at h
    · rename_i hc
      cases h
      exact det_of_fn (stays_fn w _ _ _ _ hc)
    · cases h
  · cases h
theorem detT_eq (g : Vg) {y s : Nat} (hs : s ≤ 1000) : detT 108 [.agg #[I g.tc, I g.ts], I y, I s] = some (I (g.st y s : Nat)) := by
  have : detT 108 [.agg #[I g.tc, I g.ts], I y, I s] = some (I (stN g.tc g.ts y s)) := if_pos (by omega)
  rw [this, stN_eq]
def LogM (g : Vg) (N : List HO) (qs : List (Option Addr × Nat × Nat)) (tabs : List (List (List Frm))) : Prop := qs.length = tabs.length ∧ ∀ (i : Nat) R, tabs[i]? = some R → ∃ b aa, qs[i]? = some (some ⟨b, 0, none⟩, g.ts + 2, g.ts + 2) ∧ aa.length = g.ts + 2 ∧ HO.row (.slice (some ⟨b, 0, none⟩) (g.ts + 2) (g.ts + 2)) 163 1 (cat slq (aa.map (aq g.c.depth.length))) ∈ N ∧ ∀ h ∈ FR g.c.depth.length aa R, h ∈ N
def Vg.Tabs (g : Vg) (tabs : List (List (List Frm))) : Prop := (∀ (i : Nat) R, tabs[i]? = some R → g.Tab i R) ∧ ∀ (i : Nat) R R', tabs[i]? = some R → tabs[i + 1]? = some R' → g.Prd i R R'
theorem LogM.mono {g : Vg} {N N' : List HO} {qs : List (Option Addr × Nat × Nat)} {tabs : List (List (List Frm))} (h : LogM g N qs tabs) (hm : ∀ h ∈ N, h ∈ N') : LogM g N' qs tabs :=
  ⟨h.1, fun i R hR => by
    obtain ⟨b, aa, h1, h2, h3, h4⟩ := h.2 i R hR
    exact ⟨b, aa, h1, h2, hm _ h3, fun x hx => hm _ (h4 x hx)⟩⟩
theorem LogM.snoc {g : Vg} {N : List HO} {qs : List (Option Addr × Nat × Nat)} {tabs : List (List (List Frm))} (h : LogM g N qs tabs) {b : Nat} {aa : List Addr} {R : List (List Frm)} (ha : aa.length = g.ts + 2) (h1 : HO.row (.slice (some ⟨b, 0, none⟩) (g.ts + 2) (g.ts + 2)) 163 1 (cat slq (aa.map (aq g.c.depth.length))) ∈ N) (h2 : ∀ h ∈ FR g.c.depth.length aa R, h ∈ N) : LogM g N (qs ++ [(some ⟨b, 0, none⟩, g.ts + 2, g.ts + 2)]) (tabs ++ [R]) := by
  refine ⟨by rw [List.length_append, List.length_append, h.1]; rfl, fun i R' hR => ?_⟩
  by_cases hi : i < tabs.length
  · rw [List.getElem?_append_left hi] at hR
    obtain ⟨b', aa', k1, k2, k3, k4⟩ := h.2 i R' hR
    exact ⟨b', aa', by rw [List.getElem?_append_left (by rw [h.1]; exact hi)]; exact k1, k2, k3, k4⟩
  · have hlt := (List.getElem?_eq_some_iff.1 hR).1
    rw [List.length_append, List.length_singleton] at hlt
    have hie : i = tabs.length := by omega
    subst hie
    rw [List.getElem?_append_right (Nat.le_refl _), Nat.sub_self] at hR
    cases hR
    exact ⟨b, aa, by rw [List.getElem?_append_right (by rw [h.1]; exact Nat.le_refl _), h.1, Nat.sub_self]; rfl, ha, h1, h2⟩
theorem Vg.Tabs.snoc {g : Vg} {tabs : List (List (List Frm))} (h : g.Tabs tabs) {R' : List (List Frm)} (h1 : g.Tab tabs.length R') (h2 : ∀ R, 0 < tabs.length → tabs[tabs.length - 1]? = some R → g.Prd (tabs.length - 1) R R') : g.Tabs (tabs ++ [R']) := by
  have key : ∀ i R, (tabs ++ [R'])[i]? = some R → (i < tabs.length ∧ tabs[i]? = some R) ∨ (i = tabs.length ∧ R = R') := fun i R hR => by
    by_cases hi : i < tabs.length
    · rw [List.getElem?_append_left hi] at hR
      exact .inl ⟨hi, hR⟩
    · have hlt := (List.getElem?_eq_some_iff.1 hR).1
      rw [List.length_append, List.length_singleton] at hlt
      have hie : i = tabs.length := by omega
      subst hie
      rw [List.getElem?_append_right (Nat.le_refl _), Nat.sub_self] at hR
      cases hR
      exact .inr ⟨rfl, rfl⟩
  refine ⟨fun i R hR => ?_, fun i R S hR hS => ?_⟩
  · rcases key i R hR with ⟨_, h3⟩ | ⟨rfl, rfl⟩
    · exact h.1 i R h3
    · exact h1
  · rcases key i R hR with ⟨hi, h3⟩ | ⟨rfl, rfl⟩
    · rcases key (i + 1) S hS with ⟨_, h4⟩ | ⟨h4, rfl⟩
      · exact h.2 i R S h3 h4
      · have := h2 R (by omega) (by rw [show tabs.length - 1 = i by omega]; exact h3)
        rwa [show tabs.length - 1 = i by omega] at this
    · rcases key (tabs.length + 1) S hS with ⟨h4, _⟩ | ⟨h4, _⟩ <;> omega
theorem en_get {g : Vg} {R : List (List Frm)} (h : g.shape R) {s x : Nat} (hs : s < g.ts + 2) (hx : x < g.c.depth.length) : (R.getD s [])[x]? = some (en R s x) := by
  unfold en
  exact getD_at (by rw [h.2 s hs]; exact hx) _
end Go.Proofs.YtcnlbnccbnapbaaDoor

