/- Parts of a proof: the symbolic walk and what it shows of single functions. -/
import Derived.Test.YtogicfoigeongaaGreatDoorC5
import Derived.Test.YtogicfoigeongaaGreatDoorL3
import Derived.Test.YtogicfoigeongaaGreatDoorC1
set_option linter.all false
namespace Go.Proofs.YtogicfoigeongaaGreatDoor
open Go.RowKit Go.SX
set_option maxRecDepth 10000
set_option maxHeartbeats 0
set_option linter.unusedSimpArgs false
set_option linter.unusedVariables false
def RtP (c : Cht) (g : Int) (A F G : Nat) (p : List Nat) : Prop := isPass c g A p ∧ p.getD 0 0 = F ∧ p.getD (p.length - 1) 0 = G ∧ ∀ i, Rr c g A F i G → p.length - 1 ≤ i
theorem RtP.len {c : Cht} {g : Int} {A F G : Nat} {p : List Nat} (h : RtP c g A F G p) : 0 < p.length ∧ A + p.length ≤ c.tide.length := ⟨List.length_pos_iff.2 h.1.1, h.1.2.1⟩
theorem RtP.rr {c : Cht} (hok : c.ok) {g : Int} {A F G : Nat} {p : List Nat} (h : RtP c g A F G p) {j : Nat} (hj : j < p.length) : Rr c g A F j (p.getD j 0) := by
  have := isPass_Rr hok h.1 j hj
  rw [h.2.1] at this
  exact this
theorem arr_hit {c : Cht} (hok : c.ok) {g : Int} {F A x : Nat} (hF : F < c.depth.length) (hx : x < c.depth.length) {i : Nat} (h : Rr c g A F i x) (hi : A + i < c.tide.length) : ∃ j, j ≤ i ∧ Rr c g A F j x ∧ (arrL c g F A (c.tide.length - A)).getD x 0 = ((A + j : Nat) : Int) := by
  rcases arrL_get c g F A x hx (c.tide.length - A) with ⟨j, h1, h2, h3, h4⟩ | ⟨h1, _⟩
  · refine ⟨j, Nat.le_of_not_lt fun hlt => ?_, (setN_Rr hok hF j x hx).1 h2, h4⟩
    have h5 := h3 i hlt
    rw [(setN_Rr hok hF i x hx).2 h] at h5
    cases h5
  · have h5 := h1 i (by omega)
    rw [(setN_Rr hok hF i x hx).2 h] at h5
    cases h5
theorem arr_none {c : Cht} (hok : c.ok) {g : Int} {F A x : Nat} (hF : F < c.depth.length) (hx : x < c.depth.length) (h : ∀ i, A + i < c.tide.length → ¬ Rr c g A F i x) : (arrL c g F A (c.tide.length - A)).getD x 0 = -1 := by
  rcases arrL_get c g F A x hx (c.tide.length - A) with ⟨j, h1, h2, h3, h4⟩ | ⟨_, h1⟩
  · exact absurd ((setN_Rr hok hF j x hx).1 h2) (h j (by omega))
  · exact h1
theorem route_end {c : Cht} (hok : c.ok) {g : Int} {A F G : Nat} {p : List Nat} (hF : F < c.depth.length) (hG : G < c.depth.length) (h : RtP c g A F G p) : (arrL c g F A (c.tide.length - A)).getD G 0 = ((A + (p.length - 1) : Nat) : Int) := by
  obtain ⟨h1, h2⟩ := h.len
  have hr := h.rr hok (j := p.length - 1) (by omega)
  rw [h.2.2.1] at hr
  obtain ⟨j, h3, h4, h5⟩ := arr_hit hok hF hG hr (by omega)
  have := h.2.2.2 j h4
  rw [h5, show j = p.length - 1 by omega]
end Go.Proofs.YtogicfoigeongaaGreatDoor

namespace Go.Proofs.YtogicfoigeongaaGreatDoor
open Go.RowKit Go.SX
set_option maxRecDepth 10000
set_option maxHeartbeats 0
set_option linter.unusedSimpArgs false
set_option linter.unusedVariables false
def RowT (c : Cht) (g : Int) (A F i : Nat) (row : List Int) : Prop := row.length = c.depth.length ∧ ∀ x, x < c.depth.length → (lv row x = -1 ∧ ¬ Rr c g A F i x) ∨ (Rr c g A F i x ∧ ∃ y : Nat, lv row x = y ∧ (0 < i → y ∈ nbL c.W c.H x ∧ Rr c g A F (i - 1) y))
theorem RowT.neg {c : Cht} {g : Int} {A F i : Nat} {row : List Int} (h : RowT c g A F i row) {x : Nat} (hx : x < c.depth.length) (hn : lv row x < 0) : ¬ Rr c g A F i x := by
  rcases h.2 x hx with ⟨_, h1⟩ | ⟨_, y, h1, _⟩
  · exact h1
  · omega
theorem RowT.pos {c : Cht} {g : Int} {A F i : Nat} {row : List Int} (h : RowT c g A F i row) {x : Nat} (hx : x < c.depth.length) (hn : ¬ lv row x < 0) : Rr c g A F i x ∧ ∃ y : Nat, lv row x = y ∧ (0 < i → y ∈ nbL c.W c.H x ∧ Rr c g A F (i - 1) y) := by
  rcases h.2 x hx with ⟨h1, _⟩ | h1
  · omega
  · exact h1
def BkI (c : Cht) (g : Int) (A F G K : Nat) (ps : List Nat) : Prop :=
  0 < ps.length ∧ ps.length ≤ K ∧ ps.getD 0 0 = G ∧ (∀ j, j < ps.length → ps.getD j 0 < c.depth.length ∧ Rr c g A F (K - 1 - j) (ps.getD j 0)) ∧ ∀ j, j + 1 < ps.length → ps.getD (j + 1) 0 ∈ nbL c.W c.H (ps.getD j 0)
theorem getD_snoc (ps : List Nat) (y j : Nat) : (ps ++ [y]).getD j 0 = if j < ps.length then ps.getD j 0 else if j = ps.length then y else 0 := by
  rw [List.getD_eq_getElem?_getD, List.getElem?_append]
  split
  · rw [← List.getD_eq_getElem?_getD]
  · by_cases h : j = ps.length
    · rw [if_pos h, h, Nat.sub_self]
      rfl
    · rw [if_neg h, List.getElem?_eq_none (by simp; omega)]
      rfl
theorem BkI.snoc {c : Cht} {g : Int} {A F G K : Nat} {ps : List Nat} (h : BkI c g A F G K ps) (hK : ps.length < K) {y : Nat} (hy : y < c.depth.length) (hn : y ∈ nbL c.W c.H (ps.getD (ps.length - 1) 0)) (hr : Rr c g A F (K - 1 - ps.length) y) : BkI c g A F G K (ps ++ [y]) := by
  obtain ⟨h1, h2, h3, h4, h5⟩ := h
  refine ⟨by simp, by simp; omega, by rw [getD_snoc, if_pos h1, h3], fun j hj => ?_, fun j hj => ?_⟩
  · rw [List.length_append, List.length_singleton] at hj
    rw [getD_snoc]
    by_cases hjl : j < ps.length
    · rw [if_pos hjl]
      exact h4 j hjl
    · rw [if_neg hjl, if_pos (by omega), show j = ps.length by omega]
      exact ⟨hy, hr⟩
  · rw [List.length_append, List.length_singleton] at hj
    rw [getD_snoc, getD_snoc, if_pos (show j < ps.length by omega)]
    by_cases hjl : j + 1 < ps.length
    · rw [if_pos hjl]
      exact h5 j hjl
    · rw [if_neg hjl, if_pos (by omega), show j = ps.length - 1 by omega]
      exact hn
theorem getD_rev (ps : List Nat) {i : Nat} (hi : i < ps.length) : ps.reverse.getD i 0 = ps.getD (ps.length - 1 - i) 0 := by
  rw [List.getD_eq_getElem?_getD, List.getElem?_reverse hi, ← List.getD_eq_getElem?_getD]
theorem BkI.done {c : Cht} (hok : c.ok) {g : Int} {A F G K : Nat} {ps : List Nat} (h : BkI c g A F G K ps) (hK : ps.length = K) (hT : A + K ≤ c.tide.length) (hmin : ∀ i, i + 1 < K → ¬ Rr c g A F i G) : RtP c g A F G ps.reverse := by
  obtain ⟨h1, h2, h3, h4, h5⟩ := h
  obtain ⟨eW, eH, hW, hH, hlen⟩ := hok.dims
  refine ⟨⟨fun e => by rw [List.reverse_eq_nil_iff] at e; rw [e] at h1; simp at h1, by rw [List.length_reverse]; omega, fun i hi => ?_⟩, ?_, ?_, fun i hi => ?_⟩
  · rw [List.length_reverse] at hi
    rw [getD_rev _ hi]
    obtain ⟨h6, h7⟩ := h4 (ps.length - 1 - i) (by omega)
    rw [show K - 1 - (ps.length - 1 - i) = i by omega] at h7
    refine ⟨h6, Rr_flt h7, fun h0 => ?_⟩
    rw [getD_rev _ (by omega), show ps.length - 1 - (i - 1) = ps.length - 1 - i + 1 by omega]
    exact nb_symm (by omega) (h5 (ps.length - 1 - i) (by omega))
  · rw [getD_rev _ (by omega), Nat.sub_zero]
    have h7 := (h4 (ps.length - 1) (by omega)).2
    rw [show K - 1 - (ps.length - 1) = 0 by omega] at h7
    exact h7.1
  · rw [List.length_reverse, getD_rev _ (by omega), Nat.sub_self, h3]
  · rw [List.length_reverse]
    refine Nat.le_of_not_lt fun hlt => ?_
    exact hmin i (by omega) hi
end Go.Proofs.YtogicfoigeongaaGreatDoor

namespace Go.Proofs.YtogicfoigeongaaGreatDoor
open Go.RowKit Go.SX
set_option maxRecDepth 10000
set_option maxHeartbeats 0
set_option linter.unusedSimpArgs false
set_option linter.unusedVariables false
structure Trp where
  at_ : Int
  lv : Int
  dr : Int
  tail : Bool
  fr : Int
  to : Int
def trv (t : Trp) : Value := .agg #[I t.at_, I t.lv, I t.dr, .bool t.tail, I t.fr, I t.to]
theorem lnoleg_fn (w : World) (v : Value) (hs : Sl w v 5 []) (f : Value) : SX.Fn Tryz.prog 32 [v, f] w (fun _ => False) fun r N => r = .bool false := by
  have dn : ∀ (g : Nat) (xs : List Value), det0 g xs = none := fun _ _ => rfl
  obtain ⟨a, n, c, rfl, hl, _⟩ := hs
  have hn : n = 0 := by simp at hl; omega
  subst hn
  have hix : ∀ w', SX.Fn Tryz.prog 62 [.slice a 0 c, f] w' (fun _ => False) fun r N => r = I (-1) := fun w' => by
    refine walk [] [] (det0_ok _ _) Tryz.func62 rfl Tryz.ntmps62 res62 (by kernel_rfl) no_facts ?_
    simp (config := { maxSteps := 4000000 }) only [↓sx0, ↓sx1, ↓sx2, ↓sx3, ↓sx4, ↓sx5, ↓sx6, sx0, sx1, sx2, sx3, sx4, sx5, sx6, tf62, ev3_hold, sxo, sxc, sxp, sxq, sxr, sxs, sxl, sxm, simprocAttr]
    refine loop_constH [] (HImp.nil _ _) [(4, 5), (8, 18)] (fun k : Nat => [(8, I k)]) (fun k H1 => k = 0) (fun k => 0) 0 ?_ rfl ?_
    · simp (config := { maxSteps := 4000000 }) only [↓sx0, ↓sx1, ↓sx2, ↓sx3, ↓sx4, ↓sx5, ↓sx6, sx0, sx1, sx2, sx3, sx4, sx5, sx6, tf62, ev3_hold, sxo, sxc, sxp, sxq, sxr, sxs, sxl, sxm, simprocAttr]
      try simp
    rintro k H1 g1 rfl
    have e7 : (((0 : Nat) : Int) < 0) = False := eq_false (by omega)
    have e8 : (((0 : Nat) : Int) < ((0 : Nat) : Int)) = False := eq_false (by omega)
    refine ⟨?_⟩
    simp (config := { maxSteps := 4000000 }) only [↓sx0, ↓sx1, ↓sx2, ↓sx3, ↓sx4, ↓sx5, ↓sx6, sx0, sx1, sx2, sx3, sx4, sx5, sx6, tf62, ev3_hold, sxo, sxc, sxp, sxq, sxr, sxs, sxl, sxm, simprocAttr, e7, e8]
    try rfl
  refine walk [] [] (det0_ok _ _) Tryz.func32 rfl Tryz.ntmps32 res32 (by kernel_rfl) no_facts ?_
  simp (config := { maxSteps := 4000000 }) only [↓sx0, ↓sx1, ↓sx2, ↓sx3, ↓sx4, ↓sx5, ↓sx6, sx0, sx1, sx2, sx3, sx4, sx5, sx6, tf32, ev3_hold, sxo, sxc, sxp, sxq, sxr, sxs, sxl, sxm, simprocAttr, dn]
  refine CallOb.pureH (fun w' hp => hix w') ?_
  rintro r N rfl
  refine ⟨?_⟩
  simp (config := { maxSteps := 4000000 }) only [↓sx0, ↓sx1, ↓sx2, ↓sx3, ↓sx4, ↓sx5, ↓sx6, sx0, sx1, sx2, sx3, sx4, sx5, sx6, tf32, ev3_hold, sxo, sxc, sxp, sxq, sxr, sxs, sxl, sxm, simprocAttr]
  try simp
theorem lgoes_fn (w : World) (bx : Nat) (c : Cht) (sD sT sS vl vn : Value) (h : TrC w bx c sD sT sS vl vn) (hl0 : Sl w vl 5 []) (hok : c.ok) (hsm : c.small) (tr : Trp) (hkd : kindB tr.lv tr.dr = true) (was : Int) (k t : Nat) (hk : k < c.depth.length) (ht : t < c.tide.length) :
    SX.Fn Tryz.prog 55 [.pointer (some ⟨bx, 0, none⟩), trv tr, I was, I k, I t] w (fun _ => False) fun v N => v = .bool (fltB c tr.lv tr.dr t k) := by
  have dn : ∀ (g : Nat) (xs : List Value), det0 g xs = none := fun _ _ => rfl
  have hfl := fun (H : List HO) w' (hp : Hp ⟨w, fun _ => False⟩ H w') => ofl_fn w' bx c sD sT sS vl vn (h.hp hp) hok hsm tr.lv tr.dr k t hk ht hkd
  have hco := fun (f : Value) (H : List HO) w' (hp : Hp ⟨w, fun _ => False⟩ H w') => lnoleg_fn w' vl (Sl.hp (w0 := ⟨w, fun _ => False⟩) hl0 (fun _ _ => id) hp) f
  have c5 := h.cel 5 _ rfl
  obtain ⟨B, hB⟩ : ∃ B, fltB c tr.lv tr.dr t k = B := ⟨_, rfl⟩
  rw [hB] at hfl ⊢
  obtain ⟨ta, tl, td, tt, tf, tg⟩ := tr
  unfold trv
  simp only [] at hfl ⊢
  cases B with
  | false =>
    refine walk [9, 11] [] (det0_ok _ _) Tryz.func55 rfl Tryz.ntmps55 res55 (by kernel_rfl) no_facts ?_
    simp (config := { maxSteps := 4000000 }) only [↓sx0, ↓sx1, ↓sx2, ↓sx3, ↓sx4, ↓sx5, ↓sx6, sx0, sx1, sx2, sx3, sx4, sx5, sx6, tf55, ev3_hold, sxo, sxc, sxp, sxq, sxr, sxs, sxl, sxm, simprocAttr, dn]
    intro b9 b11
    refine wr_cell (A := []) rfl (by simp) ?_
    simp (config := { maxSteps := 4000000 }) only [↓sx0, ↓sx1, ↓sx2, ↓sx3, ↓sx4, ↓sx5, ↓sx6, sx0, sx1, sx2, sx3, sx4, sx5, sx6, tf55, ev3_hold, sxo, sxc, sxp, sxq, sxr, sxs, sxl, sxm, simprocAttr]
    refine ld_cell (T := 3) (cs := [I t]) (by simp) rfl ?_
    simp (config := { maxSteps := 4000000 }) only [↓sx0, ↓sx1, ↓sx2, ↓sx3, ↓sx4, ↓sx5, ↓sx6, sx0, sx1, sx2, sx3, sx4, sx5, sx6, tf55, ev3_hold, sxo, sxc, sxp, sxq, sxr, sxs, sxl, sxm, simprocAttr, dn]
    refine CallOb.pureH (fun w' hp => hfl _ w' hp) ?_
    rintro q N rfl
    refine ⟨?_⟩
    simp (config := { maxSteps := 4000000 }) only [↓sx0, ↓sx1, ↓sx2, ↓sx3, ↓sx4, ↓sx5, ↓sx6, sx0, sx1, sx2, sx3, sx4, sx5, sx6, tf55, ev3_hold, sxo, sxc, sxp, sxq, sxr, sxs, sxl, sxm, simprocAttr]
    try rfl
  | true =>
    refine walk [9, 11] [] (det0_ok _ _) Tryz.func55 rfl Tryz.ntmps55 res55 (by kernel_rfl) no_facts ?_
    simp (config := { maxSteps := 4000000 }) only [↓sx0, ↓sx1, ↓sx2, ↓sx3, ↓sx4, ↓sx5, ↓sx6, sx0, sx1, sx2, sx3, sx4, sx5, sx6, tf55, ev3_hold, sxo, sxc, sxp, sxq, sxr, sxs, sxl, sxm, simprocAttr, dn]
    intro b9 b11
    refine wr_cell (A := []) rfl (by simp) ?_
    simp (config := { maxSteps := 4000000 }) only [↓sx0, ↓sx1, ↓sx2, ↓sx3, ↓sx4, ↓sx5, ↓sx6, sx0, sx1, sx2, sx3, sx4, sx5, sx6, tf55, ev3_hold, sxo, sxc, sxp, sxq, sxr, sxs, sxl, sxm, simprocAttr]
    refine ld_cell (T := 3) (cs := [I t]) (by simp) rfl ?_
    simp (config := { maxSteps := 4000000 }) only [↓sx0, ↓sx1, ↓sx2, ↓sx3, ↓sx4, ↓sx5, ↓sx6, sx0, sx1, sx2, sx3, sx4, sx5, sx6, tf55, ev3_hold, sxo, sxc, sxp, sxq, sxr, sxs, sxl, sxm, simprocAttr, dn]
    refine CallOb.pureH (fun w' hp => hfl _ w' hp) ?_
    rintro q N rfl
    refine ⟨?_⟩
    simp (config := { maxSteps := 4000000 }) only [↓sx0, ↓sx1, ↓sx2, ↓sx3, ↓sx4, ↓sx5, ↓sx6, sx0, sx1, sx2, sx3, sx4, sx5, sx6, tf55, ev3_hold, sxo, sxc, sxp, sxq, sxr, sxs, sxl, sxm, simprocAttr]
    refine ld_olda (b := bx) (o := 5) (by simp [Addr.add]) c5 id ?_
    simp (config := { maxSteps := 4000000 }) only [↓sx0, ↓sx1, ↓sx2, ↓sx3, ↓sx4, ↓sx5, ↓sx6, sx0, sx1, sx2, sx3, sx4, sx5, sx6, tf55, ev3_hold, sxo, sxc, sxp, sxq, sxr, sxs, sxl, sxm, simprocAttr, dn]
    refine CallOb.pureH (fun w' hp => hco _ _ w' hp) ?_
    rintro q N rfl
    refine ⟨?_⟩
    simp (config := { maxSteps := 4000000 }) only [↓sx0, ↓sx1, ↓sx2, ↓sx3, ↓sx4, ↓sx5, ↓sx6, sx0, sx1, sx2, sx3, sx4, sx5, sx6, tf55, ev3_hold, sxo, sxc, sxp, sxq, sxr, sxs, sxl, sxm, simprocAttr]
    try rfl
theorem ltrip_fn (w : World) (bx : Nat) (c : Cht) (sD sT sS vl vn : Value) (h : TrC w bx c sD sT sS vl vn) (hok : c.ok) (hsm : c.small) (tr : Trp) (hkd : kindB tr.lv tr.dr = true) (ha : 0 ≤ tr.at_ ∧ tr.at_ < (c.tide.length : Int)) (hf : 0 ≤ tr.fr ∧ tr.fr < (c.depth.length : Int)) (hg : 0 ≤ tr.to ∧ tr.to < (c.depth.length : Int)) :
    SX.Fn Tryz.prog 54 [.pointer (some ⟨bx, 0, none⟩), trv tr] w (fun _ => False) fun v N => v = .bool true := by
  have dn : ∀ (g : Nat) (xs : List Value), det0 g xs = none := fun _ _ => rfl
  have hT60 : c.tide.length ≤ 60 := hok.2.2.2.1.2
  have hD200 : c.depth.length ≤ 200 := hsm.1
  have hti := fun (n : Int) (H : List HO) w' (hp : Hp ⟨w, fun _ => False⟩ H w') => ltick_fn w' bx c sD sT sS vl vn (h.hp hp) (by omega) n
  have hce := fun (n : Int) (H : List HO) w' (hp : Hp ⟨w, fun _ => False⟩ H w') => lcell_fn w' bx c sD sT sS vl vn (h.hp hp) (by omega) n
  have hki := fun w' => kind_fn w' tr.lv tr.dr
  rw [hkd] at hki
  have b1 : inB tr.at_ 0 ((c.tide.length : Int) - 1) = true := (inB_iff _ _ _).2 (by omega)
  have b2 : inB tr.fr 0 ((c.depth.length : Int) - 1) = true := (inB_iff _ _ _).2 (by omega)
  have b3 : inB tr.to 0 ((c.depth.length : Int) - 1) = true := (inB_iff _ _ _).2 (by omega)
  obtain ⟨ta, tl, td, tt, tf, tg⟩ := tr
  unfold trv
  simp only [] at hki b1 b2 b3 ⊢
  refine walk [] [] (det0_ok _ _) Tryz.func54 rfl Tryz.ntmps54 res54 (by kernel_rfl) no_facts ?_
  simp (config := { maxSteps := 4000000 }) only [↓sx0, ↓sx1, ↓sx2, ↓sx3, ↓sx4, ↓sx5, ↓sx6, sx0, sx1, sx2, sx3, sx4, sx5, sx6, tf54, ev3_hold, sxo, sxc, sxp, sxq, sxr, sxs, sxl, sxm, simprocAttr, dn]
  refine CallOb.pureH (fun w' hp => hti ta _ w' hp) ?_
  rintro q N rfl
  rw [b1]
  refine ⟨?_⟩
  simp (config := { maxSteps := 4000000 }) only [↓sx0, ↓sx1, ↓sx2, ↓sx3, ↓sx4, ↓sx5, ↓sx6, sx0, sx1, sx2, sx3, sx4, sx5, sx6, tf54, ev3_hold, sxo, sxc, sxp, sxq, sxr, sxs, sxl, sxm, simprocAttr, dn]
  refine CallOb.pureH (fun w' hp => hce tf _ w' hp) ?_
  rintro q N rfl
  rw [b2]
  refine ⟨?_⟩
  simp (config := { maxSteps := 4000000 }) only [↓sx0, ↓sx1, ↓sx2, ↓sx3, ↓sx4, ↓sx5, ↓sx6, sx0, sx1, sx2, sx3, sx4, sx5, sx6, tf54, ev3_hold, sxo, sxc, sxp, sxq, sxr, sxs, sxl, sxm, simprocAttr, dn]
  refine CallOb.pureH (fun w' hp => hce tg _ w' hp) ?_
  rintro q N rfl
  rw [b3]
  refine ⟨?_⟩
  simp (config := { maxSteps := 4000000 }) only [↓sx0, ↓sx1, ↓sx2, ↓sx3, ↓sx4, ↓sx5, ↓sx6, sx0, sx1, sx2, sx3, sx4, sx5, sx6, tf54, ev3_hold, sxo, sxc, sxp, sxq, sxr, sxs, sxl, sxm, simprocAttr, dn]
  refine CallOb.pureH (fun w' hp => hki w') ?_
  rintro q N rfl
  refine ⟨?_⟩
  simp (config := { maxSteps := 4000000 }) only [↓sx0, ↓sx1, ↓sx2, ↓sx3, ↓sx4, ↓sx5, ↓sx6, sx0, sx1, sx2, sx3, sx4, sx5, sx6, tf54, ev3_hold, sxo, sxc, sxp, sxq, sxr, sxs, sxl, sxm, simprocAttr]
  try rfl
end Go.Proofs.YtogicfoigeongaaGreatDoor

namespace Go.Proofs.YtogicfoigeongaaGreatDoor
open Go.RowKit Go.SX
set_option maxRecDepth 10000
set_option maxHeartbeats 0
set_option linter.unusedSimpArgs false
set_option linter.unusedVariables false
def rvI (l X : List Int) (k : Nat) : Prop := X.length = l.length ∧ ∀ u, u < l.length → X.getD u 0 = if u < k ∨ l.length ≤ u + k then l.getD (l.length - 1 - u) 0 else l.getD u 0
theorem rvI.done {l X : List Int} {k : Nat} (h : rvI l X k) (hk : l.length ≤ 2 * k + 1) : X = l.reverse := by
  refine List.ext_getElem? fun u => ?_
  by_cases hu : u < l.length
  · have h1 := h.2 u hu
    rw [List.getD_eq_getElem?_getD, List.getElem?_eq_getElem (by rw [h.1]; exact hu)] at h1
    rw [List.getElem?_reverse hu, List.getElem?_eq_getElem (by rw [h.1]; exact hu), List.getElem?_eq_getElem (by omega)]
    simp only [Option.getD_some] at h1
    rw [h1]
    congr 1
    split
    · rw [List.getD_eq_getElem?_getD, List.getElem?_eq_getElem (by omega)]
      rfl
    · have : u = l.length - 1 - u := by omega
      rw [List.getD_eq_getElem?_getD]
      conv => lhs; rw [this]
      rw [List.getElem?_eq_getElem (by omega)]
      rfl
  · rw [List.getElem?_eq_none (by rw [h.1]; omega), List.getElem?_eq_none (by rw [List.length_reverse]; omega)]
theorem rvI.zero (l : List Int) : rvI l l 0 := ⟨rfl, fun u hu => by rw [if_neg (by omega)]⟩
theorem rvI.step {l X : List Int} {k : Nat} (h : rvI l X k) (hk : 2 * k + 1 < l.length) : rvI l ((X.set k (X.getD (l.length - 1 - k) 0)).set (l.length - 1 - k) (X.getD k 0)) (k + 1) := by
  obtain ⟨h1, h2⟩ := h
  refine ⟨by simp [h1], fun u hu => ?_⟩
  rw [List.getD_eq_getElem?_getD]
  have ha := h2 (l.length - 1 - k) (by omega)
  have hb := h2 k (by omega)
  rw [if_neg (by omega)] at ha hb
  by_cases hu1 : u = l.length - 1 - k
  · subst hu1
    rw [List.getElem?_set_self (by simp [h1]; omega), if_pos (by omega), Option.getD_some, hb, show l.length - 1 - (l.length - 1 - k) = k by omega]
  · rw [List.getElem?_set_ne (by omega)]
    by_cases hu2 : u = k
    · subst hu2
      rw [List.getElem?_set_self (by omega), if_pos (by omega), Option.getD_some, ha]
    · rw [List.getElem?_set_ne (by omega), ← List.getD_eq_getElem?_getD, h2 u hu]
      by_cases hc : u < k ∨ l.length ≤ u + k
      · rw [if_pos hc, if_pos (by omega)]
      · rw [if_neg hc, if_neg (by omega)]
theorem lreverse_fn (w : World) (ad : Addr) (cp : Nat) (l : List Int) (hl : l.length ≤ 1000) (hok : HO.ok w (.row (.slice (some ad) l.length cp) 3 1 (ints l))) :
    SX.Fn Tryz.prog 56 [.slice (some ad) l.length cp] w (fpsx [HO.row (.slice (some ad) l.length cp) 3 1 (ints l)]) fun q N => q = .tuple #[] ∧ HO.row (.slice (some ad) l.length cp) 3 1 (ints l.reverse) ∈ N := by
  have e1 : wr ((l.length : Int) - 1) = (l.length : Int) - 1 := wrap_id (by omega)
  refine walk [] [] (det0_ok _ _) Tryz.func56 rfl Tryz.ntmps56 res56 (by kernel_rfl) (H0 := [.row (.slice (some ad) l.length cp) 3 1 (ints l)]) ⟨fun h hh => by rw [List.mem_singleton] at hh; subst hh; exact hok, fun h hh b hb => ⟨h, hh, by rw [List.mem_singleton] at hh; subst hh; exact hb⟩, List.pairwise_singleton _ _⟩ ?_
  obtain ⟨X0, hX0⟩ : ∃ X0, fpsx [HO.row (.slice (some ad) l.length cp) 3 1 (ints l)] = X0 := ⟨_, rfl⟩
  rw [hX0]
  simp (config := { maxSteps := 4000000 }) only [↓sx0, ↓sx1, ↓sx2, ↓sx3, ↓sx4, ↓sx5, ↓sx6, sx0, sx1, sx2, sx3, sx4, sx5, sx6, tf56, ev3_hold, sxo, sxc, sxp, sxq, sxr, sxs, sxl, sxm, simprocAttr, e1]
  refine loop_constH [.row (.slice (some ad) l.length cp) 3 1 (ints l)] (HImp.refl _ _) [(2, 3), (7, 27)] (fun s : Nat × List Int => [(2, I s.1), (3, I ((l.length : Int) - 1 - s.1))]) (fun s H1 => rvI l s.2 s.1 ∧ 2 * s.1 ≤ l.length + 1 ∧ H1 = [.row (.slice (some ad) l.length cp) 3 1 (ints s.2)]) (fun s => l.length + 1 - 2 * s.1) (0, l) ?_ ⟨rvI.zero l, by omega, rfl⟩ ?_
  · simp (config := { maxSteps := 4000000 }) only [↓sx0, ↓sx1, ↓sx2, ↓sx3, ↓sx4, ↓sx5, ↓sx6, sx0, sx1, sx2, sx3, sx4, sx5, sx6, tf56, ev3_hold, sxo, sxc, sxp, sxq, sxr, sxs, sxl, sxm, simprocAttr]
    simp
  rintro ⟨k, X⟩ H1 g1 hinv
  simp only [] at hinv
  obtain ⟨hX, hk, rfl⟩ := hinv
  have hXl := hX.1
  by_cases hkn : (k : Int) < (l.length : Int) - 1 - k
  case neg =>
    have e7 : ((k : Int) < (l.length : Int) - 1 - (k : Int)) = False := eq_false hkn
    have hd := hX.done (by omega)
    refine ⟨?_⟩
    simp (config := { maxSteps := 4000000 }) only [↓sx0, ↓sx1, ↓sx2, ↓sx3, ↓sx4, ↓sx5, ↓sx6, sx0, sx1, sx2, sx3, sx4, sx5, sx6, tf56, ev3_hold, sxo, sxc, sxp, sxq, sxr, sxs, sxl, sxm, simprocAttr, e7]
    rw [hd]
    first | exact ⟨rfl, List.mem_singleton.2 rfl⟩ | exact List.mem_singleton.2 rfl
  have e7 : ((k : Int) < (l.length : Int) - 1 - (k : Int)) = True := eq_true hkn
  obtain ⟨j, hj⟩ : ∃ j : Nat, (l.length : Int) - 1 - (k : Int) = j := ⟨l.length - 1 - k, by omega⟩
  have hjn : j = l.length - 1 - k := by omega
  have hst := hX.step (by omega)
  rw [← hjn] at hst
  have e8 : wr ((k : Int) + 1) = ((k + 1 : Nat) : Int) := (wrap_id (by omega)).trans (by omega)
  have e9 : wr ((j : Int) - 1) = (l.length : Int) - 1 - ((k + 1 : Nat) : Int) := (wrap_id (by omega)).trans (by omega)
  have ej : ((j : Int) < (l.length : Int)) = True := eq_true (by omega)
  have ek : ((k : Int) < (l.length : Int)) = True := eq_true (by omega)
  rw [hj] at e7 ⊢
  obtain ⟨x, hx⟩ : ∃ x, X[k]? = some x := ⟨_, List.getElem?_eq_getElem (by omega)⟩
  obtain ⟨y, hy⟩ : ∃ y, X[j]? = some y := ⟨_, List.getElem?_eq_getElem (by omega)⟩
  have hxd : X.getD k 0 = x := by rw [List.getD_eq_getElem?_getD, hx]; rfl
  have hyd : X.getD j 0 = y := by rw [List.getD_eq_getElem?_getD, hy]; rfl
  rw [hxd, hyd] at hst
  have hr : ∀ Z : List Int, Z.length = l.length → Rdv ⟨w, X0⟩ [HO.row (.slice (some ad) l.length cp) 3 1 (ints Z)] (.slice (some ad) l.length cp) 1 (ints Z) := fun Z hZ => row_rdv (E := 3) (by simp) ⟨_, _, _, rfl, by rw [cat_len i1_len, hZ], fun h => by cases h⟩
  refine ⟨?_⟩
  simp (config := { maxSteps := 4000000 }) only [↓sx0, ↓sx1, ↓sx2, ↓sx3, ↓sx4, ↓sx5, ↓sx6, sx0, sx1, sx2, sx3, sx4, sx5, sx6, tf56, ev3_hold, sxo, sxc, sxp, sxq, sxr, sxs, sxl, sxm, simprocAttr, e7, ej]
  refine amid (at_1 (hr X hXl) i1_len hy rfl fun ad1 => ?_)
  simp (config := { maxSteps := 4000000 }) only [↓sx0, ↓sx1, ↓sx2, ↓sx3, ↓sx4, ↓sx5, ↓sx6, sx0, sx1, sx2, sx3, sx4, sx5, sx6, tf56, ev3_hold, sxo, sxc, sxp, sxq, sxr, sxs, sxl, sxm, simprocAttr, ek]
  refine amid (at_1 (hr X hXl) i1_len hx rfl fun ad1 => ?_)
  simp (config := { maxSteps := 4000000 }) only [↓sx0, ↓sx1, ↓sx2, ↓sx3, ↓sx4, ↓sx5, ↓sx6, sx0, sx1, sx2, sx3, sx4, sx5, sx6, tf56, ev3_hold, sxo, sxc, sxp, sxq, sxr, sxs, sxl, sxm, simprocAttr, ek, ej]
  refine ⟨by omega, _, rfl, ?_⟩
  refine wr_at (A := []) (B := []) (l := X) (k := k) (u := y) rfl i1_len hXl (by omega) ?_
  simp (config := { maxSteps := 4000000 }) only [↓sx0, ↓sx1, ↓sx2, ↓sx3, ↓sx4, ↓sx5, ↓sx6, sx0, sx1, sx2, sx3, sx4, sx5, sx6, tf56, ev3_hold, sxo, sxc, sxp, sxq, sxr, sxs, sxl, sxm, simprocAttr, ek, ej]
  refine ⟨by omega, _, rfl, ?_⟩
  have hXs : (X.set k y).length = l.length := by rw [List.length_set, hXl]
  refine wr_at (A := []) (B := []) (l := X.set k y) (k := j) (u := x) rfl i1_len (by rw [List.length_set, hXl]) (by omega) ?_
  simp (config := { maxSteps := 4000000 }) only [↓sx0, ↓sx1, ↓sx2, ↓sx3, ↓sx4, ↓sx5, ↓sx6, sx0, sx1, sx2, sx3, sx4, sx5, sx6, tf56, ev3_hold, sxo, sxc, sxp, sxq, sxr, sxs, sxl, sxm, simprocAttr, e8, e9]
  exact ⟨(k + 1, (X.set k y).set j x), _, ⟨rfl, rfl⟩, HImp.refl _ _, ⟨hst, by simp only []; omega, rfl⟩, by simp only []; omega⟩
end Go.Proofs.YtogicfoigeongaaGreatDoor

namespace Go.Proofs.YtogicfoigeongaaGreatDoor
open Go.RowKit Go.SX
set_option maxRecDepth 10000
set_option maxHeartbeats 0
set_option linter.unusedSimpArgs false
set_option linter.unusedVariables false
def RouP (c : Cht) (g : Int) (A F G : Nat) (q : Value) (N : List HO) : Prop := (∃ p, RtP c g A F G p ∧ p ≠ [] ∧ Got q 3 1 i1 (nts p) N ∧ q ≠ .slice none 0 0) ∨ (q = .slice none 0 0 ∧ ∀ i, A + i < c.tide.length → ¬ Rr c g A F i G)
theorem flt0 (c : Cht) (g : Int) (t k : Nat) : fltB c 0 g t k = c.flt g t k := by unfold fltB; simp
def TabR (c : Cht) (g : Int) (A F G K : Nat) (ps : List (Lp Int)) : Prop := ps.length = K ∧ ∀ (j : Nat) p, ps[j]? = some p → RowT c g A F j p.1 ∧ ∃ b, p.2 = (some ⟨b, 0, none⟩, c.depth.length, c.depth.length)
def FilR (c : Cht) (g : Int) (A F i x : Nat) (X : List Int) : Prop := X.length = c.depth.length ∧ (∀ z, z < x → z < c.depth.length → (lv X z = -1 ∧ ¬ Rr c g A F i z) ∨ (Rr c g A F i z ∧ ∃ y : Nat, lv X z = y ∧ (0 < i → y ∈ nbL c.W c.H z ∧ Rr c g A F (i - 1) y))) ∧ ∀ z, x ≤ z → z < c.depth.length → lv X z = -1
theorem FilR.zero (c : Cht) (g : Int) (A F i : Nat) : FilR c g A F i 0 (List.replicate c.depth.length (-1)) := by
  refine ⟨by simp, fun z h => by omega, fun z _ hz => ?_⟩
  unfold lv
  rw [List.getD_eq_getElem?_getD, List.getElem?_replicate, if_pos hz]
  rfl
theorem FilR.done {c : Cht} {g : Int} {A F i : Nat} {X : List Int} (h : FilR c g A F i c.depth.length X) : RowT c g A F i X := ⟨h.1, fun z hz => h.2.1 z hz hz⟩
theorem FilR.no {c : Cht} {g : Int} {A F i x : Nat} {X : List Int} (h : FilR c g A F i x X) (hx : x < c.depth.length) (hn : ¬ Rr c g A F i x) : FilR c g A F i (x + 1) X := by
  obtain ⟨h1, h2, h3⟩ := h
  refine ⟨h1, fun z hz hzl => ?_, fun z hz hzl => h3 z (by omega) hzl⟩
  by_cases e : z = x
  · subst e
    exact .inl ⟨h3 z (Nat.le_refl _) hx, hn⟩
  · exact h2 z (by omega) hzl
theorem FilR.yes {c : Cht} {g : Int} {A F i x : Nat} {X : List Int} (h : FilR c g A F i x X) (hx : x < c.depth.length) (hr : Rr c g A F i x) {y : Nat} (hy : 0 < i → y ∈ nbL c.W c.H x ∧ Rr c g A F (i - 1) y) : FilR c g A F i (x + 1) (X.set x (y : Int)) := by
  obtain ⟨h1, h2, h3⟩ := h
  refine ⟨by rw [List.length_set, h1], fun z hz hzl => ?_, fun z hz hzl => ?_⟩
  · by_cases e : z = x
    · subst e
      refine .inr ⟨hr, y, ?_, hy⟩
      unfold lv
      rw [List.getD_eq_getElem?_getD, List.getElem?_set_self (by omega)]
      rfl
    · have := h2 z (by omega) hzl
      rw [lv_set (by omega), if_neg e]
      exact this
  · rw [lv_set (by omega), if_neg (by omega)]
    exact h3 z (by omega) hzl
theorem FilR.first {c : Cht} {g : Int} {A F : Nat} (hF : F < c.depth.length) : RowT c g A F 0 (if c.flt g A F then (List.replicate c.depth.length (-1)).set F (F : Int) else List.replicate c.depth.length (-1)) := by
  have h0 := FilR.zero c g A F 0
  refine ⟨by split <;> simp, fun x hx => ?_⟩
  by_cases hf : c.flt g A F = true
  · rw [if_pos hf, lv_set (by simp; exact hF)]
    by_cases e : x = F
    · subst e
      exact .inr ⟨⟨rfl, hf⟩, x, if_pos rfl, fun h => by omega⟩
    · rw [if_neg e]
      exact .inl ⟨h0.2.2 x (Nat.zero_le _) hx, fun h => e h.1⟩
  · rw [if_neg hf]
    exact .inl ⟨h0.2.2 x (Nat.zero_le _) hx, fun h => hf h.2⟩
end Go.Proofs.YtogicfoigeongaaGreatDoor

