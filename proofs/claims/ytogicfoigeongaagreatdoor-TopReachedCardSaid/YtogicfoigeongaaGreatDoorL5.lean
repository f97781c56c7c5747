/- Parts of a proof: the symbolic walk and what it shows of single functions. -/
import Derived.Test.YtogicfoigeongaaGreatDoorL4
import Derived.Test.YtogicfoigeongaaGreatDoorL2
set_option linter.all false
namespace Go.Proofs.YtogicfoigeongaaGreatDoor
open Go.RowKit Go.SX
set_option maxRecDepth 10000
set_option maxHeartbeats 0
set_option linter.unusedSimpArgs false
set_option linter.unusedVariables false
theorem lroute_fn (w : World) (bx : Nat) (c : Cht) (sD sT sS vl vn : Value) (h : TrC w bx c sD sT sS vl vn) (nr : List (List Int)) (hnr : LLOk i1 1 w vn nr) (hnp : NearP c nr) (hl0 : Sl w vl 5 []) (hok : c.ok) (hsm : c.small) (g : Int) (tl : Bool) (A F G : Nat) (hkd : kindB 0 g = true) (hA : A < c.tide.length) (hF : F < c.depth.length) (hG : G < c.depth.length) :
    SX.Fn Tryz.prog 26 [.pointer (some ⟨bx, 0, none⟩), trv ⟨A, 0, g, tl, F, G⟩] w (fun _ => False) (RouP c g A F G) := by
  have dn : ∀ (g : Nat) (xs : List Value), det0 g xs = none := fun _ _ => rfl
  have hT60 : c.tide.length ≤ 60 := hok.2.2.2.1.2
  have hD200 : c.depth.length ≤ 144 := by
    obtain ⟨_, _, hW, hH, hlen⟩ := hok.dims
    have := Nat.mul_le_mul hW.2 hH.2
    omega
  have hgo := fun (was : Int) (k t : Nat) (hk : k < c.depth.length) (ht : t < c.tide.length) (H : List HO) w' (hp : Hp ⟨w, fun _ => False⟩ H w') => lgoes_fn w' bx c sD sT sS vl vn (h.hp hp) (Sl.hp (w0 := ⟨w, fun _ => False⟩) hl0 (fun _ _ => id) hp) hok hsm ⟨A, 0, g, tl, F, G⟩ hkd was k t hk ht
  simp only [flt0] at hgo
  unfold trv at hgo ⊢
  simp only [] at hgo ⊢
  have c2 := h.cel 2 _ rfl
  have c3 := h.cel 3 _ rfl
  have c6 := h.cel 6 _ rfl
  obtain ⟨sD', sT', sS', he, hD, hTT, hS⟩ := h.ch
  injection he with he
  injection he with he
  simp only [List.cons.injEq, true_and, and_true] at he
  obtain ⟨rfl, rfl, rfl⟩ := he
  have getD_some : ∀ {X : List Int} {k : Nat}, k < X.length → X[k]? = some (lv X k) := fun {X k} hk => by unfold lv; rw [List.getD_eq_getElem?_getD, List.getElem?_eq_getElem hk]; rfl
  obtain ⟨psn, hnpl, hns, hnq⟩ := hnr.at'
  obtain ⟨aN, nN, cN, rfl⟩ := hns.shape
  have hnN := hns.le lpc_len (by have := hnp.1; omega)
  rw [hnpl, hnp.1] at hnN
  subst hnN
  obtain ⟨aD, nD, cD, rfl⟩ := hD.shape
  obtain ⟨aT, nT, cT, rfl⟩ := hTT.shape
  have hnD := hD.le i1_len (by omega)
  have hnT := hTT.le spc_len (by omega)
  subst hnD
  subst hnT
  refine walkC [42] [] [] (det0_ok _ _) Tryz.func26 rfl Tryz.ntmps26 res26 (by kernel_rfl) no_facts ?_
  simp (config := { maxSteps := 4000000 }) only [↓sx0, ↓sx1, ↓sx2, ↓sx3, ↓sx4, ↓sx5, ↓sx6, sx0, sx1, sx2, sx3, sx4, sx5, sx6, tf26, ev3_hold, sxo, sxc, sxp, sxq, sxr, sxs, sxl, sxm, simprocAttr, dn]
  refine loop_constH (.row (.slice none 0 0) 22 1 (cat lpc ([] : List (Lp Int))) :: []) (HImp.nilRow _ _ _ _) [(5, 9), (11, 11), (16, 101)] (fun q : Nat × Option Addr × Nat => [(5, .slice q.2.1 q.1 q.2.2), (6, I ((A + q.1 : Nat) : Int))])
    (fun q H1 => A + q.1 ≤ c.tide.length ∧ (∀ i, i < q.1 → ¬ Rr c g A F i G) ∧ (q.2.1 = none → q.1 = 0) ∧ ∃ pn DN, TabR c g A F G q.1 pn ∧ H1 = .row (.slice q.2.1 q.1 q.2.2) 22 1 (cat lpc (pn : List (Lp Int))) :: DN ∧ ∀ p ∈ pn, HO.row (lpv p) 3 1 (cat i1 p.1) ∈ DN) (fun q => c.tide.length - q.1) (0, none, 0) ?_ ⟨by simp only []; omega, fun i hi => absurd hi (Nat.not_lt_zero _), fun _ => rfl, [], [], ⟨rfl, fun j p hj => by simp at hj⟩, rfl, by simp⟩ ?_
  · simp (config := { maxSteps := 4000000 }) only [↓sx0, ↓sx1, ↓sx2, ↓sx3, ↓sx4, ↓sx5, ↓sx6, sx0, sx1, sx2, sx3, sx4, sx5, sx6, tf26, ev3_hold, sxo, sxc, sxp, sxq, sxr, sxs, sxl, sxm, simprocAttr]
    simp
  rintro ⟨K, an, cn⟩ H1 g1 hinv
  simp only [] at hinv
  obtain ⟨hAK, hmin, hnil, pn, DN, hTab, rfl, hDN⟩ := hinv
  obtain ⟨hpl, hrows⟩ := hTab
  have hrc : ∀ H : List HO, HO.row (.slice an K cn) 22 1 (cat lpc (pn : List (Lp Int))) ∈ H → Rdv ⟨w, fun _ => False⟩ H (.slice an K cn) 1 (cat lpc (pn : List (Lp Int))) := fun H hm => row_rdv (E := 22) hm ⟨_, _, _, rfl, by rw [cat_len lpc_len, hpl, Nat.mul_one], fun h => by have := hnil h; rw [List.eq_nil_of_length_eq_zero (by omega : pn.length = 0)]; rfl⟩
  by_cases hend : A + K = c.tide.length
  · have e1 : (((A + K : Nat) : Int) < (c.tide.length : Int)) = False := eq_false (by omega)
    have eK : wr ((K : Int) - 1) = ((K - 1 : Nat) : Int) := (wrap_id (by omega)).trans (by omega)
    have eK1 : (((K - 1 : Nat) : Int) < (K : Int)) = True := eq_true (by omega)
    refine ⟨?_⟩
    simp (config := { maxSteps := 4000000 }) only [↓sx0, ↓sx1, ↓sx2, ↓sx3, ↓sx4, ↓sx5, ↓sx6, sx0, sx1, sx2, sx3, sx4, sx5, sx6, tf26, ev3_hold, sxo, sxc, sxp, sxq, sxr, sxs, sxl, sxm, simprocAttr, dn]
    refine ld_olda (b := bx) (o := 3) (by simp [Addr.add]) c3 id ?_
    simp (config := { maxSteps := 4000000 }) only [↓sx0, ↓sx1, ↓sx2, ↓sx3, ↓sx4, ↓sx5, ↓sx6, sx0, sx1, sx2, sx3, sx4, sx5, sx6, tf26, ev3_hold, sxo, sxc, sxp, sxq, sxr, sxs, sxl, sxm, simprocAttr, e1, eK, eK1, dn]
    obtain ⟨p, hp⟩ : ∃ p, pn[K - 1]? = some p := ⟨_, List.getElem?_eq_getElem (by omega)⟩
    obtain ⟨hRow, b, hpb⟩ := hrows (K - 1) p hp
    obtain ⟨X, pq⟩ := p
    simp only [] at hRow hpb
    subst hpb
    have hneg := hmin (K - 1) (by omega)
    have hX : lv X G = -1 := by
      rcases hRow.2 G hG with ⟨h1, _⟩ | ⟨h1, _⟩
      · exact h1
      · exact absurd h1 hneg
    refine amid (at_1 (hrc _ (by simp)) lpc_len hp rfl fun ad => ?_)
    simp (config := { maxSteps := 4000000 }) only [↓sx0, ↓sx1, ↓sx2, ↓sx3, ↓sx4, ↓sx5, ↓sx6, sx0, sx1, sx2, sx3, sx4, sx5, sx6, tf26, ev3_hold, sxo, sxc, sxp, sxq, sxr, sxs, sxl, sxm, simprocAttr, dn]
    have eG : ((G : Int) < (c.depth.length : Int)) = True := eq_true (by omega)
    have eX : ((-1 : Int) < 0) = True := eq_true (by omega)
    unfold lpv
    simp (config := { maxSteps := 4000000 }) only [↓sx0, ↓sx1, ↓sx2, ↓sx3, ↓sx4, ↓sx5, ↓sx6, sx0, sx1, sx2, sx3, sx4, sx5, sx6, tf26, ev3_hold, sxo, sxc, sxp, sxq, sxr, sxs, sxl, sxm, simprocAttr, eG]
    refine amid (at_1 (k := G) (x := I (-1)) (row_rdv (E := 3) (xs := ints X) (List.mem_cons_of_mem _ (hDN _ (List.mem_of_getElem? hp))) ⟨_, _, _, rfl, by rw [cat_len i1_len, hRow.1, Nat.mul_one], fun h => by cases h⟩) i1_len (u := lv X G) (getD_some (by rw [hRow.1]; exact hG)) (by rw [hX]; rfl) fun ad2 => ?_)
    simp (config := { maxSteps := 4000000 }) only [↓sx0, ↓sx1, ↓sx2, ↓sx3, ↓sx4, ↓sx5, ↓sx6, sx0, sx1, sx2, sx3, sx4, sx5, sx6, tf26, ev3_hold, sxo, sxc, sxp, sxq, sxr, sxs, sxl, sxm, simprocAttr, eX, dn]
    exact .inr ⟨rfl, fun i hi => hmin i (by omega)⟩
  have e1 : (((A + K : Nat) : Int) < (c.tide.length : Int)) = True := eq_true (by omega)
  have eK : wr ((K + 1 : Nat) : Int) = ((K + 1 : Nat) : Int) := (wrap_id (by omega)).trans (by omega)
  refine ⟨?_⟩
  simp (config := { maxSteps := 4000000 }) only [↓sx0, ↓sx1, ↓sx2, ↓sx3, ↓sx4, ↓sx5, ↓sx6, sx0, sx1, sx2, sx3, sx4, sx5, sx6, tf26, ev3_hold, sxo, sxc, sxp, sxq, sxr, sxs, sxl, sxm, simprocAttr, dn]
  refine ld_olda (b := bx) (o := 3) (by simp [Addr.add]) c3 id ?_
  simp (config := { maxSteps := 4000000 }) only [↓sx0, ↓sx1, ↓sx2, ↓sx3, ↓sx4, ↓sx5, ↓sx6, sx0, sx1, sx2, sx3, sx4, sx5, sx6, tf26, ev3_hold, sxo, sxc, sxp, sxq, sxr, sxs, sxl, sxm, simprocAttr, e1, dn]
  intro b2
  refine ld_olda (b := bx) (o := 2) (by simp [Addr.add]) c2 id ?_
  simp (config := { maxSteps := 4000000 }) only [↓sx0, ↓sx1, ↓sx2, ↓sx3, ↓sx4, ↓sx5, ↓sx6, sx0, sx1, sx2, sx3, sx4, sx5, sx6, tf26, ev3_hold, sxo, sxc, sxp, sxq, sxr, sxs, sxl, sxm, simprocAttr, dn]
  refine CallOb.pureH (fun w' hp => repeat_fn w' _ (-1) c.depth.length (row_hp (E := 3) (xs := ints [-1]) (by simp [cat, i1]) hp) (by omega) (by omega)) ?_
  rintro q N ⟨b3, rfl, hN⟩
  have hIm : HImp ⟨w, fun _ => False⟩ (N ++ (HO.row (.slice (some ⟨b2, 0, none⟩) 1 1) 3 1 (ints [-1]) :: HO.row (.slice an K cn) 22 1 (cat lpc (pn : List (Lp Int))) :: DN)) (HO.row (.slice an K cn) 22 1 (cat lpc (pn : List (Lp Int))) :: HO.row (.slice (some ⟨b3, 0, none⟩) c.depth.length c.depth.length) 3 1 (ints (List.replicate c.depth.length (-1))) :: DN) := (HImp.append (HImp.pick hN)).trans ((HImp.sub (List.Sublist.cons₂ _ (List.sublist_cons_self _ _))).trans (HImp.swap _ _ _ _))
  refine ⟨?_⟩
  simp (config := { maxSteps := 4000000 }) only [↓sx0, ↓sx1, ↓sx2, ↓sx3, ↓sx4, ↓sx5, ↓sx6, sx0, sx1, sx2, sx3, sx4, sx5, sx6, tf26, ev3_hold, sxo, sxc, sxp, sxq, sxr, sxs, sxl, sxm, simprocAttr, dn]
  intro b4
  refine app_one (f := lpc) (l := pn) ((List.replicate c.depth.length (-1), some ⟨b3, 0, none⟩, c.depth.length, c.depth.length) : Lp Int) (A := HO.row (.slice (some ⟨b3, 0, none⟩) c.depth.length c.depth.length) 3 1 (ints (List.replicate c.depth.length (-1))) :: DN) hIm lpc_len lpc_one (by omega) fun a7 c7 => ?_
  rw [hpl]
  simp (config := { maxSteps := 4000000 }) only [↓sx0, ↓sx1, ↓sx2, ↓sx3, ↓sx4, ↓sx5, ↓sx6, sx0, sx1, sx2, sx3, sx4, sx5, sx6, tf26, ev3_hold, sxo, sxc, sxp, sxq, sxr, sxs, sxl, sxm, simprocAttr, dn]
  refine cut_constH [(8, 9), (11, 11), (38, 95)] (fun X : List Int => []) (fun X H1 => RowT c g A F K X ∧ H1 = HO.row (.slice (some a7) (K + 1) c7) 22 1 (cat lpc (pn ++ [((List.replicate c.depth.length (-1), some ⟨b3, 0, none⟩, c.depth.length, c.depth.length) : Lp Int)])) :: HO.row (.slice (some ⟨b3, 0, none⟩) c.depth.length c.depth.length) 3 1 (ints X) :: DN) ?_ ?_
  · by_cases hK0 : K = 0
    · subst hK0
      have e3 : (((A + 0 : Nat) : Int) = (A : Int)) = True := eq_true (by omega)
      have hfi := FilR.first (c := c) (g := g) (A := A) hF
      have hg := hgo (-1) F (A + 0) hF (by omega)
      rw [Nat.add_zero] at hg
      obtain ⟨B, hB⟩ : ∃ B, c.flt g A F = B := ⟨_, rfl⟩
      rw [hB] at hg hfi
      have eF : ((F : Int) < (c.depth.length : Int)) = True := eq_true (by omega)
      refine ⟨?_⟩
      simp (config := { maxSteps := 4000000 }) only [↓sx0, ↓sx1, ↓sx2, ↓sx3, ↓sx4, ↓sx5, ↓sx6, sx0, sx1, sx2, sx3, sx4, sx5, sx6, tf26, ev3_hold, sxo, sxc, sxp, sxq, sxr, sxs, sxl, sxm, simprocAttr, e3, dn, Nat.add_zero]
      refine CallOb.pureH (fun w' hp => hg _ w' hp) ?_
      rintro q N2 rfl
      cases B with
      | false =>
        refine ⟨?_⟩
        simp (config := { maxSteps := 4000000 }) only [↓sx0, ↓sx1, ↓sx2, ↓sx3, ↓sx4, ↓sx5, ↓sx6, sx0, sx1, sx2, sx3, sx4, sx5, sx6, tf26, ev3_hold, sxo, sxc, sxp, sxq, sxr, sxs, sxl, sxm, simprocAttr, dn]
        exact ⟨_, _, HImp.app _ _ _, hfi, rfl⟩
      | true =>
        refine ⟨?_⟩
        simp (config := { maxSteps := 4000000 }) only [↓sx0, ↓sx1, ↓sx2, ↓sx3, ↓sx4, ↓sx5, ↓sx6, sx0, sx1, sx2, sx3, sx4, sx5, sx6, tf26, ev3_hold, sxo, sxc, sxp, sxq, sxr, sxs, sxl, sxm, simprocAttr, dn, eF]
        refine ⟨by omega, _, rfl, ?_⟩
        refine wr_at (A := N2 ++ [HO.row (.slice (some a7) 1 c7) 22 1 (cat lpc (pn ++ [((List.replicate c.depth.length (-1), some ⟨b3, 0, none⟩, c.depth.length, c.depth.length) : Lp Int)]))]) (B := DN) (ad := ⟨b3, 0, none⟩) (len := c.depth.length) (cap := c.depth.length) (e := 3) (l := List.replicate c.depth.length (-1)) (k := F) (u := (F : Int)) (by simp) i1_len (by simp) (by simp; exact hF) ?_
        simp (config := { maxSteps := 4000000 }) only [↓sx0, ↓sx1, ↓sx2, ↓sx3, ↓sx4, ↓sx5, ↓sx6, sx0, sx1, sx2, sx3, sx4, sx5, sx6, tf26, ev3_hold, sxo, sxc, sxp, sxq, sxr, sxs, sxl, sxm, simprocAttr, dn]
        exact ⟨_, _, by rw [List.append_assoc]; exact HImp.app _ _ _, hfi, rfl⟩
    have e3 : (((A + K : Nat) : Int) = (A : Int)) = False := eq_false (by omega)
    obtain ⟨k, rfl⟩ : ∃ k, K = k + 1 := ⟨K - 1, by omega⟩
    have eK2 : wr ((((k + 1 : Nat) + 1 : Nat) : Int) - 2) = (k : Int) := (wrap_id (by omega)).trans (by omega)
    have eK3 : ((k : Int) < (((k + 1 : Nat) + 1 : Nat) : Int)) = True := eq_true (by omega)
    obtain ⟨⟨P, pq⟩, hp⟩ : ∃ p, pn[k]? = some p := ⟨_, List.getElem?_eq_getElem (by omega)⟩
    obtain ⟨hRow, b, hpb⟩ := hrows k _ hp
    simp only [] at hRow hpb
    subst hpb
    have hPm := hDN _ (List.mem_of_getElem? hp)
    have hp2 : (pn ++ [((List.replicate c.depth.length (-1), some ⟨b3, 0, none⟩, c.depth.length, c.depth.length) : Lp Int)])[k]? = some ((P, some ⟨b, 0, none⟩, c.depth.length, c.depth.length) : Lp Int) := by rw [List.getElem?_append_left (by omega), hp]
    obtain ⟨RC, hRC⟩ : ∃ RC, pn ++ [((List.replicate c.depth.length (-1), some ⟨b3, 0, none⟩, c.depth.length, c.depth.length) : Lp Int)] = RC := ⟨_, rfl⟩
    have hRCl : RC.length = k + 1 + 1 := by rw [← hRC, List.length_append, List.length_singleton, hpl]
    rw [hRC] at hp2 ⊢
    refine ⟨?_⟩
    simp (config := { maxSteps := 4000000 }) only [↓sx0, ↓sx1, ↓sx2, ↓sx3, ↓sx4, ↓sx5, ↓sx6, sx0, sx1, sx2, sx3, sx4, sx5, sx6, tf26, ev3_hold, sxo, sxc, sxp, sxq, sxr, sxs, sxl, sxm, simprocAttr, e3, eK2, eK3, dn]
    refine ⟨by omega, ?_⟩
    refine (at_1 (k := k) (row_rdv (E := 22) (xs := cat lpc RC) List.mem_cons_self ⟨_, _, _, rfl, by rw [cat_len lpc_len, hRCl, Nat.mul_one], fun h => by cases h⟩) lpc_len hp2 rfl fun ad => ?_).2.2
    simp (config := { maxSteps := 4000000 }) only [↓sx0, ↓sx1, ↓sx2, ↓sx3, ↓sx4, ↓sx5, ↓sx6, sx0, sx1, sx2, sx3, sx4, sx5, sx6, tf26, ev3_hold, sxo, sxc, sxp, sxq, sxr, sxs, sxl, sxm, simprocAttr, dn]
    unfold lpv
    simp only []
    refine loop_constH (HO.row (.slice (some a7) (k + 1 + 1) c7) 22 1 (cat lpc RC) :: HO.row (.slice (some ⟨b3, 0, none⟩) c.depth.length c.depth.length) 3 1 (ints (List.replicate c.depth.length (-1))) :: DN) (HImp.refl _ _) [(9, 9), (11, 11), (62, 95)] (fun q : Nat × List Int => [(62, I q.1)])
      (fun q H1 => q.1 ≤ c.depth.length ∧ FilR c g A F (k + 1) q.1 q.2 ∧ H1 = HO.row (.slice (some a7) (k + 1 + 1) c7) 22 1 (cat lpc RC) :: HO.row (.slice (some ⟨b3, 0, none⟩) c.depth.length c.depth.length) 3 1 (ints q.2) :: DN) (fun q => c.depth.length - q.1) (0, List.replicate c.depth.length (-1)) ?_ ⟨Nat.zero_le _, FilR.zero c g A F _, rfl⟩ ?_
    · simp (config := { maxSteps := 4000000 }) only [↓sx0, ↓sx1, ↓sx2, ↓sx3, ↓sx4, ↓sx5, ↓sx6, sx0, sx1, sx2, sx3, sx4, sx5, sx6, tf26, ev3_hold, sxo, sxc, sxp, sxq, sxr, sxs, sxl, sxm, simprocAttr]
      try simp
    rintro ⟨x, X⟩ H2 g2 hinv2
    simp only [] at hinv2
    obtain ⟨hx, hX, rfl⟩ := hinv2
    have hXl := hX.1
    by_cases hxn : x = c.depth.length
    · subst hxn
      have e5 : ((c.depth.length : Int) < (c.depth.length : Int)) = False := eq_false (by omega)
      refine ⟨?_⟩
      simp (config := { maxSteps := 4000000 }) only [↓sx0, ↓sx1, ↓sx2, ↓sx3, ↓sx4, ↓sx5, ↓sx6, sx0, sx1, sx2, sx3, sx4, sx5, sx6, tf26, ev3_hold, sxo, sxc, sxp, sxq, sxr, sxs, sxl, sxm, simprocAttr, e5, dn]
      exact ⟨X, _, HImp.refl _ _, hX.done, rfl⟩
    have e5 : ((x : Int) < (c.depth.length : Int)) = True := eq_true (by omega)
    have e6 : wr ((x : Int) + 1) = ((x + 1 : Nat) : Int) := (wrap_id (by omega)).trans (by omega)
    obtain ⟨hnl, hnx⟩ := hnp.2 x (by omega)
    have hnrx : nr[x]? = some (nr.getD x []) := by rw [List.getD_eq_getElem?_getD, List.getElem?_eq_getElem (by rw [hnp.1]; omega)]; rfl
    obtain ⟨⟨qa, qn, qc⟩, hqx, hqs⟩ := hnq x _ hnrx
    simp only [] at hqs
    have hqn := hqs.le i1_len (by omega)
    obtain ⟨l, hl⟩ : ∃ l, nr.getD x [] = l := ⟨_, rfl⟩
    rw [hl] at hnl hnx hqx hqs hqn
    subst hqn
    refine ⟨?_⟩
    simp (config := { maxSteps := 4000000 }) only [↓sx0, ↓sx1, ↓sx2, ↓sx3, ↓sx4, ↓sx5, ↓sx6, sx0, sx1, sx2, sx3, sx4, sx5, sx6, tf26, ev3_hold, sxo, sxc, sxp, sxq, sxr, sxs, sxl, sxm, simprocAttr, e5, dn]
    refine ld_olda (b := bx) (o := 6) (by simp [Addr.add]) c6 id ?_
    simp (config := { maxSteps := 4000000 }) only [↓sx0, ↓sx1, ↓sx2, ↓sx3, ↓sx4, ↓sx5, ↓sx6, sx0, sx1, sx2, sx3, sx4, sx5, sx6, tf26, ev3_hold, sxo, sxc, sxp, sxq, sxr, sxs, sxl, sxm, simprocAttr, e5, dn]
    refine amid (at_1 (hns.rd0 _) lpc_len hqx rfl fun ad2 => ?_)
    unfold lpv
    simp (config := { maxSteps := 4000000 }) only [↓sx0, ↓sx1, ↓sx2, ↓sx3, ↓sx4, ↓sx5, ↓sx6, sx0, sx1, sx2, sx3, sx4, sx5, sx6, tf26, ev3_hold, sxo, sxc, sxp, sxq, sxr, sxs, sxl, sxm, simprocAttr, dn]
    obtain ⟨HH, hHH⟩ : ∃ HH : List Int → List HO, (fun X => HO.row (.slice (some a7) (k + 1 + 1) c7) 22 1 (cat lpc RC) :: HO.row (.slice (some ⟨b3, 0, none⟩) c.depth.length c.depth.length) 3 1 (ints X) :: DN) = HH := ⟨_, rfl⟩
    have hH : ∀ X, (HO.row (.slice (some a7) (k + 1 + 1) c7) 22 1 (cat lpc RC) :: HO.row (.slice (some ⟨b3, 0, none⟩) c.depth.length c.depth.length) 3 1 (ints X) :: DN) = HH X := fun X => by rw [← hHH]
    refine loop_constH (HO.row (.slice (some a7) (k + 1 + 1) c7) 22 1 (cat lpc RC) :: HO.row (.slice (some ⟨b3, 0, none⟩) c.depth.length c.depth.length) 3 1 (ints X) :: DN) (HImp.refl _ _) [(11, 11), (73, 94)] (fun j : Nat => [(73, I j)])
      (fun j H1 => j ≤ l.length ∧ (∀ j' (y : Nat), j' < j → l[j']? = some (y : Int) → ¬ (Rr c g A F k y ∧ c.flt g (A + (k + 1)) x = true)) ∧ H1 = HO.row (.slice (some a7) (k + 1 + 1) c7) 22 1 (cat lpc RC) :: HO.row (.slice (some ⟨b3, 0, none⟩) c.depth.length c.depth.length) 3 1 (ints X) :: DN) (fun j => l.length - j) 0 ?_ ⟨Nat.zero_le _, fun j' y h => absurd h (Nat.not_lt_zero _), rfl⟩ ?_
    · simp (config := { maxSteps := 4000000 }) only [↓sx0, ↓sx1, ↓sx2, ↓sx3, ↓sx4, ↓sx5, ↓sx6, sx0, sx1, sx2, sx3, sx4, sx5, sx6, tf26, ev3_hold, sxo, sxc, sxp, sxq, sxr, sxs, sxl, sxm, simprocAttr]
      try simp
    rintro j H3 g3 hinv3
    obtain ⟨hj, hno, rfl⟩ := hinv3
    by_cases hjl : j = l.length
    · subst hjl
      have e7 : ((l.length : Int) < (l.length : Int)) = False := eq_false (by omega)
      have hnr2 : ¬ Rr c g A F (k + 1) x := fun hr => by
        obtain ⟨hf, y, hy, hry⟩ := hr
        have hyl : (y : Int) ∈ l := (hnx y).2 ⟨y, hy, rfl⟩
        obtain ⟨j', hj'⟩ := List.getElem?_of_mem hyl
        exact hno j' y (List.getElem?_eq_some_iff.1 hj').1 hj' ⟨hry, hf⟩
      refine ⟨?_⟩
      simp (config := { maxSteps := 4000000 }) only [↓sx0, ↓sx1, ↓sx2, ↓sx3, ↓sx4, ↓sx5, ↓sx6, sx0, sx1, sx2, sx3, sx4, sx5, sx6, tf26, ev3_hold, sxo, sxc, sxp, sxq, sxr, sxs, sxl, sxm, simprocAttr, e7, e6, dn]
      exact ⟨(x + 1, X), _, rfl, HImp.refl _ _, ⟨by simp only []; omega, hX.no (by omega) hnr2, rfl⟩, by simp only []; omega⟩
    have e7 : ((j : Int) < (l.length : Int)) = True := eq_true (by omega)
    have e8 : wr ((j : Int) + 1) = ((j + 1 : Nat) : Int) := (wrap_id (by omega)).trans (by omega)
    obtain ⟨z, hz⟩ : ∃ z, l[j]? = some z := ⟨_, List.getElem?_eq_getElem (by omega)⟩
    obtain ⟨y, hyn, rfl⟩ := (hnx z).1 (List.mem_of_getElem? hz)
    have hyl : y < c.depth.length := by
      obtain ⟨eW, eH, hW, hH, hlen⟩ := hok.dims
      have := nbL_lt (by omega : x < c.W * c.H) y hyn
      omega
    have ey : ((y : Int) < (c.depth.length : Int)) = True := eq_true (by omega)
    have ex : ((x : Int) < (c.depth.length : Int)) = True := eq_true (by omega)
    refine ⟨?_⟩
    simp (config := { maxSteps := 4000000 }) only [↓sx0, ↓sx1, ↓sx2, ↓sx3, ↓sx4, ↓sx5, ↓sx6, sx0, sx1, sx2, sx3, sx4, sx5, sx6, tf26, ev3_hold, sxo, sxc, sxp, sxq, sxr, sxs, sxl, sxm, simprocAttr, e7, dn]
    refine amid (at_1 (hqs.rd0 _) i1_len hz rfl fun ad3 => ?_)
    simp (config := { maxSteps := 4000000 }) only [↓sx0, ↓sx1, ↓sx2, ↓sx3, ↓sx4, ↓sx5, ↓sx6, sx0, sx1, sx2, sx3, sx4, sx5, sx6, tf26, ev3_hold, sxo, sxc, sxp, sxq, sxr, sxs, sxl, sxm, simprocAttr, ey, dn]
    refine amid (at_1 (k := y) (x := I (lv P y)) (row_rdv (E := 3) (xs := ints P) (List.mem_cons_of_mem _ (List.mem_cons_of_mem _ hPm)) ⟨_, _, _, rfl, by rw [cat_len i1_len, hRow.1, Nat.mul_one], fun h => by cases h⟩) i1_len (u := lv P y) (getD_some (by rw [hRow.1]; exact hyl)) rfl fun ad4 => ?_)
    by_cases hneg : lv P y < 0
    · have ez : (lv P y ≥ 0) = False := eq_false (by omega)
      simp (config := { maxSteps := 4000000 }) only [↓sx0, ↓sx1, ↓sx2, ↓sx3, ↓sx4, ↓sx5, ↓sx6, sx0, sx1, sx2, sx3, sx4, sx5, sx6, tf26, ev3_hold, sxo, sxc, sxp, sxq, sxr, sxs, sxl, sxm, simprocAttr, ez, e8, dn]
      exact ⟨j + 1, _, rfl, HImp.refl _ _, ⟨by omega, fun j' y' hj' hy' => by
        by_cases e : j' = j
        · subst e
          rw [hz] at hy'
          injection hy' with hy'
          have : y = y' := by omega
          subst this
          exact fun h => hRow.neg hyl hneg h.1
        · exact hno j' y' (by omega) hy', rfl⟩, by omega⟩
    have ez : (lv P y ≥ 0) = True := eq_true (by omega)
    have hry := (hRow.pos hyl hneg).1
    have hg := hgo y x (A + (k + 1)) (by omega) (by omega)
    obtain ⟨B, hB⟩ : ∃ B, c.flt g (A + (k + 1)) x = B := ⟨_, rfl⟩
    rw [hB] at hg
    simp (config := { maxSteps := 4000000 }) only [↓sx0, ↓sx1, ↓sx2, ↓sx3, ↓sx4, ↓sx5, ↓sx6, sx0, sx1, sx2, sx3, sx4, sx5, sx6, tf26, ev3_hold, sxo, sxc, sxp, sxq, sxr, sxs, sxl, sxm, simprocAttr, ez, dn]
    refine CallOb.pureH (fun w' hp => hg _ w' hp) ?_
    rintro q N2 rfl
    cases B with
    | false =>
      refine ⟨?_⟩
      simp (config := { maxSteps := 4000000 }) only [↓sx0, ↓sx1, ↓sx2, ↓sx3, ↓sx4, ↓sx5, ↓sx6, sx0, sx1, sx2, sx3, sx4, sx5, sx6, tf26, ev3_hold, sxo, sxc, sxp, sxq, sxr, sxs, sxl, sxm, simprocAttr, e8, dn]
      exact ⟨j + 1, _, rfl, HImp.app _ _ _, ⟨by omega, fun j' y' hj' hy' => by
        by_cases e : j' = j
        · exact fun h => by rw [hB] at h; cases h.2
        · exact hno j' y' (by omega) hy', rfl⟩, by omega⟩
    | true =>
      refine ⟨?_⟩
      simp (config := { maxSteps := 4000000 }) only [↓sx0, ↓sx1, ↓sx2, ↓sx3, ↓sx4, ↓sx5, ↓sx6, sx0, sx1, sx2, sx3, sx4, sx5, sx6, tf26, ev3_hold, sxo, sxc, sxp, sxq, sxr, sxs, sxl, sxm, simprocAttr, ex, dn]
      refine ⟨by omega, _, rfl, ?_⟩
      refine wr_at (A := N2 ++ [HO.row (.slice (some a7) (k + 1 + 1) c7) 22 1 (cat lpc RC)]) (B := DN) (ad := ⟨b3, 0, none⟩) (len := c.depth.length) (cap := c.depth.length) (e := 3) (l := X) (k := x) (u := (y : Int)) (by simp) i1_len hXl (by omega) ?_
      simp (config := { maxSteps := 4000000 }) only [↓sx0, ↓sx1, ↓sx2, ↓sx3, ↓sx4, ↓sx5, ↓sx6, sx0, sx1, sx2, sx3, sx4, sx5, sx6, tf26, ev3_hold, sxo, sxc, sxp, sxq, sxr, sxs, sxl, sxm, simprocAttr, e6, dn]
      exact ⟨(x + 1, X.set x (y : Int)), _, rfl, by rw [List.append_assoc]; exact HImp.app _ _ _, ⟨by simp only []; omega, hX.yes (by omega) ⟨by rw [← hB]; rfl, y, hyn, hry⟩ (fun _ => ⟨hyn, hry⟩), rfl⟩, by simp only []; omega⟩
  rintro X H1 g2 ⟨hX, rfl⟩
  have eG : ((G : Int) < (c.depth.length : Int)) = True := eq_true (by omega)
  have hcat : cat lpc (pn ++ [((List.replicate c.depth.length (-1), some ⟨b3, 0, none⟩, c.depth.length, c.depth.length) : Lp Int)]) = cat lpc (pn ++ [((X, some ⟨b3, 0, none⟩, c.depth.length, c.depth.length) : Lp Int)]) := by simp [cat, lpc, lpv]
  have hTab2 : TabR c g A F G (K + 1) (pn ++ [((X, some ⟨b3, 0, none⟩, c.depth.length, c.depth.length) : Lp Int)]) := by
    refine ⟨by rw [List.length_append, List.length_singleton, hpl], fun j p hj => ?_⟩
    rw [List.getElem?_append] at hj
    split at hj
    · exact hrows j p hj
    · have e : j = K := by
        have := (List.getElem?_eq_some_iff.1 hj).1
        simp at this
        omega
      subst e
      rw [hpl, Nat.sub_self] at hj
      injection hj with hj
      subst hj
      exact ⟨hX, _, rfl⟩
  rw [hcat]
  refine ⟨?_⟩
  simp (config := { maxSteps := 4000000 }) only [↓sx0, ↓sx1, ↓sx2, ↓sx3, ↓sx4, ↓sx5, ↓sx6, sx0, sx1, sx2, sx3, sx4, sx5, sx6, tf26, ev3_hold, sxo, sxc, sxp, sxq, sxr, sxs, sxl, sxm, simprocAttr, eG, dn]
  refine amid (at_1 (k := G) (x := I (lv X G)) (row_rdv (E := 3) (xs := ints X) (List.mem_cons_of_mem _ List.mem_cons_self) ⟨_, _, _, rfl, by rw [cat_len i1_len, hX.1, Nat.mul_one], fun h => by cases h⟩) i1_len (u := lv X G) (getD_some (by rw [hX.1]; exact hG)) rfl fun ad2 => ?_)
  by_cases hz : lv X G < 0
  · have ez : (lv X G ≥ 0) = False := eq_false (by omega)
    have eT : wr (((A + K : Nat) : Int) + 1) = ((A + (K + 1) : Nat) : Int) := (wrap_id (by omega)).trans (by omega)
    simp (config := { maxSteps := 4000000 }) only [↓sx0, ↓sx1, ↓sx2, ↓sx3, ↓sx4, ↓sx5, ↓sx6, sx0, sx1, sx2, sx3, sx4, sx5, sx6, tf26, ev3_hold, sxo, sxc, sxp, sxq, sxr, sxs, sxl, sxm, simprocAttr, ez, eT, dn]
    exact ⟨(K + 1, some a7, c7), _, ⟨rfl, rfl⟩, HImp.refl _ _, ⟨by simp only []; omega, fun i hi => by
      by_cases e : i = K
      · subst e
        exact hX.neg hG hz
      · exact hmin i (by simp only [] at hi; omega), fun h => (by cases h), _, _ :: DN, hTab2, rfl, fun p hp => by
      rcases List.mem_append.1 hp with h | h
      · exact List.mem_cons_of_mem _ (hDN p h)
      · rw [List.mem_singleton] at h
        subst h
        exact List.mem_cons_self⟩, by simp only []; omega⟩
  have ez : (lv X G ≥ 0) = True := eq_true (by omega)
  have eKK : wr (((K + 1 : Nat) : Int) - 1) = (K : Int) := (wrap_id (by omega)).trans (by omega)
  have eKL : ((K : Int) < ((K + 1 : Nat) : Int)) = True := eq_true (by omega)
  have ez2 : (lv X G < 0) = False := eq_false hz
  obtain ⟨RC, hRC⟩ : ∃ RC, pn ++ [((X, some ⟨b3, 0, none⟩, c.depth.length, c.depth.length) : Lp Int)] = RC := ⟨_, rfl⟩
  have hRK : RC[K]? = some ((X, some ⟨b3, 0, none⟩, c.depth.length, c.depth.length) : Lp Int) := by rw [← hRC, List.getElem?_append_right (by omega), hpl, Nat.sub_self]; rfl
  have hRm : ∀ p ∈ RC, HO.row (lpv p) 3 1 (cat i1 p.1) ∈ (HO.row (.slice (some ⟨b3, 0, none⟩) c.depth.length c.depth.length) 3 1 (ints X) :: DN : List HO) := fun p hp => by
    rw [← hRC] at hp
    rcases List.mem_append.1 hp with h | h
    · exact List.mem_cons_of_mem _ (hDN p h)
    · rw [List.mem_singleton] at h
      subst h
      exact List.mem_cons_self
  rw [hRC] at hTab2 ⊢
  obtain ⟨hRl, hRr⟩ := hTab2
  simp (config := { maxSteps := 4000000 }) only [↓sx0, ↓sx1, ↓sx2, ↓sx3, ↓sx4, ↓sx5, ↓sx6, sx0, sx1, sx2, sx3, sx4, sx5, sx6, tf26, ev3_hold, sxo, sxc, sxp, sxq, sxr, sxs, sxl, sxm, simprocAttr, ez, eKK, eKL, dn]
  refine ⟨by omega, ?_⟩
  refine (at_1 (k := K) (row_rdv (E := 22) (xs := cat lpc RC) List.mem_cons_self ⟨_, _, _, rfl, by rw [cat_len lpc_len, hRl, Nat.mul_one], fun h => by cases h⟩) lpc_len hRK rfl fun ad3 => ?_).2.2
  unfold lpv
  simp (config := { maxSteps := 4000000 }) only [↓sx0, ↓sx1, ↓sx2, ↓sx3, ↓sx4, ↓sx5, ↓sx6, sx0, sx1, sx2, sx3, sx4, sx5, sx6, tf26, ev3_hold, sxo, sxc, sxp, sxq, sxr, sxs, sxl, sxm, simprocAttr, eG, dn]
  refine amid (at_1 (k := G) (x := I (lv X G)) (row_rdv (E := 3) (xs := ints X) (List.mem_cons_of_mem _ List.mem_cons_self) ⟨_, _, _, rfl, by rw [cat_len i1_len, hX.1, Nat.mul_one], fun h => by cases h⟩) i1_len (u := lv X G) (getD_some (by rw [hX.1]; exact hG)) rfl fun ad2 => ?_)
  simp (config := { maxSteps := 4000000 }) only [↓sx0, ↓sx1, ↓sx2, ↓sx3, ↓sx4, ↓sx5, ↓sx6, sx0, sx1, sx2, sx3, sx4, sx5, sx6, tf26, ev3_hold, sxo, sxc, sxp, sxq, sxr, sxs, sxl, sxm, simprocAttr, ez2, eKK, dn]
  intro b5
  have hrG := (hX.pos hG hz).1
  have hB0 : BkI c g A F G (K + 1) [G] := ⟨by simp, by simp, rfl, fun j hj => by
    have : j = 0 := by simpa using hj
    subst this
    exact ⟨hG, hrG⟩, fun j hj => by simp at hj⟩
  refine loop_constH (HO.row (.slice (some ⟨b5, 0, none⟩) (nts [G]).length 1) 3 1 (ints (nts [G])) :: HO.row (.slice (some a7) (K + 1) c7) 22 1 (cat lpc RC) :: HO.row (.slice (some ⟨b3, 0, none⟩) c.depth.length c.depth.length) 3 1 (ints X) :: DN) (HImp.refl _ _) [(12, 13), (119, 137)] (fun q : List Nat × Addr × Nat => [(12, .slice (some q.2.1) (nts q.1).length q.2.2), (13, I ((K : Int) + 1 - (nts q.1).length))])
    (fun q H1 => BkI c g A F G (K + 1) q.1 ∧ H1 = HO.row (.slice (some q.2.1) (nts q.1).length q.2.2) 3 1 (ints (nts q.1)) :: HO.row (.slice (some a7) (K + 1) c7) 22 1 (cat lpc RC) :: HO.row (.slice (some ⟨b3, 0, none⟩) c.depth.length c.depth.length) 3 1 (ints X) :: DN) (fun q => K + 1 - q.1.length) ([G], ⟨b5, 0, none⟩, 1) ?_ ⟨hB0, rfl⟩ ?_
  · simp (config := { maxSteps := 4000000 }) only [↓sx0, ↓sx1, ↓sx2, ↓sx3, ↓sx4, ↓sx5, ↓sx6, sx0, sx1, sx2, sx3, sx4, sx5, sx6, tf26, ev3_hold, sxo, sxc, sxp, sxq, sxr, sxs, sxl, sxm, simprocAttr]
    simp [nts]
  rintro ⟨ps, ap, cp⟩ H4 g4 hinv4
  simp only [] at hinv4
  obtain ⟨hB, rfl⟩ := hinv4
  have hp1 := hB.1
  have hp2 := hB.2.1
  have hnl : (nts ps).length = ps.length := by unfold nts; rw [List.length_map]
  by_cases hpK : ps.length = K + 1
  · have e5 : ((K : Int) + 1 - ((nts ps).length : Int) > 0) = False := eq_false (by omega)
    have hdone := hB.done hok hpK (by omega) (fun i hi => hmin i (by omega))
    have hrev : (nts ps).reverse = nts ps.reverse := by unfold nts; rw [List.map_reverse]
    refine ⟨?_⟩
    simp (config := { maxSteps := 4000000 }) only [↓sx0, ↓sx1, ↓sx2, ↓sx3, ↓sx4, ↓sx5, ↓sx6, sx0, sx1, sx2, sx3, sx4, sx5, sx6, tf26, ev3_hold, sxo, sxc, sxp, sxq, sxr, sxs, sxl, sxm, simprocAttr, e5, dn]
    refine CallOb.mutH (A := [HO.row (.slice (some ap) (nts ps).length cp) 3 1 (ints (nts ps))]) (B := HO.row (.slice (some a7) (K + 1) c7) 22 1 (cat lpc RC) :: HO.row (.slice (some ⟨b3, 0, none⟩) c.depth.length c.depth.length) 3 1 (ints X) :: DN) (HImp.refl _ _) (fun b hb => ?_) (fun w' hp' => lreverse_fn w' ap cp (nts ps) (by omega) (hp'.ok _ List.mem_cons_self)) ?_
    · obtain ⟨h, hh, hb⟩ := hb
      rw [List.mem_singleton] at hh
      subst hh
      exact ⟨_, List.mem_singleton.2 rfl, hb⟩
    rintro q N3 ⟨rfl, hN3⟩
    rw [hrev] at hN3
    refine ⟨?_⟩
    simp (config := { maxSteps := 4000000 }) only [↓sx0, ↓sx1, ↓sx2, ↓sx3, ↓sx4, ↓sx5, ↓sx6, sx0, sx1, sx2, sx3, sx4, sx5, sx6, tf26, ev3_hold, sxo, sxc, sxp, sxq, sxr, sxs, sxl, sxm, simprocAttr, dn]
    exact .inl ⟨ps.reverse, hdone, fun e => (by rw [List.reverse_eq_nil_iff] at e; rw [e] at hp1; simp at hp1), Got.row (by rw [← hrev, List.length_reverse]) (List.mem_append_left _ hN3) (fun h => by cases h), fun h => by injection h with h; cases h⟩
  have e5 : ((K : Int) + 1 - (ps.length : Int) > 0) = True := eq_true (by omega)
  obtain ⟨m, hm⟩ : ∃ m, m = K + 1 - ps.length := ⟨_, rfl⟩
  have hm1 : (K : Int) + 1 - (ps.length : Int) = (m : Int) := by omega
  have em : ((m : Int) < ((K + 1 : Nat) : Int)) = True := eq_true (by omega)
  have ep : wr ((ps.length : Int) - 1) = ((ps.length - 1 : Nat) : Int) := (wrap_id (by omega)).trans (by omega)
  have ep2 : (((ps.length - 1 : Nat) : Int) < (ps.length : Int)) = True := eq_true (by omega)
  refine ⟨?_⟩
  rw [hnl, hm1]
  rw [hm1] at e5
  simp (config := { maxSteps := 4000000 }) only [↓sx0, ↓sx1, ↓sx2, ↓sx3, ↓sx4, ↓sx5, ↓sx6, sx0, sx1, sx2, sx3, sx4, sx5, sx6, tf26, ev3_hold, sxo, sxc, sxp, sxq, sxr, sxs, sxl, sxm, simprocAttr, e5, em, ep, ep2, dn]
  obtain ⟨⟨Y, yq⟩, hY⟩ : ∃ p, RC[m]? = some p := ⟨_, List.getElem?_eq_getElem (by omega)⟩
  obtain ⟨hYr, by_, hyb⟩ := hRr m _ hY
  simp only [] at hYr hyb
  subst hyb
  have hYm := hRm _ (List.mem_of_getElem? hY)
  obtain ⟨z, hz'⟩ : ∃ z, ps.getD (ps.length - 1) 0 = z := ⟨_, rfl⟩
  have hzp : ps[ps.length - 1]? = some z := by rw [← hz', List.getD_eq_getElem?_getD, List.getElem?_eq_getElem (by omega)]; rfl
  have hzn : (nts ps)[ps.length - 1]? = some (z : Int) := by unfold nts; rw [List.getElem?_map, hzp]; rfl
  obtain ⟨hzl, hzr⟩ := hB.2.2.2.1 (ps.length - 1) (by omega)
  rw [hz', show K + 1 - 1 - (ps.length - 1) = m by omega] at hzr
  rw [hz'] at hzl
  have hzY : ¬ lv Y z < 0 := fun hlt => hYr.neg hzl hlt hzr
  obtain ⟨_, y, hyv, hyy⟩ := hYr.pos hzl hzY
  obtain ⟨hyn, hyr⟩ := hyy (by omega)
  have hyl : y < c.depth.length := by
    obtain ⟨eW, eH, hW, hH, hlen⟩ := hok.dims
    have := nbL_lt (by omega : z < c.W * c.H) y hyn
    omega
  have hYz : Y[z]? = some (y : Int) := by rw [getD_some (by rw [hYr.1]; exact hzl), hyv]
  have ezl : ((z : Int) < (c.depth.length : Int)) = True := eq_true (by omega)
  have em2 : wr ((m : Int) - 1) = (K : Int) + 1 - ((nts (ps ++ [y])).length : Int) := (wrap_id (by omega)).trans (by unfold nts; rw [List.length_map, List.length_append, List.length_singleton]; omega)
  refine amid (at_1 (k := m) (row_rdv (E := 22) (xs := cat lpc RC) (List.mem_cons_of_mem _ List.mem_cons_self) ⟨_, _, _, rfl, by rw [cat_len lpc_len, hRl, Nat.mul_one], fun h => by cases h⟩) lpc_len hY rfl fun ad3 => ?_)
  unfold lpv
  simp (config := { maxSteps := 4000000 }) only [↓sx0, ↓sx1, ↓sx2, ↓sx3, ↓sx4, ↓sx5, ↓sx6, sx0, sx1, sx2, sx3, sx4, sx5, sx6, tf26, ev3_hold, sxo, sxc, sxp, sxq, sxr, sxs, sxl, sxm, simprocAttr, ep, ep2, dn]
  refine amid (at_1 (k := ps.length - 1) (x := I z) (row_rdv (E := 3) (xs := ints (nts ps)) List.mem_cons_self ⟨_, _, _, rfl, by rw [cat_len i1_len, hnl, Nat.mul_one], fun h => by cases h⟩) i1_len (u := (z : Int)) hzn rfl fun ad2 => ?_)
  simp (config := { maxSteps := 4000000 }) only [↓sx0, ↓sx1, ↓sx2, ↓sx3, ↓sx4, ↓sx5, ↓sx6, sx0, sx1, sx2, sx3, sx4, sx5, sx6, tf26, ev3_hold, sxo, sxc, sxp, sxq, sxr, sxs, sxl, sxm, simprocAttr, ezl, dn]
  refine amid (at_1 (k := z) (x := I y) (row_rdv (E := 3) (xs := ints Y) (List.mem_cons_of_mem _ (List.mem_cons_of_mem _ hYm)) ⟨_, _, _, rfl, by rw [cat_len i1_len, hYr.1, Nat.mul_one], fun h => by cases h⟩) i1_len (u := (y : Int)) hYz rfl fun ad4 => ?_)
  simp (config := { maxSteps := 4000000 }) only [↓sx0, ↓sx1, ↓sx2, ↓sx3, ↓sx4, ↓sx5, ↓sx6, sx0, sx1, sx2, sx3, sx4, sx5, sx6, tf26, ev3_hold, sxo, sxc, sxp, sxq, sxr, sxs, sxl, sxm, simprocAttr, dn]
  intro b6
  have hns : nts ps ++ [(y : Int)] = nts (ps ++ [y]) := by unfold nts; rw [List.map_append]; rfl
  have hnl2 : (nts ps).length + 1 = (nts (ps ++ [y])).length := by rw [← hns, List.length_append, List.length_singleton]
  refine app_one (f := i1) (l := nts ps) (y : Int) (HImp.refl _ _) i1_len i1_one (by omega) fun a8 c8 => ?_
  rw [hns, hnl2]
  simp (config := { maxSteps := 4000000 }) only [↓sx0, ↓sx1, ↓sx2, ↓sx3, ↓sx4, ↓sx5, ↓sx6, sx0, sx1, sx2, sx3, sx4, sx5, sx6, tf26, ev3_hold, sxo, sxc, sxp, sxq, sxr, sxs, sxl, sxm, simprocAttr, em2, dn]
  exact ⟨(ps ++ [y], a8, c8), _, ⟨rfl, rfl⟩, HImp.refl _ _, ⟨hB.snoc (by omega) hyl (by rw [hz']; exact hyn) (by rw [show K + 1 - 1 - ps.length = m - 1 by omega]; exact hyr), rfl⟩, by simp only [List.length_append, List.length_singleton]; omega⟩
end Go.Proofs.YtogicfoigeongaaGreatDoor

namespace Go.Proofs.YtogicfoigeongaaGreatDoor
open Go.RowKit Go.SX
set_option maxRecDepth 10000
set_option maxHeartbeats 0
set_option linter.unusedSimpArgs false
set_option linter.unusedVariables false
theorem LegsOk.nil (w : World) : LegsOk w (.slice none 0 0) [] := ⟨[], rfl, Sl.nil _ _, by simp⟩
theorem TrN.old {w : World} {c : Cht} {sD sT sS vl : Value} {bx : Nat} {vn : Value} {H : List HO} (hc : ChOk w (.agg #[I c.wide, I c.high, sD, sT, sS]) c) (hm : HO.cells bx 117 (trfC c sD sT sS vl vn) ∈ H) {w' : World} (hp : Hp ⟨w, fun _ => False⟩ H w') : TrC w' bx c sD sT sS vl vn := ⟨cells_old hm hp, hc.hp hp⟩
theorem ask_fn (w : World) (hw : Ways w) (sD sT sS : Value) (c : Cht) (hc : ChOk w (.agg #[I c.wide, I c.high, sD, sT, sS]) c) (hsm : c.small) (hok : c.ok) (g : Int) (tl : Bool) (A F G : Nat) (hkd : kindB 0 g = true) (hA : A < c.tide.length) (hF : F < c.depth.length) (hG : G < c.depth.length) :
    SX.Fn Tryz.prog 25 [.agg #[I c.wide, I c.high, sD, sT, sS], .slice none 0 0, trv ⟨A, 0, g, tl, F, G⟩] w (fun _ => False) (TrN c sD sT sS (.slice none 0 0)) := by
  have dn : ∀ (g : Nat) (xs : List Value), det0 g xs = none := fun _ _ => rfl
  have hop := fun (H : List HO) w' (hp : Hp ⟨w, fun _ => False⟩ H w') => lopen_fn w' (hw.hp hp) sD sT sS (.slice none 0 0) c (hc.hp hp) hsm hok [] (LegsOk.nil _) (by simp) (by simp)
  have htr := fun (bx : Nat) (vn : Value) (H : List HO) w' (hp : Hp ⟨w, fun _ => False⟩ H w') (hm : HO.cells bx 117 (trfC c sD sT sS (.slice none 0 0) vn) ∈ H) => ltrip_fn w' bx c sD sT sS (.slice none 0 0) vn (TrN.old hc hm hp) hok hsm ⟨A, 0, g, tl, F, G⟩ hkd ⟨by simp only []; omega, by simp only []; omega⟩ ⟨by simp only []; omega, by simp only []; omega⟩ ⟨by simp only []; omega, by simp only []; omega⟩
  unfold trv at htr ⊢
  simp only [] at htr ⊢
  unfold TrN at hop
  refine walk [] [] (det0_ok _ _) Tryz.func25 rfl Tryz.ntmps25 res25 (by kernel_rfl) no_facts ?_
  simp (config := { maxSteps := 4000000 }) only [↓sx0, ↓sx1, ↓sx2, ↓sx3, ↓sx4, ↓sx5, ↓sx6, sx0, sx1, sx2, sx3, sx4, sx5, sx6, tf25, ev3_hold, sxo, sxc, sxp, sxq, sxr, sxs, sxl, sxm, simprocAttr, dn]
  refine CallOb.pureH (fun w' hp => hop _ w' hp) ?_
  rintro q N ⟨bx, vn, rfl, hm, hL⟩
  refine ⟨?_⟩
  simp (config := { maxSteps := 4000000 }) only [↓sx0, ↓sx1, ↓sx2, ↓sx3, ↓sx4, ↓sx5, ↓sx6, sx0, sx1, sx2, sx3, sx4, sx5, sx6, tf25, ev3_hold, sxo, sxc, sxp, sxq, sxr, sxs, sxl, sxm, simprocAttr, dn]
  refine CallOb.pureH (fun w' hp => htr bx vn _ w' hp (by simp [hm])) ?_
  rintro q N2 rfl
  refine ⟨?_⟩
  simp (config := { maxSteps := 4000000 }) only [↓sx0, ↓sx1, ↓sx2, ↓sx3, ↓sx4, ↓sx5, ↓sx6, sx0, sx1, sx2, sx3, sx4, sx5, sx6, tf25, ev3_hold, sxo, sxc, sxp, sxq, sxr, sxs, sxl, sxm, simprocAttr, dn]
  obtain ⟨ps, h1, h2, h3⟩ := hL
  exact ⟨bx, vn, rfl, by simp [hm], ps, h1, by simp [h2], fun p hp => by simp [h3 p hp]⟩
theorem lRoute_fn (w : World) (hw : Ways w) (sD sT sS : Value) (c : Cht) (hc : ChOk w (.agg #[I c.wide, I c.high, sD, sT, sS]) c) (hsm : c.small) (hok : c.ok) (g : Int) (tl : Bool) (A F G : Nat) (hkd : kindB 0 g = true) (hA : A < c.tide.length) (hF : F < c.depth.length) (hG : G < c.depth.length) :
    SX.Fn Tryz.prog 9 [.agg #[I c.wide, I c.high, sD, sT, sS], .slice none 0 0, trv ⟨A, 0, g, tl, F, G⟩] w (fun _ => False) fun v N => ∃ q e, v = .tuple #[q, I e] ∧ ((∃ p, RtP c g A F G p ∧ p ≠ [] ∧ Got q 3 1 i1 (nts p) N ∧ e = 0) ∨ (q = .slice none 0 0 ∧ e = 3 ∧ ∀ i, A + i < c.tide.length → ¬ Rr c g A F i G)) := by
  have dn : ∀ (g : Nat) (xs : List Value), det0 g xs = none := fun _ _ => rfl
  have has := fun (H : List HO) w' (hp : Hp ⟨w, fun _ => False⟩ H w') => ask_fn w' (hw.hp hp) sD sT sS c (hc.hp hp) hsm hok g tl A F G hkd hA hF hG
  have hro := fun (bx : Nat) (vn : Value) (H : List HO) w' (hp : Hp ⟨w, fun _ => False⟩ H w') (hm : HO.cells bx 117 (trfC c sD sT sS (.slice none 0 0) vn) ∈ H) (hL : LLOk i1 1 w' vn (srtNear c)) => lroute_fn w' bx c sD sT sS (.slice none 0 0) vn (TrN.old hc hm hp) _ hL srtNear_ok (Sl.nil _ _) hok hsm g tl A F G hkd hA hF hG
  unfold trv at has hro ⊢
  simp only [] at has hro ⊢
  unfold TrN at has
  unfold RouP at hro
  refine walk [] [] (det0_ok _ _) Tryz.func9 rfl Tryz.ntmps9 res9 (by kernel_rfl) no_facts ?_
  simp (config := { maxSteps := 4000000 }) only [↓sx0, ↓sx1, ↓sx2, ↓sx3, ↓sx4, ↓sx5, ↓sx6, sx0, sx1, sx2, sx3, sx4, sx5, sx6, tf9, ev3_hold, sxo, sxc, sxp, sxq, sxr, sxs, sxl, sxm, simprocAttr, dn]
  refine CallOb.pureH (fun w' hp => has _ w' hp) ?_
  rintro q N ⟨bx, vn, rfl, hm, hL⟩
  refine ⟨?_⟩
  simp (config := { maxSteps := 4000000 }) only [↓sx0, ↓sx1, ↓sx2, ↓sx3, ↓sx4, ↓sx5, ↓sx6, sx0, sx1, sx2, sx3, sx4, sx5, sx6, tf9, ev3_hold, sxo, sxc, sxp, sxq, sxr, sxs, sxl, sxm, simprocAttr, dn]
  refine CallOb.pureH (fun w' hp => hro bx vn _ w' hp (by simp [hm]) (hL.ok (fun h hh => by simp [hh]) hp)) ?_
  rintro q N2 (⟨p, h1, h2, h3, h4⟩ | ⟨rfl, h1⟩)
  · obtain ⟨ad, cp, rfl, h5, h6⟩ := h3
    obtain ⟨a, rfl⟩ : ∃ a, ad = some a := by
      cases ad with
      | none =>
        have := h5 rfl
        unfold nts at this
        rw [List.map_eq_nil_iff] at this
        exact absurd this h2
      | some a => exact ⟨a, rfl⟩
    refine ⟨?_⟩
    simp (config := { maxSteps := 4000000 }) only [↓sx0, ↓sx1, ↓sx2, ↓sx3, ↓sx4, ↓sx5, ↓sx6, sx0, sx1, sx2, sx3, sx4, sx5, sx6, tf9, ev3_hold, sxo, sxc, sxp, sxq, sxr, sxs, sxl, sxm, simprocAttr, dn, Option.isNone_some, reduceCtorEq, false_imp_iff, true_imp_iff]
    exact ⟨_, 0, rfl, .inl ⟨p, h1, h2, ⟨_, _, rfl, h5, h6.imp id fun h => List.mem_append_left _ h⟩, rfl⟩⟩
  · refine ⟨?_⟩
    simp (config := { maxSteps := 4000000 }) only [↓sx0, ↓sx1, ↓sx2, ↓sx3, ↓sx4, ↓sx5, ↓sx6, sx0, sx1, sx2, sx3, sx4, sx5, sx6, tf9, ev3_hold, sxo, sxc, sxp, sxq, sxr, sxs, sxl, sxm, simprocAttr, dn, Option.isNone_none, reduceCtorEq, false_imp_iff, true_imp_iff]
    exact ⟨_, 3, rfl, .inr ⟨rfl, rfl, h1⟩⟩
end Go.Proofs.YtogicfoigeongaaGreatDoor

