/- Parts of a proof: the symbolic walk and what it shows of single functions. -/
import Derived.Test.YtgpglmcbopfddaaW1
set_option linter.all false
namespace Go.Proofs.Ytgpglmcbopfddaa
open Go.RowKit Go.SX
set_option maxRecDepth 10000
set_option maxHeartbeats 0
set_option linter.unusedSimpArgs false
set_option linter.unusedVariables false
def pl42_8 : Plan := (ones [0, 1, 2, 3, 4, 5, 6, 7, 8, 9, 10, 11, 12, 13, 14, 15, 16, 17] .fin)
def pl42_15 : Plan := (ones [0, 1, 2, 3, 4, 5, 6, 7, 8, 9, 10, 11, 12, 13, 14, 15, 16, 17] .fin)
def pl42_17 : Plan := (ones [0, 1, 2, 3, 4, 5, 6, 7, 8, 9, 10, 11, 12, 13, 14, 15, 16, 17, 18, 19, 20, 21, 22, 23, 24, 25, 26, 27, 28] (.mu 29 (ones [30] .fin)))
def pl42 : List (Nat × Plan) := [(8, pl42_8), (15, pl42_15), (17, pl42_17)]
theorem pl42_lk : (lkO 8 pl42 = some pl42_8) ∧ (lkO 15 pl42 = some pl42_15) ∧ (lkO 17 pl42 = some pl42_17) := ⟨rfl, rfl, rfl⟩
theorem fill_fn (s : Stn) (hok : s.okB = true) (seats : List Int) (hs5 : seats.length ≤ 1000) (shifts : List Spn) (hsp : shB (-1) shifts = true) (hs1 : shifts.length ≤ 1000) (bw br : Nat) (hv vt vs vr : Value) (dad : Option Addr) (dc : Nat) (Ad : List (Addr × Nat)) (psh : List Hm) :
    ∀ (f : Nat) (w : World) (Q : List Wq) (bs : List Nat) (rows : List (List Int)) (row : List Int) (hF : FilW w (fpsx (dutO (.slice dad s.hands.length dc) bs :: rowsF Q)) bw br s seats shifts hv vt vs vr (.slice dad s.hands.length dc) Ad psh) (hQ : Q.map Prod.snd = Ad) (hko : ∀ h ∈ dutO (.slice dad s.hands.length dc) bs :: rowsF Q, h.ok w) (hka : (dutO (.slice dad s.hands.length dc) bs :: rowsF Q).Pairwise Apart)
      (hC : Cohr seats shifts rows row Q) (hD : DutW w (fpsx (dutO (.slice dad s.hands.length dc) bs :: rowsF Q)) s shifts rows row bs) (hr1 : row.length ≤ seats.length) (hr2 : rows.length ≤ shifts.length) (hr3 : rows.length = shifts.length → row = []) (hf : mea seats shifts rows row < f),
    SX.Fn Try.prog 42 [.pointer (some ⟨bw, 0, none⟩), I rows.length, I row.length] w (fpsx (dutO (.slice dad s.hands.length dc) bs :: rowsF Q)) (FilP seats shifts (.slice dad s.hands.length dc) Ad rows row bs (wat s seats shifts f rows row)) := by
  intro f
  induction f using Nat.strongRecOn with
  | ind f ih =>
  intro w Q bs rows row hF hQ hko hka hC hD hr1 hr2 hr3 hf
  refine Fn.sub ?_
  obtain ⟨f, rfl⟩ : ∃ g, f = g + 1 := ⟨f - 1, by omega⟩
  have dn : ∀ (g : Nat) (xs : List Value), det0 g xs = none := fun _ _ => rfl
  have hob := okB_of hok
  obtain ⟨X, hX⟩ : ∃ X, fpsx (dutO (.slice dad s.hands.length dc) bs :: rowsF Q) = X := ⟨_, rfl⟩
  have hXA : ∀ (Q' : List Wq) bs', Q'.map Prod.snd = Ad → fpsx (dutO (.slice dad s.hands.length dc) bs' :: rowsF Q') = X := fun Q' bs' h => by
    rw [← hX]
    exact fpsx_eq (h.trans hQ.symm)
  have hXb : ∀ g ∈ dutO (.slice dad s.hands.length dc) bs :: rowsF Q, ∀ b, g.fp b → X b := fun g hg b hb => by
    rw [← hX]
    exact fps_FA b ⟨g, hg, hb⟩
  rw [hX] at hF hD ⊢
  obtain ⟨aT, nT, cT, rfl⟩ := hF.sea.1.shape
  have hnT := hF.sea.1.le i1_len (by omega)
  subst hnT
  obtain ⟨aS, nS, cS, rfl⟩ := hF.shi.1.shape
  have hnS := hF.shi.1.le spc_len (by omega)
  subst hnS
  obtain ⟨aH, nH, cH, rfl⟩ := hF.han.1.shape
  have hlh : psh.length = s.hands.length := by rw [← hF.fst, List.length_map]
  have hnH := hF.han.1.le hdc_len (by omega)
  subst hnH
  obtain ⟨aR, nR, cR, rfl⟩ := hF.row.1.shape
  have hnR := hF.row.1.le (rvc_len _) (by omega)
  subst hnR
  have hrH := hF.han.rdv
  have hrT := hF.sea.rdv
  have hrS := hF.shi.rdv
  have hrR := hF.row.rdv
  have c0 := hF.box 0 _ rfl
  have c1 := hF.box 1 _ rfl
  have c2 := hF.box 2 _ rfl
  have c3 := hF.box 3 _ rfl
  have c4 := hF.box 4 _ rfl
  have d0 := hF.ros 0 _ rfl
  have d1 := hF.ros 1 _ rfl
  have d2 := hF.ros 2 _ rfl
  have nw := hF.nw
  have nr := hF.nr
  by_cases h1 : rows.length = shifts.length
  · have e1 : ((rows.length : Int) = (shifts.length : Int)) = True := eq_true (by omega)
    have hw : wat s seats shifts (f + 1) rows row = some rows := by rw [wat, if_pos h1]
    rw [hw]
    refine walk [] pl42 (det0_ok _ _) Try.func42 rfl Try.ntmps42 res42 (by kernel_rfl) (H0 := dutO (.slice dad s.hands.length dc) bs :: rowsF Q) ⟨hko, hXb, hka⟩ ?_
    simp (config := { maxSteps := 4000000 }) only [↓sx0, ↓sx1, ↓sx2, ↓sx3, ↓sx4, ↓sx5, ↓sx6, sx0, sx1, sx2, sx3, sx4, sx5, sx6, tf42, ev3_hold, sxo, sxc, sxp, sxq, sxr, sxs, sxl, sxm, simprocAttr, dn, ↓Wsc, Wsc]
    refine ld_olda (by simp [add_block]) c2 nw ?_
    simp (config := { maxSteps := 4000000 }) only [↓sx0, ↓sx1, ↓sx2, ↓sx3, ↓sx4, ↓sx5, ↓sx6, sx0, sx1, sx2, sx3, sx4, sx5, sx6, tf42, ev3_hold, sxo, sxc, sxp, sxq, sxr, sxs, sxl, sxm, simprocAttr, e1, dn, ↓Wsc, Wsc]
    exact ⟨_, List.Sublist.refl _, Q, bs, rfl, rfl, hQ, fun h => (by cases h), fun R hR => by cases hR; exact hC.done h1⟩
  have e1 : ((rows.length : Int) = (shifts.length : Int)) = False := eq_false (by omega)
  by_cases h2 : row.length = seats.length
  · have e2 : ((row.length : Int) = (seats.length : Int)) = True := eq_true (by omega)
    have e3 : wr ((rows.length : Int) + 1) = ((rows.length + 1 : Nat) : Int) := (wrap_id (by omega)).trans (by omega)
    have hw : wat s seats shifts (f + 1) rows row = wat s seats shifts f (rows ++ [row]) [] := by rw [wat, if_neg h1, if_pos h2]
    have hmn := mea_next (seats := seats) (shifts := shifts) (rows := rows) h2 (by omega)
    rw [hw]
    refine walk [] pl42 (det0_ok _ _) Try.func42 rfl Try.ntmps42 res42 (by kernel_rfl) (H0 := dutO (.slice dad s.hands.length dc) bs :: rowsF Q) ⟨hko, hXb, hka⟩ ?_
    simp (config := { maxSteps := 4000000 }) only [↓sx0, ↓sx1, ↓sx2, ↓sx3, ↓sx4, ↓sx5, ↓sx6, sx0, sx1, sx2, sx3, sx4, sx5, sx6, tf42, ev3_hold, sxo, sxc, sxp, sxq, sxr, sxs, sxl, sxm, simprocAttr, dn, ↓Wsc, Wsc]
    refine ld_olda (by simp [add_block]) c2 nw ?_
    simp (config := { maxSteps := 4000000 }) only [↓sx0, ↓sx1, ↓sx2, ↓sx3, ↓sx4, ↓sx5, ↓sx6, sx0, sx1, sx2, sx3, sx4, sx5, sx6, tf42, ev3_hold, sxo, sxc, sxp, sxq, sxr, sxs, sxl, sxm, simprocAttr, e1, dn, ↓Wsc, Wsc]
    refine ld_olda (by simp [add_block]) c1 nw ?_
    simp (config := { maxSteps := 4000000 }) only [↓sx0, ↓sx1, ↓sx2, ↓sx3, ↓sx4, ↓sx5, ↓sx6, sx0, sx1, sx2, sx3, sx4, sx5, sx6, tf42, ev3_hold, sxo, sxc, sxp, sxq, sxr, sxs, sxl, sxm, simprocAttr, e2, e3, dn, ↓Wsc, Wsc]
    refine CallOb.mutH (A := dutO (.slice dad s.hands.length dc) bs :: rowsF Q) (B := []) (by rw [List.append_nil]; exact HImp.refl _ _) fps_FA (fun w' hp => ?_) (Post := FilP seats shifts (.slice dad s.hands.length dc) Ad (rows ++ [row]) [] bs (wat s seats shifts f (rows ++ [row]) [])) ?_
    · have hk := hp.ext
      have := ih f (by omega) w' Q bs (rows ++ [row]) [] (by rw [hX]; exact hF.keep hk) hQ (fun h hh => hp.ok h (List.mem_append_left _ hh)) hka (hC.next h2 (by omega)) (by rw [hX]; exact (hD.keep hk).next) (Nat.zero_le _) (by rw [List.length_append, List.length_singleton]; omega) (fun _ => rfl) (by omega)
      rw [List.length_append, List.length_singleton] at this
      exact this
    rintro r N ⟨Q', bs', rfl, rfl, hq, hn, hy⟩
    refine ⟨?_⟩
    simp (config := { maxSteps := 4000000 }) only [↓sx0, ↓sx1, ↓sx2, ↓sx3, ↓sx4, ↓sx5, ↓sx6, sx0, sx1, sx2, sx3, sx4, sx5, sx6, tf42, ev3_hold, sxo, sxc, sxp, sxq, sxr, sxs, sxl, sxm, simprocAttr, dn, ↓Wsc, Wsc]
    exact ⟨_, by first | exact List.Sublist.refl _ | exact List.sublist_append_left _ _, Q', bs', rfl, rfl, hq, fun h => ⟨(hn h).1, (hn h).2.prev⟩, hy⟩
  have e2 : ((row.length : Int) = (seats.length : Int)) = False := eq_false (by omega)
  have e9 : ((row.length : Int) < (seats.length : Int)) = True := eq_true (by omega)
  have hwt : wat s seats shifts (f + 1) rows row = (List.range s.hands.length).findSome? fun h => if fitB s seats shifts rows row h then wat s seats shifts f rows (row ++ [(h : Int)]) else none := by rw [wat, if_neg h1, if_neg h2]
  generalize hG : (fun h : Nat => if fitB s seats shifts rows row h then wat s seats shifts f rows (row ++ [(h : Int)]) else none) = G at hwt
  have hGe : ∀ i : Nat, G i = if fitB s seats shifts rows row i then wat s seats shifts f rows (row ++ [(i : Int)]) else none := fun i => by rw [← hG]
  have hda : 0 < s.hands.length → ∃ da, dad = some da := fun h => by
    have h3 : Sl w (.slice dad s.hands.length dc) 1 (cat pc bs) := RowOk.sl (hko _ List.mem_cons_self)
    exact h3.addr (by rw [cat_len pc_len, hD.len]; omega)
  by_cases h0 : psh.length = 0
  · have e7 : (((0 : Nat) : Int) < (psh.length : Int)) = False := eq_false (by omega)
    have hw : wat s seats shifts (f + 1) rows row = none := by
      rw [hwt, show s.hands.length = 0 by omega]
      rfl
    have e0 : (psh.length : Int) = 0 := by omega
    rw [hw]
    refine walk [] pl42 (det0_ok _ _) Try.func42 rfl Try.ntmps42 res42 (by kernel_rfl) (H0 := dutO (.slice dad s.hands.length dc) bs :: rowsF Q) ⟨hko, hXb, hka⟩ ?_
    simp (config := { maxSteps := 4000000 }) only [↓sx0, ↓sx1, ↓sx2, ↓sx3, ↓sx4, ↓sx5, ↓sx6, sx0, sx1, sx2, sx3, sx4, sx5, sx6, tf42, ev3_hold, sxo, sxc, sxp, sxq, sxr, sxs, sxl, sxm, simprocAttr, dn, ↓Wsc, Wsc]
    refine ld_olda (by simp [add_block]) c2 nw ?_
    simp (config := { maxSteps := 4000000 }) only [↓sx0, ↓sx1, ↓sx2, ↓sx3, ↓sx4, ↓sx5, ↓sx6, sx0, sx1, sx2, sx3, sx4, sx5, sx6, tf42, ev3_hold, sxo, sxc, sxp, sxq, sxr, sxs, sxl, sxm, simprocAttr, e1, dn, ↓Wsc, Wsc]
    refine ld_olda (by simp [add_block]) c1 nw ?_
    simp (config := { maxSteps := 4000000 }) only [↓sx0, ↓sx1, ↓sx2, ↓sx3, ↓sx4, ↓sx5, ↓sx6, sx0, sx1, sx2, sx3, sx4, sx5, sx6, tf42, ev3_hold, sxo, sxc, sxp, sxq, sxr, sxs, sxl, sxm, simprocAttr, e2, dn, ↓Wsc, Wsc]
    refine ld_olda (by simp [add_block]) c0 nw ?_
    simp (config := { maxSteps := 4000000 }) only [↓sx0, ↓sx1, ↓sx2, ↓sx3, ↓sx4, ↓sx5, ↓sx6, sx0, sx1, sx2, sx3, sx4, sx5, sx6, tf42, ev3_hold, sxo, sxc, sxp, sxq, sxr, sxs, sxl, sxm, simprocAttr, dn, ↓Wsc, Wsc]
    refine ld_olda (by simp [add_block]) d0 nr ?_
    simp (config := { maxSteps := 4000000 }) only [↓sx0, ↓sx1, ↓sx2, ↓sx3, ↓sx4, ↓sx5, ↓sx6, sx0, sx1, sx2, sx3, sx4, sx5, sx6, tf42, ev3_hold, sxo, sxc, sxp, sxq, sxr, sxs, sxl, sxm, simprocAttr, e0, dn, ↓Wsc, Wsc]
    refine loop_constH (dutO (.slice dad s.hands.length dc) bs :: rowsF Q) (HImp.refl _ _) [(6, 8), (10, 11), (41, 154)] (fun q : Unit => [(41, I 0)]) (fun q H1 => H1 = dutO (.slice dad s.hands.length dc) bs :: rowsF Q) (fun q => 0) () ?_ rfl ?_
    · simp (config := { maxSteps := 4000000 }) only [↓sx0, ↓sx1, ↓sx2, ↓sx3, ↓sx4, ↓sx5, ↓sx6, sx0, sx1, sx2, sx3, sx4, sx5, sx6, tf42, ev3_hold, sxo, sxc, sxp, sxq, sxr, sxs, sxl, sxm, simprocAttr]
      try simp
    rintro ⟨⟩ H1 gg1 rfl
    have z0 : ((0 : Int) < 0) = False := eq_false (by omega)
    refine ⟨?_⟩
    simp (config := { maxSteps := 4000000 }) only [↓sx0, ↓sx1, ↓sx2, ↓sx3, ↓sx4, ↓sx5, ↓sx6, sx0, sx1, sx2, sx3, sx4, sx5, sx6, tf42, ev3_hold, sxo, sxc, sxp, sxq, sxr, sxs, sxl, sxm, simprocAttr, z0, dn]
    exact ⟨_, List.Sublist.refl _, Q, bs, rfl, rfl, hQ, fun _ => ⟨rfl, hC⟩, fun R hR => by cases hR⟩
  obtain ⟨da, rfl⟩ := hda (by omega)
  have hus : seats[row.length]? = some (seats.getD row.length 0) := getD_at (by omega) 0
  obtain ⟨st, hst⟩ : ∃ st, seats.getD row.length 0 = st := ⟨_, rfl⟩
  rw [hst] at hus
  obtain ⟨a1, ha1⟩ : ∃ a, Ad[rows.length]? = some a := ⟨_, List.getElem?_eq_getElem (by rw [hF.num]; omega)⟩
  have hcap := hF.cap a1 (List.mem_of_getElem? ha1)
  have hsi : shifts[rows.length]? = some (shifts.getD rows.length (0, 0)) := getD_at (by omega) (0, 0)
  obtain ⟨x, hx⟩ : ∃ x, shifts.getD rows.length (0, 0) = x := ⟨_, rfl⟩
  rw [hx] at hsi
  refine walk [] pl42 (det0_ok _ _) Try.func42 rfl Try.ntmps42 res42 (by kernel_rfl) (H0 := dutO (.slice (some da) s.hands.length dc) bs :: rowsF Q) ⟨hko, hXb, hka⟩ ?_
  simp (config := { maxSteps := 4000000 }) only [↓sx0, ↓sx1, ↓sx2, ↓sx3, ↓sx4, ↓sx5, ↓sx6, sx0, sx1, sx2, sx3, sx4, sx5, sx6, tf42, ev3_hold, sxo, sxc, sxp, sxq, sxr, sxs, sxl, sxm, simprocAttr, dn, ↓Wsc, Wsc]
  refine ld_olda (by simp [add_block]) c2 nw ?_
  simp (config := { maxSteps := 4000000 }) only [↓sx0, ↓sx1, ↓sx2, ↓sx3, ↓sx4, ↓sx5, ↓sx6, sx0, sx1, sx2, sx3, sx4, sx5, sx6, tf42, ev3_hold, sxo, sxc, sxp, sxq, sxr, sxs, sxl, sxm, simprocAttr, e1, dn, ↓Wsc, Wsc]
  refine ld_olda (by simp [add_block]) c1 nw ?_
  simp (config := { maxSteps := 4000000 }) only [↓sx0, ↓sx1, ↓sx2, ↓sx3, ↓sx4, ↓sx5, ↓sx6, sx0, sx1, sx2, sx3, sx4, sx5, sx6, tf42, ev3_hold, sxo, sxc, sxp, sxq, sxr, sxs, sxl, sxm, simprocAttr, e2, dn, ↓Wsc, Wsc]
  refine ld_olda (by simp [add_block]) c0 nw ?_
  simp (config := { maxSteps := 4000000 }) only [↓sx0, ↓sx1, ↓sx2, ↓sx3, ↓sx4, ↓sx5, ↓sx6, sx0, sx1, sx2, sx3, sx4, sx5, sx6, tf42, ev3_hold, sxo, sxc, sxp, sxq, sxr, sxs, sxl, sxm, simprocAttr, dn, ↓Wsc, Wsc]
  refine ld_olda (by simp [add_block]) d0 nr ?_
  simp (config := { maxSteps := 4000000 }) only [↓sx0, ↓sx1, ↓sx2, ↓sx3, ↓sx4, ↓sx5, ↓sx6, sx0, sx1, sx2, sx3, sx4, sx5, sx6, tf42, ev3_hold, sxo, sxc, sxp, sxq, sxr, sxs, sxl, sxm, simprocAttr, dn, ↓Wsc, Wsc]
  refine loop_constH (dutO (.slice (some da) s.hands.length dc) bs :: rowsF Q) (HImp.refl _ _) [(6, 8), (10, 11), (41, 154)] (fun q : Nat × List Wq => [(41, I q.1)]) (fun q H1 => q.1 ≤ psh.length ∧ H1 = dutO (.slice (some da) s.hands.length dc) bs :: rowsF q.2 ∧ q.2.map Prod.snd = Ad ∧ Cohr seats shifts rows row q.2 ∧ wat s seats shifts (f + 1) rows row = ((List.range s.hands.length).drop q.1).findSome? G) (fun q => psh.length - q.1) (0, Q) ?_ ⟨Nat.zero_le _, rfl, hQ, hC, hwt⟩ ?_
  · simp (config := { maxSteps := 4000000 }) only [↓sx0, ↓sx1, ↓sx2, ↓sx3, ↓sx4, ↓sx5, ↓sx6, sx0, sx1, sx2, sx3, sx4, sx5, sx6, tf42, ev3_hold, sxo, sxc, sxp, sxq, sxr, sxs, sxl, sxm, simprocAttr]
    try simp
  rintro ⟨i, Q1⟩ H1 gg1 hinv0
  simp only [] at hinv0
  obtain ⟨hi, rfl, hQ1, hC1, hinv⟩ := hinv0
  by_cases hin : i = psh.length
  · have e7 : ((i : Int) < (psh.length : Int)) = False := eq_false (by omega)
    rw [List.drop_of_length_le (by rw [List.length_range]; omega)] at hinv
    rw [hinv]
    refine ⟨?_⟩
    simp (config := { maxSteps := 4000000 }) only [↓sx0, ↓sx1, ↓sx2, ↓sx3, ↓sx4, ↓sx5, ↓sx6, sx0, sx1, sx2, sx3, sx4, sx5, sx6, tf42, ev3_hold, sxo, sxc, sxp, sxq, sxr, sxs, sxl, sxm, simprocAttr, e7]
    exact ⟨_, List.Sublist.refl _, Q1, bs, rfl, rfl, hQ1, fun _ => ⟨rfl, hC1⟩, fun R hR => by cases hR⟩
  have e7 : ((i : Int) < (psh.length : Int)) = True := eq_true (by omega)
  have e8 : wr (i + 1) = ((i + 1 : Nat) : Int) := (wrap_id (by omega)).trans (by omega)
  have hil : i < psh.length := by omega
  have hu := List.getElem?_eq_getElem hil
  have hhk : s.hands[i]? = some (psh[i]).1 := by rw [← hF.fst, List.getElem?_map, hu]; rfl
  generalize psh[i] = p at hu hhk
  have hl1 : (lgv p).oneCell' = true := rfl
  have hri : (List.range s.hands.length)[i]? = some i := List.getElem?_range (by omega)
  have hgi := hGe i
  have hfi : fitB s seats shifts rows row i = (!decide ((i : Int) ∈ row) && hasB p.1.skills st && srvB s p.1 (hisN shifts (rows ++ [row ++ [(i : Int)]]) i (rows.length + 1))) := by
    unfold fitB
    rw [hhk, hst]
  rw [hfi] at hgi
  by_cases hb : bitS .and .i64 p.1.skills st = st
  case neg =>
    have qb : (bitS .and .i64 p.1.skills st = st) = False := eq_false hb
    have hgn : G i = none := by rw [hgi]; unfold hasB; simp [hb]
    rw [findSome_drop hri hgn] at hinv
    refine ⟨?_⟩
    simp (config := { maxSteps := 4000000 }) only [↓sx0, ↓sx1, ↓sx2, ↓sx3, ↓sx4, ↓sx5, ↓sx6, sx0, sx1, sx2, sx3, sx4, sx5, sx6, tf42, ev3_hold, sxo, sxc, sxp, sxq, sxr, sxs, sxl, sxm, simprocAttr, e7, dn]
    refine amid (at_n (hrH _) hdc_len (by omega) hu fun ad => ?_)
    unfold hdc
    simp (config := { maxSteps := 4000000 }) only [↓sx0, ↓sx1, ↓sx2, ↓sx3, ↓sx4, ↓sx5, ↓sx6, sx0, sx1, sx2, sx3, sx4, sx5, sx6, tf42, ev3_hold, sxo, sxc, sxp, sxq, sxr, sxs, sxl, sxm, simprocAttr, hl1, dn, pl42_lk, pl42_8]
    refine ld_olda (by simp [add_block]) c1 nw ?_
    simp (config := { maxSteps := 4000000 }) only [↓sx0, ↓sx1, ↓sx2, ↓sx3, ↓sx4, ↓sx5, ↓sx6, sx0, sx1, sx2, sx3, sx4, sx5, sx6, tf42, ev3_hold, sxo, sxc, sxp, sxq, sxr, sxs, sxl, sxm, simprocAttr, e9, dn]
    first | refine amid (at_1 (hrT _) i1_len hus rfl fun ad1 => ?_) | refine at_1 (hrT _) i1_len hus rfl fun ad1 => ?_
    simp (config := { maxSteps := 4000000 }) only [↓sx0, ↓sx1, ↓sx2, ↓sx3, ↓sx4, ↓sx5, ↓sx6, sx0, sx1, sx2, sx3, sx4, sx5, sx6, tf42, ev3_hold, sxo, sxc, sxp, sxq, sxr, sxs, sxl, sxm, simprocAttr, e9, dn]
    refine ld_olda (by simp [add_block]) c1 nw ?_
    simp (config := { maxSteps := 4000000 }) only [↓sx0, ↓sx1, ↓sx2, ↓sx3, ↓sx4, ↓sx5, ↓sx6, sx0, sx1, sx2, sx3, sx4, sx5, sx6, tf42, ev3_hold, sxo, sxc, sxp, sxq, sxr, sxs, sxl, sxm, simprocAttr, e9, dn]
    first | refine amid (at_1 (hrT _) i1_len hus rfl fun ad1 => ?_) | refine at_1 (hrT _) i1_len hus rfl fun ad1 => ?_
    simp (config := { maxSteps := 4000000 }) only [↓sx0, ↓sx1, ↓sx2, ↓sx3, ↓sx4, ↓sx5, ↓sx6, sx0, sx1, sx2, sx3, sx4, sx5, sx6, tf42, ev3_hold, sxo, sxc, sxp, sxq, sxr, sxs, sxl, sxm, simprocAttr, qb, e8, dn]
    exact ⟨(i + 1, Q1), _, rfl, HImp.refl _ _, ⟨by simp only []; omega, rfl, hQ1, hC1, hinv⟩, by simp only []; omega⟩
  have qb : (bitS .and .i64 p.1.skills st = st) = True := eq_true hb
  have zc : (a1.2 = 0) = False := eq_false (by omega)
  refine ⟨?_⟩
  simp (config := { maxSteps := 4000000 }) only [↓sx0, ↓sx1, ↓sx2, ↓sx3, ↓sx4, ↓sx5, ↓sx6, sx0, sx1, sx2, sx3, sx4, sx5, sx6, tf42, ev3_hold, sxo, sxc, sxp, sxq, sxr, sxs, sxl, sxm, simprocAttr, e7, dn]
  refine amid (at_n (hrH _) hdc_len (by omega) hu fun ad => ?_)
  unfold hdc
  simp (config := { maxSteps := 4000000 }) only [↓sx0, ↓sx1, ↓sx2, ↓sx3, ↓sx4, ↓sx5, ↓sx6, sx0, sx1, sx2, sx3, sx4, sx5, sx6, tf42, ev3_hold, sxo, sxc, sxp, sxq, sxr, sxs, sxl, sxm, simprocAttr, hl1, dn, pl42_lk, pl42_8]
  refine ld_olda (by simp [add_block]) c1 nw ?_
  simp (config := { maxSteps := 4000000 }) only [↓sx0, ↓sx1, ↓sx2, ↓sx3, ↓sx4, ↓sx5, ↓sx6, sx0, sx1, sx2, sx3, sx4, sx5, sx6, tf42, ev3_hold, sxo, sxc, sxp, sxq, sxr, sxs, sxl, sxm, simprocAttr, e9, dn]
  first | refine amid (at_1 (hrT _) i1_len hus rfl fun ad1 => ?_) | refine at_1 (hrT _) i1_len hus rfl fun ad1 => ?_
  simp (config := { maxSteps := 4000000 }) only [↓sx0, ↓sx1, ↓sx2, ↓sx3, ↓sx4, ↓sx5, ↓sx6, sx0, sx1, sx2, sx3, sx4, sx5, sx6, tf42, ev3_hold, sxo, sxc, sxp, sxq, sxr, sxs, sxl, sxm, simprocAttr, e9, dn]
  refine ld_olda (by simp [add_block]) c1 nw ?_
  simp (config := { maxSteps := 4000000 }) only [↓sx0, ↓sx1, ↓sx2, ↓sx3, ↓sx4, ↓sx5, ↓sx6, sx0, sx1, sx2, sx3, sx4, sx5, sx6, tf42, ev3_hold, sxo, sxc, sxp, sxq, sxr, sxs, sxl, sxm, simprocAttr, e9, dn]
  first | refine amid (at_1 (hrT _) i1_len hus rfl fun ad1 => ?_) | refine at_1 (hrT _) i1_len hus rfl fun ad1 => ?_
  simp (config := { maxSteps := 4000000 }) only [↓sx0, ↓sx1, ↓sx2, ↓sx3, ↓sx4, ↓sx5, ↓sx6, sx0, sx1, sx2, sx3, sx4, sx5, sx6, tf42, ev3_hold, sxo, sxc, sxp, sxq, sxr, sxs, sxl, sxm, simprocAttr, qb, dn]
  refine ld_olda (by simp [add_block]) c3 nw ?_
  simp (config := { maxSteps := 4000000 }) only [↓sx0, ↓sx1, ↓sx2, ↓sx3, ↓sx4, ↓sx5, ↓sx6, sx0, sx1, sx2, sx3, sx4, sx5, sx6, tf42, ev3_hold, sxo, sxc, sxp, sxq, sxr, sxs, sxl, sxm, simprocAttr, dn]
  first | refine amid (at_1 (hrR _) (rvc_len _) ha1 rfl fun ad2 => ?_) | refine at_1 (hrR _) (rvc_len _) ha1 rfl fun ad2 => ?_
  simp (config := { maxSteps := 4000000 }) only [↓sx0, ↓sx1, ↓sx2, ↓sx3, ↓sx4, ↓sx5, ↓sx6, sx0, sx1, sx2, sx3, sx4, sx5, sx6, tf42, ev3_hold, sxo, sxc, sxp, sxq, sxr, sxs, sxl, sxm, simprocAttr, zc, Nat.sub_zero, dn]
  refine ⟨by omega, by omega, ?_⟩
  have hq1 : ∃ l1, Q1[rows.length]? = some (l1, a1) := by
    have h3 : (Q1.map Prod.snd)[rows.length]? = some a1 := by rw [hQ1]; exact ha1
    rw [List.getElem?_map] at h3
    cases h4 : Q1[rows.length]? with
    | none => rw [h4] at h3; cases h3
    | some q => rw [h4] at h3; simp only [Option.map_some, Option.some.injEq] at h3; exact ⟨q.1, by rw [← h3]⟩
  obtain ⟨l1, hq1⟩ := hq1
  have hl1w : l1.length = seats.length := hC1.wid _ (List.mem_of_getElem? hq1)
  have hl1c : l1.take row.length = row := hC1.cur _ hq1
  have hrm : rowO (l1, a1) ∈ rowsF Q1 := List.mem_map_of_mem (List.mem_of_getElem? hq1)
  have hrk : ∀ (k : Nat) (y : Int), row[k]? = some y → (cat i1 l1)[k]? = some (I y) := fun k y hy => by
    have h3 : l1[k]? = some y := by
      have hk := (List.getElem?_eq_some_iff.1 hy).1
      rw [← hl1c, List.getElem?_take_of_lt hk] at hy
      exact hy
    have h4 := cat_get (f := i1) i1_len h3 (j := 0) (by omega)
    rw [Nat.mul_one, Nat.add_zero] at h4
    exact h4.trans rfl
  refine loop_constH (dutO (.slice (some da) s.hands.length dc) bs :: rowsF Q1) (HImp.refl _ _) [(10, 10), (74, 81)] (fun k : Nat => [(74, I k)]) (fun k H1 => k ≤ row.length ∧ H1 = dutO (.slice (some da) s.hands.length dc) bs :: rowsF Q1 ∧ (i : Int) ∉ row.take k) (fun k => row.length - k) 0 ?_ ⟨Nat.zero_le _, rfl, by simp⟩ ?_
  · simp (config := { maxSteps := 4000000 }) only [↓sx0, ↓sx1, ↓sx2, ↓sx3, ↓sx4, ↓sx5, ↓sx6, sx0, sx1, sx2, sx3, sx4, sx5, sx6, tf42, ev3_hold, sxo, sxc, sxp, sxq, sxr, sxs, sxl, sxm, simprocAttr]
    try simp
  rintro k H1 gg2 ⟨hk, rfl, hnk⟩
  by_cases hkn : k = row.length
  case neg =>
    have f7 : ((k : Int) < (row.length : Int)) = True := eq_true (by omega)
    have f8 : wr (k + 1) = ((k + 1 : Nat) : Int) := (wrap_id (by omega)).trans (by omega)
    obtain ⟨y, hy⟩ : ∃ y, row[k]? = some y := ⟨_, List.getElem?_eq_getElem (by omega)⟩
    have hyk := hrk k y hy
    by_cases hyi : y = (i : Int)
    · have z1 : (y = (i : Int)) = True := eq_true hyi
      have hgn : G i = none := by rw [hgi]; simp [show (i : Int) ∈ row by rw [← hyi]; exact List.mem_of_getElem? hy]
      rw [findSome_drop hri hgn] at hinv
      refine ⟨?_⟩
      simp (config := { maxSteps := 4000000 }) only [↓sx0, ↓sx1, ↓sx2, ↓sx3, ↓sx4, ↓sx5, ↓sx6, sx0, sx1, sx2, sx3, sx4, sx5, sx6, tf42, ev3_hold, sxo, sxc, sxp, sxq, sxr, sxs, sxl, sxm, simprocAttr, f7, zc, Nat.sub_zero, dn]
      refine ⟨by omega, _, rfl, ld_rowc (List.mem_cons_of_mem _ hrm) hyk (by rw [add_add, Nat.zero_add, Nat.mul_one]) ?_⟩
      simp (config := { maxSteps := 4000000 }) only [↓sx0, ↓sx1, ↓sx2, ↓sx3, ↓sx4, ↓sx5, ↓sx6, sx0, sx1, sx2, sx3, sx4, sx5, sx6, tf42, ev3_hold, sxo, sxc, sxp, sxq, sxr, sxs, sxl, sxm, simprocAttr, z1, e8, dn]
      exact ⟨(i + 1, Q1), _, rfl, HImp.refl _ _, ⟨by simp only []; omega, rfl, hQ1, hC1, hinv⟩, by simp only []; omega⟩
    · have z1 : (y = (i : Int)) = False := eq_false hyi
      refine ⟨?_⟩
      simp (config := { maxSteps := 4000000 }) only [↓sx0, ↓sx1, ↓sx2, ↓sx3, ↓sx4, ↓sx5, ↓sx6, sx0, sx1, sx2, sx3, sx4, sx5, sx6, tf42, ev3_hold, sxo, sxc, sxp, sxq, sxr, sxs, sxl, sxm, simprocAttr, f7, zc, Nat.sub_zero, dn]
      refine ⟨by omega, _, rfl, ld_rowc (List.mem_cons_of_mem _ hrm) hyk (by rw [add_add, Nat.zero_add, Nat.mul_one]) ?_⟩
      simp (config := { maxSteps := 4000000 }) only [↓sx0, ↓sx1, ↓sx2, ↓sx3, ↓sx4, ↓sx5, ↓sx6, sx0, sx1, sx2, sx3, sx4, sx5, sx6, tf42, ev3_hold, sxo, sxc, sxp, sxq, sxr, sxs, sxl, sxm, simprocAttr, z1, f8, dn]
      exact ⟨k + 1, _, by first | exact ⟨rfl, rfl⟩ | rfl, HImp.refl _ _, ⟨by omega, rfl, by
        rw [List.take_succ, hy, List.mem_append]
        rintro (h | h)
        · exact hnk h
        · simp only [Option.toList_some, List.mem_singleton] at h
          exact hyi h.symm⟩, by omega⟩
  subst hkn
  rw [List.take_length] at hnk
  have f7 : ((row.length : Int) < (row.length : Int)) = False := eq_false (by omega)
  obtain ⟨b, hb1⟩ : ∃ b, bs[i]? = some b := ⟨_, List.getElem?_eq_getElem (by rw [hD.len]; omega)⟩
  obtain ⟨hbX, hbd⟩ := hD.ok i b p.1 hb1 hhk
  have hrD : ∀ (bs' : List Nat) (H : List HO), bs'.length = s.hands.length → dutO (.slice (some da) s.hands.length dc) bs' ∈ H → Rdv ⟨w, X⟩ H (.slice (some da) s.hands.length dc) 1 (cat pc bs') := fun bs' H h4 h5 => row_rdv (E := 90) h5 ⟨_, _, _, rfl, by rw [cat_len pc_len, h4], fun h => by cases h⟩
  have hxb := shB_mem hsp x (List.mem_of_getElem? hsi)
  have hisp : hisR shifts rows row i ++ [x] = hisR shifts rows (row ++ [(i : Int)]) i := by rw [hisR_put hnk, hx]
  have eN : ((i : Int) < (s.hands.length : Int)) = True := eq_true (by omega)
  refine ⟨?_⟩
  simp (config := { maxSteps := 4000000 }) only [↓sx0, ↓sx1, ↓sx2, ↓sx3, ↓sx4, ↓sx5, ↓sx6, sx0, sx1, sx2, sx3, sx4, sx5, sx6, tf42, ev3_hold, sxo, sxc, sxp, sxq, sxr, sxs, sxl, sxm, simprocAttr, f7, dn]
  refine ld_olda (by simp [add_block]) c4 nw ?_
  simp (config := { maxSteps := 4000000 }) only [↓sx0, ↓sx1, ↓sx2, ↓sx3, ↓sx4, ↓sx5, ↓sx6, sx0, sx1, sx2, sx3, sx4, sx5, sx6, tf42, ev3_hold, sxo, sxc, sxp, sxq, sxr, sxs, sxl, sxm, simprocAttr, eN, dn]
  first | refine amid (at_1 (hrD bs _ hD.len List.mem_cons_self) pc_len hb1 rfl fun ad3 => ?_) | refine at_1 (hrD bs _ hD.len List.mem_cons_self) pc_len hb1 rfl fun ad3 => ?_
  simp (config := { maxSteps := 4000000 }) only [↓sx0, ↓sx1, ↓sx2, ↓sx3, ↓sx4, ↓sx5, ↓sx6, sx0, sx1, sx2, sx3, sx4, sx5, sx6, tf42, ev3_hold, sxo, sxc, sxp, sxq, sxr, sxs, sxl, sxm, simprocAttr, eN, dn, pl42_lk, pl42_15]
  refine ld_olda (by simp [add_block]) c4 nw ?_
  simp (config := { maxSteps := 4000000 }) only [↓sx0, ↓sx1, ↓sx2, ↓sx3, ↓sx4, ↓sx5, ↓sx6, sx0, sx1, sx2, sx3, sx4, sx5, sx6, tf42, ev3_hold, sxo, sxc, sxp, sxq, sxr, sxs, sxl, sxm, simprocAttr, eN, dn]
  refine ld_oldn (b := b) (o := 0) rfl (fun i v hi => by rw [Nat.zero_add]; exact hbd i v hi) (dcs_len _ _) hbX ?_
  simp (config := { maxSteps := 4000000 }) only [↓sx0, ↓sx1, ↓sx2, ↓sx3, ↓sx4, ↓sx5, ↓sx6, sx0, sx1, sx2, sx3, sx4, sx5, sx6, tf42, ev3_hold, sxo, sxc, sxp, sxq, sxr, sxs, sxl, sxm, simprocAttr, eN, dn]
  refine ld_olda (by simp [add_block]) c2 nw ?_
  simp (config := { maxSteps := 4000000 }) only [↓sx0, ↓sx1, ↓sx2, ↓sx3, ↓sx4, ↓sx5, ↓sx6, sx0, sx1, sx2, sx3, sx4, sx5, sx6, tf42, ev3_hold, sxo, sxc, sxp, sxq, sxr, sxs, sxl, sxm, simprocAttr, eN, dn]
  first | refine amid (at_n (hrS _) spc_len (by omega) hsi fun ad4 => ?_) | refine at_n (hrS _) spc_len (by omega) hsi fun ad4 => ?_
  unfold spc
  simp (config := { maxSteps := 4000000 }) only [↓sx0, ↓sx1, ↓sx2, ↓sx3, ↓sx4, ↓sx5, ↓sx6, sx0, sx1, sx2, sx3, sx4, sx5, sx6, tf42, ev3_hold, sxo, sxc, sxp, sxq, sxr, sxs, sxl, sxm, simprocAttr, eN, dn]
  refine CallOb.pureH (fun w' hp => add_fn w' (dutP p.1.log (hisR shifts rows row i)) (srv (hisR shifts rows row i)) x.1 x.2 (by omega) (by omega) (by omega)) ?_
  rintro r N ⟨b2, rfl, hb2⟩
  rw [dut_add1, dut_add2, hisp] at hb2
  refine ⟨?_⟩
  simp (config := { maxSteps := 4000000 }) only [↓sx0, ↓sx1, ↓sx2, ↓sx3, ↓sx4, ↓sx5, ↓sx6, sx0, sx1, sx2, sx3, sx4, sx5, sx6, tf42, ev3_hold, sxo, sxc, sxp, sxq, sxr, sxs, sxl, sxm, simprocAttr, eN, dn]
  refine ⟨by omega, _, rfl, wr_dut (A := N) rfl hD.len (by omega) ?_⟩
  simp (config := { maxSteps := 4000000 }) only [↓sx0, ↓sx1, ↓sx2, ↓sx3, ↓sx4, ↓sx5, ↓sx6, sx0, sx1, sx2, sx3, sx4, sx5, sx6, tf42, ev3_hold, sxo, sxc, sxp, sxq, sxr, sxs, sxl, sxm, simprocAttr, eN, dn]
  refine ld_olda (by simp [add_block]) c3 nw ?_
  simp (config := { maxSteps := 4000000 }) only [↓sx0, ↓sx1, ↓sx2, ↓sx3, ↓sx4, ↓sx5, ↓sx6, sx0, sx1, sx2, sx3, sx4, sx5, sx6, tf42, ev3_hold, sxo, sxc, sxp, sxq, sxr, sxs, sxl, sxm, simprocAttr, dn]
  first | refine amid (at_1 (hrR _) (rvc_len _) ha1 rfl fun ad5 => ?_) | refine at_1 (hrR _) (rvc_len _) ha1 rfl fun ad5 => ?_
  simp (config := { maxSteps := 4000000 }) only [↓sx0, ↓sx1, ↓sx2, ↓sx3, ↓sx4, ↓sx5, ↓sx6, sx0, sx1, sx2, sx3, sx4, sx5, sx6, tf42, ev3_hold, sxo, sxc, sxp, sxq, sxr, sxs, sxl, sxm, simprocAttr, e9, dn]
  refine ⟨by omega, _, rfl, wr_rowsA (A := N) (q := (l1, a1)) rfl hq1 (by simp only []; omega) ?_⟩
  obtain ⟨Q2, hQ2⟩ : ∃ Q2, Q1.set rows.length (l1.set row.length (i : Int), a1) = Q2 := ⟨_, rfl⟩
  have hC2 := hC1.put (x := (i : Int)) hq1 (by omega)
  simp only [] at hC2
  simp only [] at hQ2 ⊢
  rw [hQ2] at hC2 ⊢
  have hQ2s : Q2.map Prod.snd = Ad := by
    rw [← hQ2, List.map_set, hQ1]
    exact set_getE_self ha1
  obtain ⟨bs2, hbs2⟩ : ∃ bs2, bs.set i b2 = bs2 := ⟨_, rfl⟩
  have hb2i : bs2[i]? = some b2 := by rw [← hbs2]; exact List.getElem?_set_self (by rw [hD.len]; omega)
  have hb2l : bs2.length = s.hands.length := by rw [← hbs2, List.length_set]; exact hD.len
  have hb2b : bs2.set i b = bs := by rw [← hbs2, List.set_set]; exact set_getE_self hb1
  rw [hbs2]
  have hall : ∀ (H : List HO) w', Hp ⟨w, X⟩ H w' → HO.cells b2 124 (dcs (dutP p.1.log (hisR shifts rows (row ++ [(i : Int)]) i)) (srv (hisR shifts rows (row ++ [(i : Int)]) i))) ∈ H → SX.Fn Try.prog 61 [.pointer (some ⟨b2, 0, none⟩), I s.window, I s.duty] w' (fun _ => False) fun r N => r = .bool (srvB s p.1 (hisR shifts rows (row ++ [(i : Int)]) i)) := fun H w' hp hm => by
    have h3 := allowed_fn w' b2 _ _ (DutyOk.of hm hp) s.window.toNat s.duty (by omega)
    rw [show ((s.window.toNat : Nat) : Int) = s.window by omega] at h3
    refine h3.mono fun r N hr => ?_
    rw [hr]
    unfold srvB
    congr 1
    rw [decide_eq_decide]
    exact alw_serv hob.2.1 (handB_of (hob.2.2.2 _ (List.mem_of_getElem? hhk))).2.2.2.2.1 (hisN_new (by omega) hsp)
  have hmp := mea_push (seats := seats) (shifts := shifts) (rows := rows) (row := row) (x := (i : Int)) (by omega)
  have hfl : ∀ (B : List HO) w', Hp ⟨w, X⟩ (dutO (.slice (some da) s.hands.length dc) bs2 :: rowsF Q2 ++ B) w' → HO.cells b2 124 (dcs (dutP p.1.log (hisR shifts rows (row ++ [(i : Int)]) i)) (srv (hisR shifts rows (row ++ [(i : Int)]) i))) ∈ B → SX.Fn Try.prog 42 [.pointer (some ⟨bw, 0, none⟩), I rows.length, I ((row.length + 1 : Nat) : Int)] w' (fpsx (dutO (.slice (some da) s.hands.length dc) bs2 :: rowsF Q2)) (FilP seats shifts (.slice (some da) s.hands.length dc) Ad rows (row ++ [(i : Int)]) bs2 (wat s seats shifts f rows (row ++ [(i : Int)]))) := fun B w' hp hm => by
    have hk := hp.ext
    have hx2 := hXA Q2 bs2 hQ2s
    have hnx := not_fpsx hp hm (b := b2) rfl
    have h3 := ih f (by omega) w' Q2 bs2 rows (row ++ [(i : Int)]) (by rw [hx2]; exact hF.keep hk) hQ2s (fun h hh => hp.ok h (List.mem_append_left _ hh)) (List.pairwise_append.1 hp.nd).1 hC2 (by
      rw [hx2] at hnx ⊢
      rw [← hbs2]
      exact (hD.keep hk).put hhk hnx (DutyOk.of (List.mem_append_right _ hm) hp)) (by rw [List.length_append, List.length_singleton]; omega) hr2 (fun h => absurd h h1) (by omega)
    rw [List.length_append, List.length_singleton] at h3
    exact h3
  have hgi2 : G i = if srvB s p.1 (hisR shifts rows (row ++ [(i : Int)]) i) then wat s seats shifts f rows (row ++ [(i : Int)]) else none := by
    rw [hgi]
    unfold hasB hisR
    simp [hnk, hb]
  obtain ⟨SB, hSB⟩ : ∃ SB, srvB s p.1 (hisR shifts rows (row ++ [(i : Int)]) i) = SB := ⟨_, rfl⟩
  rw [hSB] at hgi2
  simp only [hSB] at hall
  have eP : wr ((row.length : Int) + 1) = ((row.length + 1 : Nat) : Int) := (wrap_id (by omega)).trans (by omega)
  have hmD : dutO (.slice (some da) s.hands.length dc) bs2 ∈ N ++ dutO (.slice (some da) s.hands.length dc) bs2 :: rowsF Q2 := by simp
  have hmC : HO.cells b2 124 (dcs (dutP p.1.log (hisR shifts rows (row ++ [(i : Int)]) i)) (srv (hisR shifts rows (row ++ [(i : Int)]) i))) ∈ N ++ dutO (.slice (some da) s.hands.length dc) bs2 :: rowsF Q2 := List.mem_append_left _ hb2
  simp (config := { maxSteps := 4000000 }) only [↓sx0, ↓sx1, ↓sx2, ↓sx3, ↓sx4, ↓sx5, ↓sx6, sx0, sx1, sx2, sx3, sx4, sx5, sx6, tf42, ev3_hold, sxo, sxc, sxp, sxq, sxr, sxs, sxl, sxm, simprocAttr, eN, dn, pl42_lk, pl42_17]
  refine ld_olda (by simp [add_block]) c4 nw ?_
  simp (config := { maxSteps := 4000000 }) only [↓sx0, ↓sx1, ↓sx2, ↓sx3, ↓sx4, ↓sx5, ↓sx6, sx0, sx1, sx2, sx3, sx4, sx5, sx6, tf42, ev3_hold, sxo, sxc, sxp, sxq, sxr, sxs, sxl, sxm, simprocAttr, eN, dn]
  first | refine amid (at_1 (hrD bs2 _ hb2l hmD) pc_len hb2i rfl fun ad6 => ?_) | refine at_1 (hrD bs2 _ hb2l hmD) pc_len hb2i rfl fun ad6 => ?_
  simp (config := { maxSteps := 4000000 }) only [↓sx0, ↓sx1, ↓sx2, ↓sx3, ↓sx4, ↓sx5, ↓sx6, sx0, sx1, sx2, sx3, sx4, sx5, sx6, tf42, ev3_hold, sxo, sxc, sxp, sxq, sxr, sxs, sxl, sxm, simprocAttr, eN, dn]
  refine ld_olda (by simp [add_block]) c0 nw ?_
  simp (config := { maxSteps := 4000000 }) only [↓sx0, ↓sx1, ↓sx2, ↓sx3, ↓sx4, ↓sx5, ↓sx6, sx0, sx1, sx2, sx3, sx4, sx5, sx6, tf42, ev3_hold, sxo, sxc, sxp, sxq, sxr, sxs, sxl, sxm, simprocAttr, dn]
  refine ld_olda (by simp [add_block]) d1 nr ?_
  simp (config := { maxSteps := 4000000 }) only [↓sx0, ↓sx1, ↓sx2, ↓sx3, ↓sx4, ↓sx5, ↓sx6, sx0, sx1, sx2, sx3, sx4, sx5, sx6, tf42, ev3_hold, sxo, sxc, sxp, sxq, sxr, sxs, sxl, sxm, simprocAttr, dn]
  refine ld_olda (by simp [add_block]) c0 nw ?_
  simp (config := { maxSteps := 4000000 }) only [↓sx0, ↓sx1, ↓sx2, ↓sx3, ↓sx4, ↓sx5, ↓sx6, sx0, sx1, sx2, sx3, sx4, sx5, sx6, tf42, ev3_hold, sxo, sxc, sxp, sxq, sxr, sxs, sxl, sxm, simprocAttr, dn]
  refine ld_olda (by simp [add_block]) d2 nr ?_
  simp (config := { maxSteps := 4000000 }) only [↓sx0, ↓sx1, ↓sx2, ↓sx3, ↓sx4, ↓sx5, ↓sx6, sx0, sx1, sx2, sx3, sx4, sx5, sx6, tf42, ev3_hold, sxo, sxc, sxp, sxq, sxr, sxs, sxl, sxm, simprocAttr, dn]
  refine CallOb.pureH (fun w' hp => hall _ w' hp hmC) ?_
  rintro r5 N5 rfl
  cases SB with
  | false =>
    have hgn : G i = none := by rw [hgi2]; rfl
    rw [findSome_drop hri hgn] at hinv
    refine ⟨?_⟩
    simp (config := { maxSteps := 4000000 }) only [↓sx0, ↓sx1, ↓sx2, ↓sx3, ↓sx4, ↓sx5, ↓sx6, sx0, sx1, sx2, sx3, sx4, sx5, sx6, tf42, ev3_hold, sxo, sxc, sxp, sxq, sxr, sxs, sxl, sxm, simprocAttr, eN, dn]
    refine ld_olda (by simp [add_block]) c4 nw ?_
    simp (config := { maxSteps := 4000000 }) only [↓sx0, ↓sx1, ↓sx2, ↓sx3, ↓sx4, ↓sx5, ↓sx6, sx0, sx1, sx2, sx3, sx4, sx5, sx6, tf42, ev3_hold, sxo, sxc, sxp, sxq, sxr, sxs, sxl, sxm, simprocAttr, eN, dn]
    refine ⟨by omega, _, rfl, wr_dut (A := N5 ++ N) (by rw [List.append_assoc]) hb2l (by omega) ?_⟩
    rw [hb2b]
    simp (config := { maxSteps := 4000000 }) only [↓sx0, ↓sx1, ↓sx2, ↓sx3, ↓sx4, ↓sx5, ↓sx6, sx0, sx1, sx2, sx3, sx4, sx5, sx6, tf42, ev3_hold, sxo, sxc, sxp, sxq, sxr, sxs, sxl, sxm, simprocAttr, e8, dn]
    exact ⟨(i + 1, Q2), _, rfl, HImp.app _ _ _, ⟨by simp only []; omega, rfl, hQ2s, hC2.back, hinv⟩, by simp only []; omega⟩
  | true =>
  have hgi3 : G i = wat s seats shifts f rows (row ++ [(i : Int)]) := by rw [hgi2]; rfl
  refine ⟨?_⟩
  simp (config := { maxSteps := 4000000 }) only [↓sx0, ↓sx1, ↓sx2, ↓sx3, ↓sx4, ↓sx5, ↓sx6, sx0, sx1, sx2, sx3, sx4, sx5, sx6, tf42, ev3_hold, sxo, sxc, sxp, sxq, sxr, sxs, sxl, sxm, simprocAttr, eN, eP, dn]
  refine CallOb.mutH (A := dutO (.slice (some da) s.hands.length dc) bs2 :: rowsF Q2) (B := N5 ++ N) (HImp.perm (by rw [← List.append_assoc]; exact List.perm_append_comm)) fps_FA (fun w' hp => hfl _ w' hp (List.mem_append_right _ hb2)) ?_
  rintro r N6 ⟨Q', bs', rfl, rfl, hq, hn, hy⟩
  obtain ⟨R, hR⟩ : ∃ R, wat s seats shifts f rows (row ++ [(i : Int)]) = R := ⟨_, rfl⟩
  rw [hR] at hgi3
  simp only [hR] at hn hy
  rw [hR]
  cases R with
  | some R =>
    rw [findSome_hit hri hgi3] at hinv
    rw [hinv]
    refine ⟨?_⟩
    simp (config := { maxSteps := 4000000 }) only [↓sx0, ↓sx1, ↓sx2, ↓sx3, ↓sx4, ↓sx5, ↓sx6, sx0, sx1, sx2, sx3, sx4, sx5, sx6, tf42, ev3_hold, sxo, sxc, sxp, sxq, sxr, sxs, sxl, sxm, simprocAttr, Option.isSome_some, dn]
    exact ⟨dutO (.slice (some da) s.hands.length dc) bs' :: rowsF Q', by simp, Q', bs', rfl, rfl, hq, fun h => (by cases h), fun R2 hR2 => by cases hR2; exact hy _ rfl⟩
  | none =>
    rw [findSome_drop hri hgi3] at hinv
    obtain ⟨rfl, hC3⟩ := hn rfl
    refine ⟨?_⟩
    simp (config := { maxSteps := 4000000 }) only [↓sx0, ↓sx1, ↓sx2, ↓sx3, ↓sx4, ↓sx5, ↓sx6, sx0, sx1, sx2, sx3, sx4, sx5, sx6, tf42, ev3_hold, sxo, sxc, sxp, sxq, sxr, sxs, sxl, sxm, simprocAttr, eN, Option.isSome_none, dn]
    refine ld_olda (by simp [add_block]) c4 nw ?_
    simp (config := { maxSteps := 4000000 }) only [↓sx0, ↓sx1, ↓sx2, ↓sx3, ↓sx4, ↓sx5, ↓sx6, sx0, sx1, sx2, sx3, sx4, sx5, sx6, tf42, ev3_hold, sxo, sxc, sxp, sxq, sxr, sxs, sxl, sxm, simprocAttr, eN, dn]
    refine ⟨by omega, _, rfl, wr_dut (A := []) rfl hb2l (by omega) ?_⟩
    rw [hb2b]
    simp (config := { maxSteps := 4000000 }) only [↓sx0, ↓sx1, ↓sx2, ↓sx3, ↓sx4, ↓sx5, ↓sx6, sx0, sx1, sx2, sx3, sx4, sx5, sx6, tf42, ev3_hold, sxo, sxc, sxp, sxq, sxr, sxs, sxl, sxm, simprocAttr, e8, dn]
    exact ⟨(i + 1, Q'), _, rfl, HImp.sub (by first | simp | exact List.sublist_append_left _ _), ⟨by simp only []; omega, rfl, hq, hC3.back, hinv⟩, by simp only []; omega⟩
end Go.Proofs.Ytgpglmcbopfddaa

namespace Go.Proofs.Ytgpglmcbopfddaa
open Go.RowKit Go.SX
set_option maxRecDepth 10000
set_option maxHeartbeats 0
set_option linter.unusedSimpArgs false
set_option linter.unusedVariables false
theorem cloneD_fn (w : World) (v : Value) (bs : List Nat) (hs : Sl w v 1 (cat pc bs)) (hb : bs.length ≤ 1000) : SX.Fn Try.prog 41 [v] w (fun _ => False) fun r N => ∃ a c, r = .slice a bs.length c ∧ ∀ (w0 : Base) (H : List HO), HImp w0 (N ++ H) (dutO (.slice a bs.length c) bs :: H) := by
  have hs0 := hs
  obtain ⟨a, n, c, rfl⟩ := hs.shape
  have hn := hs.le pc_len (by omega)
  subst hn
  cases a with
  | none =>
    have hnil : bs = [] := by
      cases bs with
      | nil => rfl
      | cons y ys =>
        obtain ⟨_, _, _, e, _, hcl⟩ := hs
        cases e
        obtain ⟨ad, h, _⟩ := hcl 0 _ rfl
        cases h
    subst hnil
    refine walk [] [] (det0_ok _ _) Try.func41 rfl Try.ntmps41 res41 (by kernel_rfl) no_facts ?_
    simp (config := { maxSteps := 4000000 }) only [↓sx0, ↓sx1, ↓sx2, ↓sx3, ↓sx4, ↓sx5, ↓sx6, sx0, sx1, sx2, sx3, sx4, sx5, sx6, tf41, ev3_hold, sxo, sxc, sxp, sxq, sxr, sxs, sxl, sxm, simprocAttr, Option.isNone_none, reduceCtorEq, false_imp_iff, true_imp_iff]
    exact ⟨none, 0, rfl, fun w0 H => HImp.nilRow _ _ _ _⟩
  | some ad =>
    refine walk [] [] (det0_ok _ _) Try.func41 rfl Try.ntmps41 res41 (by kernel_rfl) no_facts ?_
    simp (config := { maxSteps := 4000000 }) only [↓sx0, ↓sx1, ↓sx2, ↓sx3, ↓sx4, ↓sx5, ↓sx6, sx0, sx1, sx2, sx3, sx4, sx5, sx6, tf41, ev3_hold, sxo, sxc, sxp, sxq, sxr, sxs, sxl, sxm, simprocAttr, Option.isNone_some, reduceCtorEq, false_imp_iff, true_imp_iff]
    intro b
    refine app_at (f := pc) (l := []) (m := bs) (HImp.refl _ _) pc_len pc_one (fun w' hp' => Sl.hp (w0 := ⟨w, fun _ => False⟩) hs0 (fun _ _ => id) hp') (by simp only [List.length_nil]; omega) fun a2 c2 h2 => ?_
    rw [List.nil_append, List.length_nil, Nat.zero_add]
    simp (config := { maxSteps := 4000000 }) only [↓sx0, ↓sx1, ↓sx2, ↓sx3, ↓sx4, ↓sx5, ↓sx6, sx0, sx1, sx2, sx3, sx4, sx5, sx6, tf41, ev3_hold, sxo, sxc, sxp, sxq, sxr, sxs, sxl, sxm, simprocAttr]
    exact ⟨a2, c2, rfl, fun w0 H => by
      first
        | exact HImp.refl _ _
        | exact HImp.sub (by simp [dutO])⟩
theorem slx_old {w w' : World} {A B : List HO} {v : Value} {sz : Nat} {xs : List Value} (h : Sl w v sz xs) (hp : Hp ⟨w, fun _ => False⟩ (A ++ B) w') : SlX w' (fpsx A) v sz xs := by
  refine ⟨Sl.hp (w0 := ⟨w, fun _ => False⟩) h (fun _ _ => id) hp, fun h0 b hb ⟨g, hg, hgb⟩ => ?_⟩
  have h1 := h.own_lt h0 hb
  have h2 : w.heap.size ≤ b := (hp.old g (List.mem_append_left _ hg) b hgb).resolve_left id
  omega
theorem slx_row {w0 : Base} {w' : World} {A B : List HO} {v : Value} {e sz : Nat} {xs : List Value} (h : HO.row v e sz xs ∈ B) (hp : Hp w0 (A ++ B) w') : SlX w' (fpsx A) v sz xs :=
  ⟨row_hp (List.mem_append_right _ h) hp, fun _ b hb => not_fpsx hp h hb⟩
theorem wat_wid {s : Stn} {seats : List Int} {shifts : List Spn} : ∀ (f : Nat) (rows : List (List Int)) (row : List Int) (R : List (List Int)), wat s seats shifts f rows row = some R → (∀ r ∈ rows, r.length = seats.length) → row.length ≤ seats.length → (∀ r ∈ R, r.length = seats.length) ∧ R.length = shifts.length
  | 0, _, _, _, h, _, _ => by cases h
  | f + 1, rows, row, R, h, h1, h2 => by
    rw [wat] at h
    split at h
    · rename_i h3
      cases h
      exact ⟨h1, h3⟩
    · split at h
      · rename_i h4
        refine wat_wid f _ _ R h (fun r hr => ?_) (Nat.zero_le _)
        rcases List.mem_append.1 hr with hr | hr
        · exact h1 r hr
        · rw [List.mem_singleton.1 hr]; exact h4
      · rename_i h4
        obtain ⟨x, hx, h5⟩ := List.exists_of_findSome?_eq_some h
        split at h5
        · exact wat_wid f _ _ R h5 h1 (by rw [List.length_append, List.length_singleton]; omega)
        · cases h5
theorem hisR_nil (shifts : List Spn) (k : Nat) : hisR shifts [] [] k = [] := by
  unfold hisR
  rw [hisN_push, if_neg (by simp)]
  rfl
theorem dut_nil (log : List Spn) : dutP log [] = srv log := by
  funext u
  unfold dutP
  exact Bool.or_false _
def zeQ (S : Nat) (Ad : List (Addr × Nat)) : List Wq := Ad.map fun a => (List.replicate S 0, a)
theorem zeQ_snd (S : Nat) (Ad : List (Addr × Nat)) : (zeQ S Ad).map Prod.snd = Ad := by
  unfold zeQ
  rw [List.map_map]
  exact List.map_id _
theorem zeQ_snoc (S : Nat) (Ad : List (Addr × Nat)) (a : Addr × Nat) : rowsF (zeQ S (Ad ++ [a])) = rowsF (zeQ S Ad) ++ [rowO (List.replicate S 0, a)] := by
  unfold zeQ rowsF
  rw [List.map_append, List.map_append]
  rfl
theorem rvc_one (S : Nat) (a : Addr × Nat) : ∀ y ∈ rvc S a, y.oneCell' = true := by simp [rvc, Value.oneCell']
def wqP (Q : List Wq) : List Lm := Q.map fun q => (q.1, some q.2.1, q.2.2)
theorem wqP_fst (Q : List Wq) : (wqP Q).map Prod.fst = Q.map Prod.fst := by
  unfold wqP
  rw [List.map_map]
  rfl
theorem wqP_cat {S : Nat} {Q : List Wq} (h : ∀ q ∈ Q, q.1.length = S) : cat lmc (wqP Q) = cat (rvc S) (Q.map Prod.snd) := by
  unfold wqP cat
  rw [List.flatMap_map, List.flatMap_map]
  induction Q with
  | nil => rfl
  | cons q Q ih =>
    rw [List.flatMap_cons, List.flatMap_cons, ih fun p hp => h p (List.mem_cons_of_mem _ hp)]
    unfold lmc lmv rvc
    rw [h q List.mem_cons_self]
end Go.Proofs.Ytgpglmcbopfddaa

namespace Go.Proofs.Ytgpglmcbopfddaa
open Go.RowKit Go.SX
set_option maxRecDepth 10000
set_option maxHeartbeats 0
set_option linter.unusedSimpArgs false
set_option linter.unusedVariables false
def pl20_20 : Plan := (ones [0, 1, 2, 3, 4, 5, 6, 7, 8, 9, 10, 11, 12] .fin)
def pl20 : List (Nat × Plan) := [(20, pl20_20)]
theorem pl20_lk : (lkO 20 pl20 = some pl20_20) := rfl
theorem watch_fn (w : World) (v : Value) (s : Stn) (hs : StOk w v s) (hsm : s.small) (vt : Value) (seats : List Int) (hvt : Sl w vt 1 (ints seats)) (hs5 : seats.length ≤ 1000) (vs : Value) (shifts : List Spn) (hvs : Sl w vs 2 (cat spc shifts)) (hs1 : shifts.length ≤ 1000000) :
    SX.Fn Try.prog 20 [v, vt, vs] w (fun _ => False) (WatP s seats shifts) := by
  have dn : ∀ (g : Nat) (xs : List Value), det0 g xs = none := fun _ _ => rfl
  have hs0 := hs
  have hvt0 := hvt
  have hvs0 := hvs
  have hop := fun (H : List HO) w' (hp : Hp ⟨w, fun _ => False⟩ H w') => open_fn w' v s (hs0.hp hp) hsm
  have hse := fun (H : List HO) w' (hp : Hp ⟨w, fun _ => False⟩ H w') => seated_fn w' vt seats (Sl.hp (w0 := ⟨w, fun _ => False⟩) hvt0 (fun _ _ => id) hp) hs5
  obtain ⟨hv, psh, rfl, hpsh, hslh, hlgh⟩ := hs
  obtain ⟨aH, nH, cH, rfl⟩ := hslh.shape
  obtain ⟨aT, nT, cT, rfl⟩ := hvt.shape
  have hnT := hvt.le i1_len (by omega)
  subst hnT
  obtain ⟨aS, nS, cS, rfl⟩ := hvs.shape
  have hnS := hvs.le spc_len (by omega)
  subst hnS
  have hrS := hvs.rd0
  have hE : chkW s seats shifts = if s.okB then (if shifts.length > 4 || !shB (-1) shifts then 1 else seatE seats) else 70 := rfl
  unfold WatP
  obtain ⟨E, hEE⟩ : ∃ E, chkW s seats shifts = E := ⟨_, rfl⟩
  rw [hEE] at hE ⊢
  obtain ⟨WA, hWA⟩ : ∃ WA, wat s seats shifts (mea seats shifts [] [] + 1) [] [] = WA := ⟨_, rfl⟩
  rw [hWA]
  refine walk [65] pl20 (det0_ok _ _) Try.func20 rfl Try.ntmps20 res20 (by kernel_rfl) (H0 := []) ⟨fun g hg => by (cases hg), fun g hg => by (cases hg), List.Pairwise.nil⟩ ?_
  simp (config := { maxSteps := 4000000 }) only [↓sx0, ↓sx1, ↓sx2, ↓sx3, ↓sx4, ↓sx5, ↓sx6, sx0, sx1, sx2, sx3, sx4, sx5, sx6, tf20, ev3_hold, sxo, sxc, sxp, sxq, sxr, sxs, sxl, sxm, simprocAttr, dn]
  refine CallOb.pureH (fun w' hp => hop _ w' hp) ?_
  rintro r N (⟨hok, rfl⟩ | ⟨hok, br, rfl, hro⟩)
  · rw [hok, if_neg Bool.false_ne_true] at hE
    rw [hE]
    refine ⟨?_⟩
    simp (config := { maxSteps := 4000000 }) only [↓sx0, ↓sx1, ↓sx2, ↓sx3, ↓sx4, ↓sx5, ↓sx6, sx0, sx1, sx2, sx3, sx4, sx5, sx6, tf20, ev3_hold, sxo, sxc, sxp, sxq, sxr, sxs, sxl, sxm, simprocAttr, dn]
    first | exact .inl ⟨by decide, rfl⟩ | exact .inl trivial | exact .inl (by decide)
  rw [hok, if_pos rfl] at hE
  have hob := okB_of hok
  refine ⟨?_⟩
  simp (config := { maxSteps := 4000000 }) only [↓sx0, ↓sx1, ↓sx2, ↓sx3, ↓sx4, ↓sx5, ↓sx6, sx0, sx1, sx2, sx3, sx4, sx5, sx6, tf20, ev3_hold, sxo, sxc, sxp, sxq, sxr, sxs, sxl, sxm, simprocAttr, dn]
  refine loop_constH N (HImp.refl _ _) [(6, 7), (10, 10), (12, 12), (25, 47)] (fun q : Nat × Int => [(25, I q.1), (10, I q.2)]) (fun q H1 => q.1 ≤ shifts.length ∧ (-1 ≤ q.2 ∧ q.2 ≤ 400) ∧ H1 = N ∧ shB (-1) shifts = shB q.2 (shifts.drop q.1)) (fun q => shifts.length - q.1) (0, -1) ?_ ⟨Nat.zero_le _, ⟨by decide, by decide⟩, rfl, rfl⟩ ?_
  · simp (config := { maxSteps := 4000000 }) only [↓sx0, ↓sx1, ↓sx2, ↓sx3, ↓sx4, ↓sx5, ↓sx6, sx0, sx1, sx2, sx3, sx4, sx5, sx6, tf20, ev3_hold, sxo, sxc, sxp, sxq, sxr, sxs, sxl, sxm, simprocAttr]
    try simp
  rintro ⟨i, la⟩ H1 g1 hinv0
  simp only [] at hinv0
  obtain ⟨hi, hla, rfl, hinv⟩ := hinv0
  by_cases hin : i = shifts.length
  case neg =>
    have e7 : ((i : Int) < (shifts.length : Int)) = True := eq_true (by omega)
    have e8 : wr (i + 1) = ((i + 1 : Nat) : Int) := (wrap_id (by omega)).trans (by omega)
    have hil : i < shifts.length := by omega
    have hx := List.getElem?_eq_getElem hil
    rw [List.drop_eq_getElem_cons hil, shB] at hinv
    generalize shifts[i] = x at hx hinv
    obtain ⟨lo, hi2⟩ := x
    simp only [] at hinv
    by_cases hg : inB lo (la + 1) hi2 = true ∧ hi2 ≤ 400
    case neg =>
      have hbad : shB (-1) shifts = false := by
        rw [hinv]
        by_cases h3 : inB lo (la + 1) hi2 = true
        · rw [h3, decide_eq_false (fun h4 => hg ⟨h3, h4⟩)]
          rfl
        · rw [Bool.not_eq_true] at h3
          rw [h3]
          rfl
      rw [hbad, Bool.not_false, Bool.or_true, if_pos rfl] at hE
      rw [inB_iff] at hg
      rw [hE]
      refine ⟨?_⟩
      simp (config := { maxSteps := 4000000 }) only [↓sx0, ↓sx1, ↓sx2, ↓sx3, ↓sx4, ↓sx5, ↓sx6, sx0, sx1, sx2, sx3, sx4, sx5, sx6, tf20, ev3_hold, sxo, sxc, sxp, sxq, sxr, sxs, sxl, sxm, simprocAttr, e7, dn]
      refine amid (at_n (hrS _) spc_len (by omega) hx fun ad1 => ?_)
      unfold spc
      by_cases p1 : lo ≤ la <;> by_cases p2 : lo > hi2 <;> by_cases p3 : hi2 > 400 <;> first | (exfalso; omega) | skip
      all_goals
        simp (config := { maxSteps := 4000000 }) only [↓sx0, ↓sx1, ↓sx2, ↓sx3, ↓sx4, ↓sx5, ↓sx6, sx0, sx1, sx2, sx3, sx4, sx5, sx6, tf20, ev3_hold, sxo, sxc, sxp, sxq, sxr, sxs, sxl, sxm, simprocAttr, p1, p2, p3, dn]
        first | exact .inl ⟨by decide, rfl⟩ | exact .inl trivial | exact .inl (by decide)
    obtain ⟨hg1, hg2⟩ := hg
    rw [hg1, decide_eq_true hg2, Bool.true_and, Bool.true_and] at hinv
    rw [inB_iff] at hg1
    have p1 : (lo ≤ la) = False := eq_false (by omega)
    have p2 : (lo > hi2) = False := eq_false (by omega)
    have p3 : (hi2 > 400) = False := eq_false (by omega)
    refine ⟨?_⟩
    simp (config := { maxSteps := 4000000 }) only [↓sx0, ↓sx1, ↓sx2, ↓sx3, ↓sx4, ↓sx5, ↓sx6, sx0, sx1, sx2, sx3, sx4, sx5, sx6, tf20, ev3_hold, sxo, sxc, sxp, sxq, sxr, sxs, sxl, sxm, simprocAttr, e7, dn]
    refine amid (at_n (hrS _) spc_len (by omega) hx fun ad1 => ?_)
    unfold spc
    simp (config := { maxSteps := 4000000 }) only [↓sx0, ↓sx1, ↓sx2, ↓sx3, ↓sx4, ↓sx5, ↓sx6, sx0, sx1, sx2, sx3, sx4, sx5, sx6, tf20, ev3_hold, sxo, sxc, sxp, sxq, sxr, sxs, sxl, sxm, simprocAttr, p1, p2, p3, e8, dn]
    exact ⟨(i + 1, hi2), _, by first | exact ⟨rfl, rfl⟩ | rfl, HImp.refl _ _, ⟨by simp only []; omega, by simp only []; omega, rfl, hinv⟩, by simp only []; omega⟩
  have e7 : ((i : Int) < (shifts.length : Int)) = False := eq_false (by omega)
  rw [List.drop_of_length_le (by omega), shB] at hinv
  rw [hinv, Bool.not_true, Bool.or_false] at hE
  by_cases hl4 : shifts.length > 4
  · have e1 : ((shifts.length : Int) > 4) = True := eq_true (by omega)
    rw [decide_eq_true hl4, if_pos rfl] at hE
    rw [hE]
    refine ⟨?_⟩
    simp (config := { maxSteps := 4000000 }) only [↓sx0, ↓sx1, ↓sx2, ↓sx3, ↓sx4, ↓sx5, ↓sx6, sx0, sx1, sx2, sx3, sx4, sx5, sx6, tf20, ev3_hold, sxo, sxc, sxp, sxq, sxr, sxs, sxl, sxm, simprocAttr, e7, e1, dn]
    first | exact .inl ⟨by decide, rfl⟩ | exact .inl trivial | exact .inl (by decide)
  have e1 : ((shifts.length : Int) > 4) = False := eq_false (by omega)
  rw [decide_eq_false hl4, if_neg Bool.false_ne_true] at hE
  refine ⟨?_⟩
  simp (config := { maxSteps := 4000000 }) only [↓sx0, ↓sx1, ↓sx2, ↓sx3, ↓sx4, ↓sx5, ↓sx6, sx0, sx1, sx2, sx3, sx4, sx5, sx6, tf20, ev3_hold, sxo, sxc, sxp, sxq, sxr, sxs, sxl, sxm, simprocAttr, e7, e1, dn]
  refine CallOb.pureH (fun w' hp => hse _ w' hp) ?_
  rintro r N2 rfl
  rw [← hE]
  by_cases hE0 : E = 0
  case neg =>
    have z0 : (E = 0) = False := eq_false hE0
    refine ⟨?_⟩
    simp (config := { maxSteps := 4000000 }) only [↓sx0, ↓sx1, ↓sx2, ↓sx3, ↓sx4, ↓sx5, ↓sx6, sx0, sx1, sx2, sx3, sx4, sx5, sx6, tf20, ev3_hold, sxo, sxc, sxp, sxq, sxr, sxs, sxl, sxm, simprocAttr, z0, dn]
    first | exact .inl ⟨hE0, rfl⟩ | exact .inl trivial
  have z0 : (E = 0) = True := eq_true hE0
  obtain ⟨hv', ao, co, bs, he, k1, k2, k3, k4, k5⟩ := hro
  have hvv : hv' = .slice aH nH cH := by
    injection he with he
    injection he with he
    exact (List.cons.inj he).1.symm
  subst hvv
  have hS5 : seats.length ≤ 5 := seatE_len (by rw [← hE]; exact hE0)
  have hcl0 := fun (H : List HO) w' (hp : Hp ⟨w, fun _ => False⟩ (H ++ H1) w') => cloneD_fn w' (.slice ao s.hands.length co) bs (row_hp (List.mem_append_right _ k2) hp) (by omega)
  rw [k3] at hcl0
  refine ⟨?_⟩
  simp (config := { maxSteps := 4000000 }) only [↓sx0, ↓sx1, ↓sx2, ↓sx3, ↓sx4, ↓sx5, ↓sx6, sx0, sx1, sx2, sx3, sx4, sx5, sx6, tf20, ev3_hold, sxo, sxc, sxp, sxq, sxr, sxs, sxl, sxm, simprocAttr, z0, dn]
  refine ld_cella (List.mem_append_right _ k1) rfl ?_
  simp (config := { maxSteps := 4000000 }) only [↓sx0, ↓sx1, ↓sx2, ↓sx3, ↓sx4, ↓sx5, ↓sx6, sx0, sx1, sx2, sx3, sx4, sx5, sx6, tf20, ev3_hold, sxo, sxc, sxp, sxq, sxr, sxs, sxl, sxm, simprocAttr, dn]
  refine CallOb.pureH (fun w' hp => hcl0 _ w' hp) ?_
  rintro r N3 ⟨dad, dc, rfl, hcl⟩
  refine ⟨?_⟩
  simp (config := { maxSteps := 4000000 }) only [↓sx0, ↓sx1, ↓sx2, ↓sx3, ↓sx4, ↓sx5, ↓sx6, sx0, sx1, sx2, sx3, sx4, sx5, sx6, tf20, ev3_hold, sxo, sxc, sxp, sxq, sxr, sxs, sxl, sxm, simprocAttr, dn]
  intro bw
  refine loop_constH (.cells bw 92 [.pointer (some ⟨br, 0, none⟩), .slice aT seats.length cT, .slice aS shifts.length cS, .slice none 0 0, .slice dad s.hands.length dc] :: .row (.slice none 0 0) 25 1 [] :: dutO (.slice dad s.hands.length dc) bs :: (rowsF (zeQ seats.length []) ++ H1)) (HImp.cons ((hcl _ _).trans ((HImp.cons (HImp.app _ _ _)).trans (HImp.nilRow _ _ _ _)))) [(68, 82)] (fun q : Nat × Option Addr × Nat × List (Addr × Nat) => [(68, I q.1)])
    (fun q G1 => q.1 ≤ shifts.length ∧ q.2.2.2.length = q.1 ∧ (q.2.1 = none → q.1 = 0) ∧ (∀ a ∈ q.2.2.2, a.2 = seats.length) ∧ G1 = .cells bw 92 [.pointer (some ⟨br, 0, none⟩), .slice aT seats.length cT, .slice aS shifts.length cS, .slice q.2.1 q.1 q.2.2.1, .slice dad s.hands.length dc] :: .row (.slice q.2.1 q.1 q.2.2.1) 25 1 (cat (rvc seats.length) q.2.2.2) :: dutO (.slice dad s.hands.length dc) bs :: (rowsF (zeQ seats.length q.2.2.2) ++ H1)) (fun q => shifts.length - q.1) (0, none, 0, []) ?_ ⟨Nat.zero_le _, rfl, fun _ => rfl, fun a ha => (by cases ha), rfl⟩ ?_
  · simp (config := { maxSteps := 4000000 }) only [↓sx0, ↓sx1, ↓sx2, ↓sx3, ↓sx4, ↓sx5, ↓sx6, sx0, sx1, sx2, sx3, sx4, sx5, sx6, tf20, ev3_hold, sxo, sxc, sxp, sxq, sxr, sxs, sxl, sxm, simprocAttr]
    try simp
  rintro ⟨k, ar, cr, Ad⟩ G1 g2 hinv2
  simp only [] at hinv2
  obtain ⟨hk, hAk, har, hAc, rfl⟩ := hinv2
  by_cases hkn : k = shifts.length
  case neg =>
    have f7 : ((k : Int) < (shifts.length : Int)) = True := eq_true (by omega)
    have f8 : wr (k + 1) = ((k + 1 : Nat) : Int) := (wrap_id (by omega)).trans (by omega)
    have hz : zerosL seats.length [I 0] = ints (List.replicate seats.length 0) := zeros_cat i1 0 _
    refine ⟨?_⟩
    simp (config := { maxSteps := 4000000 }) only [↓sx0, ↓sx1, ↓sx2, ↓sx3, ↓sx4, ↓sx5, ↓sx6, sx0, sx1, sx2, sx3, sx4, sx5, sx6, tf20, ev3_hold, sxo, sxc, sxp, sxq, sxr, sxs, sxl, sxm, simprocAttr, f7, dn, pl20_lk, pl20_20]
    refine ld_cella List.mem_cons_self rfl ?_
    simp (config := { maxSteps := 4000000 }) only [↓sx0, ↓sx1, ↓sx2, ↓sx3, ↓sx4, ↓sx5, ↓sx6, sx0, sx1, sx2, sx3, sx4, sx5, sx6, tf20, ev3_hold, sxo, sxc, sxp, sxq, sxr, sxs, sxl, sxm, simprocAttr, dn]
    refine ⟨by omega, by omega, by omega, fun b b1 => ?_⟩
    refine app_one (f := rvc seats.length) (l := Ad) ((⟨b, 0, none⟩, seats.length) : Addr × Nat) (HImp.perm (List.perm_middle (l₁ := [_, _]))) (rvc_len _) (rvc_one _) (by omega) fun ad4 c4 => ?_
    rw [hAk]
    simp (config := { maxSteps := 4000000 }) only [↓sx0, ↓sx1, ↓sx2, ↓sx3, ↓sx4, ↓sx5, ↓sx6, sx0, sx1, sx2, sx3, sx4, sx5, sx6, tf20, ev3_hold, sxo, sxc, sxp, sxq, sxr, sxs, sxl, sxm, simprocAttr, dn]
    refine wr_cella (A := [_, _]) rfl (by simp) ?_
    simp (config := { maxSteps := 4000000 }) only [↓sx0, ↓sx1, ↓sx2, ↓sx3, ↓sx4, ↓sx5, ↓sx6, sx0, sx1, sx2, sx3, sx4, sx5, sx6, tf20, ev3_hold, sxo, sxc, sxp, sxq, sxr, sxs, sxl, sxm, simprocAttr, f8, dn]
    refine ⟨(k + 1, some ad4, c4, Ad ++ [((⟨b, 0, none⟩, seats.length) : Addr × Nat)]), _, rfl, HImp.perm ?_, ⟨by simp only []; omega, by simp only [List.length_append, List.length_singleton]; omega, fun h => (by cases h), fun a ha => ?_, rfl⟩, by simp only []; omega⟩
    · simp only []
      rw [zeQ_snoc, List.append_assoc, show HO.row (.slice (some (⟨b, 0, none⟩ : Addr)) seats.length seats.length) 3 1 (zerosL seats.length [Value.int .i64 0]) = rowO (List.replicate seats.length 0, ((⟨b, 0, none⟩, seats.length) : Addr × Nat)) by rw [hz]; unfold rowO wqv; simp only [List.length_replicate]]
      exact (List.perm_middle (l₁ := [_, _])).trans (List.Perm.cons _ (List.Perm.cons _ ((List.Perm.swap _ _ _).trans (List.Perm.cons _ List.perm_middle.symm))))
    · rcases List.mem_append.1 ha with ha | ha
      · exact hAc a ha
      · rw [List.mem_singleton.1 ha]
  subst hkn
  have f7 : ((shifts.length : Int) < (shifts.length : Int)) = False := eq_false (by omega)
  have hfill : ∀ w', Hp ⟨w, fun _ => False⟩ (dutO (.slice dad s.hands.length dc) bs :: rowsF (zeQ seats.length Ad) ++ (HO.cells bw 92 [.pointer (some ⟨br, 0, none⟩), .slice aT seats.length cT, .slice aS shifts.length cS, .slice ar shifts.length cr, .slice dad s.hands.length dc] :: HO.row (.slice ar shifts.length cr) 25 1 (cat (rvc seats.length) Ad) :: H1)) w' → SX.Fn Try.prog 42 [.pointer (some ⟨bw, 0, none⟩), I 0, I 0] w' (fpsx (dutO (.slice dad s.hands.length dc) bs :: rowsF (zeQ seats.length Ad))) (FilP seats shifts (.slice dad s.hands.length dc) Ad [] [] bs WA) := fun w' hp => by
    have hB1 : HO.cells bw 92 [.pointer (some ⟨br, 0, none⟩), .slice aT seats.length cT, .slice aS shifts.length cS, .slice ar shifts.length cr, .slice dad s.hands.length dc] ∈ HO.cells bw 92 [.pointer (some ⟨br, 0, none⟩), .slice aT seats.length cT, .slice aS shifts.length cS, .slice ar shifts.length cr, .slice dad s.hands.length dc] :: HO.row (.slice ar shifts.length cr) 25 1 (cat (rvc seats.length) Ad) :: H1 := List.mem_cons_self
    have hBr : ∀ g ∈ H1, g ∈ HO.cells bw 92 [.pointer (some ⟨br, 0, none⟩), .slice aT seats.length cT, .slice aS shifts.length cS, .slice ar shifts.length cr, .slice dad s.hands.length dc] :: HO.row (.slice ar shifts.length cr) 25 1 (cat (rvc seats.length) Ad) :: H1 := fun g hg => List.mem_cons_of_mem _ (List.mem_cons_of_mem _ hg)
    have hF : FilW w' (fpsx (dutO (.slice dad s.hands.length dc) bs :: rowsF (zeQ seats.length Ad))) bw br s seats shifts (.slice aH nH cH) (.slice aT seats.length cT) (.slice aS shifts.length cS) (.slice ar shifts.length cr) (.slice dad s.hands.length dc) Ad psh := by
      refine ⟨not_fpsx hp hB1 rfl, not_fpsx hp (hBr _ k1) rfl, fun i x hx => ?_, fun i x hx => ?_, hpsh, slx_old hslh hp, slx_old hvt0 hp, slx_old hvs0 hp, slx_row (List.mem_cons_of_mem _ List.mem_cons_self) hp, fun a ha => by rw [hAc a ha]; exact Nat.le_refl _, hAk⟩
      · rw [cell_of_cells (hp.ok _ (List.mem_append_right _ hB1))]
        simpa using hx
      · rw [cell_of_cells (hp.ok _ (List.mem_append_right _ (hBr _ k1)))]
        have hi3 : i < 3 := (List.getElem?_eq_some_iff.1 hx).1
        have : ∀ (l m : List Value), l[i]? = some x → (l ++ m)[i]? = some x := fun l m h => by
          rw [List.getElem?_append_left (List.getElem?_eq_some_iff.1 h).1]
          exact h
        simpa using this _ [.slice ao s.hands.length co] hx
    have hD : DutW w' (fpsx (dutO (.slice dad s.hands.length dc) bs :: rowsF (zeQ seats.length Ad))) s shifts [] [] bs := by
      refine ⟨k3, fun k b h hb hh => ?_⟩
      have hm := hBr _ (k5 k b h hb hh)
      rw [hisR_nil, dut_nil]
      exact ⟨not_fpsx hp hm rfl, DutyOk.of (List.mem_append_right _ hm) hp⟩
    have hC : Cohr seats shifts [] [] (zeQ seats.length Ad) := by
      refine ⟨by unfold zeQ; rw [List.length_map]; exact hAk, fun q hq => ?_, fun k q hk => (by cases hk), fun q _ => rfl⟩
      unfold zeQ at hq
      obtain ⟨a, _, rfl⟩ := List.mem_map.1 hq
      exact List.length_replicate
    rw [← hWA]
    exact fill_fn s hok seats (by omega) shifts hinv (by omega) bw br _ _ _ _ dad dc Ad psh (mea seats shifts [] [] + 1) w' (zeQ seats.length Ad) bs [] [] hF (zeQ_snd _ _) (fun h hh => hp.ok h (List.mem_append_left _ hh)) (List.pairwise_append.1 hp.nd).1 hC hD (Nat.zero_le _) (Nat.zero_le _) (fun _ => rfl) (Nat.lt_succ_self _)
  have hwid := fun (R : List (List Int)) (h : WA = some R) => (wat_wid _ _ _ R (hWA.trans h) (fun r hr => by cases hr) (Nat.zero_le _)).1
  refine ⟨?_⟩
  simp (config := { maxSteps := 4000000 }) only [↓sx0, ↓sx1, ↓sx2, ↓sx3, ↓sx4, ↓sx5, ↓sx6, sx0, sx1, sx2, sx3, sx4, sx5, sx6, tf20, ev3_hold, sxo, sxc, sxp, sxq, sxr, sxs, sxl, sxm, simprocAttr, f7, dn]
  refine CallOb.mutH (A := dutO (.slice dad s.hands.length dc) bs :: rowsF (zeQ seats.length Ad)) (HImp.perm (List.perm_append_comm_assoc [_, _] (_ :: _) H1)) fps_FA (fun w' hp => hfill w' hp) ?_
  rintro r N6 ⟨Q', bs', rfl, rfl, hq, hn, hy⟩
  cases WA with
  | none =>
    refine ⟨?_⟩
    simp (config := { maxSteps := 4000000 }) only [↓sx0, ↓sx1, ↓sx2, ↓sx3, ↓sx4, ↓sx5, ↓sx6, sx0, sx1, sx2, sx3, sx4, sx5, sx6, tf20, ev3_hold, sxo, sxc, sxp, sxq, sxr, sxs, sxl, sxm, simprocAttr, Option.isSome_none, dn]
    exact .inr ⟨hE0, .inl trivial⟩
  | some R =>
    refine ⟨?_⟩
    simp (config := { maxSteps := 4000000 }) only [↓sx0, ↓sx1, ↓sx2, ↓sx3, ↓sx4, ↓sx5, ↓sx6, sx0, sx1, sx2, sx3, sx4, sx5, sx6, tf20, ev3_hold, sxo, sxc, sxp, sxq, sxr, sxs, sxl, sxm, simprocAttr, Option.isSome_some, dn]
    refine ld_cella (T := 92) (cs := [.pointer (some ⟨br, 0, none⟩), .slice aT seats.length cT, .slice aS shifts.length cS, .slice ar shifts.length cr, .slice dad s.hands.length dc]) (by simp) rfl ?_
    simp (config := { maxSteps := 4000000 }) only [↓sx0, ↓sx1, ↓sx2, ↓sx3, ↓sx4, ↓sx5, ↓sx6, sx0, sx1, sx2, sx3, sx4, sx5, sx6, tf20, ev3_hold, sxo, sxc, sxp, sxq, sxr, sxs, sxl, sxm, simprocAttr, dn]
    have hy2 := hy R rfl
    have hw2 : ∀ q ∈ Q', q.1.length = seats.length := fun q hq => hwid R rfl q.1 (by rw [← hy2]; exact List.mem_map_of_mem hq)
    refine .inr ⟨hE0, .inr ⟨R, .slice ar shifts.length cr, wqP Q', rfl, rfl, (wqP_fst Q').trans hy2, .inr ?_, fun p hp => .inr ?_⟩⟩
    · rw [wqP_cat hw2, hq]
      simp
    · unfold wqP at hp
      obtain ⟨q, hq3, rfl⟩ := List.mem_map.1 hp
      have h3 : rowO q ∈ rowsF Q' := List.mem_map_of_mem hq3
      exact List.mem_cons_of_mem _ (List.mem_append_left _ h3)
end Go.Proofs.Ytgpglmcbopfddaa

