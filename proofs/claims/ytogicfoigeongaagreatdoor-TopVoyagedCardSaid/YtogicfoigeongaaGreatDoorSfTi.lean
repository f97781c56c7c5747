/- A part of a proof: the symbolic walk and what it shows of single functions. -/
import Derived.Test.YtogicfoigeongaaGreatDoorM1
set_option linter.all false
namespace Go.Proofs.YtogicfoigeongaaGreatDoor
open Go.RowKit Go.SX
set_option maxRecDepth 10000
set_option maxHeartbeats 0
set_option linter.unusedSimpArgs false
set_option linter.unusedVariables false
theorem lcheck_fn (w : World) (hw : Ways w) (sD sT sS vl : Value) (c : Cht) (hc : ChOk w (.agg #[I c.wide, I c.high, sD, sT, sS]) c) (hsm : c.small) (hok : c.ok) (ls : List Lg) (hls : LegsOk w vl ls) (hl12 : ls.length ≤ 12) (hle : ∀ l ∈ ls, l.Ok c) :
    SX.Fn Tryz.prog 11 [.agg #[I c.wide, I c.high, sD, sT, sS], vl] w (fun _ => False) fun q N => q = I 0 := by
  have dn : ∀ (g : Nat) (xs : List Value), det0 g xs = none := fun _ _ => rfl
  have hop := fun (H : List HO) w' (hp : Hp ⟨w, fun _ => False⟩ H w') => lopen_fn w' (hw.hp hp) sD sT sS vl c (hc.hp hp) hsm hok ls (hls.hp hp) hl12 hle
  unfold TrN at hop
  refine walk [] [] (det0_ok _ _) Tryz.func11 rfl Tryz.ntmps11 res11 (by kernel_rfl) no_facts ?_
  simp (config := { maxSteps := 4000000 }) only [↓sx0, ↓sx1, ↓sx2, ↓sx3, ↓sx4, ↓sx5, ↓sx6, sx0, sx1, sx2, sx3, sx4, sx5, sx6, tf11, ev3_hold, sxo, sxc, sxp, sxq, sxr, sxs, sxl, sxm, simprocAttr, dn]
  refine CallOb.pureH (fun w' hp => hop _ w' hp) ?_
  rintro q N0 ⟨bx, vn, rfl, _, _⟩
  refine ⟨?_⟩
  simp (config := { maxSteps := 4000000 }) only [↓sx0, ↓sx1, ↓sx2, ↓sx3, ↓sx4, ↓sx5, ↓sx6, sx0, sx1, sx2, sx3, sx4, sx5, sx6, tf11, ev3_hold, sxo, sxc, sxp, sxq, sxr, sxs, sxl, sxm, simprocAttr]
  try rfl
theorem openE_at2 {c : Cht} (hok : c.ok) {k t u : Nat} {g : Int} (hk : k < c.depth.length) (ht : t < c.tide.length) (hu : u < c.tide.length) (hg : 1 ≤ g ∧ g ≤ 100) : openE c [(k : Int)] [(t : Int), (u : Int)] [g] = 0 := by
  unfold openE notCell notTick notDraught
  rw [if_pos ((okB_iff c).2 hok), if_neg]
  simp only [List.any_cons, List.any_nil, Bool.or_false, Bool.or_eq_true, Bool.not_eq_true', not_or, Bool.not_eq_false, inB_iff]
  omega
theorem topVoyaged_fn (w : World) (hw : Ways w) (v : Value) (c : Cht) (hc : ChOk w v c) (b : Cls) (o : Ord5) : SX.Fn Tryz.prog 4 [v, clv b, orv o] w (fun _ => False) fun r N => r = .bool true := by
  have dn : ∀ (g : Nat) (xs : List Value), det0 g xs = none := fun _ _ => rfl
  have hro := fun (H : List HO) w' (hp : Hp ⟨w, fun _ => False⟩ H w') => routed_fn w' (hw.hp hp)
  have hfar := fun (H : List HO) w' (hp : Hp ⟨w, fun _ => False⟩ H w') => far6_fn w' v c (hc.hp hp)
  have hgo := fun (hs : c.small) (H : List HO) w' (hp : Hp ⟨w, fun _ => False⟩ H w') => rgo_fn w' (hw.hp hp) v c (hc.hp hp) hs b o.r o.t o.f o.tc o.ts
  have hgo5 := fun (hs : c.small) (H : List HO) w' (hp : Hp ⟨w, fun _ => False⟩ H w') => go5_fn w' (hw.hp hp) v c (hc.hp hp) hs b o.r o.t o.f o.tc o.ts
  have hmv := fun (hs : c.small) (g a t u : Int) (H : List HO) w' (hp : Hp ⟨w, fun _ => False⟩ H w') => moves_fn w' (hw.hp hp) v c (hc.hp hp) hs g a t u
  have hc0 := hc
  obtain ⟨sD, sT, sS, rfl, hsD, hsT, hsS⟩ := hc
  have hlc := fun (hs : c.small) (hok : c.ok) (vl : Value) (l : Lg) (hle : l.Ok c) (H : List HO) w' (hp : Hp ⟨w, fun _ => False⟩ H w') (hls : LegsOk w' vl [l]) => lcheck_fn w' (hw.hp hp) sD sT sS vl c (hc0.hp hp) hs hok [l] hls (by simp) (by simpa using hle)
  have hfr := fun (hs : c.small) (hok : c.ok) (vl : Value) (l : Lg) (hle : l.Ok c) (x : Nat) (hx : x < c.depth.length) (H : List HO) w' (hp : Hp ⟨w, fun _ => False⟩ H w') (hls : LegsOk w' vl [l]) => lfree_fn w' (hw.hp hp) sD sT sS vl c (hc0.hp hp) hs hok [l] hls (by simp) (by simpa using hle) x hx
  obtain ⟨aD, nD, cD, rfl⟩ := hsD.shape
  have hnD := hsD.le i1_len (by omega)
  subst hnD
  obtain ⟨⟨rc, rd, rl, rm, rs⟩, t, f, tc, ts⟩ := o
  obtain ⟨bd, bs, bm, bi, br, bse, bmo⟩ := b
  unfold GoP noV at hgo5
  unfold clv rmv at hgo hgo5
  unfold clv orv
  simp only [] at hgo hgo5 ⊢
  refine walk [] [(8, (ones [0, 2, 5] (.ld 1 (.ld 3 (.ld 6 (ones [4] (.kl 7 (ones [8, 9, 10] .fin))))))))] (det0_ok _ _) Tryz.func4 rfl Tryz.ntmps4 res4 (by kernel_rfl) no_facts ?_
  simp (config := { maxSteps := 4000000 }) only [↓sx0, ↓sx1, ↓sx2, ↓sx3, ↓sx4, ↓sx5, ↓sx6, sx0, sx1, sx2, sx3, sx4, sx5, sx6, tf4, ev3_hold, sxo, sxc, sxp, sxq, sxr, sxs, sxl, sxm, simprocAttr, dn]
  refine CallOb.pureH (fun w' hp => hfar _ w' hp) ?_
  rintro q N ⟨B, rfl, hB⟩
  cases B with
  | true =>
    refine ⟨?_⟩
    simp (config := { maxSteps := 4000000 }) only [↓sx0, ↓sx1, ↓sx2, ↓sx3, ↓sx4, ↓sx5, ↓sx6, sx0, sx1, sx2, sx3, sx4, sx5, sx6, tf4, ev3_hold, sxo, sxc, sxp, sxq, sxr, sxs, sxl, sxm, simprocAttr, dn]
    refine CallOb.pureH (fun w' hp => hro _ w' hp) ?_
    rintro q N2 rfl
    refine ⟨?_⟩
    simp (config := { maxSteps := 4000000 }) only [↓sx0, ↓sx1, ↓sx2, ↓sx3, ↓sx4, ↓sx5, ↓sx6, sx0, sx1, sx2, sx3, sx4, sx5, sx6, tf4, ev3_hold, sxo, sxc, sxp, sxq, sxr, sxs, sxl, sxm, simprocAttr, dn]
    try rfl
  | false =>
  have hs := hB rfl
  have hgo := hgo hs
  have hgo5 := hgo5 hs
  have hmv := hmv hs
  have hlc := hlc hs
  have hfr := hfr hs
  obtain ⟨E, hE⟩ : ∃ E, goE c ⟨bd, bs, bm, bi, br, bse, bmo⟩ ⟨rc, rd, rl, rm, rs⟩ t f tc ts = E := ⟨_, rfl⟩
  rw [hE] at hgo hgo5
  refine ⟨?_⟩
  simp (config := { maxSteps := 4000000 }) only [↓sx0, ↓sx1, ↓sx2, ↓sx3, ↓sx4, ↓sx5, ↓sx6, sx0, sx1, sx2, sx3, sx4, sx5, sx6, tf4, ev3_hold, sxo, sxc, sxp, sxq, sxr, sxs, sxl, sxm, simprocAttr, dn]
  refine CallOb.pureH (fun w' hp => hgo _ w' hp) ?_
  rintro q N2 rfl
  by_cases hE0 : E = 0
  case neg =>
    have z0 : (E = 0) = False := eq_false hE0
    refine ⟨?_⟩
    simp (config := { maxSteps := 4000000 }) only [↓sx0, ↓sx1, ↓sx2, ↓sx3, ↓sx4, ↓sx5, ↓sx6, sx0, sx1, sx2, sx3, sx4, sx5, sx6, tf4, ev3_hold, sxo, sxc, sxp, sxq, sxr, sxs, sxl, sxm, simprocAttr, z0, dn]
    refine CallOb.pureH (fun w' hp => hro _ w' hp) ?_
    rintro q N2 rfl
    refine ⟨?_⟩
    simp (config := { maxSteps := 4000000 }) only [↓sx0, ↓sx1, ↓sx2, ↓sx3, ↓sx4, ↓sx5, ↓sx6, sx0, sx1, sx2, sx3, sx4, sx5, sx6, tf4, ev3_hold, sxo, sxc, sxp, sxq, sxr, sxs, sxl, sxm, simprocAttr, dn]
    try rfl
  have z0 : (E = 0) = True := eq_true hE0
  have hvok := Vg.of_ok (hE.trans hE0)
  obtain ⟨hst, htc, hts⟩ := goE_zero (hE.trans hE0)
  obtain ⟨hok, hcl, hrp, ht, hf⟩ := staE_zero hst
  have hrcell : 0 ≤ rc ∧ rc ≤ (c.depth.length : Int) - 1 := ramp_cell hrp
  have hbd : 1 ≤ bd ∧ bd ≤ 100 := ((clsB_iff _).1 hcl).1
  have hlc := hlc hok
  have hfr := hfr hok
  have hT60 := hok.2.2.2.1
  obtain ⟨k, rfl⟩ : ∃ k : Nat, rc = k := ⟨rc.toNat, by omega⟩
  obtain ⟨t, rfl⟩ : ∃ k : Nat, t = k := ⟨t.toNat, by omega⟩
  obtain ⟨tc, rfl⟩ : ∃ k : Nat, tc = k := ⟨tc.toNat, by omega⟩
  obtain ⟨ts, rfl⟩ : ∃ k : Nat, ts = k := ⟨ts.toNat, by omega⟩
  obtain ⟨g, hg⟩ : ∃ g, g = (⟨c, ⟨bd, bs, bm, bi, br, bse, bmo⟩, k, t, tc, ts⟩ : Vg) := ⟨_, rfl⟩
  have hgd : Vg.of c ⟨bd, bs, bm, bi, br, bse, bmo⟩ ⟨k, rd, rl, rm, rs⟩ t tc ts = g := hg.symm
  rw [hgd] at hvok hgo5
  refine ⟨?_⟩
  simp (config := { maxSteps := 4000000 }) only [↓sx0, ↓sx1, ↓sx2, ↓sx3, ↓sx4, ↓sx5, ↓sx6, sx0, sx1, sx2, sx3, sx4, sx5, sx6, tf4, ev3_hold, sxo, sxc, sxp, sxq, sxr, sxs, sxl, sxm, simprocAttr, z0, dn]
  refine CallOb.pureH (fun w' hp => hgo5 _ w' hp) ?_
  rintro q N3 (⟨hno, _⟩ | ⟨_, hgo5⟩)
  · exact absurd hE0 hno
  rcases hgo5 with ⟨why, rfl, hwhy⟩ | ⟨hrdy, hnear, m, B, L, x, hbest, hPE, hlen, hfu, rfl, hgot⟩
  · have hw0 : why ≠ 0 := by
      unfold Vg.Why at hwhy
      rcases hwhy with ⟨rfl, _⟩ | ⟨_, ⟨rfl, _⟩ | ⟨_, ⟨rfl, _⟩ | ⟨rfl, _⟩⟩⟩ <;> decide
    have z1 : (why = 0) = False := eq_false hw0
    refine ⟨?_⟩
    simp (config := { maxSteps := 4000000 }) only [↓sx0, ↓sx1, ↓sx2, ↓sx3, ↓sx4, ↓sx5, ↓sx6, sx0, sx1, sx2, sx3, sx4, sx5, sx6, tf4, ev3_hold, sxo, sxc, sxp, sxq, sxr, sxs, sxl, sxm, simprocAttr, z1, dn]
    refine CallOb.pureH (fun w' hp => hro _ w' hp) ?_
    rintro q N2 rfl
    refine ⟨?_⟩
    simp (config := { maxSteps := 4000000 }) only [↓sx0, ↓sx1, ↓sx2, ↓sx3, ↓sx4, ↓sx5, ↓sx6, sx0, sx1, sx2, sx3, sx4, sx5, sx6, tf4, ev3_hold, sxo, sxc, sxp, sxq, sxr, sxs, sxl, sxm, simprocAttr, dn]
    try rfl
  obtain ⟨ax, cx, rfl⟩ := hgot.shape
  have hnl : (nts L).length = L.length := nts_len L
  have hK := Vg.P.known hvok (by rw [hg]; exact rdy_canR hok hrcell (by omega) hrdy) hPE.1
  have hbl := hbest.lt
  have hle := Vg.leg_ok hvok hK (by omega)
  have hlast : L.getD (L.length - 1) 0 = g.k := by
    have := hPE.2
    rw [List.getLast?_eq_getElem?] at this
    rw [List.getD_eq_getElem?_getD, this]
    rfl
  have hTL : g.t + L.length ≤ g.c.tide.length := by omega
  have gc : g.c = c := by rw [hg]
  have gt : g.t = t := by rw [hg]
  have gk : g.k = k := by rw [hg]
  have gtc : g.tc = tc := by rw [hg]
  have gd : g.b.draught = bd := by rw [hg]
  have gm : g.b.move = bm := by rw [hg]
  have glg : g.leg L = ⟨(t : Int), 0, bd, false, nts L⟩ := by rw [hg]; rfl
  have hgotr := fun (H : List HO) (hm : ∀ h ∈ N3, h ∈ H) => hgot.rdv (w0 := ⟨w, fun _ => False⟩) i1_len hm
  have hgoth := fun (H : List HO) w' (hp : Hp ⟨w, fun _ => False⟩ H w') (hm : ∀ h ∈ N3, h ∈ H) => hgot.hp hm hp
  have hget := fun (i : Nat) (hi : i < L.length) => getD_at (l := nts L) (k := i) (by rw [hnl]; exact hi) 0
  have hgl := fun (i : Nat) (hi : i < L.length) => nts_lv hi
  unfold lv at hgl
  rw [hnl] at hgotr hgoth ⊢
  rw [gc] at hle hTL
  rw [gt] at hTL
  refine ⟨?_⟩
  simp (config := { maxSteps := 4000000 }) only [↓sx0, ↓sx1, ↓sx2, ↓sx3, ↓sx4, ↓sx5, ↓sx6, sx0, sx1, sx2, sx3, sx4, sx5, sx6, tf4, ev3_hold, sxo, sxc, sxp, sxq, sxr, sxs, sxl, sxm, simprocAttr, dn]
  intro b0
  refine app_at (f := i1) (l := []) (m := nts L) (HImp.refl _ _) i1_len i1_one (fun w' hp' => hgoth _ w' hp' (by simp +contextual)) (bytes := 8) (by simp only [List.length_nil, hnl]; omega) ?_
  intro ad c2 hnil
  rw [List.nil_append, List.length_nil, Nat.zero_add, hnl]
  simp (config := { maxSteps := 4000000 }) only [↓sx0, ↓sx1, ↓sx2, ↓sx3, ↓sx4, ↓sx5, ↓sx6, sx0, sx1, sx2, sx3, sx4, sx5, sx6, tf4, ev3_hold, sxo, sxc, sxp, sxq, sxr, sxs, sxl, sxm, simprocAttr, dn]
  intro b1
  have hlegs : ∀ (H : List HO) w' (hp : Hp ⟨w, fun _ => False⟩ H w'), HO.row (.slice (some ⟨b1, 0, none⟩) 1 1) 49 5 [I t, I 0, I bd, .bool false, .slice ad L.length c2] ∈ H → HO.row (.slice ad L.length c2) 3 1 (cat i1 (nts L)) ∈ H → LegsOk w' (.slice (some ⟨b1, 0, none⟩) 1 1) [g.leg L] := fun H w' hp h1 h2 => by
    refine ⟨[(g.leg L, ad, L.length, c2)], rfl, ?_, fun p hp' => ?_⟩
    · rw [glg]
      exact row_hp h1 hp
    · rw [List.mem_singleton] at hp'
      subst hp'
      rw [glg]
      exact row_hp h2 hp
  refine CallOb.pureH (fun w' hp => hlc _ _ hle _ w' hp (hlegs _ w' hp (by simp) (by simp))) ?_
  rintro q N4 rfl
  refine ⟨?_⟩
  simp (config := { maxSteps := 4000000 }) only [↓sx0, ↓sx1, ↓sx2, ↓sx3, ↓sx4, ↓sx5, ↓sx6, sx0, sx1, sx2, sx3, sx4, sx5, sx6, tf4, ev3_hold, sxo, sxc, sxp, sxq, sxr, sxs, sxl, sxm, simprocAttr, dn]
  refine loop_constH (HO.row (.slice (some ⟨b1, 0, none⟩) 1 1) 49 5 [I t, I 0, I bd, .bool false, .slice ad L.length c2] :: HO.row (.slice ad L.length c2) 3 1 (cat i1 (nts L)) :: (N3 ++ (N2 ++ N))) (HImp.app _ _ _) [(11, 15), (73, 130)] (fun q : Nat × Int => [(11, I q.2), (12, I q.1)])
    (fun q H1 => q.1 ≤ L.length ∧ ((q.2 = -1 ∧ ∀ j, j < q.1 → L.getD j 0 ≠ tc) ∨ ∃ a : Nat, a < q.1 ∧ q.2 = a ∧ L.getD a 0 = tc) ∧ H1 = HO.row (.slice (some ⟨b1, 0, none⟩) 1 1) 49 5 [I t, I 0, I bd, .bool false, .slice ad L.length c2] :: HO.row (.slice ad L.length c2) 3 1 (cat i1 (nts L)) :: (N3 ++ (N2 ++ N))) (fun q => L.length - q.1) (0, -1) ?_ ⟨Nat.zero_le _, .inl ⟨rfl, fun j hj => by omega⟩, rfl⟩ ?_
  · simp (config := { maxSteps := 4000000 }) only [↓sx0, ↓sx1, ↓sx2, ↓sx3, ↓sx4, ↓sx5, ↓sx6, sx0, sx1, sx2, sx3, sx4, sx5, sx6, tf4, ev3_hold, sxo, sxc, sxp, sxq, sxr, sxs, sxl, sxm, simprocAttr]
    try simp
  rintro ⟨i, th⟩ H1 gg1 hinv
  simp only [] at hinv
  obtain ⟨hi, hth, rfl⟩ := hinv
  by_cases hin : i = L.length
  · subst hin
    have e7 : ((L.length : Int) < (L.length : Int)) = False := eq_false (by omega)
    obtain ⟨a, ha, rfl, hat⟩ : ∃ a : Nat, a < L.length ∧ th = a ∧ L.getD a 0 = tc := by
      rcases hth with ⟨_, hno⟩ | h
      · obtain ⟨j, hj, hjt⟩ := hK.stay (by omega)
        exact absurd (hjt.trans gtc) (hno j hj)
      · exact h
    have e9 : ((a : Int) < 0) = False := eq_false (by omega)
    have ew1 : wr ((t : Int) + (a : Int)) = (t : Int) + (a : Int) := wrap_id (by omega)
    have ew2 : wr ((t : Int) + (L.length : Int)) = (t : Int) + (L.length : Int) := wrap_id (by omega)
    have ew3 : wr ((t : Int) + (L.length : Int) - 1) = (t : Int) + (L.length : Int) - 1 := wrap_id (by omega)
    refine ⟨?_⟩
    have hob := Vg.out_back hvok hK ha (hat.trans gtc.symm) hlast
    rw [gc, gd, gk, gt, gtc, gm] at hob
    have hr1 : mvR c bd (k : Int).toNat (t : Int) ((t : Int) + (a : Int)) = mvL c bd k t a := mvR_at
    have hr2 : mvR c bd (tc : Int).toNat ((t : Int) + (a : Int)) ((t : Int) + (L.length : Int) - 1) = mvL c bd tc (t + a) (L.length - 1 - a) := by
      have := mvR_at (c := c) (g := bd) (k := tc) (t := t + a) (n := L.length - 1 - a)
      rw [show ((t + a : Nat) : Int) = (t : Int) + a by omega, show (t : Int) + a + ((L.length - 1 - a : Nat) : Int) = (t : Int) + L.length - 1 by omega] at this
      exact this
    have ho1 : openE c [(k : Int)] [(t : Int), (t : Int) + (a : Int)] [bd] = 0 := by
      have := openE_at2 hok (k := k) (t := t) (u := t + a) (g := bd) (by omega) (by omega) (by omega) hbd
      rw [show ((t + a : Nat) : Int) = (t : Int) + a by omega] at this
      exact this
    have ho2 : openE c [(tc : Int)] [(t : Int) + (a : Int), (t : Int) + (L.length : Int) - 1] [bd] = 0 := by
      have := openE_at2 hok (k := tc) (t := t + a) (u := t + L.length - 1) (g := bd) (by omega) (by omega) (by omega) hbd
      rw [show ((t + a : Nat) : Int) = (t : Int) + a by omega, show ((t + L.length - 1 : Nat) : Int) = (t : Int) + L.length - 1 by omega] at this
      exact this
    have hmv1 := hmv bd k t ((t : Int) + (a : Int))
    have hmv2 := hmv bd tc ((t : Int) + (a : Int)) ((t : Int) + (L.length : Int) - 1)
    rw [hr1, ho1] at hmv1
    rw [hr2, ho2] at hmv2
    obtain ⟨ML, hML⟩ : ∃ ML, mvL c bd k t a = ML := ⟨_, rfl⟩
    obtain ⟨NL, hNL⟩ : ∃ NL, mvL c bd tc (t + a) (L.length - 1 - a) = NL := ⟨_, rfl⟩
    have hMl : ML.length = c.depth.length := by rw [← hML]; exact mvL_len ..
    have hNl : NL.length = c.depth.length := by rw [← hNL]; exact mvL_len ..
    rw [hML, hNL] at hob
    rw [hML] at hmv1
    rw [hNL] at hmv2
    have hm1 : ML[tc]? = some (lv ML tc) := getD_at (by omega) 0
    have hn1 : NL[k]? = some (lv NL k) := getD_at (by omega) 0
    obtain ⟨m1, hm1e⟩ : ∃ m1, lv ML tc = m1 := ⟨_, rfl⟩
    obtain ⟨n1, hn1e⟩ : ∃ n1, lv NL k = n1 := ⟨_, rfl⟩
    rw [hm1e] at hm1 hob
    rw [hn1e] at hn1 hob
    obtain ⟨hb1, hb2, hb3, hb4, hb5⟩ := hob
    simp (config := { maxSteps := 4000000 }) only [↓sx0, ↓sx1, ↓sx2, ↓sx3, ↓sx4, ↓sx5, ↓sx6, sx0, sx1, sx2, sx3, sx4, sx5, sx6, tf4, ev3_hold, sxo, sxc, sxp, sxq, sxr, sxs, sxl, sxm, simprocAttr, e7, e9, ew1, ew2, ew3, dn]
    refine CallOb.pureH (fun w' hp => hmv1 _ w' hp) ?_
    rintro q N5 (⟨hno, _⟩ | ⟨_, x1, rfl, hrow1⟩)
    · exact absurd rfl hno
    refine ⟨?_⟩
    simp (config := { maxSteps := 4000000 }) only [↓sx0, ↓sx1, ↓sx2, ↓sx3, ↓sx4, ↓sx5, ↓sx6, sx0, sx1, sx2, sx3, sx4, sx5, sx6, tf4, ev3_hold, sxo, sxc, sxp, sxq, sxr, sxs, sxl, sxm, simprocAttr, e7, e9, ew1, ew2, ew3, dn]
    refine CallOb.pureH (fun w' hp => hmv2 _ w' hp) ?_
    rintro q N6 (⟨hno, _⟩ | ⟨_, x2, rfl, hrow2⟩)
    · exact absurd rfl hno
    refine ⟨?_⟩
    simp (config := { maxSteps := 4000000 }) only [↓sx0, ↓sx1, ↓sx2, ↓sx3, ↓sx4, ↓sx5, ↓sx6, sx0, sx1, sx2, sx3, sx4, sx5, sx6, tf4, ev3_hold, sxo, sxc, sxp, sxq, sxr, sxs, sxl, sxm, simprocAttr, e7, e9, ew1, ew2, ew3, dn]
    have hcb := (clsB_iff _).1 hcl
    simp only [] at hcb
    have hP0 : 0 ≤ (m1 + n1) * bm := Int.mul_nonneg (by omega) (by omega)
    obtain ⟨PP, hPP⟩ : ∃ PP, (m1 + n1) * bm = PP := ⟨_, rfl⟩
    have eP1 : wr (m1 + n1) = m1 + n1 := wrap_id (by omega)
    have eP2 : wr ((m1 + n1) * bm) = PP := by rw [hPP]; exact wrap_id (by omega)
    have zA : (m1 ≥ 0) = True := eq_true (by omega)
    have zB : (n1 ≥ 0) = True := eq_true (by omega)
    have zC : (B ≥ PP) = True := eq_true (by omega)
    refine at_1 (k := tc) (row_rdv (E := 3) (v := .slice (some ⟨x1, 0, none⟩) c.depth.length c.depth.length) (xs := ints ML) (by simp [hrow1]) ⟨_, _, _, rfl, by rw [cat_len i1_len, hMl], fun h => by cases h⟩) i1_len hm1 rfl fun ad1 => ?_
    simp (config := { maxSteps := 4000000 }) only [↓sx0, ↓sx1, ↓sx2, ↓sx3, ↓sx4, ↓sx5, ↓sx6, sx0, sx1, sx2, sx3, sx4, sx5, sx6, tf4, ev3_hold, sxo, sxc, sxp, sxq, sxr, sxs, sxl, sxm, simprocAttr, e7, e9, ew1, ew2, ew3, dn]
    refine at_1 (k := k) (row_rdv (E := 3) (v := .slice (some ⟨x2, 0, none⟩) c.depth.length c.depth.length) (xs := ints NL) (by simp [hrow2]) ⟨_, _, _, rfl, by rw [cat_len i1_len, hNl], fun h => by cases h⟩) i1_len hn1 rfl fun ad2 => ?_
    simp (config := { maxSteps := 4000000 }) only [↓sx0, ↓sx1, ↓sx2, ↓sx3, ↓sx4, ↓sx5, ↓sx6, sx0, sx1, sx2, sx3, sx4, sx5, sx6, tf4, ev3_hold, sxo, sxc, sxp, sxq, sxr, sxs, sxl, sxm, simprocAttr, zA, zB, eP1, eP2, zC, dn]
    refine CallOb.pureH (fun w' hp => hro _ w' hp) ?_
    rintro q N7 rfl
    refine ⟨?_⟩
    simp (config := { maxSteps := 4000000 }) only [↓sx0, ↓sx1, ↓sx2, ↓sx3, ↓sx4, ↓sx5, ↓sx6, sx0, sx1, sx2, sx3, sx4, sx5, sx6, tf4, ev3_hold, sxo, sxc, sxp, sxq, sxr, sxs, sxl, sxm, simprocAttr]
    try rfl
  have e7 : ((i : Int) < (L.length : Int)) = True := eq_true (by omega)
  have e8 : wr (i + 1) = ((i + 1 : Nat) : Int) := (wrap_id (by omega)).trans (by omega)
  have hx1 := hget i (by omega)
  rw [hgl i (by omega)] at hx1
  obtain ⟨x, hx⟩ : ∃ x, L.getD i 0 = x := ⟨_, rfl⟩
  rw [hx] at hx1
  have hxl : x < c.depth.length := by rw [← hx, ← gc]; exact hK.lt i (by omega)
  refine ⟨?_⟩
  simp (config := { maxSteps := 4000000 }) only [↓sx0, ↓sx1, ↓sx2, ↓sx3, ↓sx4, ↓sx5, ↓sx6, sx0, sx1, sx2, sx3, sx4, sx5, sx6, tf4, ev3_hold, sxo, sxc, sxp, sxq, sxr, sxs, sxl, sxm, simprocAttr, e7, dn]
  refine amid (at_1 (k := i) (hgotr _ (by simp +contextual)) i1_len hx1 rfl fun ad1 => ?_)
  simp (config := { maxSteps := 4000000 }) only [↓sx0, ↓sx1, ↓sx2, ↓sx3, ↓sx4, ↓sx5, ↓sx6, sx0, sx1, sx2, sx3, sx4, sx5, sx6, tf4, ev3_hold, sxo, sxc, sxp, sxq, sxr, sxs, sxl, sxm, simprocAttr, dn]
  refine CallOb.pureH (fun w' hp => hfr _ _ hle x hxl _ w' hp (hlegs _ w' hp (by simp) (by simp))) ?_
  rintro q N5 ⟨fv, fl, rfl, hgf, hfree, hfl⟩
  obtain ⟨af, cf, rfl⟩ := hgf.shape
  have hnot : ∀ p ∈ fl, p.1 ≤ (t : Int) + i → ¬ (t : Int) + i ≤ p.2 := by
    intro p hp h1
    have := FreeP.not (g := g) (L := L) (i := i) (by omega) (by rw [hx]; exact hfree) hp
    rw [gt] at this
    exact this h1
  have ew0 : wr ((t : Int) + (i : Int)) = (t : Int) + (i : Int) := wrap_id (by omega)
  refine ⟨?_⟩
  simp (config := { maxSteps := 4000000 }) only [↓sx0, ↓sx1, ↓sx2, ↓sx3, ↓sx4, ↓sx5, ↓sx6, sx0, sx1, sx2, sx3, sx4, sx5, sx6, tf4, ev3_hold, sxo, sxc, sxp, sxq, sxr, sxs, sxl, sxm, simprocAttr, dn]
  refine loop_constH (N5 ++ HO.row (.slice (some ⟨b1, 0, none⟩) 1 1) 49 5 [I t, I 0, I bd, .bool false, .slice ad L.length c2] :: HO.row (.slice ad L.length c2) 3 1 (cat i1 (nts L)) :: (N3 ++ (N2 ++ N))) (HImp.refl _ _) [(15, 15), (93, 120)] (fun q : Nat => [(15, I q)])
    (fun q H1 => q ≤ fl.length ∧ H1 = N5 ++ HO.row (.slice (some ⟨b1, 0, none⟩) 1 1) 49 5 [I t, I 0, I bd, .bool false, .slice ad L.length c2] :: HO.row (.slice ad L.length c2) 3 1 (cat i1 (nts L)) :: (N3 ++ (N2 ++ N))) (fun q => fl.length - q) 0 ?_ ⟨Nat.zero_le _, rfl⟩ ?_
  · simp (config := { maxSteps := 4000000 }) only [↓sx0, ↓sx1, ↓sx2, ↓sx3, ↓sx4, ↓sx5, ↓sx6, sx0, sx1, sx2, sx3, sx4, sx5, sx6, tf4, ev3_hold, sxo, sxc, sxp, sxq, sxr, sxs, sxl, sxm, simprocAttr]
    try simp
  rintro j H1 gg2 hinv
  obtain ⟨hj, rfl⟩ := hinv
  by_cases hjn : j = fl.length
  · subst hjn
    have f7 : ((fl.length : Int) < (fl.length : Int)) = False := eq_false (by omega)
    by_cases hxt : x = tc
    · have z5 : ((x : Int) = (tc : Int)) = True := eq_true (by omega)
      refine ⟨?_⟩
      simp (config := { maxSteps := 4000000 }) only [↓sx0, ↓sx1, ↓sx2, ↓sx3, ↓sx4, ↓sx5, ↓sx6, sx0, sx1, sx2, sx3, sx4, sx5, sx6, tf4, ev3_hold, sxo, sxc, sxp, sxq, sxr, sxs, sxl, sxm, simprocAttr, f7, dn]
      refine at_1 (k := i) (hgotr _ (by simp +contextual)) i1_len hx1 rfl fun ad2 => ?_
      simp (config := { maxSteps := 4000000 }) only [↓sx0, ↓sx1, ↓sx2, ↓sx3, ↓sx4, ↓sx5, ↓sx6, sx0, sx1, sx2, sx3, sx4, sx5, sx6, tf4, ev3_hold, sxo, sxc, sxp, sxq, sxr, sxs, sxl, sxm, simprocAttr, z5, e8, dn]
      refine ⟨(i + 1, (i : Int)), _, by first | exact ⟨rfl, rfl⟩ | rfl, HImp.app _ _ _, ⟨by simp only []; omega, .inr ⟨i, by simp only []; omega, rfl, by rw [hx]; exact hxt⟩, rfl⟩, by simp only []; omega⟩
    · have z5 : ((x : Int) = (tc : Int)) = False := eq_false (by omega)
      refine ⟨?_⟩
      simp (config := { maxSteps := 4000000 }) only [↓sx0, ↓sx1, ↓sx2, ↓sx3, ↓sx4, ↓sx5, ↓sx6, sx0, sx1, sx2, sx3, sx4, sx5, sx6, tf4, ev3_hold, sxo, sxc, sxp, sxq, sxr, sxs, sxl, sxm, simprocAttr, f7, dn]
      refine at_1 (k := i) (hgotr _ (by simp +contextual)) i1_len hx1 rfl fun ad2 => ?_
      simp (config := { maxSteps := 4000000 }) only [↓sx0, ↓sx1, ↓sx2, ↓sx3, ↓sx4, ↓sx5, ↓sx6, sx0, sx1, sx2, sx3, sx4, sx5, sx6, tf4, ev3_hold, sxo, sxc, sxp, sxq, sxr, sxs, sxl, sxm, simprocAttr, z5, e8, dn]
      refine ⟨(i + 1, th), _, by first | exact ⟨rfl, rfl⟩ | rfl, HImp.app _ _ _, ⟨by simp only []; omega, ?_, rfl⟩, by simp only []; omega⟩
      simp only []
      rcases hth with ⟨h1, h2⟩ | ⟨a, h1, h2, h3⟩
      · refine .inl ⟨h1, fun y hy => ?_⟩
        by_cases e : y = i
        · subst e
          rw [hx]
          exact hxt
        · exact h2 y (by omega)
      · exact .inr ⟨a, by omega, h2, h3⟩
  have f7 : ((j : Int) < (fl.length : Int)) = True := eq_true (by omega)
  have f8 : wr (j + 1) = ((j + 1 : Nat) : Int) := (wrap_id (by omega)).trans (by omega)
  obtain ⟨p, hp⟩ : ∃ p, fl[j]? = some p := ⟨_, List.getElem?_eq_getElem (by omega)⟩
  have hnp := hnot p (List.mem_of_getElem? hp)
  obtain ⟨lo, hi2⟩ := p
  simp only [] at hnp
  by_cases hlo : lo ≤ (t : Int) + i
  · have z6 : (lo ≤ (t : Int) + i) = True := eq_true hlo
    have z7 : ((t : Int) + i ≤ hi2) = False := eq_false (hnp hlo)
    refine ⟨?_⟩
    simp (config := { maxSteps := 4000000 }) only [↓sx0, ↓sx1, ↓sx2, ↓sx3, ↓sx4, ↓sx5, ↓sx6, sx0, sx1, sx2, sx3, sx4, sx5, sx6, tf4, ev3_hold, sxo, sxc, sxp, sxq, sxr, sxs, sxl, sxm, simprocAttr, f7, ew0, dn]
    refine amid (at_f (hgf.rdv spc_len (by simp +contextual)) spc_len hp (o := 0) (x := I lo) rfl fun ad2 => ?_)
    simp (config := { maxSteps := 4000000 }) only [↓sx0, ↓sx1, ↓sx2, ↓sx3, ↓sx4, ↓sx5, ↓sx6, sx0, sx1, sx2, sx3, sx4, sx5, sx6, tf4, ev3_hold, sxo, sxc, sxp, sxq, sxr, sxs, sxl, sxm, simprocAttr, z6, ew0, dn]
    refine at_f (hgf.rdv spc_len (by simp +contextual)) spc_len hp (o := 1) (x := I hi2) rfl fun ad3 => ?_
    simp (config := { maxSteps := 4000000 }) only [↓sx0, ↓sx1, ↓sx2, ↓sx3, ↓sx4, ↓sx5, ↓sx6, sx0, sx1, sx2, sx3, sx4, sx5, sx6, tf4, ev3_hold, sxo, sxc, sxp, sxq, sxr, sxs, sxl, sxm, simprocAttr, z7, f8, dn]
    exact ⟨j + 1, _, by first | exact ⟨rfl, rfl⟩ | rfl, HImp.refl _ _, ⟨by omega, rfl⟩, by omega⟩
  · have z6 : (lo ≤ (t : Int) + i) = False := eq_false hlo
    refine ⟨?_⟩
    simp (config := { maxSteps := 4000000 }) only [↓sx0, ↓sx1, ↓sx2, ↓sx3, ↓sx4, ↓sx5, ↓sx6, sx0, sx1, sx2, sx3, sx4, sx5, sx6, tf4, ev3_hold, sxo, sxc, sxp, sxq, sxr, sxs, sxl, sxm, simprocAttr, f7, ew0, dn]
    refine amid (at_f (hgf.rdv spc_len (by simp +contextual)) spc_len hp (o := 0) (x := I lo) rfl fun ad2 => ?_)
    simp (config := { maxSteps := 4000000 }) only [↓sx0, ↓sx1, ↓sx2, ↓sx3, ↓sx4, ↓sx5, ↓sx6, sx0, sx1, sx2, sx3, sx4, sx5, sx6, tf4, ev3_hold, sxo, sxc, sxp, sxq, sxr, sxs, sxl, sxm, simprocAttr, z6, ew0, f8, dn]
    exact ⟨j + 1, _, by first | exact ⟨rfl, rfl⟩ | rfl, HImp.refl _ _, ⟨by omega, rfl⟩, by omega⟩
end Go.Proofs.YtogicfoigeongaaGreatDoor
