/- A part of a proof: the symbolic walk and what it shows of single functions. -/
import Derived.Test.YtcnlbnccbnapbaaDoorSsH
import Derived.Test.YtcnlbnccbnapbaaDoorSqF
set_option linter.all false
namespace Go.Proofs.YtcnlbnccbnapbaaDoor
open Go.RowKit Go.SX
set_option maxRecDepth 10000
set_option maxHeartbeats 0
set_option linter.unusedSimpArgs false
set_option linter.unusedVariables false
theorem Best_uniq {g : Vg} {rdy : Nat → Bool} {m m' : Nat} {B B' : Int} (a : g.Best rdy m B) (b : g.Best rdy m' B') : B = B' ∧ m = m' := by
  have h1 := a.least _ _ b.lt b.isr b.r
  have h2 := b.least _ _ a.lt a.isr a.r
  have h3 := Int.le_antisymm h1.1 h2.1
  exact ⟨h3, Nat.le_antisymm (h1.2 h3.symm) (h2.2 h3)⟩
def pl3_3 : Plan := (ones [3, 5, 7, 9] (.ld 0 (.ld 2 (.ld 4 (.ld 6 (.ld 8 (.ld 10 (.pre 16 (ones [1, 11, 12, 13, 14, 15, 16, 17] (.kl 18 (ones [19] .fin)))))))))))
def pl3 : List (Nat × Plan) := [(3, pl3_3)]
theorem pl3_lk : (lkO 3 pl3 = some pl3_3) := rfl
theorem launchDecides_fn (w : World) (hw : Ways w) (v : Value) (c : Cht) (hc : ChOk w v c) (b : Cls) (o : Ord5) :
    SX.Fn Tryd.prog 3 [v, clv b, orv o] w (fun _ => False) fun r N => r = .bool true := by
  have hc0 := hc
  have hwk := fun (H : List HO) w' (hp : Hp ⟨w, fun _ => False⟩ H w') => works5_fn w' (hw.hp hp)
  have z0 : (((0 : Nat) : Int) = 0) = True := eq_true rfl
  obtain ⟨r, t, f, tc, ts⟩ := o
  have hgg1 := fun (hsm : c.small) (v' : Value) w' (h : Ways w') (hc : ChOk w' v' c) => go5_fn w' h v' c hc hsm b r t f tc ts
  have hde1 := fun (hsm : c.small) (H : List HO) w' (hp : Hp ⟨w, fun _ => False⟩ H w') => rDecide_fn w' (hw.hp hp) v c (hc0.hp hp) hsm b r t f tc ts
  have hiv : ∀ (he : goE c b r t f tc ts = 0) (x : Value) (L : List Nat) (B : Int) (hvy : (Vg.of c b r t tc ts).isVy (rdyB c b r) (nts L)) (hvb : (Vg.of c b r t tc ts).vbn (nts L) L.length = B) (hb : L.length ≤ 1000) w' (hx : Sl w' x 1 (ints (nts L))) (H : List HO) (hp : Hp ⟨w, fun _ => False⟩ H w'), SX.Fn Tryd.prog 19 [v, clv b, rmv r, I t, .agg #[I tc, I ts], x] w' (fun _ => False) fun q N => q = .tuple #[I B, .bool true] := by
    intro he x L B hvy hvb hb w' hx H hp
    have hok := Vg.of_ok he
    obtain ⟨hsta, htc, hts⟩ := goE_zero he
    obtain ⟨_, hcls, hrmp, htt, hff⟩ := staE_zero hsta
    have hrc := ramp_cell hrmp
    have h1 := isVoyage_fn w' (hw.hp hp) v (Vg.of c b r t tc ts) hok (hc0.hp hp) r hrmp (show r.cell = ((r.cell.toNat : Nat) : Int) by omega) x (nts L) hx (by rw [nts_length]; exact hb)
    have e1 : (((Vg.of c b r t tc ts).t : Nat) : Int) = t := Int.toNat_of_nonneg htt.1
    have e2 : (((Vg.of c b r t tc ts).tc : Nat) : Int) = tc := Int.toNat_of_nonneg htc.1
    have e3 : (((Vg.of c b r t tc ts).ts : Nat) : Int) = ts := Int.toNat_of_nonneg hts.1
    rw [e1, e2, e3] at h1
    refine Fn.mono h1 fun q N ⟨B', bl, h2, h3, h4⟩ => ?_
    have hbl := h3.2 hvy
    rw [h2, h4 hbl, hbl, nts_length, hvb]
  obtain ⟨sD, sT, sS, rfl, hsD, hsT, hsS⟩ := hc
  have dn : ∀ (g : Nat) (xs : List Value), det0 g xs = none := fun _ _ => rfl
  unfold orv
  unfold clv rmv at hgg1 hde1 hiv
  unfold clv
  refine walk [8] pl3 (det0_ok _ _) Tryd.func3 rfl Tryd.ntmps3 res3 (by kernel_rfl) no_facts ?_
  simp (config := { maxSteps := 4000000 }) only [↓sx0, ↓sx1, ↓sx2, ↓sx3, ↓sx4, ↓sx5, ↓sx6, sx0, sx1, sx2, sx3, sx4, sx5, sx6, tf3, ev3_hold, sxo, sxc, sxp, sxq, sxr, sxs, sxl, sxm, Int.reduceBEq, Int.reduceBNe, Int.reduceLT, Int.reduceLE, Int.reduceEq, Int.reduceGT, Int.reduceGE, Int.reduceToNat, ↓reduceIte, List.reduceReplicate, Nat.reduceAdd, Nat.reduceSub, Nat.reduceMul, Nat.reduceLT, Nat.reduceLeDiff, Nat.reduceBEq, Nat.reduceEqDiff, dn]
  refine CallOb.pureH (fun w' hp => vast_fn w' _ c (hc0.hp hp)) ?_
  rintro r0 N0 ⟨vb, rfl, hb⟩
  cases vb with
  | true =>
    refine ⟨?_⟩
    simp (config := { maxSteps := 4000000 }) only [↓sx0, ↓sx1, ↓sx2, ↓sx3, ↓sx4, ↓sx5, ↓sx6, sx0, sx1, sx2, sx3, sx4, sx5, sx6, tf3, ev3_hold, sxo, sxc, sxp, sxq, sxr, sxs, sxl, sxm, Int.reduceBEq, Int.reduceBNe, Int.reduceLT, Int.reduceLE, Int.reduceEq, Int.reduceGT, Int.reduceGE, Int.reduceToNat, ↓reduceIte, List.reduceReplicate, Nat.reduceAdd, Nat.reduceSub, Nat.reduceMul, Nat.reduceLT, Nat.reduceLeDiff, Nat.reduceBEq, Nat.reduceEqDiff, dn]
    refine CallOb.pureH (fun w' hp => hwk _ w' hp) ?_
    rintro rW NW rfl
    refine ⟨?_⟩
    simp (config := { maxSteps := 4000000 }) only [↓sx0, ↓sx1, ↓sx2, ↓sx3, ↓sx4, ↓sx5, ↓sx6, sx0, sx1, sx2, sx3, sx4, sx5, sx6, tf3, ev3_hold, sxo, sxc, sxp, sxq, sxr, sxs, sxl, sxm, Int.reduceBEq, Int.reduceBNe, Int.reduceLT, Int.reduceLE, Int.reduceEq, Int.reduceGT, Int.reduceGE, Int.reduceToNat, ↓reduceIte, List.reduceReplicate, Nat.reduceAdd, Nat.reduceSub, Nat.reduceMul, Nat.reduceLT, Nat.reduceLeDiff, Nat.reduceBEq, Nat.reduceEqDiff]
  | false =>
  have hf := (hb rfl).1
  have hsm := few_small hf
  have hgg := hgg1 hsm
  have hde := hde1 hsm
  refine ⟨?_⟩
  simp (config := { maxSteps := 4000000 }) only [↓sx0, ↓sx1, ↓sx2, ↓sx3, ↓sx4, ↓sx5, ↓sx6, sx0, sx1, sx2, sx3, sx4, sx5, sx6, tf3, ev3_hold, sxo, sxc, sxp, sxq, sxr, sxs, sxl, sxm, Int.reduceBEq, Int.reduceBNe, Int.reduceLT, Int.reduceLE, Int.reduceEq, Int.reduceGT, Int.reduceGE, Int.reduceToNat, ↓reduceIte, List.reduceReplicate, Nat.reduceAdd, Nat.reduceSub, Nat.reduceMul, Nat.reduceLT, Nat.reduceLeDiff, Nat.reduceBEq, Nat.reduceEqDiff, dn, pl3_lk, pl3_3]
  refine CallOb.pureH (fun w' hp => copy_fn w' _ c (hc0.hp hp) hf) ?_
  rintro q N1 ⟨x1, y1, z1, rfl, gx, gy, gz⟩
  obtain ⟨aX, cX, rfl⟩ := gx.shape
  obtain ⟨aY, cY, rfl⟩ := gy.shape
  obtain ⟨aZ, cZ, rfl⟩ := gz.shape
  refine ⟨?_⟩
  simp (config := { maxSteps := 4000000 }) only [↓sx0, ↓sx1, ↓sx2, ↓sx3, ↓sx4, ↓sx5, ↓sx6, sx0, sx1, sx2, sx3, sx4, sx5, sx6, tf3, ev3_hold, sxo, sxc, sxp, sxq, sxr, sxs, sxl, sxm, Int.reduceBEq, Int.reduceBNe, Int.reduceLT, Int.reduceLE, Int.reduceEq, Int.reduceGT, Int.reduceGE, Int.reduceToNat, ↓reduceIte, List.reduceReplicate, Nat.reduceAdd, Nat.reduceSub, Nat.reduceMul, Nat.reduceLT, Nat.reduceLeDiff, Nat.reduceBEq, Nat.reduceEqDiff, dn, pl3_lk, pl3_3]
  refine CallOb.pureH (fun w' hp => hgg _ w' (hw.hp hp) (got_ch gx gy gz (fun h hh => by simp [hh]) hp)) ?_
  rintro q N2 hG
  obtain ⟨E, hE⟩ : ∃ E, goE c b r t f tc ts = E := ⟨_, rfl⟩
  have hsh : ∃ why x B, q = .tuple #[I why, .agg #[x, I B], I E] ∧ (∃ a n cp, x = .slice a n cp) ∧ (((E ≠ 0 ∧ why = 0) ∨ (E = 0 ∧ why ≠ 0 ∧ (Vg.of c b r t tc ts).Why (rdyB c b r) f why)) ∧ x = .slice none 0 0 ∧ B = 0 ∨ (E = 0 ∧ why = 0 ∧ ∃ L m, L.length = m + 1 ∧ Got x 3 1 i1 (nts L) N2 ∧ (Vg.of c b r t tc ts).isVy (rdyB c b r) (nts L) ∧ (Vg.of c b r t tc ts).vbn (nts L) L.length = B ∧ (Vg.of c b r t tc ts).Ans (rdyB c b r) f 0 ∧ (Vg.of c b r t tc ts).Best (rdyB c b r) m B)) := by
    rcases hG with ⟨h, rfl⟩ | ⟨h0, ⟨why, rfl, h⟩ | ⟨k1, k2, m, B, L, x, k3, k4, k5, k6, rfl, k7⟩⟩
    · rw [hE] at h ⊢
      exact ⟨0, _, _, rfl, ⟨_, _, _, rfl⟩, .inl ⟨.inl ⟨h, rfl⟩, rfl, rfl⟩⟩
    · rw [hE] at h0
      subst h0
      refine ⟨why, _, _, rfl, ⟨_, _, _, rfl⟩, .inl ⟨.inr ⟨rfl, ?_, h⟩, rfl, rfl⟩⟩
      rcases h with ⟨h, _⟩ | ⟨_, ⟨h, _⟩ | ⟨_, ⟨h, _⟩ | ⟨h, _⟩⟩⟩ <;> omega
    · have h0' := h0
      rw [hE] at h0
      subst h0
      obtain ⟨ax, cx, hx⟩ := k7.shape
      have h7 := Vg.PE_vy h0' k1 k3 k4 k5
      exact ⟨0, x, B, rfl, ⟨_, _, _, hx⟩, .inr ⟨rfl, rfl, L, m, k5, k7, h7.1, h7.2, .inr ⟨rfl, k1, k2, m, B, k3, k6⟩, k3⟩⟩
  obtain ⟨why, x, B, rfl, ⟨a, n, cp, rfl⟩, hcase⟩ := hsh
  rw [hE] at hde
  clear hG hgg1 hde1 hgg
  refine ⟨?_⟩
  simp (config := { maxSteps := 4000000 }) only [↓sx0, ↓sx1, ↓sx2, ↓sx3, ↓sx4, ↓sx5, ↓sx6, sx0, sx1, sx2, sx3, sx4, sx5, sx6, tf3, ev3_hold, sxo, sxc, sxp, sxq, sxr, sxs, sxl, sxm, Int.reduceBEq, Int.reduceBNe, Int.reduceLT, Int.reduceLE, Int.reduceEq, Int.reduceGT, Int.reduceGE, Int.reduceToNat, ↓reduceIte, List.reduceReplicate, Nat.reduceAdd, Nat.reduceSub, Nat.reduceMul, Nat.reduceLT, Nat.reduceLeDiff, Nat.reduceBEq, Nat.reduceEqDiff, pl3_lk, pl3_3]
  intro b8
  refine wr_cell (A := []) rfl (by simp) ?_
  simp (config := { maxSteps := 4000000 }) only [↓sx0, ↓sx1, ↓sx2, ↓sx3, ↓sx4, ↓sx5, ↓sx6, sx0, sx1, sx2, sx3, sx4, sx5, sx6, tf3, ev3_hold, sxo, sxc, sxp, sxq, sxr, sxs, sxl, sxm, Int.reduceBEq, Int.reduceBNe, Int.reduceLT, Int.reduceLE, Int.reduceEq, Int.reduceGT, Int.reduceGE, Int.reduceToNat, ↓reduceIte, List.reduceReplicate, Nat.reduceAdd, Nat.reduceSub, Nat.reduceMul, Nat.reduceLT, Nat.reduceLeDiff, Nat.reduceBEq, Nat.reduceEqDiff, dn, List.take, List.drop, List.length_cons, List.length_nil, List.nil_append, pl3_lk, pl3_3]
  refine CallOb.pureH (fun w' hp => hde _ w' hp) ?_
  rintro q N3 ⟨wy, bn, en, rfl, hD1, hD2⟩
  rcases hcase with ⟨hw1, hxn, rfl⟩ | ⟨rfl, rfl, L, m, hLm, hGx, hvy, hvb, hans, hbest⟩
  · injection hxn with h1 h2 h3
    subst h1 h2 h3
    rcases hw1 with ⟨hE0, rfl⟩ | ⟨rfl, hwy, hW⟩
    · have hwy0 := hD1 hE0
      subst hwy0
      have p1 : (E = 0) = False := eq_false hE0
      refine ⟨?_⟩
      simp (config := { maxSteps := 4000000 }) only [↓sx0, ↓sx1, ↓sx2, ↓sx3, ↓sx4, ↓sx5, ↓sx6, sx0, sx1, sx2, sx3, sx4, sx5, sx6, tf3, ev3_hold, sxo, sxc, sxp, sxq, sxr, sxs, sxl, sxm, Int.reduceBEq, Int.reduceBNe, Int.reduceLT, Int.reduceLE, Int.reduceEq, Int.reduceGT, Int.reduceGE, Int.reduceToNat, ↓reduceIte, List.reduceReplicate, Nat.reduceAdd, Nat.reduceSub, Nat.reduceMul, Nat.reduceLT, Nat.reduceLeDiff, Nat.reduceBEq, Nat.reduceEqDiff, p1]
      refine ld_cella (b := b8) (o := 0) (T := 37) (cs := [.slice none 0 0, I 0]) (List.mem_append_right _ List.mem_cons_self) rfl ?_
      simp (config := { maxSteps := 4000000 }) only [↓sx0, ↓sx1, ↓sx2, ↓sx3, ↓sx4, ↓sx5, ↓sx6, sx0, sx1, sx2, sx3, sx4, sx5, sx6, tf3, ev3_hold, sxo, sxc, sxp, sxq, sxr, sxs, sxl, sxm, Int.reduceBEq, Int.reduceBNe, Int.reduceLT, Int.reduceLE, Int.reduceEq, Int.reduceGT, Int.reduceGE, Int.reduceToNat, ↓reduceIte, List.reduceReplicate, Nat.reduceAdd, Nat.reduceSub, Nat.reduceMul, Nat.reduceLT, Nat.reduceLeDiff, Nat.reduceBEq, Nat.reduceEqDiff, z0]
      refine ld_cella (b := b8) (o := 1) (T := 37) (cs := [.slice none 0 0, I 0]) (List.mem_append_right _ List.mem_cons_self) rfl ?_
      simp (config := { maxSteps := 4000000 }) only [↓sx0, ↓sx1, ↓sx2, ↓sx3, ↓sx4, ↓sx5, ↓sx6, sx0, sx1, sx2, sx3, sx4, sx5, sx6, tf3, ev3_hold, sxo, sxc, sxp, sxq, sxr, sxs, sxl, sxm, Int.reduceBEq, Int.reduceBNe, Int.reduceLT, Int.reduceLE, Int.reduceEq, Int.reduceGT, Int.reduceGE, Int.reduceToNat, ↓reduceIte, List.reduceReplicate, Nat.reduceAdd, Nat.reduceSub, Nat.reduceMul, Nat.reduceLT, Nat.reduceLeDiff, Nat.reduceBEq, Nat.reduceEqDiff, dn]
      refine CallOb.pureH (fun w' hp => hwk _ w' hp) ?_
      rintro rW NW rfl
      refine ⟨?_⟩
      simp (config := { maxSteps := 4000000 }) only [↓sx0, ↓sx1, ↓sx2, ↓sx3, ↓sx4, ↓sx5, ↓sx6, sx0, sx1, sx2, sx3, sx4, sx5, sx6, tf3, ev3_hold, sxo, sxc, sxp, sxq, sxr, sxs, sxl, sxm, Int.reduceBEq, Int.reduceBNe, Int.reduceLT, Int.reduceLE, Int.reduceEq, Int.reduceGT, Int.reduceGE, Int.reduceToNat, ↓reduceIte, List.reduceReplicate, Nat.reduceAdd, Nat.reduceSub, Nat.reduceMul, Nat.reduceLT, Nat.reduceLeDiff, Nat.reduceBEq, Nat.reduceEqDiff]
    · have hu := Vg.Ans.uniq (.inl hW) (hD2 rfl).ans
      subst hu
      have p1 : (why = 0) = False := eq_false hwy
      refine ⟨?_⟩
      simp (config := { maxSteps := 4000000 }) only [↓sx0, ↓sx1, ↓sx2, ↓sx3, ↓sx4, ↓sx5, ↓sx6, sx0, sx1, sx2, sx3, sx4, sx5, sx6, tf3, ev3_hold, sxo, sxc, sxp, sxq, sxr, sxs, sxl, sxm, Int.reduceBEq, Int.reduceBNe, Int.reduceLT, Int.reduceLE, Int.reduceEq, Int.reduceGT, Int.reduceGE, Int.reduceToNat, ↓reduceIte, List.reduceReplicate, Nat.reduceAdd, Nat.reduceSub, Nat.reduceMul, Nat.reduceLT, Nat.reduceLeDiff, Nat.reduceBEq, Nat.reduceEqDiff, p1]
      refine ld_cella (b := b8) (o := 0) (T := 37) (cs := [.slice none 0 0, I 0]) (List.mem_append_right _ List.mem_cons_self) rfl ?_
      simp (config := { maxSteps := 4000000 }) only [↓sx0, ↓sx1, ↓sx2, ↓sx3, ↓sx4, ↓sx5, ↓sx6, sx0, sx1, sx2, sx3, sx4, sx5, sx6, tf3, ev3_hold, sxo, sxc, sxp, sxq, sxr, sxs, sxl, sxm, Int.reduceBEq, Int.reduceBNe, Int.reduceLT, Int.reduceLE, Int.reduceEq, Int.reduceGT, Int.reduceGE, Int.reduceToNat, ↓reduceIte, List.reduceReplicate, Nat.reduceAdd, Nat.reduceSub, Nat.reduceMul, Nat.reduceLT, Nat.reduceLeDiff, Nat.reduceBEq, Nat.reduceEqDiff, z0]
      refine ld_cella (b := b8) (o := 1) (T := 37) (cs := [.slice none 0 0, I 0]) (List.mem_append_right _ List.mem_cons_self) rfl ?_
      simp (config := { maxSteps := 4000000 }) only [↓sx0, ↓sx1, ↓sx2, ↓sx3, ↓sx4, ↓sx5, ↓sx6, sx0, sx1, sx2, sx3, sx4, sx5, sx6, tf3, ev3_hold, sxo, sxc, sxp, sxq, sxr, sxs, sxl, sxm, Int.reduceBEq, Int.reduceBNe, Int.reduceLT, Int.reduceLE, Int.reduceEq, Int.reduceGT, Int.reduceGE, Int.reduceToNat, ↓reduceIte, List.reduceReplicate, Nat.reduceAdd, Nat.reduceSub, Nat.reduceMul, Nat.reduceLT, Nat.reduceLeDiff, Nat.reduceBEq, Nat.reduceEqDiff, dn]
      refine CallOb.pureH (fun w' hp => hwk _ w' hp) ?_
      rintro rW NW rfl
      refine ⟨?_⟩
      simp (config := { maxSteps := 4000000 }) only [↓sx0, ↓sx1, ↓sx2, ↓sx3, ↓sx4, ↓sx5, ↓sx6, sx0, sx1, sx2, sx3, sx4, sx5, sx6, tf3, ev3_hold, sxo, sxc, sxp, sxq, sxr, sxs, sxl, sxm, Int.reduceBEq, Int.reduceBNe, Int.reduceLT, Int.reduceLE, Int.reduceEq, Int.reduceGT, Int.reduceGE, Int.reduceToNat, ↓reduceIte, List.reduceReplicate, Nat.reduceAdd, Nat.reduceSub, Nat.reduceMul, Nat.reduceLT, Nat.reduceLeDiff, Nat.reduceBEq, Nat.reduceEqDiff]
  · have hR := hD2 rfl
    have hu := Vg.Ans.uniq hans hR.ans
    subst hu
    rcases hR with ⟨hW, _⟩ | ⟨_, _, _, m', hbest', _, rfl⟩
    · rcases hW with ⟨h, _⟩ | ⟨_, ⟨h, _⟩ | ⟨_, ⟨h, _⟩ | ⟨h, _⟩⟩⟩ <;> omega
    obtain ⟨rfl, rfl⟩ := Best_uniq hbest hbest'
    have hok := Vg.of_ok hE
    obtain ⟨hsta, _, _⟩ := goE_zero hE
    obtain ⟨hcok, _, _, htt, _⟩ := staE_zero hsta
    have h60 := hcok.2.2.2.1
    have hlt := hbest.lt
    have hgt : (Vg.of c b r t tc ts).t = t.toNat := rfl
    have hgc : (Vg.of c b r t tc ts).c = c := rfl
    rw [hgc] at hlt
    obtain ⟨ax, cx, hsx⟩ := hGx.shape
    rw [nts_length] at hsx
    injection hsx with hs1 hs2 hs3
    subst hs1 hs2 hs3
    have hiv1 := hiv hE (.slice a L.length cp) L B hvy hvb (by omega)
    have w1 : wr (t + (L.length : Int)) = t + (L.length : Int) := wrap_id (by omega)
    have w2 : wr (t + (L.length : Int) - 1) = (((Vg.of c b r t tc ts).t + m : Nat) : Int) := (wrap_id (by omega)).trans (by omega)
    refine ⟨?_⟩
    simp (config := { maxSteps := 4000000 }) only [↓sx0, ↓sx1, ↓sx2, ↓sx3, ↓sx4, ↓sx5, ↓sx6, sx0, sx1, sx2, sx3, sx4, sx5, sx6, tf3, ev3_hold, sxo, sxc, sxp, sxq, sxr, sxs, sxl, sxm, Int.reduceBEq, Int.reduceBNe, Int.reduceLT, Int.reduceLE, Int.reduceEq, Int.reduceGT, Int.reduceGE, Int.reduceToNat, ↓reduceIte, List.reduceReplicate, Nat.reduceAdd, Nat.reduceSub, Nat.reduceMul, Nat.reduceLT, Nat.reduceLeDiff, Nat.reduceBEq, Nat.reduceEqDiff]
    refine ld_cella (b := b8) (o := 0) (T := 37) (cs := [.slice a L.length cp, I B]) (List.mem_append_right _ List.mem_cons_self) rfl ?_
    simp (config := { maxSteps := 4000000 }) only [↓sx0, ↓sx1, ↓sx2, ↓sx3, ↓sx4, ↓sx5, ↓sx6, sx0, sx1, sx2, sx3, sx4, sx5, sx6, tf3, ev3_hold, sxo, sxc, sxp, sxq, sxr, sxs, sxl, sxm, Int.reduceBEq, Int.reduceBNe, Int.reduceLT, Int.reduceLE, Int.reduceEq, Int.reduceGT, Int.reduceGE, Int.reduceToNat, ↓reduceIte, List.reduceReplicate, Nat.reduceAdd, Nat.reduceSub, Nat.reduceMul, Nat.reduceLT, Nat.reduceLeDiff, Nat.reduceBEq, Nat.reduceEqDiff, dn]
    refine CallOb.pureH (fun w' hp => hiv1 w' (hGx.hp (fun h hh => by simp [hh]) hp) _ hp) ?_
    rintro q N4 rfl
    refine ⟨?_⟩
    simp (config := { maxSteps := 4000000 }) only [↓sx0, ↓sx1, ↓sx2, ↓sx3, ↓sx4, ↓sx5, ↓sx6, sx0, sx1, sx2, sx3, sx4, sx5, sx6, tf3, ev3_hold, sxo, sxc, sxp, sxq, sxr, sxs, sxl, sxm, Int.reduceBEq, Int.reduceBNe, Int.reduceLT, Int.reduceLE, Int.reduceEq, Int.reduceGT, Int.reduceGE, Int.reduceToNat, ↓reduceIte, List.reduceReplicate, Nat.reduceAdd, Nat.reduceSub, Nat.reduceMul, Nat.reduceLT, Nat.reduceLeDiff, Nat.reduceBEq, Nat.reduceEqDiff]
    refine ld_cella (b := b8) (o := 1) (T := 37) (cs := [.slice a L.length cp, I B]) (List.mem_append_right _ (List.mem_append_right _ List.mem_cons_self)) rfl ?_
    simp (config := { maxSteps := 4000000 }) only [↓sx0, ↓sx1, ↓sx2, ↓sx3, ↓sx4, ↓sx5, ↓sx6, sx0, sx1, sx2, sx3, sx4, sx5, sx6, tf3, ev3_hold, sxo, sxc, sxp, sxq, sxr, sxs, sxl, sxm, Int.reduceBEq, Int.reduceBNe, Int.reduceLT, Int.reduceLE, Int.reduceEq, Int.reduceGT, Int.reduceGE, Int.reduceToNat, ↓reduceIte, List.reduceReplicate, Nat.reduceAdd, Nat.reduceSub, Nat.reduceMul, Nat.reduceLT, Nat.reduceLeDiff, Nat.reduceBEq, Nat.reduceEqDiff]
    refine ld_cella (b := b8) (o := 0) (T := 37) (cs := [.slice a L.length cp, I B]) (List.mem_append_right _ (List.mem_append_right _ List.mem_cons_self)) rfl ?_
    simp (config := { maxSteps := 4000000 }) only [↓sx0, ↓sx1, ↓sx2, ↓sx3, ↓sx4, ↓sx5, ↓sx6, sx0, sx1, sx2, sx3, sx4, sx5, sx6, tf3, ev3_hold, sxo, sxc, sxp, sxq, sxr, sxs, sxl, sxm, Int.reduceBEq, Int.reduceBNe, Int.reduceLT, Int.reduceLE, Int.reduceEq, Int.reduceGT, Int.reduceGE, Int.reduceToNat, ↓reduceIte, List.reduceReplicate, Nat.reduceAdd, Nat.reduceSub, Nat.reduceMul, Nat.reduceLT, Nat.reduceLeDiff, Nat.reduceBEq, Nat.reduceEqDiff, w1, w2, dn]
    refine CallOb.pureH (fun w' hp => hwk _ w' hp) ?_
    rintro rW NW rfl
    refine ⟨?_⟩
    simp (config := { maxSteps := 4000000 }) only [↓sx0, ↓sx1, ↓sx2, ↓sx3, ↓sx4, ↓sx5, ↓sx6, sx0, sx1, sx2, sx3, sx4, sx5, sx6, tf3, ev3_hold, sxo, sxc, sxp, sxq, sxr, sxs, sxl, sxm, Int.reduceBEq, Int.reduceBNe, Int.reduceLT, Int.reduceLE, Int.reduceEq, Int.reduceGT, Int.reduceGE, Int.reduceToNat, ↓reduceIte, List.reduceReplicate, Nat.reduceAdd, Nat.reduceSub, Nat.reduceMul, Nat.reduceLT, Nat.reduceLeDiff, Nat.reduceBEq, Nat.reduceEqDiff]
end Go.Proofs.YtcnlbnccbnapbaaDoor
