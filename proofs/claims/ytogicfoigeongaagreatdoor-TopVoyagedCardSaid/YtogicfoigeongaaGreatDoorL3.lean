/- Parts of a proof: the symbolic walk and what it shows of single functions. -/
import Derived.Test.YtogicfoigeongaaGreatDoorL2
import Derived.Test.YtogicfoigeongaaGreatDoorC4
set_option linter.all false
namespace Go.Proofs.YtogicfoigeongaaGreatDoor
open Go.RowKit Go.SX
set_option maxRecDepth 10000
set_option maxHeartbeats 0
set_option linter.unusedSimpArgs false
set_option linter.unusedVariables false
theorem clT_none {a b : Lg} {t : Nat} (h : a.stp t = none ∨ b.stp t = none) : clT a b t = false := by
  unfold clT
  rcases h with h | h
  · rw [h]
  · rw [h]
    cases a.stp t <;> rfl
theorem clT_some {a b : Lg} {t : Nat} {s o : Sp} (h1 : a.stp t = some s) (h2 : b.stp t = some o) : clT a b t = s.cl o := by
  unfold clT
  rw [h1, h2]
theorem opt_or {α : Type} (x : Option α) : x = none ∨ ∃ s, x = some s := by
  cases x with
  | none => exact .inl rfl
  | some s => exact .inr ⟨s, rfl⟩
theorem clO_hit {T : Nat} {ls : List Lg} {i k t : Nat} {a b : Lg} (ha : ls.getD i lg0 = a) (hb : ls.getD k lg0 = b) (ht : t < T) (h : clT a b t = true) (h0 : ∀ j, j < t → clT a b j = false) : clO T ls i k = [(i, k, t)] := by
  unfold clO
  rw [ha, hb, fst_hit ht h h0]
theorem clO_no {T : Nat} {ls : List Lg} {i k : Nat} {a b : Lg} (ha : ls.getD i lg0 = a) (hb : ls.getD k lg0 = b) (h0 : ∀ j, j < T → clT a b j = false) : clO T ls i k = [] := by
  unfold clO
  rw [ha, hb, fst_no h0]
theorem clR_len (T : Nat) (ls : List Lg) (i : Nat) : ∀ n, (clR T ls i n).length ≤ n
  | 0 => by simp [clR]
  | n + 1 => by
    have h1 := clR_len T ls i n
    have h2 : (clO T ls i (i + 1 + n)).length ≤ 1 := by
      unfold clO
      split <;> simp
    rw [clR, List.length_append]
    omega
theorem clA_len (T : Nat) (ls : List Lg) : ∀ n, (clA T ls n).length ≤ n * ls.length
  | 0 => by simp [clA]
  | n + 1 => by
    have h1 := clA_len T ls n
    have h2 := clR_len T ls n (ls.length - (n + 1))
    rw [clA, List.length_append, Nat.add_mul]
    omega
theorem lclashes_fn (w : World) (hw : Ways w) (sD sT sS vl : Value) (c : Cht) (hc : ChOk w (.agg #[I c.wide, I c.high, sD, sT, sS]) c) (hsm : c.small) (hok : c.ok) (ls : List Lg) (hls : LegsOk w vl ls) (hl12 : ls.length ≤ 12) (hle : ∀ l ∈ ls, l.Ok c) :
    SX.Fn Tryz.prog 21 [.agg #[I c.wide, I c.high, sD, sT, sS], vl] w (fun _ => False) fun q N => ∃ v, q = .tuple #[v, I 0] ∧ Got v 68 3 tric (clA c.tide.length ls ls.length) N := by
  have dn : ∀ (g : Nat) (xs : List Value), det0 g xs = none := fun _ _ => rfl
  have hop := fun (H : List HO) w' (hp : Hp ⟨w, fun _ => False⟩ H w') => lopen_fn w' (hw.hp hp) sD sT sS vl c (hc.hp hp) hsm hok ls (hls.hp hp) hl12 hle
  have hT60 : c.tide.length ≤ 60 := hok.2.2.2.1.2
  obtain ⟨sD', sT', sS', he, hsD, hsT, hsS⟩ := hc
  injection he with he
  injection he with he
  simp only [List.cons.injEq, true_and, and_true] at he
  obtain ⟨rfl, rfl, rfl⟩ := he
  obtain ⟨aT, nT, cT, rfl⟩ := hsT.shape
  have hnT := hsT.le spc_len (by omega)
  subst hnT
  obtain ⟨ps, hps, hsl, hpc⟩ := hls
  obtain ⟨aL, nL, cL, rfl⟩ := hsl.shape
  have hnL := hsl.le lqc_len (by omega)
  have hpl : ps.length = ls.length := by rw [← hps, List.length_map]
  subst hnL
  have hr := fun H => hsl.rd0 H
  have hat := fun (p : Lq) (hp : p ∈ ps) (t : Nat) (ht : t < c.tide.length) (H : List HO) w' (hp' : Hp ⟨w, fun _ => False⟩ H w') => by
    have hok1 := hle p.1 (by rw [← hps]; exact List.mem_map_of_mem hp)
    have h0 := hok1.at0
    have h1 := hok1.at1
    have h2 := hok1.len
    exact lat_fn w' p (Sl.hp (w0 := ⟨w, fun _ => False⟩) (hpc p hp) (fun _ _ => id) hp') (by omega) (by omega) t (by omega)
  have hgl : ∀ (i : Nat) p, ps[i]? = some p → ls.getD i lg0 = p.1 := fun i p hi => by
    rw [List.getD_eq_getElem?_getD, ← hps, List.getElem?_map, hi]
    rfl
  obtain ⟨T, hT⟩ : ∃ T, c.tide.length = T := ⟨_, rfl⟩
  simp only [hT] at hT60 hat hop ⊢
  rw [← hpl]
  have hRl := clR_len T ls
  have hAl := clA_len T ls
  rw [← hpl] at hAl hl12
  have hAs : ∀ i, clA T ls (i + 1) = clA T ls i ++ clR T ls i (ps.length - (i + 1)) := fun i => by rw [clA, hpl]
  have hRs : ∀ i n, clR T ls i (n + 1) = clR T ls i n ++ clO T ls i (i + 1 + n) := fun i n => rfl
  have hA0 : clA T ls 0 = [] := rfl
  have hR0 : ∀ i, clR T ls i 0 = [] := fun i => rfl
  obtain ⟨A, hA⟩ : ∃ A, clA T ls = A := ⟨_, rfl⟩
  obtain ⟨R, hR⟩ : ∃ R, clR T ls = R := ⟨_, rfl⟩
  rw [hA] at hAl hAs hA0 ⊢
  rw [hR] at hRl hAs hRs hR0
  unfold TrN at hop
  refine walk [] [] (det0_ok _ _) Tryz.func21 rfl Tryz.ntmps21 res21 (by kernel_rfl) no_facts ?_
  simp (config := { maxSteps := 4000000 }) only [↓sx0, ↓sx1, ↓sx2, ↓sx3, ↓sx4, ↓sx5, ↓sx6, sx0, sx1, sx2, sx3, sx4, sx5, sx6, tf21, ev3_hold, sxo, sxc, sxp, sxq, sxr, sxs, sxl, sxm, simprocAttr, dn]
  refine CallOb.pureH (fun w' hp => hop _ w' hp) ?_
  rintro q N0 ⟨bx, vn, rfl, _, _⟩
  refine ⟨?_⟩
  simp (config := { maxSteps := 4000000 }) only [↓sx0, ↓sx1, ↓sx2, ↓sx3, ↓sx4, ↓sx5, ↓sx6, sx0, sx1, sx2, sx3, sx4, sx5, sx6, tf21, ev3_hold, sxo, sxc, sxp, sxq, sxr, sxs, sxl, sxm, simprocAttr]
  refine loop_constH [HO.row (.slice none 0 0) 68 3 (cat tric (A 0))] (by rw [hA0]; exact (HImp.nil _ _).trans (HImp.nilRow _ _ _ _)) [(8, 16), (28, 79)] (fun s : Nat × Option Addr × Nat => [(8, .slice s.2.1 (A s.1).length s.2.2), (28, I s.1)])
    (fun s H1 => s.1 ≤ ps.length ∧ (s.2.1 = none → A s.1 = []) ∧ H1 = [HO.row (.slice s.2.1 (A s.1).length s.2.2) 68 3 (cat tric (A s.1))]) (fun s => ps.length - s.1) (0, none, 0) ?_ ⟨Nat.zero_le _, fun _ => hA0, by rw [hA0]; rfl⟩ ?_
  · simp (config := { maxSteps := 4000000 }) only [↓sx0, ↓sx1, ↓sx2, ↓sx3, ↓sx4, ↓sx5, ↓sx6, sx0, sx1, sx2, sx3, sx4, sx5, sx6, tf21, ev3_hold, sxo, sxc, sxp, sxq, sxr, sxs, sxl, sxm, simprocAttr]
    simp [hA0]
  rintro ⟨i, ao, co⟩ H1 g1 hinv
  simp only [] at hinv
  obtain ⟨hi, hnil, rfl⟩ := hinv
  by_cases hin : i = ps.length
  · have e7 : ((i : Int) < (ps.length : Int)) = False := eq_false (by omega)
    subst hin
    refine ⟨?_⟩
    simp (config := { maxSteps := 4000000 }) only [↓sx0, ↓sx1, ↓sx2, ↓sx3, ↓sx4, ↓sx5, ↓sx6, sx0, sx1, sx2, sx3, sx4, sx5, sx6, tf21, ev3_hold, sxo, sxc, sxp, sxq, sxr, sxs, sxl, sxm, simprocAttr, e7]
    exact ⟨_, rfl, Got.row rfl List.mem_cons_self hnil⟩
  have e7 : ((i : Int) < (ps.length : Int)) = True := eq_true (by omega)
  have e8 : wr ((i : Int) + 1) = ((i + 1 : Nat) : Int) := (wrap_id (by omega)).trans (by omega)
  have e8' : wr ((i : Int) + 1) = ((i + 1 + 0 : Nat) : Int) := e8
  obtain ⟨p, hp⟩ : ∃ p, ps[i]? = some p := ⟨_, List.getElem?_eq_getElem (by omega)⟩
  have hpm := List.mem_of_getElem? hp
  have hpx : lqc p = [I p.1.at_, I p.1.lv, I p.1.dr, .bool p.1.tail, lqs p] := rfl
  have hop1 : (lqs p).oneCell' = true := rfl
  have hgp := hgl i p hp
  have hatp := hat p hpm
  unfold lqv at hatp
  rw [hpx] at hatp
  refine ⟨?_⟩
  simp (config := { maxSteps := 4000000 }) only [↓sx0, ↓sx1, ↓sx2, ↓sx3, ↓sx4, ↓sx5, ↓sx6, sx0, sx1, sx2, sx3, sx4, sx5, sx6, tf21, ev3_hold, sxo, sxc, sxp, sxq, sxr, sxs, sxl, sxm, simprocAttr, e7]
  refine amid (at_n (hr _) lqc_len (by omega) hp fun ad => ?_)
  simp (config := { maxSteps := 4000000 }) only [↓sx0, ↓sx1, ↓sx2, ↓sx3, ↓sx4, ↓sx5, ↓sx6, sx0, sx1, sx2, sx3, sx4, sx5, sx6, tf21, ev3_hold, sxo, sxc, sxp, sxq, sxr, sxs, sxl, sxm, simprocAttr, hpx, hop1, ↓Wsc, Wsc, e8']
  refine loop_constH [HO.row (.slice ao (A i ++ R i 0).length co) 68 3 (cat tric (A i ++ R i 0))] (by rw [hR0, List.append_nil]; exact HImp.refl _ _) [(8, 8), (11, 16), (35, 78)] (fun s : Nat × Option Addr × Nat => [(8, .slice s.2.1 (A i ++ R i s.1).length s.2.2), (11, I ((i + 1 + s.1 : Nat) : Int))])
    (fun s H2 => i + 1 + s.1 ≤ ps.length ∧ (s.2.1 = none → A i ++ R i s.1 = []) ∧ H2 = [HO.row (.slice s.2.1 (A i ++ R i s.1).length s.2.2) 68 3 (cat tric (A i ++ R i s.1))]) (fun s => ps.length - (i + 1 + s.1)) (0, ao, co) ?_ ⟨by simp only []; omega, by simp only []; rw [hR0, List.append_nil]; exact hnil, rfl⟩ ?_
  · simp (config := { maxSteps := 4000000 }) only [↓sx0, ↓sx1, ↓sx2, ↓sx3, ↓sx4, ↓sx5, ↓sx6, sx0, sx1, sx2, sx3, sx4, sx5, sx6, tf21, ev3_hold, sxo, sxc, sxp, sxq, sxr, sxs, sxl, sxm, simprocAttr]
    simp [hR0]
  rintro ⟨n, a2, c2⟩ H2 g2 hinv2
  simp only [] at hinv2
  obtain ⟨hn, hnil2, rfl⟩ := hinv2
  obtain ⟨k, hk⟩ : ∃ k, i + 1 + n = k := ⟨_, rfl⟩
  have hRsn := hRs i n
  rw [hk] at hRsn hn ⊢
  by_cases hkn : k = ps.length
  · have f7 : ((k : Int) < (ps.length : Int)) = False := eq_false (by omega)
    have hAi : A i ++ R i n = A (i + 1) := by rw [hAs, show ps.length - (i + 1) = n by omega]
    rw [hAi] at hnil2 ⊢
    refine ⟨?_⟩
    simp (config := { maxSteps := 4000000 }) only [↓sx0, ↓sx1, ↓sx2, ↓sx3, ↓sx4, ↓sx5, ↓sx6, sx0, sx1, sx2, sx3, sx4, sx5, sx6, tf21, ev3_hold, sxo, sxc, sxp, sxq, sxr, sxs, sxl, sxm, simprocAttr, f7, e8]
    exact ⟨(i + 1, a2, c2), _, ⟨rfl, rfl⟩, HImp.refl _ _, ⟨by simp only []; omega, hnil2, rfl⟩, by simp only []; omega⟩
  have f7 : ((k : Int) < (ps.length : Int)) = True := eq_true (by omega)
  have f8 : wr ((k : Int) + 1) = ((i + 1 + (n + 1) : Nat) : Int) := (wrap_id (by omega)).trans (by omega)
  obtain ⟨r, hr2⟩ : ∃ r, ps[k]? = some r := ⟨_, List.getElem?_eq_getElem (by omega)⟩
  have hrm := List.mem_of_getElem? hr2
  have hrx : lqc r = [I r.1.at_, I r.1.lv, I r.1.dr, .bool r.1.tail, lqs r] := rfl
  have hor1 : (lqs r).oneCell' = true := rfl
  have hgr := hgl k r hr2
  have hatr := hat r hrm
  unfold lqv at hatr
  rw [hrx] at hatr
  obtain ⟨C, hC⟩ : ∃ C : Nat → Bool, ∀ t, clT p.1 r.1 t = C t := ⟨_, fun _ => rfl⟩
  have hhit := fun (t : Nat) (ht : t < T) (h : C t = true) (h0 : ∀ j, j < t → C j = false) => clO_hit (T := T) hgp hgr ht (by rw [hC]; exact h) (fun j hj => by rw [hC]; exact h0 j hj)
  have hno := fun (h0 : ∀ j, j < T → C j = false) => clO_no (T := T) hgp hgr (fun j hj => by rw [hC]; exact h0 j hj)
  have hcn := fun (t : Nat) (h : p.1.stp t = none ∨ r.1.stp t = none) => (hC t).symm.trans (clT_none h)
  have hcs := fun (t : Nat) (s o : Sp) (h1 : p.1.stp t = some s) (h2 : r.1.stp t = some o) => (hC t).symm.trans (clT_some h1 h2)
  obtain ⟨B, hB⟩ : ∃ B, A i ++ R i n = B := ⟨_, rfl⟩
  have hBl : B.length ≤ 1000 := by
    have h1 := hRl i n
    have h2 := hAl i
    have h3 : i * ps.length ≤ 12 * 12 := Nat.mul_le_mul (by omega) hl12
    have h4 : ls.length ≤ 12 := by omega
    have h5 : i * ls.length ≤ 12 * 12 := Nat.mul_le_mul (by omega) h4
    rw [← hB, List.length_append]
    first | omega | (rw [hpl] at h3; omega)
  have hBn : A i ++ R i (n + 1) = B ++ clO T ls i k := by rw [hRsn, ← List.append_assoc, hB]
  rw [hB] at hnil2 ⊢
  refine ⟨?_⟩
  simp (config := { maxSteps := 4000000 }) only [↓sx0, ↓sx1, ↓sx2, ↓sx3, ↓sx4, ↓sx5, ↓sx6, sx0, sx1, sx2, sx3, sx4, sx5, sx6, tf21, ev3_hold, sxo, sxc, sxp, sxq, sxr, sxs, sxl, sxm, simprocAttr, f7, hT]
  refine loop_constH [HO.row (.slice a2 B.length c2) 68 3 (cat tric B)] (HImp.refl _ _) [(8, 8), (12, 16), (44, 78)] (fun t : Nat => [(8, .slice a2 B.length c2), (44, I t)])
    (fun t H3 => t ≤ T ∧ H3 = [HO.row (.slice a2 B.length c2) 68 3 (cat tric B)] ∧ ∀ j, j < t → C j = false) (fun t => T - t) 0 ?_ ⟨Nat.zero_le _, rfl, fun j h => by omega⟩ ?_
  · simp (config := { maxSteps := 4000000 }) only [↓sx0, ↓sx1, ↓sx2, ↓sx3, ↓sx4, ↓sx5, ↓sx6, sx0, sx1, sx2, sx3, sx4, sx5, sx6, tf21, ev3_hold, sxo, sxc, sxp, sxq, sxr, sxs, sxl, sxm, simprocAttr]
    try simp
  rintro t H3 g3 ⟨ht, rfl, hall⟩
  by_cases htn : t = T
  · have h7 : ((t : Int) < (T : Int)) = False := eq_false (by omega)
    have hB2 : A i ++ R i (n + 1) = B := by rw [hBn, hno (fun j hj => hall j (by omega)), List.append_nil]
    refine ⟨?_⟩
    simp (config := { maxSteps := 4000000 }) only [↓sx0, ↓sx1, ↓sx2, ↓sx3, ↓sx4, ↓sx5, ↓sx6, sx0, sx1, sx2, sx3, sx4, sx5, sx6, tf21, ev3_hold, sxo, sxc, sxp, sxq, sxr, sxs, sxl, sxm, simprocAttr, h7, f8]
    exact ⟨(n + 1, a2, c2), _, by simp only []; rw [hB2]; first | exact ⟨rfl, trivial⟩ | exact ⟨rfl, rfl⟩ | rfl, HImp.refl _ _, ⟨by simp only []; omega, by simp only []; rw [hB2]; exact hnil2, by simp only []; rw [hB2]⟩, by simp only []; omega⟩
  have h7 : ((t : Int) < (T : Int)) = True := eq_true (by omega)
  have h8 : wr ((t : Int) + 1) = ((t + 1 : Nat) : Int) := (wrap_id (by omega)).trans (by omega)
  have hp1 := hatp t (by omega)
  have hr1 := hatr t (by omega)
  have hcnt := hcn t
  have hcst := hcs t
  have hmore : C t = false → ∀ j, j < t + 1 → C j = false := fun h j hj => by
    by_cases hjt : j = t
    · rw [hjt]; exact h
    · exact hall j (by omega)
  obtain ⟨SA, hSA⟩ : ∃ SA, p.1.stp t = SA := ⟨_, rfl⟩
  obtain ⟨SB, hSB⟩ : ∃ SB, r.1.stp t = SB := ⟨_, rfl⟩
  rw [hSA] at hp1 hcnt hcst
  rw [hSB] at hr1 hcnt hcst
  clear hSA hSB
  rcases opt_or SA with rfl | ⟨⟨s1, s2, s3, s4⟩, rfl⟩
  · rcases opt_or SB with rfl | ⟨⟨o1, o2, o3, o4⟩, rfl⟩
    · unfold stpV at hp1 hr1
      refine ⟨?_⟩
      simp (config := { maxSteps := 4000000 }) only [↓sx0, ↓sx1, ↓sx2, ↓sx3, ↓sx4, ↓sx5, ↓sx6, sx0, sx1, sx2, sx3, sx4, sx5, sx6, tf21, ev3_hold, sxo, sxc, sxp, sxq, sxr, sxs, sxl, sxm, simprocAttr, h7, dn]
      refine CallOb.pureH (fun w' hp => hp1 _ w' hp) ?_
      rintro q N1 rfl
      refine ⟨?_⟩
      simp (config := { maxSteps := 4000000 }) only [↓sx0, ↓sx1, ↓sx2, ↓sx3, ↓sx4, ↓sx5, ↓sx6, sx0, sx1, sx2, sx3, sx4, sx5, sx6, tf21, ev3_hold, sxo, sxc, sxp, sxq, sxr, sxs, sxl, sxm, simprocAttr, f7]
      refine amid (at_n (hr _) lqc_len (by omega) hr2 fun ad => ?_)
      simp (config := { maxSteps := 4000000 }) only [↓sx0, ↓sx1, ↓sx2, ↓sx3, ↓sx4, ↓sx5, ↓sx6, sx0, sx1, sx2, sx3, sx4, sx5, sx6, tf21, ev3_hold, sxo, sxc, sxp, sxq, sxr, sxs, sxl, sxm, simprocAttr, hrx, hor1, dn]
      refine CallOb.pureH (fun w' hp => hr1 _ w' hp) ?_
      rintro q N2 rfl
      refine ⟨?_⟩
      simp (config := { maxSteps := 4000000 }) only [↓sx0, ↓sx1, ↓sx2, ↓sx3, ↓sx4, ↓sx5, ↓sx6, sx0, sx1, sx2, sx3, sx4, sx5, sx6, tf21, ev3_hold, sxo, sxc, sxp, sxq, sxr, sxs, sxl, sxm, simprocAttr, h8]
      exact ⟨t + 1, _, rfl, HImp.sub (by simp), ⟨by omega, rfl, hmore (hcnt (.inl rfl))⟩, by omega⟩
    · unfold stpV spv at hr1
      unfold stpV at hp1
      refine ⟨?_⟩
      simp (config := { maxSteps := 4000000 }) only [↓sx0, ↓sx1, ↓sx2, ↓sx3, ↓sx4, ↓sx5, ↓sx6, sx0, sx1, sx2, sx3, sx4, sx5, sx6, tf21, ev3_hold, sxo, sxc, sxp, sxq, sxr, sxs, sxl, sxm, simprocAttr, h7, dn]
      refine CallOb.pureH (fun w' hp => hp1 _ w' hp) ?_
      rintro q N1 rfl
      refine ⟨?_⟩
      simp (config := { maxSteps := 4000000 }) only [↓sx0, ↓sx1, ↓sx2, ↓sx3, ↓sx4, ↓sx5, ↓sx6, sx0, sx1, sx2, sx3, sx4, sx5, sx6, tf21, ev3_hold, sxo, sxc, sxp, sxq, sxr, sxs, sxl, sxm, simprocAttr, f7]
      refine amid (at_n (hr _) lqc_len (by omega) hr2 fun ad => ?_)
      simp (config := { maxSteps := 4000000 }) only [↓sx0, ↓sx1, ↓sx2, ↓sx3, ↓sx4, ↓sx5, ↓sx6, sx0, sx1, sx2, sx3, sx4, sx5, sx6, tf21, ev3_hold, sxo, sxc, sxp, sxq, sxr, sxs, sxl, sxm, simprocAttr, hrx, hor1, dn]
      refine CallOb.pureH (fun w' hp => hr1 _ w' hp) ?_
      rintro q N2 rfl
      refine ⟨?_⟩
      simp (config := { maxSteps := 4000000 }) only [↓sx0, ↓sx1, ↓sx2, ↓sx3, ↓sx4, ↓sx5, ↓sx6, sx0, sx1, sx2, sx3, sx4, sx5, sx6, tf21, ev3_hold, sxo, sxc, sxp, sxq, sxr, sxs, sxl, sxm, simprocAttr, h8]
      exact ⟨t + 1, _, rfl, HImp.sub (by simp), ⟨by omega, rfl, hmore (hcnt (.inl rfl))⟩, by omega⟩
  · rcases opt_or SB with rfl | ⟨⟨o1, o2, o3, o4⟩, rfl⟩
    · unfold stpV spv at hp1
      unfold stpV at hr1
      refine ⟨?_⟩
      simp (config := { maxSteps := 4000000 }) only [↓sx0, ↓sx1, ↓sx2, ↓sx3, ↓sx4, ↓sx5, ↓sx6, sx0, sx1, sx2, sx3, sx4, sx5, sx6, tf21, ev3_hold, sxo, sxc, sxp, sxq, sxr, sxs, sxl, sxm, simprocAttr, h7, dn]
      refine CallOb.pureH (fun w' hp => hp1 _ w' hp) ?_
      rintro q N1 rfl
      refine ⟨?_⟩
      simp (config := { maxSteps := 4000000 }) only [↓sx0, ↓sx1, ↓sx2, ↓sx3, ↓sx4, ↓sx5, ↓sx6, sx0, sx1, sx2, sx3, sx4, sx5, sx6, tf21, ev3_hold, sxo, sxc, sxp, sxq, sxr, sxs, sxl, sxm, simprocAttr, f7]
      refine amid (at_n (hr _) lqc_len (by omega) hr2 fun ad => ?_)
      simp (config := { maxSteps := 4000000 }) only [↓sx0, ↓sx1, ↓sx2, ↓sx3, ↓sx4, ↓sx5, ↓sx6, sx0, sx1, sx2, sx3, sx4, sx5, sx6, tf21, ev3_hold, sxo, sxc, sxp, sxq, sxr, sxs, sxl, sxm, simprocAttr, hrx, hor1, dn]
      refine CallOb.pureH (fun w' hp => hr1 _ w' hp) ?_
      rintro q N2 rfl
      refine ⟨?_⟩
      simp (config := { maxSteps := 4000000 }) only [↓sx0, ↓sx1, ↓sx2, ↓sx3, ↓sx4, ↓sx5, ↓sx6, sx0, sx1, sx2, sx3, sx4, sx5, sx6, tf21, ev3_hold, sxo, sxc, sxp, sxq, sxr, sxs, sxl, sxm, simprocAttr, h8]
      exact ⟨t + 1, _, rfl, HImp.sub (by simp), ⟨by omega, rfl, hmore (hcnt (.inr rfl))⟩, by omega⟩
    · have hct := hcst _ _ rfl rfl
      have hcl := fun w' => lcl_fn w' ⟨s1, s2, s3, s4⟩ ⟨o1, o2, o3, o4⟩
      obtain ⟨Q, hQ⟩ : ∃ Q, (⟨s1, s2, s3, s4⟩ : Sp).cl ⟨o1, o2, o3, o4⟩ = Q := ⟨_, rfl⟩
      rw [hQ] at hct hcl
      unfold stpV spv at hp1 hr1
      unfold spv at hcl
      cases Q with
      | false =>
        refine ⟨?_⟩
        simp (config := { maxSteps := 4000000 }) only [↓sx0, ↓sx1, ↓sx2, ↓sx3, ↓sx4, ↓sx5, ↓sx6, sx0, sx1, sx2, sx3, sx4, sx5, sx6, tf21, ev3_hold, sxo, sxc, sxp, sxq, sxr, sxs, sxl, sxm, simprocAttr, h7, dn]
        refine CallOb.pureH (fun w' hp => hp1 _ w' hp) ?_
        rintro q N1 rfl
        refine ⟨?_⟩
        simp (config := { maxSteps := 4000000 }) only [↓sx0, ↓sx1, ↓sx2, ↓sx3, ↓sx4, ↓sx5, ↓sx6, sx0, sx1, sx2, sx3, sx4, sx5, sx6, tf21, ev3_hold, sxo, sxc, sxp, sxq, sxr, sxs, sxl, sxm, simprocAttr, f7]
        refine amid (at_n (hr _) lqc_len (by omega) hr2 fun ad => ?_)
        simp (config := { maxSteps := 4000000 }) only [↓sx0, ↓sx1, ↓sx2, ↓sx3, ↓sx4, ↓sx5, ↓sx6, sx0, sx1, sx2, sx3, sx4, sx5, sx6, tf21, ev3_hold, sxo, sxc, sxp, sxq, sxr, sxs, sxl, sxm, simprocAttr, hrx, hor1, dn]
        refine CallOb.pureH (fun w' hp => hr1 _ w' hp) ?_
        rintro q N2 rfl
        refine ⟨?_⟩
        simp (config := { maxSteps := 4000000 }) only [↓sx0, ↓sx1, ↓sx2, ↓sx3, ↓sx4, ↓sx5, ↓sx6, sx0, sx1, sx2, sx3, sx4, sx5, sx6, tf21, ev3_hold, sxo, sxc, sxp, sxq, sxr, sxs, sxl, sxm, simprocAttr, dn]
        refine CallOb.pureH (fun w' hp => hcl w') ?_
        rintro q N3 rfl
        refine ⟨?_⟩
        simp (config := { maxSteps := 4000000 }) only [↓sx0, ↓sx1, ↓sx2, ↓sx3, ↓sx4, ↓sx5, ↓sx6, sx0, sx1, sx2, sx3, sx4, sx5, sx6, tf21, ev3_hold, sxo, sxc, sxp, sxq, sxr, sxs, sxl, sxm, simprocAttr, h8]
        exact ⟨t + 1, _, rfl, HImp.sub (by simp), ⟨by omega, rfl, hmore hct⟩, by omega⟩
      | true =>
        have hB2 : A i ++ R i (n + 1) = B ++ [(i, k, t)] := by rw [hBn, hhit t (by omega) hct hall]
        have hB3 : (A i ++ R i (n + 1)).length = B.length + 1 := by rw [hB2, List.length_append]; rfl
        refine ⟨?_⟩
        simp (config := { maxSteps := 4000000 }) only [↓sx0, ↓sx1, ↓sx2, ↓sx3, ↓sx4, ↓sx5, ↓sx6, sx0, sx1, sx2, sx3, sx4, sx5, sx6, tf21, ev3_hold, sxo, sxc, sxp, sxq, sxr, sxs, sxl, sxm, simprocAttr, h7, dn]
        refine CallOb.pureH (fun w' hp => hp1 _ w' hp) ?_
        rintro q N1 rfl
        refine ⟨?_⟩
        simp (config := { maxSteps := 4000000 }) only [↓sx0, ↓sx1, ↓sx2, ↓sx3, ↓sx4, ↓sx5, ↓sx6, sx0, sx1, sx2, sx3, sx4, sx5, sx6, tf21, ev3_hold, sxo, sxc, sxp, sxq, sxr, sxs, sxl, sxm, simprocAttr, f7]
        refine amid (at_n (hr _) lqc_len (by omega) hr2 fun ad => ?_)
        simp (config := { maxSteps := 4000000 }) only [↓sx0, ↓sx1, ↓sx2, ↓sx3, ↓sx4, ↓sx5, ↓sx6, sx0, sx1, sx2, sx3, sx4, sx5, sx6, tf21, ev3_hold, sxo, sxc, sxp, sxq, sxr, sxs, sxl, sxm, simprocAttr, hrx, hor1, dn]
        refine CallOb.pureH (fun w' hp => hr1 _ w' hp) ?_
        rintro q N2 rfl
        refine ⟨?_⟩
        simp (config := { maxSteps := 4000000 }) only [↓sx0, ↓sx1, ↓sx2, ↓sx3, ↓sx4, ↓sx5, ↓sx6, sx0, sx1, sx2, sx3, sx4, sx5, sx6, tf21, ev3_hold, sxo, sxc, sxp, sxq, sxr, sxs, sxl, sxm, simprocAttr, dn]
        refine CallOb.pureH (fun w' hp => hcl w') ?_
        rintro q N3 rfl
        refine ⟨?_⟩
        simp (config := { maxSteps := 4000000 }) only [↓sx0, ↓sx1, ↓sx2, ↓sx3, ↓sx4, ↓sx5, ↓sx6, sx0, sx1, sx2, sx3, sx4, sx5, sx6, tf21, ev3_hold, sxo, sxc, sxp, sxq, sxr, sxs, sxl, sxm, simprocAttr]
        intro b9
        refine app_one (A := []) (f := tric) (l := B) (i, k, t) (HImp.sub (by simp)) tric_len tric_one (by omega) fun a9 c9 => ?_
        simp (config := { maxSteps := 4000000 }) only [↓sx0, ↓sx1, ↓sx2, ↓sx3, ↓sx4, ↓sx5, ↓sx6, sx0, sx1, sx2, sx3, sx4, sx5, sx6, tf21, ev3_hold, sxo, sxc, sxp, sxq, sxr, sxs, sxl, sxm, simprocAttr, f8]
        exact ⟨(n + 1, some a9, c9), _, by first | (simp only []; rw [hB3]; exact ⟨rfl, rfl⟩) | (rw [hB3]; first | exact ⟨rfl, trivial⟩ | exact ⟨rfl, rfl⟩ | rfl), HImp.refl _ _, ⟨by first | omega | (simp only []; omega), (fun h => by cases h), by first | rw [hB3, hB2] | (simp only []; rw [hB3, hB2])⟩, by first | omega | (simp only []; omega)⟩
end Go.Proofs.YtogicfoigeongaaGreatDoor

namespace Go.Proofs.YtogicfoigeongaaGreatDoor
open Go.RowKit Go.SX
set_option maxRecDepth 10000
set_option maxHeartbeats 0
set_option linter.unusedSimpArgs false
set_option linter.unusedVariables false
def exLeg : List Lg := [⟨0, 0, 20, false, [4, 5, 10, 9]⟩, ⟨1, 0, 20, true, [10, 5, 6]⟩, ⟨0, 1, 0, false, [6, 5, 4]⟩]
theorem exLeg_ok : ∀ l ∈ exLeg, l.Ok exC := by
  have key : ∀ l ∈ exLeg, (0 < l.cells.length ∧ l.cells.length ≤ exC.tide.length ∧ 0 ≤ l.at_ ∧ l.at_ + l.cells.length ≤ exC.tide.length ∧ kindB l.lv l.dr = true) ∧ (∀ x ∈ l.cells, 0 ≤ x ∧ x < (exC.depth.length : Int)) ∧ (∀ i : Fin l.cells.length, fltB exC l.lv l.dr (l.at_.toNat + i.val) (lv l.cells i.val).toNat = true) ∧ (∀ i : Fin l.cells.length, 0 < i.val → (lv l.cells i.val).toNat ∈ nbL exC.W exC.H (lv l.cells (i.val - 1)).toNat) := by decide +kernel
  intro l hl
  obtain ⟨⟨h1, h2, h3, h4, h5⟩, h6, h7, h8⟩ := key l hl
  exact ⟨h1, h2, h3, h4, h5, h6, fun i hi => h7 ⟨i, hi⟩, fun i h0 hi => h8 ⟨i, hi⟩ h0⟩
theorem exLeg_cl : clA exC.tide.length exLeg exLeg.length = [(0, 1, 2)] := by decide +kernel
theorem ex_open6 : openE exC [4, 10] [0] [20] = 0 := by
  unfold openE
  rw [(okB_iff _).2 exC_ok]
  decide
theorem ex_sets6 : (setN exC 20 4 0 2).getD 10 false = true ∧ ∀ j, j < 2 → (setN exC 20 4 0 j).getD 10 false = false := by
  refine ⟨by decide +kernel, fun j hj => ?_⟩
  have : j = 0 ∨ j = 1 := by omega
  rcases this with rfl | rfl <;> decide +kernel
theorem ex_path6 : nts (pth exC (setL exC 20 4 0 3) 10 2) = [4, 5, 10] := by decide +kernel
def exQ (b4 b5 b6 : Nat) : List Lq := [(⟨0, 0, 20, false, [4, 5, 10, 9]⟩, some ⟨b4, 0, none⟩, 4, 4), (⟨1, 0, 20, true, [10, 5, 6]⟩, some ⟨b5, 0, none⟩, 3, 3), (⟨0, 1, 0, false, [6, 5, 4]⟩, some ⟨b6, 0, none⟩, 3, 3)]
theorem example6_fn (w : World) : SX.Fn Tryz.prog 20 [] w (fun _ => False) fun r N => ∃ b1 b2 b3 b4 b5 b6 b7, r = .tuple #[.agg #[I 4, I 3, .slice (some ⟨b1, 0, none⟩) 12 12, .slice (some ⟨b2, 0, none⟩) 5 5, .slice (some ⟨b3, 0, none⟩) 5 5], .slice (some ⟨b7, 0, none⟩) 3 3] ∧ HO.row (.slice (some ⟨b1, 0, none⟩) 12 12) 3 1 (ints exC.depth) ∈ N ∧ HO.row (.slice (some ⟨b2, 0, none⟩) 5 5) 55 2 (cat spc exC.tide) ∈ N ∧ HO.row (.slice (some ⟨b3, 0, none⟩) 5 5) 3 1 (ints exC.swell) ∈ N ∧
    HO.row (.slice (some ⟨b7, 0, none⟩) 3 3) 49 5 (cat lqc (exQ b4 b5 b6)) ∈ N ∧ ∀ p ∈ exQ b4 b5 b6, HO.row (lqs p) 3 1 (ints p.1.cells) ∈ N := by
  have dn : ∀ (g : Nat) (xs : List Value), det0 g xs = none := fun _ _ => rfl
  refine walk [] [] (det0_ok _ _) Tryz.func20 rfl Tryz.ntmps20 res20 (by kernel_rfl) no_facts ?_
  simp (config := { maxSteps := 4000000 }) only [↓sx0, ↓sx1, ↓sx2, ↓sx3, ↓sx4, ↓sx5, ↓sx6, sx0, sx1, sx2, sx3, sx4, sx5, sx6, tf20, ev3_hold, sxo, sxc, sxp, sxq, sxr, sxs, sxl, sxm, simprocAttr, dn]
  refine CallOb.pureH (fun w' hp => example_fn w') ?_
  rintro q N ⟨b1, b2, b3, rfl, h1, h2, h3⟩
  refine ⟨?_⟩
  simp (config := { maxSteps := 4000000 }) only [↓sx0, ↓sx1, ↓sx2, ↓sx3, ↓sx4, ↓sx5, ↓sx6, sx0, sx1, sx2, sx3, sx4, sx5, sx6, tf20, ev3_hold, sxo, sxc, sxp, sxq, sxr, sxs, sxl, sxm, simprocAttr]
  intro b4 b5 b6 b7
  exact ⟨b1, b2, b3, b4, b5, b6, b7, rfl, by simp [h1], by simp [h2], by simp [h3], List.mem_cons_self, by
    intro p hp
    simp only [exQ, List.mem_cons, List.not_mem_nil, or_false] at hp
    rcases hp with rfl | rfl | rfl <;> simp [lqs, cat, i1]⟩
end Go.Proofs.YtogicfoigeongaaGreatDoor

namespace Go.Proofs.YtogicfoigeongaaGreatDoor
open Go.RowKit Go.SX
set_option maxRecDepth 10000
set_option maxHeartbeats 0
set_option linter.unusedSimpArgs false
set_option linter.unusedVariables false
theorem eq_tri : EqAgg Tryz.prog 68 [I 0, I 1, I 2] [I 0, I 1, I 2] true := fun w => ⟨by kernel_rfl, by kernel_rfl⟩
theorem routed_fn (w : World) (hw : Ways w) : SX.Fn Tryz.prog 7 [] w (fun _ => False) fun r N => r = .bool true := by
  have dn : ∀ (g : Nat) (xs : List Value), det0 g xs = none := fun _ _ => rfl
  refine walk [] [] (det0_ok _ _) Tryz.func7 rfl Tryz.ntmps7 res7 (by kernel_rfl) no_facts ?_
  simp (config := { maxSteps := 4000000 }) only [↓sx0, ↓sx1, ↓sx2, ↓sx3, ↓sx4, ↓sx5, ↓sx6, sx0, sx1, sx2, sx3, sx4, sx5, sx6, tf7, ev3_hold, sxo, sxc, sxp, sxq, sxr, sxs, sxl, sxm, simprocAttr, dn]
  refine CallOb.pureH (fun w' hp => example6_fn w') ?_
  rintro r0 N0 ⟨b1, b2, b3, b4, b5, b6, b7, rfl, h1, h2, h3, h4, h5⟩
  have hcN : ∀ (H : List HO) (w' : World), (∀ h ∈ N0, h ∈ H) → Hp ⟨w, fun _ => False⟩ H w' → ChOk w' (.agg #[I 4, I 3, .slice (some ⟨b1, 0, none⟩) 12 12, .slice (some ⟨b2, 0, none⟩) 5 5, .slice (some ⟨b3, 0, none⟩) 5 5]) exC := fun H w' hm hp =>
    ⟨_, _, _, rfl, row_hp (hm _ h1) hp, row_hp (hm _ h2) hp, row_hp (hm _ h3) hp⟩
  have hlN : ∀ (H : List HO) (w' : World), (∀ h ∈ N0, h ∈ H) → Hp ⟨w, fun _ => False⟩ H w' → LegsOk w' (.slice (some ⟨b7, 0, none⟩) 3 3) exLeg := fun H w' hm hp =>
    ⟨exQ b4 b5 b6, rfl, row_hp (hm _ h4) hp, fun p hp2 => row_hp (hm _ (h5 p hp2)) hp⟩
  have hcl := fun (H : List HO) w' (hm : ∀ h ∈ N0, h ∈ H) (hp : Hp ⟨w, fun _ => False⟩ H w') => by
    have := lclashes_fn w' (hw.hp hp) _ _ _ _ exC (hcN H w' hm hp) exC_small exC_ok exLeg (hlN H w' hm hp) (by decide) exLeg_ok
    rw [exLeg_cl] at this
    exact this
  refine ⟨?_⟩
  simp (config := { maxSteps := 4000000 }) only [↓sx0, ↓sx1, ↓sx2, ↓sx3, ↓sx4, ↓sx5, ↓sx6, sx0, sx1, sx2, sx3, sx4, sx5, sx6, tf7, ev3_hold, sxo, sxc, sxp, sxq, sxr, sxs, sxl, sxm, simprocAttr, dn]
  refine CallOb.pureH (fun w' hp => hcl _ w' (fun h hh => by simpa using hh) hp) ?_
  rintro q N1 ⟨v, rfl, hG⟩
  obtain ⟨av, cv, rfl⟩ := hG.shape
  rw [show ([(0, 1, 2)] : List Tri).length = 1 from rfl] at hG ⊢
  refine ⟨?_⟩
  simp (config := { maxSteps := 4000000 }) only [↓sx0, ↓sx1, ↓sx2, ↓sx3, ↓sx4, ↓sx5, ↓sx6, sx0, sx1, sx2, sx3, sx4, sx5, sx6, tf7, ev3_hold, sxo, sxc, sxp, sxq, sxr, sxs, sxl, sxm, simprocAttr, dn]
  refine CallOb.pureH (fun w' hp => passage_fn w' (hw.hp hp) _ exC (hcN _ w' (fun h hh => by simp [hh]) hp) exC_small 20 4 0 10) ?_
  rintro r1 N2 hr
  rcases hr with ⟨hne, _⟩ | ⟨_, hr⟩
  · exact absurd ex_open6 hne
  simp only [show (4 : Int).toNat = 4 from rfl, show (0 : Int).toNat = 0 from rfl, show (10 : Int).toNat = 10 from rfl] at hr
  rcases hr with ⟨i, x, hi, hin, hnot, rfl, hm1⟩ | ⟨hno, _⟩
  case inr => exact absurd ex_sets6.1 (by rw [hno 2 (by decide)]; simp)
  obtain rfl : i = 2 := by
    rcases Nat.lt_trichotomy i 2 with h | h | h
    · exact absurd hin (by rw [ex_sets6.2 i h]; simp)
    · exact h
    · exact absurd ex_sets6.1 (by rw [hnot 2 h]; simp)
  rw [ex_path6] at hm1
  have hrb : ∀ H, (∀ h ∈ N2, h ∈ H) → Rdv ⟨w, fun _ => False⟩ H (.slice (some ⟨x, 0, none⟩) 3 3) 1 (ints [4, 5, 10]) := fun H hm => row_rdv (E := 3) (hm _ hm1) ⟨_, _, _, rfl, rfl, fun h => by cases h⟩
  have hrc : ∀ H, (∀ h ∈ N1, h ∈ H) → Rdv ⟨w, fun _ => False⟩ H (.slice av 1 cv) 3 (cat tric [(0, 1, 2)]) := fun H hm => hG.rdv tric_len hm
  have z0 : ((0 : Int) = 0) = True := eq_true rfl
  have z1 : ((1 : Int) = 1) = True := eq_true rfl
  have z3 : ((3 : Int) = 3) = True := eq_true rfl
  have z5 : ((5 : Int) = 5) = True := eq_true rfl
  have q1 : ((1 : Nat) : Int) = 1 := rfl
  have q3 : ((2 + 1 : Nat) : Int) = 3 := rfl
  refine ⟨?_⟩
  simp (config := { maxSteps := 4000000 }) only [↓sx0, ↓sx1, ↓sx2, ↓sx3, ↓sx4, ↓sx5, ↓sx6, sx0, sx1, sx2, sx3, sx4, sx5, sx6, tf7, ev3_hold, sxo, sxc, sxp, sxq, sxr, sxs, sxl, sxm, simprocAttr, z0, z1, z3, z5, q1, q3]
  refine at_n0 (u := ((0, 1, 2) : Tri)) (hrc _ (fun h hh => by simp [hh])) tric_len (by omega) rfl fun ad3 => ?_
  simp (config := { maxSteps := 4000000 }) only [↓sx0, ↓sx1, ↓sx2, ↓sx3, ↓sx4, ↓sx5, ↓sx6, sx0, sx1, sx2, sx3, sx4, sx5, sx6, tf7, ev3_hold, sxo, sxc, sxp, sxq, sxr, sxs, sxl, sxm, simprocAttr]
  refine ⟨_, eq_tri, ?_⟩
  simp (config := { maxSteps := 4000000 }) only [↓sx0, ↓sx1, ↓sx2, ↓sx3, ↓sx4, ↓sx5, ↓sx6, sx0, sx1, sx2, sx3, sx4, sx5, sx6, tf7, ev3_hold, sxo, sxc, sxp, sxq, sxr, sxs, sxl, sxm, simprocAttr, z0, z1, z3, z5, q1, q3]
  refine (at_1 (k := 1) (u := (5 : Int)) (hrb _ (fun h hh => by simp [hh])) i1_len rfl rfl fun ad4 => ?_).2.2
  simp (config := { maxSteps := 4000000 }) only [↓sx0, ↓sx1, ↓sx2, ↓sx3, ↓sx4, ↓sx5, ↓sx6, sx0, sx1, sx2, sx3, sx4, sx5, sx6, tf7, ev3_hold, sxo, sxc, sxp, sxq, sxr, sxs, sxl, sxm, simprocAttr, z5]
  try rfl
end Go.Proofs.YtogicfoigeongaaGreatDoor

