/- Parts of a proof: the symbolic walk and what it shows of single functions. -/
import Derived.Test.YtaloedccoadedaaDoorG2
import Derived.Test.YtaloedccoadedaaDoorF8
import Derived.Test.YtaloedccoadedaaDoorF9
set_option linter.all false
namespace Go.Proofs.YtaloedccoadedaaDoor
open Go.RowKit Go.SX
set_option maxRecDepth 20000
set_option maxHeartbeats 0
set_option linter.unusedSimpArgs false
set_option linter.unusedVariables false
theorem Dis.prc_some (d : Dis) (S : Nat) : d.prc S.testBit (fun _ => true) = pSome S := by
  funext i
  unfold Dis.prc priceOf pSome
  simp
theorem Dis.tot_zero {d : Dis} (hE : d.E = 0) {S : Nat} {L : List Nat} (hc : (d.crs (pSome S)).Course L) : (d.crs (pSome S)).tot 0 L = 0 := by
  rw [Dis.tot_is hE (pSome_ok S) hc]
  have h := ((Dis.course_iff hE (pSome_ok S) L).1 hc).2
  refine sumN_zero fun i hi => ?_
  by_cases ht : saysB d.c (d.rep i) (L.getD (d.rep i).tick.toNat 0) = true
  · rw [if_pos ht]
  · rw [if_neg ht]
    by_cases hS : S.testBit i = true
    · exact absurd (h i hi (if_pos hS)) ht
    · exact if_neg hS
theorem Dis.canB_chp {d : Dis} (hE : d.E = 0) (S : Nat) : chpL d.c.depth.length ((d.crs (pSome S)).onw (d.c.tide.length - 1)) 0 = [] ↔ d.canB S = false := by
  have hgo := Dis.crs_ok hE (pSome_ok S)
  unfold Dis.canB
  rw [decide_eq_false_iff_not]
  constructor
  · intro h hl
    obtain ⟨hc, ht, _⟩ := Crs.first_ok hgo hl
    rw [Dis.tot_zero hE hc] at ht
    rcases (d.crs (pSome S)).leastC_att (d.crs (pSome S)).n with h1 | ⟨x, hx, h1⟩
    · unfold Crs.least at hl
      omega
    · have h2 : (d.crs (pSome S)).onw (d.c.tide.length - 1) x = 0 := by
        rw [ht]
        exact h1
      have h3 : x ∈ chpL d.c.depth.length ((d.crs (pSome S)).onw (d.c.tide.length - 1)) 0 := mem_chpL.2 ⟨hx, by omega⟩
      rw [h] at h3
      cases h3
  · intro h
    refine List.eq_nil_iff_forall_not_mem.2 fun x hx => h ?_
    obtain ⟨h1, h2⟩ := mem_chpL.1 hx
    have h3 := (d.crs (pSome S)).leastC_le (d.crs (pSome S)).n h1
    have h4 : (d.crs (pSome S)).onw ((d.crs (pSome S)).T - 1) x ≤ 0 := h2
    unfold Crs.least NV
    omega
theorem Dis.strB_zero {d : Dis} (hE : d.E = 0) (S : Nat) {t x : Nat} (ht : t < d.c.tide.length) (hx : x < d.c.depth.length) : (d.crs (pSome S)).thr t x = 0 ↔ d.strB t x S = true := by
  have hgo := Dis.crs_ok hE (pSome_ok S)
  unfold Dis.strB
  rw [decide_eq_true_eq]
  constructor
  · intro h
    rw [h]
    decide
  · intro h
    obtain ⟨L, R, h1, h2, h3, h4, h5⟩ := Crs.thr_att hgo (t := t) (x := x) ht hx h
    rw [← h5]
    exact Dis.tot_zero hE ⟨h2, h3, h4⟩
theorem shl12' {n : Nat} (h : n ≤ 10) : IntKind.i64.wrap (1 * 2 ^ (min n IntKind.i64.bits)) = ((2 ^ n : Nat) : Int) := shl12 ⟨n, by omega⟩
theorem u64w {i : Nat} (h : i ≤ 1000) : IntKind.u64.wrap (i : Int) = i := by
  rw [IntKind.wrap_u64]
  omega
theorem bit10' {s i : Nat} (hs : s < 1024) (hi : i < 12) : (bitS .and .i64 ((s : Int).fdiv (2 ^ (min i IntKind.i64.bits))) 1 = 1) = (s.testBit i = true) := by
  have := bit10 ⟨s, hs⟩ ⟨i, hi⟩
  simp only [] at this
  rw [← this, beq_iff_eq]
def RFewP (P : List Int → Bool) (n : Nat) (q : Value) (N : List HO) : Prop := (fstL P n = none ∧ ∃ v, q = .tuple #[v, .bool false]) ∨ ∃ x v, fstL P n = some x ∧ q = .tuple #[v, .bool true] ∧ Got v 3 1 i1 x N
theorem rfewest_fn (w : World) (hw : Ways w) (v : Value) (d : Dis) (hd : DsOk w v d) (hE : d.E = 0) (hm10 : d.rs.length ≤ 10) (t k : Int) (P : List Int → Bool)
    (htk : (k < 0 ∧ ∀ y, P y = notC d.canB y) ∨ (0 ≤ t ∧ t < d.c.tide.length ∧ 0 ≤ k ∧ k < d.c.depth.length ∧ ∀ y, P y = notC (d.strB t.toNat k.toNat) y)) :
    SX.Fn Tryd.prog 53 [v, I t, I k] w (fun _ => False) (RFewP P d.rs.length) := by
  have hd0 := hd
  obtain ⟨hok, hdr, hpc, hm12, hrep⟩ := Dis.E_zero hE
  have hev := fun (H : List HO) w' (hp : Hp ⟨w, fun _ => False⟩ H w') => every_fn w' v d (hd0.hp hp) (by omega) true
  have hrow := fun (S : Nat) (vm vc vu : Value) (H : List HO) w' (hp : Hp ⟨w, fun _ => False⟩ H w') (hm : LLOk i1 1 w' vm (apL d.c)) (hc : Sl w' vc 1 (cat b1 (rowF d.rs.length S.testBit))) (hu : Sl w' vu 1 (cat b1 (rowF d.rs.length fun _ => true))) => rrows_fn w' (hw.hp hp) v vm vc vu d (hd0.hp hp) hE hm _ _ hc hu
  have hthr := fun (S : Nat) (vm vc vu : Value) (H : List HO) w' (hp : Hp ⟨w, fun _ => False⟩ H w') (hm : LLOk i1 1 w' vm (apL d.c)) (hc : Sl w' vc 1 (cat b1 (rowF d.rs.length S.testBit))) (hu : Sl w' vu 1 (cat b1 (rowF d.rs.length fun _ => true))) => rthrough_fn w' (hw.hp hp) v vm vc vu d (hd0.hp hp) hE hm _ _ hc hu
  simp only [Dis.prc_some] at hrow hthr
  have hgn : ∀ S, (d.crs (pSome S)).n = d.c.depth.length := fun _ => rfl
  have hgT : ∀ S, (d.crs (pSome S)).T = d.c.tide.length := fun _ => rfl
  unfold RowsP at hrow
  unfold ThrP at hthr
  simp only [hgn, hgT] at hrow hthr
  have hcan := Dis.canB_chp hE
  have hstr := fun (h1 : 0 ≤ t ∧ t < d.c.tide.length ∧ 0 ≤ k ∧ k < d.c.depth.length) S => Dis.strB_zero hE S (t := t.toNat) (x := k.toNat) (by omega) (by omega)
  have hT1 : 1 ≤ d.c.tide.length := (Dis.crs_ok hE pAll_ok).T1
  obtain ⟨_, _, hW, hH, hlen⟩ := hok.dims
  have h144 : d.c.depth.length ≤ 144 := by rw [hlen]; exact Nat.le_trans (Nat.mul_le_mul hW.2 hH.2) (by decide)
  have hso := fun (w' : World) (u v : Value) (x y : List Int) (hx : Sl w' u 1 (ints x)) (hy : Sl w' v 1 (ints y)) (hxl : x.length ≤ 1000) (hyl : y.length ≤ 1000) => sooner_fn w' u v x y hx hy hxl hyl
  obtain ⟨sD, sT, sS, sR, rfl, hc, hsR⟩ := hd
  obtain ⟨_, _, _, hh, hsD, hsT, hsS⟩ := hc
  cases hh
  have hmap := fun (H : List HO) w' (hp : Hp ⟨w, fun _ => False⟩ H w') => map_fn w' (hw.hp hp) sD sT sS d.c hok
  obtain ⟨aR, nR, cR, rfl⟩ := hsR.shape
  have hnR := hsR.le rpc_len (by omega)
  subst hnR
  have dn : ∀ (g : Nat) (xs : List Value), det0 g xs = none := fun _ _ => rfl
  have hp2 := fun (s : Nat) (hs : s < 2 ^ d.rs.length) => orS10 ⟨s, Nat.lt_of_lt_of_le hs (Nat.le_trans (Nat.pow_le_pow_right (by decide) hm10) (by decide))⟩
  have hPs : ∀ s, s < 2 ^ d.rs.length → orS 0 (pick s.testBit d.rs.length) = s := fun s hs => by
    have := hp2 s hs
    simp only [] at this
    rwa [pick_up hs hm10] at this
  have hpw := shl12' hm10
  have hp10 : 2 ^ d.rs.length ≤ 1024 := Nat.le_trans (Nat.pow_le_pow_right (by decide) hm10) (by decide)
  have e9 := u64w (i := d.rs.length) (by omega)
  obtain ⟨m, hm⟩ : ∃ m, d.rs.length = m := ⟨_, rfl⟩
  simp only [hm] at hev hrow hthr hpw hp10 e9 hPs hm10 ⊢
  refine walkC [33, 44] [] [] (det0_ok _ _) Tryd.func53 rfl Tryd.ntmps53 res53 (by kernel_rfl) no_facts ?_
  simp (config := { maxSteps := 4000000 }) only [↓sx0, ↓sx1, ↓sx2, ↓sx3, ↓sx4, ↓sx5, ↓sx6, sx0, sx1, sx2, sx3, sx4, sx5, sx6, tf53, ev3_hold, sxo, sxc, sxp, sxq, sxr, sxs, sxl, sxm, simprocAttr, dn]
  refine CallOb.pureH (fun w' hp => hmap _ w' hp) ?_
  intro q N1 hMP
  have hML := hMP.lln
  obtain ⟨vm, hvm⟩ : ∃ vm, q = vm := ⟨_, rfl⟩
  obtain ⟨am, cm, _, hvs, _⟩ := hMP
  subst hvs
  refine ⟨?_⟩
  simp (config := { maxSteps := 4000000 }) only [↓sx0, ↓sx1, ↓sx2, ↓sx3, ↓sx4, ↓sx5, ↓sx6, sx0, sx1, sx2, sx3, sx4, sx5, sx6, tf53, ev3_hold, sxo, sxc, sxp, sxq, sxr, sxs, sxl, sxm, simprocAttr, dn]
  refine CallOb.pureH (fun w' hp => hev _ w' hp) ?_
  intro q N2 hGe
  obtain ⟨ae, ce, rfl⟩ := hGe.shape
  rw [rowF_len] at hGe ⊢
  obtain ⟨K, hK⟩ : ∃ K, N2 ++ N1 = K := ⟨_, rfl⟩
  have hGe := hGe.mono (N' := K) (by rw [← hK]; simp +contextual)
  have hML := hML.mono (N' := K) (by rw [← hK]; simp +contextual)
  rw [hK]
  refine ⟨?_⟩
  simp (config := { maxSteps := 4000000 }) only [↓sx0, ↓sx1, ↓sx2, ↓sx3, ↓sx4, ↓sx5, ↓sx6, sx0, sx1, sx2, sx3, sx4, sx5, sx6, tf53, ev3_hold, sxo, sxc, sxp, sxq, sxr, sxs, sxl, sxm, simprocAttr]
  refine loop_constH (HO.row (.slice none 0 0) 3 1 (ints []) :: K) (HImp.nilRow _ _ _ _) [(9, 10), (12, 16), (22, 89)] (fun q : Nat × Bool × Option Addr × Nat × List Int => [(9, .slice q.2.2.1 q.2.2.2.2.length q.2.2.2.1), (10, .bool q.2.1), (12, I q.1)])
    (fun q H1 => q.1 ≤ 2 ^ m ∧ (q.2.2.1 = none → q.2.2.2.2 = []) ∧ RefI P m q.1 q.2.1 q.2.2.2.2 ∧ H1 = HO.row (.slice q.2.2.1 q.2.2.2.2.length q.2.2.2.1) 3 1 (ints q.2.2.2.2) :: K) (fun q => 2 ^ m - q.1) (0, false, none, 0, []) ?_ ⟨Nat.zero_le _, fun _ => rfl, RefI.zero _ _, rfl⟩ ?_
  · simp (config := { maxSteps := 4000000 }) only [↓sx0, ↓sx1, ↓sx2, ↓sx3, ↓sx4, ↓sx5, ↓sx6, sx0, sx1, sx2, sx3, sx4, sx5, sx6, tf53, ev3_hold, sxo, sxc, sxp, sxq, sxr, sxs, sxl, sxm, simprocAttr]
    try simp
  rintro ⟨s, found, ab, cb, bb⟩ H1 g2 hinv
  simp only [] at hinv
  obtain ⟨hs1, hnil, hI, rfl⟩ := hinv
  by_cases hsn : s = 2 ^ m
  · have e4 : ((s : Int) < ((2 ^ m : Nat) : Int)) = False := eq_false (by omega)
    rw [hsn] at hI
    have hend := hI.end
    refine ⟨?_⟩
    simp (config := { maxSteps := 4000000 }) only [↓sx0, ↓sx1, ↓sx2, ↓sx3, ↓sx4, ↓sx5, ↓sx6, sx0, sx1, sx2, sx3, sx4, sx5, sx6, tf53, ev3_hold, sxo, sxc, sxp, sxq, sxr, sxs, sxl, sxm, simprocAttr, e9, hpw, e4]
    refine ⟨by omega, ?_⟩
    cases found with
    | false => exact .inl ⟨hend, _, rfl⟩
    | true => exact .inr ⟨bb, _, hend, rfl, Got.row rfl List.mem_cons_self hnil⟩
  have hslt : s < 2 ^ m := by omega
  have e4 : ((s : Int) < ((2 ^ m : Nat) : Int)) = True := eq_true (by omega)
  have e8 : wr (s + 1) = ((s + 1 : Nat) : Int) := (wrap_id (by omega)).trans (by omega)
  refine ⟨?_⟩
  simp (config := { maxSteps := 4000000 }) only [↓sx0, ↓sx1, ↓sx2, ↓sx3, ↓sx4, ↓sx5, ↓sx6, sx0, sx1, sx2, sx3, sx4, sx5, sx6, tf53, ev3_hold, sxo, sxc, sxp, sxq, sxr, sxs, sxl, sxm, simprocAttr, e9, hpw, e4]
  refine ⟨by omega, by omega, by omega, by omega, fun b => ?_⟩
  have hz : zerosL m [Value.bool false] = cat b1 (rowF m fun x => if x < 0 then s.testBit x else false) := by
    rw [show (rowF m fun x => if x < 0 then s.testBit x else false) = List.replicate m false by rw [rowF_rep]; rfl]
    exact zeros_cat b1 false m
  obtain ⟨KB, hKB⟩ : ∃ KB, HO.row (.slice ab bb.length cb) 3 1 (ints bb) :: K = KB := ⟨_, rfl⟩
  have hmK : ∀ h ∈ K, h ∈ KB := fun h hh => by rw [← hKB]; exact List.mem_cons_of_mem _ hh
  have hmB : HO.row (.slice ab bb.length cb) 3 1 (ints bb) ∈ KB := by rw [← hKB]; exact List.mem_cons_self
  rw [hz, hKB]
  refine loop_constH (HO.row (.slice none 0 0) 3 1 (ints (pick s.testBit 0)) :: HO.row (.slice (some ⟨b, 0, none⟩) m m) 4 1 (cat b1 (rowF m fun x => if x < 0 then s.testBit x else false)) :: KB) (HImp.nilRow _ _ _ _) [(13, 13), (15, 15), (35, 54)] (fun q : Nat × Option Addr × Nat => [(13, .slice q.2.1 (pick s.testBit q.1).length q.2.2), (15, I q.1)])
    (fun q H2 => q.1 ≤ m ∧ (q.2.1 = none → pick s.testBit q.1 = []) ∧ H2 = HO.row (.slice q.2.1 (pick s.testBit q.1).length q.2.2) 3 1 (ints (pick s.testBit q.1)) :: HO.row (.slice (some ⟨b, 0, none⟩) m m) 4 1 (cat b1 (rowF m fun x => if x < q.1 then s.testBit x else false)) :: KB) (fun q => m - q.1) (0, none, 0) ?_ ⟨Nat.zero_le _, fun _ => rfl, rfl⟩ ?_
  · simp (config := { maxSteps := 4000000 }) only [↓sx0, ↓sx1, ↓sx2, ↓sx3, ↓sx4, ↓sx5, ↓sx6, sx0, sx1, sx2, sx3, sx4, sx5, sx6, tf53, ev3_hold, sxo, sxc, sxp, sxq, sxr, sxs, sxl, sxm, simprocAttr]
    try simp [pick]
  rintro ⟨i, al, cl⟩ H2 g3 hinv
  simp only [] at hinv
  obtain ⟨hi, hnl, rfl⟩ := hinv
  have hpl : (pick s.testBit i).length ≤ i := pick_len _ _
  by_cases hin : i = m
  case neg =>
    have f7 : ((i : Int) < (m : Int)) = True := eq_true (by omega)
    have f8 : wr (i + 1) = ((i + 1 : Nat) : Int) := (wrap_id (by omega)).trans (by omega)
    have f9 := u64w (i := i) (by omega)
    have hps := pick_succ s.testBit i
    have hb10 := bit10' (s := s) (i := i) (by omega) (by omega)
    have hset : ∀ v, s.testBit i = v → (if v then (rowF m fun x => if x < i then s.testBit x else false).set i true else rowF m fun x => if x < i then s.testBit x else false) = rowF m fun x => if x < i + 1 then s.testBit x else false := fun v hv => by
      have hc : ∀ x, (if x < i + 1 then s.testBit x else false) = if x = i then v else if x < i then s.testBit x else false := fun x => by
        by_cases e : x = i
        · rw [if_pos e, if_pos (by omega), e, hv]
        · rw [if_neg e]
          by_cases h : x < i
          · rw [if_pos h, if_pos (by omega)]
          · rw [if_neg h, if_neg (by omega)]
      cases v with
      | true =>
        rw [if_pos rfl, rowF_set]
        exact rowF_congr fun x hx => (hc x).symm
      | false =>
        rw [if_neg (by simp)]
        refine rowF_congr fun x hx => ?_
        rw [hc x]
        by_cases e : x = i
        · rw [if_pos e, if_neg (by omega)]
        · rw [if_neg e]
    cases hbt : s.testBit i with
    | false =>
      have hset := hset false hbt
      rw [if_neg (by simp)] at hset
      rw [hbt, if_neg (by simp), List.append_nil] at hps
      rw [hbt] at hb10
      simp only [Bool.false_eq_true] at hb10
      refine ⟨?_⟩
      simp (config := { maxSteps := 4000000 }) only [↓sx0, ↓sx1, ↓sx2, ↓sx3, ↓sx4, ↓sx5, ↓sx6, sx0, sx1, sx2, sx3, sx4, sx5, sx6, tf53, ev3_hold, sxo, sxc, sxp, sxq, sxr, sxs, sxl, sxm, simprocAttr, f7, f9, hb10, f8]
      refine ⟨by omega, (i + 1, al, cl), _, by simp only [hps, and_self], HImp.refl _ _, ⟨by simp only []; omega, by simp only [hps]; exact hnl, by simp only [hps, hset]⟩, by simp only []; omega⟩
    | true =>
      have hset := hset true hbt
      rw [if_pos rfl] at hset
      rw [hbt, if_pos rfl] at hps
      rw [hbt] at hb10
      simp only [] at hb10
      have hpl2 : (pick s.testBit i).length + 1 = (pick s.testBit (i + 1)).length := by rw [hps, List.length_append, List.length_singleton]
      refine ⟨?_⟩
      simp (config := { maxSteps := 4000000 }) only [↓sx0, ↓sx1, ↓sx2, ↓sx3, ↓sx4, ↓sx5, ↓sx6, sx0, sx1, sx2, sx3, sx4, sx5, sx6, tf53, ev3_hold, sxo, sxc, sxp, sxq, sxr, sxs, sxl, sxm, simprocAttr, f7, f9, hb10]
      refine ⟨by omega, fun b4 => ?_⟩
      refine app_one (l := pick s.testBit i) (i : Int) (HImp.refl _ _) i1_len i1_one (by omega) fun ad3 c3 => ?_
      rw [← hps, hpl2]
      simp (config := { maxSteps := 4000000 }) only [↓sx0, ↓sx1, ↓sx2, ↓sx3, ↓sx4, ↓sx5, ↓sx6, sx0, sx1, sx2, sx3, sx4, sx5, sx6, tf53, ev3_hold, sxo, sxc, sxp, sxq, sxr, sxs, sxl, sxm, simprocAttr]
      refine ⟨by omega, by omega, _, rfl, ?_⟩
      refine wr_at (A := [HO.row (.slice (some ad3) (pick s.testBit (i + 1)).length c3) 3 1 (ints (pick s.testBit (i + 1)))]) (B := KB) (ad := ⟨b, 0, none⟩) (len := m) (cap := m) (e := 4) (f := b1) (l := rowF m fun x => if x < i then s.testBit x else false) (u := true) rfl b1_len (by rw [rowF_len]) (by rw [rowF_len]; omega) ?_
      rw [hset]
      simp (config := { maxSteps := 4000000 }) only [↓sx0, ↓sx1, ↓sx2, ↓sx3, ↓sx4, ↓sx5, ↓sx6, sx0, sx1, sx2, sx3, sx4, sx5, sx6, tf53, ev3_hold, sxo, sxc, sxp, sxq, sxr, sxs, sxl, sxm, simprocAttr, f8]
      exact ⟨(i + 1, some ad3, c3), _, ⟨rfl, rfl⟩, HImp.refl _ _, ⟨by simp only []; omega, fun h => (by cases h), rfl⟩, by simp only []; omega⟩
  have f7 : ((i : Int) < (m : Int)) = False := eq_false (by omega)
  have hfull : (rowF m fun x => if x < i then s.testBit x else false) = rowF m s.testBit := rowF_congr fun x hx => if_pos (by omega)
  rw [hfull]
  rw [hin] at hnl hpl ⊢
  rw [hin] at f7
  -- the set, as a list
  have hor := hPs s hslt
  have iNo := hI.no
  have iFst : found = false → _ := fun hf => by rw [hf] at hI; exact hI.fst
  have iUp : found = true → _ := fun hf => by rw [hf] at hI; exact hI.up
  have iStay : found = true → _ := fun hf => by rw [hf] at hI; exact hI.stay
  have hbl : bb.length ≤ 1000 := by
    rcases hI with ⟨_, h, _⟩ | ⟨_, h, _⟩
    · rw [h]; exact Nat.zero_le _
    · have := sub_len h; omega
  obtain ⟨x, hx⟩ : ∃ x, pick s.testBit m = x := ⟨_, rfl⟩
  simp only [hx] at iNo iFst iUp iStay
  rw [hx] at hor hnl hpl ⊢
  have hbef := fun (u v : Value) (w' : World) (hu : Sl w' u 1 (ints x)) (hv : Sl w' v 1 (ints bb)) => hso w' u v x bb hu hv (by omega) hbl
  have hcans := hcan s
  have hrow := fun (vc : Value) (H : List HO) w' (hp : Hp ⟨w, fun _ => False⟩ H w') (hK : ∀ h ∈ K, h ∈ H) (hc : Sl w' vc 1 (cat b1 (rowF m s.testBit))) => hrow s (.slice (some am) d.c.depth.length cm) vc (.slice ae m ce) H w' hp (hML.ok hK hp) hc (hGe.hp hK hp)
  have hthr := fun (vc : Value) (H : List HO) w' (hp : Hp ⟨w, fun _ => False⟩ H w') (hK : ∀ h ∈ K, h ∈ H) (hc : Sl w' vc 1 (cat b1 (rowF m s.testBit))) => hthr s (.slice (some am) d.c.depth.length cm) vc (.slice ae m ce) H w' hp (hML.ok hK hp) hc (hGe.hp hK hp)
  have hstrs := fun h1 => hstr h1 s
  have hPx : (k < 0 ∧ (P x = true ↔ d.canB s = false)) ∨ ((0 ≤ t ∧ t < d.c.tide.length ∧ 0 ≤ k ∧ k < d.c.depth.length) ∧ (P x = true ↔ ¬ d.strB t.toNat k.toNat s = true)) := by
    rcases htk with ⟨h1, h2⟩ | ⟨h1, h2, h3, h4, h5⟩
    · refine .inl ⟨h1, ?_⟩
      rw [h2]
      unfold notC
      rw [hor, Bool.not_eq_true']
    · refine .inr ⟨⟨h1, h2, h3, h4⟩, ?_⟩
      rw [h5]
      unfold notC
      rw [hor, Bool.not_eq_true', Bool.not_eq_true]
  refine ⟨?_⟩
  simp (config := { maxSteps := 4000000 }) only [↓sx0, ↓sx1, ↓sx2, ↓sx3, ↓sx4, ↓sx5, ↓sx6, sx0, sx1, sx2, sx3, sx4, sx5, sx6, tf53, ev3_hold, sxo, sxc, sxp, sxq, sxr, sxs, sxl, sxm, simprocAttr, f7]
  refine cut_constH [(55, 61)] (fun _ : Unit => [(61, .bool (found && !befB x bb))]) (fun _ H4 => H4 = HO.row (.slice al x.length cl) 3 1 (ints x) :: HO.row (.slice (some ⟨b, 0, none⟩) m m) 4 1 (cat b1 (rowF m s.testBit)) :: KB) ?_ ?_
  · cases found with
    | false =>
      refine ⟨?_⟩
      simp (config := { maxSteps := 4000000 }) only [↓sx0, ↓sx1, ↓sx2, ↓sx3, ↓sx4, ↓sx5, ↓sx6, sx0, sx1, sx2, sx3, sx4, sx5, sx6, tf53, ev3_hold, sxo, sxc, sxp, sxq, sxr, sxs, sxl, sxm, simprocAttr]
      exact ⟨(), _, HImp.refl _ _, rfl⟩
    | true =>
      refine ⟨?_⟩
      simp (config := { maxSteps := 4000000 }) only [↓sx0, ↓sx1, ↓sx2, ↓sx3, ↓sx4, ↓sx5, ↓sx6, sx0, sx1, sx2, sx3, sx4, sx5, sx6, tf53, ev3_hold, sxo, sxc, sxp, sxq, sxr, sxs, sxl, sxm, simprocAttr, dn]
      refine CallOb.pureH (fun w' hp => hbef _ _ w' (row_hp (E := 3) List.mem_cons_self hp) (row_hp (E := 3) (List.mem_cons_of_mem _ (List.mem_cons_of_mem _ hmB)) hp)) ?_
      rintro q N4 rfl
      refine ⟨?_⟩
      simp (config := { maxSteps := 4000000 }) only [↓sx0, ↓sx1, ↓sx2, ↓sx3, ↓sx4, ↓sx5, ↓sx6, sx0, sx1, sx2, sx3, sx4, sx5, sx6, tf53, ev3_hold, sxo, sxc, sxp, sxq, sxr, sxs, sxl, sxm, simprocAttr]
      exact ⟨(), _, HImp.app _ _ _, rfl⟩
  rintro _ H4 g4 rfl
  cases hsk : (found && !befB x bb) with
  | true =>
    rw [Bool.and_eq_true, Bool.not_eq_true'] at hsk
    have hst := iStay hsk.1 hsk.2
    refine ⟨?_⟩
    simp (config := { maxSteps := 4000000 }) only [↓sx0, ↓sx1, ↓sx2, ↓sx3, ↓sx4, ↓sx5, ↓sx6, sx0, sx1, sx2, sx3, sx4, sx5, sx6, tf53, ev3_hold, sxo, sxc, sxp, sxq, sxr, sxs, sxl, sxm, simprocAttr, e8]
    exact ⟨(s + 1, found, ab, cb, bb), _, ⟨rfl, rfl, rfl⟩, (HImp.tail _ _ _).trans ((HImp.tail _ _ _).trans (by rw [hKB]; exact HImp.refl _ _)), ⟨by simp only []; omega, hnil, by rw [hsk.1]; exact hst, rfl⟩, by simp only []; omega⟩
  | false =>
  refine ⟨?_⟩
  simp (config := { maxSteps := 4000000 }) only [↓sx0, ↓sx1, ↓sx2, ↓sx3, ↓sx4, ↓sx5, ↓sx6, sx0, sx1, sx2, sx3, sx4, sx5, sx6, tf53, ev3_hold, sxo, sxc, sxp, sxq, sxr, sxs, sxl, sxm, simprocAttr]
  refine cut_constH [(16, 16), (62, 85)] (fun c : Option Addr × Nat × Nat => [(16, .slice c.1 c.2.1 c.2.2)]) (fun c H5 => (c.2.1 = 0 ↔ P x = true) ∧ H5 = HO.row (.slice al x.length cl) 3 1 (ints x) :: KB) ?_ ?_
  · by_cases hk0 : k < 0
    · have q1 : (k < 0) = True := eq_true hk0
      have hPx : P x = true ↔ d.canB s = false := by
        rcases hPx with ⟨_, h⟩ | ⟨h, _⟩
        · exact h
        · omega
      refine ⟨?_⟩
      simp (config := { maxSteps := 4000000 }) only [↓sx0, ↓sx1, ↓sx2, ↓sx3, ↓sx4, ↓sx5, ↓sx6, sx0, sx1, sx2, sx3, sx4, sx5, sx6, tf53, ev3_hold, sxo, sxc, sxp, sxq, sxr, sxs, sxl, sxm, simprocAttr, q1, dn]
      refine CallOb.pureH (fun w' hp => hrow _ _ w' hp (fun h hh => by simp [hmK h hh]) (row_hp (E := 4) (List.mem_cons_of_mem _ List.mem_cons_self) hp)) ?_
      intro q N4 hq
      obtain ⟨al4, cl4, qs4, hq, hN4, hH4⟩ := hq
      subst hq
      obtain ⟨aw, cw, hqt, hrt⟩ := hH4.2 0 (by omega)
      simp only [Nat.sub_zero] at hqt hrt
      refine ⟨?_⟩
      simp (config := { maxSteps := 4000000 }) only [↓sx0, ↓sx1, ↓sx2, ↓sx3, ↓sx4, ↓sx5, ↓sx6, sx0, sx1, sx2, sx3, sx4, sx5, sx6, tf53, ev3_hold, sxo, sxc, sxp, sxq, sxr, sxs, sxl, sxm, simprocAttr, dn]
      refine And.right (at_1 (k := 0) (row_rdv (w0 := ⟨w, fun _ => False⟩) (List.mem_append_left _ hN4) ⟨_, _, _, rfl, by rw [cat_len lpc_len, hH4.1], fun h => by cases h⟩) lpc_len hqt (show lpc _ = [Value.slice (some aw) d.c.depth.length cw] from rfl) fun ad2 => ?_)
      simp (config := { maxSteps := 4000000 }) only [↓sx0, ↓sx1, ↓sx2, ↓sx3, ↓sx4, ↓sx5, ↓sx6, sx0, sx1, sx2, sx3, sx4, sx5, sx6, tf53, ev3_hold, sxo, sxc, sxp, sxq, sxr, sxs, sxl, sxm, simprocAttr, dn]
      refine CallOb.pureH (fun w' hp => among_fn w' _ _ (by omega) ((d.crs (pSome s)).onw (d.c.tide.length - 1)) 0 (row_hp (E := 3) (List.mem_append_left _ hrt) hp)) ?_
      intro q N5 hG
      obtain ⟨ax, cx, hq⟩ := hG.shape
      subst hq
      have hzl := zs_len (chpL d.c.depth.length ((d.crs (pSome s)).onw (d.c.tide.length - 1)) 0)
      refine ⟨?_⟩
      simp (config := { maxSteps := 4000000 }) only [↓sx0, ↓sx1, ↓sx2, ↓sx3, ↓sx4, ↓sx5, ↓sx6, sx0, sx1, sx2, sx3, sx4, sx5, sx6, tf53, ev3_hold, sxo, sxc, sxp, sxq, sxr, sxs, sxl, sxm, simprocAttr]
      refine ⟨(ax, _, cx), _, rfl, (HImp.app _ _ _).trans ((HImp.app _ _ _).trans (HImp.tail2 _ _ _ _)), ?_, rfl⟩
      rw [hPx, ← hcans]
      simp only []
      rw [hzl]
      exact ⟨List.eq_nil_of_length_eq_zero, fun h => by rw [h]; rfl⟩
    · have q1 : (k < 0) = False := eq_false hk0
      obtain ⟨htk2, hPx⟩ : (0 ≤ t ∧ t < d.c.tide.length ∧ 0 ≤ k ∧ k < d.c.depth.length) ∧ (P x = true ↔ ¬ d.strB t.toNat k.toNat s = true) := by
        rcases hPx with ⟨h, _⟩ | h
        · exact absurd h hk0
        · exact h
      have hstrs := hstrs htk2
      obtain ⟨t0, ht0⟩ : ∃ t0 : Nat, t = t0 := ⟨t.toNat, by omega⟩
      obtain ⟨k0, hk00⟩ : ∃ k0 : Nat, k = k0 := ⟨k.toNat, by omega⟩
      subst ht0 hk00
      rw [Int.toNat_natCast, Int.toNat_natCast] at hstrs hPx
      rw [← hstrs] at hPx
      have ht1 : t0 < d.c.tide.length := by omega
      have hk1 : k0 < d.c.depth.length := by omega
      obtain ⟨TH, hTH⟩ : ∃ TH, (d.crs (pSome s)).thr = TH := ⟨_, rfl⟩
      simp only [hTH] at hthr
      rw [hTH] at hPx
      refine ⟨?_⟩
      simp (config := { maxSteps := 4000000 }) only [↓sx0, ↓sx1, ↓sx2, ↓sx3, ↓sx4, ↓sx5, ↓sx6, sx0, sx1, sx2, sx3, sx4, sx5, sx6, tf53, ev3_hold, sxo, sxc, sxp, sxq, sxr, sxs, sxl, sxm, simprocAttr, q1, dn]
      refine CallOb.pureH (fun w' hp => hthr _ _ w' hp (fun h hh => by simp [hmK h hh]) (row_hp (E := 4) (List.mem_cons_of_mem _ List.mem_cons_self) hp)) ?_
      intro q N4 hq
      obtain ⟨al4, cl4, qs4, hq, hN4, hH4⟩ := hq
      subst hq
      obtain ⟨aw, cw, hqt, hrt⟩ := hH4.2 t0 ht1
      have hrr := row_rdv (w0 := ⟨w, fun _ => False⟩) (H := N4 ++ (HO.row (.slice al x.length cl) 3 1 (ints x) :: HO.row (.slice (some ⟨b, 0, none⟩) m m) 4 1 (cat b1 (rowF m s.testBit)) :: KB)) (List.mem_append_left _ hrt) ⟨_, _, _, rfl, by rw [cat_len i1_len, rowF_len], fun h => by cases h⟩
      refine ⟨?_⟩
      simp (config := { maxSteps := 4000000 }) only [↓sx0, ↓sx1, ↓sx2, ↓sx3, ↓sx4, ↓sx5, ↓sx6, sx0, sx1, sx2, sx3, sx4, sx5, sx6, tf53, ev3_hold, sxo, sxc, sxp, sxq, sxr, sxs, sxl, sxm, simprocAttr]
      refine at_1 (row_rdv (w0 := ⟨w, fun _ => False⟩) (List.mem_append_left _ hN4) ⟨_, _, _, rfl, by rw [cat_len lpc_len, hH4.1], fun h => by cases h⟩) lpc_len hqt (show lpc _ = [Value.slice (some aw) d.c.depth.length cw] from rfl) fun ad2 => ?_
      simp (config := { maxSteps := 4000000 }) only [↓sx0, ↓sx1, ↓sx2, ↓sx3, ↓sx4, ↓sx5, ↓sx6, sx0, sx1, sx2, sx3, sx4, sx5, sx6, tf53, ev3_hold, sxo, sxc, sxp, sxq, sxr, sxs, sxl, sxm, simprocAttr]
      refine at_1 hrr i1_len (rowF_get (TH t0) hk1) rfl fun ad3 => ?_
      by_cases hz : TH t0 k0 = 0
      · have q2 : (TH t0 k0 = 0) = True := eq_true hz
        simp (config := { maxSteps := 4000000 }) only [↓sx0, ↓sx1, ↓sx2, ↓sx3, ↓sx4, ↓sx5, ↓sx6, sx0, sx1, sx2, sx3, sx4, sx5, sx6, tf53, ev3_hold, sxo, sxc, sxp, sxq, sxr, sxs, sxl, sxm, simprocAttr, q2]
        intro b5
        refine ⟨(some ⟨b5, 0, none⟩, 1, 1), _, rfl, (HImp.tail _ _ _).trans ((HImp.app _ _ _).trans (HImp.tail2 _ _ _ _)), ?_, rfl⟩
        rw [hPx]
        exact ⟨fun h => (by cases h), fun h => absurd hz h⟩
      · have q2 : (TH t0 k0 = 0) = False := eq_false hz
        simp (config := { maxSteps := 4000000 }) only [↓sx0, ↓sx1, ↓sx2, ↓sx3, ↓sx4, ↓sx5, ↓sx6, sx0, sx1, sx2, sx3, sx4, sx5, sx6, tf53, ev3_hold, sxo, sxc, sxp, sxq, sxr, sxs, sxl, sxm, simprocAttr, q2]
        refine ⟨(none, 0, 0), _, rfl, (HImp.app _ _ _).trans (HImp.tail2 _ _ _ _), ?_, rfl⟩
        rw [hPx]
        exact ⟨fun _ => hz, fun _ => rfl⟩
  rintro ⟨ac, nc, cc⟩ H5 g5 ⟨hc0, rfl⟩
  simp only [] at hc0
  cases hPv : P x with
  | true =>
    have q3 : ((nc : Int) = 0) = True := eq_true (by have := hc0.2 hPv; omega)
    have hnew : RefI P m (s + 1) true x := by
      cases hfd : found with
      | false => exact iFst hfd hPv
      | true =>
        rw [hfd, Bool.true_and, Bool.not_eq_false'] at hsk
        exact iUp hfd hPv hsk
    refine ⟨?_⟩
    simp (config := { maxSteps := 4000000 }) only [↓sx0, ↓sx1, ↓sx2, ↓sx3, ↓sx4, ↓sx5, ↓sx6, sx0, sx1, sx2, sx3, sx4, sx5, sx6, tf53, ev3_hold, sxo, sxc, sxp, sxq, sxr, sxs, sxl, sxm, simprocAttr, q3, e8]
    exact ⟨(s + 1, true, al, cl, x), _, ⟨rfl, rfl, rfl⟩, (by rw [← hKB]; exact HImp.tail2 _ _ _ _), ⟨by simp only []; omega, hnl, hnew, rfl⟩, by simp only []; omega⟩
  | false =>
    have q3 : ((nc : Int) = 0) = False := eq_false (fun h => by rw [hc0.1 (by omega)] at hPv; cases hPv)
    have hnew := iNo hPv
    refine ⟨?_⟩
    simp (config := { maxSteps := 4000000 }) only [↓sx0, ↓sx1, ↓sx2, ↓sx3, ↓sx4, ↓sx5, ↓sx6, sx0, sx1, sx2, sx3, sx4, sx5, sx6, tf53, ev3_hold, sxo, sxc, sxp, sxq, sxr, sxs, sxl, sxm, simprocAttr, q3, e8]
    exact ⟨(s + 1, found, ab, cb, bb), _, ⟨rfl, rfl, rfl⟩, (HImp.tail _ _ _).trans (by rw [← hKB]; exact HImp.refl _ _), ⟨by simp only []; omega, hnil, hnew, rfl⟩, by simp only []; omega⟩
theorem rconflict_fn (w : World) (hw : Ways w) (v : Value) (d : Dis) (hd : DsOk w v d) (hsm : d.small) (h10 : d.E = 0 → d.rs.length ≤ 10) : SX.Fn Tryd.prog 21 [v] w (fun _ => False) (ConfP d) := by
  have hd0 := hd
  have hck := fun (H : List HO) w' (hp : Hp ⟨w, fun _ => False⟩ H w') => rcheck3_fn w' (hw.hp hp) v d (hd0.hp hp) hsm
  have hfe := fun (hE : d.E = 0) (H : List HO) w' (hp : Hp ⟨w, fun _ => False⟩ H w') => rfewest_fn w' (hw.hp hp) v d (hd0.hp hp) hE (h10 hE) 0 (-1) (notC d.canB) (.inl ⟨by decide, fun _ => rfl⟩)
  obtain ⟨sD, sT, sS, sR, rfl, hc, hsR⟩ := hd
  have dn : ∀ (g : Nat) (xs : List Value), det0 g xs = none := fun _ _ => rfl
  unfold ConfP
  unfold RFewP at hfe
  refine walk [] [] (det0_ok _ _) Tryd.func21 rfl Tryd.ntmps21 res21 (by kernel_rfl) no_facts ?_
  simp (config := { maxSteps := 4000000 }) only [↓sx0, ↓sx1, ↓sx2, ↓sx3, ↓sx4, ↓sx5, ↓sx6, sx0, sx1, sx2, sx3, sx4, sx5, sx6, tf21, ev3_hold, sxo, sxc, sxp, sxq, sxr, sxs, sxl, sxm, simprocAttr, dn]
  refine CallOb.pureH (fun w' hp => hck _ w' hp) ?_
  rintro q N rfl
  by_cases hE : d.E = 0
  case neg =>
    have p1 : (d.E = 0) = False := eq_false hE
    refine ⟨?_⟩
    simp (config := { maxSteps := 4000000 }) only [↓sx0, ↓sx1, ↓sx2, ↓sx3, ↓sx4, ↓sx5, ↓sx6, sx0, sx1, sx2, sx3, sx4, sx5, sx6, tf21, ev3_hold, sxo, sxc, sxp, sxq, sxr, sxs, sxl, sxm, simprocAttr, p1]
    exact .inl trivial
  have p1 : (d.E = 0) = True := eq_true hE
  have hfe := hfe hE
  refine ⟨?_⟩
  simp (config := { maxSteps := 4000000 }) only [↓sx0, ↓sx1, ↓sx2, ↓sx3, ↓sx4, ↓sx5, ↓sx6, sx0, sx1, sx2, sx3, sx4, sx5, sx6, tf21, ev3_hold, sxo, sxc, sxp, sxq, sxr, sxs, sxl, sxm, simprocAttr, p1, dn]
  refine CallOb.pureH (fun w' hp => hfe _ w' hp) ?_
  rintro q N3 (⟨h1, v, rfl⟩ | ⟨x, v, h1, rfl, h2⟩)
  · refine ⟨?_⟩
    simp (config := { maxSteps := 4000000 }) only [↓sx0, ↓sx1, ↓sx2, ↓sx3, ↓sx4, ↓sx5, ↓sx6, sx0, sx1, sx2, sx3, sx4, sx5, sx6, tf21, ev3_hold, sxo, sxc, sxp, sxq, sxr, sxs, sxl, sxm, simprocAttr]
    exact .inr ⟨hE, FstQ.none h1⟩
  · refine ⟨?_⟩
    simp (config := { maxSteps := 4000000 }) only [↓sx0, ↓sx1, ↓sx2, ↓sx3, ↓sx4, ↓sx5, ↓sx6, sx0, sx1, sx2, sx3, sx4, sx5, sx6, tf21, ev3_hold, sxo, sxc, sxp, sxq, sxr, sxs, sxl, sxm, simprocAttr]
    exact .inr ⟨hE, .inr ⟨x, v, h1, rfl, h2.mono (by simp +contextual)⟩⟩
theorem rstruck_fn (w : World) (hw : Ways w) (v : Value) (d : Dis) (hd : DsOk w v d) (hsm : d.small) (h10 : d.E = 0 → d.rs.length ≤ 10) (t k : Int) : SX.Fn Tryd.prog 23 [v, I t, I k] w (fun _ => False) (StruckP d t k) := by
  have hd0 := hd
  have hck := fun (H : List HO) w' (hp : Hp ⟨w, fun _ => False⟩ H w') => rchk3_fn w' (hw.hp hp) v d (hd0.hp hp) hsm t k
  have hfe := fun (hE : d.E = 0) ht (H : List HO) w' (hp : Hp ⟨w, fun _ => False⟩ H w') => rfewest_fn w' (hw.hp hp) v d (hd0.hp hp) hE (h10 hE) t k (notC (d.strB t.toNat k.toNat)) (.inr ht)
  obtain ⟨sD, sT, sS, sR, rfl, hc, hsR⟩ := hd
  have dn : ∀ (g : Nat) (xs : List Value), det0 g xs = none := fun _ _ => rfl
  unfold StruckP
  unfold RFewP at hfe
  refine walk [] [] (det0_ok _ _) Tryd.func23 rfl Tryd.ntmps23 res23 (by kernel_rfl) no_facts ?_
  simp (config := { maxSteps := 4000000 }) only [↓sx0, ↓sx1, ↓sx2, ↓sx3, ↓sx4, ↓sx5, ↓sx6, sx0, sx1, sx2, sx3, sx4, sx5, sx6, tf23, ev3_hold, sxo, sxc, sxp, sxq, sxr, sxs, sxl, sxm, simprocAttr, dn]
  refine CallOb.pureH (fun w' hp => hck _ w' hp) ?_
  rintro q N rfl
  by_cases hE : d.E2 t k = 0
  case neg =>
    have p1 : (d.E2 t k = 0) = False := eq_false hE
    refine ⟨?_⟩
    simp (config := { maxSteps := 4000000 }) only [↓sx0, ↓sx1, ↓sx2, ↓sx3, ↓sx4, ↓sx5, ↓sx6, sx0, sx1, sx2, sx3, sx4, sx5, sx6, tf23, ev3_hold, sxo, sxc, sxp, sxq, sxr, sxs, sxl, sxm, simprocAttr, p1]
    exact .inl trivial
  have p1 : (d.E2 t k = 0) = True := eq_true hE
  obtain ⟨hE0, ht, hk⟩ := Dis.E2_zero hE
  have hfe := hfe hE0 ⟨by omega, by omega, by omega, by omega, fun _ => rfl⟩
  refine ⟨?_⟩
  simp (config := { maxSteps := 4000000 }) only [↓sx0, ↓sx1, ↓sx2, ↓sx3, ↓sx4, ↓sx5, ↓sx6, sx0, sx1, sx2, sx3, sx4, sx5, sx6, tf23, ev3_hold, sxo, sxc, sxp, sxq, sxr, sxs, sxl, sxm, simprocAttr, p1, dn]
  refine CallOb.pureH (fun w' hp => hfe _ w' hp) ?_
  rintro q N3 (⟨h1, v, rfl⟩ | ⟨x, v, h1, rfl, h2⟩)
  · refine ⟨?_⟩
    simp (config := { maxSteps := 4000000 }) only [↓sx0, ↓sx1, ↓sx2, ↓sx3, ↓sx4, ↓sx5, ↓sx6, sx0, sx1, sx2, sx3, sx4, sx5, sx6, tf23, ev3_hold, sxo, sxc, sxp, sxq, sxr, sxs, sxl, sxm, simprocAttr]
    exact .inr ⟨hE, FstQ.none h1⟩
  · refine ⟨?_⟩
    simp (config := { maxSteps := 4000000 }) only [↓sx0, ↓sx1, ↓sx2, ↓sx3, ↓sx4, ↓sx5, ↓sx6, sx0, sx1, sx2, sx3, sx4, sx5, sx6, tf23, ev3_hold, sxo, sxc, sxp, sxq, sxr, sxs, sxl, sxm, simprocAttr]
    exact .inr ⟨hE, .inr ⟨x, v, h1, rfl, h2.mono (by simp +contextual)⟩⟩
end Go.Proofs.YtaloedccoadedaaDoor

