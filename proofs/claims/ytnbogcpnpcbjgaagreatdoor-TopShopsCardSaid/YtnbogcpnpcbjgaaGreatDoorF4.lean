/- Parts of a proof: the symbolic walk and what it shows of single functions. -/
import Derived.Test.YtnbogcpnpcbjgaaGreatDoorF2
set_option linter.all false
namespace Go.Proofs.YtnbogcpnpcbjgaaGreatDoor
open Go.RowKit Go.SX
set_option maxRecDepth 10000
set_option maxHeartbeats 0
set_option linter.unusedSimpArgs false
set_option linter.unusedVariables false
def PrcOk (w : World) (vp : Value) (p : Nat → Int) (m : Nat) : Prop := ∃ (g : Nat) (first cap : List Value), vp = .func (.func g) first.toArray cap.toArray ∧ CallT Tryz.prog g ∧ ∀ w' : World, Keep (fun _ => False) w w' → ∀ i : Nat, i < m → SX.Fn Tryz.prog g (first ++ ([I i] ++ cap)) w' (fun _ => False) fun q N => q = I (p i)
theorem PrcOk.hp {w0 : World} {vp : Value} {p : Nat → Int} {m : Nat} (h : PrcOk w0 vp p m) {H : List HO} {w : World} (hp : Hp ⟨w0, fun _ => False⟩ H w) : PrcOk w vp p m := by
  obtain ⟨g, first, cap, h1, h2, h3⟩ := h
  exact ⟨g, first, cap, h1, h2, fun w' hk i hi => h3 w' ((Keep.trans hp.ext hk).mono fun b hb => hb.elim id id) i hi⟩
def rowsF (n : Nat) (aa : List Addr) (R : Nat → List Int) : List HO := aa.mapIdx fun t a => HO.row (.slice (some a) n n) 3 1 (ints (R t))
def psF (n : Nat) (aa : List Addr) (R : Nat → List Int) : List (Lp Int) := aa.mapIdx fun t a => (R t, some a, n, n)
theorem psF_len (n : Nat) (aa : List Addr) (R : Nat → List Int) : (psF n aa R).length = aa.length := List.length_mapIdx
theorem psF_get {n : Nat} {aa : List Addr} (R : Nat → List Int) {t : Nat} {a : Addr} (h : aa[t]? = some a) : (psF n aa R)[t]? = some (R t, some a, n, n) := by
  unfold psF
  rw [List.getElem?_mapIdx, h]
  rfl
theorem psF_cells (n : Nat) (aa : List Addr) (R S : Nat → List Int) : cat lpc (psF n aa R) = cat lpc (psF n aa S) := by
  have h : ∀ T : Nat → List Int, cat lpc (psF n aa T) = aa.map fun a => Value.slice (some a) n n := fun T => by
    have e : ∀ l : List (Lp Int), cat lpc l = l.map lpv := fun l => by
      unfold cat lpc
      induction l with
      | nil => rfl
      | cons x l ih => rw [List.flatMap_cons, ih]; rfl
    rw [e]
    unfold psF
    refine List.ext_getElem? fun i => ?_
    rw [List.getElem?_map, List.getElem?_mapIdx, List.getElem?_map]
    cases aa[i]? <;> rfl
  rw [h R, h S]
theorem rowsF_snoc (n : Nat) (aa : List Addr) (a : Addr) (R : Nat → List Int) : rowsF n (aa ++ [a]) R = rowsF n aa R ++ [HO.row (.slice (some a) n n) 3 1 (ints (R aa.length))] := by
  unfold rowsF
  rw [List.mapIdx_append]
  simp
theorem psF_snoc (n : Nat) (aa : List Addr) (a : Addr) (R : Nat → List Int) : psF n (aa ++ [a]) R = psF n aa R ++ [(R aa.length, some a, n, n)] := by
  unfold psF
  rw [List.mapIdx_append]
  simp
theorem rowsF_congr {n : Nat} {aa : List Addr} {R S : Nat → List Int} (h : ∀ t, t < aa.length → R t = S t) : rowsF n aa R = rowsF n aa S := by
  unfold rowsF
  refine List.ext_getElem? fun i => ?_
  rw [List.getElem?_mapIdx, List.getElem?_mapIdx]
  by_cases hi : i < aa.length
  · rw [List.getElem?_eq_getElem hi, Option.map_some, Option.map_some, h i hi]
  · rw [List.getElem?_eq_none (by omega)]
    rfl
theorem rowsF_split {n : Nat} {aa : List Addr} (R : Nat → List Int) {t : Nat} {a : Addr} (h : aa[t]? = some a) : ∃ A B, ∀ l, rowsF n aa (fun s => if s = t then l else R s) = A ++ HO.row (.slice (some a) n n) 3 1 (ints l) :: B := by
  have ht := (List.getElem?_eq_some_iff.1 h).1
  refine ⟨(rowsF n aa R).take t, (rowsF n aa R).drop (t + 1), fun l => ?_⟩
  have hl : t < (rowsF n aa R).length := by unfold rowsF; rw [List.length_mapIdx]; exact ht
  have hset : (rowsF n aa R).set t (HO.row (.slice (some a) n n) 3 1 (ints l)) = (rowsF n aa R).take t ++ HO.row (.slice (some a) n n) 3 1 (ints l) :: (rowsF n aa R).drop (t + 1) := by rw [List.set_eq_take_append_cons_drop, if_pos hl]
  rw [← hset]
  refine List.ext_getElem? fun i => ?_
  rw [List.getElem?_set]
  unfold rowsF
  rw [List.getElem?_mapIdx, List.getElem?_mapIdx, List.length_mapIdx]
  by_cases e : t = i
  · subst e
    rw [if_pos rfl, if_pos ht, h, Option.map_some]
    simp
  · rw [if_neg e]
    cases aa[i]? with
    | none => rfl
    | some b => simp [show ¬ i = t from fun h => e h.symm]
theorem rowsF_mem {n : Nat} {aa : List Addr} (R : Nat → List Int) {t : Nat} {a : Addr} (h : aa[t]? = some a) : HO.row (.slice (some a) n n) 3 1 (ints (R t)) ∈ rowsF n aa R := by
  refine List.mem_of_getElem? (i := t) ?_
  unfold rowsF
  rw [List.getElem?_mapIdx, h]
  rfl
noncomputable def Dis.cst (d : Dis) (p : Nat → Int) (i t x : Nat) : Int := if d.may t x then d.rps.sum p t x i else NV
theorem Dis.cst_zero (d : Dis) (p : Nat → Int) (t x : Nat) : d.cst p 0 t x = if d.may t x then 0 else NV := rfl
theorem Dis.cst_other (d : Dis) (p : Nat → Int) {i t x : Nat} (h : d.rps.off t x i = false) : d.cst p (i + 1) t x = d.cst p i t x := by
  unfold cst
  rw [Rps.sum, h]
  rfl
theorem Dis.cst_off (d : Dis) {p : Nat → Int} {i t x : Nat} (hp : 0 ≤ p i) (h : d.rps.off t x i = true) : d.cst p (i + 1) t x = min NV (d.cst p i t x + p i) := by
  unfold cst
  rw [Rps.sum, if_pos h]
  by_cases hm : d.may t x = true
  · rw [if_pos hm, if_pos hm]
  · rw [if_neg hm, if_neg hm]
    omega
theorem Dis.cst_bd {d : Dis} (hm : d.rs.length ≤ 12) {p : Nat → Int} (hp : priceOk 100 p) {i : Nat} (hi : i ≤ d.rs.length) (t x : Nat) : 0 ≤ d.cst p i t x ∧ d.cst p i t x ≤ NV := by
  have h := d.rps.sum_bd hp (by decide) t x i (by unfold NV; omega)
  unfold cst
  unfold NV at *
  split <;> omega
end Go.Proofs.YtnbogcpnpcbjgaaGreatDoor

namespace Go.Proofs.YtnbogcpnpcbjgaaGreatDoor
open Go.RowKit Go.SX
set_option maxRecDepth 10000
set_option maxHeartbeats 0
set_option linter.unusedSimpArgs false
set_option linter.unusedVariables false
noncomputable def Dis.cstR (d : Dis) (p : Nat → Int) (i t : Nat) : List Int := rowF d.c.depth.length (d.cst p i t)
theorem fl_get (d : Dis) {t : Nat} (h : t < d.c.tide.length) : d.flL[t]? = some (d.flRow t) := rowF_get _ h
theorem fl_get2 (d : Dis) (t : Nat) {x : Nat} (h : x < d.c.depth.length) : (d.flRow t)[x]? = some (d.may t x) := rowF_get _ h
theorem fi_get (d : Dis) {i : Nat} {r : Rep} (h : d.rs[i]? = some r) : d.fiL[i]? = some (fiRow d.c r) := by unfold Dis.fiL; rw [List.getElem?_map, h]; rfl
theorem fi_get2 (c : Cht) (r : Rep) {x : Nat} (h : x < c.depth.length) : (fiRow c r)[x]? = some (saysB c r x) := rowF_get _ h
def CostP (g : Crs) (q : Value) (N : List HO) : Prop := ∃ ao co aa, q = .slice (some ao) g.T co ∧ aa.length = g.T ∧ HO.row (.slice (some ao) g.T co) 22 1 (cat lpc (psF g.n aa fun t => rowF g.n (g.cost t))) ∈ N ∧ ∀ h ∈ rowsF g.n aa (fun t => rowF g.n (g.cost t)), h ∈ N
theorem costs_fn (w : World) (bs : Nat) (d : Dis) (hs : SeaOk w bs d) (hE : d.E = 0) (p : Nat → Int) (hp : priceOk 100 p) (vp : Value) (hvp : PrcOk w vp p d.rs.length) :
    SX.Fn Tryz.prog 77 [.pointer (some ⟨bs, 0, none⟩), vp] w (fun _ => False) (CostP (d.crs p)) := by
  obtain ⟨hok, hdr, hpc, hm12, hrep⟩ := Dis.E_zero hE
  obtain ⟨sD, sT, sS, sR, vA, vF, vX, hcel, hc, hsR, hA, hF, hX⟩ := hs
  obtain ⟨pf, aF, cF, rfl, hfl, hsF, hFt⟩ := hF.at b1_len (by decide)
  obtain ⟨px, aX, cX, rfl, hxl, hsX, hXt⟩ := hX.at b1_len (by decide)
  obtain ⟨aR, nR, cR, rfl⟩ := hsR.shape
  have hnR := hsR.le rpc_len (by omega)
  subst hnR
  have hFl : d.flL.length = d.c.tide.length := rowF_len _ _
  have hXl : d.fiL.length = d.rs.length := List.length_map _
  rw [hFl] at hfl hsF
  rw [hXl] at hxl hsX
  obtain ⟨_, _, hW, hH, hlen⟩ := hok.dims
  have h144 : d.c.depth.length ≤ 144 := by rw [hlen]; exact Nat.le_trans (Nat.mul_le_mul hW.2 hH.2) (by decide)
  have h1 : 1 ≤ d.c.depth.length := by rw [hlen]; exact Nat.mul_le_mul hW.1 hH.1
  have hT := hok.2.2.2.1
  have hc9 := hcel 9 _ rfl
  have hc10 := hcel 10 _ rfl
  have hc7 := hcel 7 _ rfl
  rw [hFl] at hc9
  rw [hXl] at hc10
  have hrF := fun H => hsF.rd0 H
  have hrX := fun H => hsX.rd0 H
  have hrR := fun H => hsR.rd0 H
  have hfg := fun t (h : t < d.c.tide.length) => fl_get d h
  have hfg2 := fun t x (h : x < d.c.depth.length) => fl_get2 d t h
  have hxg := fun i r (h : d.rs[i]? = some r) => fi_get d h
  have hxg2 := fun r x (h : x < d.c.depth.length) => fi_get2 d.c r h
  have hbd := fun i (hi : i ≤ d.rs.length) t x => Dis.cst_bd hm12 hp hi t x
  have hcr : ∀ i t, d.cstR p i t = rowF d.c.depth.length (d.cst p i t) := fun _ _ => rfl
  have hcall : ∀ t, rowF d.c.depth.length ((d.crs p).cost t) = d.cstR p d.rs.length t := fun t => rfl
  have hflr : ∀ t, (d.flRow t).length = d.c.depth.length := fun t => rowF_len _ _
  have hfir : ∀ r, (fiRow d.c r).length = d.c.depth.length := fun r => rowF_len _ _
  unfold CostP
  have hgn : (d.crs p).n = d.c.depth.length := rfl
  have hgT : (d.crs p).T = d.c.tide.length := rfl
  simp only [hgn, hgT, hcall]
  obtain ⟨pg, pfirst, pcap, rfl, hpT, hpc⟩ := hvp
  obtain ⟨n, hn⟩ : ∃ n, d.c.depth.length = n := ⟨_, rfl⟩
  obtain ⟨T, hTe⟩ : ∃ T, d.c.tide.length = T := ⟨_, rfl⟩
  obtain ⟨m, hme⟩ : ∃ m, d.rs.length = m := ⟨_, rfl⟩
  rw [hn] at h144 h1
  rw [hTe] at hT hfl hsF hc9
  rw [hme] at hm12 hxl hsX hc10 hsR hc7
  simp only [hn, hTe, hme]
  simp only [hn, hTe, hme, hflr, hfir] at hfg hfg2 hxg hxg2 hrF hrX hrR hbd hcr hpc hFt hXt
  have dn : ∀ (g : Nat) (xs : List Value), det0 g xs = none := fun _ _ => rfl
  refine walk [] [] (det0_ok _ _) Tryz.func77 rfl Tryz.ntmps77 res77 (by kernel_rfl) no_facts ?_
  simp (config := { maxSteps := 4000000 }) only [↓sx0, ↓sx1, ↓sx2, ↓sx3, ↓sx4, ↓sx5, ↓sx6, sx0, sx1, sx2, sx3, sx4, sx5, sx6, tf77, ev3_hold, sxo, sxc, sxp, sxq, sxr, sxs, sxl, sxm, simprocAttr]
  refine ld_olda (b := bs) (o := 9) rfl hc9 id ?_
  simp (config := { maxSteps := 4000000 }) only [↓sx0, ↓sx1, ↓sx2, ↓sx3, ↓sx4, ↓sx5, ↓sx6, sx0, sx1, sx2, sx3, sx4, sx5, sx6, tf77, ev3_hold, sxo, sxc, sxp, sxq, sxr, sxs, sxl, sxm, simprocAttr]
  refine loop_constH (HO.row (.slice none 0 0) 22 1 (cat lpc (psF n [] (d.cstR p 0))) :: rowsF n [] (d.cstR p 0)) ((HImp.nil _ _).trans (HImp.nilRow _ _ _ _)) [(5, 5), (7, 10), (21, 45)] (fun q : Nat × Option Addr × Nat × List Addr => [(5, .slice q.2.1 q.1 q.2.2.1), (21, I q.1)])
    (fun q H1 => q.1 ≤ T ∧ q.2.2.2.length = q.1 ∧ (q.2.1 = none → q.1 = 0) ∧ H1 = HO.row (.slice q.2.1 q.1 q.2.2.1) 22 1 (cat lpc (psF n q.2.2.2 (d.cstR p 0))) :: rowsF n q.2.2.2 (d.cstR p 0)) (fun q => T - q.1) (0, none, 0, []) ?_ ⟨Nat.zero_le _, rfl, fun _ => rfl, rfl⟩ ?_
  · simp (config := { maxSteps := 4000000 }) only [↓sx0, ↓sx1, ↓sx2, ↓sx3, ↓sx4, ↓sx5, ↓sx6, sx0, sx1, sx2, sx3, sx4, sx5, sx6, tf77, ev3_hold, sxo, sxc, sxp, sxq, sxr, sxs, sxl, sxm, simprocAttr]
    try simp
  rintro ⟨t, ao, co, aa⟩ H1 g1 hinv
  simp only [] at hinv
  obtain ⟨ht, haa, hnil, rfl⟩ := hinv
  have hpl := psF_len n aa (d.cstR p 0)
  by_cases htT : t = T
  case neg =>
    have e7 : ((t : Int) < (T : Int)) = True := eq_true (by omega)
    have e8 : wr (t + 1) = ((t + 1 : Nat) : Int) := (wrap_id (by omega)).trans (by omega)
    obtain ⟨a2, c2, hpi, hs2⟩ := hFt t _ (hfg t (by omega))
    have hr2 := hs2.rd0
    simp only [hflr, hn] at hpi hs2 hr2
    refine ⟨?_⟩
    simp (config := { maxSteps := 4000000 }) only [↓sx0, ↓sx1, ↓sx2, ↓sx3, ↓sx4, ↓sx5, ↓sx6, sx0, sx1, sx2, sx3, sx4, sx5, sx6, tf77, ev3_hold, sxo, sxc, sxp, sxq, sxr, sxs, sxl, sxm, simprocAttr, e7]
    refine amid (at_1 (hrF _) lpc_len hpi (show lpc _ = [Value.slice a2 n c2] from rfl) fun ad1 => ?_)
    simp (config := { maxSteps := 4000000 }) only [↓sx0, ↓sx1, ↓sx2, ↓sx3, ↓sx4, ↓sx5, ↓sx6, sx0, sx1, sx2, sx3, sx4, sx5, sx6, tf77, ev3_hold, sxo, sxc, sxp, sxq, sxr, sxs, sxl, sxm, simprocAttr]
    intro bq
    simp (config := { maxSteps := 4000000 }) only [↓sx0, ↓sx1, ↓sx2, ↓sx3, ↓sx4, ↓sx5, ↓sx6, sx0, sx1, sx2, sx3, sx4, sx5, sx6, tf77, ev3_hold, sxo, sxc, sxp, sxq, sxr, sxs, sxl, sxm, simprocAttr, dn]
    refine CallOb.pureH (fun w' hp' => rep3_fn w' bq n (by omega) h1 (row_hp (E := 3) List.mem_cons_self hp')) ?_
    rintro q N ⟨b, rfl, hN⟩
    obtain ⟨H9, hH9⟩ : ∃ H9, HO.row (.slice ao t co) 22 1 (cat lpc (psF n aa (d.cstR p 0))) :: rowsF n aa (d.cstR p 0) = H9 := ⟨_, rfl⟩
    rw [hH9]
    refine ⟨?_⟩
    refine loop_constH (HO.row (.slice (some ⟨b, 0, none⟩) n n) 3 1 (ints (rowF n fun x => if x < 0 then d.cst p 0 t x else NV)) :: H9) ?_ [(9, 10), (31, 40)] (fun k : Nat => [(31, I k)]) (fun k H1 => k ≤ n ∧ H1 = HO.row (.slice (some ⟨b, 0, none⟩) n n) 3 1 (ints (rowF n fun x => if x < k then d.cst p 0 t x else NV)) :: H9) (fun k => n - k) 0 ?_ ⟨by omega, rfl⟩ ?_
    · have h := List.Sublist.append (List.singleton_sublist.2 hN) (List.sublist_cons_self (HO.row (.slice (some ⟨bq, 0, none⟩) 1 1) 3 1 (ints [1073741824])) H9)
      exact HImp.sub h
    · simp (config := { maxSteps := 4000000 }) only [↓sx0, ↓sx1, ↓sx2, ↓sx3, ↓sx4, ↓sx5, ↓sx6, sx0, sx1, sx2, sx3, sx4, sx5, sx6, tf77, ev3_hold, sxo, sxc, sxp, sxq, sxr, sxs, sxl, sxm, simprocAttr]
      try simp
    rintro k H2 g2 ⟨hk, rfl⟩
    by_cases hkn : k = n
    · have f7 : ((k : Int) < (n : Int)) = False := eq_false (by omega)
      rw [rowF_congr (n := n) (f := fun x => if x < k then d.cst p 0 t x else NV) (g := d.cst p 0 t) (fun x hx => if_pos (by omega)), ← hcr]
      refine ⟨?_⟩
      simp (config := { maxSteps := 4000000 }) only [↓sx0, ↓sx1, ↓sx2, ↓sx3, ↓sx4, ↓sx5, ↓sx6, sx0, sx1, sx2, sx3, sx4, sx5, sx6, tf77, ev3_hold, sxo, sxc, sxp, sxq, sxr, sxs, sxl, sxm, simprocAttr, f7]
      intro b9
      refine app_one (f := lpc) (l := psF n aa (d.cstR p 0)) ((d.cstR p 0 t, some ⟨b, 0, none⟩, n, n) : Lp Int) (A := HO.row (.slice (some ⟨b, 0, none⟩) n n) 3 1 (ints (d.cstR p 0 t)) :: rowsF n aa (d.cstR p 0)) (by rw [← hH9]; exact HImp.swap _ _ _ _) lpc_len lpc_one (by omega) fun a9 c9 => ?_
      rw [show d.cstR p 0 t = d.cstR p 0 aa.length by rw [haa], ← psF_snoc, hpl, haa]
      simp (config := { maxSteps := 4000000 }) only [↓sx0, ↓sx1, ↓sx2, ↓sx3, ↓sx4, ↓sx5, ↓sx6, sx0, sx1, sx2, sx3, sx4, sx5, sx6, tf77, ev3_hold, sxo, sxc, sxp, sxq, sxr, sxs, sxl, sxm, simprocAttr, e8]
      exact ⟨(t + 1, some a9, c9, aa ++ [⟨b, 0, none⟩]), HO.row (.slice (some a9) (t + 1) c9) 22 1 (cat lpc (psF n (aa ++ [⟨b, 0, none⟩]) (d.cstR p 0))) :: rowsF n (aa ++ [⟨b, 0, none⟩]) (d.cstR p 0), ⟨rfl, rfl⟩, by rw [rowsF_snoc, haa]; exact HImp.perm (List.Perm.cons _ (List.perm_append_comm (l₁ := [_]))), ⟨by simp only []; omega, by simp only []; rw [List.length_append, haa]; rfl, fun h => (by cases h), rfl⟩, by simp only []; omega⟩
    have f7 : ((k : Int) < (n : Int)) = True := eq_true (by omega)
    have f8 : wr (k + 1) = ((k + 1 : Nat) : Int) := (wrap_id (by omega)).trans (by omega)
    have hcz := Dis.cst_zero d p t k
    cases hmy : d.may t k with
    | false =>
      have hmm := hfg2 t k (by omega)
      rw [hmy] at hmm hcz
      have hst : (rowF n fun x => if x < k then d.cst p 0 t x else NV) = rowF n fun x => if x < k + 1 then d.cst p 0 t x else NV := rowF_congr fun x hx => by
        by_cases e : x = k
        · subst e
          rw [if_neg (by omega), if_pos (by omega), hcz]
          rfl
        · by_cases e2 : x < k
          · rw [if_pos e2, if_pos (by omega)]
          · rw [if_neg e2, if_neg (by omega)]
      refine ⟨?_⟩
      simp (config := { maxSteps := 4000000 }) only [↓sx0, ↓sx1, ↓sx2, ↓sx3, ↓sx4, ↓sx5, ↓sx6, sx0, sx1, sx2, sx3, sx4, sx5, sx6, tf77, ev3_hold, sxo, sxc, sxp, sxq, sxr, sxs, sxl, sxm, simprocAttr, f7]
      refine amid (at_1 (hr2 _) b1_len hmm rfl fun ad3 => ?_)
      simp (config := { maxSteps := 4000000 }) only [↓sx0, ↓sx1, ↓sx2, ↓sx3, ↓sx4, ↓sx5, ↓sx6, sx0, sx1, sx2, sx3, sx4, sx5, sx6, tf77, ev3_hold, sxo, sxc, sxp, sxq, sxr, sxs, sxl, sxm, simprocAttr, f8]
      exact ⟨k + 1, _, rfl, HImp.refl _ _, ⟨by omega, by rw [hst]⟩, by omega⟩
    | true =>
      have hmm := hfg2 t k (by omega)
      rw [hmy] at hmm hcz
      refine ⟨?_⟩
      simp (config := { maxSteps := 4000000 }) only [↓sx0, ↓sx1, ↓sx2, ↓sx3, ↓sx4, ↓sx5, ↓sx6, sx0, sx1, sx2, sx3, sx4, sx5, sx6, tf77, ev3_hold, sxo, sxc, sxp, sxq, sxr, sxs, sxl, sxm, simprocAttr, f7]
      refine amid (at_1 (hr2 _) b1_len hmm rfl fun ad3 => ?_)
      simp (config := { maxSteps := 4000000 }) only [↓sx0, ↓sx1, ↓sx2, ↓sx3, ↓sx4, ↓sx5, ↓sx6, sx0, sx1, sx2, sx3, sx4, sx5, sx6, tf77, ev3_hold, sxo, sxc, sxp, sxq, sxr, sxs, sxl, sxm, simprocAttr]
      refine ⟨by omega, by omega, _, rfl, ?_⟩
      refine wr_at (A := []) (u := 0) rfl i1_len (by rw [rowF_len]) (by rw [rowF_len]; omega) ?_
      rw [setStep (d.cst p 0 t) (fun _ => NV) (v := 0) (by rw [hcz]; rfl)]
      simp (config := { maxSteps := 4000000 }) only [↓sx0, ↓sx1, ↓sx2, ↓sx3, ↓sx4, ↓sx5, ↓sx6, sx0, sx1, sx2, sx3, sx4, sx5, sx6, tf77, ev3_hold, sxo, sxc, sxp, sxq, sxr, sxs, sxl, sxm, simprocAttr, f8]
      exact ⟨k + 1, _, rfl, HImp.refl _ _, ⟨by omega, rfl⟩, by omega⟩
  subst htT
  have e7 : ((t : Int) < (t : Int)) = False := eq_false (by omega)
  cases ao with
  | none => exact absurd (hnil rfl) (by omega)
  | some ao =>
  refine ⟨?_⟩
  simp (config := { maxSteps := 4000000 }) only [↓sx0, ↓sx1, ↓sx2, ↓sx3, ↓sx4, ↓sx5, ↓sx6, sx0, sx1, sx2, sx3, sx4, sx5, sx6, tf77, ev3_hold, sxo, sxc, sxp, sxq, sxr, sxs, sxl, sxm, simprocAttr, e7]
  refine ld_olda (b := bs) (o := 7) rfl hc7 id ?_
  simp (config := { maxSteps := 4000000 }) only [↓sx0, ↓sx1, ↓sx2, ↓sx3, ↓sx4, ↓sx5, ↓sx6, sx0, sx1, sx2, sx3, sx4, sx5, sx6, tf77, ev3_hold, sxo, sxc, sxp, sxq, sxr, sxs, sxl, sxm, simprocAttr]
  refine loop_constH (HO.row (.slice (some ao) t co) 22 1 (cat lpc (psF n aa (d.cstR p 0))) :: rowsF n aa (d.cstR p 0)) (HImp.refl _ _) [(11, 15), (52, 90)] (fun i : Nat => [(52, I i)])
    (fun i H1 => i ≤ m ∧ H1 = HO.row (.slice (some ao) t co) 22 1 (cat lpc (psF n aa (d.cstR p 0))) :: rowsF n aa (d.cstR p i)) (fun i => m - i) 0 ?_ ⟨Nat.zero_le _, rfl⟩ ?_
  · simp (config := { maxSteps := 4000000 }) only [↓sx0, ↓sx1, ↓sx2, ↓sx3, ↓sx4, ↓sx5, ↓sx6, sx0, sx1, sx2, sx3, sx4, sx5, sx6, tf77, ev3_hold, sxo, sxc, sxp, sxq, sxr, sxs, sxl, sxm, simprocAttr]
    try simp
  rintro i H1 g1 ⟨hi, rfl⟩
  by_cases him : i = m
  · have f7 : ((i : Int) < (m : Int)) = False := eq_false (by omega)
    refine ⟨?_⟩
    simp (config := { maxSteps := 4000000 }) only [↓sx0, ↓sx1, ↓sx2, ↓sx3, ↓sx4, ↓sx5, ↓sx6, sx0, sx1, sx2, sx3, sx4, sx5, sx6, tf77, ev3_hold, sxo, sxc, sxp, sxq, sxr, sxs, sxl, sxm, simprocAttr, f7]
    have hfun : (fun t => d.cstR p m t) = d.cstR p m := rfl
    refine ⟨ao, co, aa, rfl, haa, ?_, ?_⟩
    · rw [psF_cells n aa (d.cstR p 0) (fun t => d.cstR p m t)]
      exact List.mem_cons_self
    · rw [hfun, ← him]
      exact fun h hh => List.mem_cons_of_mem _ hh
  have f7 : ((i : Int) < (m : Int)) = True := eq_true (by omega)
  have f8 : wr (i + 1) = ((i + 1 : Nat) : Int) := (wrap_id (by omega)).trans (by omega)
  obtain ⟨r, hr⟩ : ∃ r, d.rs[i]? = some r := ⟨_, List.getElem?_eq_getElem (by omega)⟩
  have hrok := (repB_iff _ _).1 (hrep r (List.mem_of_getElem? hr))
  rw [hTe, hn] at hrok
  obtain ⟨s0, hs0⟩ : ∃ s : Nat, r.tick = s := ⟨r.tick.toNat, by omega⟩
  have hs0T : s0 < t := by omega
  obtain ⟨aS, has⟩ : ∃ aS, aa[s0]? = some aS := ⟨_, List.getElem?_eq_getElem (by omega)⟩
  obtain ⟨a4, c4, hxi, hs4⟩ := hXt i _ (hxg i r hr)
  have hr4 := hs4.rd0
  simp only [hfir, hn] at hxi hs4 hr4
  obtain ⟨pA, pB, hsplit⟩ := rowsF_split (n := n) (d.cstR p i) has
  have hoff : ∀ s x, d.rps.off s x i = (decide (s0 = s) && !saysB d.c r x) := fun s x => by
    have : d.rep i = r := by unfold Dis.rep; rw [List.getD_eq_getElem?_getD, hr]; rfl
    show (decide ((d.rep i).tick.toNat = s) && !saysB d.c (d.rep i) x) = _
    rw [this, hs0]
    rfl
  have hp0 : 0 ≤ p i ∧ p i ≤ NV := by
    have := hp i
    unfold NV at *
    omega
  have hbdi := fun x => hbd i (by omega) s0 x
  have hstart : rowsF n aa (d.cstR p i) = pA ++ HO.row (.slice (some aS) n n) 3 1 (ints (rowF n fun x => if x < 0 then d.cst p (i + 1) s0 x else d.cst p i s0 x)) :: pB := by
    rw [← hsplit]
    refine rowsF_congr fun s _ => ?_
    by_cases e : s = s0
    · subst e
      simp only [if_true]
      rw [hcr]
      exact rowF_congr fun x _ => by simp
    · rw [if_neg e]
  have hend : rowsF n aa (d.cstR p (i + 1)) = pA ++ HO.row (.slice (some aS) n n) 3 1 (ints (rowF n fun x => if x < n then d.cst p (i + 1) s0 x else d.cst p i s0 x)) :: pB := by
    rw [← hsplit]
    refine rowsF_congr fun s _ => ?_
    by_cases e : s = s0
    · subst e
      simp only [if_true]
      rw [hcr]
      exact rowF_congr fun x hx => (if_pos hx).symm
    · rw [if_neg e, hcr, hcr]
      exact rowF_congr fun x _ => Dis.cst_other d p (by rw [hoff, decide_eq_false (fun h => e h.symm)]; rfl)
  have hpi : (psF n aa (d.cstR p 0))[s0]? = some (d.cstR p 0 s0, some aS, n, n) := psF_get _ has
  have hro := fun (H : List HO) (h : HO.row (.slice (some ao) t co) 22 1 (cat lpc (psF n aa (d.cstR p 0))) ∈ H) => row_rdv (w0 := ⟨w, fun _ => False⟩) h ⟨_, _, _, rfl, by rw [cat_len lpc_len, hpl, haa], fun h => by cases h⟩
  obtain ⟨O0, hO0⟩ : ∃ O0, HO.row (.slice (some ao) t co) 22 1 (cat lpc (psF n aa (d.cstR p 0))) = O0 := ⟨_, rfl⟩
  rw [hO0] at hro ⊢
  have hpci := fun (H : List HO) w' (hp' : Hp ⟨w, fun _ => False⟩ H w') => hpc w' hp'.ext i (by omega)
  obtain ⟨x1, x2, x3, x4, x5, x6, x7, s, x9⟩ := r
  simp only [] at hs0
  subst hs0
  refine ⟨?_⟩
  simp (config := { maxSteps := 4000000 }) only [↓sx0, ↓sx1, ↓sx2, ↓sx3, ↓sx4, ↓sx5, ↓sx6, sx0, sx1, sx2, sx3, sx4, sx5, sx6, tf77, ev3_hold, sxo, sxc, sxp, sxq, sxr, sxs, sxl, sxm, simprocAttr, f7]
  refine amid (at_n (hrR _) rpc_len (by omega) hr fun ad => ?_)
  unfold rpc
  simp (config := { maxSteps := 4000000 }) only [↓sx0, ↓sx1, ↓sx2, ↓sx3, ↓sx4, ↓sx5, ↓sx6, sx0, sx1, sx2, sx3, sx4, sx5, sx6, tf77, ev3_hold, sxo, sxc, sxp, sxq, sxr, sxs, sxl, sxm, simprocAttr]
  refine at_1 (hro _ List.mem_cons_self) lpc_len hpi (show lpc _ = [Value.slice (some aS) n n] from rfl) fun ad2 => ?_
  simp (config := { maxSteps := 4000000 }) only [↓sx0, ↓sx1, ↓sx2, ↓sx3, ↓sx4, ↓sx5, ↓sx6, sx0, sx1, sx2, sx3, sx4, sx5, sx6, tf77, ev3_hold, sxo, sxc, sxp, sxq, sxr, sxs, sxl, sxm, simprocAttr]
  refine ld_olda (b := bs) (o := 10) rfl hc10 id ?_
  simp (config := { maxSteps := 4000000 }) only [↓sx0, ↓sx1, ↓sx2, ↓sx3, ↓sx4, ↓sx5, ↓sx6, sx0, sx1, sx2, sx3, sx4, sx5, sx6, tf77, ev3_hold, sxo, sxc, sxp, sxq, sxr, sxs, sxl, sxm, simprocAttr]
  refine at_1 (hrX _) lpc_len hxi (show lpc _ = [Value.slice a4 n c4] from rfl) fun ad3 => ?_
  simp (config := { maxSteps := 4000000 }) only [↓sx0, ↓sx1, ↓sx2, ↓sx3, ↓sx4, ↓sx5, ↓sx6, sx0, sx1, sx2, sx3, sx4, sx5, sx6, tf77, ev3_hold, sxo, sxc, sxp, sxq, sxr, sxs, sxl, sxm, simprocAttr]
  refine loop_constH (O0 :: (pA ++ HO.row (.slice (some aS) n n) 3 1 (ints (rowF n fun x => if x < 0 then d.cst p (i + 1) s0 x else d.cst p i s0 x)) :: pB)) (by rw [hstart]; exact HImp.refl _ _) [(14, 15), (70, 89)] (fun k : Nat => [(70, I k)]) (fun k H1 => k ≤ n ∧ H1 = O0 :: (pA ++ HO.row (.slice (some aS) n n) 3 1 (ints (rowF n fun x => if x < k then d.cst p (i + 1) s0 x else d.cst p i s0 x)) :: pB)) (fun k => n - k) 0 ?_ ⟨by omega, rfl⟩ ?_
  · simp (config := { maxSteps := 4000000 }) only [↓sx0, ↓sx1, ↓sx2, ↓sx3, ↓sx4, ↓sx5, ↓sx6, sx0, sx1, sx2, sx3, sx4, sx5, sx6, tf77, ev3_hold, sxo, sxc, sxp, sxq, sxr, sxs, sxl, sxm, simprocAttr]
    try simp
  rintro k H2 g2 ⟨hk, rfl⟩
  by_cases hkn : k = n
  · have k7 : ((k : Int) < (n : Int)) = False := eq_false (by omega)
    subst hkn
    rw [← hend]
    refine ⟨?_⟩
    simp (config := { maxSteps := 4000000 }) only [↓sx0, ↓sx1, ↓sx2, ↓sx3, ↓sx4, ↓sx5, ↓sx6, sx0, sx1, sx2, sx3, sx4, sx5, sx6, tf77, ev3_hold, sxo, sxc, sxp, sxq, sxr, sxs, sxl, sxm, simprocAttr, k7, f8]
    exact ⟨i + 1, _, rfl, HImp.refl _ _, ⟨by omega, rfl⟩, by omega⟩
  have k7 : ((k : Int) < (n : Int)) = True := eq_true (by omega)
  have k8 : wr (k + 1) = ((k + 1 : Nat) : Int) := (wrap_id (by omega)).trans (by omega)
  have hsy := hxg2 ⟨(s0 : Int), x2, x3, x4, x5, x6, x7, s, x9⟩ k (by omega)
  have hoffk := hoff s0 k
  rw [decide_eq_true rfl, Bool.true_and] at hoffk
  have hbk := hbdi k
  cases hsv : saysB d.c ⟨(s0 : Int), x2, x3, x4, x5, x6, x7, s, x9⟩ k with
  | true =>
    rw [hsv] at hsy hoffk
    have hsame := Dis.cst_other d p hoffk
    have hst : (rowF n fun x => if x < k then d.cst p (i + 1) s0 x else d.cst p i s0 x) = rowF n fun x => if x < k + 1 then d.cst p (i + 1) s0 x else d.cst p i s0 x := rowF_congr fun x hx => by
      by_cases e : x = k
      · subst e
        rw [if_neg (by omega), if_pos (by omega), hsame]
      · by_cases e2 : x < k
        · rw [if_pos e2, if_pos (by omega)]
        · rw [if_neg e2, if_neg (by omega)]
    refine ⟨?_⟩
    simp (config := { maxSteps := 4000000 }) only [↓sx0, ↓sx1, ↓sx2, ↓sx3, ↓sx4, ↓sx5, ↓sx6, sx0, sx1, sx2, sx3, sx4, sx5, sx6, tf77, ev3_hold, sxo, sxc, sxp, sxq, sxr, sxs, sxl, sxm, simprocAttr, k7]
    refine amid (at_1 (hr4 _) b1_len hsy rfl fun ad5 => ?_)
    simp (config := { maxSteps := 4000000 }) only [↓sx0, ↓sx1, ↓sx2, ↓sx3, ↓sx4, ↓sx5, ↓sx6, sx0, sx1, sx2, sx3, sx4, sx5, sx6, tf77, ev3_hold, sxo, sxc, sxp, sxq, sxr, sxs, sxl, sxm, simprocAttr, k8]
    exact ⟨k + 1, _, rfl, HImp.refl _ _, ⟨by omega, by rw [hst]⟩, by omega⟩
  | false =>
    rw [hsv] at hsy hoffk
    have hstep := Dis.cst_off d hp0.1 hoffk
    have hrow : (rowF n fun x => if x < k then d.cst p (i + 1) s0 x else d.cst p i s0 x)[k]? = some (d.cst p i s0 k) := by
      rw [rowF_get _ (by omega), if_neg (by omega)]
    unfold NV at hbk hp0
    have e9 : wr (d.cst p i s0 k + p i) = d.cst p i s0 k + p i := wrap_id (by omega)
    have hset := setStep (n := n) (i := k) (d.cst p (i + 1) s0) (d.cst p i s0) (v := min 1073741824 (d.cst p i s0 k + p i)) (by rw [hstep]; rfl)
    obtain ⟨R0, hR0⟩ : ∃ R0, (rowF n fun x => if x < k then d.cst p (i + 1) s0 x else d.cst p i s0 x) = R0 := ⟨_, rfl⟩
    have hR0l : R0.length = n := by rw [← hR0, rowF_len]
    rw [hR0] at hrow hset ⊢
    have hRr := fun (H : List HO) (h : HO.row (.slice (some aS) n n) 3 1 (ints R0) ∈ H) => row_rdv (w0 := ⟨w, fun _ => False⟩) h ⟨_, _, _, rfl, by rw [cat_len i1_len, hR0l], fun h => by cases h⟩
    refine ⟨?_⟩
    simp (config := { maxSteps := 4000000 }) only [↓sx0, ↓sx1, ↓sx2, ↓sx3, ↓sx4, ↓sx5, ↓sx6, sx0, sx1, sx2, sx3, sx4, sx5, sx6, tf77, ev3_hold, sxo, sxc, sxp, sxq, sxr, sxs, sxl, sxm, simprocAttr, k7]
    refine amid (at_1 (hr4 _) b1_len hsy rfl fun ad5 => ?_)
    simp (config := { maxSteps := 4000000 }) only [↓sx0, ↓sx1, ↓sx2, ↓sx3, ↓sx4, ↓sx5, ↓sx6, sx0, sx1, sx2, sx3, sx4, sx5, sx6, tf77, ev3_hold, sxo, sxc, sxp, sxq, sxr, sxs, sxl, sxm, simprocAttr]
    refine at_1 (hRr _ (by simp)) i1_len hrow rfl fun ad6 => ?_
    simp (config := { maxSteps := 4000000 }) only [↓sx0, ↓sx1, ↓sx2, ↓sx3, ↓sx4, ↓sx5, ↓sx6, sx0, sx1, sx2, sx3, sx4, sx5, sx6, tf77, ev3_hold, sxo, sxc, sxp, sxq, sxr, sxs, sxl, sxm, simprocAttr, dn]
    refine ⟨hpT, ?_⟩
    refine CallOb.pureH (fun w' hp' => by rw [List.append_assoc]; exact hpci _ w' hp') ?_
    rintro q N rfl
    refine ⟨?_⟩
    simp (config := { maxSteps := 4000000 }) only [↓sx0, ↓sx1, ↓sx2, ↓sx3, ↓sx4, ↓sx5, ↓sx6, sx0, sx1, sx2, sx3, sx4, sx5, sx6, tf77, ev3_hold, sxo, sxc, sxp, sxq, sxr, sxs, sxl, sxm, simprocAttr, e9]
    refine ⟨by omega, by omega, _, rfl, ?_⟩
    refine wr_at (A := N ++ (O0 :: pA)) (B := pB) (u := min 1073741824 (d.cst p i s0 k + p i)) (ad := aS) (len := n) (cap := n) (e := 3) (l := R0) (by simp) i1_len hR0l (by omega) ?_
    rw [hset]
    simp (config := { maxSteps := 4000000 }) only [↓sx0, ↓sx1, ↓sx2, ↓sx3, ↓sx4, ↓sx5, ↓sx6, sx0, sx1, sx2, sx3, sx4, sx5, sx6, tf77, ev3_hold, sxo, sxc, sxp, sxq, sxr, sxs, sxl, sxm, simprocAttr, k8]
    refine ⟨k + 1, _, rfl, ?_, ⟨by omega, rfl⟩, by omega⟩
    rw [List.append_assoc]
    exact HImp.app _ _ _
end Go.Proofs.YtnbogcpnpcbjgaaGreatDoor

namespace Go.Proofs.YtnbogcpnpcbjgaaGreatDoor
open Go.RowKit Go.SX
set_option maxRecDepth 10000
set_option maxHeartbeats 0
set_option linter.unusedSimpArgs false
set_option linter.unusedVariables false
theorem cloneL_fn (w : World) (ad : Addr) (c : Nat) (l : List (Lp Int)) (hs : Sl w (.slice (some ad) l.length c) 1 (cat lpc l)) (hb : l.length ≤ 1000000) (h0 : 0 < l.length) : SX.Fn Tryz.prog 123 [.slice (some ad) l.length c] w (fun _ => False) fun r N => ∃ ad c, r = .slice (some ad) l.length c ∧ N = [.row (.slice (some ad) l.length c) 22 1 (cat lpc l)] := by
  have hs0 := hs
  refine walk [] [] (det0_ok _ _) Tryz.func123 rfl Tryz.ntmps123 res123 (by kernel_rfl) no_facts ?_
  simp (config := { maxSteps := 4000000 }) only [↓sx0, ↓sx1, ↓sx2, ↓sx3, ↓sx4, ↓sx5, ↓sx6, sx0, sx1, sx2, sx3, sx4, sx5, sx6, tf123, ev3_hold, sxo, sxc, sxp, sxq, sxr, sxs, sxl, sxm, simprocAttr]
  refine ⟨fun h => (by cases h), fun _ b => ?_⟩
  refine app_at (f := lpc) (l := []) (m := l) (HImp.refl _ _) lpc_len lpc_one (fun w' hp' => Sl.hp (w0 := ⟨w, fun _ => False⟩) hs0 (fun _ _ => id) hp') (bytes := 24) (by simp only [List.length_nil]; omega) ?_
  intro ad3 c3 hnil
  rw [List.nil_append, List.length_nil, Nat.zero_add]
  cases ad3 with
  | none =>
    have := (hnil rfl).2
    rw [this] at h0
    simp at h0
  | some ad3 =>
  simp (config := { maxSteps := 4000000 }) only [↓sx0, ↓sx1, ↓sx2, ↓sx3, ↓sx4, ↓sx5, ↓sx6, sx0, sx1, sx2, sx3, sx4, sx5, sx6, tf123, ev3_hold, sxo, sxc, sxp, sxq, sxr, sxs, sxl, sxm, simprocAttr]
  exact ⟨ad3, c3, rfl, rfl⟩
theorem Crs.mins_bd {g : Crs} {row : Nat → Int} (h : ∀ y, y < g.n → 0 ≤ row y) (x : Nat) : 0 ≤ g.mins row x g.n ∧ g.mins row x g.n ≤ NV := by
  refine ⟨?_, g.mins_top row x g.n⟩
  rcases g.mins_att row x g.n with h1 | ⟨y, h1, _, h2⟩
  · rw [h1]; decide
  · rw [← h2]; exact h y h1
theorem onw_pos {g : Crs} (h : g.Ok) {k : Nat} (hk : k + 1 ≤ g.T) (x : Nat) : 0 ≤ g.onw k x ∧ g.onw k x ≤ NV := by
  have h1 := Crs.onw_bd h k x hk
  have h2 := h.small hk
  have : (0 : Int) ≤ NV := by decide
  omega
theorem cost_pos {g : Crs} (h : g.Ok) (t x : Nat) : 0 ≤ g.cost t x ∧ g.cost t x ≤ NV := by
  have h1 := h.cost t x
  have h2 := h.small (k := 1) h.T1
  have : (0 : Int) ≤ NV := by decide
  omega
def OnwP (g : Crs) (pc : List (Lp Int)) (q : Value) (N : List HO) : Prop := ∃ ad cp qs, q = .slice (some ad) g.T cp ∧ HO.row (.slice (some ad) g.T cp) 22 1 (cat lpc qs) ∈ N ∧ qs.length = g.T ∧ qs[g.T - 1]? = pc[g.T - 1]? ∧ ∀ s, s + 1 < g.T → ∃ a, qs[s]? = some (rowF g.n (g.onw (g.T - 1 - s)), some a, g.n, g.n) ∧ HO.row (.slice (some a) g.n g.n) 3 1 (ints (rowF g.n (g.onw (g.T - 1 - s)))) ∈ N
theorem onward_fn (w : World) (bs : Nat) (d : Dis) (hs : SeaOk w bs d) (hE : d.E = 0) (p : Nat → Int) (hp : priceOk 100 p) (ac : Addr) (cc : Nat) (pc : List (Lp Int)) (hpl : pc.length = d.c.tide.length) (hc : Sl w (.slice (some ac) d.c.tide.length cc) 1 (cat lpc pc)) (hpc : ∀ t, t < d.c.tide.length → ∃ a c, pc[t]? = some (rowF d.c.depth.length ((d.crs p).cost t), a, d.c.depth.length, c) ∧ Sl w (.slice a d.c.depth.length c) 1 (ints (rowF d.c.depth.length ((d.crs p).cost t)))) :
    SX.Fn Tryz.prog 78 [.pointer (some ⟨bs, 0, none⟩), .slice (some ac) d.c.tide.length cc] w (fun _ => False) (OnwP (d.crs p) pc) := by
  have hgo := Dis.crs_ok hE hp
  obtain ⟨hok, _, _, _, _⟩ := Dis.E_zero hE
  have hst := fun (f : Nat → Int) (vr : Value) (H : List HO) w' (hp' : Hp ⟨w, fun _ => False⟩ H w') (hr : Sl w' vr 1 (ints (rowF d.c.depth.length f))) => steps3_fn w' bs d (hs.hp hp') hok p f vr hr
  obtain ⟨_, _, hW, hH, hlen⟩ := hok.dims
  have h144 : d.c.depth.length ≤ 144 := by rw [hlen]; exact Nat.le_trans (Nat.mul_le_mul hW.2 hH.2) (by decide)
  have hT := hok.2.2.2.1
  have hT1 := hgo.T1
  have hrc := fun H => hc.rd0 H
  obtain ⟨g, hg⟩ : ∃ g, d.crs p = g := ⟨_, rfl⟩
  have hgn : d.c.depth.length = g.n := by rw [← hg]; rfl
  have hgT : d.c.tide.length = g.T := by rw [← hg]; rfl
  simp only [hg, hgn, hgT] at *
  clear hs
  obtain ⟨n, hn⟩ : ∃ n, g.n = n := ⟨_, rfl⟩
  obtain ⟨T, hTe⟩ : ∃ T, g.T = T := ⟨_, rfl⟩
  have hmb := fun (k : Nat) (hk : k + 1 ≤ g.T) (x : Nat) => Crs.mins_bd (g := g) (row := g.onw k) (fun y _ => (onw_pos hgo hk y).1) x
  have hcb := fun t x => cost_pos hgo t x
  have honw : ∀ k x, g.onw (k + 1) x = min NV (g.cost (g.T - 1 - (k + 1)) x + g.mins (g.onw k) x g.n) := fun _ _ => rfl
  have honw0 : ∀ x, g.onw 0 x = g.cost (g.T - 1) x := fun _ => rfl
  unfold OnwP
  simp only [hn, hTe] at *
  have dn : ∀ (g : Nat) (xs : List Value), det0 g xs = none := fun _ _ => rfl
  have e2 : wr ((T : Int) - 2) = ((T - 1 : Nat) : Int) - 1 := (wrap_id (by omega)).trans (by omega)
  refine walk [] [] (det0_ok _ _) Tryz.func78 rfl Tryz.ntmps78 res78 (by kernel_rfl) no_facts ?_
  simp (config := { maxSteps := 4000000 }) only [↓sx0, ↓sx1, ↓sx2, ↓sx3, ↓sx4, ↓sx5, ↓sx6, sx0, sx1, sx2, sx3, sx4, sx5, sx6, tf78, ev3_hold, sxo, sxc, sxp, sxq, sxr, sxs, sxl, sxm, simprocAttr, dn]
  refine CallOb.pureH (fun w' hp' => by rw [← hpl]; exact cloneL_fn w' ac cc pc (by rw [hpl]; exact hc.hp (fun _ _ => id) hp') (by omega) (by omega)) ?_
  rintro q N ⟨ad, cp, rfl, rfl⟩
  rw [hpl]
  refine ⟨?_⟩
  simp (config := { maxSteps := 4000000 }) only [↓sx0, ↓sx1, ↓sx2, ↓sx3, ↓sx4, ↓sx5, ↓sx6, sx0, sx1, sx2, sx3, sx4, sx5, sx6, tf78, ev3_hold, sxo, sxc, sxp, sxq, sxr, sxs, sxl, sxm, simprocAttr, e2]
  refine loop_constH [HO.row (.slice (some ad) T cp) 22 1 (cat lpc pc)] (HImp.refl _ _) [(6, 6), (12, 30)] (fun q : Nat × List (Lp Int) => [(6, I ((q.1 : Int) - 1))])
    (fun q H1 => q.1 + 1 ≤ T ∧ q.2.length = T ∧ (∀ s, s < q.1 → q.2[s]? = pc[s]?) ∧ q.2[T - 1]? = pc[T - 1]? ∧ ∃ D, H1 = HO.row (.slice (some ad) T cp) 22 1 (cat lpc q.2) :: D ∧ ∀ s, q.1 ≤ s → s + 1 < T → ∃ a, q.2[s]? = some (rowF n (g.onw (T - 1 - s)), some a, n, n) ∧ HO.row (.slice (some a) n n) 3 1 (ints (rowF n (g.onw (T - 1 - s)))) ∈ D) (fun q => q.1) (T - 1, pc) ?_ ⟨by simp only []; omega, hpl, fun _ _ => rfl, rfl, [], rfl, fun s h1 h2 => by simp only [] at h1; omega⟩ ?_
  · simp (config := { maxSteps := 4000000 }) only [↓sx0, ↓sx1, ↓sx2, ↓sx3, ↓sx4, ↓sx5, ↓sx6, sx0, sx1, sx2, sx3, sx4, sx5, sx6, tf78, ev3_hold, sxo, sxc, sxp, sxq, sxr, sxs, sxl, sxm, simprocAttr]
    try simp
  rintro ⟨j, qs⟩ H1 g1 hinv
  simp only [] at hinv
  obtain ⟨hj, hql, hold, hlast, D, rfl, hD⟩ := hinv
  cases j with
  | zero =>
    have e7 : (((0 : Nat) : Int) - 1 ≥ 0) = False := eq_false (by omega)
    refine ⟨?_⟩
    simp (config := { maxSteps := 4000000 }) only [↓sx0, ↓sx1, ↓sx2, ↓sx3, ↓sx4, ↓sx5, ↓sx6, sx0, sx1, sx2, sx3, sx4, sx5, sx6, tf78, ev3_hold, sxo, sxc, sxp, sxq, sxr, sxs, sxl, sxm, simprocAttr, e7]
    exact ⟨ad, cp, qs, rfl, List.mem_cons_self, hql, hlast, fun s h => by
      obtain ⟨a, h1, h2⟩ := hD s (Nat.zero_le _) h
      exact ⟨a, h1, List.mem_cons_of_mem _ h2⟩⟩
  | succ s =>
  have e0 : (((s + 1 : Nat) : Int) - 1) = (s : Int) := by omega
  have e7 : ((s : Int) ≥ 0) = True := eq_true (by omega)
  have e8 : wr ((s : Int) - 1) = ((s : Nat) : Int) - 1 := wrap_id (by omega)
  have e9 : wr ((s : Int) + 1) = ((s + 1 : Nat) : Int) := (wrap_id (by omega)).trans (by omega)
  obtain ⟨ak, ck, hpk, hsk⟩ := hpc s (by omega)
  -- the row behind
  obtain ⟨an, cn, hqn, hsn⟩ : ∃ an cn, qs[s + 1]? = some (rowF n (g.onw (T - 1 - (s + 1))), an, n, cn) ∧ ∀ w', Hp ⟨w, fun _ => False⟩ (HO.row (.slice (some ad) T cp) 22 1 (cat lpc qs) :: D) w' → Sl w' (.slice an n cn) 1 (ints (rowF n (g.onw (T - 1 - (s + 1))))) := by
    by_cases hs1 : s + 1 + 1 = T
    · obtain ⟨a1, c1, h1, h2⟩ := hpc (T - 1) (by omega)
      have e : g.onw (T - 1 - (s + 1)) = g.cost (T - 1) := by
        rw [show T - 1 - (s + 1) = 0 by omega]
        funext x
        exact honw0 x
      rw [e, show s + 1 = T - 1 by omega]
      exact ⟨a1, c1, hlast.trans h1, fun w' hp' => h2.hp (fun _ _ => id) hp'⟩
    · obtain ⟨a1, h1, h2⟩ := hD (s + 1) (Nat.le_refl _) (by omega)
      exact ⟨some a1, n, h1, fun w' hp' => row_hp (List.mem_cons_of_mem _ h2) hp'⟩
  have hpk' := hold s (by omega)
  rw [hpk] at hpk'
  have hro := fun (H : List HO) (h : HO.row (.slice (some ad) T cp) 22 1 (cat lpc qs) ∈ H) => row_rdv (w0 := ⟨w, fun _ => False⟩) h ⟨_, _, _, rfl, by rw [cat_len lpc_len, hql], fun h => by cases h⟩
  have hmk := hmb (T - 1 - (s + 1)) (by omega)
  have hck := hcb s
  have hnew : (fun x => min NV (g.cost s x + g.mins (g.onw (T - 1 - (s + 1))) x n)) = g.onw (T - 1 - s) := by
    funext x
    rw [show T - 1 - s = (T - 1 - (s + 1)) + 1 by omega, honw, show T - 1 - (T - 1 - (s + 1) + 1) = s by omega]
  obtain ⟨O, hO⟩ : ∃ O, g.onw (T - 1 - (s + 1)) = O := ⟨_, rfl⟩
  rw [hO] at hqn hsn hmk hnew
  refine ⟨?_⟩
  simp (config := { maxSteps := 4000000 }) only [↓sx0, ↓sx1, ↓sx2, ↓sx3, ↓sx4, ↓sx5, ↓sx6, sx0, sx1, sx2, sx3, sx4, sx5, sx6, tf78, ev3_hold, sxo, sxc, sxp, sxq, sxr, sxs, sxl, sxm, simprocAttr, e0, e7, e9]
  refine And.right (at_1 (hrc _) lpc_len hpk (show lpc _ = [Value.slice ak n ck] from rfl) fun ad2 => ?_)
  simp (config := { maxSteps := 4000000 }) only [↓sx0, ↓sx1, ↓sx2, ↓sx3, ↓sx4, ↓sx5, ↓sx6, sx0, sx1, sx2, sx3, sx4, sx5, sx6, tf78, ev3_hold, sxo, sxc, sxp, sxq, sxr, sxs, sxl, sxm, simprocAttr, e9]
  refine at_1 (hro _ List.mem_cons_self) lpc_len hqn (show lpc _ = [Value.slice an n cn] from rfl) fun ad3 => ?_
  simp (config := { maxSteps := 4000000 }) only [↓sx0, ↓sx1, ↓sx2, ↓sx3, ↓sx4, ↓sx5, ↓sx6, sx0, sx1, sx2, sx3, sx4, sx5, sx6, tf78, ev3_hold, sxo, sxc, sxp, sxq, sxr, sxs, sxl, sxm, simprocAttr, dn]
  refine CallOb.pureH (fun w' hp' => hst O _ _ w' hp' (hsn w' hp')) ?_
  rintro q N ⟨b1, rfl, hN1⟩
  refine ⟨?_⟩
  simp (config := { maxSteps := 4000000 }) only [↓sx0, ↓sx1, ↓sx2, ↓sx3, ↓sx4, ↓sx5, ↓sx6, sx0, sx1, sx2, sx3, sx4, sx5, sx6, tf78, ev3_hold, sxo, sxc, sxp, sxq, sxr, sxs, sxl, sxm, simprocAttr, dn]
  refine CallOb.pureH (fun w' hp' => add3_fn w' _ _ n (by omega) (g.cost s) (fun x => g.mins O x n) (hsk.hp (fun _ _ => id) hp') (row_hp (E := 3) (List.mem_append_left _ hN1) hp') (fun x _ => hck x) (fun x _ => hmk x)) ?_
  rintro q N2 ⟨b2, rfl, hN2⟩
  rw [hnew] at hN2
  refine ⟨?_⟩
  simp (config := { maxSteps := 4000000 }) only [↓sx0, ↓sx1, ↓sx2, ↓sx3, ↓sx4, ↓sx5, ↓sx6, sx0, sx1, sx2, sx3, sx4, sx5, sx6, tf78, ev3_hold, sxo, sxc, sxp, sxq, sxr, sxs, sxl, sxm, simprocAttr]
  refine ⟨by omega, by omega, _, rfl, ?_⟩
  refine wr_at (A := N2 ++ N) (B := D) (ad := ad) (len := T) (cap := cp) (e := 22) (l := qs) (f := lpc) (u := (rowF n (g.onw (T - 1 - s)), some ⟨b2, 0, none⟩, n, n)) (by simp) lpc_len hql (by omega) ?_
  simp (config := { maxSteps := 4000000 }) only [↓sx0, ↓sx1, ↓sx2, ↓sx3, ↓sx4, ↓sx5, ↓sx6, sx0, sx1, sx2, sx3, sx4, sx5, sx6, tf78, ev3_hold, sxo, sxc, sxp, sxq, sxr, sxs, sxl, sxm, simprocAttr, e0, e8]
  refine ⟨(s, qs.set s (rowF n (g.onw (T - 1 - s)), some ⟨b2, 0, none⟩, n, n)), HO.row (.slice (some ad) T cp) 22 1 (cat lpc (qs.set s (rowF n (g.onw (T - 1 - s)), some ⟨b2, 0, none⟩, n, n))) :: (N2 ++ N ++ D), rfl, ?_, ⟨by simp only []; omega, by simp only []; rw [List.length_set]; exact hql, fun u hu => ?_, ?_, _, rfl, fun u h1 h2 => ?_⟩, by simp only []; omega⟩
  · exact HImp.perm List.perm_middle
  · simp only [] at hu ⊢
    rw [List.getElem?_set_ne (by omega)]
    exact hold u (by omega)
  · simp only []
    rw [List.getElem?_set_ne (by omega)]
    exact hlast
  · simp only [] at h1 ⊢
    by_cases e : u = s
    · subst e
      exact ⟨⟨b2, 0, none⟩, by rw [List.getElem?_set_self (by omega)], by simp [hN2]⟩
    · obtain ⟨a, k1, k2⟩ := hD u (by omega) h2
      exact ⟨a, by rw [List.getElem?_set_ne (by omega)]; exact k1, by simp [k2]⟩
end Go.Proofs.YtnbogcpnpcbjgaaGreatDoor

namespace Go.Proofs.YtnbogcpnpcbjgaaGreatDoor
open Go.RowKit Go.SX
set_option maxRecDepth 10000
set_option maxHeartbeats 0
set_option linter.unusedSimpArgs false
set_option linter.unusedVariables false
def HasR (n T : Nat) (ps : List (Lp Int)) (F : Nat → Nat → Int) (H : List HO) : Prop := ps.length = T ∧ ∀ s, s < T → ∃ a c, ps[s]? = some (rowF n (F s), some a, n, c) ∧ HO.row (.slice (some a) n c) 3 1 (ints (rowF n (F s))) ∈ H
theorem HasR.mono {n T : Nat} {ps : List (Lp Int)} {F : Nat → Nat → Int} {H H' : List HO} (h : HasR n T ps F H) (hm : ∀ h ∈ H, h ∈ H') : HasR n T ps F H' := ⟨h.1, fun s hs => by
  obtain ⟨a, c, h1, h2⟩ := h.2 s hs
  exact ⟨a, c, h1, hm _ h2⟩⟩
theorem CostP.has {g : Crs} {q : Value} {N : List HO} (h : CostP g q N) : ∃ ao co ps, q = .slice (some ao) g.T co ∧ HO.row (.slice (some ao) g.T co) 22 1 (cat lpc ps) ∈ N ∧ HasR g.n g.T ps g.cost N := by
  obtain ⟨ao, co, aa, h1, h2, h3, h4⟩ := h
  refine ⟨ao, co, _, h1, h3, (psF_len _ _ _).trans h2, fun s hs => ?_⟩
  have ha : aa[s]? = some aa[s] := List.getElem?_eq_getElem (by omega)
  exact ⟨_, _, psF_get (fun t => rowF g.n (g.cost t)) ha, h4 _ (rowsF_mem (fun t => rowF g.n (g.cost t)) ha)⟩
theorem OnwP.has {g : Crs} (hT : 1 ≤ g.T) {pc : List (Lp Int)} {q : Value} {N N0 : List HO} (h : OnwP g pc q N) (hc : HasR g.n g.T pc g.cost N0) : ∃ ad cp qs, q = .slice (some ad) g.T cp ∧ HO.row (.slice (some ad) g.T cp) 22 1 (cat lpc qs) ∈ N ∧ HasR g.n g.T qs (fun s => g.onw (g.T - 1 - s)) (N ++ N0) := by
  obtain ⟨ad, cp, qs, h1, h2, h3, h4, h5⟩ := h
  refine ⟨ad, cp, qs, h1, h2, h3, fun s hs => ?_⟩
  by_cases e : s + 1 < g.T
  · obtain ⟨a, k1, k2⟩ := h5 s e
    exact ⟨a, g.n, k1, List.mem_append_left _ k2⟩
  · obtain ⟨a, c, k1, k2⟩ := hc.2 s hs
    have e2 : s = g.T - 1 := by omega
    have e3 : g.onw (g.T - 1 - s) = g.cost s := by
      rw [e2, Nat.sub_self]
      funext x
      rfl
    simp only [e3]
    exact ⟨a, c, by rw [e2, h4, ← e2]; exact k1, List.mem_append_right _ k2⟩
end Go.Proofs.YtnbogcpnpcbjgaaGreatDoor

namespace Go.Proofs.YtnbogcpnpcbjgaaGreatDoor
open Go.RowKit Go.SX
set_option maxRecDepth 10000
set_option maxHeartbeats 0
set_option linter.unusedSimpArgs false
set_option linter.unusedVariables false
def minF (f : Nat → Int) : Nat → Int
  | 0 => NV
  | m + 1 => min (minF f m) (f m)
theorem minF_least (g : Crs) : ∀ m, minF (g.onw (g.T - 1)) m = g.leastC m
  | 0 => rfl
  | m + 1 => by rw [minF, Crs.leastC, minF_least g m]
theorem min_fn (w : World) (v : Value) (n : Nat) (h1 : 1 ≤ n) (hn : n ≤ 200) (f : Nat → Int) (hs : Sl w v 1 (ints (rowF n f))) (hf : ∀ x, x < n → f x ≤ NV) : SX.Fn Tryz.prog 103 [v] w (fun _ => False) fun q N => q = I (minF f n) := by
  obtain ⟨a, na, c, rfl⟩ := hs.shape
  have hna := hs.le i1_len (by omega)
  rw [rowF_len] at hna
  subst hna
  have hr := hs.rd0
  have e1 : ((n : Int) < 1) = False := eq_false (by omega)
  have e2 : minF f 1 = f 0 := by
    have := hf 0 (by omega)
    unfold minF minF
    omega
  refine walk [] [] (det0_ok _ _) Tryz.func103 rfl Tryz.ntmps103 res103 (by kernel_rfl) no_facts ?_
  simp (config := { maxSteps := 4000000 }) only [↓sx0, ↓sx1, ↓sx2, ↓sx3, ↓sx4, ↓sx5, ↓sx6, sx0, sx1, sx2, sx3, sx4, sx5, sx6, tf103, ev3_hold, sxo, sxc, sxp, sxq, sxr, sxs, sxl, sxm, simprocAttr, e1]
  refine And.right (at_1 (k := 0) (hr _) i1_len (rowF_get f (show 0 < n by omega)) rfl fun ad => ?_)
  rw [← e2]
  simp (config := { maxSteps := 4000000 }) only [↓sx0, ↓sx1, ↓sx2, ↓sx3, ↓sx4, ↓sx5, ↓sx6, sx0, sx1, sx2, sx3, sx4, sx5, sx6, tf103, ev3_hold, sxo, sxc, sxp, sxq, sxr, sxs, sxl, sxm, simprocAttr]
  refine loop_constH [] (HImp.nil _ _) [(3, 4), (12, 23)] (fun k : Nat => [(3, I (minF f k)), (4, I k)]) (fun k H1 => 1 ≤ k ∧ k ≤ n) (fun k => n - k) 1 ?_ ⟨Nat.le_refl _, h1⟩ ?_
  · simp (config := { maxSteps := 4000000 }) only [↓sx0, ↓sx1, ↓sx2, ↓sx3, ↓sx4, ↓sx5, ↓sx6, sx0, sx1, sx2, sx3, sx4, sx5, sx6, tf103, ev3_hold, sxo, sxc, sxp, sxq, sxr, sxs, sxl, sxm, simprocAttr]
    try simp
  rintro k H1 g1 ⟨hk1, hk⟩
  by_cases hkn : k = n
  · have e7 : ((k : Int) < (n : Int)) = False := eq_false (by omega)
    subst hkn
    refine ⟨?_⟩
    simp (config := { maxSteps := 4000000 }) only [↓sx0, ↓sx1, ↓sx2, ↓sx3, ↓sx4, ↓sx5, ↓sx6, sx0, sx1, sx2, sx3, sx4, sx5, sx6, tf103, ev3_hold, sxo, sxc, sxp, sxq, sxr, sxs, sxl, sxm, simprocAttr, e7]
  have e7 : ((k : Int) < (n : Int)) = True := eq_true (by omega)
  have e8 : wr (k + 1) = ((k + 1 : Nat) : Int) := (wrap_id (by omega)).trans (by omega)
  have e9 : min (minF f k) (f k) = minF f (k + 1) := rfl
  refine ⟨?_⟩
  simp (config := { maxSteps := 4000000 }) only [↓sx0, ↓sx1, ↓sx2, ↓sx3, ↓sx4, ↓sx5, ↓sx6, sx0, sx1, sx2, sx3, sx4, sx5, sx6, tf103, ev3_hold, sxo, sxc, sxp, sxq, sxr, sxs, sxl, sxm, simprocAttr, e7]
  refine amid (at_1 (hr _) i1_len (rowF_get f (show k < n by omega)) rfl fun ad => ?_)
  simp (config := { maxSteps := 4000000 }) only [↓sx0, ↓sx1, ↓sx2, ↓sx3, ↓sx4, ↓sx5, ↓sx6, sx0, sx1, sx2, sx3, sx4, sx5, sx6, tf103, ev3_hold, sxo, sxc, sxp, sxq, sxr, sxs, sxl, sxm, simprocAttr, e8, e9]
  exact ⟨k + 1, _, ⟨rfl, rfl⟩, HImp.refl _ _, ⟨by omega, by omega⟩, by omega⟩
theorem fstC_of {p : Nat → Bool} {n k : Nat} (hk : k < n) (hp : p k = true) (h : ∀ z, z < k → p z = false) : fstC p n = some k := by
  unfold fstC
  rw [List.find?_range_eq_some]
  exact ⟨hp, List.mem_range.2 hk, fun z hz => by rw [h z hz]; rfl⟩
theorem indexF_fn (w : World) (v : Value) (n k : Nat) (hn : n ≤ 200) (f : Nat → Int) (x : Int) (hs : Sl w v 1 (ints (rowF n f))) (hx : fstC (fun z => decide (f z = x)) n = some k) : SX.Fn Tryz.prog 104 [v, I x] w (fun _ => False) fun q N => q = I k := by
  obtain ⟨h1, h2, h3⟩ := fstC_some hx
  have h1 := of_decide_eq_true h1
  obtain ⟨a, na, c, rfl⟩ := hs.shape
  have hna := hs.le i1_len (by omega)
  rw [rowF_len] at hna
  subst hna
  have hr := hs.rd0
  refine walk [] [] (det0_ok _ _) Tryz.func104 rfl Tryz.ntmps104 res104 (by kernel_rfl) no_facts ?_
  simp (config := { maxSteps := 4000000 }) only [↓sx0, ↓sx1, ↓sx2, ↓sx3, ↓sx4, ↓sx5, ↓sx6, sx0, sx1, sx2, sx3, sx4, sx5, sx6, tf104, ev3_hold, sxo, sxc, sxp, sxq, sxr, sxs, sxl, sxm, simprocAttr]
  refine loop_constH [] (HImp.nil _ _) [(4, 5), (8, 18)] (fun i : Nat => [(8, I i)]) (fun i H1 => i ≤ k) (fun i => n - i) 0 ?_ (Nat.zero_le _) ?_
  · simp (config := { maxSteps := 4000000 }) only [↓sx0, ↓sx1, ↓sx2, ↓sx3, ↓sx4, ↓sx5, ↓sx6, sx0, sx1, sx2, sx3, sx4, sx5, sx6, tf104, ev3_hold, sxo, sxc, sxp, sxq, sxr, sxs, sxl, sxm, simprocAttr]
    try simp
  rintro i H1 g1 hi
  have e7 : ((i : Int) < (n : Int)) = True := eq_true (by omega)
  have e8 : wr (i + 1) = ((i + 1 : Nat) : Int) := (wrap_id (by omega)).trans (by omega)
  by_cases hik : i = k
  · subst hik
    have e3 : (x = f i) = True := eq_true h1.symm
    refine ⟨?_⟩
    simp (config := { maxSteps := 4000000 }) only [↓sx0, ↓sx1, ↓sx2, ↓sx3, ↓sx4, ↓sx5, ↓sx6, sx0, sx1, sx2, sx3, sx4, sx5, sx6, tf104, ev3_hold, sxo, sxc, sxp, sxq, sxr, sxs, sxl, sxm, simprocAttr, e7]
    refine amid (at_1 (hr _) i1_len (rowF_get f (show i < n by omega)) rfl fun ad => ?_)
    simp (config := { maxSteps := 4000000 }) only [↓sx0, ↓sx1, ↓sx2, ↓sx3, ↓sx4, ↓sx5, ↓sx6, sx0, sx1, sx2, sx3, sx4, sx5, sx6, tf104, ev3_hold, sxo, sxc, sxp, sxq, sxr, sxs, sxl, sxm, simprocAttr, e3]
  · have h4 := h3 i (by omega)
    rw [decide_eq_false_iff_not] at h4
    have e3 : (x = f i) = False := eq_false fun h => h4 h.symm
    refine ⟨?_⟩
    simp (config := { maxSteps := 4000000 }) only [↓sx0, ↓sx1, ↓sx2, ↓sx3, ↓sx4, ↓sx5, ↓sx6, sx0, sx1, sx2, sx3, sx4, sx5, sx6, tf104, ev3_hold, sxo, sxc, sxp, sxq, sxr, sxs, sxl, sxm, simprocAttr, e7]
    refine amid (at_1 (hr _) i1_len (rowF_get f (show i < n by omega)) rfl fun ad => ?_)
    simp (config := { maxSteps := 4000000 }) only [↓sx0, ↓sx1, ↓sx2, ↓sx3, ↓sx4, ↓sx5, ↓sx6, sx0, sx1, sx2, sx3, sx4, sx5, sx6, tf104, ev3_hold, sxo, sxc, sxp, sxq, sxr, sxs, sxl, sxm, simprocAttr, e3, e8]
    exact ⟨i + 1, _, rfl, HImp.refl _ _, by omega, by omega⟩
def FirstP (g : Crs) (q : Value) (N : List HO) : Prop := (g.least < NV ∧ ∃ x, q = .tuple #[x, I g.least] ∧ Got x 3 1 i1 (zs g.first) N) ∨ (¬ g.least < NV ∧ q = .tuple #[.slice none 0 0, I 1073741824])
theorem zs_get {l : List Nat} {i y : Nat} (h : l[i]? = some y) : (zs l)[i]? = some (y : Int) := by unfold zs; rw [List.getElem?_map, h]; rfl
theorem zs_len (l : List Nat) : (zs l).length = l.length := List.length_map _
theorem zs_app (l m : List Nat) : zs (l ++ m) = zs l ++ zs m := List.map_append
theorem Crs.grd_succ (g : Crs) (k x : Nat) (left : Int) {y : Nat} (h : fstC (fun y => g.nr x y && decide (g.onw k y = left)) g.n = some y) : g.grd (k + 1) x left = y :: g.grd k y (left - g.cost (g.T - 1 - k) y) := by
  rw [Crs.grd, h]
theorem first_fn (w : World) (bs : Nat) (d : Dis) (hs : SeaOk w bs d) (hE : d.E = 0) (p : Nat → Int) (hp : priceOk 100 p) (vp : Value) (hvp : PrcOk w vp p d.rs.length) :
    SX.Fn Tryz.prog 66 [.pointer (some ⟨bs, 0, none⟩), vp] w (fun _ => False) (FirstP (d.crs p)) := by
  have hgo := Dis.crs_ok hE hp
  obtain ⟨hok, _, _, _, _⟩ := Dis.E_zero hE
  have hco := fun (H : List HO) w' (hp' : Hp ⟨w, fun _ => False⟩ H w') => costs_fn w' bs d (hs.hp hp') hE p hp vp (hvp.hp hp')
  have hon := fun (ac : Addr) (cc : Nat) (pc : List (Lp Int)) (H : List HO) w' (hp' : Hp ⟨w, fun _ => False⟩ H w') (hpl : pc.length = d.c.tide.length) (hc : Sl w' (.slice (some ac) d.c.tide.length cc) 1 (cat lpc pc)) (hpc : ∀ t, t < d.c.tide.length → ∃ a c, pc[t]? = some (rowF d.c.depth.length ((d.crs p).cost t), a, d.c.depth.length, c) ∧ Sl w' (.slice a d.c.depth.length c) 1 (ints (rowF d.c.depth.length ((d.crs p).cost t)))) => onward_fn w' bs d (hs.hp hp') hE p hp ac cc pc hpl hc hpc
  obtain ⟨sD, sT, sS, sR, vA, vF, vX, hcel, hc, hsR, hA, hF, hX⟩ := hs
  obtain ⟨pa, aA, cA, rfl, hal, hsA, hAt⟩ := hA.at i1_len (by decide)
  have hAl : (apL d.c).length = d.c.depth.length := rowF_len _ _
  have hap := fun a (h : a < d.c.depth.length) => ap_get d.c h
  have hap2 := fun a b (h : b < d.c.depth.length) => ap_get2 d.c a h
  have hapl : ∀ a, (apRow d.c a).length = d.c.depth.length := fun a => rowF_len _ _
  have hc8 := hcel 8 _ rfl
  have hc6 := hcel 6 _ rfl
  rw [hAl] at hsA hal hc8
  have hrA := fun H => hsA.rd0 H
  obtain ⟨_, _, hW, hH, hlen⟩ := hok.dims
  have h144 : d.c.depth.length ≤ 144 := by rw [hlen]; exact Nat.le_trans (Nat.mul_le_mul hW.2 hH.2) (by decide)
  have h1 : 1 ≤ d.c.depth.length := by rw [hlen]; exact Nat.mul_le_mul hW.1 hH.1
  have hT60 := hok.2.2.2.1
  have hT1 := hgo.T1
  have hcb := fun t x => cost_pos hgo t x
  have hnrx : ∀ x y, x < d.c.depth.length → y < d.c.depth.length → (d.crs p).nr x y = decide ((dst d.c.W d.c.H x y : Int) ≤ d.pc) := fun x y hx hy => by
    show (decide (x < d.c.depth.length ∧ y < d.c.depth.length) && _) = _
    rw [decide_eq_true (by omega), Bool.true_and]
  obtain ⟨g, hg⟩ : ∃ g, d.crs p = g := ⟨_, rfl⟩
  have hgn : d.c.depth.length = g.n := by rw [← hg]; rfl
  have hgT : d.c.tide.length = g.T := by rw [← hg]; rfl
  simp only [hg, hgn, hgT] at *
  have hop := fun (s : Nat) (h : s + 1 ≤ g.T) (x : Nat) => onw_pos hgo h x
  have hcoh := fun q N => CostP.has (g := g) (q := q) (N := N)
  have honh := fun pc q N N0 => OnwP.has (g := g) hT1 (pc := pc) (q := q) (N := N) (N0 := N0)
  have hparts := fun k x (hk : k + 1 + 1 ≤ g.T) (hv : g.onw (k + 1) x < NV) => (Crs.onw_parts hgo hk hv).2
  have hgrd := fun k x left y => Crs.grd_succ g k x left (y := y)
  have hleast : minF (g.onw (g.T - 1)) g.n = g.least := minF_least g g.n
  have hlatt := g.leastC_att g.n
  have hleq : g.least = g.leastC g.n := rfl
  have hfirst : g.first = match fstC (fun x => decide (g.onw (g.T - 1) x = g.least)) g.n with
    | some x => x :: g.grd (g.T - 1) x (g.least - g.cost 0 x)
    | none => [] := rfl
  unfold FirstP
  obtain ⟨n, hn⟩ : ∃ n, g.n = n := ⟨_, rfl⟩
  obtain ⟨T, hTe⟩ : ∃ T, g.T = T := ⟨_, rfl⟩
  simp only [hn, hTe] at *
  have dn : ∀ (g : Nat) (xs : List Value), det0 g xs = none := fun _ _ => rfl
  refine walk [] [] (det0_ok _ _) Tryz.func66 rfl Tryz.ntmps66 res66 (by kernel_rfl) no_facts ?_
  simp (config := { maxSteps := 4000000 }) only [↓sx0, ↓sx1, ↓sx2, ↓sx3, ↓sx4, ↓sx5, ↓sx6, sx0, sx1, sx2, sx3, sx4, sx5, sx6, tf66, ev3_hold, sxo, sxc, sxp, sxq, sxr, sxs, sxl, sxm, simprocAttr, dn]
  refine CallOb.pureH (fun w' hp' => hco _ w' hp') ?_
  intro q N1 hC
  obtain ⟨ao, co, ps, rfl, hN1, hHc⟩ := hcoh _ _ hC
  rw [List.append_nil]
  refine ⟨?_⟩
  simp (config := { maxSteps := 4000000 }) only [↓sx0, ↓sx1, ↓sx2, ↓sx3, ↓sx4, ↓sx5, ↓sx6, sx0, sx1, sx2, sx3, sx4, sx5, sx6, tf66, ev3_hold, sxo, sxc, sxp, sxq, sxr, sxs, sxl, sxm, simprocAttr, dn]
  refine CallOb.pureH (fun w' hp' => hon ao co ps _ w' hp' hHc.1 (row_hp hN1 hp') fun s hs => ?_) ?_
  · obtain ⟨a, c, k1, k2⟩ := hHc.2 s hs
    exact ⟨some a, c, k1, row_hp k2 hp'⟩
  intro q N2 hO
  obtain ⟨ad, cp, qs, rfl, hN2, hHo⟩ := honh _ _ _ _ hO hHc
  obtain ⟨K, hK⟩ : ∃ K, N2 ++ N1 = K := ⟨_, rfl⟩
  rw [hK] at hHo ⊢
  have hN1K : ∀ h ∈ N1, h ∈ K := fun h hh => by rw [← hK]; exact List.mem_append_right _ hh
  have hN2K : ∀ h ∈ N2, h ∈ K := fun h hh => by rw [← hK]; exact List.mem_append_left _ hh
  have hHc := hHc.mono hN1K
  have hN1 := hN1K _ hN1
  have hN2 := hN2K _ hN2
  have hrc := fun (H : List HO) (h : ∀ h ∈ K, h ∈ H) => row_rdv (w0 := ⟨w, fun _ => False⟩) (h _ hN1) ⟨_, _, _, rfl, by rw [cat_len lpc_len, hHc.1], fun h => by cases h⟩
  have hrq := fun (H : List HO) (h : ∀ h ∈ K, h ∈ H) => row_rdv (w0 := ⟨w, fun _ => False⟩) (h _ hN2) ⟨_, _, _, rfl, by rw [cat_len lpc_len, hHo.1], fun h => by cases h⟩
  have hrow := fun (F : Nat → Int) (a : Addr) (c : Nat) (H : List HO) (hm : ∀ h ∈ K, h ∈ H) (h : HO.row (.slice (some a) n c) 3 1 (ints (rowF n F)) ∈ K) => row_rdv (w0 := ⟨w, fun _ => False⟩) (hm _ h) ⟨_, _, _, rfl, by rw [cat_len i1_len, rowF_len], fun h => by cases h⟩
  obtain ⟨a0, c0, hp0, hr0⟩ := hHo.2 0 (by omega)
  simp only [Nat.sub_zero] at hp0 hr0
  have ho0 := hop (T - 1) (by omega)
  refine ⟨?_⟩
  simp (config := { maxSteps := 4000000 }) only [↓sx0, ↓sx1, ↓sx2, ↓sx3, ↓sx4, ↓sx5, ↓sx6, sx0, sx1, sx2, sx3, sx4, sx5, sx6, tf66, ev3_hold, sxo, sxc, sxp, sxq, sxr, sxs, sxl, sxm, simprocAttr]
  refine And.right (at_1 (k := 0) (hrq _ fun h hh => hh) lpc_len hp0 (show lpc _ = [Value.slice (some a0) n c0] from rfl) fun ad2 => ?_)
  simp (config := { maxSteps := 4000000 }) only [↓sx0, ↓sx1, ↓sx2, ↓sx3, ↓sx4, ↓sx5, ↓sx6, sx0, sx1, sx2, sx3, sx4, sx5, sx6, tf66, ev3_hold, sxo, sxc, sxp, sxq, sxr, sxs, sxl, sxm, simprocAttr, dn]
  refine CallOb.pureH (fun w' hp' => min_fn w' _ n h1 (by omega) (g.onw (T - 1)) (row_hp (E := 3) hr0 hp') fun x _ => (ho0 x).2) ?_
  rintro q N3 rfl
  rw [hleast]
  by_cases hlt : g.least < NV
  case neg =>
    have e1 : (g.least ≥ 1073741824) = True := eq_true (by unfold NV at hlt; omega)
    refine ⟨?_⟩
    simp (config := { maxSteps := 4000000 }) only [↓sx0, ↓sx1, ↓sx2, ↓sx3, ↓sx4, ↓sx5, ↓sx6, sx0, sx1, sx2, sx3, sx4, sx5, sx6, tf66, ev3_hold, sxo, sxc, sxp, sxq, sxr, sxs, sxl, sxm, simprocAttr, e1]
    exact .inr hlt
  have e1 : (g.least ≥ 1073741824) = False := eq_false (by unfold NV at hlt; omega)
  obtain ⟨x0, hx0, hon0, hf0⟩ : ∃ x0, x0 < n ∧ g.onw (T - 1) x0 = g.least ∧ fstC (fun x => decide (g.onw (T - 1) x = g.least)) n = some x0 := by
    obtain ⟨y, hy, hye⟩ : ∃ x, x < n ∧ g.onw (T - 1) x = g.least := by
      rcases hlatt with h | h
      · exact absurd (hleq.trans h) (by unfold NV at hlt ⊢; omega)
      · rw [hleq]; exact h
    obtain ⟨z, hz, _⟩ := fstC_hit (p := fun x => decide (g.onw (T - 1) x = g.least)) hy (decide_eq_true hye)
    obtain ⟨k1, k2, _⟩ := fstC_some hz
    exact ⟨z, k2, of_decide_eq_true k1, hz⟩
  rw [hf0] at hfirst
  simp only [] at hfirst
  refine ⟨?_⟩
  simp (config := { maxSteps := 4000000 }) only [↓sx0, ↓sx1, ↓sx2, ↓sx3, ↓sx4, ↓sx5, ↓sx6, sx0, sx1, sx2, sx3, sx4, sx5, sx6, tf66, ev3_hold, sxo, sxc, sxp, sxq, sxr, sxs, sxl, sxm, simprocAttr, e1]
  refine And.right (at_1 (k := 0) (hrq _ fun h hh => List.mem_append_right _ hh) lpc_len hp0 (show lpc _ = [Value.slice (some a0) n c0] from rfl) fun ad2 => ?_)
  simp (config := { maxSteps := 4000000 }) only [↓sx0, ↓sx1, ↓sx2, ↓sx3, ↓sx4, ↓sx5, ↓sx6, sx0, sx1, sx2, sx3, sx4, sx5, sx6, tf66, ev3_hold, sxo, sxc, sxp, sxq, sxr, sxs, sxl, sxm, simprocAttr, dn]
  refine CallOb.pureH (fun w' hp' => indexF_fn w' _ n x0 (by omega) (g.onw (T - 1)) g.least (row_hp (E := 3) (List.mem_append_right _ hr0) hp') hf0) ?_
  rintro q N4 rfl
  rw [← hon0]
  refine ⟨?_⟩
  simp (config := { maxSteps := 4000000 }) only [↓sx0, ↓sx1, ↓sx2, ↓sx3, ↓sx4, ↓sx5, ↓sx6, sx0, sx1, sx2, sx3, sx4, sx5, sx6, tf66, ev3_hold, sxo, sxc, sxp, sxq, sxr, sxs, sxl, sxm, simprocAttr]
  intro b5
  refine loop_constH (HO.row (.slice (some ⟨b5, 0, none⟩) 1 1) 3 1 (ints (zs [x0])) :: K) (HImp.sub ((((List.sublist_append_right N3 K).trans (List.sublist_append_right N4 _))).cons_cons _)) [(9, 14), (34, 90)] (fun q : Addr × Nat × List Nat × Nat => [(9, .slice (some q.1) q.2.2.1.length q.2.1), (10, I (g.onw (T - q.2.2.1.length) q.2.2.2)), (11, I q.2.2.1.length)])
    (fun q H1 => (1 ≤ q.2.2.1.length ∧ q.2.2.1.length ≤ T) ∧ q.2.2.1[q.2.2.1.length - 1]? = some q.2.2.2 ∧ q.2.2.2 < n ∧ g.onw (T - q.2.2.1.length) q.2.2.2 < NV ∧ q.2.2.1 ++ g.grd (T - q.2.2.1.length) q.2.2.2 (g.onw (T - q.2.2.1.length) q.2.2.2 - g.cost (q.2.2.1.length - 1) q.2.2.2) = g.first ∧ H1 = HO.row (.slice (some q.1) q.2.2.1.length q.2.1) 3 1 (ints (zs q.2.2.1)) :: K) (fun q => T - q.2.2.1.length) (⟨b5, 0, none⟩, 1, [x0], x0) ?_ ⟨⟨Nat.le_refl _, hT1⟩, rfl, hx0, by simp only [List.length_cons, List.length_nil]; rw [hon0]; exact hlt, by simp only [List.length_cons, List.length_nil]; rw [hon0]; exact hfirst.symm, rfl⟩ ?_
  · simp (config := { maxSteps := 4000000 }) only [↓sx0, ↓sx1, ↓sx2, ↓sx3, ↓sx4, ↓sx5, ↓sx6, sx0, sx1, sx2, sx3, sx4, sx5, sx6, tf66, ev3_hold, sxo, sxc, sxp, sxq, sxr, sxs, sxl, sxm, simprocAttr]
    try simp
  rintro ⟨ad, cp', L, la⟩ H1 g1 hinv
  simp only [] at hinv
  obtain ⟨⟨hL1, hLT⟩, hLla, hla, hov, hgr, rfl⟩ := hinv
  obtain ⟨t, ht⟩ : ∃ t, L.length = t := ⟨_, rfl⟩
  have hzl := zs_len L
  rw [ht] at hL1 hLT hLla hov hgr hzl
  simp only [ht]
  by_cases htT : t = T
  · have e7 : ((t : Int) < (T : Int)) = False := eq_false (by omega)
    rw [htT, Nat.sub_self] at hgr
    unfold Crs.grd at hgr
    rw [List.append_nil] at hgr
    refine ⟨?_⟩
    simp (config := { maxSteps := 4000000 }) only [↓sx0, ↓sx1, ↓sx2, ↓sx3, ↓sx4, ↓sx5, ↓sx6, sx0, sx1, sx2, sx3, sx4, sx5, sx6, tf66, ev3_hold, sxo, sxc, sxp, sxq, sxr, sxs, sxl, sxm, simprocAttr, e7]
    refine .inl ⟨by rw [hon0]; exact hlt, _, rfl, ?_⟩
    rw [← hgr]
    exact Got.row (by rw [hzl]) List.mem_cons_self (fun h => by cases h)
  obtain ⟨k, hk⟩ : ∃ k, T - t = k + 1 := ⟨T - t - 1, by omega⟩
  rw [hk] at hov hgr ⊢
  obtain ⟨y, hy, hyn, hye, hyv⟩ := hparts k la (by omega) hov
  have etk : T - 1 - (k + 1) = t - 1 := by omega
  have etk2 : T - 1 - k = t := by omega
  rw [etk] at hye
  obtain ⟨L', hL'⟩ : ∃ L', g.onw (k + 1) la - g.cost (t - 1) la = L' := ⟨_, rfl⟩
  rw [hL'] at hye hgr
  have hcl := hcb (t - 1) la
  have hol := hop (k + 1) (by omega) la
  have hok' := fun x => hop k (by omega) x
  have e7 : ((t : Int) < (T : Int)) = True := eq_true (by omega)
  have e8 : wr (t + 1) = ((t + 1 : Nat) : Int) := (wrap_id (by omega)).trans (by omega)
  have e9 : wr ((t : Int) - 1) = ((t - 1 : Nat) : Int) := (wrap_id (by omega)).trans (by omega)
  have e10 : wr (g.onw (k + 1) la - g.cost (t - 1) la) = L' := (wrap_id (by unfold NV at *; omega)).trans hL'
  obtain ⟨ac, cc, hpc, hrcc⟩ := hHc.2 (t - 1) (by omega)
  obtain ⟨ar, cr, hpr, hrr⟩ := hHo.2 t (by omega)
  have hkT : T - 1 - t = k := by omega
  simp only [hkT] at hpr hrr
  obtain ⟨a3, c3, hpa, hs3⟩ := hAt la _ (hap la hla)
  have hr3 := hs3.rd0
  simp only [hapl] at hpa hs3 hr3
  obtain ⟨R1, hR1⟩ : ∃ R1, HO.row (.slice (some ad) t cp') 3 1 (ints (zs L)) :: K = R1 := ⟨_, rfl⟩
  have hKR : ∀ h ∈ K, h ∈ R1 := fun h hh => by rw [← hR1]; exact List.mem_cons_of_mem _ hh
  have hLr : Rdv ⟨w, fun _ => False⟩ R1 (.slice (some ad) t cp') 1 (ints (zs L)) := row_rdv (by rw [← hR1]; exact List.mem_cons_self) ⟨_, _, _, rfl, by rw [cat_len i1_len, hzl], fun h => by cases h⟩
  rw [hR1]
  refine ⟨?_⟩
  simp (config := { maxSteps := 4000000 }) only [↓sx0, ↓sx1, ↓sx2, ↓sx3, ↓sx4, ↓sx5, ↓sx6, sx0, sx1, sx2, sx3, sx4, sx5, sx6, tf66, ev3_hold, sxo, sxc, sxp, sxq, sxr, sxs, sxl, sxm, simprocAttr, e7, e9]
  refine at_1 hLr i1_len (zs_get hLla) rfl fun ad1 => ?_
  simp (config := { maxSteps := 4000000 }) only [↓sx0, ↓sx1, ↓sx2, ↓sx3, ↓sx4, ↓sx5, ↓sx6, sx0, sx1, sx2, sx3, sx4, sx5, sx6, tf66, ev3_hold, sxo, sxc, sxp, sxq, sxr, sxs, sxl, sxm, simprocAttr, e9]
  refine at_1 (hrc _ hKR) lpc_len hpc (show lpc _ = [Value.slice (some ac) n cc] from rfl) fun ad2 => ?_
  simp (config := { maxSteps := 4000000 }) only [↓sx0, ↓sx1, ↓sx2, ↓sx3, ↓sx4, ↓sx5, ↓sx6, sx0, sx1, sx2, sx3, sx4, sx5, sx6, tf66, ev3_hold, sxo, sxc, sxp, sxq, sxr, sxs, sxl, sxm, simprocAttr]
  refine at_1 (hrow _ _ _ _ hKR hrcc) i1_len (rowF_get _ hla) rfl fun ad3 => ?_
  simp (config := { maxSteps := 4000000 }) only [↓sx0, ↓sx1, ↓sx2, ↓sx3, ↓sx4, ↓sx5, ↓sx6, sx0, sx1, sx2, sx3, sx4, sx5, sx6, tf66, ev3_hold, sxo, sxc, sxp, sxq, sxr, sxs, sxl, sxm, simprocAttr, e10]
  refine ld_olda (b := bs) (o := 8) rfl hc8 id ?_
  simp (config := { maxSteps := 4000000 }) only [↓sx0, ↓sx1, ↓sx2, ↓sx3, ↓sx4, ↓sx5, ↓sx6, sx0, sx1, sx2, sx3, sx4, sx5, sx6, tf66, ev3_hold, sxo, sxc, sxp, sxq, sxr, sxs, sxl, sxm, simprocAttr]
  refine at_1 (hrA _) lpc_len hpa (show lpc _ = [Value.slice a3 n c3] from rfl) fun ad4 => ?_
  simp (config := { maxSteps := 4000000 }) only [↓sx0, ↓sx1, ↓sx2, ↓sx3, ↓sx4, ↓sx5, ↓sx6, sx0, sx1, sx2, sx3, sx4, sx5, sx6, tf66, ev3_hold, sxo, sxc, sxp, sxq, sxr, sxs, sxl, sxm, simprocAttr]
  refine loop_constH R1 (HImp.refl _ _) [(9, 9), (13, 14), (63, 90)] (fun z : Nat => [(9, .slice (some ad) t cp'), (63, I z)]) (fun z H2 => z ≤ y ∧ (∀ z', z' < z → (g.nr la z' && decide (g.onw k z' = L')) = false) ∧ H2 = R1) (fun z => n - z) 0 ?_ ⟨Nat.zero_le _, fun z' h => by omega, rfl⟩ ?_
  · simp (config := { maxSteps := 4000000 }) only [↓sx0, ↓sx1, ↓sx2, ↓sx3, ↓sx4, ↓sx5, ↓sx6, sx0, sx1, sx2, sx3, sx4, sx5, sx6, tf66, ev3_hold, sxo, sxc, sxp, sxq, sxr, sxs, sxl, sxm, simprocAttr]
    try simp
  rintro z H2 g2 ⟨hzy, hzb, rfl⟩
  have k7 : ((z : Int) < (n : Int)) = True := eq_true (by omega)
  have k8 : wr (z + 1) = ((z + 1 : Nat) : Int) := (wrap_id (by omega)).trans (by omega)
  have hnz := hnrx la z hla (by omega)
  have hnext : (g.nr la z && decide (g.onw k z = L')) = false → z + 1 ≤ y ∧ ∀ z', z' < z + 1 → (g.nr la z' && decide (g.onw k z' = L')) = false := fun h => by
    refine ⟨?_, fun z' hz' => ?_⟩
    · rcases Nat.lt_or_ge z y with h1 | h1
      · omega
      · have : z = y := by omega
        subst this
        rw [hyn, decide_eq_true hye] at h
        cases h
    · by_cases e : z' = z
      · rw [e]; exact h
      · exact hzb z' (by omega)
  by_cases hnear : (dst d.c.W d.c.H la z : Int) ≤ d.pc
  case neg =>
    have p1 : ((dst d.c.W d.c.H la z : Int) ≤ d.pc) = False := eq_false hnear
    rw [decide_eq_false hnear] at hnz
    obtain ⟨hz1, hz2⟩ := hnext (by rw [hnz]; rfl)
    refine ⟨?_⟩
    simp (config := { maxSteps := 4000000 }) only [↓sx0, ↓sx1, ↓sx2, ↓sx3, ↓sx4, ↓sx5, ↓sx6, sx0, sx1, sx2, sx3, sx4, sx5, sx6, tf66, ev3_hold, sxo, sxc, sxp, sxq, sxr, sxs, sxl, sxm, simprocAttr, k7]
    refine amid (at_1 (hr3 _) i1_len (hap2 la z (by omega)) rfl fun ad5 => ?_)
    simp (config := { maxSteps := 4000000 }) only [↓sx0, ↓sx1, ↓sx2, ↓sx3, ↓sx4, ↓sx5, ↓sx6, sx0, sx1, sx2, sx3, sx4, sx5, sx6, tf66, ev3_hold, sxo, sxc, sxp, sxq, sxr, sxs, sxl, sxm, simprocAttr]
    refine ld_olda (b := bs) (o := 6) rfl hc6 id ?_
    simp (config := { maxSteps := 4000000 }) only [↓sx0, ↓sx1, ↓sx2, ↓sx3, ↓sx4, ↓sx5, ↓sx6, sx0, sx1, sx2, sx3, sx4, sx5, sx6, tf66, ev3_hold, sxo, sxc, sxp, sxq, sxr, sxs, sxl, sxm, simprocAttr, p1, k8]
    exact ⟨z + 1, _, rfl, HImp.refl _ _, ⟨hz1, hz2, rfl⟩, by omega⟩
  have p1 : ((dst d.c.W d.c.H la z : Int) ≤ d.pc) = True := eq_true hnear
  rw [decide_eq_true hnear] at hnz
  by_cases hoz : g.onw k z = L'
  case neg =>
    have p2 : (g.onw k z = L') = False := eq_false hoz
    obtain ⟨hz1, hz2⟩ := hnext (by rw [decide_eq_false hoz, Bool.and_false])
    refine ⟨?_⟩
    simp (config := { maxSteps := 4000000 }) only [↓sx0, ↓sx1, ↓sx2, ↓sx3, ↓sx4, ↓sx5, ↓sx6, sx0, sx1, sx2, sx3, sx4, sx5, sx6, tf66, ev3_hold, sxo, sxc, sxp, sxq, sxr, sxs, sxl, sxm, simprocAttr, k7]
    refine amid (at_1 (hr3 _) i1_len (hap2 la z (by omega)) rfl fun ad5 => ?_)
    simp (config := { maxSteps := 4000000 }) only [↓sx0, ↓sx1, ↓sx2, ↓sx3, ↓sx4, ↓sx5, ↓sx6, sx0, sx1, sx2, sx3, sx4, sx5, sx6, tf66, ev3_hold, sxo, sxc, sxp, sxq, sxr, sxs, sxl, sxm, simprocAttr]
    refine ld_olda (b := bs) (o := 6) rfl hc6 id ?_
    simp (config := { maxSteps := 4000000 }) only [↓sx0, ↓sx1, ↓sx2, ↓sx3, ↓sx4, ↓sx5, ↓sx6, sx0, sx1, sx2, sx3, sx4, sx5, sx6, tf66, ev3_hold, sxo, sxc, sxp, sxq, sxr, sxs, sxl, sxm, simprocAttr, p1]
    refine at_1 (hrq _ hKR) lpc_len hpr (show lpc _ = [Value.slice (some ar) n cr] from rfl) fun ad6 => ?_
    simp (config := { maxSteps := 4000000 }) only [↓sx0, ↓sx1, ↓sx2, ↓sx3, ↓sx4, ↓sx5, ↓sx6, sx0, sx1, sx2, sx3, sx4, sx5, sx6, tf66, ev3_hold, sxo, sxc, sxp, sxq, sxr, sxs, sxl, sxm, simprocAttr]
    refine at_1 (hrow _ _ _ _ hKR hrr) i1_len (rowF_get _ (show z < n by omega)) rfl fun ad7 => ?_
    simp (config := { maxSteps := 4000000 }) only [↓sx0, ↓sx1, ↓sx2, ↓sx3, ↓sx4, ↓sx5, ↓sx6, sx0, sx1, sx2, sx3, sx4, sx5, sx6, tf66, ev3_hold, sxo, sxc, sxp, sxq, sxr, sxs, sxl, sxm, simprocAttr, p2, k8]
    exact ⟨z + 1, _, rfl, HImp.refl _ _, ⟨hz1, hz2, rfl⟩, by omega⟩
  have p2 : (g.onw k z = L') = True := eq_true hoz
  have hfz : fstC (fun y => g.nr la y && decide (g.onw k y = L')) n = some z := fstC_of (by omega) (by rw [hnz, decide_eq_true hoz]; rfl) hzb
  have hgs := hgrd k la L' z hfz
  rw [etk2] at hgs
  rw [hgs] at hgr
  refine ⟨?_⟩
  simp (config := { maxSteps := 4000000 }) only [↓sx0, ↓sx1, ↓sx2, ↓sx3, ↓sx4, ↓sx5, ↓sx6, sx0, sx1, sx2, sx3, sx4, sx5, sx6, tf66, ev3_hold, sxo, sxc, sxp, sxq, sxr, sxs, sxl, sxm, simprocAttr, k7]
  refine amid (at_1 (hr3 _) i1_len (hap2 la z (by omega)) rfl fun ad5 => ?_)
  simp (config := { maxSteps := 4000000 }) only [↓sx0, ↓sx1, ↓sx2, ↓sx3, ↓sx4, ↓sx5, ↓sx6, sx0, sx1, sx2, sx3, sx4, sx5, sx6, tf66, ev3_hold, sxo, sxc, sxp, sxq, sxr, sxs, sxl, sxm, simprocAttr]
  refine ld_olda (b := bs) (o := 6) rfl hc6 id ?_
  simp (config := { maxSteps := 4000000 }) only [↓sx0, ↓sx1, ↓sx2, ↓sx3, ↓sx4, ↓sx5, ↓sx6, sx0, sx1, sx2, sx3, sx4, sx5, sx6, tf66, ev3_hold, sxo, sxc, sxp, sxq, sxr, sxs, sxl, sxm, simprocAttr, p1]
  refine at_1 (hrq _ hKR) lpc_len hpr (show lpc _ = [Value.slice (some ar) n cr] from rfl) fun ad6 => ?_
  simp (config := { maxSteps := 4000000 }) only [↓sx0, ↓sx1, ↓sx2, ↓sx3, ↓sx4, ↓sx5, ↓sx6, sx0, sx1, sx2, sx3, sx4, sx5, sx6, tf66, ev3_hold, sxo, sxc, sxp, sxq, sxr, sxs, sxl, sxm, simprocAttr]
  refine at_1 (hrow _ _ _ _ hKR hrr) i1_len (rowF_get _ (show z < n by omega)) rfl fun ad7 => ?_
  simp (config := { maxSteps := 4000000 }) only [↓sx0, ↓sx1, ↓sx2, ↓sx3, ↓sx4, ↓sx5, ↓sx6, sx0, sx1, sx2, sx3, sx4, sx5, sx6, tf66, ev3_hold, sxo, sxc, sxp, sxq, sxr, sxs, sxl, sxm, simprocAttr, p2]
  intro b7
  refine app_one (l := zs L) (z : Int) (by rw [← hR1, ← hzl]; exact HImp.refl _ _) i1_len i1_one (by omega) fun ad8 c8 => ?_
  have hLz : (L ++ [z]).length = t + 1 := by rw [List.length_append, ht]; rfl
  have hT2 : T - (t + 1) = k := by omega
  rw [hzl]
  simp (config := { maxSteps := 4000000 }) only [↓sx0, ↓sx1, ↓sx2, ↓sx3, ↓sx4, ↓sx5, ↓sx6, sx0, sx1, sx2, sx3, sx4, sx5, sx6, tf66, ev3_hold, sxo, sxc, sxp, sxq, sxr, sxs, sxl, sxm, simprocAttr, e8]
  refine ⟨(ad8, c8, L ++ [z], z), _, by simp only [hLz, hT2, hoz, and_self], HImp.refl _ _, ⟨by simp only [hLz]; omega, by simp only [hLz]; rw [List.getElem?_append_right (by omega), ht]; simp, by simp only []; omega, by simp only [hLz, hT2]; exact (by rw [hoz, ← hye]; exact hyv), ?_, by simp only [hLz, zs_app]; rfl⟩, by simp only [hLz]; omega⟩
  simp only [hLz, hT2, Nat.add_sub_cancel, hoz]
  rw [List.append_assoc]
  exact hgr
end Go.Proofs.YtnbogcpnpcbjgaaGreatDoor

