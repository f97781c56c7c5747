/- Parts of a proof: the symbolic walk and what it shows of single functions. -/
import Derived.Test.YtaloedccoadedaaDoorG1
import Derived.Test.YtaloedccoadedaaDoorF6
import Derived.Test.YtaloedccoadedaaDoorF8
import Derived.Test.YtaloedccoadedaaDoorSuG
set_option linter.all false
namespace Go.Proofs.YtaloedccoadedaaDoor
open Go.RowKit Go.SX
set_option maxRecDepth 20000
set_option maxHeartbeats 4000000
set_option linter.unusedSimpArgs false
set_option linter.unusedVariables false
theorem Crs.grd_step {g : Crs} (h : g.Ok) : ∀ k x j, k + 1 ≤ g.T → x < g.n → g.onw k x < NV → j < k → ∃ a z, (x :: g.grd k x (g.onw k x - g.cost (g.T - 1 - k) x))[j]? = some a ∧ (x :: g.grd k x (g.onw k x - g.cost (g.T - 1 - k) x))[j + 1]? = some z ∧ a < g.n ∧ z < g.n ∧ g.onw (k - 1 - j) z < NV ∧ g.nr a z = true ∧ g.onw (k - 1 - j) z = g.onw (k - j) a - g.cost (g.T - 1 - (k - j)) a ∧ ∀ z', z' < z → (g.nr a z' && decide (g.onw (k - 1 - j) z' = g.onw (k - j) a - g.cost (g.T - 1 - (k - j)) a)) = false
  | 0, x, j, _, _, _, hj => absurd hj (Nat.not_lt_zero _)
  | k + 1, x, j, hk, hx, hv, hj => by
    obtain ⟨_, y0, hy0, hn0, he0, hl0⟩ := Crs.onw_parts h hk hv
    obtain ⟨y, hy, _⟩ := fstC_hit (p := fun y => g.nr x y && decide (g.onw k y = g.onw (k + 1) x - g.cost (g.T - 1 - (k + 1)) x)) hy0 (by simp [hn0, he0])
    obtain ⟨p1, p2, p3⟩ := fstC_some hy
    rw [Bool.and_eq_true, decide_eq_true_eq] at p1
    have hyv : g.onw k y < NV := by omega
    have hgr : g.grd (k + 1) x (g.onw (k + 1) x - g.cost (g.T - 1 - (k + 1)) x) = y :: g.grd k y (g.onw k y - g.cost (g.T - 1 - k) y) := by
      rw [Crs.grd_succ g k x _ hy, p1.2]
    rw [hgr]
    cases j with
    | zero =>
      exact ⟨x, y, rfl, rfl, hx, p2, hyv, p1.1, p1.2, p3⟩
    | succ j =>
      obtain ⟨a, z, h1, h2, h3⟩ := Crs.grd_step h k y j (by omega) p2 hyv (by omega)
      refine ⟨a, z, h1, h2, ?_⟩
      rw [show k + 1 - 1 - (j + 1) = k - 1 - j by omega, show k + 1 - (j + 1) = k - j by omega]
      exact h3
def crsLf (g : Crs) (F : List Nat) : Nat → Int
  | 0 => g.least
  | t + 1 => g.onw (g.T - 1 - t) (F.getD t 0) - g.cost t (F.getD t 0)
def crsLook (g : Crs) (F : List Nat) : Nat → Nat → Bool
  | 0, z => decide (g.onw (g.T - 1) z = g.least)
  | t + 1, z => g.nr (F.getD t 0) z && decide (g.onw (g.T - 1 - (t + 1)) z = crsLf g F (t + 1))
theorem Crs.first_steps {g : Crs} (h : g.Ok) (hv : g.least < NV) : g.first.length = g.T ∧ ∀ t, t < g.T → g.first.getD t 0 < g.n ∧ g.onw (g.T - 1 - t) (g.first.getD t 0) = crsLf g g.first t ∧ crsLf g g.first t < NV ∧ crsLook g g.first t (g.first.getD t 0) = true ∧ ∀ z, z < g.first.getD t 0 → crsLook g g.first t z = false := by
  have hT := h.T1
  have hok := Crs.first_ok h hv
  obtain ⟨x0, hx0, he0⟩ : ∃ x, x < g.n ∧ g.onw (g.T - 1) x = g.least := by
    unfold Crs.least at hv ⊢
    rcases g.leastC_att g.n with h1 | h1
    · omega
    · exact h1
  obtain ⟨x, hx, _⟩ := fstC_hit (p := fun x => decide (g.onw (g.T - 1) x = g.least)) hx0 (decide_eq_true he0)
  obtain ⟨p1, p2, p3⟩ := fstC_some hx
  have p1' := of_decide_eq_true p1
  have hf : g.first = x :: g.grd (g.T - 1) x (g.onw (g.T - 1) x - g.cost (g.T - 1 - (g.T - 1)) x) := by
    rw [p1', Nat.sub_self]
    unfold Crs.first
    rw [hx]
  refine ⟨hok.1.1, fun t ht => ?_⟩
  cases t with
  | zero =>
    have e : g.first.getD 0 0 = x := by rw [hf]; rfl
    rw [e]
    exact ⟨p2, p1', hv, p1, p3⟩
  | succ t =>
    obtain ⟨a, z, h1, h2, h3, h4, h5, h6, h7, h8⟩ := Crs.grd_step h (g.T - 1) x t (by omega) p2 (by omega) (by omega)
    rw [← hf] at h1 h2
    have ea : g.first.getD t 0 = a := by rw [List.getD_eq_getElem?_getD, h1]; rfl
    have ez : g.first.getD (t + 1) 0 = z := by rw [List.getD_eq_getElem?_getD, h2]; rfl
    have el : crsLf g g.first (t + 1) = g.onw (g.T - 1 - t) a - g.cost (g.T - 1 - (g.T - 1 - t)) a := by
      rw [show g.T - 1 - (g.T - 1 - t) = t by omega, ← ea]
      rfl
    have ek : g.T - 1 - 1 - t = g.T - 1 - (t + 1) := by omega
    rw [ek] at h5 h7 h8
    rw [ez]
    refine ⟨h4, by rw [h7, el], by rw [el, ← h7]; exact h5, ?_, fun y hy => ?_⟩
    · show (g.nr (g.first.getD t 0) z && decide (g.onw (g.T - 1 - (t + 1)) z = crsLf g g.first (t + 1))) = true
      rw [ea, h6, decide_eq_true (by rw [h7, el])]
      rfl
    · show (g.nr (g.first.getD t 0) y && decide (g.onw (g.T - 1 - (t + 1)) y = crsLf g g.first (t + 1))) = false
      rw [ea, el]
      exact h8 y hy
end Go.Proofs.YtaloedccoadedaaDoor

namespace Go.Proofs.YtaloedccoadedaaDoor
open Go.RowKit Go.SX
set_option maxRecDepth 20000
set_option maxHeartbeats 0
set_option linter.unusedSimpArgs false
set_option linter.unusedVariables false
theorem rfirst_fn (w : World) (hw : Ways w) (v vc vu : Value) (d : Dis) (hd : DsOk w v d) (hE : d.E = 0) (count must : Nat → Bool) (hcn : Sl w vc 1 (cat b1 (rowF d.rs.length count))) (hmu : Sl w vu 1 (cat b1 (rowF d.rs.length must))) :
    SX.Fn Tryd.prog 60 [v, vc, vu] w (fun _ => False) fun q N => ((d.crs (d.prc count must)).least < NV ∧ ∃ x, q = .tuple #[I (d.crs (d.prc count must)).least, x] ∧ Got x 3 1 i1 (zs (d.crs (d.prc count must)).first) N) ∨ (¬ (d.crs (d.prc count must)).least < NV ∧ q = .tuple #[I 1073741824, .slice none 0 0]) := by
  have hd0 := hd
  have hgo := Dis.crs_ok hE (Dis.prc_ok hE count must)
  obtain ⟨hok, hdr, hpc, hm12, hrep⟩ := Dis.E_zero hE
  have hrows := fun (vm : Value) (H : List HO) w' (hp : Hp ⟨w, fun _ => False⟩ H w') (hm : LLOk i1 1 w' vm (apL d.c)) => rrows_fn w' (hw.hp hp) v vm vc vu d (hd0.hp hp) hE hm count must (hcn.hp (fun _ _ => id) hp) (hmu.hp (fun _ _ => id) hp)
  have hown := fun (vm : Value) (k t : Nat) (hk : k < d.c.depth.length) (ht : t < d.c.tide.length) (H : List HO) w' (hp : Hp ⟨w, fun _ => False⟩ H w') (hm : LLOk i1 1 w' vm (apL d.c)) => rown_fn w' (hw.hp hp) v vm vc vu d (hd0.hp hp) hE hm count must (hcn.hp (fun _ _ => id) hp) (hmu.hp (fun _ _ => id) hp) k t hk ht
  obtain ⟨_, _, hW, hH, hlen⟩ := hok.dims
  have h144 : d.c.depth.length ≤ 144 := by rw [hlen]; exact Nat.le_trans (Nat.mul_le_mul hW.2 hH.2) (by decide)
  have hT60 := hok.2.2.2.1
  have hT1 : 1 ≤ d.c.tide.length := hgo.T1
  have hnr : ∀ i k, i < d.c.depth.length → k < d.c.depth.length → (d.crs (d.prc count must)).nr i k = decide ((dst d.c.W d.c.H i k : Int) ≤ d.pc) := fun i k hi hk => by
    show (decide (i < d.c.depth.length ∧ k < d.c.depth.length) && _) = _
    rw [decide_eq_true ⟨hi, hk⟩, Bool.true_and]
  have hgn : (d.crs (d.prc count must)).n = d.c.depth.length := rfl
  have hgT : (d.crs (d.prc count must)).T = d.c.tide.length := rfl
  have hA2 := fun i k (h : k < d.c.depth.length) => ap_get2 d.c i h
  obtain ⟨sD, sT, sS, sR, rfl, hc, hsR⟩ := hd
  have hD := detR_ok (X := fun _ => False) hw hc (fun _ _ => id)
  have hmap := fun (H : List HO) w' (hp : Hp ⟨w, fun _ => False⟩ H w') => map_fn w' (hw.hp hp) sD sT sS d.c hok
  obtain ⟨_, _, _, hh, hsD, hsT, hsS⟩ := hc
  cases hh
  obtain ⟨aT, nT, cT, rfl⟩ := hsT.shape
  have hnT := hsT.le spc_len (by omega)
  subst hnT
  have dn : (∀ xs, detR (.agg #[I d.c.wide, I d.c.high, sD, .slice aT d.c.tide.length cT, sS]) d.c 94 xs = none) ∧ (∀ xs, detR (.agg #[I d.c.wide, I d.c.high, sD, .slice aT d.c.tide.length cT, sS]) d.c 90 xs = none) ∧ (∀ xs, detR (.agg #[I d.c.wide, I d.c.high, sD, .slice aT d.c.tide.length cT, sS]) d.c 67 xs = none) := ⟨fun _ => rfl, fun _ => rfl, fun _ => rfl⟩
  obtain ⟨g, hg⟩ : ∃ g, d.crs (d.prc count must) = g := ⟨_, rfl⟩
  rw [hg] at hgo hgn hgT ⊢
  simp only [hg] at hown hnr hrows
  have hmb := fun (k : Nat) (hk : k + 1 ≤ g.T) (x : Nat) => Crs.mins_bd (g := g) (row := g.onw k) (fun y _ => (onw_pos hgo hk y).1) x
  have hcb := fun t x => cost_pos hgo t x
  have hob := fun (k : Nat) (hk : k + 1 ≤ g.T) (x : Nat) => onw_pos hgo hk x
  have hmt := fun row i k => g.mins_top row i k
  have hst := fun hv => Crs.first_steps hgo hv
  have hlc : g.least = g.leastC g.n := rfl
  have hls : ∀ m, g.leastC (m + 1) = min (g.leastC m) (g.onw (g.T - 1) m) := fun _ => rfl
  have hlz : g.leastC 0 = NV := rfl
  have hlt2 := fun m => g.leastC_top m
  have hlk0 : ∀ z, crsLook g g.first 0 z = decide (g.onw (g.T - 1) z = g.least) := fun _ => rfl
  have hlks : ∀ t z, crsLook g g.first (t + 1) z = (g.nr (g.first.getD t 0) z && decide (g.onw (g.T - 1 - (t + 1)) z = crsLf g g.first (t + 1))) := fun _ _ => rfl
  have hlf0 : crsLf g g.first 0 = g.least := rfl
  have hlfs : ∀ t, crsLf g g.first (t + 1) = g.onw (g.T - 1 - t) (g.first.getD t 0) - g.cost t (g.first.getD t 0) := fun _ => rfl
  unfold RowsP at hrows
  simp only [hgn, hgT] at hrows hst hlc hls hlk0 hlks hlfs hob ⊢
  obtain ⟨n, hn⟩ : ∃ n, d.c.depth.length = n := ⟨_, rfl⟩
  obtain ⟨T, hTe⟩ : ∃ T, d.c.tide.length = T := ⟨_, rfl⟩
  obtain ⟨Fi, hFi⟩ : ∃ Fi, g.first = Fi := ⟨_, rfl⟩
  obtain ⟨LE, hLE⟩ : ∃ LE, g.least = LE := ⟨_, rfl⟩
  rw [hFi] at hst hlf0
  simp only [hFi] at hlk0 hlks hlfs ⊢
  simp only [hLE] at hst hlc hlk0 hlf0 ⊢
  simp only [hn] at hrows hown hnr hA2 h144 hst hlc
  simp only [hTe] at hrows hown hmap hT60 hT1 hob hst hls hlk0 hlks hlfs dn
  rw [hTe] at hD ⊢
  have hMPP : ∀ q N, MapP d.c q N → ∃ am cm ps, q = .slice (some am) n cm ∧ HO.row (.slice (some am) n cm) 22 1 (cat lpc ps) ∈ N ∧ HasR n n ps (fun a b => (dst d.c.W d.c.H a b : Int)) N ∧ LLN i1 1 22 3 N (.slice (some am) n cm) (apL d.c) := fun q N h => by
    have hML := h.lln
    obtain ⟨am, cm, ps, rfl, hN1, hHM⟩ := h
    rw [hn] at hML hN1 hHM ⊢
    exact ⟨am, cm, ps, rfl, hN1, hHM, hML⟩
  refine walkC [37] [] [] hD Tryd.func60 rfl Tryd.ntmps60 res60 (by kernel_rfl) no_facts ?_
  simp (config := { maxSteps := 4000000 }) only [↓sx0, ↓sx1, ↓sx2, ↓sx3, ↓sx4, ↓sx5, ↓sx6, sx0, sx1, sx2, sx3, sx4, sx5, sx6, tf60, ev3_hold, sxo, sxc, sxp, sxq, sxr, sxs, sxl, sxm, simprocAttr, dn]
  refine CallOb.pureH (fun w' hp => hmap _ w' hp) ?_
  intro q N hMP
  have hMP := hMPP q N hMP
  obtain ⟨am, cm, ps, hq, hN1, hHM, hML⟩ := hMP
  subst hq
  have hrows := hrows (.slice (some am) n cm)
  have hown := hown (.slice (some am) n cm)
  refine ⟨?_⟩
  simp (config := { maxSteps := 4000000 }) only [↓sx0, ↓sx1, ↓sx2, ↓sx3, ↓sx4, ↓sx5, ↓sx6, sx0, sx1, sx2, sx3, sx4, sx5, sx6, tf60, ev3_hold, sxo, sxc, sxp, sxq, sxr, sxs, sxl, sxm, simprocAttr, dn]
  refine CallOb.pureH (fun w' hp => hrows _ w' hp (hML.ok (fun h hh => by simpa using hh) hp)) ?_
  intro q N2 hq
  obtain ⟨al, cl, qa, hq, hqa, hHa⟩ := hq
  subst hq
  obtain ⟨K, hK⟩ : ∃ K, N2 ++ N = K := ⟨_, rfl⟩
  have hNK : ∀ h ∈ N, h ∈ K := fun h hh => by rw [← hK]; simp [hh]
  have hN2K : ∀ h ∈ N2, h ∈ K := fun h hh => by rw [← hK]; exact List.mem_append_left _ hh
  rw [hK]
  have hHa := hHa.mono hN2K
  have hHM := hHM.mono hNK
  have hra := fun (H : List HO) (h : ∀ h ∈ K, h ∈ H) => row_rdv (w0 := ⟨w, fun _ => False⟩) (h _ (hN2K _ hqa)) ⟨_, _, _, rfl, by rw [cat_len lpc_len, hHa.1], fun h => by cases h⟩
  have hrm := fun (H : List HO) (h : ∀ h ∈ K, h ∈ H) => row_rdv (w0 := ⟨w, fun _ => False⟩) (h _ (hNK _ hN1)) ⟨_, _, _, rfl, by rw [cat_len lpc_len, hHM.1], fun h => by cases h⟩
  have hrow := fun (F : Nat → Int) (a : Addr) (c : Nat) (H : List HO) (hm : ∀ h ∈ K, h ∈ H) (h : HO.row (.slice (some a) n c) 3 1 (ints (rowF n F)) ∈ K) => row_rdv (w0 := ⟨w, fun _ => False⟩) (hm _ h) ⟨_, _, _, rfl, by rw [cat_len i1_len, rowF_len], fun h => by cases h⟩
  obtain ⟨a0, c0, hq0, hr0⟩ := hHa.2 0 (by omega)
  simp only [Nat.sub_zero] at hq0 hr0
  refine ⟨?_⟩
  simp (config := { maxSteps := 4000000 }) only [↓sx0, ↓sx1, ↓sx2, ↓sx3, ↓sx4, ↓sx5, ↓sx6, sx0, sx1, sx2, sx3, sx4, sx5, sx6, tf60, ev3_hold, sxo, sxc, sxp, sxq, sxr, sxs, sxl, sxm, simprocAttr]
  refine loop_constH K (HImp.refl _ _) [(10, 11), (24, 37)] (fun i : Nat => [(10, I (g.leastC i)), (11, I i)]) (fun i H1 => i ≤ n ∧ H1 = K) (fun i => n - i) 0 ?_ ⟨Nat.zero_le _, rfl⟩ ?_
  · simp (config := { maxSteps := 4000000 }) only [↓sx0, ↓sx1, ↓sx2, ↓sx3, ↓sx4, ↓sx5, ↓sx6, sx0, sx1, sx2, sx3, sx4, sx5, sx6, tf60, ev3_hold, sxo, sxc, sxp, sxq, sxr, sxs, sxl, sxm, simprocAttr]
    try simp [hlz, NV]
  rintro i H1 g1 ⟨hi, rfl⟩
  by_cases hin : i = n
  case neg =>
    have e7 : ((i : Int) < (n : Int)) = True := eq_true (by omega)
    have e8 : wr ((i : Int) + 1) = ((i + 1 : Nat) : Int) := (wrap_id (by omega)).trans (by omega)
    have hlsi := hls i
    refine ⟨?_⟩
    simp (config := { maxSteps := 4000000 }) only [↓sx0, ↓sx1, ↓sx2, ↓sx3, ↓sx4, ↓sx5, ↓sx6, sx0, sx1, sx2, sx3, sx4, sx5, sx6, tf60, ev3_hold, sxo, sxc, sxp, sxq, sxr, sxs, sxl, sxm, simprocAttr, e7]
    refine And.right (at_1 (k := 0) (hra _ fun h hh => hh) lpc_len hq0 (show lpc _ = [Value.slice (some a0) n c0] from rfl) fun ad2 => ?_)
    simp (config := { maxSteps := 4000000 }) only [↓sx0, ↓sx1, ↓sx2, ↓sx3, ↓sx4, ↓sx5, ↓sx6, sx0, sx1, sx2, sx3, sx4, sx5, sx6, tf60, ev3_hold, sxo, sxc, sxp, sxq, sxr, sxs, sxl, sxm, simprocAttr]
    refine at_1 (hrow _ _ _ _ (fun h hh => hh) hr0) i1_len (rowF_get _ (show i < n by omega)) rfl fun ad3 => ?_
    simp (config := { maxSteps := 4000000 }) only [↓sx0, ↓sx1, ↓sx2, ↓sx3, ↓sx4, ↓sx5, ↓sx6, sx0, sx1, sx2, sx3, sx4, sx5, sx6, tf60, ev3_hold, sxo, sxc, sxp, sxq, sxr, sxs, sxl, sxm, simprocAttr, e8]
    exact ⟨i + 1, _, ⟨by rw [hlsi], rfl⟩, HImp.refl _ _, ⟨by omega, rfl⟩, by omega⟩
  have e7 : ((i : Int) < (n : Int)) = False := eq_false (by omega)
  rw [hin] at e7 ⊢
  rw [← hlc]
  by_cases hlt : LE < NV
  case neg =>
    have p1 : (LE ≥ 1073741824) = True := eq_true (by unfold NV at hlt; omega)
    refine ⟨?_⟩
    simp (config := { maxSteps := 4000000 }) only [↓sx0, ↓sx1, ↓sx2, ↓sx3, ↓sx4, ↓sx5, ↓sx6, sx0, sx1, sx2, sx3, sx4, sx5, sx6, tf60, ev3_hold, sxo, sxc, sxp, sxq, sxr, sxs, sxl, sxm, simprocAttr, e7, p1]
    exact .inr hlt
  have p1 : (LE ≥ 1073741824) = False := eq_false (by unfold NV at hlt; omega)
  obtain ⟨hFl, hst⟩ := hst hlt
  refine ⟨?_⟩
  simp (config := { maxSteps := 4000000 }) only [↓sx0, ↓sx1, ↓sx2, ↓sx3, ↓sx4, ↓sx5, ↓sx6, sx0, sx1, sx2, sx3, sx4, sx5, sx6, tf60, ev3_hold, sxo, sxc, sxp, sxq, sxr, sxs, sxl, sxm, simprocAttr, e7, p1]
  refine loop_constH (HO.row (.slice none 0 0) 3 1 (ints (zs (Fi.take 0))) :: H1) (HImp.nilRow _ _ _ _) [(12, 15), (41, 94)] (fun q : Nat × Option Addr × Nat => [(12, I (crsLf g Fi q.1)), (13, .slice q.2.1 q.1 q.2.2), (14, I q.1)])
    (fun q H2 => q.1 ≤ T ∧ (q.2.1 = none → q.1 = 0) ∧ H2 = HO.row (.slice q.2.1 q.1 q.2.2) 3 1 (ints (zs (Fi.take q.1))) :: H1) (fun q => T - q.1) (0, none, 0) ?_ ⟨Nat.zero_le _, fun _ => rfl, rfl⟩ ?_
  · simp (config := { maxSteps := 4000000 }) only [↓sx0, ↓sx1, ↓sx2, ↓sx3, ↓sx4, ↓sx5, ↓sx6, sx0, sx1, sx2, sx3, sx4, sx5, sx6, tf60, ev3_hold, sxo, sxc, sxp, sxq, sxr, sxs, sxl, sxm, simprocAttr]
    try simp [hlf0]
  rintro ⟨t, ad, cp⟩ H2 g2 hinv
  simp only [] at hinv
  obtain ⟨ht, hnil, rfl⟩ := hinv
  have htl : (zs (Fi.take t)).length = t := by rw [zs_len, List.length_take]; omega
  by_cases htn : t = T
  · have f7 : ((t : Int) < (T : Int)) = False := eq_false (by omega)
    have htk : Fi.take t = Fi := List.take_of_length_le (by omega)
    rw [htk] at htl ⊢
    refine ⟨?_⟩
    simp (config := { maxSteps := 4000000 }) only [↓sx0, ↓sx1, ↓sx2, ↓sx3, ↓sx4, ↓sx5, ↓sx6, sx0, sx1, sx2, sx3, sx4, sx5, sx6, tf60, ev3_hold, sxo, sxc, sxp, sxq, sxr, sxs, sxl, sxm, simprocAttr, f7]
    refine .inl ⟨hlt, _, rfl, ?_⟩
    exact Got.row htl List.mem_cons_self (fun h => List.eq_nil_of_length_eq_zero (htl.trans (hnil h)))
  have f7 : ((t : Int) < (T : Int)) = True := eq_true (by omega)
  have f8 : wr ((t : Int) + 1) = ((t + 1 : Nat) : Int) := (wrap_id (by omega)).trans (by omega)
  have hlT : t < T := by omega
  obtain ⟨aw, cw, hqt, hrt⟩ := hHa.2 t hlT
  have hXs := hst t hlT
  have hXprev : ∀ s, t = s + 1 → Fi.getD s 0 < n := fun s hs => (hst s (by omega)).1
  have hlk0t : t = 0 → ∀ z, crsLook g Fi t z = decide (g.onw (T - 1 - t) z = crsLf g Fi t) := fun h z => by
    subst h
    rw [hlk0, hlf0]
    rfl
  have hlkst : ∀ s, t = s + 1 → ∀ z, crsLook g Fi t z = (g.nr (Fi.getD s 0) z && decide (g.onw (T - 1 - t) z = crsLf g Fi t)) := fun s h z => by
    subst h
    exact hlks s z
  have hlft := hlfs t
  have hFt : Fi[t]? = some (Fi.getD t 0) := by
    rw [List.getD_eq_getElem?_getD]
    have : t < Fi.length := by omega
    rw [List.getElem?_eq_getElem this]
    rfl
  have hobt := fun x => hob (T - 1 - t) (by omega) x
  have hcbt := hcb t
  obtain ⟨O, hO⟩ : ∃ O, g.onw (T - 1 - t) = O := ⟨_, rfl⟩
  obtain ⟨X, hX⟩ : ∃ X, Fi.getD t 0 = X := ⟨_, rfl⟩
  obtain ⟨lk, hlk⟩ : ∃ lk, crsLook g Fi t = lk := ⟨_, rfl⟩
  obtain ⟨C, hC⟩ : ∃ C, g.cost t X = C := ⟨_, rfl⟩
  rw [hX, hO, hlk] at hXs
  rw [hX, hO, hC] at hlft
  rw [hX] at hFt
  have hcbX := hcbt X
  rw [hC] at hcbX
  simp only [hO, hlk] at hlk0t hlkst hobt
  simp only [hO] at hqt hrt
  obtain ⟨hXn, hXo, hXv, hXl, hXb⟩ := hXs
  have hNV : NV = 1073741824 := rfl
  have hobX := hobt X
  have htk1 : zs (Fi.take t) ++ [(X : Int)] = zs (Fi.take (t + 1)) := by
    rw [List.take_add_one, hFt, zs_app]
    rfl
  have e9 : wr (crsLf g Fi t - C) = crsLf g Fi (t + 1) := (wrap_id (by omega)).trans (by rw [hlft, hXo])
  obtain ⟨Ln, hLn⟩ : ∃ Ln, crsLf g Fi (t + 1) = Ln := ⟨_, rfl⟩
  rw [hLn] at e9
  obtain ⟨HH, hHH⟩ : ∃ HH, HO.row (.slice ad t cp) 3 1 (ints (zs (Fi.take t))) :: H1 = HH := ⟨_, rfl⟩
  have hmem1 : ∀ h ∈ H1, h ∈ HH := fun h hh => by rw [← hHH]; exact List.mem_cons_of_mem _ hh
  have hmem2 : HO.row (.slice ad t cp) 3 1 (ints (zs (Fi.take t))) ∈ HH := by rw [← hHH]; exact List.mem_cons_self
  have hrC := row_rdv (w0 := ⟨w, fun _ => False⟩) hmem2 ⟨_, _, _, rfl, by rw [cat_len i1_len, htl], fun h => by rw [List.eq_nil_of_length_eq_zero (htl.trans (hnil h))]; rfl⟩
  have hownX := fun (H : List HO) (hm : ∀ h ∈ H1, h ∈ H) w' (hp : Hp ⟨w, fun _ => False⟩ H w') => hown X t hXn hlT H w' hp (hML.ok (fun h hh => hm _ (hNK h hh)) hp)
  rw [hC] at hownX
  have hraH := hra HH hmem1
  have hrmH := hrm HH hmem1
  have hrt2 := hrow O aw cw HH hmem1 hrt
  rw [hHH]
  refine ⟨?_⟩
  simp (config := { maxSteps := 4000000 }) only [↓sx0, ↓sx1, ↓sx2, ↓sx3, ↓sx4, ↓sx5, ↓sx6, sx0, sx1, sx2, sx3, sx4, sx5, sx6, tf60, ev3_hold, sxo, sxc, sxp, sxq, sxr, sxs, sxl, sxm, simprocAttr, f7]
  refine loop_constH HH (HImp.refl _ _) [(12, 13), (15, 15), (47, 94)] (fun k : Nat => [(12, I (crsLf g Fi t)), (13, .slice ad t cp), (15, I k)]) (fun k H3 => k ≤ X ∧ H3 = HH) (fun k => n - k) 0 ?_ ⟨Nat.zero_le _, rfl⟩ ?_
  · simp (config := { maxSteps := 4000000 }) only [↓sx0, ↓sx1, ↓sx2, ↓sx3, ↓sx4, ↓sx5, ↓sx6, sx0, sx1, sx2, sx3, sx4, sx5, sx6, tf60, ev3_hold, sxo, sxc, sxp, sxq, sxr, sxs, sxl, sxm, simprocAttr]
    try simp
  rintro k H3 g3 ⟨hk, rfl⟩
  have hkn : k < n := by omega
  have k7 : ((k : Int) < (n : Int)) = True := eq_true (by omega)
  have k8 : wr ((k : Int) + 1) = ((k + 1 : Nat) : Int) := (wrap_id (by omega)).trans (by omega)
  have hOk : (rowF n O)[k]? = some (O k) := rowF_get _ hkn
  refine ⟨?_⟩
  simp (config := { maxSteps := 4000000 }) only [↓sx0, ↓sx1, ↓sx2, ↓sx3, ↓sx4, ↓sx5, ↓sx6, sx0, sx1, sx2, sx3, sx4, sx5, sx6, tf60, ev3_hold, sxo, sxc, sxp, sxq, sxr, sxs, sxl, sxm, simprocAttr, k7]
  refine cut_constH [(53, 81)] (fun _ : Unit => [(81, .bool (lk k))]) (fun _ H4 => H4 = H3) ?_ ?_
  · refine ⟨?_⟩
    simp (config := { maxSteps := 4000000 }) only [↓sx0, ↓sx1, ↓sx2, ↓sx3, ↓sx4, ↓sx5, ↓sx6, sx0, sx1, sx2, sx3, sx4, sx5, sx6, tf60, ev3_hold, sxo, sxc, sxp, sxq, sxr, sxs, sxl, sxm, simprocAttr]
    refine at_1 hraH lpc_len hqt (show lpc _ = [Value.slice (some aw) n cw] from rfl) fun ad2 => ?_
    simp (config := { maxSteps := 4000000 }) only [↓sx0, ↓sx1, ↓sx2, ↓sx3, ↓sx4, ↓sx5, ↓sx6, sx0, sx1, sx2, sx3, sx4, sx5, sx6, tf60, ev3_hold, sxo, sxc, sxp, sxq, sxr, sxs, sxl, sxm, simprocAttr]
    refine at_1 hrt2 i1_len hOk rfl fun ad3 => ?_
    by_cases hq : O k = crsLf g Fi t
    case neg =>
      have q1 : (O k = crsLf g Fi t) = False := eq_false hq
      have hf : lk k = false := by
        cases t with
        | zero => rw [hlk0t rfl, decide_eq_false hq]
        | succ s => rw [hlkst s rfl, decide_eq_false hq, Bool.and_false]
      simp (config := { maxSteps := 4000000 }) only [↓sx0, ↓sx1, ↓sx2, ↓sx3, ↓sx4, ↓sx5, ↓sx6, sx0, sx1, sx2, sx3, sx4, sx5, sx6, tf60, ev3_hold, sxo, sxc, sxp, sxq, sxr, sxs, sxl, sxm, simprocAttr, q1]
      exact ⟨(), _, by rw [hf], HImp.refl _ _, rfl⟩
    have q1 : (O k = crsLf g Fi t) = True := eq_true hq
    by_cases ht0 : t = 0
    · have q2 : ((t : Int) = 0) = True := eq_true (by omega)
      have hf : lk k = true := by rw [hlk0t ht0, decide_eq_true hq]
      simp (config := { maxSteps := 4000000 }) only [↓sx0, ↓sx1, ↓sx2, ↓sx3, ↓sx4, ↓sx5, ↓sx6, sx0, sx1, sx2, sx3, sx4, sx5, sx6, tf60, ev3_hold, sxo, sxc, sxp, sxq, sxr, sxs, sxl, sxm, simprocAttr, q1, q2]
      exact ⟨(), _, by rw [hf], HImp.refl _ _, rfl⟩
    have q2 : ((t : Int) = 0) = False := eq_false (by omega)
    obtain ⟨s, hs⟩ : ∃ s, t = s + 1 := ⟨t - 1, by omega⟩
    have q3 : wr ((t : Int) - 1) = (s : Int) := (wrap_id (by omega)).trans (by omega)
    obtain ⟨Y, hY⟩ : ∃ Y, Fi.getD s 0 = Y := ⟨_, rfl⟩
    have hYn := hXprev s hs
    have hlks2 := hlkst s hs k
    rw [hY] at hYn hlks2
    have hFs : (zs (Fi.take t))[s]? = some (Y : Int) := by
      unfold zs
      rw [List.getElem?_map, List.getElem?_take_of_lt (by omega), List.getElem?_eq_getElem (by omega : s < Fi.length)]
      have : Fi[s]'(by omega) = Y := by rw [← hY, List.getD_eq_getElem?_getD, List.getElem?_eq_getElem (by omega : s < Fi.length)]; rfl
      rw [this]
      rfl
    rw [decide_eq_true hq, Bool.and_true, hnr Y k hYn hkn] at hlks2
    obtain ⟨am2, cm2, hpm, hrm2⟩ := hHM.2 Y hYn
    have hAk : (rowF n fun b => (dst d.c.W d.c.H Y b : Int))[k]? = some (dst d.c.W d.c.H Y k : Int) := rowF_get _ hkn
    obtain ⟨Zd, hZd⟩ : ∃ Zd : Int, ((dst d.c.W d.c.H Y k : Nat) : Int) = Zd := ⟨_, rfl⟩
    rw [hZd] at hlks2 hAk
    have had : ∃ ad1, ad = some ad1 := by
      cases ad with
      | none => exact absurd (hnil rfl) ht0
      | some a => exact ⟨a, rfl⟩
    simp (config := { maxSteps := 4000000 }) only [↓sx0, ↓sx1, ↓sx2, ↓sx3, ↓sx4, ↓sx5, ↓sx6, sx0, sx1, sx2, sx3, sx4, sx5, sx6, tf60, ev3_hold, sxo, sxc, sxp, sxq, sxr, sxs, sxl, sxm, simprocAttr, q1, q2, q3]
    refine at_1 hrC i1_len hFs rfl fun ad5 => ?_
    simp (config := { maxSteps := 4000000 }) only [↓sx0, ↓sx1, ↓sx2, ↓sx3, ↓sx4, ↓sx5, ↓sx6, sx0, sx1, sx2, sx3, sx4, sx5, sx6, tf60, ev3_hold, sxo, sxc, sxp, sxq, sxr, sxs, sxl, sxm, simprocAttr]
    refine at_1 hrmH lpc_len hpm (show lpc _ = [Value.slice (some am2) n cm2] from rfl) fun ad6 => ?_
    simp (config := { maxSteps := 4000000 }) only [↓sx0, ↓sx1, ↓sx2, ↓sx3, ↓sx4, ↓sx5, ↓sx6, sx0, sx1, sx2, sx3, sx4, sx5, sx6, tf60, ev3_hold, sxo, sxc, sxp, sxq, sxr, sxs, sxl, sxm, simprocAttr]
    refine at_1 (hrow (fun b => (dst d.c.W d.c.H Y b : Int)) am2 cm2 _ hmem1 hrm2) i1_len hAk rfl fun ad7 => ?_
    by_cases hz : Zd ≤ d.pc
    · have q4 : (Zd ≤ d.pc) = True := eq_true hz
      rw [decide_eq_true hz] at hlks2
      simp (config := { maxSteps := 4000000 }) only [↓sx0, ↓sx1, ↓sx2, ↓sx3, ↓sx4, ↓sx5, ↓sx6, sx0, sx1, sx2, sx3, sx4, sx5, sx6, tf60, ev3_hold, sxo, sxc, sxp, sxq, sxr, sxs, sxl, sxm, simprocAttr, q4]
      exact ⟨(), _, by rw [hlks2], HImp.refl _ _, rfl⟩
    · have q4 : (Zd ≤ d.pc) = False := eq_false hz
      rw [decide_eq_false hz] at hlks2
      simp (config := { maxSteps := 4000000 }) only [↓sx0, ↓sx1, ↓sx2, ↓sx3, ↓sx4, ↓sx5, ↓sx6, sx0, sx1, sx2, sx3, sx4, sx5, sx6, tf60, ev3_hold, sxo, sxc, sxp, sxq, sxr, sxs, sxl, sxm, simprocAttr, q4]
      exact ⟨(), _, by rw [hlks2], HImp.refl _ _, rfl⟩
  rintro _ H4 g4 rfl
  by_cases hkX : k = X
  case neg =>
    have hlf2 := hXb k (by omega)
    rw [hlf2]
    refine ⟨?_⟩
    simp (config := { maxSteps := 4000000 }) only [↓sx0, ↓sx1, ↓sx2, ↓sx3, ↓sx4, ↓sx5, ↓sx6, sx0, sx1, sx2, sx3, sx4, sx5, sx6, tf60, ev3_hold, sxo, sxc, sxp, sxq, sxr, sxs, sxl, sxm, simprocAttr, k8]
    exact ⟨k + 1, _, rfl, HImp.refl _ _, ⟨by omega, rfl⟩, by omega⟩
  rw [hkX, hXl]
  refine ⟨?_⟩
  simp (config := { maxSteps := 4000000 }) only [↓sx0, ↓sx1, ↓sx2, ↓sx3, ↓sx4, ↓sx5, ↓sx6, sx0, sx1, sx2, sx3, sx4, sx5, sx6, tf60, ev3_hold, sxo, sxc, sxp, sxq, sxr, sxs, sxl, sxm, simprocAttr]
  intro b4
  refine app_one (A := H1) (l := zs (Fi.take t)) (X : Int) (by rw [← hHH]; exact HImp.refl _ _) i1_len i1_one (by rw [htl]; omega) fun ad3 c3 => ?_
  rw [htk1, htl]
  simp (config := { maxSteps := 4000000 }) only [↓sx0, ↓sx1, ↓sx2, ↓sx3, ↓sx4, ↓sx5, ↓sx6, sx0, sx1, sx2, sx3, sx4, sx5, sx6, tf60, ev3_hold, sxo, sxc, sxp, sxq, sxr, sxs, sxl, sxm, simprocAttr, dn]
  refine CallOb.pureH (fun w' hp => hownX _ (fun h hh => List.mem_cons_of_mem _ hh) w' hp) ?_
  intro q N4 hq
  subst hq
  refine ⟨?_⟩
  simp (config := { maxSteps := 4000000 }) only [↓sx0, ↓sx1, ↓sx2, ↓sx3, ↓sx4, ↓sx5, ↓sx6, sx0, sx1, sx2, sx3, sx4, sx5, sx6, tf60, ev3_hold, sxo, sxc, sxp, sxq, sxr, sxs, sxl, sxm, simprocAttr, e9, f8]
  exact ⟨(t + 1, some ad3, c3), _, ⟨by rw [hLn], rfl, rfl⟩, HImp.app _ _ _, ⟨by simp only []; omega, fun h => (by cases h), rfl⟩, by simp only []; omega⟩
end Go.Proofs.YtaloedccoadedaaDoor

