/- Parts of a proof: the symbolic walk and what it shows of single functions. -/
import Derived.Test.YtpmodggfogahhaaGreatDoorF6
import Derived.Test.YtpmodggfogahhaaGreatDoorX5
import Derived.Test.YtpmodggfogahhaaGreatDoorC4
import Derived.Test.YtpmodggfogahhaaGreatDoorC3
set_option linter.all false
namespace Go.Proofs.YtpmodggfogahhaaGreatDoor
open Go.RowKit Go.SX
set_option maxRecDepth 10000
set_option maxHeartbeats 4000000
set_option linter.unusedSimpArgs false
set_option linter.unusedVariables false
def Dis.tru (d : Dis) (i : Nat) (L : List Nat) : Prop := saysB d.c (d.rep i) (L.getD (d.rep i).tick.toNat 0) = true
noncomputable def Dis.g0 (d : Dis) : Crs := d.crs fun _ => 0
def Dis.way (d : Dis) (L : List Nat) : Prop := L.length = d.c.tide.length ∧ d.g0.isC L ∧ ∀ t, t < d.c.tide.length → d.may t (L.getD t 0) = true
theorem isC_eq (d : Dis) (p : Nat → Int) : ∀ L, (d.crs p).isC L ↔ d.g0.isC L
  | [] => Iff.rfl
  | [x] => Iff.rfl
  | x :: y :: l => by
    have := isC_eq d p (y :: l)
    exact and_congr Iff.rfl (and_congr Iff.rfl this)
theorem Dis.rep_ok {d : Dis} (hE : d.E = 0) {i : Nat} (hi : i < d.rs.length) : (d.rep i).tick.toNat < d.c.tide.length ∧ 0 ≤ (d.rep i).tick := by
  obtain ⟨_, _, _, _, hr⟩ := Dis.E_zero hE
  have := ((repB_iff _ _).1 (hr _ (Dis.rep_mem hi).1)).1.1
  omega
theorem Dis.course_iff {d : Dis} (hE : d.E = 0) {p : Nat → Int} (hp : priceOk 100 p) (L : List Nat) : (d.crs p).Course L ↔ d.way L ∧ ∀ i, i < d.rs.length → p i = NV → d.tru i L := by
  obtain ⟨_, _, _, hm, _⟩ := Dis.E_zero hE
  have hlt := fun t x => d.rps.cost_lt hp (W := 100) (by decide) (by show ((d.rs.length : Nat) : Int) * 100 < NV; unfold NV; omega) d.may t x
  unfold Crs.Course Dis.way
  rw [isC_eq, Crs.can_all]
  constructor
  · rintro ⟨h1, h2, h3⟩
    have h1' : L.length = d.c.tide.length := h1
    refine ⟨⟨h1, h2, fun t ht => ?_⟩, fun i hi hpi => ?_⟩
    · have := h3 t (by omega)
      rw [Nat.zero_add] at this
      exact ((hlt t _).1 this).1
    · obtain ⟨h4, _⟩ := Dis.rep_ok hE hi
      have := h3 _ (by rw [h1']; exact h4)
      rw [Nat.zero_add] at this
      have h5 := ((hlt _ _).1 this).2 i hi
      unfold Dis.tru
      by_cases ht : saysB d.c (d.rep i) (L.getD (d.rep i).tick.toNat 0) = true
      · exact ht
      · have hoff : d.rps.off (d.rep i).tick.toNat (L.getD (d.rep i).tick.toNat 0) i = true := by
          show (decide ((d.rep i).tick.toNat = (d.rep i).tick.toNat) && !saysB d.c (d.rep i) (L.getD (d.rep i).tick.toNat 0)) = true
          rw [Bool.not_eq_true] at ht
          rw [ht, decide_eq_true rfl]
          rfl
        exact absurd hpi (h5 hoff)
  · rintro ⟨⟨h1, h2, h3⟩, h4⟩
    refine ⟨h1, h2, fun j hj => ?_⟩
    rw [Nat.zero_add]
    refine (hlt j _).2 ⟨h3 j (by omega), fun i hi hoff hpi => ?_⟩
    have h5 := h4 i hi hpi
    unfold Dis.tru at h5
    have h6 : (decide ((d.rep i).tick.toNat = j) && !saysB d.c (d.rep i) (L.getD j 0)) = true := hoff
    rw [Bool.and_eq_true, decide_eq_true_eq] at h6
    rw [← h6.1, h5] at h6
    cases h6.2
theorem Dis.tot_is {d : Dis} (hE : d.E = 0) {p : Nat → Int} (hp : priceOk 100 p) {L : List Nat} (hc : (d.crs p).Course L) : (d.crs p).tot 0 L = sumN (fun i => if saysB d.c (d.rep i) (L.getD (d.rep i).tick.toNat 0) then 0 else p i) d.rs.length := by
  have hp0 : ∀ i, 0 ≤ p i := fun i => by
    have := hp i
    unfold NV at this
    omega
  exact d.rps.tot_eq hp0 d.may (d.crs p) (fun _ _ => rfl) hc.2.2 fun i hi => by
    have := (Dis.rep_ok hE hi).1
    have h1 : L.length = d.c.tide.length := hc.1
    rw [h1]
    exact this
end Go.Proofs.YtpmodggfogahhaaGreatDoor

namespace Go.Proofs.YtpmodggfogahhaaGreatDoor
open Go.RowKit Go.SX
set_option maxRecDepth 20000
set_option maxHeartbeats 4000000
set_option linter.unusedSimpArgs false
set_option linter.unusedVariables false
theorem tab_dst {W H : Nat} {f : Nat → Nat → Nat} (h0 : ∀ a, a < W * H → f a a = 0) (h1 : ∀ a y, a < W * H → y < W * H → ∀ z ∈ nbL W H y, f a z ≤ f a y + 1) (h2 : ∀ a x, a < W * H → x < W * H → x = a ∨ ∃ z ∈ nbL W H x, f a z + 1 = f a x) {a x : Nat} (ha : a < W * H) (hx : x < W * H) : dst W H a x = f a x := by
  refine isD_uniq (dst_is ha hx) ⟨?_, fun m hm => ?_⟩
  · have : ∀ n x, x < W * H → f a x = n → Rc W H a n x := fun n => by
      induction n with
      | zero =>
        intro x hx hf
        rcases h2 a x ha hx with rfl | ⟨z, _, hz⟩
        · exact Rc.zero
        · omega
      | succ n ih =>
        intro x hx hf
        rcases h2 a x ha hx with rfl | ⟨z, hz, hzf⟩
        · rw [h0 x ha] at hf
          omega
        · have hzl := nbL_lt hx z hz
          exact Rc.step (ih z hzl (by omega)) (nb_symm hx hz)
    exact this _ x hx rfl
  · have : ∀ {n y}, Rc W H a n y → f a y ≤ n := fun {n y} h => by
      induction h with
      | zero => rw [h0 a ha]; exact Nat.le_refl _
      | step h hy ih =>
        have := h1 a _ ha (Rc.lt ha h) _ hy
        omega
    exact this hm
def exTab : List (List Nat) := [[0, 1, 2, 3, 1, 2, 3, 4, 2, 2, 3, 4], [1, 0, 1, 2, 1, 1, 2, 3, 2, 2, 2, 3], [2, 1, 0, 1, 2, 1, 1, 2, 3, 2, 2, 2], [3, 2, 1, 0, 3, 2, 1, 1, 4, 3, 2, 2], [1, 1, 2, 3, 0, 1, 2, 3, 1, 1, 2, 3], [2, 1, 1, 2, 1, 0, 1, 2, 2, 1, 1, 2], [3, 2, 1, 1, 2, 1, 0, 1, 3, 2, 1, 1], [4, 3, 2, 1, 3, 2, 1, 0, 4, 3, 2, 1], [2, 2, 3, 4, 1, 2, 3, 4, 0, 1, 2, 3], [2, 2, 2, 3, 1, 1, 2, 3, 1, 0, 1, 2], [3, 2, 2, 2, 2, 1, 1, 2, 2, 1, 0, 1], [4, 3, 2, 2, 3, 2, 1, 1, 3, 2, 1, 0]]
def exT (a x : Nat) : Nat := (exTab.getD a []).getD x 0
theorem ex_dst {a x : Nat} (ha : a < 12) (hx : x < 12) : dst 4 3 a x = exT a x := by
  refine tab_dst (W := 4) (H := 3) (f := exT) ?_ ?_ ?_ ha hx
  · decide +kernel
  · have : ∀ a : Fin 12, ∀ y : Fin 12, (nbL 4 3 y.val).all (fun z => decide (exT a.val z ≤ exT a.val y.val + 1)) = true := by decide +kernel
    intro a y ha hy z hz
    have := List.all_eq_true.1 (this ⟨a, ha⟩ ⟨y, hy⟩) z hz
    exact of_decide_eq_true this
  · have : ∀ a : Fin 12, ∀ x : Fin 12, (decide (x.val = a.val) || (nbL 4 3 x.val).any (fun z => decide (exT a.val z + 1 = exT a.val x.val))) = true := by decide +kernel
    intro a x ha hx
    have := this ⟨a, ha⟩ ⟨x, hx⟩
    simp only [Bool.or_eq_true, decide_eq_true_eq, List.any_eq_true] at this
    exact this
def saysD (D : Nat → Nat → Nat) (c : Cht) (r : Rep) (k : Nat) : Bool :=
  if r.kind = 1 then inB (D r.cell.toNat k) r.a r.b
  else if r.kind = 3 then inB ((k / c.W : Nat) : Int) r.a r.b && inB ((k % c.W : Nat) : Int) r.c r.d
  else if r.kind = 4 then decide ((D r.cell.toNat k : Int) > r.a)
  else if (k : Int) = r.cell then false
  else if trn r.a r.b r.c r.d > 0 then decide (trn r.a r.b (cenX c.W k - cenX c.W r.cell.toNat) (cenY c.W k - cenY c.W r.cell.toNat) ≥ 0) && decide (trn (cenX c.W k - cenX c.W r.cell.toNat) (cenY c.W k - cenY c.W r.cell.toNat) r.c r.d ≥ 0)
  else decide (trn r.a r.b (cenX c.W k - cenX c.W r.cell.toNat) (cenY c.W k - cenY c.W r.cell.toNat) = 0) && decide (alg r.a r.b (cenX c.W k - cenX c.W r.cell.toNat) (cenY c.W k - cenY c.W r.cell.toNat) > 0)
theorem saysD_eq (c : Cht) (r : Rep) (k : Nat) : saysB c r k = saysD (dst c.W c.H) c r k := rfl
theorem saysD_congr {D D' : Nat → Nat → Nat} {c : Cht} {r : Rep} {k : Nat} (h : D r.cell.toNat k = D' r.cell.toNat k) : saysD D c r k = saysD D' c r k := by
  unfold saysD
  rw [h]
def rpsD (D : Nat → Nat → Nat) (d : Dis) : Rps := ⟨d.rs.length, fun i => (d.rep i).tick.toNat, fun i x => saysD D d.c (d.rep i) x⟩
def crsD (D : Nat → Nat → Nat) (d : Dis) (p : Nat → Int) : Crs := ⟨d.c.depth.length, fun x y => decide ((D x y : Int) ≤ d.pc), d.c.tide.length, fun t x => (rpsD D d).cost d.may p t x, 1200⟩
theorem sum_congr {r r' : Rps} {p : Nat → Int} {t x : Nat} : ∀ {m : Nat}, (∀ i, i < m → r.off t x i = r'.off t x i) → r.sum p t x m = r'.sum p t x m
  | 0, _ => rfl
  | m + 1, h => by
    unfold Rps.sum
    rw [h m (by omega), sum_congr fun i hi => h i (by omega)]
theorem crsD_same {D : Nat → Nat → Nat} {d : Dis} (hD : ∀ a x, a < d.c.depth.length → x < d.c.depth.length → dst d.c.W d.c.H a x = D a x) (hr : ∀ i, i < d.rs.length → (d.rep i).cell.toNat < d.c.depth.length) (p : Nat → Int) : (d.crs p).Same (crsD D d p) := by
  refine ⟨rfl, rfl, fun x y hx hy => ?_, fun t x hx => ?_⟩
  · have hx' : x < d.c.depth.length := hx
    have hy' : y < d.c.depth.length := hy
    show (decide (x < d.c.depth.length ∧ y < d.c.depth.length) && decide ((dst d.c.W d.c.H x y : Int) ≤ d.pc)) = decide ((D x y : Int) ≤ d.pc)
    rw [decide_eq_true ⟨hx', hy'⟩, Bool.true_and, hD x y hx' hy']
  · have hx' : x < d.c.depth.length := hx
    show d.rps.cost d.may p t x = (rpsD D d).cost d.may p t x
    unfold Rps.cost
    rw [show d.rps.sum p t x d.rps.m = (rpsD D d).sum p t x (rpsD D d).m from sum_congr fun i hi => ?_]
    show (decide ((d.rep i).tick.toNat = t) && !saysB d.c (d.rep i) x) = (decide ((d.rep i).tick.toNat = t) && !saysD D d.c (d.rep i) x)
    rw [saysD_eq, saysD_congr (hD _ x (hr i hi) hx')]
def exRs : List Rep := [⟨0, 1, 0, 1, 2, 0, 0, false, 2⟩, ⟨1, 2, 8, 1, -1, 1, 0, false, 4⟩, ⟨2, 3, 0, 2, 2, 0, 3, false, 1⟩]
def exR4 : Rep := ⟨1, 1, 11, 0, 0, 0, 0, false, 3⟩
def exD : Dis := ⟨exC, 5, 1, exRs⟩
theorem exD_E : exD.E = 0 := by
  unfold Dis.E
  rw [show exD.c = exC from rfl, (okB_iff _).2 exC_ok, if_pos rfl, if_pos (by decide)]
theorem exD_same (p : Nat → Int) : (exD.crs p).Same (crsD exT exD p) := crsD_same (D := exT) (d := exD) (fun a x ha hx => ex_dst ha hx) (by decide) p
theorem exD_least : (exD.crs pAll).least < NV := by rw [(exD_same pAll).least]; decide +kernel
theorem exD_first : (exD.crs pAll).first = [1, 5, 9, 4, 0] := by rw [(exD_same pAll).first]; decide +kernel
end Go.Proofs.YtpmodggfogahhaaGreatDoor

namespace Go.Proofs.YtpmodggfogahhaaGreatDoor
open Go.RowKit Go.SX
set_option maxRecDepth 20000
set_option maxHeartbeats 0
set_option linter.unusedSimpArgs false
set_option linter.unusedVariables false
theorem rcheck3_fn (w : World) (hw : Ways w) (v : Value) (d : Dis) (hd : DsOk w v d) (hsm : d.small) : SX.Fn Tryz.prog 20 [v] w (fun _ => False) fun q N => q = I d.E := by
  have hisr := fun (hok : d.c.ok) (r : Rep) (H : List HO) w' (hp : Hp ⟨w, fun _ => False⟩ H w') => isReport_fn w' (hw.hp hp) v v d (hd.hp hp) hok hsm r
  obtain ⟨c, dr, pc, rs⟩ := d
  obtain ⟨sD, sT, sS, sR, rfl, hc, hsR⟩ := hd
  have hD := detU_ok (X := fun _ => False) hw hc (fun _ _ => id)
  have hck := (detU_check (v := .agg #[I c.wide, I c.high, sD, sT, sS]) hsm.1).2
  have hU := detU_eq (.agg #[I c.wide, I c.high, sD, sT, sS]) c
  have hrl : rs.length ≤ 20 := hsm.2
  obtain ⟨aR, nR, cR, rfl⟩ := hsR.shape
  have hnR := hsR.le rpc_len (by omega)
  subst hnR
  have dn : ∀ xs, detU (.agg #[I c.wide, I c.high, sD, sT, sS]) c 59 xs = none := fun _ => rfl
  unfold Dis.E Dis.valB Dis.numB
  simp only [] at hsR hisr ⊢
  refine walkC [7] [] [] hD Tryz.func20 rfl Tryz.ntmps20 res20 (by kernel_rfl) no_facts ?_
  cases hok : c.okB with
  | false =>
    rw [hok] at hck
    simp (config := { maxSteps := 4000000 }) only [↓sx0, ↓sx1, ↓sx2, ↓sx3, ↓sx4, ↓sx5, ↓sx6, sx0, sx1, sx2, sx3, sx4, sx5, sx6, tf20, ev3_hold, sxo, sxc, sxp, sxq, sxr, sxs, sxl, sxm, simprocAttr, hck]
    all_goals rfl
  | true =>
  rw [hok] at hck
  have hisr := hisr ((okB_iff c).1 hok)
  simp (config := { maxSteps := 4000000 }) only [↓sx0, ↓sx1, ↓sx2, ↓sx3, ↓sx4, ↓sx5, ↓sx6, sx0, sx1, sx2, sx3, sx4, sx5, sx6, tf20, ev3_hold, sxo, sxc, sxp, sxq, sxr, sxs, sxl, sxm, simprocAttr, hck]
  refine cut_const [(8, 23)] (fun _ : Unit => [(23, .bool (!(inB dr 1 100 && inB pc 0 5 && decide (rs.length ≤ 12))))]) (fun _ H2 => H2 = []) ?_ ?_
  · cases h1 : inB dr 1 100 with
    | false =>
      simp (config := { maxSteps := 4000000 }) only [↓sx0, ↓sx1, ↓sx2, ↓sx3, ↓sx4, ↓sx5, ↓sx6, sx0, sx1, sx2, sx3, sx4, sx5, sx6, tf20, ev3_hold, sxo, sxc, sxp, sxq, sxr, sxs, sxl, sxm, simprocAttr, hU, h1]
      exact ⟨(), _, HImp.refl _ _, rfl⟩
    | true =>
    cases h2 : inB pc 0 5 with
    | false =>
      simp (config := { maxSteps := 4000000 }) only [↓sx0, ↓sx1, ↓sx2, ↓sx3, ↓sx4, ↓sx5, ↓sx6, sx0, sx1, sx2, sx3, sx4, sx5, sx6, tf20, ev3_hold, sxo, sxc, sxp, sxq, sxr, sxs, sxl, sxm, simprocAttr, hU, h1, h2]
      exact ⟨(), _, HImp.refl _ _, rfl⟩
    | true =>
    by_cases h3 : rs.length ≤ 12
    · have p1 : ((rs.length : Int) > 12) = False := eq_false (by omega)
      simp (config := { maxSteps := 4000000 }) only [↓sx0, ↓sx1, ↓sx2, ↓sx3, ↓sx4, ↓sx5, ↓sx6, sx0, sx1, sx2, sx3, sx4, sx5, sx6, tf20, ev3_hold, sxo, sxc, sxp, sxq, sxr, sxs, sxl, sxm, simprocAttr, hU, h1, h2, p1]
      first | exact ⟨(), _, HImp.refl _ _, rfl⟩ | exact ⟨(), _, by simp [h3], HImp.refl _ _, rfl⟩
    · have p1 : ((rs.length : Int) > 12) = True := eq_true (by omega)
      simp (config := { maxSteps := 4000000 }) only [↓sx0, ↓sx1, ↓sx2, ↓sx3, ↓sx4, ↓sx5, ↓sx6, sx0, sx1, sx2, sx3, sx4, sx5, sx6, tf20, ev3_hold, sxo, sxc, sxp, sxq, sxr, sxs, sxl, sxm, simprocAttr, hU, h1, h2, p1]
      first | exact ⟨(), _, HImp.refl _ _, rfl⟩ | exact ⟨(), _, by simp [h3], HImp.refl _ _, rfl⟩
  rintro _ H2 g2 rfl
  cases hn : (inB dr 1 100 && inB pc 0 5 && decide (rs.length ≤ 12)) with
  | false =>
    simp (config := { maxSteps := 4000000 }) only [↓sx0, ↓sx1, ↓sx2, ↓sx3, ↓sx4, ↓sx5, ↓sx6, sx0, sx1, sx2, sx3, sx4, sx5, sx6, tf20, ev3_hold, sxo, sxc, sxp, sxq, sxr, sxs, sxl, sxm, simprocAttr]
    all_goals rfl
  | true =>
  have hr0 := hsR.rd0
  simp (config := { maxSteps := 4000000 }) only [↓sx0, ↓sx1, ↓sx2, ↓sx3, ↓sx4, ↓sx5, ↓sx6, sx0, sx1, sx2, sx3, sx4, sx5, sx6, tf20, ev3_hold, sxo, sxc, sxp, sxq, sxr, sxs, sxl, sxm, simprocAttr]
  refine loop_constH [] (HImp.nil _ _) [(2, 3), (24, 38)] (fun i : Nat => [(3, I i)]) (fun i H1 => i ≤ rs.length ∧ (rs.take i).all (repB c) = true) (fun i => rs.length - i) 0 ?_ ⟨by omega, rfl⟩ ?_
  · simp (config := { maxSteps := 4000000 }) only [↓sx0, ↓sx1, ↓sx2, ↓sx3, ↓sx4, ↓sx5, ↓sx6, sx0, sx1, sx2, sx3, sx4, sx5, sx6, tf20, ev3_hold, sxo, sxc, sxp, sxq, sxr, sxs, sxl, sxm, simprocAttr]
    try simp
  rintro i H1 g1 ⟨hi, hall⟩
  by_cases hin : i = rs.length
  · have e7 : ((i : Int) < (rs.length : Int)) = False := eq_false (by omega)
    rw [List.take_of_length_le (by omega)] at hall
    rw [hall]
    refine ⟨?_⟩
    simp (config := { maxSteps := 4000000 }) only [↓sx0, ↓sx1, ↓sx2, ↓sx3, ↓sx4, ↓sx5, ↓sx6, sx0, sx1, sx2, sx3, sx4, sx5, sx6, tf20, ev3_hold, sxo, sxc, sxp, sxq, sxr, sxs, sxl, sxm, simprocAttr, e7]
    all_goals rfl
  have e7 : ((i : Int) < (rs.length : Int)) = True := eq_true (by omega)
  have e8 : wr (i + 1) = ((i + 1 : Nat) : Int) := (wrap_id (by omega)).trans (by omega)
  obtain ⟨r, hr⟩ : ∃ r, rs[i]? = some r := ⟨_, List.getElem?_eq_getElem (by omega)⟩
  have hyes := fun hp : repB c r = true => all_take hall hr hp
  have hno := fun hp : repB c r = false => all_not (p := repB c) hr hp
  have hisr := fun (H : List HO) => hisr r H
  obtain ⟨B, hB⟩ : ∃ B, repB c r = B := ⟨_, rfl⟩
  rw [hB] at hyes hno
  simp only [hB] at hisr
  obtain ⟨x1, x2, x3, x4, x5, x6, x7, s, x9⟩ := r
  unfold rpv at hisr
  refine ⟨?_⟩
  simp (config := { maxSteps := 4000000 }) only [↓sx0, ↓sx1, ↓sx2, ↓sx3, ↓sx4, ↓sx5, ↓sx6, sx0, sx1, sx2, sx3, sx4, sx5, sx6, tf20, ev3_hold, sxo, sxc, sxp, sxq, sxr, sxs, sxl, sxm, simprocAttr, e7]
  refine amid (at_n (hr0 _) rpc_len (by omega) hr fun ad => ?_)
  unfold rpc
  simp (config := { maxSteps := 4000000 }) only [↓sx0, ↓sx1, ↓sx2, ↓sx3, ↓sx4, ↓sx5, ↓sx6, sx0, sx1, sx2, sx3, sx4, sx5, sx6, tf20, ev3_hold, sxo, sxc, sxp, sxq, sxr, sxs, sxl, sxm, simprocAttr, dn]
  refine CallOb.pureH (fun w' hp => hisr _ w' hp) ?_
  rintro q N rfl
  cases B with
  | false =>
    rw [hno rfl]
    refine ⟨?_⟩
    simp (config := { maxSteps := 4000000 }) only [↓sx0, ↓sx1, ↓sx2, ↓sx3, ↓sx4, ↓sx5, ↓sx6, sx0, sx1, sx2, sx3, sx4, sx5, sx6, tf20, ev3_hold, sxo, sxc, sxp, sxq, sxr, sxs, sxl, sxm, simprocAttr]
    all_goals rfl
  | true =>
    have hy := hyes rfl
    refine ⟨?_⟩
    simp (config := { maxSteps := 4000000 }) only [↓sx0, ↓sx1, ↓sx2, ↓sx3, ↓sx4, ↓sx5, ↓sx6, sx0, sx1, sx2, sx3, sx4, sx5, sx6, tf20, ev3_hold, sxo, sxc, sxp, sxq, sxr, sxs, sxl, sxm, simprocAttr, e8]
    exact ⟨i + 1, _, rfl, HImp.nil _ _, ⟨by omega, hy⟩, by omega⟩
def Dis.few (d : Dis) : Prop := d.c.few ∧ d.rs.length ≤ 14 ∧ (d.E = 0 → d.c.depth.length ≤ 20 ∧ d.c.tide.length ≤ 6 ∧ d.rs.length ≤ 6)
theorem Dis.few.small {d : Dis} (h : d.few) : d.small := ⟨few_small h.1, by have := h.2.1; omega⟩
theorem vague_fn (w : World) (hw : Ways w) (v : Value) (d : Dis) (hd : DsOk w v d) : SX.Fn Tryz.prog 19 [v] w (fun _ => False) fun q N => ∃ b, q = .bool b ∧ (b = false → d.few) := by
  have hck := fun (hsm : d.small) (H : List HO) w' (hp : Hp ⟨w, fun _ => False⟩ H w') => rcheck3_fn w' (hw.hp hp) v d (hd.hp hp) hsm
  obtain ⟨sD, sT, sS, sR, rfl, hc, hsR⟩ := hd
  have hv := fun (H : List HO) w' (hp : Hp ⟨w, fun _ => False⟩ H w') => vast_fn w' _ d.c (hc.hp hp)
  obtain ⟨_, _, _, hh, hsD, hsT, hsS⟩ := hc
  cases hh
  obtain ⟨aD, nD, cD, rfl⟩ := hsD.shape
  obtain ⟨aT, nT, cT, rfl⟩ := hsT.shape
  obtain ⟨aR, nR, cR, rfl⟩ := hsR.shape
  have hnD := hsD.le i1_len (by omega)
  have hnT := hsT.le spc_len (by omega)
  have hnR := hsR.le rpc_len (by omega)
  subst hnD hnT hnR
  have dn : ∀ (g : Nat) (xs : List Value), det0 g xs = none := fun _ _ => rfl
  refine walk [] [] (det0_ok _ _) Tryz.func19 rfl Tryz.ntmps19 res19 (by kernel_rfl) no_facts ?_
  simp (config := { maxSteps := 4000000 }) only [↓sx0, ↓sx1, ↓sx2, ↓sx3, ↓sx4, ↓sx5, ↓sx6, sx0, sx1, sx2, sx3, sx4, sx5, sx6, tf19, ev3_hold, sxo, sxc, sxp, sxq, sxr, sxs, sxl, sxm, simprocAttr, dn]
  refine CallOb.pureH (fun w' hp => hv _ w' hp) ?_
  rintro q N ⟨b, rfl, hb⟩
  cases b with
  | true =>
    refine ⟨?_⟩
    simp (config := { maxSteps := 4000000 }) only [↓sx0, ↓sx1, ↓sx2, ↓sx3, ↓sx4, ↓sx5, ↓sx6, sx0, sx1, sx2, sx3, sx4, sx5, sx6, tf19, ev3_hold, sxo, sxc, sxp, sxq, sxr, sxs, sxl, sxm, simprocAttr]
    first | exact fun h => (by cases h) | exact ⟨true, rfl, fun h => by cases h⟩
  | false =>
  obtain ⟨hfew, hdim⟩ := hb rfl
  by_cases h1 : d.rs.length ≤ 14
  case neg =>
    have p1 : ((d.rs.length : Int) > 14) = True := eq_true (by omega)
    refine ⟨?_⟩
    simp (config := { maxSteps := 4000000 }) only [↓sx0, ↓sx1, ↓sx2, ↓sx3, ↓sx4, ↓sx5, ↓sx6, sx0, sx1, sx2, sx3, sx4, sx5, sx6, tf19, ev3_hold, sxo, sxc, sxp, sxq, sxr, sxs, sxl, sxm, simprocAttr, p1]
    first | exact fun h => (by cases h) | exact ⟨true, rfl, fun h => by cases h⟩
  have p1 : ((d.rs.length : Int) > 14) = False := eq_false (by omega)
  have hsm : d.small := ⟨few_small hfew, by omega⟩
  have hck := hck hsm
  by_cases hE : d.E = 0
  case neg =>
    have p2 : (d.E = 0) = False := eq_false hE
    refine ⟨?_⟩
    simp (config := { maxSteps := 4000000 }) only [↓sx0, ↓sx1, ↓sx2, ↓sx3, ↓sx4, ↓sx5, ↓sx6, sx0, sx1, sx2, sx3, sx4, sx5, sx6, tf19, ev3_hold, sxo, sxc, sxp, sxq, sxr, sxs, sxl, sxm, simprocAttr, p1, dn]
    refine CallOb.pureH (fun w' hp => hck _ w' hp) ?_
    rintro q N2 rfl
    refine ⟨?_⟩
    simp (config := { maxSteps := 4000000 }) only [↓sx0, ↓sx1, ↓sx2, ↓sx3, ↓sx4, ↓sx5, ↓sx6, sx0, sx1, sx2, sx3, sx4, sx5, sx6, tf19, ev3_hold, sxo, sxc, sxp, sxq, sxr, sxs, sxl, sxm, simprocAttr, p2]
    first | exact ⟨hfew, h1, fun h => absurd h hE⟩ | exact ⟨false, rfl, fun _ => ⟨hfew, h1, fun h => absurd h hE⟩⟩
  have p2 : (d.E = 0) = True := eq_true hE
  obtain ⟨hok, _⟩ := Dis.E_zero hE
  have hwh : (d.c.depth.length : Int) = d.c.wide * d.c.high := hok.2.2.1
  have h200 := hsm.1.1
  have ewh : IntKind.i64.wrap (d.c.wide * d.c.high) = (d.c.depth.length : Int) := by rw [← hwh]; exact wrap_id (by omega)
  refine ⟨?_⟩
  simp (config := { maxSteps := 4000000 }) only [↓sx0, ↓sx1, ↓sx2, ↓sx3, ↓sx4, ↓sx5, ↓sx6, sx0, sx1, sx2, sx3, sx4, sx5, sx6, tf19, ev3_hold, sxo, sxc, sxp, sxq, sxr, sxs, sxl, sxm, simprocAttr, p1, dn]
  refine CallOb.pureH (fun w' hp => hck _ w' hp) ?_
  rintro q N2 rfl
  by_cases q1 : d.c.depth.length > 20
  · have p3 : ((d.c.depth.length : Int) > 20) = True := eq_true (by omega)
    refine ⟨?_⟩
    simp (config := { maxSteps := 4000000 }) only [↓sx0, ↓sx1, ↓sx2, ↓sx3, ↓sx4, ↓sx5, ↓sx6, sx0, sx1, sx2, sx3, sx4, sx5, sx6, tf19, ev3_hold, sxo, sxc, sxp, sxq, sxr, sxs, sxl, sxm, simprocAttr, p2, ewh, p3]
    first | exact fun h => (by cases h) | exact ⟨true, rfl, fun h => by cases h⟩
  have p3 : ((d.c.depth.length : Int) > 20) = False := eq_false (by omega)
  by_cases q2 : d.c.tide.length > 6
  · have p4 : ((d.c.tide.length : Int) > 6) = True := eq_true (by omega)
    refine ⟨?_⟩
    simp (config := { maxSteps := 4000000 }) only [↓sx0, ↓sx1, ↓sx2, ↓sx3, ↓sx4, ↓sx5, ↓sx6, sx0, sx1, sx2, sx3, sx4, sx5, sx6, tf19, ev3_hold, sxo, sxc, sxp, sxq, sxr, sxs, sxl, sxm, simprocAttr, p2, ewh, p3, p4]
    first | exact fun h => (by cases h) | exact ⟨true, rfl, fun h => by cases h⟩
  have p4 : ((d.c.tide.length : Int) > 6) = False := eq_false (by omega)
  by_cases q3 : d.rs.length > 6
  · have p5 : ((d.rs.length : Int) > 6) = True := eq_true (by omega)
    refine ⟨?_⟩
    simp (config := { maxSteps := 4000000 }) only [↓sx0, ↓sx1, ↓sx2, ↓sx3, ↓sx4, ↓sx5, ↓sx6, sx0, sx1, sx2, sx3, sx4, sx5, sx6, tf19, ev3_hold, sxo, sxc, sxp, sxq, sxr, sxs, sxl, sxm, simprocAttr, p2, ewh, p3, p4, p5]
    first | exact fun h => (by cases h) | exact ⟨true, rfl, fun h => by cases h⟩
  have p5 : ((d.rs.length : Int) > 6) = False := eq_false (by omega)
  refine ⟨?_⟩
  simp (config := { maxSteps := 4000000 }) only [↓sx0, ↓sx1, ↓sx2, ↓sx3, ↓sx4, ↓sx5, ↓sx6, sx0, sx1, sx2, sx3, sx4, sx5, sx6, tf19, ev3_hold, sxo, sxc, sxp, sxq, sxr, sxs, sxl, sxm, simprocAttr, p2, ewh, p3, p4, p5]
  have hres : d.few := ⟨hfew, h1, fun _ => ⟨by omega, by omega, by omega⟩⟩
  first | exact hres | exact ⟨false, rfl, fun _ => hres⟩ | exact ⟨_, rfl, fun _ => hres⟩
def DsN (q : Value) (d : Dis) (N : List HO) : Prop := ∃ x y z u, q = .agg #[I d.c.wide, I d.c.high, x, y, z, I d.dr, I d.pc, u] ∧ Got x 3 1 i1 d.c.depth N ∧ Got y 44 2 spc d.c.tide N ∧ Got z 3 1 i1 d.c.swell N ∧ (∃ ad c, u = .slice ad d.rs.length c ∧ (ad = none → d.rs = []) ∧ HO.row (.slice ad d.rs.length c) 99 9 (cat rpc d.rs) ∈ N)
theorem DsN.ok {q : Value} {d : Dis} {N H : List HO} (h : DsN q d N) (hm : ∀ h ∈ N, h ∈ H) {w0 : Base} {w : World} (hp : Hp w0 H w) : DsOk w q d := by
  obtain ⟨x, y, z, u, rfl, h1, h2, h3, ad, c, rfl, _, h4⟩ := h
  exact ⟨_, _, _, _, rfl, ⟨_, _, _, rfl, h1.hp hm hp, h2.hp hm hp, h3.hp hm hp⟩, row_hp (hm _ h4) hp⟩
end Go.Proofs.YtpmodggfogahhaaGreatDoor

namespace Go.Proofs.YtpmodggfogahhaaGreatDoor
open Go.RowKit Go.SX
set_option maxRecDepth 20000
set_option maxHeartbeats 0
set_option linter.unusedSimpArgs false
set_option linter.unusedVariables false
def exV (b1 b2 b3 b4 : Nat) : Value := .agg #[I 4, I 3, .slice (some ⟨b1, 0, none⟩) 12 12, .slice (some ⟨b2, 0, none⟩) 5 5, .slice (some ⟨b3, 0, none⟩) 5 5, I 5, I 1, .slice (some ⟨b4, 0, none⟩) 3 3]
theorem example3_fn (w : World) : SX.Fn Tryz.prog 44 [] w (fun _ => False) fun q N => ∃ b1 b2 b3 b4, q = .tuple #[exV b1 b2 b3 b4, rpv exR4] ∧ HO.row (.slice (some ⟨b1, 0, none⟩) 12 12) 3 1 (ints exC.depth) ∈ N ∧ HO.row (.slice (some ⟨b2, 0, none⟩) 5 5) 44 2 (cat spc exC.tide) ∈ N ∧ HO.row (.slice (some ⟨b3, 0, none⟩) 5 5) 3 1 (ints exC.swell) ∈ N ∧ HO.row (.slice (some ⟨b4, 0, none⟩) 3 3) 99 9 (cat rpc exRs) ∈ N := by
  have dn : ∀ (g : Nat) (xs : List Value), det0 g xs = none := fun _ _ => rfl
  refine walk [] [] (det0_ok _ _) Tryz.func44 rfl Tryz.ntmps44 res44 (by kernel_rfl) no_facts ?_
  simp (config := { maxSteps := 4000000 }) only [↓sx0, ↓sx1, ↓sx2, ↓sx3, ↓sx4, ↓sx5, ↓sx6, sx0, sx1, sx2, sx3, sx4, sx5, sx6, tf44, ev3_hold, sxo, sxc, sxp, sxq, sxr, sxs, sxl, sxm, simprocAttr, dn]
  refine CallOb.pureH (fun w' hp => example_fn w') ?_
  rintro q N ⟨b1, b2, b3, rfl, h1, h2, h3⟩
  refine ⟨?_⟩
  simp (config := { maxSteps := 4000000 }) only [↓sx0, ↓sx1, ↓sx2, ↓sx3, ↓sx4, ↓sx5, ↓sx6, sx0, sx1, sx2, sx3, sx4, sx5, sx6, tf44, ev3_hold, sxo, sxc, sxp, sxq, sxr, sxs, sxl, sxm, simprocAttr]
  intro b4
  exact ⟨b1, b2, b3, b4, rfl, by simp [h1], by simp [h2], by simp [h3], List.mem_cons_self⟩
end Go.Proofs.YtpmodggfogahhaaGreatDoor

