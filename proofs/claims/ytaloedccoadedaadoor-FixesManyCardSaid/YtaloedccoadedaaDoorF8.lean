/- Parts of a proof: the symbolic walk and what it shows of single functions. -/
import Derived.Test.YtaloedccoadedaaDoorF6
import Derived.Test.YtaloedccoadedaaDoorX5
import Derived.Test.YtaloedccoadedaaDoorF7
import Derived.Test.YtaloedccoadedaaDoorC4
import Derived.Test.YtaloedccoadedaaDoorC3
set_option linter.all false
namespace Go.Proofs.YtaloedccoadedaaDoor
open Go.RowKit Go.SX
set_option maxRecDepth 10000
set_option maxHeartbeats 4000000
set_option linter.unusedSimpArgs false
set_option linter.unusedVariables false
def Dis.tru (d : Dis) (i : Nat) (L : List Nat) : Prop := saysB d.c (d.rep i) (L.getD (d.rep i).tick.toNat 0) = true
noncomputable def Dis.g0 (d : Dis) : Crs := d.crs fun _ => 0
def Dis.way (d : Dis) (L : List Nat) : Prop := L.length = d.c.tide.length ∧ d.g0.isC L ∧ ∀ t, t < d.c.tide.length → d.may t (L.getD t 0) = true
theorem isC_eq (d : Dis) (p : Nat → Int) : ∀ L, (d.crs p).isC L ↔ d.g0.isC L
  | [] => Iff.rfl
  | [x] => Iff.rfl
  | x :: y :: l => by
    have := isC_eq d p (y :: l)
    exact and_congr Iff.rfl (and_congr Iff.rfl this)
theorem Dis.rep_ok {d : Dis} (hE : d.E = 0) {i : Nat} (hi : i < d.rs.length) : (d.rep i).tick.toNat < d.c.tide.length ∧ 0 ≤ (d.rep i).tick := by
  obtain ⟨_, _, _, _, hr⟩ := Dis.E_zero hE
  have := ((repB_iff _ _).1 (hr _ (Dis.rep_mem hi).1)).1.1
  omega
theorem Dis.course_iff {d : Dis} (hE : d.E = 0) {p : Nat → Int} (hp : priceOk 100 p) (L : List Nat) : (d.crs p).Course L ↔ d.way L ∧ ∀ i, i < d.rs.length → p i = NV → d.tru i L := by
  obtain ⟨_, _, _, hm, _⟩ := Dis.E_zero hE
  have hlt := fun t x => d.rps.cost_lt hp (W := 100) (by decide) (by show ((d.rs.length : Nat) : Int) * 100 < NV; unfold NV; omega) d.may t x
  unfold Crs.Course Dis.way
  rw [isC_eq, Crs.can_all]
  constructor
  · rintro ⟨h1, h2, h3⟩
    have h1' : L.length = d.c.tide.length := h1
    refine ⟨⟨h1, h2, fun t ht => ?_⟩, fun i hi hpi => ?_⟩
    · have := h3 t (by omega)
      rw [Nat.zero_add] at this
      exact ((hlt t _).1 this).1
    · obtain ⟨h4, _⟩ := Dis.rep_ok hE hi
      have := h3 _ (by rw [h1']; exact h4)
      rw [Nat.zero_add] at this
      have h5 := ((hlt _ _).1 this).2 i hi
      unfold Dis.tru
      by_cases ht : saysB d.c (d.rep i) (L.getD (d.rep i).tick.toNat 0) = true
      · exact ht
      · have hoff : d.rps.off (d.rep i).tick.toNat (L.getD (d.rep i).tick.toNat 0) i = true := by
          show (decide ((d.rep i).tick.toNat = (d.rep i).tick.toNat) && !saysB d.c (d.rep i) (L.getD (d.rep i).tick.toNat 0)) = true
          rw [Bool.not_eq_true] at ht
          rw [ht, decide_eq_true rfl]
          rfl
        exact absurd hpi (h5 hoff)
  · rintro ⟨⟨h1, h2, h3⟩, h4⟩
    refine ⟨h1, h2, fun j hj => ?_⟩
    rw [Nat.zero_add]
    refine (hlt j _).2 ⟨h3 j (by omega), fun i hi hoff hpi => ?_⟩
    have h5 := h4 i hi hpi
    unfold Dis.tru at h5
    have h6 : (decide ((d.rep i).tick.toNat = j) && !saysB d.c (d.rep i) (L.getD j 0)) = true := hoff
    rw [Bool.and_eq_true, decide_eq_true_eq] at h6
    rw [← h6.1, h5] at h6
    cases h6.2
theorem Dis.canB_iff {d : Dis} (hE : d.E = 0) (S : Nat) : d.canB S = true ↔ ∃ L, d.way L ∧ ∀ i, i < d.rs.length → S.testBit i = true → d.tru i L := by
  unfold Dis.canB
  rw [decide_eq_true_eq, Crs.least_lt (Dis.crs_ok hE (pSome_ok S))]
  refine exists_congr fun L => ?_
  rw [Dis.course_iff hE (pSome_ok S)]
  refine and_congr Iff.rfl (forall_congr' fun i => forall_congr' fun hi => ?_)
  unfold pSome
  by_cases h : S.testBit i = true
  · rw [if_pos h]
    exact ⟨fun k _ => k rfl, fun k _ => k h⟩
  · rw [if_neg h]
    exact ⟨fun _ k => absurd k h, fun _ k => absurd k (by unfold NV; decide)⟩
theorem bits_all (n i : Nat) (h : i < n) : (2 ^ n - 1).testBit i = true := by
  rw [Nat.testBit_two_pow_sub_one]
  simpa using h
theorem fst_all {n : Nat} (hn : n ≤ 10) {can : Nat → Bool} (hmono : ∀ S T : Nat, (∀ i, i < n → S.testBit i = true → T.testBit i = true) → can T = true → can S = true) (h : can (2 ^ n - 1) = true) : fstL (fun y => !can (orS 0 y)) n = none :=
  none_fst fun y hy => by
    rw [hmono (orS 0 y) (2 ^ n - 1) (fun i hi _ => bits_all n i hi) h]
    rfl
theorem Dis.canB_mono {d : Dis} (hE : d.E = 0) (S T : Nat) (h : ∀ i, i < d.rs.length → S.testBit i = true → T.testBit i = true) (hT : d.canB T = true) : d.canB S = true := by
  obtain ⟨L, h1, h2⟩ := (Dis.canB_iff hE T).1 hT
  exact (Dis.canB_iff hE S).2 ⟨L, h1, fun i hi hs => h2 i hi (h i hi hs)⟩
end Go.Proofs.YtaloedccoadedaaDoor

namespace Go.Proofs.YtaloedccoadedaaDoor
open Go.RowKit Go.SX
set_option maxRecDepth 10000
set_option maxHeartbeats 0
set_option linter.unusedSimpArgs false
set_option linter.unusedVariables false
theorem can_val {w : World} {bs : Nat} {d : Dis} (h : SeaOk w bs d) (hE : d.E = 0) : CanOk w (.func (.func 48) #[.pointer (some ⟨bs, 0, none⟩)] #[]) d.canB := ⟨48, [.pointer (some ⟨bs, 0, none⟩)], [], rfl, Tryd.call48, fun w' hk S hS => can_fn w' bs d (h.kp hk) hE S hS⟩
def ConfP (d : Dis) (q : Value) (N : List HO) : Prop := (d.E ≠ 0 ∧ q = .tuple #[.slice none 0 0, I d.E]) ∨ (d.E = 0 ∧ FstQ (notC d.canB) d.rs.length q N)
theorem FstQ.none {P : List Int → Bool} {n : Nat} {N : List HO} (h : fstL P n = none) : FstQ P n (.tuple #[.slice none 0 0, I 3]) N := .inl ⟨h, rfl⟩
theorem FstQ.mono {P : List Int → Bool} {n : Nat} {q : Value} {N N' : List HO} (h : FstQ P n q N) (hm : ∀ h ∈ N, h ∈ N') : FstQ P n q N' := by
  rcases h with h | ⟨x, v, h1, h2, h3⟩
  · exact .inl h
  · exact .inr ⟨x, v, h1, h2, h3.mono hm⟩
theorem conflict_fn (w : World) (hw : Ways w) (hb : Deb w) (v : Value) (d : Dis) (hd : DsOk w v d) (hsm : d.small) (h10 : d.E = 0 → d.rs.length ≤ 10) : SX.Fn Tryd.prog 16 [v] w (fun _ => False) (ConfP d) := by
  have hop := fun (H : List HO) w' (hp : Hp ⟨w, fun _ => False⟩ H w') => open3_fn w' (hw.hp hp) v d (hd.hp hp) hsm
  have hok := fun (bs : Nat) (N H : List HO) (h : SeaN N v bs d) (hm : ∀ h ∈ N, h ∈ H) w' (hp : Hp ⟨w, fun _ => False⟩ H w') => h.ok hm hd hp
  obtain ⟨sD, sT, sS, sR, rfl, hc, hsR⟩ := hd
  obtain ⟨aR, nR, cR, rfl⟩ := hsR.shape
  have hnR := hsR.le rpc_len (by omega)
  subst hnR
  have dn : ∀ (g : Nat) (xs : List Value), det0 g xs = none := fun _ _ => rfl
  unfold ConfP
  unfold OpenP at hop
  refine walk [] [] (det0_ok _ _) Tryd.func16 rfl Tryd.ntmps16 res16 (by kernel_rfl) no_facts ?_
  simp (config := { maxSteps := 4000000 }) only [↓sx0, ↓sx1, ↓sx2, ↓sx3, ↓sx4, ↓sx5, ↓sx6, sx0, sx1, sx2, sx3, sx4, sx5, sx6, tf16, ev3_hold, sxo, sxc, sxp, sxq, sxr, sxs, sxl, sxm, simprocAttr, dn]
  refine CallOb.pureH (fun w' hp => hop _ w' hp) ?_
  rintro q N (⟨hE, rfl⟩ | ⟨hE, bs, rfl, hS⟩)
  · have p1 : (d.E = 0) = False := eq_false hE
    refine ⟨?_⟩
    simp (config := { maxSteps := 4000000 }) only [↓sx0, ↓sx1, ↓sx2, ↓sx3, ↓sx4, ↓sx5, ↓sx6, sx0, sx1, sx2, sx3, sx4, sx5, sx6, tf16, ev3_hold, sxo, sxc, sxp, sxq, sxr, sxs, sxl, sxm, simprocAttr, p1]
    exact .inl trivial
  have hm10 := h10 hE
  have hok := fun (H : List HO) (hm : ∀ h ∈ N, h ∈ H) w' (hp : Hp ⟨w, fun _ => False⟩ H w') => hok bs N H hS hm w' hp
  have e1 := shl12 ⟨d.rs.length, by omega⟩
  simp only [] at e1
  have hpw : 2 ^ d.rs.length ≤ 1024 := Nat.le_trans (Nat.pow_le_pow_right (by decide) hm10) (by decide)
  have hp0 : 0 < 2 ^ d.rs.length := Nat.pow_pos (by decide)
  have e2 : wr (((2 ^ d.rs.length : Nat) : Int) - 1) = ((2 ^ d.rs.length - 1 : Nat) : Int) := (wrap_id (by omega)).trans (by omega)
  have hca := fun (H : List HO) (hm : ∀ h ∈ N, h ∈ H) w' (hp : Hp ⟨w, fun _ => False⟩ H w') => can_fn w' bs d (hok H hm w' hp) hE (2 ^ d.rs.length - 1) (by omega)
  have hfe := fun (H : List HO) (hm : ∀ h ∈ N, h ∈ H) w' (hp : Hp ⟨w, fun _ => False⟩ H w') => fewest_fn w' (hb.hp hp) _ d.canB (can_val (hok H hm w' hp) hE) d.rs.length hm10
  have hall := fst_all hm10 (can := d.canB) fun S T => Dis.canB_mono hE S T
  obtain ⟨B, hB⟩ : ∃ B, d.canB (2 ^ d.rs.length - 1) = B := ⟨_, rfl⟩
  rw [hB] at hall
  simp only [hB] at hca
  obtain ⟨S0, hS0⟩ : ∃ S0, 2 ^ d.rs.length - 1 = S0 := ⟨_, rfl⟩
  rw [hS0] at e2
  simp only [hS0] at hca
  refine ⟨?_⟩
  simp (config := { maxSteps := 4000000 }) only [↓sx0, ↓sx1, ↓sx2, ↓sx3, ↓sx4, ↓sx5, ↓sx6, sx0, sx1, sx2, sx3, sx4, sx5, sx6, tf16, ev3_hold, sxo, sxc, sxp, sxq, sxr, sxs, sxl, sxm, simprocAttr, Int.toNat_natCast, e1, e2, dn]
  refine ⟨by omega, ?_⟩
  refine CallOb.pureH (fun w' hp => hca _ (fun h hh => by simpa using hh) w' hp) ?_
  rintro q N2 rfl
  cases B with
  | true =>
    refine ⟨?_⟩
    simp (config := { maxSteps := 4000000 }) only [↓sx0, ↓sx1, ↓sx2, ↓sx3, ↓sx4, ↓sx5, ↓sx6, sx0, sx1, sx2, sx3, sx4, sx5, sx6, tf16, ev3_hold, sxo, sxc, sxp, sxq, sxr, sxs, sxl, sxm, simprocAttr]
    exact .inr ⟨hE, FstQ.none (hall rfl)⟩
  | false =>
    refine ⟨?_⟩
    simp (config := { maxSteps := 4000000 }) only [↓sx0, ↓sx1, ↓sx2, ↓sx3, ↓sx4, ↓sx5, ↓sx6, sx0, sx1, sx2, sx3, sx4, sx5, sx6, tf16, ev3_hold, sxo, sxc, sxp, sxq, sxr, sxs, sxl, sxm, simprocAttr, dn]
    refine CallOb.pureH (fun w' hp => hfe _ (fun h hh => by simp [hh]) w' hp) ?_
    rintro q N3 (⟨h1, rfl⟩ | ⟨x, v, h1, rfl, h2⟩)
    · refine ⟨?_⟩
      simp (config := { maxSteps := 4000000 }) only [↓sx0, ↓sx1, ↓sx2, ↓sx3, ↓sx4, ↓sx5, ↓sx6, sx0, sx1, sx2, sx3, sx4, sx5, sx6, tf16, ev3_hold, sxo, sxc, sxp, sxq, sxr, sxs, sxl, sxm, simprocAttr]
      exact .inr ⟨hE, FstQ.none h1⟩
    · refine ⟨?_⟩
      simp (config := { maxSteps := 4000000 }) only [↓sx0, ↓sx1, ↓sx2, ↓sx3, ↓sx4, ↓sx5, ↓sx6, sx0, sx1, sx2, sx3, sx4, sx5, sx6, tf16, ev3_hold, sxo, sxc, sxp, sxq, sxr, sxs, sxl, sxm, simprocAttr]
      exact .inr ⟨hE, .inr ⟨x, v, h1, rfl, h2.mono (by simp +contextual)⟩⟩
end Go.Proofs.YtaloedccoadedaaDoor

namespace Go.Proofs.YtaloedccoadedaaDoor
open Go.RowKit Go.SX
set_option maxRecDepth 20000
set_option maxHeartbeats 4000000
set_option linter.unusedSimpArgs false
set_option linter.unusedVariables false
theorem tab_dst {W H : Nat} {f : Nat → Nat → Nat} (h0 : ∀ a, a < W * H → f a a = 0) (h1 : ∀ a y, a < W * H → y < W * H → ∀ z ∈ nbL W H y, f a z ≤ f a y + 1) (h2 : ∀ a x, a < W * H → x < W * H → x = a ∨ ∃ z ∈ nbL W H x, f a z + 1 = f a x) {a x : Nat} (ha : a < W * H) (hx : x < W * H) : dst W H a x = f a x := by
  refine isD_uniq (dst_is ha hx) ⟨?_, fun m hm => ?_⟩
  · have : ∀ n x, x < W * H → f a x = n → Rc W H a n x := fun n => by
      induction n with
      | zero =>
        intro x hx hf
        rcases h2 a x ha hx with rfl | ⟨z, _, hz⟩
        · exact Rc.zero
        · omega
      | succ n ih =>
        intro x hx hf
        rcases h2 a x ha hx with rfl | ⟨z, hz, hzf⟩
        · rw [h0 x ha] at hf
          omega
        · have hzl := nbL_lt hx z hz
          exact Rc.step (ih z hzl (by omega)) (nb_symm hx hz)
    exact this _ x hx rfl
  · have : ∀ {n y}, Rc W H a n y → f a y ≤ n := fun {n y} h => by
      induction h with
      | zero => rw [h0 a ha]; exact Nat.le_refl _
      | step h hy ih =>
        have := h1 a _ ha (Rc.lt ha h) _ hy
        omega
    exact this hm
def exTab : List (List Nat) := [[0, 1, 2, 3, 1, 2, 3, 4, 2, 2, 3, 4], [1, 0, 1, 2, 1, 1, 2, 3, 2, 2, 2, 3], [2, 1, 0, 1, 2, 1, 1, 2, 3, 2, 2, 2], [3, 2, 1, 0, 3, 2, 1, 1, 4, 3, 2, 2], [1, 1, 2, 3, 0, 1, 2, 3, 1, 1, 2, 3], [2, 1, 1, 2, 1, 0, 1, 2, 2, 1, 1, 2], [3, 2, 1, 1, 2, 1, 0, 1, 3, 2, 1, 1], [4, 3, 2, 1, 3, 2, 1, 0, 4, 3, 2, 1], [2, 2, 3, 4, 1, 2, 3, 4, 0, 1, 2, 3], [2, 2, 2, 3, 1, 1, 2, 3, 1, 0, 1, 2], [3, 2, 2, 2, 2, 1, 1, 2, 2, 1, 0, 1], [4, 3, 2, 2, 3, 2, 1, 1, 3, 2, 1, 0]]
def exT (a x : Nat) : Nat := (exTab.getD a []).getD x 0
theorem ex_dst {a x : Nat} (ha : a < 12) (hx : x < 12) : dst 4 3 a x = exT a x := by
  refine tab_dst (W := 4) (H := 3) (f := exT) ?_ ?_ ?_ ha hx
  · decide +kernel
  · have : ∀ a : Fin 12, ∀ y : Fin 12, (nbL 4 3 y.val).all (fun z => decide (exT a.val z ≤ exT a.val y.val + 1)) = true := by decide +kernel
    intro a y ha hy z hz
    have := List.all_eq_true.1 (this ⟨a, ha⟩ ⟨y, hy⟩) z hz
    exact of_decide_eq_true this
  · have : ∀ a : Fin 12, ∀ x : Fin 12, (decide (x.val = a.val) || (nbL 4 3 x.val).any (fun z => decide (exT a.val z + 1 = exT a.val x.val))) = true := by decide +kernel
    intro a x ha hx
    have := this ⟨a, ha⟩ ⟨x, hx⟩
    simp only [Bool.or_eq_true, decide_eq_true_eq, List.any_eq_true] at this
    exact this
def saysD (D : Nat → Nat → Nat) (c : Cht) (r : Rep) (k : Nat) : Bool :=
  if r.kind = 1 then inB (D r.cell.toNat k) r.a r.b
  else if r.kind = 3 then inB ((k / c.W : Nat) : Int) r.a r.b && inB ((k % c.W : Nat) : Int) r.c r.d
  else if r.kind = 4 then decide ((D r.cell.toNat k : Int) > r.a)
  else if (k : Int) = r.cell then false
  else if trn r.a r.b r.c r.d > 0 then decide (trn r.a r.b (cenX c.W k - cenX c.W r.cell.toNat) (cenY c.W k - cenY c.W r.cell.toNat) ≥ 0) && decide (trn (cenX c.W k - cenX c.W r.cell.toNat) (cenY c.W k - cenY c.W r.cell.toNat) r.c r.d ≥ 0)
  else decide (trn r.a r.b (cenX c.W k - cenX c.W r.cell.toNat) (cenY c.W k - cenY c.W r.cell.toNat) = 0) && decide (alg r.a r.b (cenX c.W k - cenX c.W r.cell.toNat) (cenY c.W k - cenY c.W r.cell.toNat) > 0)
theorem saysD_eq (c : Cht) (r : Rep) (k : Nat) : saysB c r k = saysD (dst c.W c.H) c r k := rfl
theorem saysD_congr {D D' : Nat → Nat → Nat} {c : Cht} {r : Rep} {k : Nat} (h : D r.cell.toNat k = D' r.cell.toNat k) : saysD D c r k = saysD D' c r k := by
  unfold saysD
  rw [h]
def rpsD (D : Nat → Nat → Nat) (d : Dis) : Rps := ⟨d.rs.length, fun i => (d.rep i).tick.toNat, fun i x => saysD D d.c (d.rep i) x⟩
def crsD (D : Nat → Nat → Nat) (d : Dis) (p : Nat → Int) : Crs := ⟨d.c.depth.length, fun x y => decide ((D x y : Int) ≤ d.pc), d.c.tide.length, fun t x => (rpsD D d).cost d.may p t x, 1200⟩
theorem sum_congr {r r' : Rps} {p : Nat → Int} {t x : Nat} : ∀ {m : Nat}, (∀ i, i < m → r.off t x i = r'.off t x i) → r.sum p t x m = r'.sum p t x m
  | 0, _ => rfl
  | m + 1, h => by
    unfold Rps.sum
    rw [h m (by omega), sum_congr fun i hi => h i (by omega)]
theorem crsD_same {D : Nat → Nat → Nat} {d : Dis} (hD : ∀ a x, a < d.c.depth.length → x < d.c.depth.length → dst d.c.W d.c.H a x = D a x) (hr : ∀ i, i < d.rs.length → (d.rep i).cell.toNat < d.c.depth.length) (p : Nat → Int) : (d.crs p).Same (crsD D d p) := by
  refine ⟨rfl, rfl, fun x y hx hy => ?_, fun t x hx => ?_⟩
  · have hx' : x < d.c.depth.length := hx
    have hy' : y < d.c.depth.length := hy
    show (decide (x < d.c.depth.length ∧ y < d.c.depth.length) && decide ((dst d.c.W d.c.H x y : Int) ≤ d.pc)) = decide ((D x y : Int) ≤ d.pc)
    rw [decide_eq_true ⟨hx', hy'⟩, Bool.true_and, hD x y hx' hy']
  · have hx' : x < d.c.depth.length := hx
    show d.rps.cost d.may p t x = (rpsD D d).cost d.may p t x
    unfold Rps.cost
    rw [show d.rps.sum p t x d.rps.m = (rpsD D d).sum p t x (rpsD D d).m from sum_congr fun i hi => ?_]
    show (decide ((d.rep i).tick.toNat = t) && !saysB d.c (d.rep i) x) = (decide ((d.rep i).tick.toNat = t) && !saysD D d.c (d.rep i) x)
    rw [saysD_eq, saysD_congr (hD _ x (hr i hi) hx')]
def exRs : List Rep := [⟨0, 1, 0, 1, 2, 0, 0, false, 2⟩, ⟨1, 2, 8, 1, -1, 1, 0, false, 4⟩, ⟨2, 3, 0, 2, 2, 0, 3, false, 1⟩]
def exR4 : Rep := ⟨1, 1, 11, 0, 0, 0, 0, false, 3⟩
def exD : Dis := ⟨exC, 5, 1, exRs⟩
def exE : Dis := ⟨exC, 5, 1, exRs ++ [exR4]⟩
theorem exD_E : exD.E = 0 := by
  unfold Dis.E
  rw [show exD.c = exC from rfl, (okB_iff _).2 exC_ok, if_pos rfl, if_pos (by decide)]
theorem exE_E : exE.E = 0 := by
  unfold Dis.E
  rw [show exE.c = exC from rfl, (okB_iff _).2 exC_ok, if_pos rfl, if_pos (by decide)]
theorem exD_same (p : Nat → Int) : (exD.crs p).Same (crsD exT exD p) := crsD_same (D := exT) (d := exD) (fun a x ha hx => ex_dst ha hx) (by decide) p
theorem exE_same (p : Nat → Int) : (exE.crs p).Same (crsD exT exE p) := crsD_same (D := exT) (d := exE) (fun a x ha hx => ex_dst ha hx) (by decide) p
theorem exD_least : (exD.crs pAll).least < NV := by rw [(exD_same pAll).least]; decide +kernel
theorem exD_first : (exD.crs pAll).first = [1, 5, 9, 4, 0] := by rw [(exD_same pAll).first]; decide +kernel
theorem exE_doubt : (exE.crs exE.pDbt).least = 2 := by rw [(exE_same _).least]; decide +kernel
theorem exE_can (S : Nat) : exE.canB S = decide ((crsD exT exE (pSome S)).least < NV) := by
  unfold Dis.canB
  rw [(exE_same _).least]
theorem exE_conf : fstL (fun y => !exE.canB (orS 0 y)) 4 = some [0, 3] := by
  have : (fun y => !exE.canB (orS 0 y)) = fun y => !decide ((crsD exT exE (pSome (orS 0 y))).least < NV) := by
    funext y
    rw [exE_can]
  rw [this]
  decide +kernel
end Go.Proofs.YtaloedccoadedaaDoor

namespace Go.Proofs.YtaloedccoadedaaDoor
open Go.RowKit Go.SX
set_option maxRecDepth 20000
set_option maxHeartbeats 0
set_option linter.unusedSimpArgs false
set_option linter.unusedVariables false
theorem rcheck3_fn (w : World) (hw : Ways w) (v : Value) (d : Dis) (hd : DsOk w v d) (hsm : d.small) : SX.Fn Tryd.prog 14 [v] w (fun _ => False) fun q N => q = I d.E := by
  have hisr := fun (hok : d.c.ok) (r : Rep) (H : List HO) w' (hp : Hp ⟨w, fun _ => False⟩ H w') => isReport_fn w' (hw.hp hp) v v d (hd.hp hp) hok hsm r
  obtain ⟨c, dr, pc, rs⟩ := d
  obtain ⟨sD, sT, sS, sR, rfl, hc, hsR⟩ := hd
  have hD := detU_ok (X := fun _ => False) hw hc (fun _ _ => id)
  have hck := (detU_check (v := .agg #[I c.wide, I c.high, sD, sT, sS]) hsm.1).2
  have hU := detU_eq (.agg #[I c.wide, I c.high, sD, sT, sS]) c
  have hrl : rs.length ≤ 20 := hsm.2
  obtain ⟨aR, nR, cR, rfl⟩ := hsR.shape
  have hnR := hsR.le rpc_len (by omega)
  subst hnR
  have dn : ∀ xs, detU (.agg #[I c.wide, I c.high, sD, sT, sS]) c 45 xs = none := fun _ => rfl
  unfold Dis.E Dis.valB Dis.numB
  simp only [] at hsR hisr ⊢
  refine walkC [7] [] [] hD Tryd.func14 rfl Tryd.ntmps14 res14 (by kernel_rfl) no_facts ?_
  cases hok : c.okB with
  | false =>
    rw [hok] at hck
    simp (config := { maxSteps := 4000000 }) only [↓sx0, ↓sx1, ↓sx2, ↓sx3, ↓sx4, ↓sx5, ↓sx6, sx0, sx1, sx2, sx3, sx4, sx5, sx6, tf14, ev3_hold, sxo, sxc, sxp, sxq, sxr, sxs, sxl, sxm, simprocAttr, hck]
    all_goals rfl
  | true =>
  rw [hok] at hck
  have hisr := hisr ((okB_iff c).1 hok)
  simp (config := { maxSteps := 4000000 }) only [↓sx0, ↓sx1, ↓sx2, ↓sx3, ↓sx4, ↓sx5, ↓sx6, sx0, sx1, sx2, sx3, sx4, sx5, sx6, tf14, ev3_hold, sxo, sxc, sxp, sxq, sxr, sxs, sxl, sxm, simprocAttr, hck]
  refine cut_const [(8, 23)] (fun _ : Unit => [(23, .bool (!(inB dr 1 100 && inB pc 0 5 && decide (rs.length ≤ 12))))]) (fun _ H2 => H2 = []) ?_ ?_
  · cases h1 : inB dr 1 100 with
    | false =>
      simp (config := { maxSteps := 4000000 }) only [↓sx0, ↓sx1, ↓sx2, ↓sx3, ↓sx4, ↓sx5, ↓sx6, sx0, sx1, sx2, sx3, sx4, sx5, sx6, tf14, ev3_hold, sxo, sxc, sxp, sxq, sxr, sxs, sxl, sxm, simprocAttr, hU, h1]
      exact ⟨(), _, HImp.refl _ _, rfl⟩
    | true =>
    cases h2 : inB pc 0 5 with
    | false =>
      simp (config := { maxSteps := 4000000 }) only [↓sx0, ↓sx1, ↓sx2, ↓sx3, ↓sx4, ↓sx5, ↓sx6, sx0, sx1, sx2, sx3, sx4, sx5, sx6, tf14, ev3_hold, sxo, sxc, sxp, sxq, sxr, sxs, sxl, sxm, simprocAttr, hU, h1, h2]
      exact ⟨(), _, HImp.refl _ _, rfl⟩
    | true =>
    by_cases h3 : rs.length ≤ 12
    · have p1 : ((rs.length : Int) > 12) = False := eq_false (by omega)
      simp (config := { maxSteps := 4000000 }) only [↓sx0, ↓sx1, ↓sx2, ↓sx3, ↓sx4, ↓sx5, ↓sx6, sx0, sx1, sx2, sx3, sx4, sx5, sx6, tf14, ev3_hold, sxo, sxc, sxp, sxq, sxr, sxs, sxl, sxm, simprocAttr, hU, h1, h2, p1]
      first | exact ⟨(), _, HImp.refl _ _, rfl⟩ | exact ⟨(), _, by simp [h3], HImp.refl _ _, rfl⟩
    · have p1 : ((rs.length : Int) > 12) = True := eq_true (by omega)
      simp (config := { maxSteps := 4000000 }) only [↓sx0, ↓sx1, ↓sx2, ↓sx3, ↓sx4, ↓sx5, ↓sx6, sx0, sx1, sx2, sx3, sx4, sx5, sx6, tf14, ev3_hold, sxo, sxc, sxp, sxq, sxr, sxs, sxl, sxm, simprocAttr, hU, h1, h2, p1]
      first | exact ⟨(), _, HImp.refl _ _, rfl⟩ | exact ⟨(), _, by simp [h3], HImp.refl _ _, rfl⟩
  rintro _ H2 g2 rfl
  cases hn : (inB dr 1 100 && inB pc 0 5 && decide (rs.length ≤ 12)) with
  | false =>
    simp (config := { maxSteps := 4000000 }) only [↓sx0, ↓sx1, ↓sx2, ↓sx3, ↓sx4, ↓sx5, ↓sx6, sx0, sx1, sx2, sx3, sx4, sx5, sx6, tf14, ev3_hold, sxo, sxc, sxp, sxq, sxr, sxs, sxl, sxm, simprocAttr]
    all_goals rfl
  | true =>
  have hr0 := hsR.rd0
  simp (config := { maxSteps := 4000000 }) only [↓sx0, ↓sx1, ↓sx2, ↓sx3, ↓sx4, ↓sx5, ↓sx6, sx0, sx1, sx2, sx3, sx4, sx5, sx6, tf14, ev3_hold, sxo, sxc, sxp, sxq, sxr, sxs, sxl, sxm, simprocAttr]
  refine loop_constH [] (HImp.nil _ _) [(2, 3), (24, 38)] (fun i : Nat => [(3, I i)]) (fun i H1 => i ≤ rs.length ∧ (rs.take i).all (repB c) = true) (fun i => rs.length - i) 0 ?_ ⟨by omega, rfl⟩ ?_
  · simp (config := { maxSteps := 4000000 }) only [↓sx0, ↓sx1, ↓sx2, ↓sx3, ↓sx4, ↓sx5, ↓sx6, sx0, sx1, sx2, sx3, sx4, sx5, sx6, tf14, ev3_hold, sxo, sxc, sxp, sxq, sxr, sxs, sxl, sxm, simprocAttr]
    try simp
  rintro i H1 g1 ⟨hi, hall⟩
  by_cases hin : i = rs.length
  · have e7 : ((i : Int) < (rs.length : Int)) = False := eq_false (by omega)
    rw [List.take_of_length_le (by omega)] at hall
    rw [hall]
    refine ⟨?_⟩
    simp (config := { maxSteps := 4000000 }) only [↓sx0, ↓sx1, ↓sx2, ↓sx3, ↓sx4, ↓sx5, ↓sx6, sx0, sx1, sx2, sx3, sx4, sx5, sx6, tf14, ev3_hold, sxo, sxc, sxp, sxq, sxr, sxs, sxl, sxm, simprocAttr, e7]
    all_goals rfl
  have e7 : ((i : Int) < (rs.length : Int)) = True := eq_true (by omega)
  have e8 : wr (i + 1) = ((i + 1 : Nat) : Int) := (wrap_id (by omega)).trans (by omega)
  obtain ⟨r, hr⟩ : ∃ r, rs[i]? = some r := ⟨_, List.getElem?_eq_getElem (by omega)⟩
  have hyes := fun hp : repB c r = true => all_take hall hr hp
  have hno := fun hp : repB c r = false => all_not (p := repB c) hr hp
  have hisr := fun (H : List HO) => hisr r H
  obtain ⟨B, hB⟩ : ∃ B, repB c r = B := ⟨_, rfl⟩
  rw [hB] at hyes hno
  simp only [hB] at hisr
  obtain ⟨x1, x2, x3, x4, x5, x6, x7, s, x9⟩ := r
  unfold rpv at hisr
  refine ⟨?_⟩
  simp (config := { maxSteps := 4000000 }) only [↓sx0, ↓sx1, ↓sx2, ↓sx3, ↓sx4, ↓sx5, ↓sx6, sx0, sx1, sx2, sx3, sx4, sx5, sx6, tf14, ev3_hold, sxo, sxc, sxp, sxq, sxr, sxs, sxl, sxm, simprocAttr, e7]
  refine amid (at_n (hr0 _) rpc_len (by omega) hr fun ad => ?_)
  unfold rpc
  simp (config := { maxSteps := 4000000 }) only [↓sx0, ↓sx1, ↓sx2, ↓sx3, ↓sx4, ↓sx5, ↓sx6, sx0, sx1, sx2, sx3, sx4, sx5, sx6, tf14, ev3_hold, sxo, sxc, sxp, sxq, sxr, sxs, sxl, sxm, simprocAttr, dn]
  refine CallOb.pureH (fun w' hp => hisr _ w' hp) ?_
  rintro q N rfl
  cases B with
  | false =>
    rw [hno rfl]
    refine ⟨?_⟩
    simp (config := { maxSteps := 4000000 }) only [↓sx0, ↓sx1, ↓sx2, ↓sx3, ↓sx4, ↓sx5, ↓sx6, sx0, sx1, sx2, sx3, sx4, sx5, sx6, tf14, ev3_hold, sxo, sxc, sxp, sxq, sxr, sxs, sxl, sxm, simprocAttr]
    all_goals rfl
  | true =>
    have hy := hyes rfl
    refine ⟨?_⟩
    simp (config := { maxSteps := 4000000 }) only [↓sx0, ↓sx1, ↓sx2, ↓sx3, ↓sx4, ↓sx5, ↓sx6, sx0, sx1, sx2, sx3, sx4, sx5, sx6, tf14, ev3_hold, sxo, sxc, sxp, sxq, sxr, sxs, sxl, sxm, simprocAttr, e8]
    exact ⟨i + 1, _, rfl, HImp.nil _ _, ⟨by omega, hy⟩, by omega⟩
def Dis.few (d : Dis) : Prop := d.c.few ∧ d.rs.length ≤ 14 ∧ (d.E = 0 → d.c.depth.length ≤ 20 ∧ d.c.tide.length ≤ 6 ∧ d.rs.length ≤ 6)
theorem Dis.few.small {d : Dis} (h : d.few) : d.small := ⟨few_small h.1, by have := h.2.1; omega⟩
theorem vague_fn (w : World) (hw : Ways w) (v : Value) (d : Dis) (hd : DsOk w v d) : SX.Fn Tryd.prog 13 [v] w (fun _ => False) fun q N => ∃ b, q = .bool b ∧ (b = false → d.few) := by
  have hck := fun (hsm : d.small) (H : List HO) w' (hp : Hp ⟨w, fun _ => False⟩ H w') => rcheck3_fn w' (hw.hp hp) v d (hd.hp hp) hsm
  obtain ⟨sD, sT, sS, sR, rfl, hc, hsR⟩ := hd
  have hv := fun (H : List HO) w' (hp : Hp ⟨w, fun _ => False⟩ H w') => vast_fn w' _ d.c (hc.hp hp)
  obtain ⟨_, _, _, hh, hsD, hsT, hsS⟩ := hc
  cases hh
  obtain ⟨aD, nD, cD, rfl⟩ := hsD.shape
  obtain ⟨aT, nT, cT, rfl⟩ := hsT.shape
  obtain ⟨aR, nR, cR, rfl⟩ := hsR.shape
  have hnD := hsD.le i1_len (by omega)
  have hnT := hsT.le spc_len (by omega)
  have hnR := hsR.le rpc_len (by omega)
  subst hnD hnT hnR
  have dn : ∀ (g : Nat) (xs : List Value), det0 g xs = none := fun _ _ => rfl
  refine walk [] [] (det0_ok _ _) Tryd.func13 rfl Tryd.ntmps13 res13 (by kernel_rfl) no_facts ?_
  simp (config := { maxSteps := 4000000 }) only [↓sx0, ↓sx1, ↓sx2, ↓sx3, ↓sx4, ↓sx5, ↓sx6, sx0, sx1, sx2, sx3, sx4, sx5, sx6, tf13, ev3_hold, sxo, sxc, sxp, sxq, sxr, sxs, sxl, sxm, simprocAttr, dn]
  refine CallOb.pureH (fun w' hp => hv _ w' hp) ?_
  rintro q N ⟨b, rfl, hb⟩
  cases b with
  | true =>
    refine ⟨?_⟩
    simp (config := { maxSteps := 4000000 }) only [↓sx0, ↓sx1, ↓sx2, ↓sx3, ↓sx4, ↓sx5, ↓sx6, sx0, sx1, sx2, sx3, sx4, sx5, sx6, tf13, ev3_hold, sxo, sxc, sxp, sxq, sxr, sxs, sxl, sxm, simprocAttr]
    first | exact fun h => (by cases h) | exact ⟨true, rfl, fun h => by cases h⟩
  | false =>
  obtain ⟨hfew, hdim⟩ := hb rfl
  by_cases h1 : d.rs.length ≤ 14
  case neg =>
    have p1 : ((d.rs.length : Int) > 14) = True := eq_true (by omega)
    refine ⟨?_⟩
    simp (config := { maxSteps := 4000000 }) only [↓sx0, ↓sx1, ↓sx2, ↓sx3, ↓sx4, ↓sx5, ↓sx6, sx0, sx1, sx2, sx3, sx4, sx5, sx6, tf13, ev3_hold, sxo, sxc, sxp, sxq, sxr, sxs, sxl, sxm, simprocAttr, p1]
    first | exact fun h => (by cases h) | exact ⟨true, rfl, fun h => by cases h⟩
  have p1 : ((d.rs.length : Int) > 14) = False := eq_false (by omega)
  have hsm : d.small := ⟨few_small hfew, by omega⟩
  have hck := hck hsm
  by_cases hE : d.E = 0
  case neg =>
    have p2 : (d.E = 0) = False := eq_false hE
    refine ⟨?_⟩
    simp (config := { maxSteps := 4000000 }) only [↓sx0, ↓sx1, ↓sx2, ↓sx3, ↓sx4, ↓sx5, ↓sx6, sx0, sx1, sx2, sx3, sx4, sx5, sx6, tf13, ev3_hold, sxo, sxc, sxp, sxq, sxr, sxs, sxl, sxm, simprocAttr, p1, dn]
    refine CallOb.pureH (fun w' hp => hck _ w' hp) ?_
    rintro q N2 rfl
    refine ⟨?_⟩
    simp (config := { maxSteps := 4000000 }) only [↓sx0, ↓sx1, ↓sx2, ↓sx3, ↓sx4, ↓sx5, ↓sx6, sx0, sx1, sx2, sx3, sx4, sx5, sx6, tf13, ev3_hold, sxo, sxc, sxp, sxq, sxr, sxs, sxl, sxm, simprocAttr, p2]
    first | exact ⟨hfew, h1, fun h => absurd h hE⟩ | exact ⟨false, rfl, fun _ => ⟨hfew, h1, fun h => absurd h hE⟩⟩
  have p2 : (d.E = 0) = True := eq_true hE
  obtain ⟨hok, _⟩ := Dis.E_zero hE
  have hwh : (d.c.depth.length : Int) = d.c.wide * d.c.high := hok.2.2.1
  have h200 := hsm.1.1
  have ewh : IntKind.i64.wrap (d.c.wide * d.c.high) = (d.c.depth.length : Int) := by rw [← hwh]; exact wrap_id (by omega)
  refine ⟨?_⟩
  simp (config := { maxSteps := 4000000 }) only [↓sx0, ↓sx1, ↓sx2, ↓sx3, ↓sx4, ↓sx5, ↓sx6, sx0, sx1, sx2, sx3, sx4, sx5, sx6, tf13, ev3_hold, sxo, sxc, sxp, sxq, sxr, sxs, sxl, sxm, simprocAttr, p1, dn]
  refine CallOb.pureH (fun w' hp => hck _ w' hp) ?_
  rintro q N2 rfl
  by_cases q1 : d.c.depth.length > 20
  · have p3 : ((d.c.depth.length : Int) > 20) = True := eq_true (by omega)
    refine ⟨?_⟩
    simp (config := { maxSteps := 4000000 }) only [↓sx0, ↓sx1, ↓sx2, ↓sx3, ↓sx4, ↓sx5, ↓sx6, sx0, sx1, sx2, sx3, sx4, sx5, sx6, tf13, ev3_hold, sxo, sxc, sxp, sxq, sxr, sxs, sxl, sxm, simprocAttr, p2, ewh, p3]
    first | exact fun h => (by cases h) | exact ⟨true, rfl, fun h => by cases h⟩
  have p3 : ((d.c.depth.length : Int) > 20) = False := eq_false (by omega)
  by_cases q2 : d.c.tide.length > 6
  · have p4 : ((d.c.tide.length : Int) > 6) = True := eq_true (by omega)
    refine ⟨?_⟩
    simp (config := { maxSteps := 4000000 }) only [↓sx0, ↓sx1, ↓sx2, ↓sx3, ↓sx4, ↓sx5, ↓sx6, sx0, sx1, sx2, sx3, sx4, sx5, sx6, tf13, ev3_hold, sxo, sxc, sxp, sxq, sxr, sxs, sxl, sxm, simprocAttr, p2, ewh, p3, p4]
    first | exact fun h => (by cases h) | exact ⟨true, rfl, fun h => by cases h⟩
  have p4 : ((d.c.tide.length : Int) > 6) = False := eq_false (by omega)
  by_cases q3 : d.rs.length > 6
  · have p5 : ((d.rs.length : Int) > 6) = True := eq_true (by omega)
    refine ⟨?_⟩
    simp (config := { maxSteps := 4000000 }) only [↓sx0, ↓sx1, ↓sx2, ↓sx3, ↓sx4, ↓sx5, ↓sx6, sx0, sx1, sx2, sx3, sx4, sx5, sx6, tf13, ev3_hold, sxo, sxc, sxp, sxq, sxr, sxs, sxl, sxm, simprocAttr, p2, ewh, p3, p4, p5]
    first | exact fun h => (by cases h) | exact ⟨true, rfl, fun h => by cases h⟩
  have p5 : ((d.rs.length : Int) > 6) = False := eq_false (by omega)
  refine ⟨?_⟩
  simp (config := { maxSteps := 4000000 }) only [↓sx0, ↓sx1, ↓sx2, ↓sx3, ↓sx4, ↓sx5, ↓sx6, sx0, sx1, sx2, sx3, sx4, sx5, sx6, tf13, ev3_hold, sxo, sxc, sxp, sxq, sxr, sxs, sxl, sxm, simprocAttr, p2, ewh, p3, p4, p5]
  have hres : d.few := ⟨hfew, h1, fun _ => ⟨by omega, by omega, by omega⟩⟩
  first | exact hres | exact ⟨false, rfl, fun _ => hres⟩ | exact ⟨_, rfl, fun _ => hres⟩
def DsN (q : Value) (d : Dis) (N : List HO) : Prop := ∃ x y z u, q = .agg #[I d.c.wide, I d.c.high, x, y, z, I d.dr, I d.pc, u] ∧ Got x 3 1 i1 d.c.depth N ∧ Got y 58 2 spc d.c.tide N ∧ Got z 3 1 i1 d.c.swell N ∧ (∃ ad c, u = .slice ad d.rs.length c ∧ (ad = none → d.rs = []) ∧ HO.row (.slice ad d.rs.length c) 47 9 (cat rpc d.rs) ∈ N)
theorem DsN.ok {q : Value} {d : Dis} {N H : List HO} (h : DsN q d N) (hm : ∀ h ∈ N, h ∈ H) {w0 : Base} {w : World} (hp : Hp w0 H w) : DsOk w q d := by
  obtain ⟨x, y, z, u, rfl, h1, h2, h3, ad, c, rfl, _, h4⟩ := h
  exact ⟨_, _, _, _, rfl, ⟨_, _, _, rfl, h1.hp hm hp, h2.hp hm hp, h3.hp hm hp⟩, row_hp (hm _ h4) hp⟩
theorem copy3_fn (w : World) (v : Value) (d : Dis) (hd : DsOk w v d) (hf : d.few) : SX.Fn Tryd.prog 20 [v] w (fun _ => False) fun q N => DsN q d N := by
  obtain ⟨sD, sT, sS, sR, rfl, hc, hsR⟩ := hd
  have hcp := fun (H : List HO) w' (hp : Hp ⟨w, fun _ => False⟩ H w') => copy_fn w' _ d.c (hc.hp hp) hf.1
  obtain ⟨aR, nR, cR, rfl⟩ := hsR.shape
  have hnR := hsR.le rpc_len (by omega)
  subst hnR
  have h14 := hf.2.1
  have dn : ∀ (g : Nat) (xs : List Value), det0 g xs = none := fun _ _ => rfl
  refine walk [] [] (det0_ok _ _) Tryd.func20 rfl Tryd.ntmps20 res20 (by kernel_rfl) no_facts ?_
  simp (config := { maxSteps := 4000000 }) only [↓sx0, ↓sx1, ↓sx2, ↓sx3, ↓sx4, ↓sx5, ↓sx6, sx0, sx1, sx2, sx3, sx4, sx5, sx6, tf20, ev3_hold, sxo, sxc, sxp, sxq, sxr, sxs, sxl, sxm, simprocAttr, dn]
  refine CallOb.pureH (fun w' hp => hcp _ w' hp) ?_
  rintro q N ⟨x, y, z, rfl, h1, h2, h3⟩
  obtain ⟨ax, cx, rfl⟩ := h1.shape
  obtain ⟨ay, cy, rfl⟩ := h2.shape
  obtain ⟨az, cz, rfl⟩ := h3.shape
  refine ⟨?_⟩
  simp (config := { maxSteps := 4000000 }) only [↓sx0, ↓sx1, ↓sx2, ↓sx3, ↓sx4, ↓sx5, ↓sx6, sx0, sx1, sx2, sx3, sx4, sx5, sx6, tf20, ev3_hold, sxo, sxc, sxp, sxq, sxr, sxs, sxl, sxm, simprocAttr]
  intro b1
  refine app_at (l := ([] : List Rep)) (m := d.rs) (HImp.refl _ _) rpc_len rpc_one (fun w' hp => hsR.hp (fun _ _ => id) hp) (by simp; omega) fun a1 c1 h4 => ?_
  simp (config := { maxSteps := 4000000 }) only [↓sx0, ↓sx1, ↓sx2, ↓sx3, ↓sx4, ↓sx5, ↓sx6, sx0, sx1, sx2, sx3, sx4, sx5, sx6, tf20, ev3_hold, sxo, sxc, sxp, sxq, sxr, sxs, sxl, sxm, simprocAttr]
  exact ⟨_, _, _, _, rfl, h1.mono (by simp +contextual), h2.mono (by simp +contextual), h3.mono (by simp +contextual), _, _, rfl, fun h => (h4 h).2, by simp⟩
theorem takeOut {w0 : Base} {N : List HO} {r : HO} (h : r ∈ N) : ∃ A, (∀ M R, HImp w0 (M ++ (N ++ R)) (r :: (M ++ (A ++ R)))) ∧ ∀ h' ∈ N, h' ≠ r → h' ∈ A := by
  obtain ⟨A, B, rfl⟩ := List.append_of_mem h
  refine ⟨A ++ B, fun M R => ?_, fun h' hh hne => ?_⟩
  · refine HImp.perm ?_
    rw [List.append_assoc A, List.append_assoc A, ← List.append_assoc M, ← List.append_assoc M, List.cons_append]
    exact List.perm_middle
  · rcases List.mem_append.1 hh with h1 | h1
    · exact List.mem_append_left _ h1
    · rcases List.mem_cons.1 h1 with h2 | h2
      · exact absurd h2 hne
      · exact List.mem_append_right _ h2
theorem DsN.more {w0 : Base} {q : Value} {d : Dis} {N : List HO} (h : DsN q d N) : ∃ ax cx ay cy az cz ad c A, q = .agg #[I d.c.wide, I d.c.high, .slice ax d.c.depth.length cx, .slice ay d.c.tide.length cy, .slice az d.c.swell.length cz, I d.dr, I d.pc, .slice ad d.rs.length c] ∧ (∀ M R, HImp w0 (M ++ (N ++ R)) (HO.row (.slice ad d.rs.length c) 47 9 (cat rpc d.rs) :: (M ++ (A ++ R)))) ∧
    ∀ (u : Value) (rs : List Rep) (H : List HO), (∃ ad c, u = .slice ad rs.length c ∧ (ad = none → rs = []) ∧ HO.row (.slice ad rs.length c) 47 9 (cat rpc rs) ∈ H) → (∀ h ∈ A, h ∈ H) → DsN (.agg #[I d.c.wide, I d.c.high, .slice ax d.c.depth.length cx, .slice ay d.c.tide.length cy, .slice az d.c.swell.length cz, I d.dr, I d.pc, u]) ⟨d.c, d.dr, d.pc, rs⟩ H := by
  obtain ⟨x, y, z, u, rfl, h1, h2, h3, ad, c, rfl, _, h4⟩ := h
  obtain ⟨A, hA1, hA2⟩ := takeOut (w0 := w0) h4
  have hg : ∀ {α : Type} {v : Value} {e sz : Nat} {f : α → List Value} {l : List α} (H : List HO), e ≠ 47 → Got v e sz f l N → (∀ h ∈ A, h ∈ H) → Got v e sz f l H := fun {α v e sz f l} H he hG hm => by
    obtain ⟨a, c, k1, k2, k3⟩ := hG
    refine ⟨a, c, k1, k2, k3.elim .inl fun k => .inr (hm _ (hA2 _ k fun e2 => he ?_))⟩
    injection e2
  obtain ⟨ax, cx, rfl⟩ := h1.shape
  obtain ⟨ay, cy, rfl⟩ := h2.shape
  obtain ⟨az, cz, rfl⟩ := h3.shape
  exact ⟨ax, cx, ay, cy, az, cz, ad, c, A, rfl, hA1, fun u rs H hu hm => ⟨_, _, _, u, rfl, hg H (by decide) h1 hm, hg H (by decide) h2 hm, hg H (by decide) h3 hm, hu⟩⟩
end Go.Proofs.YtaloedccoadedaaDoor

namespace Go.Proofs.YtaloedccoadedaaDoor
open Go.RowKit Go.SX
set_option maxRecDepth 20000
set_option maxHeartbeats 0
set_option linter.unusedSimpArgs false
set_option linter.unusedVariables false
theorem same3_fn (w : World) (v v' : Value) (l m : List Int) (hs : Sl w v 1 (ints l)) (hs' : Sl w v' 1 (ints m)) (hb : l.length ≤ 1099511627776) : SX.Fn Tryd.prog 24 [v, v'] w (fun _ => False) fun r N => r = .bool (decide (l = m)) := by
  obtain ⟨a, n, c, rfl⟩ := hs.shape
  obtain ⟨a', n', c', rfl⟩ := hs'.shape
  have hn := hs.le i1_len (by omega)
  have hn' := hs'.le i1_len (by omega)
  subst hn hn'
  have hr := hs.rd0
  have hr' := hs'.rd0
  refine walk [] [] (det0_ok _ _) Tryd.func24 rfl Tryd.ntmps24 res24 (by kernel_rfl) no_facts ?_
  by_cases hl : l.length = m.length
  case neg =>
    have e1 : ((l.length : Int) = (m.length : Int)) = False := eq_false (by omega)
    simp (config := { maxSteps := 4000000 }) only [↓sx0, ↓sx1, ↓sx2, ↓sx3, ↓sx4, ↓sx5, ↓sx6, sx0, sx1, sx2, sx3, sx4, sx5, sx6, tf24, ev3_hold, sxo, sxc, sxp, sxq, sxr, sxs, sxl, sxm, simprocAttr, e1]
    rw [decide_eq_false fun h => hl (by rw [h])]
  have e1 : ((l.length : Int) = (m.length : Int)) = True := eq_true (by omega)
  simp (config := { maxSteps := 4000000 }) only [↓sx0, ↓sx1, ↓sx2, ↓sx3, ↓sx4, ↓sx5, ↓sx6, sx0, sx1, sx2, sx3, sx4, sx5, sx6, tf24, ev3_hold, sxo, sxc, sxp, sxq, sxr, sxs, sxl, sxm, simprocAttr, e1]
  refine loop_constH [] (HImp.nil _ _) [(4, 5), (11, 25)] (fun k : Nat => [(5, I k)]) (fun k H1 => H1 = [] ∧ k ≤ l.length ∧ (l = m ↔ l.drop k = m.drop k)) (fun k => l.length - k) 0 ?_ ⟨rfl, Nat.zero_le _, Iff.rfl⟩ ?_
  · simp (config := { maxSteps := 4000000 }) only [↓sx0, ↓sx1, ↓sx2, ↓sx3, ↓sx4, ↓sx5, ↓sx6, sx0, sx1, sx2, sx3, sx4, sx5, sx6, tf24, ev3_hold, sxo, sxc, sxp, sxq, sxr, sxs, sxl, sxm, simprocAttr]
    try simp
  rintro k H1 g ⟨rfl, hk, ht⟩
  by_cases hkn : k = l.length
  · have e7 : ((k : Int) < (l.length : Int)) = False := eq_false (by omega)
    refine ⟨?_⟩
    simp (config := { maxSteps := 4000000 }) only [↓sx0, ↓sx1, ↓sx2, ↓sx3, ↓sx4, ↓sx5, ↓sx6, sx0, sx1, sx2, sx3, sx4, sx5, sx6, tf24, ev3_hold, sxo, sxc, sxp, sxq, sxr, sxs, sxl, sxm, simprocAttr, e7]
    rw [decide_eq_true (ht.2 (by rw [List.drop_of_length_le (by omega), List.drop_of_length_le (by omega)]))]
  have e7 : ((k : Int) < (l.length : Int)) = True := eq_true (by omega)
  have e2 : wr ((k : Int) + 1) = ((k + 1 : Nat) : Int) := (wrap_id (by omega)).trans (by omega)
  have e8 : ((k : Int) < (m.length : Int)) = True := eq_true (by omega)
  have hkl : k < l.length := by omega
  have hkm : k < m.length := by omega
  rw [List.drop_eq_getElem_cons hkl, List.drop_eq_getElem_cons hkm, List.cons.injEq] at ht
  by_cases hx : l[k] = m[k]
  · have e3 : (l[k] = m[k]) = True := eq_true hx
    refine ⟨?_⟩
    simp (config := { maxSteps := 4000000 }) only [↓sx0, ↓sx1, ↓sx2, ↓sx3, ↓sx4, ↓sx5, ↓sx6, sx0, sx1, sx2, sx3, sx4, sx5, sx6, tf24, ev3_hold, sxo, sxc, sxp, sxq, sxr, sxs, sxl, sxm, simprocAttr, e7]
    refine amid (at_1 (hr _) i1_len (List.getElem?_eq_getElem hkl) rfl fun ad => ?_)
    simp (config := { maxSteps := 4000000 }) only [↓sx0, ↓sx1, ↓sx2, ↓sx3, ↓sx4, ↓sx5, ↓sx6, sx0, sx1, sx2, sx3, sx4, sx5, sx6, tf24, ev3_hold, sxo, sxc, sxp, sxq, sxr, sxs, sxl, sxm, simprocAttr, e8]
    refine amid (at_1 (hr' _) i1_len (List.getElem?_eq_getElem hkm) rfl fun ad' => ?_)
    simp (config := { maxSteps := 4000000 }) only [↓sx0, ↓sx1, ↓sx2, ↓sx3, ↓sx4, ↓sx5, ↓sx6, sx0, sx1, sx2, sx3, sx4, sx5, sx6, tf24, ev3_hold, sxo, sxc, sxp, sxq, sxr, sxs, sxl, sxm, simprocAttr, e3, e2]
    exact ⟨k + 1, _, rfl, HImp.refl _ _, ⟨rfl, by omega, by rw [ht]; simp [hx]⟩, by omega⟩
  · have e3 : (l[k] = m[k]) = False := eq_false hx
    refine ⟨?_⟩
    simp (config := { maxSteps := 4000000 }) only [↓sx0, ↓sx1, ↓sx2, ↓sx3, ↓sx4, ↓sx5, ↓sx6, sx0, sx1, sx2, sx3, sx4, sx5, sx6, tf24, ev3_hold, sxo, sxc, sxp, sxq, sxr, sxs, sxl, sxm, simprocAttr, e7]
    refine amid (at_1 (hr _) i1_len (List.getElem?_eq_getElem hkl) rfl fun ad => ?_)
    simp (config := { maxSteps := 4000000 }) only [↓sx0, ↓sx1, ↓sx2, ↓sx3, ↓sx4, ↓sx5, ↓sx6, sx0, sx1, sx2, sx3, sx4, sx5, sx6, tf24, ev3_hold, sxo, sxc, sxp, sxq, sxr, sxs, sxl, sxm, simprocAttr, e8]
    refine amid (at_1 (hr' _) i1_len (List.getElem?_eq_getElem hkm) rfl fun ad' => ?_)
    simp (config := { maxSteps := 4000000 }) only [↓sx0, ↓sx1, ↓sx2, ↓sx3, ↓sx4, ↓sx5, ↓sx6, sx0, sx1, sx2, sx3, sx4, sx5, sx6, tf24, ev3_hold, sxo, sxc, sxp, sxq, sxr, sxs, sxl, sxm, simprocAttr, e3]
    rw [decide_eq_false]
    rw [ht]
    exact fun h => hx h.1
def exV (b1 b2 b3 b4 : Nat) : Value := .agg #[I 4, I 3, .slice (some ⟨b1, 0, none⟩) 12 12, .slice (some ⟨b2, 0, none⟩) 5 5, .slice (some ⟨b3, 0, none⟩) 5 5, I 5, I 1, .slice (some ⟨b4, 0, none⟩) 3 3]
theorem example3_fn (w : World) : SX.Fn Tryd.prog 46 [] w (fun _ => False) fun q N => ∃ b1 b2 b3 b4, q = .tuple #[exV b1 b2 b3 b4, rpv exR4] ∧ HO.row (.slice (some ⟨b1, 0, none⟩) 12 12) 3 1 (ints exC.depth) ∈ N ∧ HO.row (.slice (some ⟨b2, 0, none⟩) 5 5) 58 2 (cat spc exC.tide) ∈ N ∧ HO.row (.slice (some ⟨b3, 0, none⟩) 5 5) 3 1 (ints exC.swell) ∈ N ∧ HO.row (.slice (some ⟨b4, 0, none⟩) 3 3) 47 9 (cat rpc exRs) ∈ N := by
  have dn : ∀ (g : Nat) (xs : List Value), det0 g xs = none := fun _ _ => rfl
  refine walk [] [] (det0_ok _ _) Tryd.func46 rfl Tryd.ntmps46 res46 (by kernel_rfl) no_facts ?_
  simp (config := { maxSteps := 4000000 }) only [↓sx0, ↓sx1, ↓sx2, ↓sx3, ↓sx4, ↓sx5, ↓sx6, sx0, sx1, sx2, sx3, sx4, sx5, sx6, tf46, ev3_hold, sxo, sxc, sxp, sxq, sxr, sxs, sxl, sxm, simprocAttr, dn]
  refine CallOb.pureH (fun w' hp => example_fn w') ?_
  rintro q N ⟨b1, b2, b3, rfl, h1, h2, h3⟩
  refine ⟨?_⟩
  simp (config := { maxSteps := 4000000 }) only [↓sx0, ↓sx1, ↓sx2, ↓sx3, ↓sx4, ↓sx5, ↓sx6, sx0, sx1, sx2, sx3, sx4, sx5, sx6, tf46, ev3_hold, sxo, sxc, sxp, sxq, sxr, sxs, sxl, sxm, simprocAttr]
  intro b4
  exact ⟨b1, b2, b3, b4, rfl, by simp [h1], by simp [h2], by simp [h3], List.mem_cons_self⟩
theorem works3_fn (w : World) (hw : Ways w) (hb : Deb w) : SX.Fn Tryd.prog 15 [] w (fun _ => False) fun q N => q = .bool true := by
  have dn : ∀ (g : Nat) (xs : List Value), det0 g xs = none := fun _ _ => rfl
  have hsD : exD.small := ⟨exC_small, by decide⟩
  have hsE : exE.small := ⟨exC_small, by decide⟩
  have hEd : (exE.crs exE.pDbt).least < NV := by rw [exE_doubt]; decide
  refine walk [] [] (det0_ok _ _) Tryd.func15 rfl Tryd.ntmps15 res15 (by kernel_rfl) no_facts ?_
  simp (config := { maxSteps := 4000000 }) only [↓sx0, ↓sx1, ↓sx2, ↓sx3, ↓sx4, ↓sx5, ↓sx6, sx0, sx1, sx2, sx3, sx4, sx5, sx6, tf15, ev3_hold, sxo, sxc, sxp, sxq, sxr, sxs, sxl, sxm, simprocAttr, dn]
  refine CallOb.pureH (fun w' hp => example3_fn w') ?_
  rintro q N ⟨b1, b2, b3, b4, rfl, h1, h2, h3, h4⟩
  have hD : ∀ (H : List HO) (w' : World), (∀ h ∈ N, h ∈ H) → Hp ⟨w, fun _ => False⟩ H w' → DsOk w' (exV b1 b2 b3 b4) exD := fun H w' hm hp =>
    ⟨_, _, _, _, rfl, ⟨_, _, _, rfl, row_hp (hm _ h1) hp, row_hp (hm _ h2) hp, row_hp (hm _ h3) hp⟩, row_hp (hm _ h4) hp⟩
  have hco := fun (H : List HO) (hm : ∀ h ∈ N, h ∈ H) w' (hp : Hp ⟨w, fun _ => False⟩ H w') => course_fn w' (hw.hp hp) _ exD (hD H w' hm hp) hsD
  unfold CourseP at hco
  simp only [exD_E, exD_least, if_true, exD_first, and_self] at hco
  unfold exV at hD hco ⊢
  unfold rpv
  refine ⟨?_⟩
  simp (config := { maxSteps := 4000000 }) only [↓sx0, ↓sx1, ↓sx2, ↓sx3, ↓sx4, ↓sx5, ↓sx6, sx0, sx1, sx2, sx3, sx4, sx5, sx6, tf15, ev3_hold, sxo, sxc, sxp, sxq, sxr, sxs, sxl, sxm, simprocAttr, dn]
  refine CallOb.pureH (fun w' hp => hco _ (fun h hh => by simpa using hh) w' hp) ?_
  rintro q N2 ⟨x, rfl, hG⟩
  obtain ⟨ax, cx, rfl⟩ := hG.shape
  obtain ⟨K, hK⟩ : ∃ K, N2 ++ N = K := ⟨_, rfl⟩
  have hNK : ∀ h ∈ N, h ∈ K := fun h hh => by rw [← hK]; simp [hh]
  have hGK := hG.mono (N' := K) (fun h hh => by rw [← hK]; simp [hh])
  rw [hK]
  refine ⟨?_⟩
  simp (config := { maxSteps := 4000000 }) only [↓sx0, ↓sx1, ↓sx2, ↓sx3, ↓sx4, ↓sx5, ↓sx6, sx0, sx1, sx2, sx3, sx4, sx5, sx6, tf15, ev3_hold, sxo, sxc, sxp, sxq, sxr, sxs, sxl, sxm, simprocAttr]
  intro b5
  refine app_ro (f := rpc) (l := exRs) (m := [exR4]) rpc_len (by decide) (fun w' hp => row_hp (E := 47) (List.mem_cons_of_mem _ (hNK _ h4)) hp) (fun w' hp => row_hp (E := 47) List.mem_cons_self hp) (by decide) fun b6 c6 => ?_
  have hE : ∀ (H : List HO) (w' : World), (∀ h ∈ N, h ∈ H) → HO.row (.slice (some ⟨b6, 0, none⟩) 4 c6) 47 9 (cat rpc (exRs ++ [exR4])) ∈ H → Hp ⟨w, fun _ => False⟩ H w' → DsOk w' (.agg #[I 4, I 3, .slice (some ⟨b1, 0, none⟩) 12 12, .slice (some ⟨b2, 0, none⟩) 5 5, .slice (some ⟨b3, 0, none⟩) 5 5, I 5, I 1, .slice (some ⟨b6, 0, none⟩) 4 c6]) exE := fun H w' hm h6 hp =>
    ⟨_, _, _, _, rfl, ⟨_, _, _, rfl, row_hp (hm _ h1) hp, row_hp (hm _ h2) hp, row_hp (hm _ h3) hp⟩, row_hp h6 hp⟩
  have hcf := fun (H : List HO) (hm : ∀ h ∈ N, h ∈ H) h6 w' (hp : Hp ⟨w, fun _ => False⟩ H w') => conflict_fn w' (hw.hp hp) (hb.hp hp) _ exE (hE H w' hm h6 hp) hsE (fun _ => by decide)
  have hdb := fun (H : List HO) (hm : ∀ h ∈ N, h ∈ H) h6 w' (hp : Hp ⟨w, fun _ => False⟩ H w') => doubt3_fn w' (hw.hp hp) _ exE (hE H w' hm h6 hp) hsE
  unfold DoubtP at hdb
  have h2N : ((2 : Int) < NV) = True := eq_true (by decide)
  simp only [exE_E, exE_doubt, h2N, if_true, and_self] at hdb
  have hcP : ∀ q N, ConfP exE q N → ∃ v, q = .tuple #[v, I 0] ∧ Got v 3 1 i1 [0, 3] N := fun q N h => by
    rcases h with ⟨h, _⟩ | ⟨_, h⟩
    · exact absurd exE_E h
    · have e : fstL (notC exE.canB) exE.rs.length = some [0, 3] := exE_conf
      rcases h with ⟨h, _⟩ | ⟨x, v, h, h', h''⟩
      · rw [h] at e; cases e
      · rw [h] at e; cases e
        exact ⟨v, h', h''⟩
  simp (config := { maxSteps := 4000000 }) only [↓sx0, ↓sx1, ↓sx2, ↓sx3, ↓sx4, ↓sx5, ↓sx6, sx0, sx1, sx2, sx3, sx4, sx5, sx6, tf15, ev3_hold, sxo, sxc, sxp, sxq, sxr, sxs, sxl, sxm, simprocAttr, dn]
  refine CallOb.pureH (fun w' hp => hcf _ (fun h hh => by simp [hNK h hh]) List.mem_cons_self w' hp) ?_
  intro q N3 hC
  obtain ⟨v3, rfl, hG3⟩ := hcP q N3 hC
  obtain ⟨a3, c3, rfl⟩ := hG3.shape
  refine ⟨?_⟩
  simp (config := { maxSteps := 4000000 }) only [↓sx0, ↓sx1, ↓sx2, ↓sx3, ↓sx4, ↓sx5, ↓sx6, sx0, sx1, sx2, sx3, sx4, sx5, sx6, tf15, ev3_hold, sxo, sxc, sxp, sxq, sxr, sxs, sxl, sxm, simprocAttr, dn]
  refine CallOb.pureH (fun w' hp => hdb _ (fun h hh => by simp [hNK h hh]) (by simp [show exRs.length = 3 from rfl]) w' hp) ?_
  rintro q N4 ⟨v4, rfl, hG4⟩
  obtain ⟨a4, c4, rfl⟩ := hG4.shape
  have z0 : ((0 : Int) = 0) = True := eq_true rfl
  refine ⟨?_⟩
  simp (config := { maxSteps := 4000000 }) only [↓sx0, ↓sx1, ↓sx2, ↓sx3, ↓sx4, ↓sx5, ↓sx6, sx0, sx1, sx2, sx3, sx4, sx5, sx6, tf15, ev3_hold, sxo, sxc, sxp, sxq, sxr, sxs, sxl, sxm, simprocAttr, dn, z0]
  intro b7
  refine CallOb.pureH (fun w' hp => same3_fn w' _ _ (zs [1, 5, 9, 4, 0]) [1, 5, 9, 4, 0] (hGK.hp (fun h hh => by simp [hh]) hp) (row_hp (E := 3) List.mem_cons_self hp) (by decide)) ?_
  rintro q N5 rfl
  rw [show decide (zs [1, 5, 9, 4, 0] = [1, 5, 9, 4, 0]) = true by decide]
  refine ⟨?_⟩
  simp (config := { maxSteps := 4000000 }) only [↓sx0, ↓sx1, ↓sx2, ↓sx3, ↓sx4, ↓sx5, ↓sx6, sx0, sx1, sx2, sx3, sx4, sx5, sx6, tf15, ev3_hold, sxo, sxc, sxp, sxq, sxr, sxs, sxl, sxm, simprocAttr, dn]
  intro b8
  refine CallOb.pureH (fun w' hp => same3_fn w' _ _ [0, 3] [0, 3] (hG3.hp (fun h hh => by simp [hh]) hp) (row_hp (E := 3) List.mem_cons_self hp) (by decide)) ?_
  rintro q N6 rfl
  rw [show decide (([0, 3] : List Int) = [0, 3]) = true by decide]
  refine ⟨?_⟩
  simp (config := { maxSteps := 4000000 }) only [↓sx0, ↓sx1, ↓sx2, ↓sx3, ↓sx4, ↓sx5, ↓sx6, sx0, sx1, sx2, sx3, sx4, sx5, sx6, tf15, ev3_hold, sxo, sxc, sxp, sxq, sxr, sxs, sxl, sxm, simprocAttr]
end Go.Proofs.YtaloedccoadedaaDoor

