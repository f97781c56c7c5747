/- Parts of a proof: the symbolic walk and what it shows of single functions. -/
import Derived.Test.YtnbogcpnpcbjgaaGreatDoorF6
import Derived.Test.YtnbogcpnpcbjgaaGreatDoorX5
import Derived.Test.YtnbogcpnpcbjgaaGreatDoorC4
import Derived.Test.YtnbogcpnpcbjgaaGreatDoorC3
set_option linter.all false
namespace Go.Proofs.YtnbogcpnpcbjgaaGreatDoor
open Go.RowKit Go.SX
set_option maxRecDepth 10000
set_option maxHeartbeats 4000000
set_option linter.unusedSimpArgs false
set_option linter.unusedVariables false
noncomputable def Dis.g0 (d : Dis) : Crs := d.crs fun _ => 0
end Go.Proofs.YtnbogcpnpcbjgaaGreatDoor

namespace Go.Proofs.YtnbogcpnpcbjgaaGreatDoor
open Go.RowKit Go.SX
set_option maxRecDepth 20000
set_option maxHeartbeats 4000000
set_option linter.unusedSimpArgs false
set_option linter.unusedVariables false
theorem tab_dst {W H : Nat} {f : Nat → Nat → Nat} (h0 : ∀ a, a < W * H → f a a = 0) (h1 : ∀ a y, a < W * H → y < W * H → ∀ z ∈ nbL W H y, f a z ≤ f a y + 1) (h2 : ∀ a x, a < W * H → x < W * H → x = a ∨ ∃ z ∈ nbL W H x, f a z + 1 = f a x) {a x : Nat} (ha : a < W * H) (hx : x < W * H) : dst W H a x = f a x := by
  refine isD_uniq (dst_is ha hx) ⟨?_, fun m hm => ?_⟩
  · have : ∀ n x, x < W * H → f a x = n → Rc W H a n x := fun n => by
      induction n with
      | zero =>
        intro x hx hf
        rcases h2 a x ha hx with rfl | ⟨z, _, hz⟩
        · exact Rc.zero
        · omega
      | succ n ih =>
        intro x hx hf
        rcases h2 a x ha hx with rfl | ⟨z, hz, hzf⟩
        · rw [h0 x ha] at hf
          omega
        · have hzl := nbL_lt hx z hz
          exact Rc.step (ih z hzl (by omega)) (nb_symm hx hz)
    exact this _ x hx rfl
  · have : ∀ {n y}, Rc W H a n y → f a y ≤ n := fun {n y} h => by
      induction h with
      | zero => rw [h0 a ha]; exact Nat.le_refl _
      | step h hy ih =>
        have := h1 a _ ha (Rc.lt ha h) _ hy
        omega
    exact this hm
def exTab : List (List Nat) := [[0, 1, 2, 3, 1, 2, 3, 4, 2, 2, 3, 4], [1, 0, 1, 2, 1, 1, 2, 3, 2, 2, 2, 3], [2, 1, 0, 1, 2, 1, 1, 2, 3, 2, 2, 2], [3, 2, 1, 0, 3, 2, 1, 1, 4, 3, 2, 2], [1, 1, 2, 3, 0, 1, 2, 3, 1, 1, 2, 3], [2, 1, 1, 2, 1, 0, 1, 2, 2, 1, 1, 2], [3, 2, 1, 1, 2, 1, 0, 1, 3, 2, 1, 1], [4, 3, 2, 1, 3, 2, 1, 0, 4, 3, 2, 1], [2, 2, 3, 4, 1, 2, 3, 4, 0, 1, 2, 3], [2, 2, 2, 3, 1, 1, 2, 3, 1, 0, 1, 2], [3, 2, 2, 2, 2, 1, 1, 2, 2, 1, 0, 1], [4, 3, 2, 2, 3, 2, 1, 1, 3, 2, 1, 0]]
def exT (a x : Nat) : Nat := (exTab.getD a []).getD x 0
theorem ex_dst {a x : Nat} (ha : a < 12) (hx : x < 12) : dst 4 3 a x = exT a x := by
  refine tab_dst (W := 4) (H := 3) (f := exT) ?_ ?_ ?_ ha hx
  · decide +kernel
  · have : ∀ a : Fin 12, ∀ y : Fin 12, (nbL 4 3 y.val).all (fun z => decide (exT a.val z ≤ exT a.val y.val + 1)) = true := by decide +kernel
    intro a y ha hy z hz
    have := List.all_eq_true.1 (this ⟨a, ha⟩ ⟨y, hy⟩) z hz
    exact of_decide_eq_true this
  · have : ∀ a : Fin 12, ∀ x : Fin 12, (decide (x.val = a.val) || (nbL 4 3 x.val).any (fun z => decide (exT a.val z + 1 = exT a.val x.val))) = true := by decide +kernel
    intro a x ha hx
    have := this ⟨a, ha⟩ ⟨x, hx⟩
    simp only [Bool.or_eq_true, decide_eq_true_eq, List.any_eq_true] at this
    exact this
def saysD (D : Nat → Nat → Nat) (c : Cht) (r : Rep) (k : Nat) : Bool :=
  if r.kind = 1 then inB (D r.cell.toNat k) r.a r.b
  else if r.kind = 3 then inB ((k / c.W : Nat) : Int) r.a r.b && inB ((k % c.W : Nat) : Int) r.c r.d
  else if r.kind = 4 then decide ((D r.cell.toNat k : Int) > r.a)
  else if (k : Int) = r.cell then false
  else if trn r.a r.b r.c r.d > 0 then decide (trn r.a r.b (cenX c.W k - cenX c.W r.cell.toNat) (cenY c.W k - cenY c.W r.cell.toNat) ≥ 0) && decide (trn (cenX c.W k - cenX c.W r.cell.toNat) (cenY c.W k - cenY c.W r.cell.toNat) r.c r.d ≥ 0)
  else decide (trn r.a r.b (cenX c.W k - cenX c.W r.cell.toNat) (cenY c.W k - cenY c.W r.cell.toNat) = 0) && decide (alg r.a r.b (cenX c.W k - cenX c.W r.cell.toNat) (cenY c.W k - cenY c.W r.cell.toNat) > 0)
theorem saysD_eq (c : Cht) (r : Rep) (k : Nat) : saysB c r k = saysD (dst c.W c.H) c r k := rfl
theorem saysD_congr {D D' : Nat → Nat → Nat} {c : Cht} {r : Rep} {k : Nat} (h : D r.cell.toNat k = D' r.cell.toNat k) : saysD D c r k = saysD D' c r k := by
  unfold saysD
  rw [h]
def rpsD (D : Nat → Nat → Nat) (d : Dis) : Rps := ⟨d.rs.length, fun i => (d.rep i).tick.toNat, fun i x => saysD D d.c (d.rep i) x⟩
def crsD (D : Nat → Nat → Nat) (d : Dis) (p : Nat → Int) : Crs := ⟨d.c.depth.length, fun x y => decide ((D x y : Int) ≤ d.pc), d.c.tide.length, fun t x => (rpsD D d).cost d.may p t x, 1200⟩
theorem sum_congr {r r' : Rps} {p : Nat → Int} {t x : Nat} : ∀ {m : Nat}, (∀ i, i < m → r.off t x i = r'.off t x i) → r.sum p t x m = r'.sum p t x m
  | 0, _ => rfl
  | m + 1, h => by
    unfold Rps.sum
    rw [h m (by omega), sum_congr fun i hi => h i (by omega)]
theorem crsD_same {D : Nat → Nat → Nat} {d : Dis} (hD : ∀ a x, a < d.c.depth.length → x < d.c.depth.length → dst d.c.W d.c.H a x = D a x) (hr : ∀ i, i < d.rs.length → (d.rep i).cell.toNat < d.c.depth.length) (p : Nat → Int) : (d.crs p).Same (crsD D d p) := by
  refine ⟨rfl, rfl, fun x y hx hy => ?_, fun t x hx => ?_⟩
  · have hx' : x < d.c.depth.length := hx
    have hy' : y < d.c.depth.length := hy
    show (decide (x < d.c.depth.length ∧ y < d.c.depth.length) && decide ((dst d.c.W d.c.H x y : Int) ≤ d.pc)) = decide ((D x y : Int) ≤ d.pc)
    rw [decide_eq_true ⟨hx', hy'⟩, Bool.true_and, hD x y hx' hy']
  · have hx' : x < d.c.depth.length := hx
    show d.rps.cost d.may p t x = (rpsD D d).cost d.may p t x
    unfold Rps.cost
    rw [show d.rps.sum p t x d.rps.m = (rpsD D d).sum p t x (rpsD D d).m from sum_congr fun i hi => ?_]
    show (decide ((d.rep i).tick.toNat = t) && !saysB d.c (d.rep i) x) = (decide ((d.rep i).tick.toNat = t) && !saysD D d.c (d.rep i) x)
    rw [saysD_eq, saysD_congr (hD _ x (hr i hi) hx')]
def exRs : List Rep := [⟨0, 1, 0, 1, 2, 0, 0, false, 2⟩, ⟨1, 2, 8, 1, -1, 1, 0, false, 4⟩, ⟨2, 3, 0, 2, 2, 0, 3, false, 1⟩]
def exR4 : Rep := ⟨1, 1, 11, 0, 0, 0, 0, false, 3⟩
def exD : Dis := ⟨exC, 5, 1, exRs⟩
theorem exD_E : exD.E = 0 := by
  unfold Dis.E
  rw [show exD.c = exC from rfl, (okB_iff _).2 exC_ok, if_pos rfl, if_pos (by decide)]
theorem exD_same (p : Nat → Int) : (exD.crs p).Same (crsD exT exD p) := crsD_same (D := exT) (d := exD) (fun a x ha hx => ex_dst ha hx) (by decide) p
theorem exD_least : (exD.crs pAll).least < NV := by rw [(exD_same pAll).least]; decide +kernel
theorem exD_first : (exD.crs pAll).first = [1, 5, 9, 4, 0] := by rw [(exD_same pAll).first]; decide +kernel
end Go.Proofs.YtnbogcpnpcbjgaaGreatDoor

namespace Go.Proofs.YtnbogcpnpcbjgaaGreatDoor
open Go.RowKit Go.SX
set_option maxRecDepth 20000
set_option maxHeartbeats 0
set_option linter.unusedSimpArgs false
set_option linter.unusedVariables false
def Dis.few (d : Dis) : Prop := d.c.few ∧ d.rs.length ≤ 14 ∧ (d.E = 0 → d.c.depth.length ≤ 20 ∧ d.c.tide.length ≤ 6 ∧ d.rs.length ≤ 6)
theorem Dis.few.small {d : Dis} (h : d.few) : d.small := ⟨few_small h.1, by have := h.2.1; omega⟩
def DsN (q : Value) (d : Dis) (N : List HO) : Prop := ∃ x y z u, q = .agg #[I d.c.wide, I d.c.high, x, y, z, I d.dr, I d.pc, u] ∧ Got x 3 1 i1 d.c.depth N ∧ Got y 31 2 spc d.c.tide N ∧ Got z 3 1 i1 d.c.swell N ∧ (∃ ad c, u = .slice ad d.rs.length c ∧ (ad = none → d.rs = []) ∧ HO.row (.slice ad d.rs.length c) 93 9 (cat rpc d.rs) ∈ N)
theorem DsN.ok {q : Value} {d : Dis} {N H : List HO} (h : DsN q d N) (hm : ∀ h ∈ N, h ∈ H) {w0 : Base} {w : World} (hp : Hp w0 H w) : DsOk w q d := by
  obtain ⟨x, y, z, u, rfl, h1, h2, h3, ad, c, rfl, _, h4⟩ := h
  exact ⟨_, _, _, _, rfl, ⟨_, _, _, rfl, h1.hp hm hp, h2.hp hm hp, h3.hp hm hp⟩, row_hp (hm _ h4) hp⟩
end Go.Proofs.YtnbogcpnpcbjgaaGreatDoor

namespace Go.Proofs.YtnbogcpnpcbjgaaGreatDoor
open Go.RowKit Go.SX
set_option maxRecDepth 20000
set_option maxHeartbeats 0
set_option linter.unusedSimpArgs false
set_option linter.unusedVariables false
def exV (b1 b2 b3 b4 : Nat) : Value := .agg #[I 4, I 3, .slice (some ⟨b1, 0, none⟩) 12 12, .slice (some ⟨b2, 0, none⟩) 5 5, .slice (some ⟨b3, 0, none⟩) 5 5, I 5, I 1, .slice (some ⟨b4, 0, none⟩) 3 3]
theorem example3_fn (w : World) : SX.Fn Tryz.prog 36 [] w (fun _ => False) fun q N => ∃ b1 b2 b3 b4, q = .tuple #[exV b1 b2 b3 b4, rpv exR4] ∧ HO.row (.slice (some ⟨b1, 0, none⟩) 12 12) 3 1 (ints exC.depth) ∈ N ∧ HO.row (.slice (some ⟨b2, 0, none⟩) 5 5) 31 2 (cat spc exC.tide) ∈ N ∧ HO.row (.slice (some ⟨b3, 0, none⟩) 5 5) 3 1 (ints exC.swell) ∈ N ∧ HO.row (.slice (some ⟨b4, 0, none⟩) 3 3) 93 9 (cat rpc exRs) ∈ N := by
  have dn : ∀ (g : Nat) (xs : List Value), det0 g xs = none := fun _ _ => rfl
  refine walk [] [] (det0_ok _ _) Tryz.func36 rfl Tryz.ntmps36 res36 (by kernel_rfl) no_facts ?_
  simp (config := { maxSteps := 4000000 }) only [↓sx0, ↓sx1, ↓sx2, ↓sx3, ↓sx4, ↓sx5, ↓sx6, sx0, sx1, sx2, sx3, sx4, sx5, sx6, tf36, ev3_hold, sxo, sxc, sxp, sxq, sxr, sxs, sxl, sxm, simprocAttr, dn]
  refine CallOb.pureH (fun w' hp => example_fn w') ?_
  rintro q N ⟨b1, b2, b3, rfl, h1, h2, h3⟩
  refine ⟨?_⟩
  simp (config := { maxSteps := 4000000 }) only [↓sx0, ↓sx1, ↓sx2, ↓sx3, ↓sx4, ↓sx5, ↓sx6, sx0, sx1, sx2, sx3, sx4, sx5, sx6, tf36, ev3_hold, sxo, sxc, sxp, sxq, sxr, sxs, sxl, sxm, simprocAttr]
  intro b4
  exact ⟨b1, b2, b3, b4, rfl, by simp [h1], by simp [h2], by simp [h3], List.mem_cons_self⟩
end Go.Proofs.YtnbogcpnpcbjgaaGreatDoor

