/- Parts of a proof: the symbolic walk and what it shows of single functions. -/
import Derived.Test.YtnbogcpnpcbjgaaGreatDoorC5
import Derived.Test.YtnbogcpnpcbjgaaGreatDoorX3
import Derived.Test.YtnbogcpnpcbjgaaGreatDoorX5
set_option linter.all false
namespace Go.Proofs.YtnbogcpnpcbjgaaGreatDoor
open Go.RowKit Go.SX
set_option maxRecDepth 10000
set_option maxHeartbeats 4000000
set_option linter.unusedSimpArgs false
set_option linter.unusedVariables false
structure Rep where
  tick : Int
  kind : Int
  cell : Int
  a : Int
  b : Int
  c : Int
  d : Int
  sure : Bool
  weight : Int
def rpc (r : Rep) : List Value := [I r.tick, I r.kind, I r.cell, I r.a, I r.b, I r.c, I r.d, .bool r.sure, I r.weight]
theorem rpc_len (r : Rep) : (rpc r).length = 9 := rfl
def rpv (r : Rep) : Value := .agg #[I r.tick, I r.kind, I r.cell, I r.a, I r.b, I r.c, I r.d, .bool r.sure, I r.weight]
def rep0 : Rep := ⟨0, 0, 0, 0, 0, 0, 0, false, 0⟩
structure Dis where
  c : Cht
  dr : Int
  pc : Int
  rs : List Rep
def DsOk (w : World) (v : Value) (d : Dis) : Prop := ∃ sD sT sS sR, v = .agg #[I d.c.wide, I d.c.high, sD, sT, sS, I d.dr, I d.pc, sR] ∧ ChOk w (.agg #[I d.c.wide, I d.c.high, sD, sT, sS]) d.c ∧ Sl w sR 9 (cat rpc d.rs)
def Dis.small (d : Dis) : Prop := d.c.small ∧ d.rs.length ≤ 20
def trn (x y u v : Int) : Int := x * v - y * u
def alg (x y u v : Int) : Int := x * u + y * v
def beamB (r : Rep) : Bool := inB r.a (-200) 200 && inB r.b (-200) 200 && inB r.c (-200) 200 && inB r.d (-200) 200 && !(decide (r.a = 0) && decide (r.b = 0)) && !(decide (r.c = 0) && decide (r.d = 0)) && (decide (trn r.a r.b r.c r.d > 0) || decide (trn r.a r.b r.c r.d = 0) && decide (alg r.a r.b r.c r.d > 0))
def shpB (r : Rep) : Bool :=
  if r.kind = 1 then inB r.a 0 r.b && decide (r.b ≤ 200) && decide (r.c = 0) && decide (r.d = 0)
  else if r.kind = 2 then beamB r
  else if r.kind = 3 then inB r.a 0 r.b && inB r.c 0 r.d && decide (r.b ≤ 200) && decide (r.d ≤ 200) && decide (r.cell = 0)
  else if r.kind = 4 then inB r.a 0 200 && decide (r.b = 0) && decide (r.c = 0) && decide (r.d = 0)
  else false
def wgtB (r : Rep) : Bool := if r.sure then decide (r.weight = 0) else inB r.weight 1 100
def repB (c : Cht) (r : Rep) : Bool := inB r.tick 0 ((c.tide.length : Int) - 1) && inB r.cell 0 ((c.depth.length : Int) - 1) && shpB r && wgtB r
def Dis.numB (d : Dis) : Bool := inB d.dr 1 100 && inB d.pc 0 5 && decide (d.rs.length ≤ 12)
def Dis.valB (d : Dis) : Bool := d.numB && d.rs.all (repB d.c)
noncomputable def Dis.E (d : Dis) : Int := if d.c.okB then (if d.valB then 0 else 30) else 10
theorem Dis.E_zero {d : Dis} (h : d.E = 0) : d.c.ok ∧ (1 ≤ d.dr ∧ d.dr ≤ 100) ∧ (0 ≤ d.pc ∧ d.pc ≤ 5) ∧ d.rs.length ≤ 12 ∧ ∀ r ∈ d.rs, repB d.c r = true := by
  unfold Dis.E at h
  split at h
  · rename_i h1
    split at h
    · rename_i h2
      unfold Dis.valB Dis.numB at h2
      simp only [Bool.and_eq_true, inB_iff, decide_eq_true_eq, List.all_eq_true] at h2
      exact ⟨(okB_iff _).1 h1, h2.1.1.1, h2.1.1.2, h2.1.2, h2.2⟩
    · cases h
  · cases h
theorem repB_iff (c : Cht) (r : Rep) : repB c r = true ↔ ((0 ≤ r.tick ∧ r.tick ≤ (c.tide.length : Int) - 1) ∧ (0 ≤ r.cell ∧ r.cell ≤ (c.depth.length : Int) - 1)) ∧ shpB r = true ∧ wgtB r = true := by
  unfold repB
  simp only [Bool.and_eq_true, inB_iff, and_assoc]
def cenX (W k : Nat) : Int := 2 * ((k % W : Nat) : Int) + (((k / W) % 2 : Nat) : Int)
def cenY (W k : Nat) : Int := 2 * ((k / W : Nat) : Int)
noncomputable def saysB (c : Cht) (r : Rep) (k : Nat) : Bool :=
  if r.kind = 1 then inB (dst c.W c.H r.cell.toNat k) r.a r.b
  else if r.kind = 3 then inB ((k / c.W : Nat) : Int) r.a r.b && inB ((k % c.W : Nat) : Int) r.c r.d
  else if r.kind = 4 then decide ((dst c.W c.H r.cell.toNat k : Int) > r.a)
  else if (k : Int) = r.cell then false
  else if trn r.a r.b r.c r.d > 0 then decide (trn r.a r.b (cenX c.W k - cenX c.W r.cell.toNat) (cenY c.W k - cenY c.W r.cell.toNat) ≥ 0) && decide (trn (cenX c.W k - cenX c.W r.cell.toNat) (cenY c.W k - cenY c.W r.cell.toNat) r.c r.d ≥ 0)
  else decide (trn r.a r.b (cenX c.W k - cenX c.W r.cell.toNat) (cenY c.W k - cenY c.W r.cell.toNat) = 0) && decide (alg r.a r.b (cenX c.W k - cenX c.W r.cell.toNat) (cenY c.W k - cenY c.W r.cell.toNat) > 0)
def Dis.may (d : Dis) (t k : Nat) : Bool := decide (d.c.over k t (d.c.thi t) ≥ d.dr)
def Dis.rep (d : Dis) (i : Nat) : Rep := d.rs.getD i rep0
noncomputable def apRow (c : Cht) (a : Nat) : List Int := (List.range c.depth.length).map fun b => (dst c.W c.H a b : Int)
noncomputable def apL (c : Cht) : List (List Int) := (List.range c.depth.length).map (apRow c)
def Dis.flRow (d : Dis) (t : Nat) : List Bool := (List.range d.c.depth.length).map (d.may t)
def Dis.flL (d : Dis) : List (List Bool) := (List.range d.c.tide.length).map d.flRow
noncomputable def fiRow (c : Cht) (r : Rep) : List Bool := (List.range c.depth.length).map (saysB c r)
noncomputable def Dis.fiL (d : Dis) : List (List Bool) := d.rs.map (fiRow d.c)
noncomputable def Dis.rps (d : Dis) : Rps := ⟨d.rs.length, fun i => (d.rep i).tick.toNat, fun i x => saysB d.c (d.rep i) x⟩
noncomputable def Dis.crs (d : Dis) (p : Nat → Int) : Crs := ⟨d.c.depth.length, fun x y => decide (x < d.c.depth.length ∧ y < d.c.depth.length) && decide ((dst d.c.W d.c.H x y : Int) ≤ d.pc), d.c.tide.length, fun t x => d.rps.cost d.may p t x, 1200⟩
theorem Dis.crs_ok {d : Dis} (h : d.E = 0) {p : Nat → Int} (hp : priceOk 100 p) : (d.crs p).Ok := by
  obtain ⟨hok, hdr, hpc, hm, hr⟩ := Dis.E_zero h
  obtain ⟨_, _, hW, hH, hlen⟩ := hok.dims
  have hT := hok.2.2.2.1
  have hmm : ((d.rps.m : Nat) : Int) * 100 ≤ 1200 := by
    show ((d.rs.length : Nat) : Int) * 100 ≤ 1200
    omega
  refine ⟨fun x y hx hy => ?_, fun t x => ?_, by show (0 : Int) ≤ 1200; decide, hT.1, ?_⟩
  · have hx' : x < d.c.depth.length := hx
    have hy' : y < d.c.depth.length := hy
    show (_ && _) = (_ && _)
    rw [dst_symm (by rw [← hlen]; exact hx') (by rw [← hlen]; exact hy')]
    congr 1
    rw [Bool.eq_iff_iff]
    simp only [decide_eq_true_eq]
    exact And.comm
  · have := d.rps.cost_bd hp (by decide) (by unfold NV; omega) d.may t x
    rcases this with h | h
    · exact .inl h
    · exact .inr ⟨h.1, Int.le_trans h.2 hmm⟩
  · show ((d.c.tide.length : Nat) : Int) * 1200 < NV
    unfold NV
    omega
end Go.Proofs.YtnbogcpnpcbjgaaGreatDoor

namespace Go.Proofs.YtnbogcpnpcbjgaaGreatDoor
open Go.RowKit Go.SX
set_option maxRecDepth 10000
set_option maxHeartbeats 4000000
set_option linter.unusedSimpArgs false
set_option linter.unusedVariables false
theorem within3_fn (w : World) (n l h : Int) : SX.Fn Tryz.prog 76 [I n, I l, I h] w (fun _ => False) fun v N => v = .bool (inB n l h) := by
  refine walk [] [] (det0_ok _ _) Tryz.func76 rfl Tryz.ntmps76 res76 (by kernel_rfl) no_facts ?_
  simp (config := { maxSteps := 4000000 }) only [↓sx0, ↓sx1, ↓sx2, ↓sx3, ↓sx4, ↓sx5, ↓sx6, sx0, sx1, sx2, sx3, sx4, sx5, sx6, tf76, ev3_hold, sxo, sxc, sxp, sxq, sxr, sxs, sxl, sxm, simprocAttr]
  unfold inB
  exact ⟨fun h1 => by simp [h1], fun h1 => by simp [h1]⟩
theorem from3_fn (w : World) (n l h : Int) : SX.Fn Tryz.prog 33 [I n, I l, I h] w (fun _ => False) fun v N => v = .bool (inB n l h) := by
  refine walk [] [] (det0_ok _ _) Tryz.func33 rfl Tryz.ntmps33 res33 (by kernel_rfl) no_facts ?_
  simp (config := { maxSteps := 4000000 }) only [↓sx0, ↓sx1, ↓sx2, ↓sx3, ↓sx4, ↓sx5, ↓sx6, sx0, sx1, sx2, sx3, sx4, sx5, sx6, tf33, ev3_hold, sxo, sxc, sxp, sxq, sxr, sxs, sxl, sxm, simprocAttr]
  unfold inB
  exact ⟨fun h1 => by simp [h1], fun h1 => by simp [h1]⟩
def wtrn (x y u v : Int) : Int := wr (wr (x * v) - wr (y * u))
def walg (x y u v : Int) : Int := wr (wr (x * u) + wr (y * v))
theorem turn_fn (w : World) (x y u v : Int) : SX.Fn Tryz.prog 155 [.agg #[I x, I y], .agg #[I u, I v]] w (fun _ => False) fun q N => q = I (wtrn x y u v) := by
  unfold wtrn
  refine walk [] [] (det0_ok _ _) Tryz.func155 rfl Tryz.ntmps155 res155 (by kernel_rfl) no_facts ?_
  simp (config := { maxSteps := 4000000 }) only [↓sx0, ↓sx1, ↓sx2, ↓sx3, ↓sx4, ↓sx5, ↓sx6, sx0, sx1, sx2, sx3, sx4, sx5, sx6, tf155, ev3_hold, sxo, sxc, sxp, sxq, sxr, sxs, sxl, sxm, simprocAttr]
theorem along_fn (w : World) (x y u v : Int) : SX.Fn Tryz.prog 156 [.agg #[I x, I y], .agg #[I u, I v]] w (fun _ => False) fun q N => q = I (walg x y u v) := by
  unfold walg
  refine walk [] [] (det0_ok _ _) Tryz.func156 rfl Tryz.ntmps156 res156 (by kernel_rfl) no_facts ?_
  simp (config := { maxSteps := 4000000 }) only [↓sx0, ↓sx1, ↓sx2, ↓sx3, ↓sx4, ↓sx5, ↓sx6, sx0, sx1, sx2, sx3, sx4, sx5, sx6, tf156, ev3_hold, sxo, sxc, sxp, sxq, sxr, sxs, sxl, sxm, simprocAttr]
theorem rturn_fn (w : World) (x y u v : Int) : SX.Fn Tryz.prog 99 [I x, I y, I u, I v] w (fun _ => False) fun q N => q = I (wtrn x y u v) := by
  unfold wtrn
  refine walk [] [] (det0_ok _ _) Tryz.func99 rfl Tryz.ntmps99 res99 (by kernel_rfl) no_facts ?_
  simp (config := { maxSteps := 4000000 }) only [↓sx0, ↓sx1, ↓sx2, ↓sx3, ↓sx4, ↓sx5, ↓sx6, sx0, sx1, sx2, sx3, sx4, sx5, sx6, tf99, ev3_hold, sxo, sxc, sxp, sxq, sxr, sxs, sxl, sxm, simprocAttr]
def pl153_1 : Plan := (ones [0, 1, 2, 3, 4, 5, 7] (.alt 6 (.alt 8 (ones [9, 10, 11] .fin) (.alt 10 (ones [8, 9, 11] .fin) .no)) (.alt 8 (.alt 6 (ones [9, 10, 11] .fin) (.alt 10 (ones [6, 9, 11] .fin) .no)) (.alt 10 (ones [6, 8, 9, 11] .fin) .no))))
def pl153 : List (Nat × Plan) := [(1, pl153_1)]
theorem pl153_lk : (lkO 1 pl153 = some pl153_1) := rfl
theorem beam_fn (w : World) (r : Rep) : SX.Fn Tryz.prog 153 [rpv r] w (fun _ => False) fun q N => q = .tuple #[.agg #[I r.a, I r.b], .agg #[I r.c, I r.d]] := by
  unfold rpv
  refine walk [] pl153 (det0_ok _ _) Tryz.func153 rfl Tryz.ntmps153 res153 (by kernel_rfl) no_facts ?_
  simp (config := { maxSteps := 4000000 }) only [↓sx0, ↓sx1, ↓sx2, ↓sx3, ↓sx4, ↓sx5, ↓sx6, sx0, sx1, sx2, sx3, sx4, sx5, sx6, tf153, ev3_hold, sxo, sxc, sxp, sxq, sxr, sxs, sxl, sxm, simprocAttr, pl153_lk, pl153_1]
theorem weighed_fn (w : World) (r : Rep) : SX.Fn Tryz.prog 151 [rpv r] w (fun _ => False) fun q N => q = .bool (wgtB r) := by
  obtain ⟨x1, x2, x3, x4, x5, x6, x7, s, x9⟩ := r
  unfold rpv wgtB
  have hD : DetFn Tryz.prog ⟨w, fun _ => False⟩ det0 := det0_ok _ _
  refine walk [] [] hD Tryz.func151 rfl Tryz.ntmps151 res151 (by kernel_rfl) no_facts ?_
  cases s with
  | true =>
    simp (config := { maxSteps := 4000000 }) only [↓sx0, ↓sx1, ↓sx2, ↓sx3, ↓sx4, ↓sx5, ↓sx6, sx0, sx1, sx2, sx3, sx4, sx5, sx6, tf151, ev3_hold, sxo, sxc, sxp, sxq, sxr, sxs, sxl, sxm, simprocAttr]
    all_goals (first | rfl | simp)
  | false =>
    simp (config := { maxSteps := 4000000 }) only [↓sx0, ↓sx1, ↓sx2, ↓sx3, ↓sx4, ↓sx5, ↓sx6, sx0, sx1, sx2, sx3, sx4, sx5, sx6, tf151, ev3_hold, sxo, sxc, sxp, sxq, sxr, sxs, sxl, sxm, simprocAttr, det0]
    refine CallOb.pureH (fun w' hp => within3_fn w' _ _ _) ?_
    rintro q N rfl
    refine ⟨?_⟩
    simp (config := { maxSteps := 4000000 }) only [↓sx0, ↓sx1, ↓sx2, ↓sx3, ↓sx4, ↓sx5, ↓sx6, sx0, sx1, sx2, sx3, sx4, sx5, sx6, tf151, ev3_hold, sxo, sxc, sxp, sxq, sxr, sxs, sxl, sxm, simprocAttr]
    all_goals (first | rfl | simp)
def detT : Nat → List Value → Option Value
  | 76, [.int .i64 n, .int .i64 l, .int .i64 h] => some (.bool (inB n l h))
  | 33, [.int .i64 n, .int .i64 l, .int .i64 h] => some (.bool (inB n l h))
  | 155, [.agg ⟨[.int .i64 x, .int .i64 y]⟩, .agg ⟨[.int .i64 u, .int .i64 v]⟩] => some (I (wtrn x y u v))
  | 156, [.agg ⟨[.int .i64 x, .int .i64 y]⟩, .agg ⟨[.int .i64 u, .int .i64 v]⟩] => some (I (walg x y u v))
  | 99, [.int .i64 x, .int .i64 y, .int .i64 u, .int .i64 v] => some (I (wtrn x y u v))
  | 153, [.agg ⟨[.int .i64 x1, .int .i64 x2, .int .i64 x3, .int .i64 x4, .int .i64 x5, .int .i64 x6, .int .i64 x7, .bool s, .int .i64 x9]⟩] => some (.tuple #[.agg #[I x4, I x5], .agg #[I x6, I x7]])
  | 151, [.agg ⟨[.int .i64 x1, .int .i64 x2, .int .i64 x3, .int .i64 x4, .int .i64 x5, .int .i64 x6, .int .i64 x7, .bool s, .int .i64 x9]⟩] => some (.bool (wgtB ⟨x1, x2, x3, x4, x5, x6, x7, s, x9⟩))
  | g, xs => det0 g xs
theorem detT_ok (w0 : World) (X : Nat → Prop) : DetFn Tryz.prog ⟨w0, X⟩ detT := by
  intro g args v h w hk
  unfold detT at h
  split at h
  · cases h
    exact det_of_fn (within3_fn w _ _ _)
  · cases h
    exact det_of_fn (from3_fn w _ _ _)
  · cases h
    exact det_of_fn (turn_fn w _ _ _ _)
  · cases h
    exact det_of_fn (along_fn w _ _ _ _)
  · cases h
    exact det_of_fn (rturn_fn w _ _ _ _)
  · cases h
    exact det_of_fn (beam_fn w ⟨_, _, _, _, _, _, _, _, _⟩)
  · cases h
    exact det_of_fn (weighed_fn w ⟨_, _, _, _, _, _, _, _, _⟩)
  · exact det0_ok w0 X _ _ _ h w hk
theorem detT_eq : (∀ n l h : Int, detT 76 [I n, I l, I h] = some (.bool (inB n l h))) ∧ (∀ n l h : Int, detT 33 [I n, I l, I h] = some (.bool (inB n l h))) ∧
    (∀ x y u v : Int, detT 155 [.agg #[I x, I y], .agg #[I u, I v]] = some (I (wtrn x y u v))) ∧ (∀ x y u v : Int, detT 156 [.agg #[I x, I y], .agg #[I u, I v]] = some (I (walg x y u v))) ∧
    (∀ x y u v : Int, detT 99 [I x, I y, I u, I v] = some (I (wtrn x y u v))) ∧
    (∀ (x1 x2 x3 x4 x5 x6 x7 : Int) (s : Bool) (x9 : Int), detT 153 [.agg #[I x1, I x2, I x3, I x4, I x5, I x6, I x7, .bool s, I x9]] = some (.tuple #[.agg #[I x4, I x5], .agg #[I x6, I x7]])) ∧
    (∀ (x1 x2 x3 x4 x5 x6 x7 : Int) (s : Bool) (x9 : Int), detT 151 [.agg #[I x1, I x2, I x3, I x4, I x5, I x6, I x7, .bool s, I x9]] = some (.bool (wgtB ⟨x1, x2, x3, x4, x5, x6, x7, s, x9⟩))) :=
  ⟨fun _ _ _ => rfl, fun _ _ _ => rfl, fun _ _ _ _ => rfl, fun _ _ _ _ => rfl, fun _ _ _ _ => rfl, fun _ _ _ _ _ _ _ _ _ => rfl, fun _ _ _ _ _ _ _ _ _ => rfl⟩
theorem vec_st : intSt Tryz.prog 218 2 = true := by kernel_rfl
theorem eq_vec (a b : Int) : EqAgg Tryz.prog 218 [I a, I b] [I 0, I 0] (decide (a = 0) && decide (b = 0)) := by
  have h := eqAgg_ints vec_st (xs := [a, b]) (ys := [0, 0]) rfl rfl
  have e : decide ([a, b] = [0, 0]) = (decide (a = 0) && decide (b = 0)) := by
    rw [Bool.eq_iff_iff]
    simp
  rw [e] at h
  exact h
theorem trn_bd {a b c d : Int} {A B : Int} (hA : 0 ≤ A) (ha : -A ≤ a ∧ a ≤ A) (hb : -A ≤ b ∧ b ≤ A) (hc : -B ≤ c ∧ c ≤ B) (hd : -B ≤ d ∧ d ≤ B) (hB : 0 ≤ B) : (-(A * B) ≤ a * d ∧ a * d ≤ A * B) := by
  have h := Int.natAbs_mul a d
  have h1 : a.natAbs ≤ A.toNat := by omega
  have h2 : d.natAbs ≤ B.toNat := by omega
  have h3 := Nat.mul_le_mul h1 h2
  have h4 : ((A.toNat * B.toNat : Nat) : Int) = A * B := by
    rw [Int.natCast_mul, Int.toNat_of_nonneg hA, Int.toNat_of_nonneg hB]
  omega
theorem wtrn_eq {a b c d : Int} (ha : -200 ≤ a ∧ a ≤ 200) (hb : -200 ≤ b ∧ b ≤ 200) (hc : -200 ≤ c ∧ c ≤ 200) (hd : -200 ≤ d ∧ d ≤ 200) : wtrn a b c d = trn a b c d ∧ walg a b c d = alg a b c d := by
  have h1 := trn_bd (by decide) ha hb hc hd (by decide)
  have h2 := trn_bd (by decide) hb ha hd hc (by decide)
  have h3 := trn_bd (by decide) ha hb hd hc (by decide)
  have h4 := trn_bd (by decide) hb ha hc hd (by decide)
  unfold wtrn walg trn alg
  rw [show wr (a * d) = a * d from wrap_id (by omega), show wr (b * c) = b * c from wrap_id (by omega), show wr (a * c) = a * c from wrap_id (by omega), show wr (b * d) = b * d from wrap_id (by omega)]
  exact ⟨wrap_id (by omega), wrap_id (by omega)⟩
end Go.Proofs.YtnbogcpnpcbjgaaGreatDoor

namespace Go.Proofs.YtnbogcpnpcbjgaaGreatDoor
open Go.RowKit Go.SX
set_option maxRecDepth 10000
set_option maxHeartbeats 0
set_option linter.unusedSimpArgs false
set_option linter.unusedVariables false
theorem beamB_far {r : Rep} (h : (inB r.a (-200) 200 && inB r.b (-200) 200 && inB r.c (-200) 200 && inB r.d (-200) 200) = true) : wtrn r.a r.b r.c r.d = trn r.a r.b r.c r.d ∧ walg r.a r.b r.c r.d = alg r.a r.b r.c r.d := by
  simp only [Bool.and_eq_true, inB_iff] at h
  exact wtrn_eq h.1.1.1 h.1.1.2 h.1.2 h.2
def zerB (a b c d : Int) : Bool := (decide (a = 0) && decide (b = 0)) || (decide (c = 0) && decide (d = 0))
theorem isBeam_fn (w : World) (r : Rep) : SX.Fn Tryz.prog 63 [rpv r] w (fun _ => False) fun q N => q = .bool (beamB r) := by
  have hfar := beamB_far (r := r)
  obtain ⟨x1, x2, x3, a, b, c, d, s, x9⟩ := r
  unfold rpv beamB
  simp only [] at hfar ⊢
  refine walkC [7] [] [] (detT_ok _ _) Tryz.func63 rfl Tryz.ntmps63 res63 (by kernel_rfl) no_facts ?_
  cases h1 : inB a (-200) 200 with
  | false =>
    simp (config := { maxSteps := 4000000 }) only [↓sx0, ↓sx1, ↓sx2, ↓sx3, ↓sx4, ↓sx5, ↓sx6, sx0, sx1, sx2, sx3, sx4, sx5, sx6, tf63, ev3_hold, sxo, sxc, sxp, sxq, sxr, sxs, sxl, sxm, simprocAttr, detT_eq, h1]
    all_goals rfl
  | true =>
  cases h2 : inB b (-200) 200 with
  | false =>
    simp (config := { maxSteps := 4000000 }) only [↓sx0, ↓sx1, ↓sx2, ↓sx3, ↓sx4, ↓sx5, ↓sx6, sx0, sx1, sx2, sx3, sx4, sx5, sx6, tf63, ev3_hold, sxo, sxc, sxp, sxq, sxr, sxs, sxl, sxm, simprocAttr, detT_eq, h1, h2]
    all_goals rfl
  | true =>
  cases h3 : inB c (-200) 200 with
  | false =>
    simp (config := { maxSteps := 4000000 }) only [↓sx0, ↓sx1, ↓sx2, ↓sx3, ↓sx4, ↓sx5, ↓sx6, sx0, sx1, sx2, sx3, sx4, sx5, sx6, tf63, ev3_hold, sxo, sxc, sxp, sxq, sxr, sxs, sxl, sxm, simprocAttr, detT_eq, h1, h2, h3]
    all_goals rfl
  | true =>
  cases h4 : inB d (-200) 200 with
  | false =>
    simp (config := { maxSteps := 4000000 }) only [↓sx0, ↓sx1, ↓sx2, ↓sx3, ↓sx4, ↓sx5, ↓sx6, sx0, sx1, sx2, sx3, sx4, sx5, sx6, tf63, ev3_hold, sxo, sxc, sxp, sxq, sxr, sxs, sxl, sxm, simprocAttr, detT_eq, h1, h2, h3, h4]
    all_goals rfl
  | true =>
  rw [h1, h2, h3, h4] at hfar
  obtain ⟨f1, f2⟩ := hfar rfl
  have f3 : IntKind.i64.wrap (IntKind.i64.wrap (a * c) + IntKind.i64.wrap (b * d)) = alg a b c d := f2
  obtain ⟨T, hT⟩ : ∃ T, trn a b c d = T := ⟨_, rfl⟩
  obtain ⟨G, hG⟩ : ∃ G, alg a b c d = G := ⟨_, rfl⟩
  rw [hT] at f1 ⊢
  rw [hG] at f3 ⊢
  simp (config := { maxSteps := 4000000 }) only [↓sx0, ↓sx1, ↓sx2, ↓sx3, ↓sx4, ↓sx5, ↓sx6, sx0, sx1, sx2, sx3, sx4, sx5, sx6, tf63, ev3_hold, sxo, sxc, sxp, sxq, sxr, sxs, sxl, sxm, simprocAttr, detT_eq, h1, h2, h3, h4]
  refine cut_const [(26, 43)] (fun _ : Unit => [(43, .bool (zerB a b c d))]) (fun _ H2 => H2 = []) ?_ ?_
  · unfold zerB
    by_cases a0 : a = 0
    · have p1 : (a = 0) = True := eq_true a0
      by_cases b0 : b = 0
      · have p2 : (b = 0) = True := eq_true b0
        simp (config := { maxSteps := 4000000 }) only [↓sx0, ↓sx1, ↓sx2, ↓sx3, ↓sx4, ↓sx5, ↓sx6, sx0, sx1, sx2, sx3, sx4, sx5, sx6, tf63, ev3_hold, sxo, sxc, sxp, sxq, sxr, sxs, sxl, sxm, simprocAttr, p1, p2]
        first | exact ⟨(), _, HImp.refl _ _, rfl⟩ | exact ⟨(), _, by simp [a0, b0], HImp.refl _ _, rfl⟩
      · have p2 : (b = 0) = False := eq_false b0
        by_cases c0 : c = 0
        · have p3 : (c = 0) = True := eq_true c0
          by_cases d0 : d = 0
          · have p4 : (d = 0) = True := eq_true d0
            simp (config := { maxSteps := 4000000 }) only [↓sx0, ↓sx1, ↓sx2, ↓sx3, ↓sx4, ↓sx5, ↓sx6, sx0, sx1, sx2, sx3, sx4, sx5, sx6, tf63, ev3_hold, sxo, sxc, sxp, sxq, sxr, sxs, sxl, sxm, simprocAttr, p1, p2, p3, p4]
            first | exact ⟨(), _, HImp.refl _ _, rfl⟩ | exact ⟨(), _, by simp [a0, b0, c0, d0], HImp.refl _ _, rfl⟩
          · have p4 : (d = 0) = False := eq_false d0
            simp (config := { maxSteps := 4000000 }) only [↓sx0, ↓sx1, ↓sx2, ↓sx3, ↓sx4, ↓sx5, ↓sx6, sx0, sx1, sx2, sx3, sx4, sx5, sx6, tf63, ev3_hold, sxo, sxc, sxp, sxq, sxr, sxs, sxl, sxm, simprocAttr, p1, p2, p3, p4]
            first | exact ⟨(), _, HImp.refl _ _, rfl⟩ | exact ⟨(), _, by simp [a0, b0, c0, d0], HImp.refl _ _, rfl⟩
        · have p3 : (c = 0) = False := eq_false c0
          simp (config := { maxSteps := 4000000 }) only [↓sx0, ↓sx1, ↓sx2, ↓sx3, ↓sx4, ↓sx5, ↓sx6, sx0, sx1, sx2, sx3, sx4, sx5, sx6, tf63, ev3_hold, sxo, sxc, sxp, sxq, sxr, sxs, sxl, sxm, simprocAttr, p1, p2, p3]
          first | exact ⟨(), _, HImp.refl _ _, rfl⟩ | exact ⟨(), _, by simp [a0, b0, c0], HImp.refl _ _, rfl⟩
    · have p1 : (a = 0) = False := eq_false a0
      by_cases c0 : c = 0
      · have p3 : (c = 0) = True := eq_true c0
        by_cases d0 : d = 0
        · have p4 : (d = 0) = True := eq_true d0
          simp (config := { maxSteps := 4000000 }) only [↓sx0, ↓sx1, ↓sx2, ↓sx3, ↓sx4, ↓sx5, ↓sx6, sx0, sx1, sx2, sx3, sx4, sx5, sx6, tf63, ev3_hold, sxo, sxc, sxp, sxq, sxr, sxs, sxl, sxm, simprocAttr, p1, p3, p4]
          first | exact ⟨(), _, HImp.refl _ _, rfl⟩ | exact ⟨(), _, by simp [a0, c0, d0], HImp.refl _ _, rfl⟩
        · have p4 : (d = 0) = False := eq_false d0
          simp (config := { maxSteps := 4000000 }) only [↓sx0, ↓sx1, ↓sx2, ↓sx3, ↓sx4, ↓sx5, ↓sx6, sx0, sx1, sx2, sx3, sx4, sx5, sx6, tf63, ev3_hold, sxo, sxc, sxp, sxq, sxr, sxs, sxl, sxm, simprocAttr, p1, p3, p4]
          first | exact ⟨(), _, HImp.refl _ _, rfl⟩ | exact ⟨(), _, by simp [a0, c0, d0], HImp.refl _ _, rfl⟩
      · have p3 : (c = 0) = False := eq_false c0
        simp (config := { maxSteps := 4000000 }) only [↓sx0, ↓sx1, ↓sx2, ↓sx3, ↓sx4, ↓sx5, ↓sx6, sx0, sx1, sx2, sx3, sx4, sx5, sx6, tf63, ev3_hold, sxo, sxc, sxp, sxq, sxr, sxs, sxl, sxm, simprocAttr, p1, p3]
        first | exact ⟨(), _, HImp.refl _ _, rfl⟩ | exact ⟨(), _, by simp [a0, c0], HImp.refl _ _, rfl⟩
  rintro _ H2 g2 rfl
  have hz : (!(decide (a = 0) && decide (b = 0)) && !(decide (c = 0) && decide (d = 0))) = !zerB a b c d := by unfold zerB; rw [Bool.not_or]
  rw [Bool.and_assoc (true && true && true && true), hz]
  cases hZ : zerB a b c d with
  | true =>
    simp (config := { maxSteps := 4000000 }) only [↓sx0, ↓sx1, ↓sx2, ↓sx3, ↓sx4, ↓sx5, ↓sx6, sx0, sx1, sx2, sx3, sx4, sx5, sx6, tf63, ev3_hold, sxo, sxc, sxp, sxq, sxr, sxs, sxl, sxm, simprocAttr]
    all_goals rfl
  | false =>
  by_cases t1 : T > 0
  · have p1 : (T > 0) = True := eq_true t1
    simp (config := { maxSteps := 4000000 }) only [↓sx0, ↓sx1, ↓sx2, ↓sx3, ↓sx4, ↓sx5, ↓sx6, sx0, sx1, sx2, sx3, sx4, sx5, sx6, tf63, ev3_hold, sxo, sxc, sxp, sxq, sxr, sxs, sxl, sxm, simprocAttr, detT_eq, f1, f3, p1]
    all_goals simp [t1]
  · have p1 : (T > 0) = False := eq_false t1
    by_cases t2 : T = 0
    · have p2 : (T = 0) = True := eq_true t2
      by_cases t3 : G > 0
      · have p3 : (G > 0) = True := eq_true t3
        simp (config := { maxSteps := 4000000 }) only [↓sx0, ↓sx1, ↓sx2, ↓sx3, ↓sx4, ↓sx5, ↓sx6, sx0, sx1, sx2, sx3, sx4, sx5, sx6, tf63, ev3_hold, sxo, sxc, sxp, sxq, sxr, sxs, sxl, sxm, simprocAttr, detT_eq, f1, f3, p1, p2, p3]
        all_goals simp [t1, t2, t3]
      · have p3 : (G > 0) = False := eq_false t3
        simp (config := { maxSteps := 4000000 }) only [↓sx0, ↓sx1, ↓sx2, ↓sx3, ↓sx4, ↓sx5, ↓sx6, sx0, sx1, sx2, sx3, sx4, sx5, sx6, tf63, ev3_hold, sxo, sxc, sxp, sxq, sxr, sxs, sxl, sxm, simprocAttr, detT_eq, f1, f3, p1, p2, p3]
        all_goals simp [t1, t2, t3]
    · have p2 : (T = 0) = False := eq_false t2
      simp (config := { maxSteps := 4000000 }) only [↓sx0, ↓sx1, ↓sx2, ↓sx3, ↓sx4, ↓sx5, ↓sx6, sx0, sx1, sx2, sx3, sx4, sx5, sx6, tf63, ev3_hold, sxo, sxc, sxp, sxq, sxr, sxs, sxl, sxm, simprocAttr, detT_eq, f1, f3, p1, p2]
      all_goals simp [t1, t2]
end Go.Proofs.YtnbogcpnpcbjgaaGreatDoor

