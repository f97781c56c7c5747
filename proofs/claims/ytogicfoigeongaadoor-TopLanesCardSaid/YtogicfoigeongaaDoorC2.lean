/- Parts of a proof: the symbolic walk and what it shows of single functions. -/
import Derived.Test.YtogicfoigeongaaDoorC1
set_option linter.all false
namespace Go.Proofs.YtogicfoigeongaaDoor
open Go.RowKit Go.SX
set_option maxRecDepth 4000
set_option maxHeartbeats 4000000
set_option linter.unusedSimpArgs false
set_option linter.unusedVariables false
theorem cellB_fn (w : World) (b : Nat) (x y : Value) (z1 : Option Addr) (n c : Nat) (u v : Value) (h : ∀ i v', [x, y, .slice z1 n c, u, v][i]? = some v' → w.cell? ⟨b, i, none⟩ = some v') (hn : n < 1000000) (k : Int) :
    SX.Fn Tryd.prog 88 [I k, .pointer (some ⟨b, 0, none⟩)] w (fun _ => False) fun r N => r = .bool (!inB k 0 ((n : Int) - 1)) := by
  have e1 : wr ((n : Int) - 1) = n - 1 := wrap_id (by omega)
  refine walk [] [] (detA_ok _ _) Tryd.func88 rfl Tryd.ntmps88 res88 (by kernel_rfl) no_facts ?_
  simp (config := { maxSteps := 4000000 }) only [↓sx0, ↓sx1, ↓sx2, ↓sx3, ↓sx4, ↓sx5, ↓sx6, sx0, sx1, sx2, sx3, sx4, sx5, sx6, tf88, ev3_hold, sxo, sxc, sxp, sxq, sxr, sxs, sxl, sxm, simprocAttr]
  refine ld_old (by rw [add_block]; exact h 2 _ rfl) id ?_
  simp (config := { maxSteps := 4000000 }) only [↓sx0, ↓sx1, ↓sx2, ↓sx3, ↓sx4, ↓sx5, ↓sx6, sx0, sx1, sx2, sx3, sx4, sx5, sx6, tf88, ev3_hold, sxo, sxc, sxp, sxq, sxr, sxs, sxl, sxm, simprocAttr, detA_eq, e1]
theorem tickB_fn (w : World) (b : Nat) (x y : Value) (z1 : Option Addr) (n c : Nat) (u v : Value) (h : ∀ i v', [x, y, u, .slice z1 n c, v][i]? = some v' → w.cell? ⟨b, i, none⟩ = some v') (hn : n < 1000000) (k : Int) :
    SX.Fn Tryd.prog 89 [I k, .pointer (some ⟨b, 0, none⟩)] w (fun _ => False) fun r N => r = .bool (!inB k 0 ((n : Int) - 1)) := by
  have e1 : wr ((n : Int) - 1) = n - 1 := wrap_id (by omega)
  refine walk [] [] (detA_ok _ _) Tryd.func89 rfl Tryd.ntmps89 res89 (by kernel_rfl) no_facts ?_
  simp (config := { maxSteps := 4000000 }) only [↓sx0, ↓sx1, ↓sx2, ↓sx3, ↓sx4, ↓sx5, ↓sx6, sx0, sx1, sx2, sx3, sx4, sx5, sx6, tf89, ev3_hold, sxo, sxc, sxp, sxq, sxr, sxs, sxl, sxm, simprocAttr]
  refine ld_old (by rw [add_block]; exact h 3 _ rfl) id ?_
  simp (config := { maxSteps := 4000000 }) only [↓sx0, ↓sx1, ↓sx2, ↓sx3, ↓sx4, ↓sx5, ↓sx6, sx0, sx1, sx2, sx3, sx4, sx5, sx6, tf89, ev3_hold, sxo, sxc, sxp, sxq, sxr, sxs, sxl, sxm, simprocAttr, detA_eq, e1]
theorem draughtB_fn (w : World) (k : Int) : SX.Fn Tryd.prog 90 [I k] w (fun _ => False) fun r N => r = .bool (!inB k 1 100) := by
  refine walk [] [] (detA_ok _ _) Tryd.func90 rfl Tryd.ntmps90 res90 (by kernel_rfl) no_facts ?_
  simp (config := { maxSteps := 4000000 }) only [↓sx0, ↓sx1, ↓sx2, ↓sx3, ↓sx4, ↓sx5, ↓sx6, sx0, sx1, sx2, sx3, sx4, sx5, sx6, tf90, ev3_hold, sxo, sxc, sxp, sxq, sxr, sxs, sxl, sxm, simprocAttr, detA_eq]
def notCell (c : Cht) (k : Int) : Bool := !inB k 0 ((c.depth.length : Int) - 1)
def notTick (c : Cht) (k : Int) : Bool := !inB k 0 ((c.tide.length : Int) - 1)
def notDraught (k : Int) : Bool := !inB k 1 100
noncomputable def openE (c : Cht) (lc lt ld : List Int) : Int := if c.okB then (if lc.any (notCell c) || lt.any (notTick c) || ld.any notDraught then 1 else 0) else 10
theorem cells_old {w0 : Base} {H : List HO} {b : Nat} {T : TypeId} {cs : List Value} (h : HO.cells b T cs ∈ H) {w : World} (hp : Hp w0 H w) : ∀ i v, cs[i]? = some v → w.cell? ⟨b, i, none⟩ = some v := by
  intro i v hi
  rw [cell_of_cells (hp.ok _ h)]
  simpa using hi
theorem cell_keep {w w' : World} {b : Nat} {cs : List Value} (h : ∀ i v, cs[i]? = some v → w.cell? ⟨b, i, none⟩ = some v) (hk : Keep (fun _ => False) w w') : ∀ i v, cs[i]? = some v → w'.cell? ⟨b, i, none⟩ = some v := by
  intro i v hi
  have h1 := h i v hi
  have hlt : b < w.heap.size := by
    by_cases hb : b < w.heap.size
    · exact hb
    · unfold World.cell? at h1
      rw [Array.getElem?_eq_none (by simpa using hb)] at h1
      cases h1
  unfold World.cell? at h1 ⊢
  rw [hk.block _ hlt id]
  exact h1
theorem open_fn (w : World) (v sc st sd : Value) (c : Cht) (lc lt ld : List Int) (hc : ChOk w v c) (hsm : c.small) (h1 : Sl w sc 1 (ints lc)) (h2 : Sl w st 1 (ints lt)) (h3 : Sl w sd 1 (ints ld)) (hl : lc.length ≤ 100 ∧ lt.length ≤ 100 ∧ ld.length ≤ 100) :
    SX.Fn Tryd.prog 63 [v, .agg #[sc, st, sd]] w (fun _ => False) fun r N => r = .tuple #[v, I (openE c lc lt ld)] := by
  have hD := detM_ok (X := fun _ => False) hc (fun _ _ => id)
  have hck := (detM_check (v := v) hsm).1
  obtain ⟨sD, sT, sS, rfl, hsD, hsT, hsS⟩ := hc
  obtain ⟨aD, nD, cD, rfl⟩ := hsD.shape
  obtain ⟨aT, nT, cT, rfl⟩ := hsT.shape
  obtain ⟨aS, nS, cS, rfl⟩ := hsS.shape
  obtain ⟨a1, n1, c1, rfl⟩ := h1.shape
  obtain ⟨a2, n2, c2, rfl⟩ := h2.shape
  obtain ⟨a3, n3, c3, rfl⟩ := h3.shape
  have hnD := hsD.le i1_len (by omega)
  have hnT := hsT.le spc_len (by omega)
  have hsm' := hsm
  unfold Cht.small at hsm'
  have dn : (∀ xs, detM (.agg #[I c.wide, I c.high, .slice aD nD cD, .slice aT nT cT, .slice aS nS cS]) c 74 xs = none) := fun _ => rfl
  refine walk [2] [] hD Tryd.func63 rfl Tryd.ntmps63 res63 (by kernel_rfl) no_facts ?_
  simp (config := { maxSteps := 4000000 }) only [↓sx0, ↓sx1, ↓sx2, ↓sx3, ↓sx4, ↓sx5, ↓sx6, sx0, sx1, sx2, sx3, sx4, sx5, sx6, tf63, ev3_hold, sxo, sxc, sxp, sxq, sxr, sxs, sxl, sxm, simprocAttr]
  intro b
  refine ld_cells [I c.wide, I c.high, .slice aD nD cD, .slice aT nT cT, .slice aS nS cS] List.mem_cons_self rfl rfl ?_
  simp (config := { maxSteps := 4000000 }) only [↓sx0, ↓sx1, ↓sx2, ↓sx3, ↓sx4, ↓sx5, ↓sx6, sx0, sx1, sx2, sx3, sx4, sx5, sx6, tf63, ev3_hold, sxo, sxc, sxp, sxq, sxr, sxs, sxl, sxm, simprocAttr]
  refine ld_cells [I c.wide, I c.high, .slice aD nD cD, .slice aT nT cT, .slice aS nS cS] List.mem_cons_self rfl rfl ?_
  cases hok : c.okB with
  | false =>
    rw [hok] at hck
    simp (config := { maxSteps := 4000000 }) only [↓sx0, ↓sx1, ↓sx2, ↓sx3, ↓sx4, ↓sx5, ↓sx6, sx0, sx1, sx2, sx3, sx4, sx5, sx6, tf63, ev3_hold, sxo, sxc, sxp, sxq, sxr, sxs, sxl, sxm, simprocAttr, hck]
    simp [openE, hok]
  | true =>
    rw [hok] at hck
    simp (config := { maxSteps := 4000000 }) only [↓sx0, ↓sx1, ↓sx2, ↓sx3, ↓sx4, ↓sx5, ↓sx6, sx0, sx1, sx2, sx3, sx4, sx5, sx6, tf63, ev3_hold, sxo, sxc, sxp, sxq, sxr, sxs, sxl, sxm, simprocAttr, hck, dn]
    have hT1 : ∀ {H w'}, HO.cells b 25 [I c.wide, I c.high, .slice aD nD cD, .slice aT nT cT, .slice aS nS cS] ∈ H → Hp ⟨w, fun _ => False⟩ H w' → Tells w' (fun _ => False) vI 88 [.pointer (some ⟨b, 0, none⟩)] (notCell c) := fun hm hp =>
      ⟨Tryd.call88, fun w2 hk a => det_of_fn (by unfold notCell; rw [hnD]; exact cellB_fn w2 b _ _ _ _ _ _ _ (cell_keep (cells_old hm hp) hk) (by omega) a)⟩
    have hT2 : ∀ {H w'}, HO.cells b 25 [I c.wide, I c.high, .slice aD nD cD, .slice aT nT cT, .slice aS nS cS] ∈ H → Hp ⟨w, fun _ => False⟩ H w' → Tells w' (fun _ => False) vI 89 [.pointer (some ⟨b, 0, none⟩)] (notTick c) := fun hm hp =>
      ⟨Tryd.call89, fun w2 hk a => det_of_fn (by unfold notTick; rw [hnT]; exact tickB_fn w2 b _ _ _ _ _ _ _ (cell_keep (cells_old hm hp) hk) (by omega) a)⟩
    have hT3 : ∀ w', Tells w' (fun _ => False) vI 90 [] notDraught := fun w' => ⟨Tryd.call90, fun w2 hk a => det_of_fn (draughtB_fn w2 a)⟩
    refine CallOb.pure (fun w' hp => containsI_fn w' _ lc _ [.pointer (some ⟨b, 0, none⟩)] _ (h1.hp (fun _ _ => id) hp) (by omega) (hT1 (by simp) hp)) ?_
    rintro r N rfl
    cases h6 : lc.any (notCell c) with
    | true =>
      simp (config := { maxSteps := 4000000 }) only [↓sx0, ↓sx1, ↓sx2, ↓sx3, ↓sx4, ↓sx5, ↓sx6, sx0, sx1, sx2, sx3, sx4, sx5, sx6, tf63, ev3_hold, sxo, sxc, sxp, sxq, sxr, sxs, sxl, sxm, simprocAttr]
      simp [openE, hok, h6]
    | false =>
      simp (config := { maxSteps := 4000000 }) only [↓sx0, ↓sx1, ↓sx2, ↓sx3, ↓sx4, ↓sx5, ↓sx6, sx0, sx1, sx2, sx3, sx4, sx5, sx6, tf63, ev3_hold, sxo, sxc, sxp, sxq, sxr, sxs, sxl, sxm, simprocAttr, dn]
      refine CallOb.pure (fun w' hp => containsI_fn w' _ lt _ [.pointer (some ⟨b, 0, none⟩)] _ (h2.hp (fun _ _ => id) hp) (by omega) (hT2 (by simp) hp)) ?_
      rintro r N2 rfl
      cases h7 : lt.any (notTick c) with
      | true =>
        simp (config := { maxSteps := 4000000 }) only [↓sx0, ↓sx1, ↓sx2, ↓sx3, ↓sx4, ↓sx5, ↓sx6, sx0, sx1, sx2, sx3, sx4, sx5, sx6, tf63, ev3_hold, sxo, sxc, sxp, sxq, sxr, sxs, sxl, sxm, simprocAttr]
        simp [openE, hok, h6, h7]
      | false =>
        simp (config := { maxSteps := 4000000 }) only [↓sx0, ↓sx1, ↓sx2, ↓sx3, ↓sx4, ↓sx5, ↓sx6, sx0, sx1, sx2, sx3, sx4, sx5, sx6, tf63, ev3_hold, sxo, sxc, sxp, sxq, sxr, sxs, sxl, sxm, simprocAttr, dn]
        refine CallOb.pure (fun w' hp => containsI_fn w' _ ld _ [] _ (h3.hp (fun _ _ => id) hp) (by omega) (hT3 w')) ?_
        rintro r N3 rfl
        cases h8 : ld.any notDraught with
        | true =>
          simp (config := { maxSteps := 4000000 }) only [↓sx0, ↓sx1, ↓sx2, ↓sx3, ↓sx4, ↓sx5, ↓sx6, sx0, sx1, sx2, sx3, sx4, sx5, sx6, tf63, ev3_hold, sxo, sxc, sxp, sxq, sxr, sxs, sxl, sxm, simprocAttr]
          simp [openE, hok, h6, h7, h8]
        | false =>
          simp (config := { maxSteps := 4000000 }) only [↓sx0, ↓sx1, ↓sx2, ↓sx3, ↓sx4, ↓sx5, ↓sx6, sx0, sx1, sx2, sx3, sx4, sx5, sx6, tf63, ev3_hold, sxo, sxc, sxp, sxq, sxr, sxs, sxl, sxm, simprocAttr]
          simp [openE, hok, h6, h7, h8]
end Go.Proofs.YtogicfoigeongaaDoor

namespace Go.Proofs.YtogicfoigeongaaDoor
open Go.RowKit Go.SX
set_option maxRecDepth 4000
set_option linter.unusedSimpArgs false
set_option linter.unusedVariables false
inductive Rc (W H a : Nat) : Nat → Nat → Prop
  | zero : Rc W H a 0 a
  | step {n x y : Nat} : Rc W H a n x → y ∈ nbL W H x → Rc W H a (n + 1) y
def isD (W H a x n : Nat) : Prop := Rc W H a n x ∧ ∀ m, Rc W H a m x → n ≤ m
theorem isD_uniq {W H a x n m : Nat} (h : isD W H a x n) (k : isD W H a x m) : n = m := Nat.le_antisymm (h.2 m k.1) (k.2 n h.1)
theorem nb_self (W H k : Nat) : k ∈ nbL W H k := List.mem_cons_self
theorem Rc.mono {W H a n x : Nat} (h : Rc W H a n x) : ∀ m, n ≤ m → Rc W H a m x := by
  intro m hm
  induction m with
  | zero => have : n = 0 := by omega
            subst this; exact h
  | succ m ih =>
    by_cases e : n = m + 1
    · subst e; exact h
    · exact .step (ih (by omega)) (nb_self _ _ _)
theorem Rc.lt {W H a n x : Nat} (ha : a < W * H) (h : Rc W H a n x) : x < W * H := by
  induction h with
  | zero => exact ha
  | step _ hy ih => exact nbL_lt ih _ hy
theorem Rc.trans {W H a b n m x : Nat} (h : Rc W H a n b) (k : Rc W H b m x) : Rc W H a (n + m) x := by
  induction k with
  | zero => exact h
  | step _ hy ih => exact .step ih hy
theorem bes_back {W H k d n : Nat} (hk : k < W * H) (hd : d < 6) (h : bes W H k d = some n) : bes W H n ((d + 3) % 6) = some k := by
  have hW : 0 < W := by
    cases W with
    | zero => simp at hk
    | succ w => omega
  have hq : k / W < H := Nat.div_lt_of_lt_mul hk
  have hr : k % W < W := Nat.mod_lt _ hW
  have hkk : k / W * W + k % W = k := by rw [Nat.mul_comm]; exact Nat.div_add_mod k W
  unfold bes at h
  simp only [] at h
  generalize k / W = q at *
  generalize k % W = r at *
  generalize hxe : (r : Int) + (if q % 2 = 1 then (wayAt d).2.1 else (wayAt d).1) = x at h
  generalize hye : (q : Int) + (wayAt d).2.2 = y at h
  split at h
  case isFalse => cases h
  rename_i hc
  simp only [Option.some.injEq] at h
  have hn1 : n / W = y.toNat := by
    rw [← h, Nat.mul_comm, Nat.mul_add_div hW, Nat.div_eq_of_lt (by omega)]
    omega
  have hn2 : n % W = x.toNat := by
    rw [← h, Nat.mul_comm, Nat.mul_add_mod, Nat.mod_eq_of_lt (by omega)]
  unfold bes
  simp only [hn1, hn2]
  have key : (x.toNat : Int) + (if y.toNat % 2 = 1 then (wayAt ((d + 3) % 6)).2.1 else (wayAt ((d + 3) % 6)).1) = r ∧ (y.toNat : Int) + (wayAt ((d + 3) % 6)).2.2 = q := by
    have : d = 0 ∨ d = 1 ∨ d = 2 ∨ d = 3 ∨ d = 4 ∨ d = 5 := by omega
    rcases this with rfl | rfl | rfl | rfl | rfl | rfl <;> simp [wayAt, ways6] at hxe hye ⊢ <;> (by_cases hp : q % 2 = 1 <;> (try simp [hp] at hxe) <;> (refine ⟨?_, by omega⟩) <;> (try split) <;> omega)
  rw [key.1, key.2, if_pos (by omega)]
  simp only [Int.toNat_natCast, hkk]
theorem nb_symm {W H x y : Nat} (hx : x < W * H) (h : y ∈ nbL W H x) : x ∈ nbL W H y := by
  rcases List.mem_cons.1 h with rfl | h
  · exact nb_self _ _ _
  · obtain ⟨d, hd, hb⟩ := List.mem_filterMap.1 h
    rw [List.mem_range] at hd
    exact List.mem_cons_of_mem _ (List.mem_filterMap.2 ⟨(d + 3) % 6, List.mem_range.2 (by omega), bes_back hx hd hb⟩)
theorem Rc.symm {W H a n x : Nat} (ha : a < W * H) (h : Rc W H a n x) : Rc W H x n a := by
  induction h with
  | zero => exact .zero
  | @step n x y hx hy ih =>
    have := (Rc.step .zero (nb_symm (hx.lt ha) hy)).trans ih
    rwa [Nat.add_comm] at this
end Go.Proofs.YtogicfoigeongaaDoor

namespace Go.Proofs.YtogicfoigeongaaDoor
open Go.RowKit Go.SX
set_option maxRecDepth 4000
set_option linter.unusedSimpArgs false
set_option linter.unusedVariables false
theorem at_cell {W x y : Nat} (hx : x < W) : (y * W + x) / W = y ∧ (y * W + x) % W = x := by
  have hW : 0 < W := by omega
  constructor
  · rw [Nat.mul_comm, Nat.mul_add_div hW, Nat.div_eq_of_lt hx, Nat.add_zero]
  · rw [Nat.mul_comm, Nat.mul_add_mod, Nat.mod_eq_of_lt hx]
theorem east {W H x y : Nat} (hx : x + 1 < W) (hy : y < H) : y * W + (x + 1) ∈ nbL W H (y * W + x) := by
  refine List.mem_cons_of_mem _ (List.mem_filterMap.2 ⟨0, by simp, ?_⟩)
  unfold bes
  obtain ⟨e1, e2⟩ := at_cell (y := y) (show x < W by omega)
  simp only [e1, e2]
  have e3 : (if y % 2 = 1 then (wayAt 0).2.1 else (wayAt 0).1) = 1 := by split <;> rfl
  have e4 : (wayAt 0).2.2 = 0 := rfl
  rw [e3, e4, if_pos (by omega)]
  congr 2 <;> omega
theorem north {W H x y : Nat} (hx : x < W) (hy : y + 1 < H) : (y + 1) * W + x ∈ nbL W H (y * W + x) := by
  refine List.mem_cons_of_mem _ (List.mem_filterMap.2 ⟨if y % 2 = 1 then 2 else 1, by split <;> simp, ?_⟩)
  unfold bes
  obtain ⟨e1, e2⟩ := at_cell (y := y) hx
  simp only [e1, e2]
  by_cases hp : y % 2 = 1
  · simp only [hp, if_true]
    have e3 : (wayAt 2).2.1 = 0 := rfl
    have e4 : (wayAt 2).2.2 = 1 := rfl
    rw [e3, e4, if_pos (by omega)]
    have e5 : ((y : Int) + 1).toNat = y + 1 := by omega
    have e6 : ((x : Int) + 0).toNat = x := by omega
    rw [e5, e6]
  · simp only [hp, if_false]
    have e3 : (wayAt 1).1 = 0 := rfl
    have e4 : (wayAt 1).2.2 = 1 := rfl
    rw [e3, e4, if_pos (by omega)]
    have e5 : ((y : Int) + 1).toNat = y + 1 := by omega
    have e6 : ((x : Int) + 0).toNat = x := by omega
    rw [e5, e6]
theorem horiz {W H y : Nat} (hy : y < H) (x : Nat) : ∀ j, x + j < W → Rc W H (y * W + x) j (y * W + (x + j))
  | 0, _ => .zero
  | j + 1, h => .step (horiz hy x j (by omega)) (east (x := x + j) (by omega) hy)
theorem vert {W H x : Nat} (hx : x < W) (y : Nat) : ∀ j, y + j < H → Rc W H (y * W + x) j ((y + j) * W + x)
  | 0, _ => .zero
  | j + 1, h => .step (vert hx y j (by omega)) (north (y := y + j) hx (by omega))
theorem cell_lt {W H x y : Nat} (hx : x < W) (hy : y < H) : y * W + x < W * H := by
  have := Nat.mul_le_mul_left W (show y + 1 ≤ H by omega)
  rw [Nat.mul_add, Nat.mul_one, Nat.mul_comm W y] at this
  omega
theorem conn {W H a b : Nat} (ha : a < W * H) (hb : b < W * H) : ∃ n, n + 1 ≤ W * H ∧ Rc W H a n b := by
  have hW : 0 < W := by
    cases W with
    | zero => simp at ha
    | succ w => omega
  have ya : a / W < H := Nat.div_lt_of_lt_mul ha
  have yb : b / W < H := Nat.div_lt_of_lt_mul hb
  have xa : a % W < W := Nat.mod_lt _ hW
  have xb : b % W < W := Nat.mod_lt _ hW
  have ea : a / W * W + a % W = a := by rw [Nat.mul_comm]; exact Nat.div_add_mod a W
  have eb : b / W * W + b % W = b := by rw [Nat.mul_comm]; exact Nat.div_add_mod b W
  rw [← ea, ← eb]
  generalize a / W = y1 at *
  generalize a % W = x1 at *
  generalize b / W = y2 at *
  generalize b % W = x2 at *
  have hh : ∃ n, n + 1 ≤ W ∧ Rc W H (y1 * W + x1) n (y1 * W + x2) := by
    by_cases h : x1 ≤ x2
    · have := horiz (W := W) (H := H) ya x1 (x2 - x1) (by omega)
      rw [show x1 + (x2 - x1) = x2 by omega] at this
      exact ⟨_, by omega, this⟩
    · have := horiz (W := W) (H := H) ya x2 (x1 - x2) (by omega)
      rw [show x2 + (x1 - x2) = x1 by omega] at this
      exact ⟨_, by omega, this.symm (cell_lt xb ya)⟩
  have hv : ∃ n, n + 1 ≤ H ∧ Rc W H (y1 * W + x2) n (y2 * W + x2) := by
    by_cases h : y1 ≤ y2
    · have := vert (W := W) (H := H) xb y1 (y2 - y1) (by omega)
      rw [show y1 + (y2 - y1) = y2 by omega] at this
      exact ⟨_, by omega, this⟩
    · have := vert (W := W) (H := H) xb y2 (y1 - y2) (by omega)
      rw [show y2 + (y1 - y2) = y1 by omega] at this
      exact ⟨_, by omega, this.symm (cell_lt xb yb)⟩
  obtain ⟨n1, h1, r1⟩ := hh
  obtain ⟨n2, h2, r2⟩ := hv
  refine ⟨n1 + n2, ?_, r1.trans r2⟩
  have hH : 0 < H := by omega
  have : (n1 + 1) * (n2 + 1) ≤ W * H := Nat.mul_le_mul h1 h2
  have e : (n1 + 1) * (n2 + 1) = n1 * n2 + n1 + n2 + 1 := by rw [Nat.add_mul, Nat.mul_add]; omega
  have := Nat.zero_le (n1 * n2)
  omega
theorem isD_ex {W H a x : Nat} (ha : a < W * H) (hx : x < W * H) : ∃ n, n + 1 ≤ W * H ∧ isD W H a x n := by
  obtain ⟨n, hn, hr⟩ := conn ha hx
  have key : ∀ n, Rc W H a n x → ∃ m, m ≤ n ∧ isD W H a x m := fun n => by
    induction n using Nat.strongRecOn with
    | _ n ih =>
      intro h
      by_cases hc : ∃ m, m < n ∧ Rc W H a m x
      · obtain ⟨m, hm, hmr⟩ := hc
        obtain ⟨k, hk, hkd⟩ := ih m hm hmr
        exact ⟨k, by omega, hkd⟩
      · refine ⟨n, Nat.le_refl _, h, fun m hm => ?_⟩
        by_cases hlt : m < n
        · exact absurd ⟨m, hlt, hm⟩ hc
        · omega
  obtain ⟨m, hm, hd⟩ := key n hr
  exact ⟨m, by omega, hd⟩
end Go.Proofs.YtogicfoigeongaaDoor

namespace Go.Proofs.YtogicfoigeongaaDoor
open Go.RowKit Go.SX
set_option maxRecDepth 4000
set_option maxHeartbeats 8000000
set_option linter.unusedSimpArgs false
set_option linter.unusedVariables false
abbrev Cht.W (c : Cht) : Nat := c.wide.toNat
abbrev Cht.H (c : Cht) : Nat := c.high.toNat
theorem Cht.ok.dims {c : Cht} (h : c.ok) : c.wide = c.W ∧ c.high = c.H ∧ (1 ≤ c.W ∧ c.W ≤ 12) ∧ (1 ≤ c.H ∧ c.H ≤ 12) ∧ c.depth.length = c.W * c.H := by
  obtain ⟨⟨a1, a2⟩, ⟨b1, b2⟩, h3, _⟩ := h
  have e1 : c.wide = c.W := (Int.toNat_of_nonneg (by omega)).symm
  have e2 : c.high = c.H := (Int.toNat_of_nonneg (by omega)).symm
  refine ⟨e1, e2, by omega, by omega, ?_⟩
  rw [e1, e2] at h3
  exact_mod_cast h3
abbrev nts (p : List Nat) : List Int := p.map fun k : Nat => (k : Int)
theorem openE_zero {c : Cht} {lc lt ld : List Int} (h : openE c lc lt ld = 0) : c.ok ∧ (∀ k ∈ lc, 0 ≤ k ∧ k.toNat < c.depth.length) ∧ (∀ t ∈ lt, 0 ≤ t ∧ t.toNat < c.tide.length) ∧ ∀ g ∈ ld, 1 ≤ g ∧ g ≤ 100 := by
  unfold openE at h
  cases hok : c.okB with
  | false => simp [hok] at h
  | true =>
    rw [hok, if_pos rfl] at h
    split at h
    · omega
    · rename_i hn
      simp only [Bool.or_eq_true, not_or, Bool.not_eq_true, List.any_eq_false] at hn
      obtain ⟨⟨h1, h2⟩, h3⟩ := hn
      refine ⟨(okB_iff c).1 hok, fun k hk => ?_, fun t ht => ?_, fun g hg => ?_⟩
      · have := h1 k hk
        simp [notCell, inB_iff] at this
        omega
      · have := h2 t ht
        simp [notTick, inB_iff] at this
        omega
      · have := h3 g hg
        simp [notDraught, inB_iff] at this
        omega
theorem ways_lt {w : World} (h : Ways w) : 0 < w.heap.size := by
  have h1 := h 0 _ rfl
  by_cases hb : 0 < w.heap.size
  · exact hb
  · unfold World.cell? at h1
    rw [Array.getElem?_eq_none (by simpa using hb)] at h1
    cases h1
theorem ld_at1 {α : Type} {w0 : Base} {H : List HO} {ad : Addr} {len cap : Nat} {f : α → List Value} {l : List α} {k : Nat} {u : α} {x : Value} {K : SV → Prop} (h : Rdv w0 H (.slice (some ad) len cap) 1 (cat f l)) (hf : ∀ a, (f a).length = 1)
    (hu : l[k]? = some u) (hx : f u = [x]) (hK : K (.v x)) : hold (LdOb w0 H (ad.add (k * 1)) none K) ⟨0⟩ := by
  obtain ⟨_, _, ad', h1, h2⟩ := at_1 (K := fun _ => K) h hf hu hx fun _ => hK
  cases h1
  exact h2
end Go.Proofs.YtogicfoigeongaaDoor

namespace Go.Proofs.YtogicfoigeongaaDoor
open Go.RowKit Go.SX
set_option maxRecDepth 4000
set_option maxHeartbeats 8000000
set_option linter.unusedSimpArgs false
set_option linter.unusedVariables false
def lv (l : List Int) (x : Nat) : Int := l.getD x 0
theorem lv_set {l : List Int} {x y : Nat} {v : Int} (hy : y < l.length) : lv (l.set y v) x = if x = y then v else lv l x := by
  unfold lv
  rw [List.getD_eq_getElem?_getD, List.getD_eq_getElem?_getD]
  by_cases h : x = y
  · subst h
    rw [List.getElem?_set_self hy, if_pos rfl]; rfl
  · rw [List.getElem?_set_ne (by omega), if_neg h]
structure StI (W H a : Nat) (l : List Int) (n i d : Nat) : Prop where
  len : l.length = W * H
  near : ∀ x k, x < W * H → isD W H a x k → k ≤ n → lv l x = k
  far : ∀ x k, x < W * H → isD W H a x k → n < k → lv l x = (W * H : Nat) ∨ (k = n + 1 ∧ lv l x = (n + 1 : Nat))
  seen : ∀ j e x, isD W H a j n → (j < i ∨ (j = i ∧ e < d)) → e < 6 → bes W H j e = some x → isD W H a x (n + 1) → lv l x = (n + 1 : Nat)
theorem st_init {W H a : Nat} (ha : a < W * H) : StI W H a ((List.replicate (W * H) ((W * H : Nat) : Int)).set a 0) 0 0 0 := by
  have hs : ∀ x, x < W * H → lv ((List.replicate (W * H) ((W * H : Nat) : Int)).set a 0) x = if x = a then 0 else ((W * H : Nat) : Int) := fun x hx => by
    rw [lv_set (by simpa using ha)]
    split
    · rfl
    · unfold lv
      rw [List.getD_eq_getElem?_getD, List.getElem?_replicate, if_pos hx]; rfl
  refine ⟨by simp, fun x k hx hd hk => ?_, fun x k hx hd hk => ?_, fun j e x _ h => by omega⟩
  · have : k = 0 := by omega
    subst this
    have : x = a := by cases hd.1; rfl
    subst this
    rw [hs x hx, if_pos rfl]; rfl
  · have : x ≠ a := fun e => by
      subst e
      have := hd.2 0 .zero
      omega
    rw [hs x hx, if_neg this]
    exact .inl rfl
theorem st_is {W H a : Nat} {l : List Int} {n i d : Nat} (h : StI W H a l n i d) (ha : a < W * H) {x : Nat} (hx : x < W * H) (hn : n < W * H) : lv l x = n ↔ isD W H a x n := by
  obtain ⟨k, _, hk⟩ := isD_ex ha hx
  constructor
  · intro e
    by_cases hle : k ≤ n
    · have := h.near x k hx hk hle
      have : k = n := by omega
      subst this
      exact hk
    · rcases h.far x k hx hk (by omega) with h1 | ⟨_, h1⟩ <;> omega
  · intro hd
    exact h.near x n hx hd (Nat.le_refl _)
theorem st_visit {W H a : Nat} {l : List Int} {n i d x : Nat} (h : StI W H a l n i d) (ha : a < W * H) (hn : n < W * H) (hi : i < W * H) (hd : d < 6) (hD : isD W H a i n) (hb : bes W H i d = some x) :
    StI W H a (l.set x (min (lv l x) ((n + 1 : Nat) : Int))) n i (d + 1) := by
  have hx := bes_lt hb
  have hxl : x < l.length := by rw [h.len]; exact hx
  obtain ⟨k, _, hk⟩ := isD_ex ha hx
  have hk1 : k ≤ n + 1 := hk.2 (n + 1) (.step hD.1 (List.mem_cons_of_mem _ (List.mem_filterMap.2 ⟨d, List.mem_range.2 hd, hb⟩)))
  have hmin : (k ≤ n → min (lv l x) ((n + 1 : Nat) : Int) = lv l x) ∧ (k = n + 1 → min (lv l x) ((n + 1 : Nat) : Int) = ((n + 1 : Nat) : Int)) := by
    constructor
    · intro hle
      have := h.near x k hx hk hle
      omega
    · intro he
      rcases h.far x k hx hk (by omega) with h1 | ⟨_, h1⟩ <;> omega
  have hs : ∀ y, lv (l.set x (min (lv l x) ((n + 1 : Nat) : Int))) y = if y = x then min (lv l x) ((n + 1 : Nat) : Int) else lv l y := fun y => lv_set hxl
  refine ⟨by rw [List.length_set]; exact h.len, fun y m hy hm hle => ?_, fun y m hy hm hlt => ?_, fun j e y hj hje he hbe hy => ?_⟩
  · rw [hs]
    split
    · rename_i e; subst e
      have := isD_uniq hk hm
      subst this
      rw [hmin.1 hle]
      exact h.near _ _ hy hm hle
    · exact h.near y m hy hm hle
  · rw [hs]
    split
    · rename_i e; subst e
      have := isD_uniq hk hm
      subst this
      have : k = n + 1 := by omega
      exact .inr ⟨this, hmin.2 this⟩
    · exact h.far y m hy hm hlt
  · rw [hs]
    split
    · rename_i e; subst e
      have := isD_uniq hk hy
      exact hmin.2 this
    · rename_i hne
      refine h.seen j e y hj ?_ he hbe hy
      rcases hje with hje | ⟨rfl, hed⟩
      · exact .inl hje
      · by_cases e2 : e = d
        · subst e2
          rw [hb] at hbe
          cases hbe
          exact absurd rfl hne
        · exact .inr ⟨rfl, by omega⟩
theorem st_none {W H a : Nat} {l : List Int} {n i d : Nat} (h : StI W H a l n i d) (hb : bes W H i d = none) : StI W H a l n i (d + 1) :=
  ⟨h.len, h.near, h.far, fun j e y hj hje he hbe hy => by
    refine h.seen j e y hj ?_ he hbe hy
    rcases hje with hje | ⟨rfl, hed⟩
    · exact .inl hje
    · by_cases e2 : e = d
      · subst e2; rw [hb] at hbe; cases hbe
      · exact .inr ⟨rfl, by omega⟩⟩
theorem st_next {W H a : Nat} {l : List Int} {n i d : Nat} (h : StI W H a l n i d) (hc : d = 6 ∨ ¬ isD W H a i n) : StI W H a l n (i + 1) 0 :=
  ⟨h.len, h.near, h.far, fun j e y hj hje he hbe hy => by
    refine h.seen j e y hj ?_ he hbe hy
    by_cases e2 : j = i
    · subst e2
      rcases hc with rfl | hc
      · exact .inr ⟨rfl, he⟩
      · exact absurd hj hc
    · exact .inl (by omega)⟩
theorem st_round {W H a : Nat} {l : List Int} {n : Nat} (h : StI W H a l n (W * H) 0) (ha : a < W * H) : StI W H a l (n + 1) 0 0 := by
  refine ⟨h.len, fun x k hx hk hle => ?_, fun x k hx hk hlt => ?_, fun j e x _ hje => by omega⟩
  · by_cases he : k = n + 1
    · subst he
      cases hr : hk.1 with
      | @step _ j _ hj hxj =>
        have hjN := hj.lt ha
        have hjD : isD W H a j n := ⟨hj, fun m hm => by have := hk.2 (m + 1) (.step hm hxj); omega⟩
        rcases List.mem_cons.1 hxj with rfl | hxj
        · have := hk.2 n hj; omega
        · obtain ⟨e, he, hbe⟩ := List.mem_filterMap.1 hxj
          exact h.seen j e x hjD (.inl hjN) (List.mem_range.1 he) hbe hk
    · exact h.near x k hx hk (by omega)
  · rcases h.far x k hx hk (by omega) with h1 | ⟨h1, _⟩
    · exact .inl h1
    · omega
theorem steps_fn (w : World) (hw : Ways w) (W H a : Nat) (x y z : Value) (hW : 1 ≤ W ∧ W ≤ 12) (hH : 1 ≤ H ∧ H ≤ 12) (ha : a < W * H) :
    SX.Fn Tryd.prog 45 [.agg #[I W, I H, x, y, z], I a] w (fun _ => False) fun r N => ∃ b l, r = .slice (some ⟨b, 0, none⟩) (W * H) (W * H) ∧ HO.row (.slice (some ⟨b, 0, none⟩) (W * H) (W * H)) 3 1 (ints l) ∈ N ∧ l.length = W * H ∧ ∀ t k, t < W * H → isD W H a t k → lv l t = k := by
  have hN : W * H ≤ 144 := Nat.mul_le_mul hW.2 hH.2
  have eN : wr ((W : Int) * H) = ((W * H : Nat) : Int) := (wrap_id (by have : ((W : Int) * H) = ((W * H : Nat) : Int) := by simp
                                                                       omega)).trans (by simp)
  have dC : detN 30 [.agg #[I W, I H, x, y, z]] = some (I (wr ((W : Int) * H))) := rfl
  rw [eN] at dC
  generalize hNe : W * H = NN at *
  refine walk [] [] (detN_ok hw id) Tryd.func45 rfl Tryd.ntmps45 res45 (by kernel_rfl) no_facts ?_
  simp (config := { maxSteps := 4000000 }) only [↓sx0, ↓sx1, ↓sx2, ↓sx3, ↓sx4, ↓sx5, ↓sx6, sx0, sx1, sx2, sx3, sx4, sx5, sx6, tf45, ev3_hold, sxo, sxc, sxp, sxq, sxr, sxs, sxl, sxm, Int.reduceBEq, Int.reduceBNe, Int.reduceLT, Int.reduceLE, Int.reduceEq, Int.reduceGT, Int.reduceGE, Int.reduceToNat, ↓reduceIte, List.reduceReplicate, Nat.reduceAdd, Nat.reduceSub, Nat.reduceMul, Nat.reduceLT, Nat.reduceLeDiff, Nat.reduceBEq, Nat.reduceEqDiff, dC]
  refine ⟨by omega, by omega, by omega, fun b => ?_⟩
  rw [show zerosL NN [Value.int IntKind.i64 0] = ints (List.replicate NN 0) from zeros_cat i1 0 _]
  have hrL : ∀ (l : List Int), l.length = NN → ∀ G, Rdv ⟨w, fun _ => False⟩ (G ++ [HO.row (.slice (some ⟨b, 0, none⟩) NN NN) 3 1 (ints l)]) (.slice (some ⟨b, 0, none⟩) NN NN) 1 (ints l) := fun l hl G =>
    row_rdv (E := 3) (by simp) ⟨_, _, _, rfl, by rw [cat_len i1_len, hl], fun h => by cases h⟩
  have hat : ∀ (l : List Int) (x : Nat), x < l.length → l[x]? = some (lv l x) := fun l x h => getD_at h 0
  refine loop_const [(6, 6), (15, 25)] (fun k : Nat => [(6, I k)]) (fun k H1 => k ≤ NN ∧ H1 = [HO.row (.slice (some ⟨b, 0, none⟩) NN NN) 3 1 (ints (List.replicate k (NN : Int) ++ List.replicate (NN - k) 0))]) (fun k => NN - k) 0 ?_ ⟨Nat.zero_le _, rfl⟩ ?_
  · simp (config := { maxSteps := 4000000 }) only [↓sx0, ↓sx1, ↓sx2, ↓sx3, ↓sx4, ↓sx5, ↓sx6, sx0, sx1, sx2, sx3, sx4, sx5, sx6, tf45, ev3_hold, sxo, sxc, sxp, sxq, sxr, sxs, sxl, sxm, Int.reduceBEq, Int.reduceBNe, Int.reduceLT, Int.reduceLE, Int.reduceEq, Int.reduceGT, Int.reduceGE, Int.reduceToNat, ↓reduceIte, List.reduceReplicate, Nat.reduceAdd, Nat.reduceSub, Nat.reduceMul, Nat.reduceLT, Nat.reduceLeDiff, Nat.reduceBEq, Nat.reduceEqDiff]
    try simp
  · rintro k H1 g ⟨hk, rfl⟩
    by_cases hkn : k = NN
    case neg =>
      have e7 : ((k : Int) < (NN : Int)) = True := eq_true (by omega)
      have e8 : wr ((k : Int) + 1) = ((k + 1 : Nat) : Int) := (wrap_id (by omega)).trans (by omega)
      simp (config := { maxSteps := 4000000 }) only [↓sx0, ↓sx1, ↓sx2, ↓sx3, ↓sx4, ↓sx5, ↓sx6, sx0, sx1, sx2, sx3, sx4, sx5, sx6, tf45, ev3_hold, sxo, sxc, sxp, sxq, sxr, sxs, sxl, sxm, Int.reduceBEq, Int.reduceBNe, Int.reduceLT, Int.reduceLE, Int.reduceEq, Int.reduceGT, Int.reduceGE, Int.reduceToNat, ↓reduceIte, List.reduceReplicate, Nat.reduceAdd, Nat.reduceSub, Nat.reduceMul, Nat.reduceLT, Nat.reduceLeDiff, Nat.reduceBEq, Nat.reduceEqDiff, e7]
      refine ⟨by omega, _, rfl, ?_⟩
      refine wr_at (A := []) (B := []) (l := List.replicate k (NN : Int) ++ List.replicate (NN - k) 0) (k := k) (u := (NN : Int)) rfl i1_len (by simp; omega) (by simp; omega) ?_
      have hset : (List.replicate k (NN : Int) ++ List.replicate (NN - k) (0 : Int)).set k (NN : Int) = List.replicate (k + 1) (NN : Int) ++ List.replicate (NN - (k + 1)) 0 := by
        rw [List.set_append_right _ _ (by simp), List.length_replicate, Nat.sub_self, show NN - k = (NN - (k + 1)) + 1 by omega, List.replicate_succ, List.set_cons_zero, List.replicate_succ', List.append_assoc, List.singleton_append]
      rw [hset]
      simp (config := { maxSteps := 4000000 }) only [↓sx0, ↓sx1, ↓sx2, ↓sx3, ↓sx4, ↓sx5, ↓sx6, sx0, sx1, sx2, sx3, sx4, sx5, sx6, tf45, ev3_hold, sxo, sxc, sxp, sxq, sxr, sxs, sxl, sxm, Int.reduceBEq, Int.reduceBNe, Int.reduceLT, Int.reduceLE, Int.reduceEq, Int.reduceGT, Int.reduceGE, Int.reduceToNat, ↓reduceIte, List.reduceReplicate, Nat.reduceAdd, Nat.reduceSub, Nat.reduceMul, Nat.reduceLT, Nat.reduceLeDiff, Nat.reduceBEq, Nat.reduceEqDiff, e8]
      exact ⟨k + 1, _, rfl, HImp.refl _ _, ⟨by omega, rfl⟩, by omega⟩
    subst hkn
    have e7 : ((k : Int) < (k : Int)) = False := eq_false (by omega)
    rw [Nat.sub_self, List.replicate_zero, List.append_nil]
    simp (config := { maxSteps := 4000000 }) only [↓sx0, ↓sx1, ↓sx2, ↓sx3, ↓sx4, ↓sx5, ↓sx6, sx0, sx1, sx2, sx3, sx4, sx5, sx6, tf45, ev3_hold, sxo, sxc, sxp, sxq, sxr, sxs, sxl, sxm, Int.reduceBEq, Int.reduceBNe, Int.reduceLT, Int.reduceLE, Int.reduceEq, Int.reduceGT, Int.reduceGE, Int.reduceToNat, ↓reduceIte, List.reduceReplicate, Nat.reduceAdd, Nat.reduceSub, Nat.reduceMul, Nat.reduceLT, Nat.reduceLeDiff, Nat.reduceBEq, Nat.reduceEqDiff, e7]
    refine ⟨by omega, by omega, _, rfl, ?_⟩
    refine wr_at (A := []) (B := []) (l := List.replicate k (k : Int)) (k := a) (u := (0 : Int)) rfl i1_len (by simp) (by simp; omega) ?_
    simp (config := { maxSteps := 4000000 }) only [↓sx0, ↓sx1, ↓sx2, ↓sx3, ↓sx4, ↓sx5, ↓sx6, sx0, sx1, sx2, sx3, sx4, sx5, sx6, tf45, ev3_hold, sxo, sxc, sxp, sxq, sxr, sxs, sxl, sxm, Int.reduceBEq, Int.reduceBNe, Int.reduceLT, Int.reduceLE, Int.reduceEq, Int.reduceGT, Int.reduceGE, Int.reduceToNat, ↓reduceIte, List.reduceReplicate, Nat.reduceAdd, Nat.reduceSub, Nat.reduceMul, Nat.reduceLT, Nat.reduceLeDiff, Nat.reduceBEq, Nat.reduceEqDiff]
    have hini : StI W H a ((List.replicate k (k : Int)).set a 0) 0 0 0 := by
      have := st_init (W := W) (H := H) (a := a) (by omega)
      rwa [hNe] at this
    refine loop_const [(7, 11), (29, 70)] (fun p : Nat × List Int => [(7, I p.1)]) (fun p H1 => p.1 ≤ k ∧ StI W H a p.2 p.1 0 0 ∧ H1 = [HO.row (.slice (some ⟨b, 0, none⟩) k k) 3 1 (ints p.2)]) (fun p => k - p.1) (0, (List.replicate k (k : Int)).set a 0) ?_ ⟨Nat.zero_le _, hini, rfl⟩ ?_
    · simp (config := { maxSteps := 4000000 }) only [↓sx0, ↓sx1, ↓sx2, ↓sx3, ↓sx4, ↓sx5, ↓sx6, sx0, sx1, sx2, sx3, sx4, sx5, sx6, tf45, ev3_hold, sxo, sxc, sxp, sxq, sxr, sxs, sxl, sxm, Int.reduceBEq, Int.reduceBNe, Int.reduceLT, Int.reduceLE, Int.reduceEq, Int.reduceGT, Int.reduceGE, Int.reduceToNat, ↓reduceIte, List.reduceReplicate, Nat.reduceAdd, Nat.reduceSub, Nat.reduceMul, Nat.reduceLT, Nat.reduceLeDiff, Nat.reduceBEq, Nat.reduceEqDiff]
      try simp
    · rintro ⟨n, l⟩ H1 g2 hinv
      simp only [] at hinv
      obtain ⟨hn, hst, rfl⟩ := hinv
      by_cases hnk : n = k
      · subst hnk
        have e8 : ((n : Int) < (n : Int)) = False := eq_false (by omega)
        simp (config := { maxSteps := 4000000 }) only [↓sx0, ↓sx1, ↓sx2, ↓sx3, ↓sx4, ↓sx5, ↓sx6, sx0, sx1, sx2, sx3, sx4, sx5, sx6, tf45, ev3_hold, sxo, sxc, sxp, sxq, sxr, sxs, sxl, sxm, Int.reduceBEq, Int.reduceBNe, Int.reduceLT, Int.reduceLE, Int.reduceEq, Int.reduceGT, Int.reduceGE, Int.reduceToNat, ↓reduceIte, List.reduceReplicate, Nat.reduceAdd, Nat.reduceSub, Nat.reduceMul, Nat.reduceLT, Nat.reduceLeDiff, Nat.reduceBEq, Nat.reduceEqDiff, e8]
        refine ⟨b, l, rfl, List.mem_cons_self, by rw [hst.len, hNe], fun t m ht hm => ?_⟩
        obtain ⟨m', hm', hd'⟩ := isD_ex (show a < W * H by omega) (show t < W * H by omega)
        have := isD_uniq hm hd'
        exact hst.near t m (by omega) hm (by omega)
      have e8 : ((n : Int) < (k : Int)) = True := eq_true (by omega)
      have e9 : wr ((n : Int) + 1) = ((n + 1 : Nat) : Int) := (wrap_id (by omega)).trans (by omega)
      simp (config := { maxSteps := 4000000 }) only [↓sx0, ↓sx1, ↓sx2, ↓sx3, ↓sx4, ↓sx5, ↓sx6, sx0, sx1, sx2, sx3, sx4, sx5, sx6, tf45, ev3_hold, sxo, sxc, sxp, sxq, sxr, sxs, sxl, sxm, Int.reduceBEq, Int.reduceBNe, Int.reduceLT, Int.reduceLE, Int.reduceEq, Int.reduceGT, Int.reduceGE, Int.reduceToNat, ↓reduceIte, List.reduceReplicate, Nat.reduceAdd, Nat.reduceSub, Nat.reduceMul, Nat.reduceLT, Nat.reduceLeDiff, Nat.reduceBEq, Nat.reduceEqDiff, e8]
      refine loop_const [(8, 11), (35, 70)] (fun p : Nat × List Int => [(8, I p.1)]) (fun p H1 => p.1 ≤ k ∧ StI W H a p.2 n p.1 0 ∧ H1 = [HO.row (.slice (some ⟨b, 0, none⟩) k k) 3 1 (ints p.2)]) (fun p => k - p.1) (0, l) ?_ ⟨Nat.zero_le _, hst, rfl⟩ ?_
      · simp (config := { maxSteps := 4000000 }) only [↓sx0, ↓sx1, ↓sx2, ↓sx3, ↓sx4, ↓sx5, ↓sx6, sx0, sx1, sx2, sx3, sx4, sx5, sx6, tf45, ev3_hold, sxo, sxc, sxp, sxq, sxr, sxs, sxl, sxm, Int.reduceBEq, Int.reduceBNe, Int.reduceLT, Int.reduceLE, Int.reduceEq, Int.reduceGT, Int.reduceGE, Int.reduceToNat, ↓reduceIte, List.reduceReplicate, Nat.reduceAdd, Nat.reduceSub, Nat.reduceMul, Nat.reduceLT, Nat.reduceLeDiff, Nat.reduceBEq, Nat.reduceEqDiff]
        try simp
      · rintro ⟨i, l⟩ H1 g3 hinv
        simp only [] at hinv
        obtain ⟨hi, hst, rfl⟩ := hinv
        by_cases hik : i = k
        · subst hik
          have e10 : ((i : Int) < (i : Int)) = False := eq_false (by omega)
          simp (config := { maxSteps := 4000000 }) only [↓sx0, ↓sx1, ↓sx2, ↓sx3, ↓sx4, ↓sx5, ↓sx6, sx0, sx1, sx2, sx3, sx4, sx5, sx6, tf45, ev3_hold, sxo, sxc, sxp, sxq, sxr, sxs, sxl, sxm, Int.reduceBEq, Int.reduceBNe, Int.reduceLT, Int.reduceLE, Int.reduceEq, Int.reduceGT, Int.reduceGE, Int.reduceToNat, ↓reduceIte, List.reduceReplicate, Nat.reduceAdd, Nat.reduceSub, Nat.reduceMul, Nat.reduceLT, Nat.reduceLeDiff, Nat.reduceBEq, Nat.reduceEqDiff, e10, e9]
          exact ⟨(n + 1, l), _, rfl, HImp.refl _ _, ⟨by simp only []; omega, st_round (by rw [hNe]; exact hst) (by omega), rfl⟩, by simp only []; omega⟩
        have e10 : ((i : Int) < (k : Int)) = True := eq_true (by omega)
        have e11 : wr ((i : Int) + 1) = ((i + 1 : Nat) : Int) := (wrap_id (by omega)).trans (by omega)
        simp (config := { maxSteps := 4000000 }) only [↓sx0, ↓sx1, ↓sx2, ↓sx3, ↓sx4, ↓sx5, ↓sx6, sx0, sx1, sx2, sx3, sx4, sx5, sx6, tf45, ev3_hold, sxo, sxc, sxp, sxq, sxr, sxs, sxl, sxm, Int.reduceBEq, Int.reduceBNe, Int.reduceLT, Int.reduceLE, Int.reduceEq, Int.reduceGT, Int.reduceGE, Int.reduceToNat, ↓reduceIte, List.reduceReplicate, Nat.reduceAdd, Nat.reduceSub, Nat.reduceMul, Nat.reduceLT, Nat.reduceLeDiff, Nat.reduceBEq, Nat.reduceEqDiff, e10]
        refine loop_const [(9, 11), (41, 70)] (fun p : Nat × List Int => [(9, I p.1)]) (fun p H1 => p.1 ≤ 6 ∧ StI W H a p.2 n i p.1 ∧ H1 = [HO.row (.slice (some ⟨b, 0, none⟩) k k) 3 1 (ints p.2)]) (fun p => 6 - p.1) (0, l) ?_ ⟨Nat.zero_le _, hst, rfl⟩ ?_
        · simp (config := { maxSteps := 4000000 }) only [↓sx0, ↓sx1, ↓sx2, ↓sx3, ↓sx4, ↓sx5, ↓sx6, sx0, sx1, sx2, sx3, sx4, sx5, sx6, tf45, ev3_hold, sxo, sxc, sxp, sxq, sxr, sxs, sxl, sxm, Int.reduceBEq, Int.reduceBNe, Int.reduceLT, Int.reduceLE, Int.reduceEq, Int.reduceGT, Int.reduceGE, Int.reduceToNat, ↓reduceIte, List.reduceReplicate, Nat.reduceAdd, Nat.reduceSub, Nat.reduceMul, Nat.reduceLT, Nat.reduceLeDiff, Nat.reduceBEq, Nat.reduceEqDiff]
          try simp
        · rintro ⟨d, l⟩ H1 g4 hinv
          simp only [] at hinv
          obtain ⟨hd, hst, rfl⟩ := hinv
          have hll : l.length = k := by rw [hst.len, hNe]
          by_cases hd6 : d = 6
          · subst hd6
            have e12 : (((6 : Nat) : Int) < 6) = False := eq_false (by omega)
            simp (config := { maxSteps := 4000000 }) only [↓sx0, ↓sx1, ↓sx2, ↓sx3, ↓sx4, ↓sx5, ↓sx6, sx0, sx1, sx2, sx3, sx4, sx5, sx6, tf45, ev3_hold, sxo, sxc, sxp, sxq, sxr, sxs, sxl, sxm, Int.reduceBEq, Int.reduceBNe, Int.reduceLT, Int.reduceLE, Int.reduceEq, Int.reduceGT, Int.reduceGE, Int.reduceToNat, ↓reduceIte, List.reduceReplicate, Nat.reduceAdd, Nat.reduceSub, Nat.reduceMul, Nat.reduceLT, Nat.reduceLeDiff, Nat.reduceBEq, Nat.reduceEqDiff, e12, e11]
            exact ⟨(i + 1, l), _, rfl, HImp.refl _ _, ⟨by simp only []; omega, st_next hst (.inl rfl), rfl⟩, by simp only []; omega⟩
          have e12 : ((d : Int) < 6) = True := eq_true (by omega)
          have e13 : wr ((d : Int) + 1) = ((d + 1 : Nat) : Int) := (wrap_id (by omega)).trans (by omega)
          have his := st_is hst (show a < W * H by omega) (show i < W * H by omega) (show n < W * H by omega)
          simp (config := { maxSteps := 4000000 }) only [↓sx0, ↓sx1, ↓sx2, ↓sx3, ↓sx4, ↓sx5, ↓sx6, sx0, sx1, sx2, sx3, sx4, sx5, sx6, tf45, ev3_hold, sxo, sxc, sxp, sxq, sxr, sxs, sxl, sxm, Int.reduceBEq, Int.reduceBNe, Int.reduceLT, Int.reduceLE, Int.reduceEq, Int.reduceGT, Int.reduceGE, Int.reduceToNat, ↓reduceIte, List.reduceReplicate, Nat.reduceAdd, Nat.reduceSub, Nat.reduceMul, Nat.reduceLT, Nat.reduceLeDiff, Nat.reduceBEq, Nat.reduceEqDiff, e12, e10]
          refine ⟨by omega, _, rfl, ld_at1 (hrL l hll []) i1_len (hat l i (by omega)) rfl ?_⟩
          by_cases hln : lv l i = n
          case neg =>
            have e14 : (lv l i = (n : Int)) = False := eq_false hln
            simp (config := { maxSteps := 4000000 }) only [↓sx0, ↓sx1, ↓sx2, ↓sx3, ↓sx4, ↓sx5, ↓sx6, sx0, sx1, sx2, sx3, sx4, sx5, sx6, tf45, ev3_hold, sxo, sxc, sxp, sxq, sxr, sxs, sxl, sxm, Int.reduceBEq, Int.reduceBNe, Int.reduceLT, Int.reduceLE, Int.reduceEq, Int.reduceGT, Int.reduceGE, Int.reduceToNat, ↓reduceIte, List.reduceReplicate, Nat.reduceAdd, Nat.reduceSub, Nat.reduceMul, Nat.reduceLT, Nat.reduceLeDiff, Nat.reduceBEq, Nat.reduceEqDiff, e14, e11]
            exact ⟨(i + 1, l), _, rfl, HImp.refl _ _, ⟨by simp only []; omega, st_next hst (.inr fun h => hln (his.2 h)), rfl⟩, by simp only []; omega⟩
          have e14 : (lv l i = (n : Int)) = True := eq_true hln
          have hbe := (detN_eq hW hH (show i < W * H by omega) (show d < 6 by omega) x y z).2
          cases hb : bes W H i d with
          | none =>
            have hv : besV W H i d = .tuple #[I 0, .bool false] := by unfold besV; rw [hb]
            rw [hv] at hbe
            simp (config := { maxSteps := 4000000 }) only [↓sx0, ↓sx1, ↓sx2, ↓sx3, ↓sx4, ↓sx5, ↓sx6, sx0, sx1, sx2, sx3, sx4, sx5, sx6, tf45, ev3_hold, sxo, sxc, sxp, sxq, sxr, sxs, sxl, sxm, Int.reduceBEq, Int.reduceBNe, Int.reduceLT, Int.reduceLE, Int.reduceEq, Int.reduceGT, Int.reduceGE, Int.reduceToNat, ↓reduceIte, List.reduceReplicate, Nat.reduceAdd, Nat.reduceSub, Nat.reduceMul, Nat.reduceLT, Nat.reduceLeDiff, Nat.reduceBEq, Nat.reduceEqDiff, e14, hbe, e13]
            exact ⟨(d + 1, l), _, rfl, HImp.refl _ _, ⟨by simp only []; omega, st_none hst hb, rfl⟩, by simp only []; omega⟩
          | some t =>
            have hv : besV W H i d = .tuple #[I t, .bool true] := by unfold besV; rw [hb]
            rw [hv] at hbe
            have htN := bes_lt hb
            simp (config := { maxSteps := 4000000 }) only [↓sx0, ↓sx1, ↓sx2, ↓sx3, ↓sx4, ↓sx5, ↓sx6, sx0, sx1, sx2, sx3, sx4, sx5, sx6, tf45, ev3_hold, sxo, sxc, sxp, sxq, sxr, sxs, sxl, sxm, Int.reduceBEq, Int.reduceBNe, Int.reduceLT, Int.reduceLE, Int.reduceEq, Int.reduceGT, Int.reduceGE, Int.reduceToNat, ↓reduceIte, List.reduceReplicate, Nat.reduceAdd, Nat.reduceSub, Nat.reduceMul, Nat.reduceLT, Nat.reduceLeDiff, Nat.reduceBEq, Nat.reduceEqDiff, e14, hbe]
            refine ⟨by omega, by omega, _, rfl, ld_at1 (hrL l hll []) i1_len (hat l t (by omega)) rfl ?_⟩
            simp (config := { maxSteps := 4000000 }) only [↓sx0, ↓sx1, ↓sx2, ↓sx3, ↓sx4, ↓sx5, ↓sx6, sx0, sx1, sx2, sx3, sx4, sx5, sx6, tf45, ev3_hold, sxo, sxc, sxp, sxq, sxr, sxs, sxl, sxm, Int.reduceBEq, Int.reduceBNe, Int.reduceLT, Int.reduceLE, Int.reduceEq, Int.reduceGT, Int.reduceGE, Int.reduceToNat, ↓reduceIte, List.reduceReplicate, Nat.reduceAdd, Nat.reduceSub, Nat.reduceMul, Nat.reduceLT, Nat.reduceLeDiff, Nat.reduceBEq, Nat.reduceEqDiff, e9]
            refine ⟨by omega, by omega, _, rfl, ?_⟩
            refine wr_at (A := []) (B := []) (l := l) (k := t) (u := min (lv l t) ((n + 1 : Nat) : Int)) rfl i1_len hll (by omega) ?_
            simp (config := { maxSteps := 4000000 }) only [↓sx0, ↓sx1, ↓sx2, ↓sx3, ↓sx4, ↓sx5, ↓sx6, sx0, sx1, sx2, sx3, sx4, sx5, sx6, tf45, ev3_hold, sxo, sxc, sxp, sxq, sxr, sxs, sxl, sxm, Int.reduceBEq, Int.reduceBNe, Int.reduceLT, Int.reduceLE, Int.reduceEq, Int.reduceGT, Int.reduceGE, Int.reduceToNat, ↓reduceIte, List.reduceReplicate, Nat.reduceAdd, Nat.reduceSub, Nat.reduceMul, Nat.reduceLT, Nat.reduceLeDiff, Nat.reduceBEq, Nat.reduceEqDiff, e13]
            exact ⟨(d + 1, _), _, rfl, HImp.refl _ _, ⟨by simp only []; omega, st_visit hst (by omega) (by omega) (by omega) (by omega) (his.1 hln) hb, rfl⟩, by simp only []; omega⟩
end Go.Proofs.YtogicfoigeongaaDoor

namespace Go.Proofs.YtogicfoigeongaaDoor
open Go.RowKit Go.SX
set_option maxRecDepth 4000
set_option maxHeartbeats 8000000
set_option linter.unusedSimpArgs false
set_option linter.unusedVariables false
noncomputable def detR (v : Value) (c : Cht) : Nat → List Value → Option Value
  | 76, xs => detN 76 xs
  | 68, xs => detN 68 xs
  | 21, [.agg ⟨[.int .i64 a, .int .i64 b, _, _, _]⟩, .int .i64 n] => some (.bool (isCellB a b n))
  | g, xs => detM v c g xs
theorem detR_ok {v : Value} {c : Cht} {w0 : World} {X : Nat → Prop} (hw : Ways w0) (hc : ChOk w0 v c) (hX : ∀ b, b < w0.heap.size → ¬ X b) : DetFn Tryd.prog ⟨w0, X⟩ (detR v c) := by
  intro g args r h w hk
  unfold detR at h
  split at h
  · exact detN_ok hw (hX _ (ways_lt hw)) _ _ _ h w hk
  · exact detN_ok hw (hX _ (ways_lt hw)) _ _ _ h w hk
  · cases h
    exact det_of_fn (isCell_fn w _ _ _ _ _ _)
  · exact detM_ok hc hX _ _ _ h w hk
theorem detR_eq (v : Value) (c : Cht) : (∀ a b x y z n, detR v c 21 [.agg #[I a, I b, x, y, z], I n] = some (.bool (isCellB a b n))) ∧ (∀ a b x y z, detR v c 30 [.agg #[I a, I b, x, y, z]] = some (I (wr (a * b)))) ∧
    (∀ a b x ad n c' z t, detR v c 32 [.agg #[I a, I b, x, .slice ad n c', z], I t] = some (.bool (inB t 0 (wr ((n : Int) - 1))))) ∧
    (∀ n l h : Int, detR v c 70 [I n, I l, I h] = some (.bool (inB n l h))) ∧ (∀ n l h : Int, detR v c 44 [I n, I l, I h] = some (.bool (inB n l h))) := ⟨fun _ _ _ _ _ _ => rfl, fun _ _ _ _ _ => rfl, fun _ _ _ _ _ _ _ _ => rfl, fun _ _ _ => rfl, fun _ _ _ => rfl⟩
theorem detR_check {v : Value} {c : Cht} (hs : c.small) : detR v c 49 [v] = some (I (if c.okB then 0 else 10)) ∧ detR v c 29 [v] = some (I (if c.okB then 0 else 10)) := detM_check hs
theorem detR_beside (v : Value) (c : Cht) {W H k d : Nat} (hW : 1 ≤ W ∧ W ≤ 12) (hH : 1 ≤ H ∧ H ≤ 12) (hk : k < W * H) (hd : d < 6) (x y z : Value) :
    detR v c 76 [.agg #[I W, I H, x, y, z], I k, I d] = some (besV W H k d) ∧ detR v c 68 [.agg #[I W, I H, x, y, z], I k, I d] = some (besV W H k d) := detN_eq hW hH hk hd x y z
noncomputable def nextE (c : Cht) (k d : Int) : Value :=
  if c.okB then (if notCell c k || !inB d 0 5 then .tuple #[I 0, I 1] else match bes c.W c.H k.toNat d.toNat with
    | some n => .tuple #[I n, I 0]
    | none => .tuple #[I 0, I 3]) else .tuple #[I 0, I 10]
end Go.Proofs.YtogicfoigeongaaDoor

namespace Go.Proofs.YtogicfoigeongaaDoor
open Go.RowKit Go.SX
set_option maxRecDepth 4000
set_option maxHeartbeats 8000000
set_option linter.unusedSimpArgs false
set_option linter.unusedVariables false
theorem openE1 {c : Cht} (a : Int) : openE c [a] [] [] = if c.okB then (if notCell c a then 1 else 0) else 10 := by
  unfold openE
  try simp
theorem next1_fn (w : World) (hw : Ways w) (v : Value) (c : Cht) (hc : ChOk w v c) (hsm : c.small) (k d : Int) :
    SX.Fn Tryd.prog 50 [v, I k, I d] w (fun _ => False) fun r N => r = nextE c k d := by
  have hc0 := hc
  have hD := detR_ok (X := fun _ => False) hw hc (fun _ _ => id)
  obtain ⟨sD, sT, sS, rfl, hsD, hsT, hsS⟩ := hc
  obtain ⟨aD, nD, cD, rfl⟩ := hsD.shape
  obtain ⟨aT, nT, cT, rfl⟩ := hsT.shape
  obtain ⟨aS, nS, cS, rfl⟩ := hsS.shape
  have hE := openE1 (c := c) k
  unfold nextE
  have dn : (∀ xs, detR (.agg #[I c.wide, I c.high, .slice aD nD cD, .slice aT nT cT, .slice aS nS cS]) c 63 xs = none) := fun _ => rfl
  refine walk [] [] hD Tryd.func50 rfl Tryd.ntmps50 res50 (by kernel_rfl) no_facts ?_
  simp (config := { maxSteps := 4000000 }) only [↓sx0, ↓sx1, ↓sx2, ↓sx3, ↓sx4, ↓sx5, ↓sx6, sx0, sx1, sx2, sx3, sx4, sx5, sx6, tf50, ev3_hold, sxo, sxc, sxp, sxq, sxr, sxs, sxl, sxm, simprocAttr, dn]
  intro b1
  refine CallOb.pure (fun w' hp => open_fn w' _ _ _ _ c [k] [] [] (hc0.hp hp) hsm (row_hp (E := 3) (xs := ints [k]) (by simp [cat, i1]) hp) (Sl.nil _ _) (Sl.nil _ _) (by simp)) ?_
  rintro r N rfl
  cases hok : c.okB with
  | false =>
    rw [hok] at hE
    simp only [Bool.false_eq_true, if_false] at hE
    rw [hE]
    simp (config := { maxSteps := 4000000 }) only [↓sx0, ↓sx1, ↓sx2, ↓sx3, ↓sx4, ↓sx5, ↓sx6, sx0, sx1, sx2, sx3, sx4, sx5, sx6, tf50, ev3_hold, sxo, sxc, sxp, sxq, sxr, sxs, sxl, sxm, simprocAttr]
  | true =>
  have hok' := (okB_iff c).1 hok
  rw [hok, if_pos rfl] at hE
  cases h1 : notCell c k with
  | true =>
    rw [h1, if_pos rfl] at hE
    rw [hE]
    simp (config := { maxSteps := 4000000 }) only [↓sx0, ↓sx1, ↓sx2, ↓sx3, ↓sx4, ↓sx5, ↓sx6, sx0, sx1, sx2, sx3, sx4, sx5, sx6, tf50, ev3_hold, sxo, sxc, sxp, sxq, sxr, sxs, sxl, sxm, simprocAttr]
  | false =>
  rw [h1] at hE
  simp only [Bool.false_eq_true, if_false] at hE
  rw [hE]
  cases h2 : inB d 0 5 with
  | false => simp (config := { maxSteps := 4000000 }) only [↓sx0, ↓sx1, ↓sx2, ↓sx3, ↓sx4, ↓sx5, ↓sx6, sx0, sx1, sx2, sx3, sx4, sx5, sx6, tf50, ev3_hold, sxo, sxc, sxp, sxq, sxr, sxs, sxl, sxm, simprocAttr, detR_eq, h2]
  | true =>
  obtain ⟨eW, eH, hW, hH, hlen⟩ := hok'.dims
  have hk : 0 ≤ k ∧ k ≤ (c.depth.length : Int) - 1 := by
    unfold notCell at h1
    rw [Bool.not_eq_false', inB_iff] at h1
    exact h1
  rw [inB_iff] at h2
  obtain ⟨K, hK⟩ : ∃ K : Nat, k = K := ⟨k.toNat, by omega⟩
  obtain ⟨D, hD'⟩ : ∃ D : Nat, d = D := ⟨d.toNat, by omega⟩
  subst hK hD'
  have h2' := (inB_iff (D : Int) 0 5).2 h2
  have hb := (detR_beside (.agg #[I c.wide, I c.high, .slice aD nD cD, .slice aT nT cT, .slice aS nS cS]) c hW hH (k := K) (d := D) (by omega) (by omega) (.slice aD nD cD) (.slice aT nT cT) (.slice aS nS cS)).1
  rw [← eW, ← eH] at hb
  cases hbe : bes c.W c.H K D with
  | none =>
    have hv : besV c.W c.H K D = .tuple #[I 0, .bool false] := by unfold besV; rw [hbe]
    rw [hv] at hb
    simp (config := { maxSteps := 4000000 }) only [↓sx0, ↓sx1, ↓sx2, ↓sx3, ↓sx4, ↓sx5, ↓sx6, sx0, sx1, sx2, sx3, sx4, sx5, sx6, tf50, ev3_hold, sxo, sxc, sxp, sxq, sxr, sxs, sxl, sxm, simprocAttr, detR_eq, h2', hb, hbe]
  | some n =>
    have hv : besV c.W c.H K D = .tuple #[I n, .bool true] := by unfold besV; rw [hbe]
    rw [hv] at hb
    simp (config := { maxSteps := 4000000 }) only [↓sx0, ↓sx1, ↓sx2, ↓sx3, ↓sx4, ↓sx5, ↓sx6, sx0, sx1, sx2, sx3, sx4, sx5, sx6, tf50, ev3_hold, sxo, sxc, sxp, sxq, sxr, sxs, sxl, sxm, simprocAttr, detR_eq, h2', hb, hbe]
end Go.Proofs.YtogicfoigeongaaDoor

