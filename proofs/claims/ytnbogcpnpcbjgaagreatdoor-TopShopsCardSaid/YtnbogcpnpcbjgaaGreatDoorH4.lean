/- Parts of a proof: the symbolic walk and what it shows of single functions. -/
import Derived.Test.YtnbogcpnpcbjgaaGreatDoorH3
import Derived.Test.YtnbogcpnpcbjgaaGreatDoorC4
set_option linter.all false
namespace Go.Proofs.YtnbogcpnpcbjgaaGreatDoor
open Go.RowKit Go.SX
set_option maxRecDepth 20000
set_option maxHeartbeats 0
set_option linter.unusedSimpArgs false
set_option linter.unusedVariables false
theorem dwithin_fn (w : World) (n lo hi : Int) : SX.Fn Tryz.prog 69 [I n, I lo, I hi] w (fun _ => False) fun q N => q = .bool (decide (lo ≤ n ∧ n ≤ hi)) := by
  by_cases h1 : lo ≤ n
  · have e1 : (lo ≤ n) = True := eq_true h1
    refine walk [] [] (det0_ok _ _) Tryz.func69 rfl Tryz.ntmps69 res69 (by kernel_rfl) no_facts ?_
    simp (config := { maxSteps := 4000000 }) only [↓sx0, ↓sx1, ↓sx2, ↓sx3, ↓sx4, ↓sx5, ↓sx6, sx0, sx1, sx2, sx3, sx4, sx5, sx6, tf69, ev3_hold, sxo, sxc, sxp, sxq, sxr, sxs, sxl, sxm, simprocAttr, e1]
    try simp
  · have e1 : (lo ≤ n) = False := eq_false h1
    refine walk [] [] (det0_ok _ _) Tryz.func69 rfl Tryz.ntmps69 res69 (by kernel_rfl) no_facts ?_
    simp (config := { maxSteps := 4000000 }) only [↓sx0, ↓sx1, ↓sx2, ↓sx3, ↓sx4, ↓sx5, ↓sx6, sx0, sx1, sx2, sx3, sx4, sx5, sx6, tf69, ev3_hold, sxo, sxc, sxp, sxq, sxr, sxs, sxl, sxm, simprocAttr, e1]
    try simp
theorem dhas_fn (w : World) (lo hi a b : Int) (h1 : lo ≤ a) (h2 : a ≤ b) (h3 : b ≤ hi) : SX.Fn Tryz.prog 82 [.agg #[I lo, I hi], .agg #[I a, I b]] w (fun _ => False) fun q N => q = .bool true := by
  have e1 : (lo ≤ a) = True := eq_true h1
  have e2 : (a ≤ b) = True := eq_true h2
  have e3 : (b ≤ hi) = True := eq_true h3
  refine walk [] [] (det0_ok _ _) Tryz.func82 rfl Tryz.ntmps82 res82 (by kernel_rfl) no_facts ?_
  simp (config := { maxSteps := 4000000 }) only [↓sx0, ↓sx1, ↓sx2, ↓sx3, ↓sx4, ↓sx5, ↓sx6, sx0, sx1, sx2, sx3, sx4, sx5, sx6, tf82, ev3_hold, sxo, sxc, sxp, sxq, sxr, sxs, sxl, sxm, simprocAttr, e1, e2, e3]
theorem dpush_fn (w : World) (p : Psh) (hp : p.ok) : SX.Fn Tryz.prog 162 [psv p] w (fun _ => False) fun q N => q = .bool true := by
  obtain ⟨⟨h1, h2⟩, h3, h4, h5⟩ := hp
  have hw1 := fun w' => dwithin_fn w' p.dirs 1 63
  simp only [show (decide (1 ≤ p.dirs ∧ p.dirs ≤ 63)) = true from by simp [h1, h2]] at hw1
  have hw2 := fun w' => dhas_fn w' 0 3 p.low p.high h3 h4 h5
  have dn : ∀ (g : Nat) (xs : List Value), det0 g xs = none := fun _ _ => rfl
  unfold psv
  refine walk [] [] (det0_ok _ _) Tryz.func162 rfl Tryz.ntmps162 res162 (by kernel_rfl) no_facts ?_
  simp (config := { maxSteps := 4000000 }) only [↓sx0, ↓sx1, ↓sx2, ↓sx3, ↓sx4, ↓sx5, ↓sx6, sx0, sx1, sx2, sx3, sx4, sx5, sx6, tf162, ev3_hold, sxo, sxc, sxp, sxq, sxr, sxs, sxl, sxm, simprocAttr, dn]
  refine CallOb.pureH (fun w' hp' => hw1 w') ?_
  rintro q N rfl
  refine ⟨?_⟩
  simp (config := { maxSteps := 4000000 }) only [↓sx0, ↓sx1, ↓sx2, ↓sx3, ↓sx4, ↓sx5, ↓sx6, sx0, sx1, sx2, sx3, sx4, sx5, sx6, tf162, ev3_hold, sxo, sxc, sxp, sxq, sxr, sxs, sxl, sxm, simprocAttr, dn]
  refine CallOb.pureH (fun w' hp' => hw2 w') ?_
  rintro q N2 rfl
  refine ⟨?_⟩
  simp (config := { maxSteps := 4000000 }) only [↓sx0, ↓sx1, ↓sx2, ↓sx3, ↓sx4, ↓sx5, ↓sx6, sx0, sx1, sx2, sx3, sx4, sx5, sx6, tf162, ev3_hold, sxo, sxc, sxp, sxq, sxr, sxs, sxl, sxm, simprocAttr]
theorem allI_fn (w : World) (a : Option Addr) (n cp : Nat) (l : List Int) (hs : Sl w (.slice a n cp) 1 (ints l)) (hl : l.length ≤ 1000000) (g : Nat) (first cap : List Value) (hT : CallT Tryz.prog g) (hg : ∀ w', Keep (fun _ => False) w w' → ∀ x ∈ l, SX.Fn Tryz.prog g (first ++ ([I x] ++ cap)) w' (fun _ => False) fun q N => q = .bool true) :
    SX.Fn Tryz.prog 107 [.slice a n cp, .func (.func g) first.toArray cap.toArray] w (fun _ => False) fun q N => q = .bool true := by
  have hn := hs.le i1_len (by omega)
  subst hn
  have hr := fun H => hs.rd0 H
  have dn : ∀ (g : Nat) (xs : List Value), det0 g xs = none := fun _ _ => rfl
  have hget : ∀ i : Nat, i < l.length → ∃ x, l[i]? = some x ∧ x ∈ l := fun i hi => ⟨l[i], List.getElem?_eq_getElem hi, List.getElem_mem hi⟩
  refine walk [] [] (det0_ok _ _) Tryz.func107 rfl Tryz.ntmps107 res107 (by kernel_rfl) no_facts ?_
  simp (config := { maxSteps := 4000000 }) only [↓sx0, ↓sx1, ↓sx2, ↓sx3, ↓sx4, ↓sx5, ↓sx6, sx0, sx1, sx2, sx3, sx4, sx5, sx6, tf107, ev3_hold, sxo, sxc, sxp, sxq, sxr, sxs, sxl, sxm, simprocAttr]
  refine loop_constH [] (HImp.refl _ _) [(4, 4), (6, 6), (9, 17)] (fun i : Nat => [(9, I i)]) (fun i H1 => i ≤ l.length ∧ H1 = []) (fun i => l.length - i) 0 ?_ ⟨Nat.zero_le _, rfl⟩ ?_
  · simp (config := { maxSteps := 4000000 }) only [↓sx0, ↓sx1, ↓sx2, ↓sx3, ↓sx4, ↓sx5, ↓sx6, sx0, sx1, sx2, sx3, sx4, sx5, sx6, tf107, ev3_hold, sxo, sxc, sxp, sxq, sxr, sxs, sxl, sxm, simprocAttr]
    try simp
  rintro i H1 g1 ⟨hi, rfl⟩
  by_cases hin : i = l.length
  · have e7 : ((i : Int) < (l.length : Int)) = False := eq_false (by omega)
    refine ⟨?_⟩
    simp (config := { maxSteps := 4000000 }) only [↓sx0, ↓sx1, ↓sx2, ↓sx3, ↓sx4, ↓sx5, ↓sx6, sx0, sx1, sx2, sx3, sx4, sx5, sx6, tf107, ev3_hold, sxo, sxc, sxp, sxq, sxr, sxs, sxl, sxm, simprocAttr, e7]
  have e7 : ((i : Int) < (l.length : Int)) = True := eq_true (by omega)
  have e8 : wr (i + 1) = ((i + 1 : Nat) : Int) := (wrap_id (by omega)).trans (by omega)
  obtain ⟨x, hx, hxl⟩ := hget i (by omega)
  refine ⟨?_⟩
  simp (config := { maxSteps := 4000000 }) only [↓sx0, ↓sx1, ↓sx2, ↓sx3, ↓sx4, ↓sx5, ↓sx6, sx0, sx1, sx2, sx3, sx4, sx5, sx6, tf107, ev3_hold, sxo, sxc, sxp, sxq, sxr, sxs, sxl, sxm, simprocAttr, e7]
  refine amid (at_1 (hr _) i1_len hx rfl fun ad => ?_)
  simp (config := { maxSteps := 4000000 }) only [↓sx0, ↓sx1, ↓sx2, ↓sx3, ↓sx4, ↓sx5, ↓sx6, sx0, sx1, sx2, sx3, sx4, sx5, sx6, tf107, ev3_hold, sxo, sxc, sxp, sxq, sxr, sxs, sxl, sxm, simprocAttr, dn]
  refine ⟨hT, ?_⟩
  refine CallOb.pureH (fun w' hp' => by rw [List.append_assoc]; exact hg w' hp'.ext x hxl) ?_
  rintro q N rfl
  refine ⟨?_⟩
  simp (config := { maxSteps := 4000000 }) only [↓sx0, ↓sx1, ↓sx2, ↓sx3, ↓sx4, ↓sx5, ↓sx6, sx0, sx1, sx2, sx3, sx4, sx5, sx6, tf107, ev3_hold, sxo, sxc, sxp, sxq, sxr, sxs, sxl, sxm, simprocAttr, e8]
  exact ⟨i + 1, [], rfl, HImp.nil _ _, ⟨by omega, rfl⟩, by omega⟩
theorem allL_fn (w : World) (a : Option Addr) (n cp : Nat) (l : List Cs) (hs : Sl w (.slice a n cp) 1 (cat csc l)) (hl : l.length ≤ 1000000) (g : Nat) (first cap : List Value) (hT : CallT Tryz.prog g) (hg : ∀ w', Keep (fun _ => False) w w' → ∀ x ∈ l, SX.Fn Tryz.prog g (first ++ ([csv x] ++ cap)) w' (fun _ => False) fun q N => q = .bool true) :
    SX.Fn Tryz.prog 108 [.slice a n cp, .func (.func g) first.toArray cap.toArray] w (fun _ => False) fun q N => q = .bool true := by
  have hn := hs.le csc_len (by omega)
  subst hn
  have hr := fun H => hs.rd0 H
  have dn : ∀ (g : Nat) (xs : List Value), det0 g xs = none := fun _ _ => rfl
  have hget : ∀ i : Nat, i < l.length → ∃ x, l[i]? = some x ∧ x ∈ l := fun i hi => ⟨l[i], List.getElem?_eq_getElem hi, List.getElem_mem hi⟩
  refine walk [] [] (det0_ok _ _) Tryz.func108 rfl Tryz.ntmps108 res108 (by kernel_rfl) no_facts ?_
  simp (config := { maxSteps := 4000000 }) only [↓sx0, ↓sx1, ↓sx2, ↓sx3, ↓sx4, ↓sx5, ↓sx6, sx0, sx1, sx2, sx3, sx4, sx5, sx6, tf108, ev3_hold, sxo, sxc, sxp, sxq, sxr, sxs, sxl, sxm, simprocAttr]
  refine loop_constH [] (HImp.refl _ _) [(4, 4), (6, 6), (9, 17)] (fun i : Nat => [(9, I i)]) (fun i H1 => i ≤ l.length ∧ H1 = []) (fun i => l.length - i) 0 ?_ ⟨Nat.zero_le _, rfl⟩ ?_
  · simp (config := { maxSteps := 4000000 }) only [↓sx0, ↓sx1, ↓sx2, ↓sx3, ↓sx4, ↓sx5, ↓sx6, sx0, sx1, sx2, sx3, sx4, sx5, sx6, tf108, ev3_hold, sxo, sxc, sxp, sxq, sxr, sxs, sxl, sxm, simprocAttr]
    try simp
  rintro i H1 g1 ⟨hi, rfl⟩
  by_cases hin : i = l.length
  · have e7 : ((i : Int) < (l.length : Int)) = False := eq_false (by omega)
    refine ⟨?_⟩
    simp (config := { maxSteps := 4000000 }) only [↓sx0, ↓sx1, ↓sx2, ↓sx3, ↓sx4, ↓sx5, ↓sx6, sx0, sx1, sx2, sx3, sx4, sx5, sx6, tf108, ev3_hold, sxo, sxc, sxp, sxq, sxr, sxs, sxl, sxm, simprocAttr, e7]
  have e7 : ((i : Int) < (l.length : Int)) = True := eq_true (by omega)
  have e8 : wr (i + 1) = ((i + 1 : Nat) : Int) := (wrap_id (by omega)).trans (by omega)
  obtain ⟨x, hx, hxl⟩ := hget i (by omega)
  obtain ⟨xl, xa, xn, xc⟩ := x
  refine ⟨?_⟩
  simp (config := { maxSteps := 4000000 }) only [↓sx0, ↓sx1, ↓sx2, ↓sx3, ↓sx4, ↓sx5, ↓sx6, sx0, sx1, sx2, sx3, sx4, sx5, sx6, tf108, ev3_hold, sxo, sxc, sxp, sxq, sxr, sxs, sxl, sxm, simprocAttr, e7]
  refine amid (at_1 (hr _) csc_len hx rfl fun ad => ?_)
  simp (config := { maxSteps := 4000000 }) only [↓sx0, ↓sx1, ↓sx2, ↓sx3, ↓sx4, ↓sx5, ↓sx6, sx0, sx1, sx2, sx3, sx4, sx5, sx6, tf108, ev3_hold, sxo, sxc, sxp, sxq, sxr, sxs, sxl, sxm, simprocAttr, dn]
  refine ⟨hT, ?_⟩
  refine CallOb.pureH (fun w' hp' => by rw [List.append_assoc]; exact hg w' hp'.ext _ hxl) ?_
  rintro q N rfl
  refine ⟨?_⟩
  simp (config := { maxSteps := 4000000 }) only [↓sx0, ↓sx1, ↓sx2, ↓sx3, ↓sx4, ↓sx5, ↓sx6, sx0, sx1, sx2, sx3, sx4, sx5, sx6, tf108, ev3_hold, sxo, sxc, sxp, sxq, sxr, sxs, sxl, sxm, simprocAttr, e8]
  exact ⟨i + 1, [], rfl, HImp.nil _ _, ⟨by omega, rfl⟩, by omega⟩
theorem allP_fn (w : World) (a : Option Addr) (n cp : Nat) (l : List Psh) (hs : Sl w (.slice a n cp) 3 (cat psc l)) (hl : l.length ≤ 1000000) (hok : ∀ p ∈ l, p.ok) :
    SX.Fn Tryz.prog 161 [.slice a n cp, .func (.func 162) #[] #[]] w (fun _ => False) fun q N => q = .bool true := by
  have hn := hs.le psc_len (by omega)
  subst hn
  have hr := fun H => hs.rd0 H
  have dn : ∀ (g : Nat) (xs : List Value), det0 g xs = none := fun _ _ => rfl
  have hget : ∀ i : Nat, i < l.length → ∃ x, l[i]? = some x ∧ x.ok := fun i hi => ⟨l[i], List.getElem?_eq_getElem hi, hok _ (List.getElem_mem hi)⟩
  refine walk [6] [] (det0_ok _ _) Tryz.func161 rfl Tryz.ntmps161 res161 (by kernel_rfl) no_facts ?_
  simp (config := { maxSteps := 4000000 }) only [↓sx0, ↓sx1, ↓sx2, ↓sx3, ↓sx4, ↓sx5, ↓sx6, sx0, sx1, sx2, sx3, sx4, sx5, sx6, tf161, ev3_hold, sxo, sxc, sxp, sxq, sxr, sxs, sxl, sxm, simprocAttr]
  refine loop_constH [] (HImp.refl _ _) [(4, 4), (6, 6), (9, 17)] (fun i : Nat => [(9, I i)]) (fun i H1 => i ≤ l.length ∧ H1 = []) (fun i => l.length - i) 0 ?_ ⟨Nat.zero_le _, rfl⟩ ?_
  · simp (config := { maxSteps := 4000000 }) only [↓sx0, ↓sx1, ↓sx2, ↓sx3, ↓sx4, ↓sx5, ↓sx6, sx0, sx1, sx2, sx3, sx4, sx5, sx6, tf161, ev3_hold, sxo, sxc, sxp, sxq, sxr, sxs, sxl, sxm, simprocAttr]
    try simp
  rintro i H1 g1 ⟨hi, rfl⟩
  by_cases hin : i = l.length
  · have e7 : ((i : Int) < (l.length : Int)) = False := eq_false (by omega)
    refine ⟨?_⟩
    simp (config := { maxSteps := 4000000 }) only [↓sx0, ↓sx1, ↓sx2, ↓sx3, ↓sx4, ↓sx5, ↓sx6, sx0, sx1, sx2, sx3, sx4, sx5, sx6, tf161, ev3_hold, sxo, sxc, sxp, sxq, sxr, sxs, sxl, sxm, simprocAttr, e7]
  have e7 : ((i : Int) < (l.length : Int)) = True := eq_true (by omega)
  have e8 : wr (i + 1) = ((i + 1 : Nat) : Int) := (wrap_id (by omega)).trans (by omega)
  obtain ⟨x, hx, hxo⟩ := hget i (by omega)
  have hpx : psc x = [I x.dirs, I x.low, I x.high] := rfl
  refine ⟨?_⟩
  simp (config := { maxSteps := 4000000 }) only [↓sx0, ↓sx1, ↓sx2, ↓sx3, ↓sx4, ↓sx5, ↓sx6, sx0, sx1, sx2, sx3, sx4, sx5, sx6, tf161, ev3_hold, sxo, sxc, sxp, sxq, sxr, sxs, sxl, sxm, simprocAttr, e7]
  refine amid (at_n (hr _) psc_len (by omega) hx fun ad => ?_)
  simp (config := { maxSteps := 4000000 }) only [↓sx0, ↓sx1, ↓sx2, ↓sx3, ↓sx4, ↓sx5, ↓sx6, sx0, sx1, sx2, sx3, sx4, sx5, sx6, tf161, ev3_hold, sxo, sxc, sxp, sxq, sxr, sxs, sxl, sxm, simprocAttr, hpx]
  intro bx
  refine wr_cell (A := []) rfl (by simp) ?_
  simp (config := { maxSteps := 4000000 }) only [↓sx0, ↓sx1, ↓sx2, ↓sx3, ↓sx4, ↓sx5, ↓sx6, sx0, sx1, sx2, sx3, sx4, sx5, sx6, tf161, ev3_hold, sxo, sxc, sxp, sxq, sxr, sxs, sxl, sxm, simprocAttr]
  refine ld_cells [I x.dirs, I x.low, I x.high] List.mem_cons_self rfl rfl ?_
  simp (config := { maxSteps := 4000000 }) only [↓sx0, ↓sx1, ↓sx2, ↓sx3, ↓sx4, ↓sx5, ↓sx6, sx0, sx1, sx2, sx3, sx4, sx5, sx6, tf161, ev3_hold, sxo, sxc, sxp, sxq, sxr, sxs, sxl, sxm, simprocAttr, dn]
  refine ⟨Tryz.call162, ?_⟩
  refine CallOb.pureH (fun w' hp' => dpush_fn w' x hxo) ?_
  rintro q N rfl
  refine ⟨?_⟩
  simp (config := { maxSteps := 4000000 }) only [↓sx0, ↓sx1, ↓sx2, ↓sx3, ↓sx4, ↓sx5, ↓sx6, sx0, sx1, sx2, sx3, sx4, sx5, sx6, tf161, ev3_hold, sxo, sxc, sxp, sxq, sxr, sxs, sxl, sxm, simprocAttr, e8]
  exact ⟨i + 1, [], rfl, HImp.nil _ _, ⟨by omega, rfl⟩, by omega⟩
end Go.Proofs.YtnbogcpnpcbjgaaGreatDoor

namespace Go.Proofs.YtnbogcpnpcbjgaaGreatDoor
open Go.RowKit Go.SX
set_option maxRecDepth 20000
set_option maxHeartbeats 0
set_option linter.unusedSimpArgs false
set_option linter.unusedVariables false
def PsOk (d : Drf) (l : List Psh) : Prop := l.length + 1 = d.c.tide.length ∧ ∀ p ∈ l, p.ok
structure Drf.ok (d : Drf) : Prop where
  c : d.c.ok
  zl : d.zones.length = d.c.depth.length
  cn : 1 ≤ d.cur.length ∧ d.cur.length ≤ 4
  zo : ∀ z ∈ d.zones, 0 ≤ z ∧ z < d.cur.length
  cu : ∀ l ∈ d.cur, PsOk d l
  wi : PsOk d d.wind
theorem last_fn (w : World) (bs mn ms : Nat) (d : Drf) (sD sT sS vZ vC vW : Value) (hs : SdC w bs mn ms d sD sT sS vZ vC vW) (hT : d.c.tide.length ≤ 60) :
    SX.Fn Tryz.prog 70 [.pointer (some ⟨bs, 0, none⟩)] w (fun _ => False) fun q N => q = I ((d.c.tide.length : Int) - 1) := by
  obtain ⟨sD', sT', sS', he, hsD, hsT, hsS⟩ := hs.ch
  injection he with he
  injection he with he
  simp only [List.cons.injEq, true_and, and_true] at he
  obtain ⟨rfl, rfl, rfl⟩ := he
  obtain ⟨aT, nT, cT, rfl⟩ := hsT.shape
  have hnT := hsT.le spc_len (by omega)
  subst hnT
  have c3 := hs.cel 3 _ rfl
  have e1 : wr ((d.c.tide.length : Int) - 1) = (d.c.tide.length : Int) - 1 := wrap_id (by omega)
  refine walk [] [] (det0_ok _ _) Tryz.func70 rfl Tryz.ntmps70 res70 (by kernel_rfl) no_facts ?_
  simp (config := { maxSteps := 4000000 }) only [↓sx0, ↓sx1, ↓sx2, ↓sx3, ↓sx4, ↓sx5, ↓sx6, sx0, sx1, sx2, sx3, sx4, sx5, sx6, tf70, ev3_hold, sxo, sxc, sxp, sxq, sxr, sxs, sxl, sxm, simprocAttr]
  refine ld_olda (by simp [add_block]) c3 id ?_
  simp (config := { maxSteps := 4000000 }) only [↓sx0, ↓sx1, ↓sx2, ↓sx3, ↓sx4, ↓sx5, ↓sx6, sx0, sx1, sx2, sx3, sx4, sx5, sx6, tf70, ev3_hold, sxo, sxc, sxp, sxq, sxr, sxs, sxl, sxm, simprocAttr, e1]
theorem cell_fn (w : World) (bs mn ms : Nat) (d : Drf) (sD sT sS vZ vC vW : Value) (hs : SdC w bs mn ms d sD sT sS vZ vC vW) (k : Nat) (hk : k < d.c.depth.length) (hl : d.c.depth.length ≤ 1000) :
    SX.Fn Tryz.prog 68 [.pointer (some ⟨bs, 0, none⟩), I k] w (fun _ => False) fun q N => q = .bool true := by
  obtain ⟨sD', sT', sS', he, hsD, hsT, hsS⟩ := hs.ch
  injection he with he
  injection he with he
  simp only [List.cons.injEq, true_and, and_true] at he
  obtain ⟨rfl, rfl, rfl⟩ := he
  obtain ⟨aD, nD, cD, rfl⟩ := hsD.shape
  have hnD := hsD.le i1_len (by omega)
  subst hnD
  have c2 := hs.cel 2 _ rfl
  have e1 : wr ((d.c.depth.length : Int) - 1) = (d.c.depth.length : Int) - 1 := wrap_id (by omega)
  have hw1 := fun w' => dwithin_fn w' k 0 ((d.c.depth.length : Int) - 1)
  simp only [show (decide (0 ≤ (k : Int) ∧ (k : Int) ≤ (d.c.depth.length : Int) - 1)) = true from by simp; omega] at hw1
  have dn : ∀ (g : Nat) (xs : List Value), det0 g xs = none := fun _ _ => rfl
  refine walk [] [] (det0_ok _ _) Tryz.func68 rfl Tryz.ntmps68 res68 (by kernel_rfl) no_facts ?_
  simp (config := { maxSteps := 4000000 }) only [↓sx0, ↓sx1, ↓sx2, ↓sx3, ↓sx4, ↓sx5, ↓sx6, sx0, sx1, sx2, sx3, sx4, sx5, sx6, tf68, ev3_hold, sxo, sxc, sxp, sxq, sxr, sxs, sxl, sxm, simprocAttr]
  refine ld_olda (by simp [add_block]) c2 id ?_
  simp (config := { maxSteps := 4000000 }) only [↓sx0, ↓sx1, ↓sx2, ↓sx3, ↓sx4, ↓sx5, ↓sx6, sx0, sx1, sx2, sx3, sx4, sx5, sx6, tf68, ev3_hold, sxo, sxc, sxp, sxq, sxr, sxs, sxl, sxm, simprocAttr, e1, dn]
  refine CallOb.pureH (fun w' hp' => hw1 w') ?_
  rintro q N rfl
  refine ⟨?_⟩
  simp (config := { maxSteps := 4000000 }) only [↓sx0, ↓sx1, ↓sx2, ↓sx3, ↓sx4, ↓sx5, ↓sx6, sx0, sx1, sx2, sx3, sx4, sx5, sx6, tf68, ev3_hold, sxo, sxc, sxp, sxq, sxr, sxs, sxl, sxm, simprocAttr]
theorem valid_fn (w : World) (bs mn ms : Nat) (d : Drf) (sD sT sS vZ vC vW : Value) (hs : SdC w bs mn ms d sD sT sS vZ vC vW) (hok : d.c.ok) (a : Option Addr) (n cp : Nat) (l : List Psh) (hl : PsOk d l) (hsl : Sl w (.slice a n cp) 3 (cat psc l)) :
    SX.Fn Tryz.prog 109 [.pointer (some ⟨bs, 0, none⟩), .slice a n cp] w (fun _ => False) fun q N => q = .bool true := by
  have hn := hsl.le psc_len (by omega)
  subst hn
  have hT := hok.2.2.2.1
  have h1 := hl.1
  have e1 : ((l.length : Int) = (d.c.tide.length : Int) - 1) = True := eq_true (by omega)
  have dn : ∀ (g : Nat) (xs : List Value), det0 g xs = none := fun _ _ => rfl
  have hla := fun (H : List HO) w' (hp : Hp ⟨w, fun _ => False⟩ H w') => last_fn w' bs mn ms d sD sT sS vZ vC vW (hs.keepR hp.ext fun _ _ => id) (by omega)
  have hap := fun (H : List HO) w' (hp : Hp ⟨w, fun _ => False⟩ H w') => allP_fn w' a _ cp l (hsl.keepR hp.ext fun _ _ => id) (by omega) hl.2
  refine walk [] [] (det0_ok _ _) Tryz.func109 rfl Tryz.ntmps109 res109 (by kernel_rfl) no_facts ?_
  simp (config := { maxSteps := 4000000 }) only [↓sx0, ↓sx1, ↓sx2, ↓sx3, ↓sx4, ↓sx5, ↓sx6, sx0, sx1, sx2, sx3, sx4, sx5, sx6, tf109, ev3_hold, sxo, sxc, sxp, sxq, sxr, sxs, sxl, sxm, simprocAttr, dn]
  refine CallOb.pureH (fun w' hp' => hla _ w' hp') ?_
  rintro q N rfl
  refine ⟨?_⟩
  simp (config := { maxSteps := 4000000 }) only [↓sx0, ↓sx1, ↓sx2, ↓sx3, ↓sx4, ↓sx5, ↓sx6, sx0, sx1, sx2, sx3, sx4, sx5, sx6, tf109, ev3_hold, sxo, sxc, sxp, sxq, sxr, sxs, sxl, sxm, simprocAttr, e1, dn]
  refine CallOb.pureH (fun w' hp' => hap _ w' hp') ?_
  rintro q N2 rfl
  refine ⟨?_⟩
  simp (config := { maxSteps := 4000000 }) only [↓sx0, ↓sx1, ↓sx2, ↓sx3, ↓sx4, ↓sx5, ↓sx6, sx0, sx1, sx2, sx3, sx4, sx5, sx6, tf109, ev3_hold, sxo, sxc, sxp, sxq, sxr, sxs, sxl, sxm, simprocAttr]
theorem zone_fn (w : World) (b : Nat) (v : Value) (n : Nat) (a : Option Addr) (cp : Nat) (hc : w.cell? ⟨b, 6, none⟩ = some (.slice a n cp)) (hn : n ≤ 4) (z : Int) (hz : 0 ≤ z ∧ z < n) :
    SX.Fn Tryz.prog 105 [I z, .pointer (some ⟨b, 0, none⟩)] w (fun _ => False) fun q N => q = .bool true := by
  have e1 : wr ((n : Int) - 1) = (n : Int) - 1 := wrap_id (by omega)
  have hw1 := fun w' => dwithin_fn w' z 0 ((n : Int) - 1)
  simp only [show (decide (0 ≤ z ∧ z ≤ (n : Int) - 1)) = true from by simp; omega] at hw1
  have dn : ∀ (g : Nat) (xs : List Value), det0 g xs = none := fun _ _ => rfl
  refine walk [] [] (det0_ok _ _) Tryz.func105 rfl Tryz.ntmps105 res105 (by kernel_rfl) no_facts ?_
  simp (config := { maxSteps := 4000000 }) only [↓sx0, ↓sx1, ↓sx2, ↓sx3, ↓sx4, ↓sx5, ↓sx6, sx0, sx1, sx2, sx3, sx4, sx5, sx6, tf105, ev3_hold, sxo, sxc, sxp, sxq, sxr, sxs, sxl, sxm, simprocAttr]
  refine ld_olda (by simp [add_block]) hc id ?_
  simp (config := { maxSteps := 4000000 }) only [↓sx0, ↓sx1, ↓sx2, ↓sx3, ↓sx4, ↓sx5, ↓sx6, sx0, sx1, sx2, sx3, sx4, sx5, sx6, tf105, ev3_hold, sxo, sxc, sxp, sxq, sxr, sxs, sxl, sxm, simprocAttr, e1, dn]
  refine CallOb.pureH (fun w' hp' => hw1 w') ?_
  rintro q N rfl
  refine ⟨?_⟩
  simp (config := { maxSteps := 4000000 }) only [↓sx0, ↓sx1, ↓sx2, ↓sx3, ↓sx4, ↓sx5, ↓sx6, sx0, sx1, sx2, sx3, sx4, sx5, sx6, tf105, ev3_hold, sxo, sxc, sxp, sxq, sxr, sxs, sxl, sxm, simprocAttr]
end Go.Proofs.YtnbogcpnpcbjgaaGreatDoor

namespace Go.Proofs.YtnbogcpnpcbjgaaGreatDoor
open Go.RowKit Go.SX
set_option maxRecDepth 20000
set_option maxHeartbeats 0
set_option linter.unusedSimpArgs false
set_option linter.unusedVariables false
def dfv (d : Drf) (sD sT sS vZ vC vW : Value) : Value := .agg #[I d.c.wide, I d.c.high, sD, sT, sS, vZ, vC, vW]
structure DfOk (w : World) (d : Drf) (sD sT sS vZ vC vW : Value) : Prop where
  ch : ChOk w (.agg #[I d.c.wide, I d.c.high, sD, sT, sS]) d.c
  zo : Sl w vZ 1 (ints d.zones)
  cu : CuOk w vC d.cur
  wi : Sl w vW 3 (cat psc d.wind)
theorem DfOk.keep {w w' : World} {X : Nat → Prop} {d : Drf} {sD sT sS vZ vC vW : Value} (h : DfOk w d sD sT sS vZ vC vW) (hX : Maps w X) (hk : Keep X w w') : DfOk w' d sD sT sS vZ vC vW := by
  refine ⟨?_, hX.sl hk h.zo, ?_, hX.sl hk h.wi⟩
  · obtain ⟨sD', sT', sS', rfl', hD, hT, hS⟩ := h.ch
    exact ⟨_, _, _, rfl', hX.sl hk hD, hX.sl hk hT, hX.sl hk hS⟩
  · obtain ⟨ps, h1, h2, h3⟩ := h.cu
    exact ⟨ps, h1, hX.sl hk h2, fun p hp => hX.sl hk (h3 p hp)⟩
theorem maps_none (w : World) : Maps w (fun _ => False) := fun _ h => h.elim
def seaL (d : Drf) (sD sT sS vZ vC vW : Value) (ms mn : Nat) : List Value := [I d.c.wide, I d.c.high, sD, sT, sS, vZ, vC, vW, .map (some ms), .map (some mn)]
theorem sdc_of {w w' : World} {H : List HO} {bs mn ms : Nat} {d : Drf} {sD sT sS vZ vC vW : Value} (h : DfOk w d sD sT sS vZ vC vW) (hp : Hp ⟨w, fun _ => False⟩ H w') (hm : HO.cells bs 187 (seaL d sD sT sS vZ vC vW ms mn) ∈ H) : SdC w' bs mn ms d sD sT sS vZ vC vW := by
  refine ⟨fun i v hv => ?_, (h.keep (maps_none w) hp.ext).ch⟩
  rw [cell_of_cells (hp.ok _ hm)]
  simpa [seaL] using hv
theorem ld_cellz {w0 : Base} {H : List HO} {a : Addr} {b o : Nat} {T : TypeId} {cs : List Value} {v : Value} {K : SV → Prop} (e : a = ⟨b, o, none⟩) (h : HO.cells b T cs ∈ H) (hv : cs[o]? = some v) (hK : K (.v v)) : hold (LdOb w0 H a none K) ⟨0⟩ := by
  subst e
  exact ld_cell h hv hK
theorem open_drift_fn (w : World) (d : Drf) (sD sT sS vZ vC vW : Value) (hd : DfOk w d sD sT sS vZ vC vW) (hok : d.ok) :
    SX.Fn Tryz.prog 67 [dfv d sD sT sS vZ vC vW] w (fun _ => False) fun q N => ∃ bs ms mn, q = .tuple #[.pointer (some ⟨bs, 0, none⟩), I 0] ∧ [HO.cells bs 187 (seaL d sD sT sS vZ vC vW ms mn), HO.obj mn (.map #[] 0), HO.obj ms (.map #[] 0)].Sublist N := by
  have hd0 := hd
  obtain ⟨hc, hzo, hcu, hwi⟩ := hd
  obtain ⟨sD', sT', sS', he, hsD, hsT, hsS⟩ := hc
  injection he with he
  injection he with he
  simp only [List.cons.injEq, true_and, and_true] at he
  obtain ⟨rfl, rfl, rfl⟩ := he
  obtain ⟨aD, nD, cD, rfl⟩ := hsD.shape
  have hnD := hsD.le i1_len (by omega)
  subst hnD
  obtain ⟨aZ, nZ, cZ, rfl⟩ := hzo.shape
  have hnZ := hzo.le i1_len (by omega)
  subst hnZ
  obtain ⟨ps, hps, hsC, hsP⟩ := hcu
  obtain ⟨aC, nC, cC, rfl⟩ := hsC.shape
  have hnC := hsC.le csc_len (by omega)
  have hpl : ps.length = d.cur.length := by rw [← hps, List.length_map]
  rw [hpl] at hnC
  subst hnC
  obtain ⟨aW, nW, cW, rfl⟩ := hwi.shape
  have hsm := small_of hok.c
  have hck := fun (H : List HO) w' (hp : Hp ⟨w, fun _ => False⟩ H w') => check_fn w' _ d.c ((hd0.keep (maps_none w) hp.ext).ch) hsm
  have hkb : d.c.okB = true := by unfold Cht.okB; simp [hok.c]
  simp only [hkb, if_true] at hck
  have e1 : ((d.zones.length : Int) = (d.c.depth.length : Int)) = True := eq_true (by rw [hok.zl])
  have hw1 := fun w' => dwithin_fn w' (d.cur.length : Int) 1 4
  have hcn := hok.cn
  simp only [show (decide (1 ≤ (d.cur.length : Int) ∧ (d.cur.length : Int) ≤ 4)) = true from by simp; omega] at hw1
  have hzn : d.zones.length ≤ 200 := by rw [hok.zl]; exact hsm.1
  have hzi := fun (b : Nat) (H : List HO) w' (hp : Hp ⟨w, fun _ => False⟩ H w') (hm : HO.cells b 29 [I d.c.wide, I d.c.high, .slice aD d.c.depth.length cD, sT, sS, .slice aZ d.zones.length cZ, .slice aC d.cur.length cC, .slice aW nW cW] ∈ H) =>
    allI_fn w' aZ _ cZ d.zones (hzo.keepR hp.ext fun _ _ => id) (by omega) 105 [] [.pointer (some ⟨b, 0, none⟩)] Tryz.call105 fun w2 hk2 x hx => zone_fn w2 b (.bool true) d.cur.length aC cC ((World.cell?_of_block (w := w') (hk2.block b (lt_of_heap (hp.ok _ hm)) id)).trans (by rw [cell_of_cells (hp.ok _ hm)]; rfl)) (by omega) x (hok.zo x hx)
  have hli := fun (bs ms mn : Nat) (H : List HO) w' (hp : Hp ⟨w, fun _ => False⟩ H w') (hm : HO.cells bs 187 (seaL d (.slice aD d.c.depth.length cD) sT sS (.slice aZ d.zones.length cZ) (.slice aC d.cur.length cC) (.slice aW nW cW) ms mn) ∈ H) =>
    allL_fn w' aC _ cC ps (hsC.keepR hp.ext fun _ _ => id) (by omega) 109 [.pointer (some ⟨bs, 0, none⟩)] [] Tryz.call109 fun w2 hk2 x hx => by
      have hx1 : x.1 ∈ d.cur := by rw [← hps]; exact List.mem_map_of_mem hx
      exact valid_fn w2 bs mn ms d _ _ _ _ _ _ ((sdc_of hd0 hp hm).keepR hk2 fun _ _ => id) hok.c _ _ _ _ (hok.cu _ hx1) (((hsP x hx).keepR hp.ext fun _ _ => id).keepR hk2 fun _ _ => id)
  have hwv := fun (bs ms mn : Nat) (H : List HO) w' (hp : Hp ⟨w, fun _ => False⟩ H w') (hm : HO.cells bs 187 (seaL d (.slice aD d.c.depth.length cD) sT sS (.slice aZ d.zones.length cZ) (.slice aC d.cur.length cC) (.slice aW nW cW) ms mn) ∈ H) =>
    valid_fn w' bs mn ms d _ _ _ _ _ _ (sdc_of hd0 hp hm) hok.c aW nW cW d.wind hok.wi (hwi.keepR hp.ext fun _ _ => id)
  unfold dfv seaL
  unfold seaL at hli hwv
  have dn : ∀ (g : Nat) (xs : List Value), det0 g xs = none := fun _ _ => rfl
  refine walk [1, 10] [] (det0_ok _ _) Tryz.func67 rfl Tryz.ntmps67 res67 (by kernel_rfl) no_facts ?_
  simp (config := { maxSteps := 4000000 }) only [↓sx0, ↓sx1, ↓sx2, ↓sx3, ↓sx4, ↓sx5, ↓sx6, sx0, sx1, sx2, sx3, sx4, sx5, sx6, tf67, ev3_hold, sxo, sxc, sxp, sxq, sxr, sxs, sxl, sxm, simprocAttr]
  intro b1
  refine ld_cells [I d.c.wide, I d.c.high, .slice aD d.c.depth.length cD, sT, sS, .slice aZ d.zones.length cZ, .slice aC d.cur.length cC, .slice aW nW cW] List.mem_cons_self rfl rfl ?_
  simp (config := { maxSteps := 4000000 }) only [↓sx0, ↓sx1, ↓sx2, ↓sx3, ↓sx4, ↓sx5, ↓sx6, sx0, sx1, sx2, sx3, sx4, sx5, sx6, tf67, ev3_hold, sxo, sxc, sxp, sxq, sxr, sxs, sxl, sxm, simprocAttr]
  intro ms mn bs
  refine ld_cellsa (T := 29) (cs := [I d.c.wide, I d.c.high, .slice aD d.c.depth.length cD, sT, sS, .slice aZ d.zones.length cZ, .slice aC d.cur.length cC, .slice aW nW cW]) [I d.c.wide, I d.c.high, .slice aD d.c.depth.length cD, sT, sS] (by simp) rfl rfl ?_
  simp (config := { maxSteps := 4000000 }) only [↓sx0, ↓sx1, ↓sx2, ↓sx3, ↓sx4, ↓sx5, ↓sx6, sx0, sx1, sx2, sx3, sx4, sx5, sx6, tf67, ev3_hold, sxo, sxc, sxp, sxq, sxr, sxs, sxl, sxm, simprocAttr, dn]
  refine CallOb.pureH (fun w' hp' => hck _ w' hp') ?_
  rintro q N1 rfl
  refine ⟨?_⟩
  simp (config := { maxSteps := 4000000 }) only [↓sx0, ↓sx1, ↓sx2, ↓sx3, ↓sx4, ↓sx5, ↓sx6, sx0, sx1, sx2, sx3, sx4, sx5, sx6, tf67, ev3_hold, sxo, sxc, sxp, sxq, sxr, sxs, sxl, sxm, simprocAttr]
  refine ld_cella (T := 29) (cs := [I d.c.wide, I d.c.high, .slice aD d.c.depth.length cD, sT, sS, .slice aZ d.zones.length cZ, .slice aC d.cur.length cC, .slice aW nW cW]) (by simp) rfl ?_
  simp (config := { maxSteps := 4000000 }) only [↓sx0, ↓sx1, ↓sx2, ↓sx3, ↓sx4, ↓sx5, ↓sx6, sx0, sx1, sx2, sx3, sx4, sx5, sx6, tf67, ev3_hold, sxo, sxc, sxp, sxq, sxr, sxs, sxl, sxm, simprocAttr]
  refine ld_cellz (b := b1) (o := 2) (T := 29) (cs := [I d.c.wide, I d.c.high, .slice aD d.c.depth.length cD, sT, sS, .slice aZ d.zones.length cZ, .slice aC d.cur.length cC, .slice aW nW cW]) (by simp [add_block]) (by simp) rfl ?_
  simp (config := { maxSteps := 4000000 }) only [↓sx0, ↓sx1, ↓sx2, ↓sx3, ↓sx4, ↓sx5, ↓sx6, sx0, sx1, sx2, sx3, sx4, sx5, sx6, tf67, ev3_hold, sxo, sxc, sxp, sxq, sxr, sxs, sxl, sxm, simprocAttr, e1, dn]
  refine ld_cella (T := 29) (cs := [I d.c.wide, I d.c.high, .slice aD d.c.depth.length cD, sT, sS, .slice aZ d.zones.length cZ, .slice aC d.cur.length cC, .slice aW nW cW]) (by simp) rfl ?_
  simp (config := { maxSteps := 4000000 }) only [↓sx0, ↓sx1, ↓sx2, ↓sx3, ↓sx4, ↓sx5, ↓sx6, sx0, sx1, sx2, sx3, sx4, sx5, sx6, tf67, ev3_hold, sxo, sxc, sxp, sxq, sxr, sxs, sxl, sxm, simprocAttr, dn]
  refine CallOb.pureH (fun w' hp' => hw1 w') ?_
  rintro q N2 rfl
  refine ⟨?_⟩
  simp (config := { maxSteps := 4000000 }) only [↓sx0, ↓sx1, ↓sx2, ↓sx3, ↓sx4, ↓sx5, ↓sx6, sx0, sx1, sx2, sx3, sx4, sx5, sx6, tf67, ev3_hold, sxo, sxc, sxp, sxq, sxr, sxs, sxl, sxm, simprocAttr, e1, dn]
  refine ld_cella (T := 29) (cs := [I d.c.wide, I d.c.high, .slice aD d.c.depth.length cD, sT, sS, .slice aZ d.zones.length cZ, .slice aC d.cur.length cC, .slice aW nW cW]) (by simp) rfl ?_
  simp (config := { maxSteps := 4000000 }) only [↓sx0, ↓sx1, ↓sx2, ↓sx3, ↓sx4, ↓sx5, ↓sx6, sx0, sx1, sx2, sx3, sx4, sx5, sx6, tf67, ev3_hold, sxo, sxc, sxp, sxq, sxr, sxs, sxl, sxm, simprocAttr, dn]
  refine CallOb.pureH (fun w' hp' => hzi b1 _ w' hp' (by simp)) ?_
  rintro q N3 rfl
  refine ⟨?_⟩
  simp (config := { maxSteps := 4000000 }) only [↓sx0, ↓sx1, ↓sx2, ↓sx3, ↓sx4, ↓sx5, ↓sx6, sx0, sx1, sx2, sx3, sx4, sx5, sx6, tf67, ev3_hold, sxo, sxc, sxp, sxq, sxr, sxs, sxl, sxm, simprocAttr, e1, dn]
  refine ld_cella (T := 29) (cs := [I d.c.wide, I d.c.high, .slice aD d.c.depth.length cD, sT, sS, .slice aZ d.zones.length cZ, .slice aC d.cur.length cC, .slice aW nW cW]) (by simp) rfl ?_
  simp (config := { maxSteps := 4000000 }) only [↓sx0, ↓sx1, ↓sx2, ↓sx3, ↓sx4, ↓sx5, ↓sx6, sx0, sx1, sx2, sx3, sx4, sx5, sx6, tf67, ev3_hold, sxo, sxc, sxp, sxq, sxr, sxs, sxl, sxm, simprocAttr, dn]
  refine CallOb.pureH (fun w' hp' => hli bs ms mn _ w' hp' (by simp)) ?_
  rintro q N4 rfl
  refine ⟨?_⟩
  simp (config := { maxSteps := 4000000 }) only [↓sx0, ↓sx1, ↓sx2, ↓sx3, ↓sx4, ↓sx5, ↓sx6, sx0, sx1, sx2, sx3, sx4, sx5, sx6, tf67, ev3_hold, sxo, sxc, sxp, sxq, sxr, sxs, sxl, sxm, simprocAttr, e1, dn]
  refine ld_cella (T := 29) (cs := [I d.c.wide, I d.c.high, .slice aD d.c.depth.length cD, sT, sS, .slice aZ d.zones.length cZ, .slice aC d.cur.length cC, .slice aW nW cW]) (by simp) rfl ?_
  simp (config := { maxSteps := 4000000 }) only [↓sx0, ↓sx1, ↓sx2, ↓sx3, ↓sx4, ↓sx5, ↓sx6, sx0, sx1, sx2, sx3, sx4, sx5, sx6, tf67, ev3_hold, sxo, sxc, sxp, sxq, sxr, sxs, sxl, sxm, simprocAttr, dn]
  refine CallOb.pureH (fun w' hp' => hwv bs ms mn _ w' hp' (by simp)) ?_
  rintro q N5 rfl
  refine ⟨?_⟩
  simp (config := { maxSteps := 4000000 }) only [↓sx0, ↓sx1, ↓sx2, ↓sx3, ↓sx4, ↓sx5, ↓sx6, sx0, sx1, sx2, sx3, sx4, sx5, sx6, tf67, ev3_hold, sxo, sxc, sxp, sxq, sxr, sxs, sxl, sxm, simprocAttr, e1, dn]
  refine ⟨bs, ms, mn, rfl, ?_⟩
  refine List.Sublist.trans ?_ (List.sublist_append_right _ _)
  refine List.Sublist.trans ?_ (List.sublist_append_right _ _)
  refine List.Sublist.trans ?_ (List.sublist_append_right _ _)
  refine List.Sublist.trans ?_ (List.sublist_append_right _ _)
  refine List.Sublist.trans ?_ (List.sublist_append_right _ _)
  exact List.sublist_append_left [_, _, _] [_]
end Go.Proofs.YtnbogcpnpcbjgaaGreatDoor

namespace Go.Proofs.YtnbogcpnpcbjgaaGreatDoor
open Go.RowKit Go.SX
set_option maxRecDepth 20000
set_option maxHeartbeats 0
set_option linter.unusedSimpArgs false
set_option linter.unusedVariables false
theorem sl_nonil {w : World} {n c sz : Nat} {xs : List Value} (h : Sl w (.slice none n c) sz xs) : xs = [] := by
  cases xs with
  | nil => rfl
  | cons y ys =>
    obtain ⟨_, _, _, e, _, hcl⟩ := h
    cases e
    obtain ⟨ad, h, _⟩ := hcl 0 _ rfl
    cases h
theorem ints_nil {l : List Int} (h : ints l = []) : l = [] := by
  cases l with
  | nil => rfl
  | cons y ys => simp [cat, i1] at h
theorem clone1_fn (w : World) (v : Value) (l : List Int) (hs : Sl w v 1 (ints l)) (hb : l.length ≤ 1000000) : SX.Fn Tryz.prog 71 [v] w (fun _ => False) fun r N => ∃ ad c, r = .slice ad l.length c ∧ (ad = none → l = []) ∧ (HO.row r 3 1 (ints l) ∈ N ∨ (l = [] ∧ r = .slice none 0 0)) := by
  have hs0 := hs
  obtain ⟨a, n, c, rfl⟩ := hs.shape
  have hn := hs.le i1_len (by omega)
  subst hn
  refine walk [] [] (det0_ok _ _) Tryz.func71 rfl Tryz.ntmps71 res71 (by kernel_rfl) no_facts ?_
  simp (config := { maxSteps := 4000000 }) only [↓sx0, ↓sx1, ↓sx2, ↓sx3, ↓sx4, ↓sx5, ↓sx6, sx0, sx1, sx2, sx3, sx4, sx5, sx6, tf71, ev3_hold, sxo, sxc, sxp, sxq, sxr, sxs, sxl, sxm, simprocAttr]
  refine ⟨fun h => ?_, fun h b => ?_⟩
  · cases a with
    | none =>
      have hl : l = [] := ints_nil (sl_nonil hs)
      subst hl
      exact ⟨none, 0, rfl, fun _ => rfl, .inr rfl⟩
    | some a => cases h
  refine app_at (f := i1) (l := []) (m := l) (HImp.refl _ _) i1_len i1_one (fun w' hp' => Sl.hp (w0 := ⟨w, fun _ => False⟩) hs0 (fun _ _ => id) hp') (bytes := 8) (by simp only [List.length_nil]; omega) ?_
  intro ad3 c3 hnil
  rw [List.nil_append, List.length_nil, Nat.zero_add]
  simp (config := { maxSteps := 4000000 }) only [↓sx0, ↓sx1, ↓sx2, ↓sx3, ↓sx4, ↓sx5, ↓sx6, sx0, sx1, sx2, sx3, sx4, sx5, sx6, tf71, ev3_hold, sxo, sxc, sxp, sxq, sxr, sxs, sxl, sxm, simprocAttr]
  exact ⟨ad3, c3, rfl, fun h => (hnil h).2, .inl List.mem_cons_self⟩
def StpP (L : List Int) (q : Value) (N : List HO) : Prop := ∃ a cp, q = .tuple #[.slice a L.length cp, I 0] ∧ (HO.row (.slice a L.length cp) 3 1 (ints L) ∈ N ∨ L = [])
theorem drift_step_fn (w : World) (hw : Ways w) (d : Drf) (sD sT sS vZ vC vW : Value) (hd : DfOk w d sD sT sS vZ vC vW) (hok : d.ok) (k t lw : Nat) (hk : k < d.c.depth.length) (ht : t + 1 < d.c.tide.length) (hlw : lw ≤ 8) (z : Nat) (hz : d.zones[k]? = some (z : Int)) (cl : List Psh) (hcl : d.cur[z]? = some cl) (cur wnd : Psh) (hcur : cl[t]? = some cur) (hwnd : d.wind[t]? = some wnd) (lo hi : Int) (hp : d.c.tide[t]? = some (lo, hi)) :
    SX.Fn Tryz.prog 39 [dfv d sD sT sS vZ vC vW, I k, I t, I lw] w (fun _ => False) (StpP (stpA d cur wnd t k lw lo hi)) := by
  have hco : cur.ok := (hok.cu _ (List.mem_of_getElem? hcl)).2 _ (List.mem_of_getElem? hcur)
  have hwo : wnd.ok := hok.wi.2 _ (List.mem_of_getElem? hwnd)
  have hsm := small_of hok.c
  have hT := hok.c.2.2.2.1
  have hopn := fun (H : List HO) w' (hp : Hp ⟨w, fun _ => False⟩ H w') => open_drift_fn w' d sD sT sS vZ vC vW (hd.keep (maps_none w) hp.ext) hok
  have hc := fun (bs ms mn : Nat) (H : List HO) w' (hp : Hp ⟨w, fun _ => False⟩ H w') (hm : HO.cells bs 187 (seaL d sD sT sS vZ vC vW ms mn) ∈ H) => cell_fn w' bs mn ms d sD sT sS vZ vC vW (sdc_of hd hp hm) k hk (Nat.le_trans hsm.1 (by omega))
  have hla := fun (bs ms mn : Nat) (H : List HO) w' (hp : Hp ⟨w, fun _ => False⟩ H w') (hm : HO.cells bs 187 (seaL d sD sT sS vZ vC vW ms mn) ∈ H) => last_fn w' bs mn ms d sD sT sS vZ vC vW (sdc_of hd hp hm) (by omega)
  have hw1 := fun w' => dwithin_fn w' (t : Int) 0 ((d.c.tide.length : Int) - 1 - 1)
  simp only [show (decide (0 ≤ (t : Int) ∧ (t : Int) ≤ (d.c.tide.length : Int) - 1 - 1)) = true from by simp; omega] at hw1
  have hw2 := fun w' => dwithin_fn w' (lw : Int) 0 8
  simp only [show (decide (0 ≤ (lw : Int) ∧ (lw : Int) ≤ 8)) = true from by simp; omega] at hw2
  have e1 : ((k : Int) = -1) = False := eq_false (by omega)
  have e2 : wr ((d.c.tide.length : Int) - 1 - 1) = (d.c.tide.length : Int) - 1 - 1 := wrap_id (by omega)
  have hcb : (stpA d cur wnd t k lw lo hi).length ≤ 1000000 := by
    unfold stpA
    refine Nat.le_trans (compact_le _) ?_
    rw [srt_len]
    have h1 := stpN_len d cur wnd hco hwo t k lw lo (hi - lo + 1).toNat
    have h2 := hok.c.2.2.2.2.2.2.1 _ (List.mem_of_getElem? hp)
    simp only [] at h2
    have h3 : (hi - lo + 1).toNat ≤ 201 := by omega
    omega
  have hstep := fun (bs ms mn : Nat) (B : List HO) w' (hp0 : Hp ⟨w, fun _ => False⟩ ((HO.obj ms (.map #[] 0) :: [HO.obj mn (.map #[] 0)]) ++ B) w') (hm : HO.cells bs 187 (seaL d sD sT sS vZ vC vW ms mn) ∈ B) =>
    dstep_fn w' (hw.keep hp0.ext fun h => h) bs mn ms (fun e => by
      subst e
      have h1 := List.pairwise_cons.1 hp0.nd
      exact (h1.1 (HO.obj mn (.map #[] 0)) (by simp) mn rfl rfl).1 rfl) d sD sT sS vZ vC vW ⟨sdc_of hd hp0 (List.mem_append_right _ hm), (hd.keep (maps_none w) hp0.ext).zo, (hd.keep (maps_none w) hp0.ext).cu, (hd.keep (maps_none w) hp0.ext).wi⟩ hok.c [HO.obj mn (.map #[] 0)] ⟨#[], 0, rfl, KeysOk.nil _ _, fun e he => by simp at he⟩ (fun h hh => hp0.ok h (by rw [List.mem_singleton] at hh; subst hh; simp)) 0 (hp0.ok (HO.obj ms (.map #[] 0)) (by simp)) k t lw hk (by omega) hlw z hz cl hcl cur wnd hcur hwnd hco hwo lo hi hp
  obtain ⟨R, hR⟩ : ∃ R, stpA d cur wnd t k lw lo hi = R := ⟨_, rfl⟩
  rw [hR] at hcb ⊢
  simp only [hR] at hstep
  unfold StpP
  unfold dfv at hopn ⊢
  have dn : ∀ (g : Nat) (xs : List Value), det0 g xs = none := fun _ _ => rfl
  refine walk [] [] (det0_ok _ _) Tryz.func39 rfl Tryz.ntmps39 res39 (by kernel_rfl) no_facts ?_
  simp (config := { maxSteps := 4000000 }) only [↓sx0, ↓sx1, ↓sx2, ↓sx3, ↓sx4, ↓sx5, ↓sx6, sx0, sx1, sx2, sx3, sx4, sx5, sx6, tf39, ev3_hold, sxo, sxc, sxp, sxq, sxr, sxs, sxl, sxm, simprocAttr, dn]
  refine CallOb.pureH (fun w' hp' => hopn _ w' hp') ?_
  rintro q N ⟨bs, ms, mn, rfl, hsub⟩
  have hm1 : HO.cells bs 187 (seaL d sD sT sS vZ vC vW ms mn) ∈ N := hsub.subset List.mem_cons_self
  have hc := hc bs ms mn
  have hla := hla bs ms mn
  have hstep := hstep bs ms mn
  refine ⟨?_⟩
  simp (config := { maxSteps := 4000000 }) only [↓sx0, ↓sx1, ↓sx2, ↓sx3, ↓sx4, ↓sx5, ↓sx6, sx0, sx1, sx2, sx3, sx4, sx5, sx6, tf39, ev3_hold, sxo, sxc, sxp, sxq, sxr, sxs, sxl, sxm, simprocAttr, e1, dn]
  refine CallOb.pureH (fun w' hp' => hc _ w' hp' (by simp [hm1])) ?_
  rintro q N1 rfl
  refine ⟨?_⟩
  simp (config := { maxSteps := 4000000 }) only [↓sx0, ↓sx1, ↓sx2, ↓sx3, ↓sx4, ↓sx5, ↓sx6, sx0, sx1, sx2, sx3, sx4, sx5, sx6, tf39, ev3_hold, sxo, sxc, sxp, sxq, sxr, sxs, sxl, sxm, simprocAttr, e1, dn]
  refine CallOb.pureH (fun w' hp' => hla _ w' hp' (by simp [hm1])) ?_
  rintro q N2 rfl
  refine ⟨?_⟩
  simp (config := { maxSteps := 4000000 }) only [↓sx0, ↓sx1, ↓sx2, ↓sx3, ↓sx4, ↓sx5, ↓sx6, sx0, sx1, sx2, sx3, sx4, sx5, sx6, tf39, ev3_hold, sxo, sxc, sxp, sxq, sxr, sxs, sxl, sxm, simprocAttr, e2, dn]
  refine CallOb.pureH (fun w' hp' => hw1 w') ?_
  rintro q N3 rfl
  refine ⟨?_⟩
  simp (config := { maxSteps := 4000000 }) only [↓sx0, ↓sx1, ↓sx2, ↓sx3, ↓sx4, ↓sx5, ↓sx6, sx0, sx1, sx2, sx3, sx4, sx5, sx6, tf39, ev3_hold, sxo, sxc, sxp, sxq, sxr, sxs, sxl, sxm, simprocAttr, dn]
  refine CallOb.pureH (fun w' hp' => hw2 w') ?_
  rintro q N4 rfl
  refine ⟨?_⟩
  simp (config := { maxSteps := 4000000 }) only [↓sx0, ↓sx1, ↓sx2, ↓sx3, ↓sx4, ↓sx5, ↓sx6, sx0, sx1, sx2, sx3, sx4, sx5, sx6, tf39, ev3_hold, sxo, sxc, sxp, sxq, sxr, sxs, sxl, sxm, simprocAttr, dn]
  refine CallOb.mutH (A := HO.obj ms (.map #[] 0) :: [HO.obj mn (.map #[] 0)]) (B := [HO.cells bs 187 (seaL d sD sT sS vZ vC vW ms mn)]) ?_ (fun b hb => ?_) (fun w' hp' => hstep _ w' hp' List.mem_cons_self) ?_
  · refine (HImp.sub (H' := [HO.cells bs 187 (seaL d sD sT sS vZ vC vW ms mn), HO.obj mn (.map #[] 0), HO.obj ms (.map #[] 0)]) ?_).trans (HImp.perm (List.reverse_perm _).symm)
    refine List.Sublist.trans ?_ (List.sublist_append_right _ _)
    refine List.Sublist.trans ?_ (List.sublist_append_right _ _)
    refine List.Sublist.trans ?_ (List.sublist_append_right _ _)
    exact List.Sublist.trans hsub (List.sublist_append_right _ _)
  · obtain ⟨h, hh, hb⟩ := hb
    simp only [List.mem_cons, List.not_mem_nil, or_false] at hh
    rcases hh with rfl | rfl
    · exact ⟨_, List.mem_cons_self, hb⟩
    · exact ⟨_, List.mem_cons_of_mem _ List.mem_cons_self, hb⟩
  rintro q N5 ⟨a, cp, rfl, hN5⟩
  refine ⟨?_⟩
  simp (config := { maxSteps := 4000000 }) only [↓sx0, ↓sx1, ↓sx2, ↓sx3, ↓sx4, ↓sx5, ↓sx6, sx0, sx1, sx2, sx3, sx4, sx5, sx6, tf39, ev3_hold, sxo, sxc, sxp, sxq, sxr, sxs, sxl, sxm, simprocAttr, dn]
  refine CallOb.pureH (fun w' hp' => clone1_fn w' (.slice a R.length cp) R (RowOk.sl (hp'.ok _ (List.mem_append_left _ hN5))) hcb) ?_
  rintro q N6 ⟨ad, c, rfl, hnil, hN6⟩
  refine ⟨?_⟩
  simp (config := { maxSteps := 4000000 }) only [↓sx0, ↓sx1, ↓sx2, ↓sx3, ↓sx4, ↓sx5, ↓sx6, sx0, sx1, sx2, sx3, sx4, sx5, sx6, tf39, ev3_hold, sxo, sxc, sxp, sxq, sxr, sxs, sxl, sxm, simprocAttr]
  refine ⟨ad, c, rfl, ?_⟩
  rcases hN6 with h | h
  · exact .inl (by simp [h])
  · exact .inr h.1
end Go.Proofs.YtnbogcpnpcbjgaaGreatDoor

namespace Go.Proofs.YtnbogcpnpcbjgaaGreatDoor
open Go.RowKit Go.SX
set_option maxRecDepth 20000
set_option maxHeartbeats 0
def exEast : Psh := ⟨1, 0, 1⟩
def exStill : Psh := ⟨1, 0, 0⟩
def exWind : Psh := ⟨2, 0, 2⟩
def exDrf : Drf := ⟨exC, [1, 1, 1, 1, 0, 0, 0, 0, 0, 0, 0, 0], [List.replicate 4 exEast, List.replicate 4 exStill], List.replicate 4 exWind⟩
def iIns (x : Int) : List Int → List Int
  | [] => [x]
  | y :: l => if x ≤ y then x :: y :: l else y :: iIns x l
def iSort : List Int → List Int
  | [] => []
  | x :: l => iIns x (iSort l)
theorem iIns_perm (x : Int) : ∀ l, (iIns x l).Perm (x :: l)
  | [] => List.Perm.refl _
  | y :: l => by
    rw [iIns]
    split
    · exact List.Perm.refl _
    · exact ((iIns_perm x l).cons y).trans (List.Perm.swap x y l)
theorem iSort_perm : ∀ l, (iSort l).Perm l
  | [] => List.Perm.refl _
  | x :: l => (iIns_perm x _).trans ((iSort_perm l).cons x)
theorem iIns_sorted (x : Int) : ∀ l, l.Pairwise (· ≤ ·) → (iIns x l).Pairwise (· ≤ ·)
  | [], _ => List.pairwise_singleton _ _
  | y :: l, h => by
    have h' := List.pairwise_cons.1 h
    rw [iIns]
    split
    · rename_i hxy
      refine List.pairwise_cons.2 ⟨fun z hz => ?_, h⟩
      rcases List.mem_cons.1 hz with rfl | hz
      · exact hxy
      · exact Int.le_trans hxy (h'.1 z hz)
    · rename_i hxy
      refine List.pairwise_cons.2 ⟨fun z hz => ?_, iIns_sorted x l h'.2⟩
      rcases List.mem_cons.1 ((iIns_perm x l).mem_iff.1 hz) with rfl | hz
      · omega
      · exact h'.1 z hz
theorem iSort_sorted : ∀ l, (iSort l).Pairwise (· ≤ ·)
  | [] => List.Pairwise.nil
  | x :: l => iIns_sorted x _ (iSort_sorted l)
theorem srtL_sorted (l : List Int) : (srtL l).Pairwise (· ≤ ·) := by
  have h := List.pairwise_mergeSort (le := leI) (fun a b c => by simp only [leI, decide_eq_true_eq]; omega) (fun a b => by simp only [leI, Bool.or_eq_true, decide_eq_true_eq]; omega) l
  exact h.imp fun hab => by simpa [leI] using hab
theorem srtL_perm (l : List Int) : (srtL l).Perm l := List.mergeSort_perm _ _
theorem srtL_is (l : List Int) : srtL l = iSort l :=
  List.Perm.eq_of_pairwise (fun a b _ _ h1 h2 => by omega) (srtL_sorted l) (iSort_sorted l) ((srtL_perm l).trans (iSort_perm l).symm)
def stpN2 (d : Drf) (cur wnd : Psh) (t k lw : Nat) (lo : Int) : Nat → List Int
  | 0 => []
  | n + 1 => if dryB d.c k t (lo + n) then stpN2 d cur wnd t k lw lo n ++ [(k : Int)] else Lib.compact (iSort (stpN2 d cur wnd t k lw lo n ++ seedL d cur wnd t (lo + n) k lw))
theorem stpN_is (d : Drf) (cur wnd : Psh) (t k lw : Nat) (lo : Int) : ∀ n, stpN d cur wnd t k lw lo n = stpN2 d cur wnd t k lw lo n
  | 0 => rfl
  | n + 1 => by rw [stpN, stpN2, stpN_is d cur wnd t k lw lo n, stpH, srtL_is]
theorem exStp : stpA exDrf exEast exWind 0 4 4 10 14 = [-1, 4, 5, 9, 10] := by
  unfold stpA
  rw [stpN_is, srtL_is]
  decide +kernel
theorem exEast_ok : exEast.ok := ⟨by decide, by decide⟩
theorem exStill_ok : exStill.ok := ⟨by decide, by decide⟩
theorem exWind_ok : exWind.ok := ⟨by decide, by decide⟩
theorem exDrf_ok : exDrf.ok := by
  refine ⟨exC_ok, rfl, by decide, by decide, fun l hl => ?_, ⟨rfl, fun p hp => ?_⟩⟩
  · simp only [exDrf, List.mem_cons, List.not_mem_nil, or_false] at hl
    rcases hl with rfl | rfl
    · refine ⟨rfl, fun p hp => ?_⟩
      rw [List.eq_of_mem_replicate hp]
      exact exEast_ok
    · refine ⟨rfl, fun p hp => ?_⟩
      rw [List.eq_of_mem_replicate hp]
      exact exStill_ok
  · rw [List.eq_of_mem_replicate hp]
    exact exWind_ok
end Go.Proofs.YtnbogcpnpcbjgaaGreatDoor

namespace Go.Proofs.YtnbogcpnpcbjgaaGreatDoor
open Go.RowKit Go.SX
set_option maxRecDepth 20000
set_option maxHeartbeats 0
set_option linter.unusedSimpArgs false
set_option linter.unusedVariables false
def ExN (N : List HO) (sD sT sS vZ vC vW : Value) : Prop := HO.row sD 3 1 (ints exC.depth) ∈ N ∧ HO.row sT 31 2 (cat spc exC.tide) ∈ N ∧ HO.row sS 3 1 (ints exC.swell) ∈ N ∧ HO.row vZ 3 1 (ints exDrf.zones) ∈ N ∧ HO.row vW 139 3 (cat psc exDrf.wind) ∈ N ∧
  ∃ ps : List Cs, ps.map Prod.fst = exDrf.cur ∧ HO.row vC 27 1 (cat csc ps) ∈ N ∧ ∀ p ∈ ps, HO.row (csv p) 139 3 (cat psc p.1) ∈ N
theorem ExN.ok {w0 : Base} {N H : List HO} {w : World} {sD sT sS vZ vC vW : Value} (h : ExN N sD sT sS vZ vC vW) (hm : ∀ x ∈ N, x ∈ H) (hp : Hp w0 H w) : DfOk w exDrf sD sT sS vZ vC vW := by
  obtain ⟨h1, h2, h3, h4, h5, ps, h6, h7, h8⟩ := h
  have key : ∀ {v : Value} {E sz : Nat} {xs : List Value}, HO.row v E sz xs ∈ N → Sl w v sz xs := fun hr => RowOk.sl (hp.ok _ (hm _ hr))
  exact ⟨⟨_, _, _, rfl, key h1, key h2, key h3⟩, key h4, ⟨ps, h6, key h7, fun p hp => key (h8 p hp)⟩, key h5⟩
theorem psc_one (p : Psh) : ∀ y ∈ psc p, y.oneCell' = true := by simp [psc, Value.oneCell']
theorem example2_fn (w : World) : SX.Fn Tryz.prog 38 [] w (fun _ => False) fun q N => ∃ b1 b2 b3 b4 b5 b6 b7 a c, q = .tuple #[dfv exDrf (.slice (some ⟨b1, 0, none⟩) 12 12) (.slice (some ⟨b2, 0, none⟩) 5 5) (.slice (some ⟨b3, 0, none⟩) 5 5) (.slice (some ⟨b4, 0, none⟩) 12 12) (.slice (some ⟨b5, 0, none⟩) 2 2) (.slice a 4 c), .agg #[I 0, .slice (some ⟨b6, 0, none⟩) 1 1, I 2, I 4], .slice (some ⟨b7, 0, none⟩) 2 2] ∧ ExN N (.slice (some ⟨b1, 0, none⟩) 12 12) (.slice (some ⟨b2, 0, none⟩) 5 5) (.slice (some ⟨b3, 0, none⟩) 5 5) (.slice (some ⟨b4, 0, none⟩) 12 12) (.slice (some ⟨b5, 0, none⟩) 2 2) (.slice a 4 c) := by
  have dn : ∀ (g : Nat) (xs : List Value), det0 g xs = none := fun _ _ => rfl
  refine walk [] [] (det0_ok _ _) Tryz.func38 rfl Tryz.ntmps38 res38 (by kernel_rfl) no_facts ?_
  simp (config := { maxSteps := 4000000 }) only [↓sx0, ↓sx1, ↓sx2, ↓sx3, ↓sx4, ↓sx5, ↓sx6, sx0, sx1, sx2, sx3, sx4, sx5, sx6, tf38, ev3_hold, sxo, sxc, sxp, sxq, sxr, sxs, sxl, sxm, simprocAttr, dn]
  refine CallOb.pureH (fun w' hp => example_fn w') ?_
  rintro q N ⟨b1, b2, b3, rfl, h1, h2, h3⟩
  refine ⟨?_⟩
  simp (config := { maxSteps := 4000000 }) only [↓sx0, ↓sx1, ↓sx2, ↓sx3, ↓sx4, ↓sx5, ↓sx6, sx0, sx1, sx2, sx3, sx4, sx5, sx6, tf38, ev3_hold, sxo, sxc, sxp, sxq, sxr, sxs, sxl, sxm, simprocAttr]
  intro b4
  obtain ⟨HB, hHB⟩ : ∃ HB, HO.row (.slice (some ⟨b4, 0, none⟩) 12 12) 3 1 (ints exDrf.zones) :: N = HB := ⟨_, rfl⟩
  have hHB' : HO.row (.slice (some ⟨b4, 0, none⟩) 12 12) 3 1 [I 1, I 1, I 1, I 1, I 0, I 0, I 0, I 0, I 0, I 0, I 0, I 0] :: N = HB := hHB
  rw [hHB']
  refine loop_boxH (HO.row (.slice none 0 0) 139 3 (cat psc (List.replicate 0 exEast)) :: HO.row (.slice none 0 0) 139 3 (cat psc (List.replicate 0 exStill)) :: HO.row (.slice none 0 0) 139 3 (cat psc (List.replicate 0 exWind)) :: HB) (((HImp.nilRow _ _ _ _).trans (HImp.nilRow _ _ _ _)).trans (HImp.nilRow _ _ _ _)) [(4, 6), (10, 29)]
    (fun q : Nat × (Option Addr × Nat) × (Option Addr × Nat) × (Option Addr × Nat) => [(4, .slice q.2.1.1 q.1 q.2.1.2), (5, .slice q.2.2.1.1 q.1 q.2.2.1.2), (6, I q.1)])
    (fun q => [(29, [I 0, I 0, .slice none 0 0, .slice none 0 0, .slice none 0 0, .slice none 0 0, .slice none 0 0, .slice none 0 0]), (33, [I 0, .slice none 0 0, I 0, I 0]), (29, [I 4, I 3, .slice (some ⟨b1, 0, none⟩) 12 12, .slice (some ⟨b2, 0, none⟩) 5 5, .slice (some ⟨b3, 0, none⟩) 5 5, .slice (some ⟨b4, 0, none⟩) 12 12, .slice none 0 0, .slice q.2.2.2.1 q.1 q.2.2.2.2])])
    (fun q H1 => q.1 ≤ 4 ∧ H1 = HO.row (.slice q.2.1.1 q.1 q.2.1.2) 139 3 (cat psc (List.replicate q.1 exEast)) :: HO.row (.slice q.2.2.1.1 q.1 q.2.2.1.2) 139 3 (cat psc (List.replicate q.1 exStill)) :: HO.row (.slice q.2.2.2.1 q.1 q.2.2.2.2) 139 3 (cat psc (List.replicate q.1 exWind)) :: HB)
    (fun q => 4 - q.1) (0, (none, 0), (none, 0), (none, 0)) ?_ rfl (fun q => rfl) ⟨Nat.zero_le _, rfl⟩ ?_
  · simp (config := { maxSteps := 4000000 }) only [↓sx0, ↓sx1, ↓sx2, ↓sx3, ↓sx4, ↓sx5, ↓sx6, sx0, sx1, sx2, sx3, sx4, sx5, sx6, tf38, ev3_hold, sxo, sxc, sxp, sxq, sxr, sxs, sxl, sxm, simprocAttr]
    try simp
  rintro ⟨i, ⟨a1, c1⟩, ⟨a2, c2⟩, ⟨a3, c3⟩⟩ H1 g1 ⟨hi, rfl⟩
  simp only [] at hi
  by_cases hi4 : i = 4
  · have e7 : ((i : Int) < 4) = False := eq_false (by omega)
    subst hi4
    refine ⟨?_⟩
    simp (config := { maxSteps := 4000000 }) only [↓sx0, ↓sx1, ↓sx2, ↓sx3, ↓sx4, ↓sx5, ↓sx6, sx0, sx1, sx2, sx3, sx4, sx5, sx6, tf38, ev3_hold, sxo, sxc, sxp, sxq, sxr, sxs, sxl, sxm, simprocAttr, e7]
    intro bC b5 b6 b7 b8
    have m1 : ∀ x ∈ N, x ∈ HB := fun x hx => by rw [← hHB]; exact List.mem_cons_of_mem _ hx
    have m2 : HO.row (.slice (some ⟨b4, 0, none⟩) 12 12) 3 1 (ints exDrf.zones) ∈ HB := by rw [← hHB]; exact List.mem_cons_self
    have m3 : HO.row (.slice a3 4 c3) 139 3 (cat psc exDrf.wind) = HO.row (.slice a3 4 c3) 139 3 (cat psc (List.replicate 4 exWind)) := rfl
    refine ⟨_, _, _, _, _, _, _, _, _, rfl, ?_, ?_, ?_, ?_, ?_, [(List.replicate 4 exEast, a1, 4, c1), (List.replicate 4 exStill, a2, 4, c2)], rfl, ?_, fun p hp => ?_⟩
    · simp [m1 _ h1]
    · simp [m1 _ h2]
    · simp [m1 _ h3]
    · simp only [List.mem_cons]
      simp [m2]
    · rw [m3]
      simp
    · simp [cat, csc, csv]
    · simp only [List.mem_cons, List.not_mem_nil, or_false] at hp
      rcases hp with rfl | rfl
      · simp [csv]
      · simp [csv]
  have e7 : ((i : Int) < 4) = True := eq_true (by omega)
  have e8 : wr (i + 1) = ((i + 1 : Nat) : Int) := (wrap_id (by omega)).trans (by omega)
  have hrp : ∀ p : Psh, List.replicate i p ++ [p] = List.replicate (i + 1) p := fun p => (List.replicate_succ').symm
  refine ⟨?_⟩
  simp (config := { maxSteps := 4000000 }) only [↓sx0, ↓sx1, ↓sx2, ↓sx3, ↓sx4, ↓sx5, ↓sx6, sx0, sx1, sx2, sx3, sx4, sx5, sx6, tf38, ev3_hold, sxo, sxc, sxp, sxq, sxr, sxs, sxl, sxm, simprocAttr, e7]
  intro bq1
  refine app_one (f := psc) (l := List.replicate i exEast) exEast (HImp.refl _ _) psc_len psc_one (by rw [List.length_replicate]; omega) fun a9 c9 => ?_
  rw [List.length_replicate, hrp]
  simp (config := { maxSteps := 4000000 }) only [↓sx0, ↓sx1, ↓sx2, ↓sx3, ↓sx4, ↓sx5, ↓sx6, sx0, sx1, sx2, sx3, sx4, sx5, sx6, tf38, ev3_hold, sxo, sxc, sxp, sxq, sxr, sxs, sxl, sxm, simprocAttr]
  intro bq2
  refine app_one (f := psc) (l := List.replicate i exStill) exStill (HImp.swap _ _ _ _) psc_len psc_one (by rw [List.length_replicate]; omega) fun a8 c8 => ?_
  rw [List.length_replicate, hrp]
  simp (config := { maxSteps := 4000000 }) only [↓sx0, ↓sx1, ↓sx2, ↓sx3, ↓sx4, ↓sx5, ↓sx6, sx0, sx1, sx2, sx3, sx4, sx5, sx6, tf38, ev3_hold, sxo, sxc, sxp, sxq, sxr, sxs, sxl, sxm, simprocAttr]
  intro bq3
  refine app_one (f := psc) (l := List.replicate i exWind) exWind (HImp.perm ((List.reverse_perm [_, _, _]).symm.append_right HB)) psc_len psc_one (by rw [List.length_replicate]; omega) fun a7 c7 => ?_
  rw [List.length_replicate, hrp]
  simp (config := { maxSteps := 4000000 }) only [↓sx0, ↓sx1, ↓sx2, ↓sx3, ↓sx4, ↓sx5, ↓sx6, sx0, sx1, sx2, sx3, sx4, sx5, sx6, tf38, ev3_hold, sxo, sxc, sxp, sxq, sxr, sxs, sxl, sxm, simprocAttr, e8]
  exact ⟨(i + 1, (some a9, c9), (some a8, c8), (some a7, c7)), _, ⟨rfl, rfl, rfl⟩, rfl, HImp.perm (List.perm_middle (l₁ := [_, _])).symm, ⟨by simp only []; omega, rfl⟩, by simp only []; omega⟩
end Go.Proofs.YtnbogcpnpcbjgaaGreatDoor

