/- Parts of a proof: the symbolic walk and what it shows of single functions. -/
import Derived.Test.YtogicfoigeongaaGreatDoorC4
import Derived.Test.YtogicfoigeongaaGreatDoorC5
import Derived.Test.YtogicfoigeongaaGreatDoorX3
set_option linter.all false
namespace Go.Proofs.YtogicfoigeongaaGreatDoor
open Go.RowKit Go.SX
set_option maxRecDepth 10000
set_option maxHeartbeats 0
set_option linter.unusedSimpArgs false
set_option linter.unusedVariables false
structure Lg where
  at_ : Int
  lv : Int
  dr : Int
  tail : Bool
  cells : List Int
structure Sp where
  lv : Int
  was : Int
  is : Int
  tail : Bool
def kindB (l d : Int) : Bool := if l = 0 then inB d 1 100 else (inB l 1 3 && decide (d = 0))
def fltB (c : Cht) (l d : Int) (t k : Nat) : Bool := decide (l > 0) || c.flt d t k
structure Lg.Ok (c : Cht) (l : Lg) : Prop where
  pos : 0 < l.cells.length
  len : l.cells.length ≤ c.tide.length
  at0 : 0 ≤ l.at_
  at1 : l.at_ + l.cells.length ≤ c.tide.length
  kind : kindB l.lv l.dr = true
  cell : ∀ x ∈ l.cells, 0 ≤ x ∧ x < (c.depth.length : Int)
  flt : ∀ i, i < l.cells.length → fltB c l.lv l.dr (l.at_.toNat + i) (_root_.Go.Proofs.YtogicfoigeongaaGreatDoor.lv l.cells i).toNat = true
  next : ∀ i, 0 < i → i < l.cells.length → (_root_.Go.Proofs.YtogicfoigeongaaGreatDoor.lv l.cells i).toNat ∈ nbL c.W c.H (_root_.Go.Proofs.YtogicfoigeongaaGreatDoor.lv l.cells (i - 1)).toNat
def Lg.stp (l : Lg) (t : Nat) : Option Sp :=
  if 0 ≤ (t : Int) - l.at_ ∧ (t : Int) - l.at_ ≤ (l.cells.length : Int) - 1 then some ⟨l.lv, if (t : Int) - l.at_ > 0 then l.cells.getD ((t : Int) - l.at_ - 1).toNat 0 else -1, l.cells.getD ((t : Int) - l.at_).toNat 0, l.tail⟩ else none
def Sp.occ (s : Sp) (x : Int) : Bool := decide (x = s.is) || (s.tail && decide (x = s.was))
def Sp.cl (s o : Sp) : Bool := decide (s.lv = o.lv) && ((decide (s.is ≥ 0) && (s.occ s.is && o.occ s.is)) || ((decide (s.was ≥ 0) && (s.occ s.was && o.occ s.was)) ||
  (decide (s.was ≥ 0) && (decide (o.was ≥ 0) && (decide (s.was ≠ o.was) && (decide (s.is = o.was) && decide (o.is = s.was)))))))
def clT (a b : Lg) (t : Nat) : Bool := match a.stp t, b.stp t with
  | some s, some o => s.cl o
  | _, _ => false
def fstC (a b : Lg) (T : Nat) : Option Nat := (List.range T).find? (clT a b)
abbrev Tri := Nat × Nat × Nat
def tric (x : Tri) : List Value := [I x.1, I x.2.1, I x.2.2]
theorem tric_len (x : Tri) : (tric x).length = 3 := rfl
theorem tric_one (x : Tri) : ∀ y ∈ tric x, y.oneCell' = true := by simp [tric, Value.oneCell']
def lg0 : Lg := ⟨0, 0, 0, false, []⟩
def clO (T : Nat) (ls : List Lg) (i k : Nat) : List Tri := match fstC (ls.getD i lg0) (ls.getD k lg0) T with
  | some t => [(i, k, t)]
  | none => []
def clR (T : Nat) (ls : List Lg) (i : Nat) : Nat → List Tri
  | 0 => []
  | n + 1 => clR T ls i n ++ clO T ls i (i + 1 + n)
def clA (T : Nat) (ls : List Lg) : Nat → List Tri
  | 0 => []
  | i + 1 => clA T ls i ++ clR T ls i (ls.length - (i + 1))
theorem fst_hit {a b : Lg} {T t : Nat} (ht : t < T) (h : clT a b t = true) (h0 : ∀ j, j < t → clT a b j = false) : fstC a b T = some t := by
  unfold fstC
  rw [List.find?_range_eq_some]
  exact ⟨h, by simpa using ht, fun j hj => by rw [h0 j hj]; rfl⟩
theorem fst_no {a b : Lg} {T : Nat} (h0 : ∀ j, j < T → clT a b j = false) : fstC a b T = none := by
  unfold fstC
  rw [List.find?_eq_none]
  intro j hj
  rw [h0 j (by simpa using hj)]
  simp
end Go.Proofs.YtogicfoigeongaaGreatDoor

namespace Go.Proofs.YtogicfoigeongaaGreatDoor
open Go.RowKit Go.SX
set_option maxRecDepth 10000
set_option maxHeartbeats 0
set_option linter.unusedSimpArgs false
set_option linter.unusedVariables false
abbrev Lq := Lg × Option Addr × Nat × Nat
def lqs (p : Lq) : Value := .slice p.2.1 p.2.2.1 p.2.2.2
def lqc (p : Lq) : List Value := [I p.1.at_, I p.1.lv, I p.1.dr, .bool p.1.tail, lqs p]
theorem lqc_len (p : Lq) : (lqc p).length = 5 := rfl
def lqv (p : Lq) : Value := .agg (lqc p).toArray
def LegsOk (w : World) (v : Value) (ls : List Lg) : Prop := ∃ ps : List Lq, ps.map Prod.fst = ls ∧ Sl w v 5 (cat lqc ps) ∧ ∀ p ∈ ps, Sl w (lqs p) 1 (ints p.1.cells)
theorem LegsOk.hp {w0 : World} {H : List HO} {v : Value} {ls : List Lg} (h : LegsOk w0 v ls) {w : World} (hp : Hp ⟨w0, fun _ => False⟩ H w) : LegsOk w v ls := by
  obtain ⟨ps, h1, h2, h3⟩ := h
  exact ⟨ps, h1, Sl.hp (w0 := ⟨w0, fun _ => False⟩) h2 (fun _ _ => id) hp, fun p hm => Sl.hp (w0 := ⟨w0, fun _ => False⟩) (h3 p hm) (fun _ _ => id) hp⟩
theorem lwithin_fn (w : World) (n l h : Int) : SX.Fn Tryz.prog 30 [I n, I l, I h] w (fun _ => False) fun v N => v = .bool (inB n l h) := by
  refine walk [] [] (det0_ok _ _) Tryz.func30 rfl Tryz.ntmps30 res30 (by kernel_rfl) no_facts ?_
  simp (config := { maxSteps := 4000000 }) only [↓sx0, ↓sx1, ↓sx2, ↓sx3, ↓sx4, ↓sx5, ↓sx6, sx0, sx1, sx2, sx3, sx4, sx5, sx6, tf30, ev3_hold, sxo, sxc, sxp, sxq, sxr, sxs, sxl, sxm, simprocAttr]
  unfold inB
  exact ⟨fun h1 => by simp [h1], fun h1 => by simp [h1]⟩
theorem kind_fn (w : World) (l d : Int) : SX.Fn Tryz.prog 81 [I l, I d] w (fun _ => False) fun v N => v = .bool (kindB l d) := by
  have dn : ∀ (g : Nat) (xs : List Value), det0 g xs = none := fun _ _ => rfl
  have h1 := fun (a b c : Int) w' => lwithin_fn w' a b c
  unfold kindB
  by_cases h0 : l = 0
  · have e0 : (l = 0) = True := eq_true h0
    rw [if_pos h0]
    refine walk [] [] (det0_ok _ _) Tryz.func81 rfl Tryz.ntmps81 res81 (by kernel_rfl) no_facts ?_
    simp (config := { maxSteps := 4000000 }) only [↓sx0, ↓sx1, ↓sx2, ↓sx3, ↓sx4, ↓sx5, ↓sx6, sx0, sx1, sx2, sx3, sx4, sx5, sx6, tf81, ev3_hold, sxo, sxc, sxp, sxq, sxr, sxs, sxl, sxm, simprocAttr, e0, dn]
    refine CallOb.pureH (fun w' hp => h1 d 1 100 w') ?_
    rintro q N rfl
    refine ⟨?_⟩
    simp (config := { maxSteps := 4000000 }) only [↓sx0, ↓sx1, ↓sx2, ↓sx3, ↓sx4, ↓sx5, ↓sx6, sx0, sx1, sx2, sx3, sx4, sx5, sx6, tf81, ev3_hold, sxo, sxc, sxp, sxq, sxr, sxs, sxl, sxm, simprocAttr]
    try rfl
  · have e0 : (l = 0) = False := eq_false h0
    rw [if_neg h0]
    have h2 := h1 l 1 3
    cases hb : inB l 1 3 with
    | false =>
      rw [hb] at h2
      refine walk [] [] (det0_ok _ _) Tryz.func81 rfl Tryz.ntmps81 res81 (by kernel_rfl) no_facts ?_
      simp (config := { maxSteps := 4000000 }) only [↓sx0, ↓sx1, ↓sx2, ↓sx3, ↓sx4, ↓sx5, ↓sx6, sx0, sx1, sx2, sx3, sx4, sx5, sx6, tf81, ev3_hold, sxo, sxc, sxp, sxq, sxr, sxs, sxl, sxm, simprocAttr, e0, dn]
      refine CallOb.pureH (fun w' hp => h2 w') ?_
      rintro q N rfl
      refine ⟨?_⟩
      simp (config := { maxSteps := 4000000 }) only [↓sx0, ↓sx1, ↓sx2, ↓sx3, ↓sx4, ↓sx5, ↓sx6, sx0, sx1, sx2, sx3, sx4, sx5, sx6, tf81, ev3_hold, sxo, sxc, sxp, sxq, sxr, sxs, sxl, sxm, simprocAttr]
      try rfl
    | true =>
      rw [hb] at h2
      by_cases hd : d = 0
      · have e1 : (d = 0) = True := eq_true hd
        rw [decide_eq_true hd]
        refine walk [] [] (det0_ok _ _) Tryz.func81 rfl Tryz.ntmps81 res81 (by kernel_rfl) no_facts ?_
        simp (config := { maxSteps := 4000000 }) only [↓sx0, ↓sx1, ↓sx2, ↓sx3, ↓sx4, ↓sx5, ↓sx6, sx0, sx1, sx2, sx3, sx4, sx5, sx6, tf81, ev3_hold, sxo, sxc, sxp, sxq, sxr, sxs, sxl, sxm, simprocAttr, e0, dn]
        refine CallOb.pureH (fun w' hp => h2 w') ?_
        rintro q N rfl
        refine ⟨?_⟩
        simp (config := { maxSteps := 4000000 }) only [↓sx0, ↓sx1, ↓sx2, ↓sx3, ↓sx4, ↓sx5, ↓sx6, sx0, sx1, sx2, sx3, sx4, sx5, sx6, tf81, ev3_hold, sxo, sxc, sxp, sxq, sxr, sxs, sxl, sxm, simprocAttr, e1]
        try simp [hd]
      · have e1 : (d = 0) = False := eq_false hd
        rw [decide_eq_false hd]
        refine walk [] [] (det0_ok _ _) Tryz.func81 rfl Tryz.ntmps81 res81 (by kernel_rfl) no_facts ?_
        simp (config := { maxSteps := 4000000 }) only [↓sx0, ↓sx1, ↓sx2, ↓sx3, ↓sx4, ↓sx5, ↓sx6, sx0, sx1, sx2, sx3, sx4, sx5, sx6, tf81, ev3_hold, sxo, sxc, sxp, sxq, sxr, sxs, sxl, sxm, simprocAttr, e0, dn]
        refine CallOb.pureH (fun w' hp => h2 w') ?_
        rintro q N rfl
        refine ⟨?_⟩
        simp (config := { maxSteps := 4000000 }) only [↓sx0, ↓sx1, ↓sx2, ↓sx3, ↓sx4, ↓sx5, ↓sx6, sx0, sx1, sx2, sx3, sx4, sx5, sx6, tf81, ev3_hold, sxo, sxc, sxp, sxq, sxr, sxs, sxl, sxm, simprocAttr, e1]
        try simp [hd]
abbrev Lp (α : Type) := List α × Option Addr × Nat × Nat
def lpv {α : Type} (p : Lp α) : Value := .slice p.2.1 p.2.2.1 p.2.2.2
def lpc {α : Type} (p : Lp α) : List Value := [lpv p]
theorem lpc_len {α : Type} (p : Lp α) : (lpc p).length = 1 := rfl
theorem lpc_one {α : Type} (p : Lp α) : ∀ y ∈ lpc p, y.oneCell' = true := by simp [lpc, lpv, Value.oneCell']
def LLOk {α : Type} (f : α → List Value) (sz : Nat) (w : World) (v : Value) (cs : List (List α)) : Prop := ∃ ps : List (Lp α), ps.map Prod.fst = cs ∧ Sl w v 1 (cat lpc ps) ∧ ∀ p ∈ ps, Sl w (lpv p) sz (cat f p.1)
def LLN {α : Type} (f : α → List Value) (sz : Nat) (T E : TypeId) (N : List HO) (v : Value) (cs : List (List α)) : Prop := ∃ ps : List (Lp α), ps.map Prod.fst = cs ∧ HO.row v T 1 (cat lpc ps) ∈ N ∧ ∀ p ∈ ps, HO.row (lpv p) E sz (cat f p.1) ∈ N
theorem LLN.ok {α : Type} {f : α → List Value} {sz : Nat} {T E : TypeId} {N H : List HO} {v : Value} {cs : List (List α)} (h : LLN f sz T E N v cs) (hm : ∀ h ∈ N, h ∈ H) {w0 : Base} {w : World} (hp : Hp w0 H w) : LLOk f sz w v cs := by
  obtain ⟨ps, h1, h2, h3⟩ := h
  exact ⟨ps, h1, row_hp (hm _ h2) hp, fun p h => row_hp (hm _ (h3 p h)) hp⟩
theorem LLOk.hp {α : Type} {f : α → List Value} {sz : Nat} {w0 : World} {H : List HO} {v : Value} {cs : List (List α)} (h : LLOk f sz w0 v cs) {w : World} (hp : Hp ⟨w0, fun _ => False⟩ H w) : LLOk f sz w v cs := by
  obtain ⟨ps, h1, h2, h3⟩ := h
  exact ⟨ps, h1, Sl.hp (w0 := ⟨w0, fun _ => False⟩) h2 (fun _ _ => id) hp, fun p hm => Sl.hp (w0 := ⟨w0, fun _ => False⟩) (h3 p hm) (fun _ _ => id) hp⟩
def trfC (c : Cht) (sD sT sS vl vn : Value) : List Value := [I c.wide, I c.high, sD, sT, sS, vl, vn]
structure TrC (w : World) (bx : Nat) (c : Cht) (sD sT sS vl vn : Value) : Prop where
  cel : ∀ (i : Nat) v, (trfC c sD sT sS vl vn)[i]? = some v → w.cell? ⟨bx, i, none⟩ = some v
  ch : ChOk w (.agg #[I c.wide, I c.high, sD, sT, sS]) c
theorem TrC.hp {w0 : World} {bx : Nat} {c : Cht} {sD sT sS vl vn : Value} (h : TrC w0 bx c sD sT sS vl vn) {H : List HO} {w : World} (hp : Hp ⟨w0, fun _ => False⟩ H w) : TrC w bx c sD sT sS vl vn :=
  ⟨fun i v hi => (World.cell?_of_block (w := w0) (hp.ext.block _ (World.block_lt_of_cell? w0 _ (h.cel i v hi)) id)).trans (h.cel i v hi), h.ch.hp hp⟩
theorem TrC.keep {w0 : World} {bx : Nat} {c : Cht} {sD sT sS vl vn : Value} (h : TrC w0 bx c sD sT sS vl vn) {w : World} (hk : Keep (fun _ => False) w0 w) : TrC w bx c sD sT sS vl vn :=
  ⟨fun i v hi => (World.cell?_of_block (w := w0) (hk.block _ (World.block_lt_of_cell? w0 _ (h.cel i v hi)) id)).trans (h.cel i v hi), h.ch.keep hk (fun _ _ => id)⟩
theorem ltick_fn (w : World) (bx : Nat) (c : Cht) (sD sT sS vl vn : Value) (h : TrC w bx c sD sT sS vl vn) (hT : c.tide.length ≤ 1000) (n : Int) : SX.Fn Tryz.prog 80 [.pointer (some ⟨bx, 0, none⟩), I n] w (fun _ => False) fun v N => v = .bool (inB n 0 ((c.tide.length : Int) - 1)) := by
  have dn : ∀ (g : Nat) (xs : List Value), det0 g xs = none := fun _ _ => rfl
  have h1 := fun (a b c : Int) w' => lwithin_fn w' a b c
  have c3 := h.cel 3 _ rfl
  obtain ⟨sD', sT', sS', he, hD, hTT, hS⟩ := h.ch
  injection he with he
  injection he with he
  simp only [List.cons.injEq, true_and, and_true] at he
  obtain ⟨rfl, rfl, rfl⟩ := he
  obtain ⟨a, m, cp, rfl⟩ := hTT.shape
  have hn := hTT.le spc_len (by omega)
  subst hn
  have e1 : wr ((c.tide.length : Int) - 1) = (c.tide.length : Int) - 1 := wrap_id (by omega)
  refine walk [] [] (det0_ok _ _) Tryz.func80 rfl Tryz.ntmps80 res80 (by kernel_rfl) no_facts ?_
  simp (config := { maxSteps := 4000000 }) only [↓sx0, ↓sx1, ↓sx2, ↓sx3, ↓sx4, ↓sx5, ↓sx6, sx0, sx1, sx2, sx3, sx4, sx5, sx6, tf80, ev3_hold, sxo, sxc, sxp, sxq, sxr, sxs, sxl, sxm, simprocAttr]
  refine ld_olda (b := bx) (o := 3) (by simp [Addr.add]) c3 id ?_
  simp (config := { maxSteps := 4000000 }) only [↓sx0, ↓sx1, ↓sx2, ↓sx3, ↓sx4, ↓sx5, ↓sx6, sx0, sx1, sx2, sx3, sx4, sx5, sx6, tf80, ev3_hold, sxo, sxc, sxp, sxq, sxr, sxs, sxl, sxm, simprocAttr, e1, dn]
  refine CallOb.pureH (fun w' hp => h1 n 0 ((c.tide.length : Int) - 1) w') ?_
  rintro q N rfl
  refine ⟨?_⟩
  simp (config := { maxSteps := 4000000 }) only [↓sx0, ↓sx1, ↓sx2, ↓sx3, ↓sx4, ↓sx5, ↓sx6, sx0, sx1, sx2, sx3, sx4, sx5, sx6, tf80, ev3_hold, sxo, sxc, sxp, sxq, sxr, sxs, sxl, sxm, simprocAttr]
theorem lcell_fn (w : World) (bx : Nat) (c : Cht) (sD sT sS vl vn : Value) (h : TrC w bx c sD sT sS vl vn) (hT : c.depth.length ≤ 1000) (n : Int) : SX.Fn Tryz.prog 31 [.pointer (some ⟨bx, 0, none⟩), I n] w (fun _ => False) fun v N => v = .bool (inB n 0 ((c.depth.length : Int) - 1)) := by
  have dn : ∀ (g : Nat) (xs : List Value), det0 g xs = none := fun _ _ => rfl
  have h1 := fun (a b c : Int) w' => lwithin_fn w' a b c
  have c2 := h.cel 2 _ rfl
  obtain ⟨sD', sT', sS', he, hD, hTT, hS⟩ := h.ch
  injection he with he
  injection he with he
  simp only [List.cons.injEq, true_and, and_true] at he
  obtain ⟨rfl, rfl, rfl⟩ := he
  obtain ⟨a, m, cp, rfl⟩ := hD.shape
  have hn := hD.le i1_len (by omega)
  subst hn
  have e1 : wr ((c.depth.length : Int) - 1) = (c.depth.length : Int) - 1 := wrap_id (by omega)
  refine walk [] [] (det0_ok _ _) Tryz.func31 rfl Tryz.ntmps31 res31 (by kernel_rfl) no_facts ?_
  simp (config := { maxSteps := 4000000 }) only [↓sx0, ↓sx1, ↓sx2, ↓sx3, ↓sx4, ↓sx5, ↓sx6, sx0, sx1, sx2, sx3, sx4, sx5, sx6, tf31, ev3_hold, sxo, sxc, sxp, sxq, sxr, sxs, sxl, sxm, simprocAttr]
  refine ld_olda (b := bx) (o := 2) (by simp [Addr.add]) c2 id ?_
  simp (config := { maxSteps := 4000000 }) only [↓sx0, ↓sx1, ↓sx2, ↓sx3, ↓sx4, ↓sx5, ↓sx6, sx0, sx1, sx2, sx3, sx4, sx5, sx6, tf31, ev3_hold, sxo, sxc, sxp, sxq, sxr, sxs, sxl, sxm, simprocAttr, e1, dn]
  refine CallOb.pureH (fun w' hp => h1 n 0 ((c.depth.length : Int) - 1) w') ?_
  rintro q N rfl
  refine ⟨?_⟩
  simp (config := { maxSteps := 4000000 }) only [↓sx0, ↓sx1, ↓sx2, ↓sx3, ↓sx4, ↓sx5, ↓sx6, sx0, sx1, sx2, sx3, sx4, sx5, sx6, tf31, ev3_hold, sxo, sxc, sxp, sxq, sxr, sxs, sxl, sxm, simprocAttr]
end Go.Proofs.YtogicfoigeongaaGreatDoor

namespace Go.Proofs.YtogicfoigeongaaGreatDoor
open Go.RowKit Go.SX
set_option maxRecDepth 10000
set_option maxHeartbeats 0
set_option linter.unusedSimpArgs false
set_option linter.unusedVariables false
def spv (s : Sp) : Value := .agg #[I s.lv, I s.was, I s.is, .bool s.tail]
def stpV : Option Sp → Value
  | some s => .tuple #[spv s, .bool true]
  | none => .tuple #[.agg #[I 0, I 0, I 0, .bool false], .bool false]
theorem lat_fn (w : World) (p : Lq) (hc : Sl w (lqs p) 1 (ints p.1.cells)) (hb : -100 ≤ p.1.at_ ∧ p.1.at_ ≤ 100) (hl : p.1.cells.length ≤ 100) (t : Nat) (ht : t ≤ 100) : SX.Fn Tryz.prog 34 [lqv p, I t] w (fun _ => False) fun v N => v = stpV (p.1.stp t) := by
  have dn : ∀ (g : Nat) (xs : List Value), det0 g xs = none := fun _ _ => rfl
  have h1 := fun (a b c : Int) w' => lwithin_fn w' a b c
  obtain ⟨⟨at_, lv_, dr, tail, cells⟩, ad, n, cp⟩ := p
  simp only [] at hb hl
  have hcs : Sl w (.slice ad n cp) 1 (ints cells) := hc
  have hn := hcs.le i1_len (by omega)
  subst hn
  have hr := fun H => hcs.rd0 H
  have e1 : wr ((t : Int) - at_) = (t : Int) - at_ := wrap_id (by omega)
  have e2 : wr ((cells.length : Int) - 1) = (cells.length : Int) - 1 := wrap_id (by omega)
  have h2 := h1 ((t : Int) - at_) 0 ((cells.length : Int) - 1)
  unfold lqv lqc lqs Lg.stp
  simp only []
  by_cases hin : 0 ≤ (t : Int) - at_ ∧ (t : Int) - at_ ≤ (cells.length : Int) - 1
  case neg =>
    rw [if_neg hin]
    have hb : inB ((t : Int) - at_) 0 ((cells.length : Int) - 1) = false := by unfold inB; exact decide_eq_false hin
    rw [hb] at h2
    refine walk [] [] (det0_ok _ _) Tryz.func34 rfl Tryz.ntmps34 res34 (by kernel_rfl) no_facts ?_
    simp (config := { maxSteps := 4000000 }) only [↓sx0, ↓sx1, ↓sx2, ↓sx3, ↓sx4, ↓sx5, ↓sx6, sx0, sx1, sx2, sx3, sx4, sx5, sx6, tf34, ev3_hold, sxo, sxc, sxp, sxq, sxr, sxs, sxl, sxm, simprocAttr, e1, e2, dn]
    refine CallOb.pureH (fun w' hp => h2 w') ?_
    rintro q N rfl
    refine ⟨?_⟩
    simp (config := { maxSteps := 4000000 }) only [↓sx0, ↓sx1, ↓sx2, ↓sx3, ↓sx4, ↓sx5, ↓sx6, sx0, sx1, sx2, sx3, sx4, sx5, sx6, tf34, ev3_hold, sxo, sxc, sxp, sxq, sxr, sxs, sxl, sxm, simprocAttr]
    try rfl
  rw [if_pos hin]
  have hb : inB ((t : Int) - at_) 0 ((cells.length : Int) - 1) = true := by unfold inB; exact decide_eq_true hin
  rw [hb] at h2
  obtain ⟨k, hk⟩ : ∃ k : Nat, (t : Int) - at_ = k := ⟨((t : Int) - at_).toNat, by omega⟩
  rw [hk] at h2 hin ⊢
  have e1 : wr ((t : Int) - at_) = (k : Int) := e1.trans hk
  have hkl : k < cells.length := by omega
  obtain ⟨x, hx⟩ : ∃ x, cells[k]? = some x := ⟨_, List.getElem?_eq_getElem hkl⟩
  have hxd : cells.getD (k : Int).toNat 0 = x := by rw [Int.toNat_natCast, List.getD_eq_getElem?_getD, hx]; rfl
  have e9 : ((k : Int) < (cells.length : Int)) = True := eq_true (by omega)
  rw [hxd]
  by_cases h0 : k = 0
  · have e3 : ((k : Int) > 0) = False := eq_false (by omega)
    rw [if_neg (by omega)]
    refine walk [] [] (det0_ok _ _) Tryz.func34 rfl Tryz.ntmps34 res34 (by kernel_rfl) no_facts ?_
    simp (config := { maxSteps := 4000000 }) only [↓sx0, ↓sx1, ↓sx2, ↓sx3, ↓sx4, ↓sx5, ↓sx6, sx0, sx1, sx2, sx3, sx4, sx5, sx6, tf34, ev3_hold, sxo, sxc, sxp, sxq, sxr, sxs, sxl, sxm, simprocAttr, e1, e2, dn]
    refine CallOb.pureH (fun w' hp => h2 w') ?_
    rintro q N rfl
    refine ⟨?_⟩
    simp (config := { maxSteps := 4000000 }) only [↓sx0, ↓sx1, ↓sx2, ↓sx3, ↓sx4, ↓sx5, ↓sx6, sx0, sx1, sx2, sx3, sx4, sx5, sx6, tf34, ev3_hold, sxo, sxc, sxp, sxq, sxr, sxs, sxl, sxm, simprocAttr, e9]
    refine amid (at_1 (hr _) i1_len hx rfl fun ad => ?_)
    simp (config := { maxSteps := 4000000 }) only [↓sx0, ↓sx1, ↓sx2, ↓sx3, ↓sx4, ↓sx5, ↓sx6, sx0, sx1, sx2, sx3, sx4, sx5, sx6, tf34, ev3_hold, sxo, sxc, sxp, sxq, sxr, sxs, sxl, sxm, simprocAttr, e3]
    try rfl
  · have e3 : ((k : Int) > 0) = True := eq_true (by omega)
    have e4 : wr ((k : Int) - 1) = ((k - 1 : Nat) : Int) := (wrap_id (by omega)).trans (by omega)
    have e8 : (((k - 1 : Nat) : Int) < (cells.length : Int)) = True := eq_true (by omega)
    obtain ⟨y, hy⟩ : ∃ y, cells[k - 1]? = some y := ⟨_, List.getElem?_eq_getElem (by omega)⟩
    have hyd : cells.getD ((k : Int) - 1).toNat 0 = y := by rw [show ((k : Int) - 1).toNat = k - 1 by omega, List.getD_eq_getElem?_getD, hy]; rfl
    rw [if_pos (by omega), hyd]
    refine walk [] [] (det0_ok _ _) Tryz.func34 rfl Tryz.ntmps34 res34 (by kernel_rfl) no_facts ?_
    simp (config := { maxSteps := 4000000 }) only [↓sx0, ↓sx1, ↓sx2, ↓sx3, ↓sx4, ↓sx5, ↓sx6, sx0, sx1, sx2, sx3, sx4, sx5, sx6, tf34, ev3_hold, sxo, sxc, sxp, sxq, sxr, sxs, sxl, sxm, simprocAttr, e1, e2, dn]
    refine CallOb.pureH (fun w' hp => h2 w') ?_
    rintro q N rfl
    refine ⟨?_⟩
    simp (config := { maxSteps := 4000000 }) only [↓sx0, ↓sx1, ↓sx2, ↓sx3, ↓sx4, ↓sx5, ↓sx6, sx0, sx1, sx2, sx3, sx4, sx5, sx6, tf34, ev3_hold, sxo, sxc, sxp, sxq, sxr, sxs, sxl, sxm, simprocAttr, e9]
    refine amid (at_1 (hr _) i1_len hx rfl fun ad => ?_)
    simp (config := { maxSteps := 4000000 }) only [↓sx0, ↓sx1, ↓sx2, ↓sx3, ↓sx4, ↓sx5, ↓sx6, sx0, sx1, sx2, sx3, sx4, sx5, sx6, tf34, ev3_hold, sxo, sxc, sxp, sxq, sxr, sxs, sxl, sxm, simprocAttr, e3, e4, e8]
    refine amid (at_1 (hr _) i1_len hy rfl fun ad => ?_)
    simp (config := { maxSteps := 4000000 }) only [↓sx0, ↓sx1, ↓sx2, ↓sx3, ↓sx4, ↓sx5, ↓sx6, sx0, sx1, sx2, sx3, sx4, sx5, sx6, tf34, ev3_hold, sxo, sxc, sxp, sxq, sxr, sxs, sxl, sxm, simprocAttr]
    try rfl
theorem locc_fn (w : World) (s : Sp) (x : Int) : SX.Fn Tryz.prog 35 [spv s, I x] w (fun _ => False) fun v N => v = .bool (s.occ x) := by
  unfold Sp.occ spv
  by_cases h1 : x = s.is
  · have e1 : (x = s.is) = True := eq_true h1
    rw [decide_eq_true h1]
    refine walk [] [] (det0_ok _ _) Tryz.func35 rfl Tryz.ntmps35 res35 (by kernel_rfl) no_facts ?_
    simp (config := { maxSteps := 4000000 }) only [↓sx0, ↓sx1, ↓sx2, ↓sx3, ↓sx4, ↓sx5, ↓sx6, sx0, sx1, sx2, sx3, sx4, sx5, sx6, tf35, ev3_hold, sxo, sxc, sxp, sxq, sxr, sxs, sxl, sxm, simprocAttr, e1]
    try simp
  have e1 : (x = s.is) = False := eq_false h1
  rw [decide_eq_false h1]
  cases hT : s.tail with
  | false =>
    refine walk [] [] (det0_ok _ _) Tryz.func35 rfl Tryz.ntmps35 res35 (by kernel_rfl) no_facts ?_
    simp (config := { maxSteps := 4000000 }) only [↓sx0, ↓sx1, ↓sx2, ↓sx3, ↓sx4, ↓sx5, ↓sx6, sx0, sx1, sx2, sx3, sx4, sx5, sx6, tf35, ev3_hold, sxo, sxc, sxp, sxq, sxr, sxs, sxl, sxm, simprocAttr, e1]
    try simp
  | true =>
    by_cases h2 : x = s.was
    · have e2 : (x = s.was) = True := eq_true h2
      rw [decide_eq_true h2]
      refine walk [] [] (det0_ok _ _) Tryz.func35 rfl Tryz.ntmps35 res35 (by kernel_rfl) no_facts ?_
      simp (config := { maxSteps := 4000000 }) only [↓sx0, ↓sx1, ↓sx2, ↓sx3, ↓sx4, ↓sx5, ↓sx6, sx0, sx1, sx2, sx3, sx4, sx5, sx6, tf35, ev3_hold, sxo, sxc, sxp, sxq, sxr, sxs, sxl, sxm, simprocAttr, e1, e2]
      try simp [h2]
    · have e2 : (x = s.was) = False := eq_false h2
      rw [decide_eq_false h2]
      refine walk [] [] (det0_ok _ _) Tryz.func35 rfl Tryz.ntmps35 res35 (by kernel_rfl) no_facts ?_
      simp (config := { maxSteps := 4000000 }) only [↓sx0, ↓sx1, ↓sx2, ↓sx3, ↓sx4, ↓sx5, ↓sx6, sx0, sx1, sx2, sx3, sx4, sx5, sx6, tf35, ev3_hold, sxo, sxc, sxp, sxq, sxr, sxs, sxl, sxm, simprocAttr, e1, e2]
      try simp [h2]
end Go.Proofs.YtogicfoigeongaaGreatDoor

namespace Go.Proofs.YtogicfoigeongaaGreatDoor
open Go.RowKit Go.SX
set_option maxRecDepth 10000
set_option maxHeartbeats 0
set_option linter.unusedSimpArgs false
set_option linter.unusedVariables false
def Sp.pc (s o : Sp) (x : Int) : Bool := decide (x ≥ 0) && (s.occ x && o.occ x)
theorem cl_eq (s o : Sp) : s.cl o = (decide (s.lv = o.lv) && (s.pc o s.is || (s.pc o s.was || (decide (s.was ≥ 0) && (decide (o.was ≥ 0) && (decide (s.was ≠ o.was) && (decide (s.is = o.was) && decide (o.is = s.was)))))))) := rfl
theorem lcl_fn (w : World) (s o : Sp) : SX.Fn Tryz.prog 45 [spv s, spv o] w (fun _ => False) fun v N => v = .bool (s.cl o) := by
  have dn : ∀ (g : Nat) (xs : List Value), det0 g xs = none := fun _ _ => rfl
  have hs := fun (x : Int) w' => locc_fn w' s x
  have ho := fun (x : Int) w' => locc_fn w' o x
  rw [cl_eq]
  unfold spv at hs ho ⊢
  by_cases h1 : s.lv = o.lv
  case neg =>
    have e1 : (s.lv = o.lv) = False := eq_false h1
    rw [decide_eq_false h1]
    refine walk [] [] (det0_ok _ _) Tryz.func45 rfl Tryz.ntmps45 res45 (by kernel_rfl) no_facts ?_
    simp (config := { maxSteps := 4000000 }) only [↓sx0, ↓sx1, ↓sx2, ↓sx3, ↓sx4, ↓sx5, ↓sx6, sx0, sx1, sx2, sx3, sx4, sx5, sx6, tf45, ev3_hold, sxo, sxc, sxp, sxq, sxr, sxs, sxl, sxm, simprocAttr, e1]
    try simp
  have e1 : (s.lv = o.lv) = True := eq_true h1
  rw [decide_eq_true h1, Bool.true_and]
  obtain ⟨P, hP⟩ : ∃ P : Int → Bool, ∀ x, s.pc o x = P x := ⟨_, fun _ => rfl⟩
  rw [hP, hP]
  obtain ⟨sl, sw, si, st⟩ := s
  obtain ⟨ol, ow, oi, ot⟩ := o
  simp only [] at h1 e1 hs ho ⊢
  refine walk [] [] (det0_ok _ _) Tryz.func45 rfl Tryz.ntmps45 res45 (by kernel_rfl) no_facts ?_
  simp (config := { maxSteps := 4000000 }) only [↓sx0, ↓sx1, ↓sx2, ↓sx3, ↓sx4, ↓sx5, ↓sx6, sx0, sx1, sx2, sx3, sx4, sx5, sx6, tf45, ev3_hold, sxo, sxc, sxp, sxq, sxr, sxs, sxl, sxm, simprocAttr, e1]
  intro b
  refine loop_constH [HO.row (.slice (some ⟨b, 0, none⟩) 2 2) 3 1 (ints [si, sw])] (HImp.refl _ _) [(4, 4), (6, 6), (18, 34)] (fun k : Nat => [(18, I k)]) (fun k H1 => k ≤ 2 ∧ H1 = [HO.row (.slice (some ⟨b, 0, none⟩) 2 2) 3 1 (ints [si, sw])] ∧ ∀ j x, j < k → [si, sw][j]? = some x → P x = false) (fun k => 2 - k) 0 ?_ ⟨by omega, rfl, fun j x h => by omega⟩ ?_
  · simp (config := { maxSteps := 4000000 }) only [↓sx0, ↓sx1, ↓sx2, ↓sx3, ↓sx4, ↓sx5, ↓sx6, sx0, sx1, sx2, sx3, sx4, sx5, sx6, tf45, ev3_hold, sxo, sxc, sxp, sxq, sxr, sxs, sxl, sxm, simprocAttr]
    try simp
  rintro k H1 g1 ⟨hk, rfl, hall⟩
  have hr : ∀ H, (HO.row (.slice (some ⟨b, 0, none⟩) 2 2) 3 1 (ints [si, sw])) ∈ H → Rdv ⟨w, fun _ => False⟩ H (.slice (some ⟨b, 0, none⟩) 2 2) 1 (ints [si, sw]) := fun H hm => row_rdv (E := 3) hm ⟨_, _, _, rfl, rfl, fun h => by cases h⟩
  by_cases hk2 : k = 2
  case neg =>
    have e7 : ((k : Int) < 2) = True := eq_true (by omega)
    have e8 : wr ((k : Int) + 1) = ((k + 1 : Nat) : Int) := (wrap_id (by omega)).trans (by omega)
    obtain ⟨x, hx⟩ : ∃ x, [si, sw][k]? = some x := ⟨_, List.getElem?_eq_getElem (by simp; omega)⟩
    have hxm : x = si ∨ x = sw := by
      have := List.mem_of_getElem? hx
      simpa using this
    have hPx : P x = (decide (x ≥ 0) && ((⟨sl, sw, si, st⟩ : Sp).occ x && (⟨ol, ow, oi, ot⟩ : Sp).occ x)) := (hP x).symm
    have hs := hs x
    have ho := ho x
    obtain ⟨A, hA⟩ : ∃ A, (⟨sl, sw, si, st⟩ : Sp).occ x = A := ⟨_, rfl⟩
    obtain ⟨B, hB⟩ : ∃ B, (⟨ol, ow, oi, ot⟩ : Sp).occ x = B := ⟨_, rfl⟩
    rw [hA, hB] at hPx
    rw [hA] at hs
    rw [hB] at ho
    have hnext : P x = false → ∀ j y, j < k + 1 → [si, sw][j]? = some y → P y = false := fun h j y hj hy => by
      by_cases hjk : j = k
      · subst hjk
        rw [hx] at hy
        cases hy
        exact h
      · exact hall j y (by omega) hy
    by_cases c1 : x ≥ 0
    case neg =>
      have f1 : (x ≥ 0) = False := eq_false c1
      have hPf : P x = false := by rw [hPx, decide_eq_false c1]; rfl
      refine ⟨?_⟩
      simp (config := { maxSteps := 4000000 }) only [↓sx0, ↓sx1, ↓sx2, ↓sx3, ↓sx4, ↓sx5, ↓sx6, sx0, sx1, sx2, sx3, sx4, sx5, sx6, tf45, ev3_hold, sxo, sxc, sxp, sxq, sxr, sxs, sxl, sxm, simprocAttr, e7]
      refine amid (at_1 (hr _ (by simp)) i1_len hx rfl fun ad => ?_)
      simp (config := { maxSteps := 4000000 }) only [↓sx0, ↓sx1, ↓sx2, ↓sx3, ↓sx4, ↓sx5, ↓sx6, sx0, sx1, sx2, sx3, sx4, sx5, sx6, tf45, ev3_hold, sxo, sxc, sxp, sxq, sxr, sxs, sxl, sxm, simprocAttr, f1, e8]
      exact ⟨k + 1, _, rfl, HImp.refl _ _, ⟨by omega, rfl, hnext hPf⟩, by omega⟩
    have f1 : (x ≥ 0) = True := eq_true c1
    rw [decide_eq_true c1, Bool.true_and] at hPx
    cases A with
    | false =>
      refine ⟨?_⟩
      simp (config := { maxSteps := 4000000 }) only [↓sx0, ↓sx1, ↓sx2, ↓sx3, ↓sx4, ↓sx5, ↓sx6, sx0, sx1, sx2, sx3, sx4, sx5, sx6, tf45, ev3_hold, sxo, sxc, sxp, sxq, sxr, sxs, sxl, sxm, simprocAttr, e7]
      refine amid (at_1 (hr _ (by simp)) i1_len hx rfl fun ad => ?_)
      simp (config := { maxSteps := 4000000 }) only [↓sx0, ↓sx1, ↓sx2, ↓sx3, ↓sx4, ↓sx5, ↓sx6, sx0, sx1, sx2, sx3, sx4, sx5, sx6, tf45, ev3_hold, sxo, sxc, sxp, sxq, sxr, sxs, sxl, sxm, simprocAttr, f1, dn]
      refine CallOb.pureH (fun w' hp => hs w') ?_
      rintro q N rfl
      refine ⟨?_⟩
      simp (config := { maxSteps := 4000000 }) only [↓sx0, ↓sx1, ↓sx2, ↓sx3, ↓sx4, ↓sx5, ↓sx6, sx0, sx1, sx2, sx3, sx4, sx5, sx6, tf45, ev3_hold, sxo, sxc, sxp, sxq, sxr, sxs, sxl, sxm, simprocAttr, e8]
      exact ⟨k + 1, _, rfl, HImp.app _ _ _, ⟨by omega, rfl, hnext hPx⟩, by omega⟩
    | true =>
      cases B with
      | false =>
        refine ⟨?_⟩
        simp (config := { maxSteps := 4000000 }) only [↓sx0, ↓sx1, ↓sx2, ↓sx3, ↓sx4, ↓sx5, ↓sx6, sx0, sx1, sx2, sx3, sx4, sx5, sx6, tf45, ev3_hold, sxo, sxc, sxp, sxq, sxr, sxs, sxl, sxm, simprocAttr, e7]
        refine amid (at_1 (hr _ (by simp)) i1_len hx rfl fun ad => ?_)
        simp (config := { maxSteps := 4000000 }) only [↓sx0, ↓sx1, ↓sx2, ↓sx3, ↓sx4, ↓sx5, ↓sx6, sx0, sx1, sx2, sx3, sx4, sx5, sx6, tf45, ev3_hold, sxo, sxc, sxp, sxq, sxr, sxs, sxl, sxm, simprocAttr, f1, dn]
        refine CallOb.pureH (fun w' hp => hs w') ?_
        rintro q N rfl
        refine ⟨?_⟩
        simp (config := { maxSteps := 4000000 }) only [↓sx0, ↓sx1, ↓sx2, ↓sx3, ↓sx4, ↓sx5, ↓sx6, sx0, sx1, sx2, sx3, sx4, sx5, sx6, tf45, ev3_hold, sxo, sxc, sxp, sxq, sxr, sxs, sxl, sxm, simprocAttr, dn]
        refine CallOb.pureH (fun w' hp => ho w') ?_
        rintro q N2 rfl
        refine ⟨?_⟩
        simp (config := { maxSteps := 4000000 }) only [↓sx0, ↓sx1, ↓sx2, ↓sx3, ↓sx4, ↓sx5, ↓sx6, sx0, sx1, sx2, sx3, sx4, sx5, sx6, tf45, ev3_hold, sxo, sxc, sxp, sxq, sxr, sxs, sxl, sxm, simprocAttr, e8]
        exact ⟨k + 1, _, rfl, HImp.sub (by simp), ⟨by omega, rfl, hnext hPx⟩, by omega⟩
      | true =>
        have hR : (P si || (P sw || (decide (sw ≥ 0) && (decide (ow ≥ 0) && (decide (sw ≠ ow) && (decide (si = ow) && decide (oi = sw))))))) = true := by
          have hPt : P x = true := hPx
          rcases hxm with rfl | rfl
          · rw [hPt]; rfl
          · rw [hPt]; simp
        rw [hR]
        refine ⟨?_⟩
        simp (config := { maxSteps := 4000000 }) only [↓sx0, ↓sx1, ↓sx2, ↓sx3, ↓sx4, ↓sx5, ↓sx6, sx0, sx1, sx2, sx3, sx4, sx5, sx6, tf45, ev3_hold, sxo, sxc, sxp, sxq, sxr, sxs, sxl, sxm, simprocAttr, e7]
        refine amid (at_1 (hr _ (by simp)) i1_len hx rfl fun ad => ?_)
        simp (config := { maxSteps := 4000000 }) only [↓sx0, ↓sx1, ↓sx2, ↓sx3, ↓sx4, ↓sx5, ↓sx6, sx0, sx1, sx2, sx3, sx4, sx5, sx6, tf45, ev3_hold, sxo, sxc, sxp, sxq, sxr, sxs, sxl, sxm, simprocAttr, f1, dn]
        refine CallOb.pureH (fun w' hp => hs w') ?_
        rintro q N rfl
        refine ⟨?_⟩
        simp (config := { maxSteps := 4000000 }) only [↓sx0, ↓sx1, ↓sx2, ↓sx3, ↓sx4, ↓sx5, ↓sx6, sx0, sx1, sx2, sx3, sx4, sx5, sx6, tf45, ev3_hold, sxo, sxc, sxp, sxq, sxr, sxs, sxl, sxm, simprocAttr, dn]
        refine CallOb.pureH (fun w' hp => ho w') ?_
        rintro q N2 rfl
        refine ⟨?_⟩
        simp (config := { maxSteps := 4000000 }) only [↓sx0, ↓sx1, ↓sx2, ↓sx3, ↓sx4, ↓sx5, ↓sx6, sx0, sx1, sx2, sx3, sx4, sx5, sx6, tf45, ev3_hold, sxo, sxc, sxp, sxq, sxr, sxs, sxl, sxm, simprocAttr]
        try rfl
  have e7 : ((k : Int) < 2) = False := eq_false (by omega)
  rw [hall 0 si (by omega) rfl, hall 1 sw (by omega) rfl]
  simp only [Bool.false_or]
  by_cases cg1 : sw ≥ 0
  case neg =>
    have g1 : (sw ≥ 0) = False := eq_false cg1
    rw [decide_eq_false cg1]
    refine ⟨?_⟩
    simp (config := { maxSteps := 4000000 }) only [↓sx0, ↓sx1, ↓sx2, ↓sx3, ↓sx4, ↓sx5, ↓sx6, sx0, sx1, sx2, sx3, sx4, sx5, sx6, tf45, ev3_hold, sxo, sxc, sxp, sxq, sxr, sxs, sxl, sxm, simprocAttr, e7, g1]
    try simp
  have g1 : (sw ≥ 0) = True := eq_true cg1
  rw [decide_eq_true cg1, Bool.true_and]
  by_cases cg2 : ow ≥ 0
  case neg =>
    have g2 : (ow ≥ 0) = False := eq_false cg2
    rw [decide_eq_false cg2]
    refine ⟨?_⟩
    simp (config := { maxSteps := 4000000 }) only [↓sx0, ↓sx1, ↓sx2, ↓sx3, ↓sx4, ↓sx5, ↓sx6, sx0, sx1, sx2, sx3, sx4, sx5, sx6, tf45, ev3_hold, sxo, sxc, sxp, sxq, sxr, sxs, sxl, sxm, simprocAttr, e7, g1, g2]
    try simp
  have g2 : (ow ≥ 0) = True := eq_true cg2
  rw [decide_eq_true cg2, Bool.true_and]
  by_cases cg3 : sw = ow
  · have g3 : (sw = ow) = True := eq_true cg3
    rw [decide_eq_false (show ¬ (sw ≠ ow) from fun h => h cg3)]
    refine ⟨?_⟩
    simp (config := { maxSteps := 4000000 }) only [↓sx0, ↓sx1, ↓sx2, ↓sx3, ↓sx4, ↓sx5, ↓sx6, sx0, sx1, sx2, sx3, sx4, sx5, sx6, tf45, ev3_hold, sxo, sxc, sxp, sxq, sxr, sxs, sxl, sxm, simprocAttr, e7, g1, g2, g3]
    try simp
  have g3 : (sw = ow) = False := eq_false cg3
  rw [decide_eq_true (show sw ≠ ow from cg3), Bool.true_and]
  by_cases cg4 : si = ow
  case neg =>
    have g4 : (si = ow) = False := eq_false cg4
    rw [decide_eq_false cg4]
    refine ⟨?_⟩
    simp (config := { maxSteps := 4000000 }) only [↓sx0, ↓sx1, ↓sx2, ↓sx3, ↓sx4, ↓sx5, ↓sx6, sx0, sx1, sx2, sx3, sx4, sx5, sx6, tf45, ev3_hold, sxo, sxc, sxp, sxq, sxr, sxs, sxl, sxm, simprocAttr, e7, g1, g2, g3, g4]
    try simp
  have g4 : (si = ow) = True := eq_true cg4
  rw [decide_eq_true cg4, Bool.true_and]
  by_cases cg5 : oi = sw
  case neg =>
    have g5 : (oi = sw) = False := eq_false cg5
    rw [decide_eq_false cg5]
    refine ⟨?_⟩
    simp (config := { maxSteps := 4000000 }) only [↓sx0, ↓sx1, ↓sx2, ↓sx3, ↓sx4, ↓sx5, ↓sx6, sx0, sx1, sx2, sx3, sx4, sx5, sx6, tf45, ev3_hold, sxo, sxc, sxp, sxq, sxr, sxs, sxl, sxm, simprocAttr, e7, g1, g2, g3, g4, g5]
    try simp [cg5]
  have g5 : (oi = sw) = True := eq_true cg5
  rw [decide_eq_true cg5]
  refine ⟨?_⟩
  simp (config := { maxSteps := 4000000 }) only [↓sx0, ↓sx1, ↓sx2, ↓sx3, ↓sx4, ↓sx5, ↓sx6, sx0, sx1, sx2, sx3, sx4, sx5, sx6, tf45, ev3_hold, sxo, sxc, sxp, sxq, sxr, sxs, sxl, sxm, simprocAttr, e7, g1, g2, g3, g4, g5]
  try simp [cg5]
end Go.Proofs.YtogicfoigeongaaGreatDoor

namespace Go.Proofs.YtogicfoigeongaaGreatDoor
open Go.RowKit Go.SX
set_option maxRecDepth 10000
set_option maxHeartbeats 0
set_option linter.unusedSimpArgs false
set_option linter.unusedVariables false
theorem ld_oldsL {w0 : Base} {H : List HO} {a : Addr} {b n : Nat} {vs : List Value} {K : SV → Prop} (e : a = ⟨b, 0, none⟩) (h : ∀ i v, vs[i]? = some v → w0.w.cell? ⟨b, i, none⟩ = some v) (hl : vs.length = n) (hX : ¬ w0.X b) (hK : K (.v (.agg vs.toArray))) : hold (LdOb w0 H a (some n) K) ⟨0⟩ := by
  subst e
  exact ⟨vs, hl, fun j v hj => .inl ⟨by rw [add_block, Nat.zero_add]; exact h j v hj, by rw [add_block]; exact hX⟩, hK⟩
theorem openE_at {c : Cht} (hok : c.ok) {k t : Nat} {g : Int} (hk : k < c.depth.length) (ht : t < c.tide.length) (hg : 1 ≤ g ∧ g ≤ 100) : openE c [(k : Int)] [(t : Int)] [g] = 0 := by
  unfold openE notCell notTick notDraught
  rw [if_pos ((okB_iff c).2 hok), if_neg]
  simp only [List.any_cons, List.any_nil, Bool.or_false, Bool.or_eq_true, Bool.not_eq_true', not_or, Bool.not_eq_false, inB_iff]
  omega
theorem ofl_fn (w : World) (bx : Nat) (c : Cht) (sD sT sS vl vn : Value) (h : TrC w bx c sD sT sS vl vn) (hok : c.ok) (hsm : c.small) (l d : Int) (k t : Nat) (hk : k < c.depth.length) (ht : t < c.tide.length) (hkd : kindB l d = true) : SX.Fn Tryz.prog 82 [.pointer (some ⟨bx, 0, none⟩), I l, I d, I k, I t] w (fun _ => False) fun v N => v = .bool (fltB c l d t k) := by
  have dn : ∀ (g : Nat) (xs : List Value), det0 g xs = none := fun _ _ => rfl
  have hfl := fun (H : List HO) w' (hp : Hp ⟨w, fun _ => False⟩ H w') => floats1_fn w' _ c (h.ch.hp hp) hsm d k t
  have hcel := h.cel
  unfold fltB
  by_cases h0 : l > 0
  · have e0 : (l > 0) = True := eq_true h0
    rw [decide_eq_true h0]
    refine walk [] [] (det0_ok _ _) Tryz.func82 rfl Tryz.ntmps82 res82 (by kernel_rfl) no_facts ?_
    simp (config := { maxSteps := 4000000 }) only [↓sx0, ↓sx1, ↓sx2, ↓sx3, ↓sx4, ↓sx5, ↓sx6, sx0, sx1, sx2, sx3, sx4, sx5, sx6, tf82, ev3_hold, sxo, sxc, sxp, sxq, sxr, sxs, sxl, sxm, simprocAttr, e0]
    try rfl
  have e0 : (l > 0) = False := eq_false h0
  rw [decide_eq_false h0, Bool.false_or]
  have hd : 1 ≤ d ∧ d ≤ 100 := by
    unfold kindB at hkd
    split at hkd
    · exact (inB_iff _ _ _).1 hkd
    · rw [Bool.and_eq_true, inB_iff] at hkd
      omega
  have hE : openE c [(k : Int)] [(t : Int)] [d] = 0 := openE_at hok hk ht hd
  have hV : floatsV c d k t = .tuple #[.bool (c.flt d t k), .bool (decide (c.over k t (c.thi t) ≥ d)), I 0] := by
    unfold floatsV
    rw [if_pos hE, Int.toNat_natCast, Int.toNat_natCast]
    rfl
  rw [hV] at hfl
  obtain ⟨B, hB⟩ : ∃ B, c.flt d t k = B := ⟨_, rfl⟩
  obtain ⟨B2, hB2⟩ : ∃ B2, decide (c.over k t (c.thi t) ≥ d) = B2 := ⟨_, rfl⟩
  rw [hB, hB2] at hfl
  rw [hB]
  have z0 : ((0 : Int) = 0) = True := eq_true rfl
  have c0 := hcel 0 _ rfl
  have c1 := hcel 1 _ rfl
  have c2 := hcel 2 _ rfl
  have c3 := hcel 3 _ rfl
  have c4 := hcel 4 _ rfl
  refine walk [] [] (det0_ok _ _) Tryz.func82 rfl Tryz.ntmps82 res82 (by kernel_rfl) no_facts ?_
  simp (config := { maxSteps := 4000000 }) only [↓sx0, ↓sx1, ↓sx2, ↓sx3, ↓sx4, ↓sx5, ↓sx6, sx0, sx1, sx2, sx3, sx4, sx5, sx6, tf82, ev3_hold, sxo, sxc, sxp, sxq, sxr, sxs, sxl, sxm, simprocAttr, e0]
  have hc5 : ∀ (i : Nat) v, [I c.wide, I c.high, sD, sT, sS][i]? = some v → w.cell? ⟨bx, i, none⟩ = some v := fun i v hi => hcel i v (by
    have h5 : i < 5 := (List.getElem?_eq_some_iff.1 hi).1
    unfold trfC
    rw [show [I c.wide, I c.high, sD, sT, sS, vl, vn] = [I c.wide, I c.high, sD, sT, sS] ++ [vl, vn] from rfl, List.getElem?_append_left h5]
    exact hi)
  refine ld_oldsL (vs := [I c.wide, I c.high, sD, sT, sS]) (by simp [add_block]) hc5 rfl id ?_
  simp (config := { maxSteps := 4000000 }) only [↓sx0, ↓sx1, ↓sx2, ↓sx3, ↓sx4, ↓sx5, ↓sx6, sx0, sx1, sx2, sx3, sx4, sx5, sx6, tf82, ev3_hold, sxo, sxc, sxp, sxq, sxr, sxs, sxl, sxm, simprocAttr, dn]
  refine CallOb.pureH (fun w' hp => hfl _ w' hp) ?_
  rintro q N rfl
  refine ⟨?_⟩
  simp (config := { maxSteps := 4000000 }) only [↓sx0, ↓sx1, ↓sx2, ↓sx3, ↓sx4, ↓sx5, ↓sx6, sx0, sx1, sx2, sx3, sx4, sx5, sx6, tf82, ev3_hold, sxo, sxc, sxp, sxq, sxr, sxs, sxl, sxm, simprocAttr, z0]
  try rfl
theorem lallI_fn (w : World) (a : Option Addr) (n cp : Nat) (l : List Int) (hs : Sl w (.slice a n cp) 1 (ints l)) (hl : l.length ≤ 1000000) (g : Nat) (first cap : List Value) (hT : CallT Tryz.prog g) (hg : ∀ w', Keep (fun _ => False) w w' → ∀ x ∈ l, SX.Fn Tryz.prog g (first ++ ([I x] ++ cap)) w' (fun _ => False) fun q N => q = .bool true) :
    SX.Fn Tryz.prog 89 [.slice a n cp, .func (.func g) first.toArray cap.toArray] w (fun _ => False) fun q N => q = .bool true := by
  have hn := hs.le i1_len (by omega)
  subst hn
  have hr := fun H => hs.rd0 H
  have dn : ∀ (g : Nat) (xs : List Value), det0 g xs = none := fun _ _ => rfl
  have hget : ∀ i : Nat, i < l.length → ∃ x, l[i]? = some x ∧ x ∈ l := fun i hi => ⟨l[i], List.getElem?_eq_getElem hi, List.getElem_mem hi⟩
  refine walk [] [] (det0_ok _ _) Tryz.func89 rfl Tryz.ntmps89 res89 (by kernel_rfl) no_facts ?_
  simp (config := { maxSteps := 4000000 }) only [↓sx0, ↓sx1, ↓sx2, ↓sx3, ↓sx4, ↓sx5, ↓sx6, sx0, sx1, sx2, sx3, sx4, sx5, sx6, tf89, ev3_hold, sxo, sxc, sxp, sxq, sxr, sxs, sxl, sxm, simprocAttr]
  refine loop_constH [] (HImp.refl _ _) [(4, 4), (6, 6), (9, 17)] (fun i : Nat => [(9, I i)]) (fun i H1 => i ≤ l.length ∧ H1 = []) (fun i => l.length - i) 0 ?_ ⟨Nat.zero_le _, rfl⟩ ?_
  · simp (config := { maxSteps := 4000000 }) only [↓sx0, ↓sx1, ↓sx2, ↓sx3, ↓sx4, ↓sx5, ↓sx6, sx0, sx1, sx2, sx3, sx4, sx5, sx6, tf89, ev3_hold, sxo, sxc, sxp, sxq, sxr, sxs, sxl, sxm, simprocAttr]
    try simp
  rintro i H1 g1 ⟨hi, rfl⟩
  by_cases hin : i = l.length
  · have e7 : ((i : Int) < (l.length : Int)) = False := eq_false (by omega)
    refine ⟨?_⟩
    simp (config := { maxSteps := 4000000 }) only [↓sx0, ↓sx1, ↓sx2, ↓sx3, ↓sx4, ↓sx5, ↓sx6, sx0, sx1, sx2, sx3, sx4, sx5, sx6, tf89, ev3_hold, sxo, sxc, sxp, sxq, sxr, sxs, sxl, sxm, simprocAttr, e7]
  have e7 : ((i : Int) < (l.length : Int)) = True := eq_true (by omega)
  have e8 : wr (i + 1) = ((i + 1 : Nat) : Int) := (wrap_id (by omega)).trans (by omega)
  obtain ⟨x, hx, hxl⟩ := hget i (by omega)
  refine ⟨?_⟩
  simp (config := { maxSteps := 4000000 }) only [↓sx0, ↓sx1, ↓sx2, ↓sx3, ↓sx4, ↓sx5, ↓sx6, sx0, sx1, sx2, sx3, sx4, sx5, sx6, tf89, ev3_hold, sxo, sxc, sxp, sxq, sxr, sxs, sxl, sxm, simprocAttr, e7]
  refine amid (at_1 (hr _) i1_len hx rfl fun ad => ?_)
  simp (config := { maxSteps := 4000000 }) only [↓sx0, ↓sx1, ↓sx2, ↓sx3, ↓sx4, ↓sx5, ↓sx6, sx0, sx1, sx2, sx3, sx4, sx5, sx6, tf89, ev3_hold, sxo, sxc, sxp, sxq, sxr, sxs, sxl, sxm, simprocAttr, dn]
  refine ⟨hT, ?_⟩
  refine CallOb.pureH (fun w' hp' => by rw [List.append_assoc]; exact hg w' hp'.ext x hxl) ?_
  rintro q N rfl
  refine ⟨?_⟩
  simp (config := { maxSteps := 4000000 }) only [↓sx0, ↓sx1, ↓sx2, ↓sx3, ↓sx4, ↓sx5, ↓sx6, sx0, sx1, sx2, sx3, sx4, sx5, sx6, tf89, ev3_hold, sxo, sxc, sxp, sxq, sxr, sxs, sxl, sxm, simprocAttr, e8]
  exact ⟨i + 1, [], rfl, HImp.nil _ _, ⟨by omega, rfl⟩, by omega⟩
theorem lallL_fn (w : World) (a : Option Addr) (n cp : Nat) (l : List Lq) (hs : Sl w (.slice a n cp) 5 (cat lqc l)) (hl : l.length ≤ 1000000) (g : Nat) (first cap : List Value) (hT : CallT Tryz.prog g) (hg : ∀ w', Keep (fun _ => False) w w' → ∀ x ∈ l, SX.Fn Tryz.prog g (first ++ ([lqv x] ++ cap)) w' (fun _ => False) fun q N => q = .bool true) :
    SX.Fn Tryz.prog 60 [.slice a n cp, .func (.func g) first.toArray cap.toArray] w (fun _ => False) fun q N => q = .bool true := by
  have hn := hs.le lqc_len (by omega)
  subst hn
  have hr := fun H => hs.rd0 H
  have dn : ∀ (g : Nat) (xs : List Value), det0 g xs = none := fun _ _ => rfl
  have hget : ∀ i : Nat, i < l.length → ∃ x, l[i]? = some x ∧ x ∈ l := fun i hi => ⟨l[i], List.getElem?_eq_getElem hi, List.getElem_mem hi⟩
  refine walk [] [] (det0_ok _ _) Tryz.func60 rfl Tryz.ntmps60 res60 (by kernel_rfl) no_facts ?_
  simp (config := { maxSteps := 4000000 }) only [↓sx0, ↓sx1, ↓sx2, ↓sx3, ↓sx4, ↓sx5, ↓sx6, sx0, sx1, sx2, sx3, sx4, sx5, sx6, tf60, ev3_hold, sxo, sxc, sxp, sxq, sxr, sxs, sxl, sxm, simprocAttr]
  refine loop_constH [] (HImp.refl _ _) [(4, 4), (6, 6), (9, 17)] (fun i : Nat => [(9, I i)]) (fun i H1 => i ≤ l.length ∧ H1 = []) (fun i => l.length - i) 0 ?_ ⟨Nat.zero_le _, rfl⟩ ?_
  · simp (config := { maxSteps := 4000000 }) only [↓sx0, ↓sx1, ↓sx2, ↓sx3, ↓sx4, ↓sx5, ↓sx6, sx0, sx1, sx2, sx3, sx4, sx5, sx6, tf60, ev3_hold, sxo, sxc, sxp, sxq, sxr, sxs, sxl, sxm, simprocAttr]
    try simp
  rintro i H1 g1 ⟨hi, rfl⟩
  by_cases hin : i = l.length
  · have e7 : ((i : Int) < (l.length : Int)) = False := eq_false (by omega)
    refine ⟨?_⟩
    simp (config := { maxSteps := 4000000 }) only [↓sx0, ↓sx1, ↓sx2, ↓sx3, ↓sx4, ↓sx5, ↓sx6, sx0, sx1, sx2, sx3, sx4, sx5, sx6, tf60, ev3_hold, sxo, sxc, sxp, sxq, sxr, sxs, sxl, sxm, simprocAttr, e7]
  have e7 : ((i : Int) < (l.length : Int)) = True := eq_true (by omega)
  have e8 : wr (i + 1) = ((i + 1 : Nat) : Int) := (wrap_id (by omega)).trans (by omega)
  obtain ⟨x, hx, hxl⟩ := hget i (by omega)
  have hpx : lqc x = [I x.1.at_, I x.1.lv, I x.1.dr, .bool x.1.tail, lqs x] := rfl
  have ho : (lqs x).oneCell' = true := rfl
  refine ⟨?_⟩
  simp (config := { maxSteps := 4000000 }) only [↓sx0, ↓sx1, ↓sx2, ↓sx3, ↓sx4, ↓sx5, ↓sx6, sx0, sx1, sx2, sx3, sx4, sx5, sx6, tf60, ev3_hold, sxo, sxc, sxp, sxq, sxr, sxs, sxl, sxm, simprocAttr, e7]
  refine amid (at_n (hr _) lqc_len (by omega) hx fun ad => ?_)
  simp (config := { maxSteps := 4000000 }) only [↓sx0, ↓sx1, ↓sx2, ↓sx3, ↓sx4, ↓sx5, ↓sx6, sx0, sx1, sx2, sx3, sx4, sx5, sx6, tf60, ev3_hold, sxo, sxc, sxp, sxq, sxr, sxs, sxl, sxm, simprocAttr, hpx, ho, dn]
  refine ⟨hT, ?_⟩
  refine CallOb.pureH (fun w' hp' => by rw [List.append_assoc]; exact hg w' hp'.ext x hxl) ?_
  rintro q N rfl
  refine ⟨?_⟩
  simp (config := { maxSteps := 4000000 }) only [↓sx0, ↓sx1, ↓sx2, ↓sx3, ↓sx4, ↓sx5, ↓sx6, sx0, sx1, sx2, sx3, sx4, sx5, sx6, tf60, ev3_hold, sxo, sxc, sxp, sxq, sxr, sxs, sxl, sxm, simprocAttr, e8]
  exact ⟨i + 1, [], rfl, HImp.nil _ _, ⟨by omega, rfl⟩, by omega⟩
end Go.Proofs.YtogicfoigeongaaGreatDoor

