/- Parts of a proof: the symbolic walk and what it shows of single functions. -/
import Derived.Test.YtogicfoigeongaaGreatDoorL1
import Derived.Test.YtogicfoigeongaaGreatDoorX4
import Derived.Shelf.Slices.In.SortAlone
import Derived.Shelf.Slices.In.SortNone
import Derived.Shelf.Slices.In.CompactI
import Derived.Test.YtogicfoigeongaaGreatDoorC2
set_option linter.all false
namespace Go.Proofs.YtogicfoigeongaaGreatDoor
open Go.RowKit Go.SX
set_option maxRecDepth 10000
set_option maxHeartbeats 0
set_option linter.unusedSimpArgs false
set_option linter.unusedVariables false
def NearP (c : Cht) (nr : List (List Int)) : Prop := nr.length = c.depth.length ∧ ∀ k, k < c.depth.length → (nr.getD k []).length ≤ 1000 ∧ ∀ x : Int, x ∈ nr.getD k [] ↔ ∃ n ∈ nbL c.W c.H k, x = ((n : Nat) : Int)
theorem LLOk.at' {α : Type} {f : α → List Value} {sz : Nat} {w : World} {v : Value} {cs : List (List α)} (h : LLOk f sz w v cs) : ∃ ps : List (Lp α), ps.length = cs.length ∧ Sl w v 1 (cat lpc ps) ∧ ∀ (i : Nat) l, cs[i]? = some l → ∃ q : Option Addr × Nat × Nat, ps[i]? = some (l, q) ∧ Sl w (.slice q.1 q.2.1 q.2.2) sz (cat f l) := by
  obtain ⟨ps, h1, h2, h3⟩ := h
  refine ⟨ps, by rw [← h1, List.length_map], h2, fun i l hl => ?_⟩
  rw [← h1, List.getElem?_map, Option.map_eq_some_iff] at hl
  obtain ⟨⟨l', q⟩, hp, rfl⟩ := hl
  exact ⟨q, hp, h3 _ (List.mem_of_getElem? hp)⟩
theorem lindex_fn (w : World) (v : Value) (l : List Int) (x : Int) (hs : Sl w v 1 (ints l)) (hb : l.length ≤ 1000000) : SX.Fn Tryz.prog 110 [v, I x] w (fun _ => False) fun r N => ∃ n : Int, r = I n ∧ decide (n ≥ 0) = decide (x ∈ l) := by
  obtain ⟨a, n, c, rfl⟩ := hs.shape
  have hn := hs.le i1_len (by omega)
  subst hn
  have hr := hs.rd0
  refine walk [] [] (det0_ok _ _) Tryz.func110 rfl Tryz.ntmps110 res110 (by kernel_rfl) no_facts ?_
  simp (config := { maxSteps := 4000000 }) only [↓sx0, ↓sx1, ↓sx2, ↓sx3, ↓sx4, ↓sx5, ↓sx6, sx0, sx1, sx2, sx3, sx4, sx5, sx6, tf110, ev3_hold, sxo, sxc, sxp, sxq, sxr, sxs, sxl, sxm, simprocAttr]
  refine loop_constH [] (HImp.nil _ _) [(4, 5), (8, 18)] (fun k : Nat => [(8, I k)]) (fun k H1 => H1 = [] ∧ k ≤ l.length ∧ (x ∈ l ↔ x ∈ l.drop k)) (fun k => l.length - k) 0 ?_ ⟨rfl, Nat.zero_le _, Iff.rfl⟩ ?_
  · simp (config := { maxSteps := 4000000 }) only [↓sx0, ↓sx1, ↓sx2, ↓sx3, ↓sx4, ↓sx5, ↓sx6, sx0, sx1, sx2, sx3, sx4, sx5, sx6, tf110, ev3_hold, sxo, sxc, sxp, sxq, sxr, sxs, sxl, sxm, simprocAttr]
    try simp
  rintro k H1 g1 ⟨rfl, hk, ht⟩
  by_cases hkn : k = l.length
  · have e7 : ((k : Int) < (l.length : Int)) = False := eq_false (by omega)
    refine ⟨?_⟩
    simp (config := { maxSteps := 4000000 }) only [↓sx0, ↓sx1, ↓sx2, ↓sx3, ↓sx4, ↓sx5, ↓sx6, sx0, sx1, sx2, sx3, sx4, sx5, sx6, tf110, ev3_hold, sxo, sxc, sxp, sxq, sxr, sxs, sxl, sxm, simprocAttr, e7]
    refine ⟨-1, rfl, ?_⟩
    rw [decide_eq_decide, ht, List.drop_of_length_le (by omega)]
    simp
  have e7 : ((k : Int) < (l.length : Int)) = True := eq_true (by omega)
  have e2 : wr ((k : Int) + 1) = ((k + 1 : Nat) : Int) := (wrap_id (by omega)).trans (by omega)
  have hkl : k < l.length := by omega
  rw [List.drop_eq_getElem_cons hkl, List.mem_cons] at ht
  obtain ⟨y, hy⟩ : ∃ y, l[k] = y := ⟨_, rfl⟩
  have hyk : l[k]? = some y := by rw [List.getElem?_eq_getElem hkl, hy]
  rw [hy] at ht
  by_cases hx : x = y
  · have e3 : (x = y) = True := eq_true hx
    have e4 : (y = x) = True := eq_true hx.symm
    refine ⟨?_⟩
    simp (config := { maxSteps := 4000000 }) only [↓sx0, ↓sx1, ↓sx2, ↓sx3, ↓sx4, ↓sx5, ↓sx6, sx0, sx1, sx2, sx3, sx4, sx5, sx6, tf110, ev3_hold, sxo, sxc, sxp, sxq, sxr, sxs, sxl, sxm, simprocAttr, e7]
    refine amid (at_1 (hr _) i1_len hyk rfl fun ad => ?_)
    simp (config := { maxSteps := 4000000 }) only [↓sx0, ↓sx1, ↓sx2, ↓sx3, ↓sx4, ↓sx5, ↓sx6, sx0, sx1, sx2, sx3, sx4, sx5, sx6, tf110, ev3_hold, sxo, sxc, sxp, sxq, sxr, sxs, sxl, sxm, simprocAttr, e3, e4]
    refine ⟨k, rfl, ?_⟩
    rw [decide_eq_decide, ht]
    exact ⟨fun _ => .inl hx, fun _ => by omega⟩
  · have e3 : (x = y) = False := eq_false hx
    have e4 : (y = x) = False := eq_false fun h => hx h.symm
    refine ⟨?_⟩
    simp (config := { maxSteps := 4000000 }) only [↓sx0, ↓sx1, ↓sx2, ↓sx3, ↓sx4, ↓sx5, ↓sx6, sx0, sx1, sx2, sx3, sx4, sx5, sx6, tf110, ev3_hold, sxo, sxc, sxp, sxq, sxr, sxs, sxl, sxm, simprocAttr, e7]
    refine amid (at_1 (hr _) i1_len hyk rfl fun ad => ?_)
    simp (config := { maxSteps := 4000000 }) only [↓sx0, ↓sx1, ↓sx2, ↓sx3, ↓sx4, ↓sx5, ↓sx6, sx0, sx1, sx2, sx3, sx4, sx5, sx6, tf110, ev3_hold, sxo, sxc, sxp, sxq, sxr, sxs, sxl, sxm, simprocAttr, e3, e4, e2]
    exact ⟨k + 1, _, rfl, HImp.refl _ _, ⟨rfl, by omega, by rw [ht]; simp [hx]⟩, by omega⟩
theorem lcontains_fn (w : World) (v : Value) (l : List Int) (x : Int) (hs : Sl w v 1 (ints l)) (hb : l.length ≤ 1000000) : SX.Fn Tryz.prog 90 [v, I x] w (fun _ => False) fun r N => r = .bool (decide (x ∈ l)) := by
  have dn : ∀ (g : Nat) (xs : List Value), det0 g xs = none := fun _ _ => rfl
  obtain ⟨a, n, c, rfl⟩ := hs.shape
  have hix := fun (H : List HO) w' (hp : Hp ⟨w, fun _ => False⟩ H w') => lindex_fn w' _ l x (Sl.hp (w0 := ⟨w, fun _ => False⟩) hs (fun _ _ => id) hp) hb
  refine walk [] [] (det0_ok _ _) Tryz.func90 rfl Tryz.ntmps90 res90 (by kernel_rfl) no_facts ?_
  simp (config := { maxSteps := 4000000 }) only [↓sx0, ↓sx1, ↓sx2, ↓sx3, ↓sx4, ↓sx5, ↓sx6, sx0, sx1, sx2, sx3, sx4, sx5, sx6, tf90, ev3_hold, sxo, sxc, sxp, sxq, sxr, sxs, sxl, sxm, simprocAttr, dn]
  refine CallOb.pureH (fun w' hp => hix _ w' hp) ?_
  rintro r N ⟨m, rfl, hm⟩
  rw [← hm]
  refine ⟨?_⟩
  simp (config := { maxSteps := 4000000 }) only [↓sx0, ↓sx1, ↓sx2, ↓sx3, ↓sx4, ↓sx5, ↓sx6, sx0, sx1, sx2, sx3, sx4, sx5, sx6, tf90, ev3_hold, sxo, sxc, sxp, sxq, sxr, sxs, sxl, sxm, simprocAttr]
  try rfl
end Go.Proofs.YtogicfoigeongaaGreatDoor

namespace Go.Proofs.YtogicfoigeongaaGreatDoor
open Go.RowKit Go.SX
set_option maxRecDepth 10000
set_option maxHeartbeats 0
set_option linter.unusedSimpArgs false
set_option linter.unusedVariables false
theorem lvalid_fn (w : World) (bx : Nat) (c : Cht) (sD sT sS vl vn : Value) (h : TrC w bx c sD sT sS vl vn) (hok : c.ok) (hsm : c.small) (nr : List (List Int)) (hnr : LLOk i1 1 w vn nr) (hnp : NearP c nr) (p : Lq) (hp : p.1.Ok c) (hc : Sl w (lqs p) 1 (ints p.1.cells)) :
    SX.Fn Tryz.prog 61 [.pointer (some ⟨bx, 0, none⟩), lqv p] w (fun _ => False) fun v N => v = .bool true := by
  have dn : ∀ (g : Nat) (xs : List Value), det0 g xs = none := fun _ _ => rfl
  have hT60 : c.tide.length ≤ 60 := hok.2.2.2.1.2
  have hD200 : c.depth.length ≤ 200 := hsm.1
  have hti := fun (n : Int) (H : List HO) w' (hp : Hp ⟨w, fun _ => False⟩ H w') => ltick_fn w' bx c sD sT sS vl vn (h.hp hp) (by omega) n
  have hce := fun (n : Int) w' (hk : Keep (fun _ => False) w w') => lcell_fn w' bx c sD sT sS vl vn (h.keep hk) (by omega) n
  have hfl := fun (k t : Nat) (hk : k < c.depth.length) (ht : t < c.tide.length) (H : List HO) w' (hp' : Hp ⟨w, fun _ => False⟩ H w') => ofl_fn w' bx c sD sT sS vl vn (h.hp hp') hok hsm p.1.lv p.1.dr k t hk ht hp.kind
  obtain ⟨hpos, hlen, hat0, hat1, hkind, hcell, hflt, hnext⟩ := hp
  obtain ⟨⟨at_, lv_, dr, tail, cells⟩, ad, n, cp⟩ := p
  simp only [] at hpos hlen hat0 hat1 hkind hcell hflt hnext hfl
  have hcs : Sl w (.slice ad n cp) 1 (ints cells) := hc
  have hn := hcs.le i1_len (by omega)
  subst hn
  have hr := fun H => hcs.rd0 H
  have c3 := h.cel 3 _ rfl
  have c6 := h.cel 6 _ rfl
  obtain ⟨sD', sT', sS', he, hDD, hTT, hSS⟩ := h.ch
  injection he with he
  injection he with he
  simp only [List.cons.injEq, true_and, and_true] at he
  obtain ⟨rfl, rfl, rfl⟩ := he
  obtain ⟨aT, nT, cT, rfl⟩ := hTT.shape
  have hnT := hTT.le spc_len (by omega)
  subst hnT
  obtain ⟨ps, hpl, hsn, hpn⟩ := hnr.at'
  obtain ⟨aN, nN, cN, rfl⟩ := hsn.shape
  have hnN := hsn.le lpc_len (by have := hnp.1; omega)
  subst hnN
  have hrn := fun H => hsn.rd0 H
  have hkd := fun w' => kind_fn w' lv_ dr
  rw [hkind] at hkd
  have e0 : ((cells.length : Int) = 0) = False := eq_false (by omega)
  have e1 : ((cells.length : Int) > (c.tide.length : Int)) = False := eq_false (by omega)
  have e2 : wr (at_ + (cells.length : Int)) = at_ + (cells.length : Int) := wrap_id (by omega)
  have e3 : wr (at_ + (cells.length : Int) - 1) = at_ + (cells.length : Int) - 1 := wrap_id (by omega)
  have b1 : inB at_ 0 ((c.tide.length : Int) - 1) = true := (inB_iff _ _ _).2 (by omega)
  have b2 : inB (at_ + (cells.length : Int) - 1) 0 ((c.tide.length : Int) - 1) = true := (inB_iff _ _ _).2 (by omega)
  have hall := fun (H : List HO) w' (hp' : Hp ⟨w, fun _ => False⟩ H w') => lallI_fn w' ad cells.length cp cells (Sl.hp (w0 := ⟨w, fun _ => False⟩) hcs (fun _ _ => id) hp') (by omega) 31 [.pointer (some ⟨bx, 0, none⟩)] [] Tryz.call31 fun w2 hk2 x hx => by
    have h1 := hce x w2 ((hp'.ext.trans hk2).mono fun _ h => h.elim id id)
    have h2 := hcell x hx
    rw [show inB x 0 ((c.depth.length : Int) - 1) = true from (inB_iff _ _ _).2 (by omega)] at h1
    exact h1
  have hca := fun (l : List Int) (v : Value) (x : Int) (hb : l.length ≤ 1000000) (hs : Sl w v 1 (ints l)) (H : List HO) w' (hp' : Hp ⟨w, fun _ => False⟩ H w') => lcontains_fn w' v l x (Sl.hp (w0 := ⟨w, fun _ => False⟩) hs (fun _ _ => id) hp') hb
  unfold lqv lqc lqs
  simp only []
  refine walk [] [] (det0_ok _ _) Tryz.func61 rfl Tryz.ntmps61 res61 (by kernel_rfl) no_facts ?_
  simp (config := { maxSteps := 4000000 }) only [↓sx0, ↓sx1, ↓sx2, ↓sx3, ↓sx4, ↓sx5, ↓sx6, sx0, sx1, sx2, sx3, sx4, sx5, sx6, tf61, ev3_hold, sxo, sxc, sxp, sxq, sxr, sxs, sxl, sxm, simprocAttr, e0]
  refine ld_olda (b := bx) (o := 3) (by simp [Addr.add]) c3 id ?_
  simp (config := { maxSteps := 4000000 }) only [↓sx0, ↓sx1, ↓sx2, ↓sx3, ↓sx4, ↓sx5, ↓sx6, sx0, sx1, sx2, sx3, sx4, sx5, sx6, tf61, ev3_hold, sxo, sxc, sxp, sxq, sxr, sxs, sxl, sxm, simprocAttr, e1, dn]
  refine CallOb.pureH (fun w' hp => hti at_ _ w' hp) ?_
  rintro q N rfl
  rw [b1]
  refine ⟨?_⟩
  simp (config := { maxSteps := 4000000 }) only [↓sx0, ↓sx1, ↓sx2, ↓sx3, ↓sx4, ↓sx5, ↓sx6, sx0, sx1, sx2, sx3, sx4, sx5, sx6, tf61, ev3_hold, sxo, sxc, sxp, sxq, sxr, sxs, sxl, sxm, simprocAttr, e2, e3, dn]
  refine CallOb.pureH (fun w' hp => hti _ _ w' hp) ?_
  rintro q N rfl
  rw [b2]
  refine ⟨?_⟩
  simp (config := { maxSteps := 4000000 }) only [↓sx0, ↓sx1, ↓sx2, ↓sx3, ↓sx4, ↓sx5, ↓sx6, sx0, sx1, sx2, sx3, sx4, sx5, sx6, tf61, ev3_hold, sxo, sxc, sxp, sxq, sxr, sxs, sxl, sxm, simprocAttr, dn]
  refine CallOb.pureH (fun w' hp => hall _ w' hp) ?_
  rintro q N rfl
  refine ⟨?_⟩
  simp (config := { maxSteps := 4000000 }) only [↓sx0, ↓sx1, ↓sx2, ↓sx3, ↓sx4, ↓sx5, ↓sx6, sx0, sx1, sx2, sx3, sx4, sx5, sx6, tf61, ev3_hold, sxo, sxc, sxp, sxq, sxr, sxs, sxl, sxm, simprocAttr, dn]
  refine CallOb.pureH (fun w' hp => hkd w') ?_
  rintro q N rfl
  refine ⟨?_⟩
  simp (config := { maxSteps := 4000000 }) only [↓sx0, ↓sx1, ↓sx2, ↓sx3, ↓sx4, ↓sx5, ↓sx6, sx0, sx1, sx2, sx3, sx4, sx5, sx6, tf61, ev3_hold, sxo, sxc, sxp, sxq, sxr, sxs, sxl, sxm, simprocAttr]
  refine loop_constH [] (HImp.nil _ _) [(4, 6), (61, 99)] (fun i : Nat => [(61, I i)]) (fun i H1 => i ≤ cells.length ∧ H1 = []) (fun i => cells.length - i) 0 ?_ ⟨Nat.zero_le _, rfl⟩ ?_
  · simp (config := { maxSteps := 4000000 }) only [↓sx0, ↓sx1, ↓sx2, ↓sx3, ↓sx4, ↓sx5, ↓sx6, sx0, sx1, sx2, sx3, sx4, sx5, sx6, tf61, ev3_hold, sxo, sxc, sxp, sxq, sxr, sxs, sxl, sxm, simprocAttr]
    try simp
  rintro i H1 g1 ⟨hi, rfl⟩
  by_cases hin : i = cells.length
  · have e7 : ((i : Int) < (cells.length : Int)) = False := eq_false (by omega)
    refine ⟨?_⟩
    simp (config := { maxSteps := 4000000 }) only [↓sx0, ↓sx1, ↓sx2, ↓sx3, ↓sx4, ↓sx5, ↓sx6, sx0, sx1, sx2, sx3, sx4, sx5, sx6, tf61, ev3_hold, sxo, sxc, sxp, sxq, sxr, sxs, sxl, sxm, simprocAttr, e7]
    try rfl
  have e7 : ((i : Int) < (cells.length : Int)) = True := eq_true (by omega)
  have e8 : wr ((i : Int) + 1) = ((i + 1 : Nat) : Int) := (wrap_id (by omega)).trans (by omega)
  obtain ⟨x, hx⟩ : ∃ x, cells[i]? = some x := ⟨_, List.getElem?_eq_getElem (by omega)⟩
  have hxc := hcell x (List.mem_of_getElem? hx)
  obtain ⟨X, rfl⟩ : ∃ X : Nat, x = X := ⟨x.toNat, by omega⟩
  have hlx : lv cells i = (X : Int) := by unfold lv; rw [List.getD_eq_getElem?_getD, hx]; rfl
  have e9 : wr (at_ + (i : Int)) = ((at_.toNat + i : Nat) : Int) := (wrap_id (by omega)).trans (by omega)
  have hf := hfl X (at_.toNat + i) (by omega) (by omega)
  have hft := hflt i (by omega)
  rw [hlx, Int.toNat_natCast] at hft
  rw [hft] at hf
  by_cases h0 : i = 0
  · have e10 : ((i : Int) > 0) = False := eq_false (by omega)
    refine ⟨?_⟩
    simp (config := { maxSteps := 4000000 }) only [↓sx0, ↓sx1, ↓sx2, ↓sx3, ↓sx4, ↓sx5, ↓sx6, sx0, sx1, sx2, sx3, sx4, sx5, sx6, tf61, ev3_hold, sxo, sxc, sxp, sxq, sxr, sxs, sxl, sxm, simprocAttr, e7]
    refine amid (at_1 (hr _) i1_len hx rfl fun ad => ?_)
    simp (config := { maxSteps := 4000000 }) only [↓sx0, ↓sx1, ↓sx2, ↓sx3, ↓sx4, ↓sx5, ↓sx6, sx0, sx1, sx2, sx3, sx4, sx5, sx6, tf61, ev3_hold, sxo, sxc, sxp, sxq, sxr, sxs, sxl, sxm, simprocAttr, e10, e9, dn]
    refine CallOb.pureH (fun w' hp => hf _ w' hp) ?_
    rintro q N rfl
    refine ⟨?_⟩
    simp (config := { maxSteps := 4000000 }) only [↓sx0, ↓sx1, ↓sx2, ↓sx3, ↓sx4, ↓sx5, ↓sx6, sx0, sx1, sx2, sx3, sx4, sx5, sx6, tf61, ev3_hold, sxo, sxc, sxp, sxq, sxr, sxs, sxl, sxm, simprocAttr, e8]
    exact ⟨i + 1, _, rfl, HImp.nil _ _, ⟨by omega, rfl⟩, by omega⟩
  have e10 : ((i : Int) > 0) = True := eq_true (by omega)
  have e11 : wr ((i : Int) - 1) = ((i - 1 : Nat) : Int) := (wrap_id (by omega)).trans (by omega)
  have e12 : (((i - 1 : Nat) : Int) < (cells.length : Int)) = True := eq_true (by omega)
  obtain ⟨y, hy⟩ : ∃ y, cells[i - 1]? = some y := ⟨_, List.getElem?_eq_getElem (by omega)⟩
  have hyc := hcell y (List.mem_of_getElem? hy)
  obtain ⟨Y, rfl⟩ : ∃ Y : Nat, y = Y := ⟨y.toNat, by omega⟩
  have hly : lv cells (i - 1) = (Y : Int) := by unfold lv; rw [List.getD_eq_getElem?_getD, hy]; rfl
  have hnx := hnext i (by omega) (by omega)
  rw [hlx, hly, Int.toNat_natCast, Int.toNat_natCast] at hnx
  obtain ⟨L, hL⟩ : ∃ L, nr[Y]? = some L := ⟨_, List.getElem?_eq_getElem (by have := hnp.1; omega)⟩
  obtain ⟨q0, hq0, hsl⟩ := hpn Y L hL
  have hLd : nr.getD Y [] = L := by rw [List.getD_eq_getElem?_getD, hL]; rfl
  obtain ⟨hLl, hLm⟩ := hnp.2 Y (by omega)
  rw [hLd] at hLl hLm
  have hcx := hca L (.slice q0.1 q0.2.1 q0.2.2) X (by omega) hsl
  rw [decide_eq_true ((hLm X).2 ⟨X, hnx, rfl⟩)] at hcx
  have e13 : ((Y : Int) < (ps.length : Int)) = True := eq_true (by have := hnp.1; omega)
  refine ⟨?_⟩
  simp (config := { maxSteps := 4000000 }) only [↓sx0, ↓sx1, ↓sx2, ↓sx3, ↓sx4, ↓sx5, ↓sx6, sx0, sx1, sx2, sx3, sx4, sx5, sx6, tf61, ev3_hold, sxo, sxc, sxp, sxq, sxr, sxs, sxl, sxm, simprocAttr, e7]
  refine amid (at_1 (hr _) i1_len hx rfl fun ad => ?_)
  simp (config := { maxSteps := 4000000 }) only [↓sx0, ↓sx1, ↓sx2, ↓sx3, ↓sx4, ↓sx5, ↓sx6, sx0, sx1, sx2, sx3, sx4, sx5, sx6, tf61, ev3_hold, sxo, sxc, sxp, sxq, sxr, sxs, sxl, sxm, simprocAttr, e10]
  refine ld_olda (b := bx) (o := 6) (by simp [Addr.add]) c6 id ?_
  simp (config := { maxSteps := 4000000 }) only [↓sx0, ↓sx1, ↓sx2, ↓sx3, ↓sx4, ↓sx5, ↓sx6, sx0, sx1, sx2, sx3, sx4, sx5, sx6, tf61, ev3_hold, sxo, sxc, sxp, sxq, sxr, sxs, sxl, sxm, simprocAttr, e11, e12]
  refine amid (at_1 (hr _) i1_len hy rfl fun ad => ?_)
  simp (config := { maxSteps := 4000000 }) only [↓sx0, ↓sx1, ↓sx2, ↓sx3, ↓sx4, ↓sx5, ↓sx6, sx0, sx1, sx2, sx3, sx4, sx5, sx6, tf61, ev3_hold, sxo, sxc, sxp, sxq, sxr, sxs, sxl, sxm, simprocAttr, e13]
  refine amid (at_1 (hrn _) lpc_len hq0 rfl fun ad => ?_)
  simp (config := { maxSteps := 4000000 }) only [↓sx0, ↓sx1, ↓sx2, ↓sx3, ↓sx4, ↓sx5, ↓sx6, sx0, sx1, sx2, sx3, sx4, sx5, sx6, tf61, ev3_hold, sxo, sxc, sxp, sxq, sxr, sxs, sxl, sxm, simprocAttr, dn]
  refine CallOb.pureH (fun w' hp => hcx _ w' hp) ?_
  rintro q N rfl
  refine ⟨?_⟩
  simp (config := { maxSteps := 4000000 }) only [↓sx0, ↓sx1, ↓sx2, ↓sx3, ↓sx4, ↓sx5, ↓sx6, sx0, sx1, sx2, sx3, sx4, sx5, sx6, tf61, ev3_hold, sxo, sxc, sxp, sxq, sxr, sxs, sxl, sxm, simprocAttr, e9, dn]
  refine CallOb.pureH (fun w' hp => hf _ w' hp) ?_
  rintro q N rfl
  refine ⟨?_⟩
  simp (config := { maxSteps := 4000000 }) only [↓sx0, ↓sx1, ↓sx2, ↓sx3, ↓sx4, ↓sx5, ↓sx6, sx0, sx1, sx2, sx3, sx4, sx5, sx6, tf61, ev3_hold, sxo, sxc, sxp, sxq, sxr, sxs, sxl, sxm, simprocAttr, e8]
  exact ⟨i + 1, _, rfl, HImp.nil _ _, ⟨by omega, rfl⟩, by omega⟩
end Go.Proofs.YtogicfoigeongaaGreatDoor

namespace Go.Proofs.YtogicfoigeongaaGreatDoor
open Go.Shelf
def lays189_ren : Go.Shelf.Ren := ⟨fun | 189 => 59 | 125 => 88 | 257 => 87 | 128 => 108 | 129 => 109 | 294 => 99 | 295 => 100 | 296 => 101 | 297 => 102 | 298 => 103 | 299 => 104 | 216 => 105 | 300 => 106 | 301 => 107 | 328 => 111 | 329 => 112 | 330 => 113 | 331 => 114 | 332 => 115 | 215 => 116 | 343 => 117 | n => n, fun | 28 => 22 | 3 => 3 | 46 => 145 | 0 => 0 | 51 => 163 | 53 => 166 | 4 => 4 | 183 => 171 | 182 => 170 | 131 => 134 | 5 => 5 | 9 => 9 | 218 => 179 | 222 => 183 | 228 => 185 | 229 => 186 | n => n, fun | n => n⟩
theorem lays189 : Go.Proofs.Lays.n189 Tryz.prog lays189_ren := {
  mixed := by kernel_rfl
  f125 := Tryz.func88.trans (congrArg some (by kernel_rfl))
  f128 := Tryz.func108.trans (congrArg some (by kernel_rfl))
  f129 := Tryz.func109.trans (congrArg some (by kernel_rfl))
  f189 := Tryz.func59.trans (congrArg some (by kernel_rfl))
  f215 := Tryz.func116.trans (congrArg some (by kernel_rfl))
  f216 := Tryz.func105.trans (congrArg some (by kernel_rfl))
  f257 := Tryz.func87.trans (congrArg some (by kernel_rfl))
  f294 := Tryz.func99.trans (congrArg some (by kernel_rfl))
  f295 := Tryz.func100.trans (congrArg some (by kernel_rfl))
  f296 := Tryz.func101.trans (congrArg some (by kernel_rfl))
  f297 := Tryz.func102.trans (congrArg some (by kernel_rfl))
  f298 := Tryz.func103.trans (congrArg some (by kernel_rfl))
  f299 := Tryz.func104.trans (congrArg some (by kernel_rfl))
  f300 := Tryz.func106.trans (congrArg some (by kernel_rfl))
  f301 := Tryz.func107.trans (congrArg some (by kernel_rfl))
  f328 := Tryz.func111.trans (congrArg some (by kernel_rfl))
  f329 := Tryz.func112.trans (congrArg some (by kernel_rfl))
  f330 := Tryz.func113.trans (congrArg some (by kernel_rfl))
  f331 := Tryz.func114.trans (congrArg some (by kernel_rfl))
  f332 := Tryz.func115.trans (congrArg some (by kernel_rfl))
  f343 := Tryz.func117.trans (congrArg some (by kernel_rfl))
  t0 := Tryz.underlying0
  a0 := Tryz.isAgg0
  z0 := Tryz.sizeOf0
  v0 := Tryz.zeroValue0
  t3 := Tryz.underlying3
  a3 := Tryz.isAgg3
  z3 := Tryz.sizeOf3
  v3 := Tryz.zeroValue3
  t4 := Tryz.underlying4
  a4 := Tryz.isAgg4
  z4 := Tryz.sizeOf4
  v4 := Tryz.zeroValue4
  t5 := Tryz.underlying5
  a5 := Tryz.isAgg5
  z5 := Tryz.sizeOf5
  v5 := Tryz.zeroValue5
  t9 := Tryz.underlying9
  a9 := Tryz.isAgg9
  z9 := Tryz.sizeOf9
  v9 := Tryz.zeroValue9
  t28 := Tryz.underlying22
  a28 := Tryz.isAgg22
  z28 := Tryz.sizeOf22
  v28 := Tryz.zeroValue22
  t46 := Tryz.underlying145
  a46 := Tryz.isAgg145
  z46 := Tryz.sizeOf145
  v46 := Tryz.zeroValue145
  t51 := Tryz.underlying163
  a51 := Tryz.isAgg163
  z51 := Tryz.sizeOf163
  v51 := Tryz.zeroValue163
  t53 := Tryz.underlying166
  a53 := Tryz.isAgg166
  z53 := Tryz.sizeOf166
  v53 := Tryz.zeroValue166
  t131 := Tryz.underlying134
  a131 := Tryz.isAgg134
  z131 := Tryz.sizeOf134
  v131 := Tryz.zeroValue134
  t182 := Tryz.underlying170
  a182 := Tryz.isAgg170
  z182 := Tryz.sizeOf170
  v182 := Tryz.zeroValue170
  t183 := Tryz.underlying171
  a183 := Tryz.isAgg171
  z183 := Tryz.sizeOf171
  v183 := Tryz.zeroValue171
  t218 := Tryz.underlying179
  a218 := Tryz.isAgg179
  z218 := Tryz.sizeOf179
  v218 := Tryz.zeroValue179
  t222 := Tryz.underlying183
  a222 := Tryz.isAgg183
  z222 := Tryz.sizeOf183
  v222 := Tryz.zeroValue183
  t228 := Tryz.underlying185
  a228 := Tryz.isAgg185
  z228 := Tryz.sizeOf185
  v228 := Tryz.zeroValue185
  t229 := Tryz.underlying186
  a229 := Tryz.isAgg186
  z229 := Tryz.sizeOf186
  v229 := Tryz.zeroValue186 }
end Go.Proofs.YtogicfoigeongaaGreatDoor

namespace Go.Proofs.YtogicfoigeongaaGreatDoor
open Go.RowKit Go.SX
set_option maxRecDepth 20000
set_option maxHeartbeats 0
set_option linter.unusedSimpArgs false
set_option linter.unusedVariables false
theorem putRow_row {w : World} {b off n cp : Nat} {E : TypeId} {l d : List Int} (q : Nat) (os : Array Obj) (h : RowOk w (.slice (some ⟨b, off, none⟩) n cp) E 1 (ints l)) (hd : d.length = l.length) :
    Keep (fun k => k = b) w (Go.Sort.grow (Go.Sort.putRow (Value.int .i64) (Go.Sort.ahead w q) b off d.toArray) os) ∧ RowOk (Go.Sort.grow (Go.Sort.putRow (Value.int .i64) (Go.Sort.ahead w q) b off d.toArray) os) (.slice (some ⟨b, off, none⟩) n cp) E 1 (ints d) := by
  rcases h with ⟨h, _⟩ | ⟨b', off', len, cap, arr, hv, hb, hl, hlc, hcm, hsz, hx⟩
  · cases h
  cases hv
  have hblt := lt_of_heap hb
  have hln : l.length = n := by rw [cat_len i1_len] at hl; omega
  have hbl : (Go.Sort.grow (Go.Sort.putRow (Value.int .i64) (Go.Sort.ahead w q) b off d.toArray) os).heap = (w.heap.modify b (Go.Sort.onCells (Go.Sort.putCells (Value.int .i64) off d.toArray))) ++ os := rfl
  constructor
  · refine ⟨rfl, rfl, rfl, ?_, fun k hk hn => ?_⟩
    · rw [hbl, Array.size_append, Array.size_modify]
      omega
    · rw [hbl, Array.getElem?_append_left (by rw [Array.size_modify]; exact hk), Array.getElem?_modify, if_neg (fun e => hn e.symm)]
  · refine .inr ⟨b, off, n, cp, Go.Sort.putCells (Value.int .i64) off d.toArray arr, rfl, ?_, by rw [cat_len i1_len]; omega, hlc, hcm, ?_, ?_⟩
    · rw [hbl, Array.getElem?_append_left (by rw [Array.size_modify]; exact hblt), Array.getElem?_modify, if_pos rfl, hb]
      rfl
    · rw [Go.Sort.putCells, Array.size_mapIdx]
      exact hsz
    · refine List.ext_getElem? fun i => ?_
      rw [ints_get]
      by_cases hi : i < n
      · have h1 : off + i < arr.size := by omega
        rw [List.getElem?_take, if_pos (by omega), List.getElem?_drop, Array.getElem?_toList, Go.Sort.putCells, Array.getElem?_mapIdx, Array.getElem?_eq_getElem h1, Option.map_some, if_pos (by rw [List.size_toArray]; omega), show off + i - off = i by omega, List.getElem?_eq_getElem (by omega), Option.map_some]
        rw [getElem!_pos d.toArray i (by rw [List.size_toArray]; omega)]
        rfl
      · rw [List.getElem?_take, if_neg (by omega), List.getElem?_eq_none (by omega)]
        rfl
theorem row_holds {w : World} {b off n cp : Nat} {E : TypeId} {l : List Int} (h : RowOk w (.slice (some ⟨b, off, none⟩) n cp) E 1 (ints l)) : Go.Sort.Holds (Value.int .i64) w b off l.toArray ∧ b < w.heap.size ∧ n = l.length ∧ n ≤ cp ∧ l.length ≤ maxLen := by
  rcases h with ⟨h, _⟩ | ⟨b', off', len, cap, arr, hv, hb, hl, hlc, hcm, hsz, hx⟩
  · cases h
  cases hv
  have hln : n = l.length := by rw [cat_len i1_len] at hl; omega
  refine ⟨fun j hj => ⟨?_, ?_⟩, lt_of_heap hb, hln, hlc, by omega⟩
  · rw [List.size_toArray] at hj
    have h1 : (ints l)[j]? = some (I l[j]) := by rw [ints_get, List.getElem?_eq_getElem hj]; rfl
    rw [← hx, List.getElem?_take, if_pos (by omega), List.getElem?_drop, Array.getElem?_toList] at h1
    rw [World.cell?]
    simp only [hb, Option.isSome_none, Bool.false_eq_true, if_false]
    rw [h1, getElem!_pos l.toArray j (by rw [List.size_toArray]; exact hj)]
    rfl
  · rw [World.frozen?]
    simp [hb]
def leI (x y : Int) : Bool := decide (x ≤ y)
def srtL (l : List Int) : List Int := l.mergeSort leI
theorem own_row {w : World} {a : Option Addr} {n cp : Nat} {E : TypeId} {xs : List Value} (h : RowOk w (.slice a n cp) E 1 xs) : a = none ∧ n = 0 ∧ cp = 0 ∧ xs = [] ∨ ∃ b off, a = some ⟨b, off, none⟩ := by
  rcases h with ⟨h, h2⟩ | ⟨b, off, len, cap, arr, hv, _⟩
  · cases h
    exact .inl ⟨rfl, rfl, rfl, h2⟩
  · cases hv
    exact .inr ⟨b, off, rfl⟩
theorem sort_fn (w : World) (a : Option Addr) (n cp : Nat) (l : List Int) (hl : l.length ≤ 1000000) (hok : HO.ok w (.row (.slice a n cp) 3 1 (ints l))) :
    SX.Fn Tryz.prog 59 [.slice a n cp] w (fpsx [HO.row (.slice a n cp) 3 1 (ints l)]) fun q N => q = .tuple #[] ∧ HO.row (.slice a n cp) 3 1 (ints (srtL l)) ∈ N := by
  rcases own_row hok with ⟨rfl, rfl, rfl, hx⟩ | ⟨b, off, rfl⟩
  · have hl0 : l = [] := by
      cases l with
      | nil => rfl
      | cons x l => simp [cat, i1] at hx
    subst hl0
    have hs0 : ints (srtL []) = [] := by simp [srtL, cat]
    refine Calls.mono (calls_of_every_depth fun D => AnyS.slices_Sort_int_none_in lays189 D none 0 w) ?_
    rintro e w' ⟨rfl, rfl⟩
    exact ⟨_, [.row (.slice none 0 0) 3 1 (ints (srtL []))], rfl, Keep.refl _ _, fun h hh => (by rw [List.mem_singleton] at hh; subst hh; exact .inl ⟨rfl, hs0⟩), fun h hh b hb => (by rw [List.mem_singleton] at hh; subst hh; cases hb), List.pairwise_singleton _ _, rfl, by simp⟩
  · obtain ⟨h1, h2, h3, h4, h5⟩ := row_holds hok
    subst h3
    refine Calls.mono (calls_of_every_depth fun D => AnyS.slices_Sort_int_alone lays189 D b off cp l w h1 h2 (by omega)) ?_
    rintro e w' ⟨rfl, q, os, rfl⟩
    obtain ⟨k1, k2⟩ := putRow_row (d := srtL l) q os hok (List.length_mergeSort _)
    exact ⟨_, [.row (.slice (some ⟨b, off, none⟩) l.length cp) 3 1 (ints (srtL l))], rfl, k1.mono (fun k hk => ⟨_, List.mem_singleton.2 rfl, by subst hk; rfl⟩), fun h hh => by rw [List.mem_singleton] at hh; subst hh; exact k2, fun h hh b hb => by rw [List.mem_singleton] at hh; subst hh; exact .inl ⟨_, List.mem_singleton.2 rfl, hb⟩, List.pairwise_singleton _ _, rfl, by simp⟩
end Go.Proofs.YtogicfoigeongaaGreatDoor

namespace Go.Proofs.YtogicfoigeongaaGreatDoor
open Go.RowKit Go.SX
set_option maxRecDepth 10000
set_option maxHeartbeats 0
set_option linter.unusedSimpArgs false
set_option linter.unusedVariables false
def srtNear (c : Cht) : List (List Int) := (List.range c.depth.length).map fun k => srtL (nts (nbL c.W c.H k))
theorem srt_mem {l : List Int} {x : Int} : x ∈ srtL l ↔ x ∈ l := List.mem_mergeSort
theorem srt_len' (l : List Int) : (srtL l).length = l.length := List.length_mergeSort _
theorem srtNear_ok {c : Cht} : NearP c (srtNear c) := by
  refine ⟨by simp [srtNear], fun k hk => ?_⟩
  have h1 : (srtNear c).getD k [] = srtL (nts (nbL c.W c.H k)) := by
    rw [List.getD_eq_getElem?_getD, srtNear, List.getElem?_map, List.getElem?_range hk]
    rfl
  rw [h1]
  have h2 := nbL_len c.W c.H k
  refine ⟨by rw [srt_len']; unfold nts; rw [List.length_map]; omega, fun x => ?_⟩
  rw [srt_mem]
  unfold nts
  rw [List.mem_map]
  exact ⟨fun ⟨n, h, e⟩ => ⟨n, h, e.symm⟩, fun ⟨n, h, e⟩ => ⟨n, h, e.symm⟩⟩
theorem nextE_at {c : Cht} (hok : c.ok) {k d : Nat} (hk : k < c.depth.length) (hd : d < 6) : nextE c k d = match bes c.W c.H k d with | some n => .tuple #[I n, I 0] | none => .tuple #[I 0, I 3] := by
  unfold nextE notCell
  rw [if_pos ((okB_iff c).2 hok), if_neg]
  · rfl
  · simp only [Bool.or_eq_true, Bool.not_eq_true', not_or, Bool.not_eq_false, inB_iff]
    omega
def TrN (c : Cht) (sD sT sS vl : Value) (q : Value) (N : List HO) : Prop := ∃ bx vn, q = .tuple #[.pointer (some ⟨bx, 0, none⟩), I 0] ∧ HO.cells bx 117 (trfC c sD sT sS vl vn) ∈ N ∧ LLN i1 1 22 3 N vn (srtNear c)
theorem lopen_fn (w : World) (hw : Ways w) (sD sT sS vl : Value) (c : Cht) (hc : ChOk w (.agg #[I c.wide, I c.high, sD, sT, sS]) c) (hsm : c.small) (hok : c.ok) (ls : List Lg) (hls : LegsOk w vl ls) (hl12 : ls.length ≤ 12) (hle : ∀ l ∈ ls, l.Ok c) :
    SX.Fn Tryz.prog 29 [.agg #[I c.wide, I c.high, sD, sT, sS], vl] w (fun _ => False) (TrN c sD sT sS vl) := by
  have hc0 := hc
  have hls0 := hls
  have hD := detR_ok (X := fun _ => False) hw hc (fun _ _ => id)
  have hck : detR (.agg #[I c.wide, I c.high, sD, sT, sS]) c 48 [.agg #[I c.wide, I c.high, sD, sT, sS]] = some (I (if c.okB then 0 else 10)) := (detR_check hsm).1
  rw [(okB_iff c).2 hok] at hck
  have dx : ∀ xs, detR (.agg #[I c.wide, I c.high, sD, sT, sS]) c 52 xs = none := fun _ => rfl
  have dl : ∀ xs, detR (.agg #[I c.wide, I c.high, sD, sT, sS]) c 59 xs = none := fun _ => rfl
  have da : ∀ xs, detR (.agg #[I c.wide, I c.high, sD, sT, sS]) c 60 xs = none := fun _ => rfl
  have hnx := fun (k d : Nat) (hk : k < c.depth.length) (hd : d < 6) (H : List HO) w' (hp : Hp ⟨w, fun _ => False⟩ H w') => by
    have := next1_fn w' (hw.hp hp) _ c (hc0.hp hp) hsm k d
    rw [nextE_at hok hk hd] at this
    exact this
  obtain ⟨sD', sT', sS', he, hsD, hsT, hsS⟩ := hc
  injection he with he
  injection he with he
  simp only [List.cons.injEq, true_and, and_true] at he
  obtain ⟨rfl, rfl, rfl⟩ := he
  obtain ⟨aD, nD, cD, rfl⟩ := hsD.shape
  have hnD := hsD.le i1_len (by omega)
  subst hnD
  obtain ⟨ps, hps, hsl, hpc⟩ := hls
  obtain ⟨aL, nL, cL, rfl⟩ := hsl.shape
  have hnL := hsl.le lqc_len (by omega)
  have hpl : ps.length = ls.length := by rw [← hps, List.length_map]
  subst hnL
  have hdl : c.depth.length ≤ 200 := hsm.1
  have e12 : ((ps.length : Int) > 12) = False := eq_false (by omega)
  unfold TrN
  refine walk [21] [] hD Tryz.func29 rfl Tryz.ntmps29 res29 (by kernel_rfl) no_facts ?_
  simp (config := { maxSteps := 4000000 }) only [↓sx0, ↓sx1, ↓sx2, ↓sx3, ↓sx4, ↓sx5, ↓sx6, sx0, sx1, sx2, sx3, sx4, sx5, sx6, tf29, ev3_hold, sxo, sxc, sxp, sxq, sxr, sxs, sxl, sxm, simprocAttr, hck]
  intro bx
  refine loop_constH (.row (.slice none 0 0) 22 1 (cat lpc ([] : List (Lp Int))) :: [HO.cells bx 117 (trfC c (.slice aD c.depth.length cD) sT sS (.slice aL ps.length cL) (.slice none 0 0))]) (HImp.nilRow _ _ _ _) [(8, 12), (25, 59)] (fun q : Nat × Option Addr × Nat => [(25, I q.1)])
    (fun q H1 => q.1 ≤ c.depth.length ∧ ∃ pn DN, pn.map Prod.fst = (srtNear c).take q.1 ∧ (q.2.1 = none → pn = []) ∧ H1 = .row (.slice q.2.1 q.1 q.2.2) 22 1 (cat lpc (pn : List (Lp Int))) :: HO.cells bx 117 (trfC c (.slice aD c.depth.length cD) sT sS (.slice aL ps.length cL) (.slice q.2.1 q.1 q.2.2)) :: DN ∧ ∀ p ∈ pn, HO.row (lpv p) 3 1 (cat i1 p.1) ∈ DN) (fun q => c.depth.length - q.1) (0, none, 0) ?_ ⟨Nat.zero_le _, [], [], rfl, fun _ => rfl, rfl, by simp⟩ ?_
  · simp (config := { maxSteps := 4000000 }) only [↓sx0, ↓sx1, ↓sx2, ↓sx3, ↓sx4, ↓sx5, ↓sx6, sx0, sx1, sx2, sx3, sx4, sx5, sx6, tf29, ev3_hold, sxo, sxc, sxp, sxq, sxr, sxs, sxl, sxm, simprocAttr]
    try simp
  rintro ⟨k, an, cn⟩ H3 g3 hinv3
  simp only [] at hinv3
  obtain ⟨hk, pn, DN, hpn, hnil3, rfl, hDN⟩ := hinv3
  by_cases hkn : k = c.depth.length
  · subst hkn
    have e10 : ((c.depth.length : Int) < (c.depth.length : Int)) = False := eq_false (by omega)
    rw [List.take_of_length_le (by unfold srtNear; rw [List.length_map, List.length_range]; exact Nat.le_refl _)] at hpn
    have hLL : ∀ H, (∀ h ∈ (HO.row (.slice an c.depth.length cn) 22 1 (cat lpc (pn : List (Lp Int))) :: DN), h ∈ H) → LLN i1 1 22 3 H (.slice an c.depth.length cn) (srtNear c) := fun H hm => ⟨pn, hpn, hm _ List.mem_cons_self, fun p hp => hm _ (List.mem_cons_of_mem _ (hDN p hp))⟩
    have hall := fun (H : List HO) w' (hp' : Hp ⟨w, fun _ => False⟩ H w') (hm1 : HO.cells bx 117 (trfC c (.slice aD c.depth.length cD) sT sS (.slice aL ps.length cL) (.slice an c.depth.length cn)) ∈ H) (hm2 : ∀ h ∈ (HO.row (.slice an c.depth.length cn) 22 1 (cat lpc (pn : List (Lp Int))) :: DN), h ∈ H) =>
      lallL_fn w' aL ps.length cL ps (Sl.hp (w0 := ⟨w, fun _ => False⟩) hsl (fun _ _ => id) hp') (by omega) 61 [.pointer (some ⟨bx, 0, none⟩)] [] Tryz.call61 fun w2 hk2 x hx => by
        have hT : TrC w' bx c (.slice aD c.depth.length cD) sT sS (.slice aL ps.length cL) (.slice an c.depth.length cn) := ⟨cells_old hm1 hp', hc0.hp hp'⟩
        have hN : LLOk i1 1 w' (.slice an c.depth.length cn) (srtNear c) := (hLL H hm2).ok (fun h hh => hh) hp'
        have hX : LLOk i1 1 w2 (.slice an c.depth.length cn) (srtNear c) := by
          obtain ⟨qs, q1, q2, q3⟩ := hN
          exact ⟨qs, q1, q2.keep hk2 (fun _ _ => id), fun p hp => (q3 p hp).keep hk2 (fun _ _ => id)⟩
        have hC : Sl w2 (lqs x) 1 (ints x.1.cells) := (Sl.hp (w0 := ⟨w, fun _ => False⟩) (hpc x hx) (fun _ _ => id) hp').keep hk2 (fun _ _ => id)
        exact lvalid_fn w2 bx c _ _ _ _ _ (hT.keep hk2) hok hsm _ hX srtNear_ok x (hle x.1 (by rw [← hps]; exact List.mem_map_of_mem hx)) hC
    refine ⟨?_⟩
    simp (config := { maxSteps := 4000000 }) only [↓sx0, ↓sx1, ↓sx2, ↓sx3, ↓sx4, ↓sx5, ↓sx6, sx0, sx1, sx2, sx3, sx4, sx5, sx6, tf29, ev3_hold, sxo, sxc, sxp, sxq, sxr, sxs, sxl, sxm, simprocAttr, e10, e12, da]
    refine CallOb.pureH (fun w' hp => hall _ w' hp (by simp) (by simp +contextual)) ?_
    rintro q N rfl
    refine ⟨?_⟩
    simp (config := { maxSteps := 4000000 }) only [↓sx0, ↓sx1, ↓sx2, ↓sx3, ↓sx4, ↓sx5, ↓sx6, sx0, sx1, sx2, sx3, sx4, sx5, sx6, tf29, ev3_hold, sxo, sxc, sxp, sxq, sxr, sxs, sxl, sxm, simprocAttr]
    exact ⟨bx, _, rfl, by simp, hLL _ (by simp +contextual)⟩
  have e10 : ((k : Int) < (c.depth.length : Int)) = True := eq_true (by omega)
  have e11 : wr (k + 1) = ((k + 1 : Nat) : Int) := (wrap_id (by omega)).trans (by omega)
  have hpl2 : pn.length = k := by
    have := congrArg List.length hpn
    rw [List.length_map, List.length_take] at this
    unfold srtNear at this
    rw [List.length_map, List.length_range] at this
    omega
  refine ⟨?_⟩
  simp (config := { maxSteps := 4000000 }) only [↓sx0, ↓sx1, ↓sx2, ↓sx3, ↓sx4, ↓sx5, ↓sx6, sx0, sx1, sx2, sx3, sx4, sx5, sx6, tf29, ev3_hold, sxo, sxc, sxp, sxq, sxr, sxs, sxl, sxm, simprocAttr, e10]
  intro b5
  obtain ⟨RST, hRST⟩ : ∃ RST, (HO.row (.slice an k cn) 22 1 (cat lpc (pn : List (Lp Int))) :: HO.cells bx 117 (trfC c (.slice aD c.depth.length cD) sT sS (.slice aL ps.length cL) (.slice an k cn)) :: DN : List HO) = RST := ⟨_, rfl⟩
  rw [hRST]
  refine loop_constH (HO.row (.slice (some ⟨b5, 0, none⟩) 1 1) 3 1 (ints (nts (k :: besL c.W c.H k 0))) :: RST) (HImp.refl _ _) [(9, 12), (30, 46)] (fun q : Nat × Addr × Nat => [(9, .slice (some q.2.1) (nts (k :: besL c.W c.H k q.1)).length q.2.2), (30, I q.1)])
    (fun q H1 => q.1 ≤ 6 ∧ H1 = HO.row (.slice (some q.2.1) (nts (k :: besL c.W c.H k q.1)).length q.2.2) 3 1 (ints (nts (k :: besL c.W c.H k q.1))) :: RST) (fun q => 6 - q.1) (0, ⟨b5, 0, none⟩, 1) ?_ ⟨Nat.zero_le _, rfl⟩ ?_
  · simp (config := { maxSteps := 4000000 }) only [↓sx0, ↓sx1, ↓sx2, ↓sx3, ↓sx4, ↓sx5, ↓sx6, sx0, sx1, sx2, sx3, sx4, sx5, sx6, tf29, ev3_hold, sxo, sxc, sxp, sxq, sxr, sxs, sxl, sxm, simprocAttr]
    simp [besL, nts]
  rintro ⟨d, al, cl⟩ H4 g4 hinv4
  simp only [] at hinv4
  obtain ⟨hd, rfl⟩ := hinv4
  have hnl : ∀ d, d ≤ 6 → (nts (k :: besL c.W c.H k d)).length ≤ 100 := fun d hd => by
    have h1 := List.length_filterMap_le (bes c.W c.H k) (List.range d)
    rw [List.length_range] at h1
    unfold nts besL
    rw [List.length_map, List.length_cons]
    omega
  by_cases hdn : d = 6
  · subst hdn
    obtain ⟨M, hM⟩ : ∃ M, nts (k :: besL c.W c.H k 6) = M := ⟨_, rfl⟩
    have hMl : M.length ≤ 100 := by rw [← hM]; exact hnl 6 (Nat.le_refl _)
    have hpn2 : (pn ++ [((srtL M, some al, M.length, cl) : Lp Int)]).map Prod.fst = (srtNear c).take (k + 1) := by
      have hn : (srtNear c)[k]? = some (srtL M) := by
        unfold srtNear
        rw [List.getElem?_map, List.getElem?_range (by omega), ← hM]
        rfl
      rw [List.map_append, hpn, List.take_add_one, hn]
      rfl
    have e12' : (((6 : Nat) : Int) < 6) = False := eq_false (by omega)
    rw [hM]
    refine ⟨?_⟩
    simp (config := { maxSteps := 4000000 }) only [↓sx0, ↓sx1, ↓sx2, ↓sx3, ↓sx4, ↓sx5, ↓sx6, sx0, sx1, sx2, sx3, sx4, sx5, sx6, tf29, ev3_hold, sxo, sxc, sxp, sxq, sxr, sxs, sxl, sxm, simprocAttr, e12', dl]
    refine CallOb.mutH (A := [HO.row (.slice (some al) M.length cl) 3 1 (ints M)]) (B := RST) (HImp.refl _ _) (fun b hb => ?_) (fun w' hp' => sort_fn w' _ _ _ _ (by omega) (hp'.ok _ List.mem_cons_self)) ?_
    · obtain ⟨h, hh, hb⟩ := hb
      rw [List.mem_singleton] at hh
      subst hh
      exact ⟨_, List.mem_singleton.2 rfl, hb⟩
    rintro q N ⟨rfl, hN⟩
    have hIm : HImp ⟨w, fun _ => False⟩ (N ++ RST) (HO.row (.slice (some al) M.length cl) 3 1 (ints (srtL M)) :: RST) := HImp.append (HImp.pick hN)
    have hcm : HO.cells bx 117 (trfC c (.slice aD c.depth.length cD) sT sS (.slice aL ps.length cL) (.slice an k cn)) ∈ N ++ RST := List.mem_append_right _ (by rw [← hRST]; simp)
    refine ⟨?_⟩
    simp (config := { maxSteps := 4000000 }) only [↓sx0, ↓sx1, ↓sx2, ↓sx3, ↓sx4, ↓sx5, ↓sx6, sx0, sx1, sx2, sx3, sx4, sx5, sx6, tf29, ev3_hold, sxo, sxc, sxp, sxq, sxr, sxs, sxl, sxm, simprocAttr]
    refine ld_cella (T := 117) (cs := (trfC c (.slice aD c.depth.length cD) sT sS (.slice aL ps.length cL) (.slice an k cn))) hcm rfl ?_
    simp (config := { maxSteps := 4000000 }) only [↓sx0, ↓sx1, ↓sx2, ↓sx3, ↓sx4, ↓sx5, ↓sx6, sx0, sx1, sx2, sx3, sx4, sx5, sx6, tf29, ev3_hold, sxo, sxc, sxp, sxq, sxr, sxs, sxl, sxm, simprocAttr]
    intro b6
    refine app_one (f := lpc) (l := pn) ((srtL M, some al, M.length, cl) : Lp Int) (A := HO.row (.slice (some al) M.length cl) 3 1 (ints (srtL M)) :: HO.cells bx 117 (trfC c (.slice aD c.depth.length cD) sT sS (.slice aL ps.length cL) (.slice an k cn)) :: DN) (hIm.trans (by rw [← hRST]; exact HImp.swap _ _ _ _)) lpc_len lpc_one (by omega) fun a7 c7 => ?_
    rw [hpl2]
    simp (config := { maxSteps := 4000000 }) only [↓sx0, ↓sx1, ↓sx2, ↓sx3, ↓sx4, ↓sx5, ↓sx6, sx0, sx1, sx2, sx3, sx4, sx5, sx6, tf29, ev3_hold, sxo, sxc, sxp, sxq, sxr, sxs, sxl, sxm, simprocAttr]
    refine wr_cella (A := [_, _]) (cs := (trfC c (.slice aD c.depth.length cD) sT sS (.slice aL ps.length cL) (.slice an k cn))) rfl (by simp [trfC]) ?_
    simp (config := { maxSteps := 4000000 }) only [↓sx0, ↓sx1, ↓sx2, ↓sx3, ↓sx4, ↓sx5, ↓sx6, sx0, sx1, sx2, sx3, sx4, sx5, sx6, tf29, ev3_hold, sxo, sxc, sxp, sxq, sxr, sxs, sxl, sxm, simprocAttr, e11]
    exact ⟨(k + 1, some a7, c7), _, rfl, HImp.perm (List.Perm.cons _ (List.Perm.swap _ _ _)), ⟨by simp only []; omega, _, _ :: DN, hpn2, fun h => (by cases h), rfl, fun p hp => by
      rcases List.mem_append.1 hp with h | h
      · exact List.mem_cons_of_mem _ (hDN p h)
      · rw [List.mem_singleton] at h
        subst h
        exact List.mem_cons_self⟩, by first | omega | (simp only []; omega)⟩
  have e12' : ((d : Int) < 6) = True := eq_true (by omega)
  have e13 : wr (d + 1) = ((d + 1 : Nat) : Int) := (wrap_id (by omega)).trans (by omega)
  have hf := hnx k d (by omega) (by omega)
  have hbs := besL_succ c.W c.H k d
  cases hb : bes c.W c.H k d with
  | none =>
    rw [hb] at hbs
    simp only [hb] at hf
    rw [Option.toList_none, List.append_nil] at hbs
    refine ⟨?_⟩
    simp (config := { maxSteps := 4000000 }) only [↓sx0, ↓sx1, ↓sx2, ↓sx3, ↓sx4, ↓sx5, ↓sx6, sx0, sx1, sx2, sx3, sx4, sx5, sx6, tf29, ev3_hold, sxo, sxc, sxp, sxq, sxr, sxs, sxl, sxm, simprocAttr, e12', dx]
    refine CallOb.pureH (fun w' hp => hf _ w' hp) ?_
    rintro q N rfl
    refine ⟨?_⟩
    simp (config := { maxSteps := 4000000 }) only [↓sx0, ↓sx1, ↓sx2, ↓sx3, ↓sx4, ↓sx5, ↓sx6, sx0, sx1, sx2, sx3, sx4, sx5, sx6, tf29, ev3_hold, sxo, sxc, sxp, sxq, sxr, sxs, sxl, sxm, simprocAttr, e13]
    exact ⟨(d + 1, al, cl), _, by simp only []; rw [hbs]; exact ⟨rfl, trivial⟩, HImp.app _ _ _, ⟨by simp only []; omega, by simp only []; rw [hbs]⟩, by simp only []; omega⟩
  | some m =>
    rw [hb] at hbs
    simp only [hb] at hf
    have hns : nts (k :: besL c.W c.H k d) ++ [(m : Int)] = nts (k :: besL c.W c.H k (d + 1)) := by
      rw [hbs]
      unfold nts
      simp
    have hnl1 := hnl d (by omega)
    have hnl2 : (nts (k :: besL c.W c.H k d)).length + 1 = (nts (k :: besL c.W c.H k (d + 1))).length := by rw [← hns, List.length_append, List.length_singleton]
    refine ⟨?_⟩
    simp (config := { maxSteps := 4000000 }) only [↓sx0, ↓sx1, ↓sx2, ↓sx3, ↓sx4, ↓sx5, ↓sx6, sx0, sx1, sx2, sx3, sx4, sx5, sx6, tf29, ev3_hold, sxo, sxc, sxp, sxq, sxr, sxs, sxl, sxm, simprocAttr, e12', dx]
    refine CallOb.pureH (fun w' hp => hf _ w' hp) ?_
    rintro q N rfl
    refine ⟨?_⟩
    simp (config := { maxSteps := 4000000 }) only [↓sx0, ↓sx1, ↓sx2, ↓sx3, ↓sx4, ↓sx5, ↓sx6, sx0, sx1, sx2, sx3, sx4, sx5, sx6, tf29, ev3_hold, sxo, sxc, sxp, sxq, sxr, sxs, sxl, sxm, simprocAttr]
    intro b6
    refine app_one (f := i1) (l := nts (k :: besL c.W c.H k d)) (m : Int) (HImp.app _ _ _) i1_len i1_one (by omega) fun a7 c7 => ?_
    rw [hns, hnl2]
    simp (config := { maxSteps := 4000000 }) only [↓sx0, ↓sx1, ↓sx2, ↓sx3, ↓sx4, ↓sx5, ↓sx6, sx0, sx1, sx2, sx3, sx4, sx5, sx6, tf29, ev3_hold, sxo, sxc, sxp, sxq, sxr, sxs, sxl, sxm, simprocAttr, e13]
    exact ⟨(d + 1, a7, c7), _, ⟨rfl, rfl⟩, HImp.refl _ _, ⟨by simp only []; omega, rfl⟩, by simp only []; omega⟩
end Go.Proofs.YtogicfoigeongaaGreatDoor

