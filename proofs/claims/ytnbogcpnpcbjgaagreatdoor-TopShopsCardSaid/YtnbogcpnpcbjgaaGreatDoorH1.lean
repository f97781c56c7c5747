/- Parts of a proof: the symbolic walk and what it shows of single functions. -/
import Derived.Test.YtnbogcpnpcbjgaaGreatDoorC2
import Derived.Test.YtnbogcpnpcbjgaaGreatDoorX5
set_option linter.all false
namespace Go.Proofs.YtnbogcpnpcbjgaaGreatDoor
open Go.RowKit Go.SX Go.WideMaps
set_option maxRecDepth 20000
set_option maxHeartbeats 0
set_option linter.unusedSimpArgs false
set_option linter.unusedVariables false
structure Psh where (dirs low high : Int)
def psc (p : Psh) : List Value := [I p.dirs, I p.low, I p.high]
theorem psc_len (p : Psh) : (psc p).length = 3 := rfl
def psv (p : Psh) : Value := .agg #[I p.dirs, I p.low, I p.high]
structure Drf where
  c : Cht
  zones : List Int
  cur : List (List Psh)
  wind : List Psh
abbrev Cs := List Psh × Option Addr × Nat × Nat
def csv (p : Cs) : Value := .slice p.2.1 p.2.2.1 p.2.2.2
def csc (p : Cs) : List Value := [csv p]
theorem csc_len (p : Cs) : (csc p).length = 1 := rfl
def CuOk (w : World) (v : Value) (cs : List (List Psh)) : Prop := ∃ ps : List Cs, ps.map Prod.fst = cs ∧ Sl w v 1 (cat csc ps) ∧ ∀ p ∈ ps, Sl w (csv p) 3 (cat psc p.1)
structure SdC (w : World) (bs mn ms : Nat) (d : Drf) (sD sT sS vZ vC vW : Value) : Prop where
  cel : ∀ (i : Nat) v, [I d.c.wide, I d.c.high, sD, sT, sS, vZ, vC, vW, .map (some ms), .map (some mn)][i]? = some v → w.cell? ⟨bs, i, none⟩ = some v
  ch : ChOk w (.agg #[I d.c.wide, I d.c.high, sD, sT, sS]) d.c
structure SdOk (w : World) (bs mn ms : Nat) (d : Drf) (sD sT sS vZ vC vW : Value) : Prop where
  toC : SdC w bs mn ms d sD sT sS vZ vC vW
  zo : Sl w vZ 1 (ints d.zones)
  cu : CuOk w vC d.cur
  wi : Sl w vW 3 (cat psc d.wind)
theorem cell_nomap {w : World} {m : Nat} {es : Array MapEntry} {ck : Nat} (hm : w.heap[m]? = some (.map es ck)) {a : Addr} {x : Value} (h : w.cell? a = some x) : a.block ≠ m := fun e => by
  subst e
  simp [World.cell?, hm] at h
theorem cell_keepM {w w' : World} {m : Nat} {es : Array MapEntry} {ck : Nat} (hm : w.heap[m]? = some (.map es ck)) (hk : Keep (fun b => b = m) w w') {a : Addr} {x : Value} (h : w.cell? a = some x) : w'.cell? a = some x := by
  rw [World.cell?_of_block (w := w) (hk.block _ (World.block_lt_of_cell? w _ h) (cell_nomap hm h))]
  exact h
theorem slKeepM {w w' : World} {m : Nat} {es : Array MapEntry} {ck : Nat} (hm : w.heap[m]? = some (.map es ck)) (hk : Keep (fun b => b = m) w w') {v : Value} {sz : Nat} {xs : List Value} (h : Sl w v sz xs) : Sl w' v sz xs := by
  obtain ⟨a, len, cap, rfl, hl, hc⟩ := h
  refine ⟨a, len, cap, rfl, hl, fun i x hx => ?_⟩
  obtain ⟨ad, ha, hcell⟩ := hc i x hx
  exact ⟨ad, ha, cell_keepM hm hk hcell⟩
theorem ChOk.keepM {w w' : World} {m : Nat} {es : Array MapEntry} {ck : Nat} (hm : w.heap[m]? = some (.map es ck)) (hk : Keep (fun b => b = m) w w') {v : Value} {c : Cht} (h : ChOk w v c) : ChOk w' v c := by
  obtain ⟨sD, sT, sS, rfl, hD, hT, hS⟩ := h
  exact ⟨_, _, _, rfl, slKeepM hm hk hD, slKeepM hm hk hT, slKeepM hm hk hS⟩
theorem Ways.keepM {w w' : World} {m : Nat} {es : Array MapEntry} {ck : Nat} (hm : w.heap[m]? = some (.map es ck)) (hk : Keep (fun b => b = m) w w') (h : Ways w) : Ways w' := fun i v hi => cell_keepM hm hk (h i v hi)
theorem SdC.keepM {w w' : World} {m : Nat} {es : Array MapEntry} {ck : Nat} (hm : w.heap[m]? = some (.map es ck)) (hk : Keep (fun b => b = m) w w') {bs mn ms : Nat} {d : Drf} {sD sT sS vZ vC vW : Value} (h : SdC w bs mn ms d sD sT sS vZ vC vW) : SdC w' bs mn ms d sD sT sS vZ vC vW :=
  ⟨fun i v hi => cell_keepM hm hk (h.cel i v hi), h.ch.keepM hm hk⟩
theorem SdOk.keepM {w w' : World} {m : Nat} {es : Array MapEntry} {ck : Nat} (hm : w.heap[m]? = some (.map es ck)) (hk : Keep (fun b => b = m) w w') {bs mn ms : Nat} {d : Drf} {sD sT sS vZ vC vW : Value} (h : SdOk w bs mn ms d sD sT sS vZ vC vW) : SdOk w' bs mn ms d sD sT sS vZ vC vW := by
  refine ⟨h.toC.keepM hm hk, slKeepM hm hk h.zo, ?_, slKeepM hm hk h.wi⟩
  obtain ⟨ps, h1, h2, h3⟩ := h.cu
  exact ⟨ps, h1, slKeepM hm hk h2, fun p hp => slKeepM hm hk (h3 p hp)⟩
def sdR (w : World) (bs : Nat) (sD sT sS : Value) (b : Nat) : Prop := b = bs ∨ b = 1 ∨ rsl w sD b ∨ rsl w sT b ∨ rsl w sS b
theorem SdC.keepR {w w' : World} {X : Nat → Prop} (hk : Keep X w w') {bs mn ms : Nat} {d : Drf} {sD sT sS vZ vC vW : Value} (h : SdC w bs mn ms d sD sT sS vZ vC vW) (hX : ∀ b, sdR w bs sD sT sS b → ¬ X b) : SdC w' bs mn ms d sD sT sS vZ vC vW := by
  refine ⟨fun i v hi => ?_, ?_⟩
  · have hc := h.cel i v hi
    exact (World.cell?_of_block (w := w) (hk.block bs (World.block_lt_of_cell? w _ hc) (hX _ (.inl rfl)))).trans hc
  · obtain ⟨sD', sT', sS', he, hD, hT, hS⟩ := h.ch
    injection he with he
    injection he with he
    simp only [List.cons.injEq, true_and, and_true] at he
    obtain ⟨rfl, rfl, rfl⟩ := he
    exact ⟨_, _, _, rfl, hD.keepR hk fun b hb => hX b (.inr (.inr (.inl hb))), hT.keepR hk fun b hb => hX b (.inr (.inr (.inr (.inl hb)))), hS.keepR hk fun b hb => hX b (.inr (.inr (.inr (.inr hb))))⟩
def nxI (W H k d : Nat) : Int := match bes W H k d with
  | some y => (y : Nat)
  | none => -1
def NrS (c : Cht) (mn : Nat) : List HO → Prop := fun S => ∃ es ck, S = [.obj mn (.map es ck)] ∧ KeysOk Tryz.prog 247 es ∧ ∀ e ∈ es.toList, ∃ k d : Nat, k < c.depth.length ∧ d < 6 ∧ e.key = .agg #[I k, I d] ∧ e.val = I (nxI c.W c.H k d)
theorem fps_obj {m : Nat} {o : Obj} {b : Nat} : (fps [HO.obj m o] b ↔ b = m) ∧ (fpsx [HO.obj m o] b ↔ b = m) := by
  constructor
  · constructor
    · rintro ⟨h, hh, hb⟩
      rw [List.mem_singleton] at hh
      subst hh
      exact hb
    · rintro rfl
      exact ⟨_, List.mem_singleton.2 rfl, rfl⟩
  · constructor
    · rintro ⟨h, hh, hb⟩
      rw [List.mem_singleton] at hh
      subst hh
      exact hb
    · rintro rfl
      exact ⟨_, List.mem_singleton.2 rfl, rfl⟩
theorem NrS.shared (c : Cht) (mn : Nat) : Shared (NrS c mn) where
  fx := fun S ⟨es, ck, e, _⟩ h hh b hb => by
    subst e
    rw [List.mem_singleton] at hh
    subst hh
    exact hb
  nd := fun S ⟨es, ck, e, _⟩ => by
    subst e
    exact List.pairwise_singleton _ _
  same := fun S S' ⟨es, ck, e, _⟩ ⟨es', ck', e', _⟩ b hb => by
    subst e
    subst e'
    exact fps_obj.1.2 (fps_obj.1.1 hb)
theorem types_pos : ∃ m, Tryz.prog.types.size = m + 1 := ⟨Tryz.prog.types.size - 1, by
  have : (Nat.ble 1 Tryz.prog.types.size) = true := by kernel_rfl
  have := Nat.le_of_ble_eq_true this
  omega⟩
theorem wf_small {n : Int} (h : -10000 ≤ n ∧ n ≤ 10000) : (Lit.int .i64 n).wf = true := by
  have e1 : IntKind.i64.min = -9223372036854775808 := by decide
  have e2 : IntKind.i64.max = 9223372036854775807 := by decide
  simp only [Lit.wf, e1, e2, Bool.and_eq_true, decide_eq_true_eq]
  omega
theorem arrKey : WideMaps.ArrKey Tryz.prog 247 3 2 := ⟨by kernel_rfl, by kernel_rfl, by kernel_rfl, by kernel_rfl⟩
theorem near_law : WideMaps.KeyLaw Tryz.prog 247 := arrKey.law
theorem near_key {k d : Nat} (hk : k < 1000) (hd : d < 1000) : ∃ l, keyOf Tryz.prog 247 (.agg #[I k, I d]) = some l :=
  ⟨_, keyOf_pair arrKey (q := .i64) (by kernel_rfl) types_pos (wf_small (by omega)) (wf_small (by omega))⟩
theorem near_map : Tryz.prog.underlying 185 = some (.map 247 3) := by kernel_rfl
theorem near_val {c : Cht} {es : Array MapEntry} (h : ∀ e ∈ es.toList, ∃ k d : Nat, k < c.depth.length ∧ d < 6 ∧ e.key = .agg #[I k, I d] ∧ e.val = I (nxI c.W c.H k d)) : ∀ e ∈ es.toList, ∀ e' ∈ es.toList, e.key = e'.key → e.val = e'.val := fun e he e' he' hk => by
  obtain ⟨k, d, _, _, h1, h2⟩ := h e he
  obtain ⟨k', d', _, _, h1', h2'⟩ := h e' he'
  rw [h1, h1'] at hk
  have hk : k = k' ∧ d = d' := by
    injection hk with hk
    injection hk with hk
    simp only [List.cons.injEq, Value.int.injEq, true_and, and_true] at hk
    omega
  rw [h2, h2', hk.1, hk.2]
end Go.Proofs.YtnbogcpnpcbjgaaGreatDoor

namespace Go.Proofs.YtnbogcpnpcbjgaaGreatDoor
open Go.RowKit Go.SX Go.WideMaps
set_option maxRecDepth 20000
set_option maxHeartbeats 0
set_option linter.unusedSimpArgs false
set_option linter.unusedVariables false
theorem small_of {c : Cht} (h : c.ok) : c.small := by
  obtain ⟨_, _, hW, hH, hlen⟩ := h.dims
  have h1 : c.W * c.H ≤ 144 := Nat.le_trans (Nat.mul_le_mul hW.2 hH.2) (by decide)
  exact ⟨by omega, by have := h.2.2.2.1; omega, by have := h.2.2.2.2.1; have := h.2.2.2.1; omega⟩
def dryB (c : Cht) (k t : Nat) (h : Int) : Bool := decide (c.over k t h < 1)
theorem dry_fn (w : World) (bs mn ms : Nat) (d : Drf) (sD sT sS vZ vC vW : Value) (hs : SdC w bs mn ms d sD sT sS vZ vC vW) (hok : d.c.ok) (k t : Nat) (h : Int) (hk : k < d.c.depth.length) (ht : t < d.c.tide.length) (hh : -10000 ≤ h ∧ h ≤ 10000) :
    SX.Fn Tryz.prog 112 [.pointer (some ⟨bs, 0, none⟩), I k, I t, I h] w (fun _ => False) fun q N => q = .bool (dryB d.c k t h) := by
  obtain ⟨sD', sT', sS', he, hsD, hsT, hsS⟩ := hs.ch
  injection he with he
  injection he with he
  simp only [List.cons.injEq, true_and, and_true] at he
  obtain ⟨rfl, rfl, rfl⟩ := he
  have c2 := hs.cel 2 _ rfl
  have c4 := hs.cel 4 _ rfl
  obtain ⟨aD, nD, cD, rfl⟩ := hsD.shape
  obtain ⟨aS, nS, cS, rfl⟩ := hsS.shape
  have hnD := hsD.le i1_len (by omega)
  have hnS := hsS.le i1_len (by omega)
  subst hnD hnS
  have hts : t < d.c.swell.length := by have := hok.2.2.2.2.1; omega
  have hdk := getD_at hk 0
  have hst := getD_at hts 0
  have hb1 := hok.2.2.2.2.2.1 _ (List.mem_of_getElem? hdk)
  have hb2 := hok.2.2.2.2.2.2.2 _ (List.mem_of_getElem? hst)
  have hov : d.c.over k t h = d.c.depth.getD k 0 + h - d.c.swell.getD t 0 := rfl
  obtain ⟨x, hx⟩ : ∃ x, d.c.depth.getD k 0 = x := ⟨_, rfl⟩
  obtain ⟨y, hy⟩ : ∃ y, d.c.swell.getD t 0 = y := ⟨_, rfl⟩
  rw [hx] at hdk hb1 hov
  rw [hy] at hst hb2 hov
  have e1 : wr (x + h) = x + h := wrap_id (by omega)
  have e2 : wr (x + h - y) = x + h - y := wrap_id (by omega)
  unfold dryB
  rw [hov]
  refine walk [] [] (det0_ok _ _) Tryz.func112 rfl Tryz.ntmps112 res112 (by kernel_rfl) no_facts ?_
  simp (config := { maxSteps := 4000000 }) only [↓sx0, ↓sx1, ↓sx2, ↓sx3, ↓sx4, ↓sx5, ↓sx6, sx0, sx1, sx2, sx3, sx4, sx5, sx6, tf112, ev3_hold, sxo, sxc, sxp, sxq, sxr, sxs, sxl, sxm, simprocAttr]
  refine ld_olda (by simp [add_block]) c2 id ?_
  simp (config := { maxSteps := 4000000 }) only [↓sx0, ↓sx1, ↓sx2, ↓sx3, ↓sx4, ↓sx5, ↓sx6, sx0, sx1, sx2, sx3, sx4, sx5, sx6, tf112, ev3_hold, sxo, sxc, sxp, sxq, sxr, sxs, sxl, sxm, simprocAttr]
  refine at_1 (hsD.rd0 _) i1_len hdk rfl fun ad => ?_
  simp (config := { maxSteps := 4000000 }) only [↓sx0, ↓sx1, ↓sx2, ↓sx3, ↓sx4, ↓sx5, ↓sx6, sx0, sx1, sx2, sx3, sx4, sx5, sx6, tf112, ev3_hold, sxo, sxc, sxp, sxq, sxr, sxs, sxl, sxm, simprocAttr, e1]
  refine ld_olda (by simp [add_block]) c4 id ?_
  simp (config := { maxSteps := 4000000 }) only [↓sx0, ↓sx1, ↓sx2, ↓sx3, ↓sx4, ↓sx5, ↓sx6, sx0, sx1, sx2, sx3, sx4, sx5, sx6, tf112, ev3_hold, sxo, sxc, sxp, sxq, sxr, sxs, sxl, sxm, simprocAttr]
  refine at_1 (hsS.rd0 _) i1_len hst rfl fun ad => ?_
  simp (config := { maxSteps := 4000000 }) only [↓sx0, ↓sx1, ↓sx2, ↓sx3, ↓sx4, ↓sx5, ↓sx6, sx0, sx1, sx2, sx3, sx4, sx5, sx6, tf112, ev3_hold, sxo, sxc, sxp, sxq, sxr, sxs, sxl, sxm, simprocAttr, e2]
def MutP (c : Cht) (mn : Nat) (PostV : Value → Prop) (v : Value) (N : List HO) : Prop := PostV v ∧ ∃ S', NrS c mn S' ∧ ∀ h ∈ S', h ∈ N
theorem zero_int (w : World) : (zeroValue 3).run Tryz.prog w = .ok (I 0) w := by
  have h : zeroT Tryz.prog 3 = some [I 0] := by kernel_rfl
  unfold zeroT at h
  cases hi : Tryz.prog.info? 3 with
  | none =>
    rw [hi] at h
    cases h
  | some i =>
    cases hv : i.zero with
    | none =>
      rw [hi] at h
      simp only [hv, Option.map_none] at h
      cases h
    | some v =>
      rw [hi] at h
      simp only [hv, Option.map_some, Option.some.injEq] at h
      have : v = I 0 := by
        cases v with
        | int k n => simpa [Value.cells] using h
        | agg cs =>
          exfalso
          have hk : ldT Tryz.prog 3 = some none := by kernel_rfl
          have hz : (match (Tryz.prog.info? 3).bind (·.zero) with | some (.agg _) => true | _ => false) = false := by kernel_rfl
          rw [hi] at hz
          simp [hv] at hz
        | _ => simp [Value.cells] at h
      simp [zeroValue, typeInfo, hi, hv, this]
theorem ld_oldsA {w0 : Base} {H : List HO} {a : Addr} {b n : Nat} {vs : List Value} {K : SV → Prop} (e : a = ⟨b, 0, none⟩) (h : ∀ i v, vs[i]? = some v → w0.w.cell? ⟨b, i, none⟩ = some v) (hl : vs.length = n) (hX : ¬ w0.X b) (hK : K (.v (.agg vs.toArray))) : hold (LdOb w0 H a (some n) K) ⟨0⟩ := by
  subst e
  exact ld_olds h hl hX hK
theorem dnext_fn (w : World) (hw : Ways w) (bs mn ms : Nat) (d : Drf) (sD sT sS vZ vC vW : Value) (hs : SdC w bs mn ms d sD sT sS vZ vC vW) (hok : d.c.ok) (S : List HO) (hS : NrS d.c mn S) (hSok : ∀ h ∈ S, h.ok w) (k dir : Nat) (hk : k < d.c.depth.length) (hd : dir < 6) :
    SX.Fn Tryz.prog 176 [.pointer (some ⟨bs, 0, none⟩), I k, I dir] w (fpsx S) (MutP d.c mn fun q => q = I (nxI d.c.W d.c.H k dir)) := by
  obtain ⟨es, ck, rfl, hke, hev⟩ := hS
  have hm : w.heap[mn]? = some (.map es ck) := hSok _ (List.mem_singleton.2 rfl)
  have h144 : d.c.depth.length ≤ 200 := (small_of hok).1
  have hX : ∀ b, fpsx [HO.obj mn (.map es ck)] b → b = mn := fun b hb => fps_obj.2.1 hb
  have hcel := hs.cel
  have hbs : bs ≠ mn := cell_nomap hm (hcel 0 _ rfl)
  have hnX : ¬ fpsx [HO.obj mn (.map es ck)] bs := fun h => hbs (hX _ h)
  have c9 := hcel 9 _ rfl
  have hc5 : ∀ (i : Nat) v, [I d.c.wide, I d.c.high, sD, sT, sS][i]? = some v → w.cell? ⟨bs, i, none⟩ = some v := fun i v hi => hcel i v (by
    rcases i with _ | _ | _ | _ | _ | i <;> first | exact hi | (simp at hi))
  have dn : ∀ (g : Nat) (xs : List Value), det0 g xs = none := fun _ _ => rfl
  have hnx := fun (H : List HO) w' (hp : Hp ⟨w, fpsx [HO.obj mn (.map es ck)]⟩ H w') => next1_fn w' (hw.keepM hm (hp.ext.mono hX)) _ d.c (hs.ch.keepM hm (hp.ext.mono hX)) (small_of hok) k dir
  have hne : nextE d.c k dir = match bes d.c.W d.c.H k dir with
    | some n => .tuple #[I n, I 0]
    | none => .tuple #[I 0, I 3] := by
    unfold nextE
    have h1 : d.c.okB = true := by unfold Cht.okB; simp [hok]
    have h2 : notCell d.c k = false := by
      unfold notCell
      have h4 : inB (k : Int) 0 ((d.c.depth.length : Int) - 1) = true := (inB_iff _ _ _).2 (by omega)
      simp [h4]
    have h3 : inB (dir : Int) 0 5 = true := (inB_iff _ _ _).2 (by omega)
    rw [if_pos h1, h2, h3]
    simp only [Bool.not_true, Bool.or_self, Bool.false_eq_true, if_false, Int.toNat_natCast]
    cases bes d.c.W d.c.H k dir <;> rfl
  have hnxI : nxI d.c.W d.c.H k dir = match bes d.c.W d.c.H k dir with
    | some y => (y : Nat)
    | none => -1 := rfl
  have hkey := near_key (k := k) (d := dir) (by omega) (by omega)
  have hval := near_val hev
  have hold : (∀ h ∈ [HO.obj mn (.map es ck)], h.ok w) ∧ (∀ h ∈ [HO.obj mn (.map es ck)], ∀ b, h.fp b → fpsx [HO.obj mn (.map es ck)] b) ∧ [HO.obj mn (.map es ck)].Pairwise Apart := ⟨hSok, fun h hh b hb => by
    rw [List.mem_singleton] at hh
    subst hh
    exact fps_obj.2.2 hb, List.pairwise_singleton _ _⟩
  obtain ⟨X0, hX0⟩ : ∃ X0, fpsx [HO.obj mn (.map es ck)] = X0 := ⟨_, rfl⟩
  rw [hX0] at hnX hold ⊢
  simp only [hX0] at hnx
  unfold MutP
  refine walk [] [] (det0_ok _ _) Tryz.func176 rfl Tryz.ntmps176 res176 (by kernel_rfl) (H0 := [HO.obj mn (.map es ck)]) hold ?_
  simp (config := { maxSteps := 4000000 }) only [↓sx0, ↓sx1, ↓sx2, ↓sx3, ↓sx4, ↓sx5, ↓sx6, sx0, sx1, sx2, sx3, sx4, sx5, sx6, tf176, ev3_hold, sxo, sxc, sxp, sxq, sxr, sxs, sxl, sxm, simprocAttr]
  refine ld_olda (by simp [add_block]) c9 hnX ?_
  simp (config := { maxSteps := 4000000 }) only [↓sx0, ↓sx1, ↓sx2, ↓sx3, ↓sx4, ↓sx5, ↓sx6, sx0, sx1, sx2, sx3, sx4, sx5, sx6, tf176, ev3_hold, sxo, sxc, sxp, sxq, sxr, sxs, sxl, sxm, simprocAttr]
  refine lk_W near_map near_law hkey hke (z := I 0) zero_int hval List.mem_cons_self (fun hno => ?_) (fun e he hek => ?_)
  · simp (config := { maxSteps := 4000000 }) only [↓sx0, ↓sx1, ↓sx2, ↓sx3, ↓sx4, ↓sx5, ↓sx6, sx0, sx1, sx2, sx3, sx4, sx5, sx6, tf176, ev3_hold, sxo, sxc, sxp, sxq, sxr, sxs, sxl, sxm, simprocAttr]
    refine ld_oldsA (vs := [I d.c.wide, I d.c.high, sD, sT, sS]) (by simp [add_block]) hc5 rfl hnX ?_
    simp (config := { maxSteps := 4000000 }) only [↓sx0, ↓sx1, ↓sx2, ↓sx3, ↓sx4, ↓sx5, ↓sx6, sx0, sx1, sx2, sx3, sx4, sx5, sx6, tf176, ev3_hold, sxo, sxc, sxp, sxq, sxr, sxs, sxl, sxm, simprocAttr, dn]
    refine CallOb.pureH (fun w' hp => hnx _ w' hp) ?_
    intro q N hq
    have hq : (∃ y : Nat, q = .tuple #[I y, I 0] ∧ nxI d.c.W d.c.H k dir = y) ∨ (q = .tuple #[I 0, I 3] ∧ nxI d.c.W d.c.H k dir = -1) := by
      rw [hne] at hq
      rw [hnxI]
      revert hq
      cases bes d.c.W d.c.H k dir with
      | some y => exact fun h => .inl ⟨y, h, rfl⟩
      | none => exact fun h => .inr ⟨h, rfl⟩
    have hpost : ∀ x, nxI d.c.W d.c.H k dir = x → ∀ H : List HO, HO.obj mn (.map (es.push { key := .agg #[I k, I dir], val := I x, born := ck }) (ck + 1)) ∈ H → ∃ S', NrS d.c mn S' ∧ ∀ h ∈ S', h ∈ H := fun x hx H hH => ⟨_, ⟨_, _, rfl, hke.push hkey, fun e he => by
      simp only [Array.toList_push, List.mem_append, List.mem_singleton] at he
      rcases he with he | rfl
      · exact hev e he
      · exact ⟨k, dir, hk, hd, rfl, by rw [hx]⟩⟩, fun h hh => by
      rw [List.mem_singleton] at hh
      rw [hh]
      exact hH⟩
    rcases hq with ⟨y, hq, hy⟩ | ⟨hq, hy⟩
    · subst hq
      rw [hy]
      refine ⟨?_⟩
      simp (config := { maxSteps := 4000000 }) only [↓sx0, ↓sx1, ↓sx2, ↓sx3, ↓sx4, ↓sx5, ↓sx6, sx0, sx1, sx2, sx3, sx4, sx5, sx6, tf176, ev3_hold, sxo, sxc, sxp, sxq, sxr, sxs, sxl, sxm, simprocAttr]
      refine ld_olda (by simp [add_block]) c9 hnX ?_
      simp (config := { maxSteps := 4000000 }) only [↓sx0, ↓sx1, ↓sx2, ↓sx3, ↓sx4, ↓sx5, ↓sx6, sx0, sx1, sx2, sx3, sx4, sx5, sx6, tf176, ev3_hold, sxo, sxc, sxp, sxq, sxr, sxs, sxl, sxm, simprocAttr]
      refine ins_W (A := N) (B := []) near_map near_law hkey hke hno rfl ?_
      simp (config := { maxSteps := 4000000 }) only [↓sx0, ↓sx1, ↓sx2, ↓sx3, ↓sx4, ↓sx5, ↓sx6, sx0, sx1, sx2, sx3, sx4, sx5, sx6, tf176, ev3_hold, sxo, sxc, sxp, sxq, sxr, sxs, sxl, sxm, simprocAttr]
      exact hpost _ hy _ (List.mem_append_right _ List.mem_cons_self)
    · subst hq
      rw [hy]
      refine ⟨?_⟩
      simp (config := { maxSteps := 4000000 }) only [↓sx0, ↓sx1, ↓sx2, ↓sx3, ↓sx4, ↓sx5, ↓sx6, sx0, sx1, sx2, sx3, sx4, sx5, sx6, tf176, ev3_hold, sxo, sxc, sxp, sxq, sxr, sxs, sxl, sxm, simprocAttr]
      refine ld_olda (by simp [add_block]) c9 hnX ?_
      simp (config := { maxSteps := 4000000 }) only [↓sx0, ↓sx1, ↓sx2, ↓sx3, ↓sx4, ↓sx5, ↓sx6, sx0, sx1, sx2, sx3, sx4, sx5, sx6, tf176, ev3_hold, sxo, sxc, sxp, sxq, sxr, sxs, sxl, sxm, simprocAttr]
      refine ins_W (A := N) (B := []) near_map near_law hkey hke hno rfl ?_
      simp (config := { maxSteps := 4000000 }) only [↓sx0, ↓sx1, ↓sx2, ↓sx3, ↓sx4, ↓sx5, ↓sx6, sx0, sx1, sx2, sx3, sx4, sx5, sx6, tf176, ev3_hold, sxo, sxc, sxp, sxq, sxr, sxs, sxl, sxm, simprocAttr]
      exact hpost _ hy _ (List.mem_append_right _ List.mem_cons_self)
  obtain ⟨k', d', _, _, h1, h2⟩ := hev e he
  have hkd : k' = k ∧ d' = dir := by
    rw [h1] at hek
    injection hek with hek
    injection hek with hek
    simp only [List.cons.injEq, Value.int.injEq, true_and, and_true] at hek
    omega
  rw [hkd.1, hkd.2] at h2
  rw [h2]
  simp (config := { maxSteps := 4000000 }) only [↓sx0, ↓sx1, ↓sx2, ↓sx3, ↓sx4, ↓sx5, ↓sx6, sx0, sx1, sx2, sx3, sx4, sx5, sx6, tf176, ev3_hold, sxo, sxc, sxp, sxq, sxr, sxs, sxl, sxm, simprocAttr]
  exact ⟨_, ⟨es, ck, rfl, hke, hev⟩, fun h hh => hh⟩
end Go.Proofs.YtnbogcpnpcbjgaaGreatDoor

namespace Go.Proofs.YtnbogcpnpcbjgaaGreatDoor
open Go.RowKit Go.SX Go.WideMaps
set_option maxRecDepth 20000
set_option maxHeartbeats 0
set_option linter.unusedSimpArgs false
set_option linter.unusedVariables false
def pshN (c : Cht) (t : Nat) (h : Int) (dir : Nat) : Nat → Nat → Int
  | 0, k => k
  | s + 1, k => match bes c.W c.H k dir with
    | none => -1
    | some y => if dryB c y t h then k else pshN c t h dir s y
theorem bes_in {c : Cht} (hok : c.ok) {k dir y : Nat} (hk : k < c.depth.length) (h : bes c.W c.H k dir = some y) : y < c.depth.length := by
  obtain ⟨_, _, _, _, hlen⟩ := hok.dims
  have := bes_lt h
  omega
theorem pushed_fn (w : World) (hw : Ways w) (bs mn ms : Nat) (d : Drf) (sD sT sS vZ vC vW : Value) (hs : SdC w bs mn ms d sD sT sS vZ vC vW) (hok : d.c.ok) (S : List HO) (hS : NrS d.c mn S) (hSok : ∀ h ∈ S, h.ok w) (k dir t steps : Nat) (h : Int) (hk : k < d.c.depth.length) (hd : dir < 6) (ht : t < d.c.tide.length) (hh : -10000 ≤ h ∧ h ≤ 10000) (hst : steps ≤ 10000) :
    SX.Fn Tryz.prog 164 [.pointer (some ⟨bs, 0, none⟩), I k, I steps, I dir, I t, I h] w (fpsx S) (MutP d.c mn fun q => q = I (pshN d.c t h dir steps k)) := by
  obtain ⟨es, ck, rfl, hke, hev⟩ := hS
  have hm : w.heap[mn]? = some (.map es ck) := hSok _ (List.mem_singleton.2 rfl)
  have h144 : d.c.depth.length ≤ 200 := (small_of hok).1
  have hX : ∀ b, fpsx [HO.obj mn (.map es ck)] b → b = mn := fun b hb => fps_obj.2.1 hb
  have hnx := fun (x : Nat) (hx : x < d.c.depth.length) (S' : List HO) (hS' : NrS d.c mn S') (B : List HO) w' (hp : Hp ⟨w, fpsx [HO.obj mn (.map es ck)]⟩ (S' ++ B) w') => dnext_fn w' (hw.keepM hm (hp.ext.mono hX)) bs mn ms d sD sT sS vZ vC vW (hs.keepM hm (hp.ext.mono hX)) hok S' hS' (fun h hh => hp.ok h (List.mem_append_left _ hh)) x dir hx hd
  have hdr := fun (x : Nat) (hx : x < d.c.depth.length) (H : List HO) w' (hp : Hp ⟨w, fpsx [HO.obj mn (.map es ck)]⟩ H w') => dry_fn w' bs mn ms d sD sT sS vZ vC vW (hs.keepM hm (hp.ext.mono hX)) hok x t h hx ht hh
  have hold : (∀ h ∈ [HO.obj mn (.map es ck)], h.ok w) ∧ (∀ h ∈ [HO.obj mn (.map es ck)], ∀ b, h.fp b → fpsx [HO.obj mn (.map es ck)] b) ∧ [HO.obj mn (.map es ck)].Pairwise Apart := ⟨hSok, fun h hh b hb => by
    rw [List.mem_singleton] at hh
    subst hh
    exact fps_obj.2.2 hb, List.pairwise_singleton _ _⟩
  have hfx : ∀ S', NrS d.c mn S' → ∀ b, fps S' b → fpsx S' b := fun S' h b hb => by
    obtain ⟨es', ck', rfl, _⟩ := h
    exact fps_obj.2.2 (fps_obj.1.1 hb)
  have h0 : NrS d.c mn [HO.obj mn (.map es ck)] := ⟨es, ck, rfl, hke, hev⟩
  obtain ⟨X0, hX0⟩ : ∃ X0, fpsx [HO.obj mn (.map es ck)] = X0 := ⟨_, rfl⟩
  rw [hX0] at hold ⊢
  simp only [hX0] at hnx hdr
  have dn : ∀ (g : Nat) (xs : List Value), det0 g xs = none := fun _ _ => rfl
  unfold MutP at hnx ⊢
  refine walk [] [] (det0_ok _ _) Tryz.func164 rfl Tryz.ntmps164 res164 (by kernel_rfl) (H0 := [HO.obj mn (.map es ck)]) hold ?_
  simp (config := { maxSteps := 4000000 }) only [↓sx0, ↓sx1, ↓sx2, ↓sx3, ↓sx4, ↓sx5, ↓sx6, sx0, sx1, sx2, sx3, sx4, sx5, sx6, tf164, ev3_hold, sxo, sxc, sxp, sxq, sxr, sxs, sxl, sxm, simprocAttr]
  refine loop_constH [HO.obj mn (.map es ck)] (HImp.refl _ _) [(1, 1), (12, 13), (15, 32)] (fun q : Nat × Nat => [(1, I q.2), (15, I q.1)]) (fun q H1 => q.1 ≤ steps ∧ q.2 < d.c.depth.length ∧ NrS d.c mn H1 ∧ pshN d.c t h dir steps k = pshN d.c t h dir (steps - q.1) q.2) (fun q => steps - q.1) (0, k) ?_ ⟨Nat.zero_le _, hk, h0, rfl⟩ ?_
  · simp (config := { maxSteps := 4000000 }) only [↓sx0, ↓sx1, ↓sx2, ↓sx3, ↓sx4, ↓sx5, ↓sx6, sx0, sx1, sx2, sx3, sx4, sx5, sx6, tf164, ev3_hold, sxo, sxc, sxp, sxq, sxr, sxs, sxl, sxm, simprocAttr]
    try simp
  rintro ⟨i, x⟩ H1 g1 hinv
  simp only [] at hinv
  obtain ⟨hi, hx, hS1, he⟩ := hinv
  by_cases hin : i = steps
  · have e7 : ((i : Int) < (steps : Int)) = False := eq_false (by omega)
    rw [hin, Nat.sub_self] at he
    refine ⟨?_⟩
    simp (config := { maxSteps := 4000000 }) only [↓sx0, ↓sx1, ↓sx2, ↓sx3, ↓sx4, ↓sx5, ↓sx6, sx0, sx1, sx2, sx3, sx4, sx5, sx6, tf164, ev3_hold, sxo, sxc, sxp, sxq, sxr, sxs, sxl, sxm, simprocAttr, e7]
    exact ⟨by rw [he]; rfl, H1, hS1, fun h hh => hh⟩
  have e7 : ((i : Int) < (steps : Int)) = True := eq_true (by omega)
  have e8 : wr (i + 1) = ((i + 1 : Nat) : Int) := (wrap_id (by omega)).trans (by omega)
  have hnx := hnx x hx H1 hS1 []
  have hsub : steps - i = (steps - (i + 1)) + 1 := by omega
  rw [hsub, pshN] at he
  have hnxI : nxI d.c.W d.c.H x dir = match bes d.c.W d.c.H x dir with
    | some y => (y : Nat)
    | none => -1 := rfl
  cases hb : bes d.c.W d.c.H x dir with
  | none =>
    rw [hb] at he hnxI
    simp only [] at he hnxI
    simp only [hnxI] at hnx
    rw [he]
    refine ⟨?_⟩
    simp (config := { maxSteps := 4000000 }) only [↓sx0, ↓sx1, ↓sx2, ↓sx3, ↓sx4, ↓sx5, ↓sx6, sx0, sx1, sx2, sx3, sx4, sx5, sx6, tf164, ev3_hold, sxo, sxc, sxp, sxq, sxr, sxs, sxl, sxm, simprocAttr, e7, dn]
    refine CallOb.mutH (A := H1) (B := []) (by rw [List.append_nil]; exact HImp.refl _ _) (hfx H1 hS1) hnx ?_
    rintro q N ⟨rfl, S', hS', hmem⟩
    refine ⟨?_⟩
    simp (config := { maxSteps := 4000000 }) only [↓sx0, ↓sx1, ↓sx2, ↓sx3, ↓sx4, ↓sx5, ↓sx6, sx0, sx1, sx2, sx3, sx4, sx5, sx6, tf164, ev3_hold, sxo, sxc, sxp, sxq, sxr, sxs, sxl, sxm, simprocAttr]
    exact ⟨S', hS', fun h hh => by simp [hmem h hh]⟩
  | some y =>
    have hy := bes_in hok hx hb
    rw [hb] at he hnxI
    simp only [] at he hnxI
    simp only [hnxI] at hnx
    have f1 : ((y : Int) = -1) = False := eq_false (by omega)
    have hdr := hdr y hy
    obtain ⟨D, hD⟩ : ∃ D, dryB d.c y t h = D := ⟨_, rfl⟩
    rw [hD] at he
    simp only [hD] at hdr
    refine ⟨?_⟩
    simp (config := { maxSteps := 4000000 }) only [↓sx0, ↓sx1, ↓sx2, ↓sx3, ↓sx4, ↓sx5, ↓sx6, sx0, sx1, sx2, sx3, sx4, sx5, sx6, tf164, ev3_hold, sxo, sxc, sxp, sxq, sxr, sxs, sxl, sxm, simprocAttr, e7, dn]
    refine CallOb.mutH (A := H1) (B := []) (by rw [List.append_nil]; exact HImp.refl _ _) (hfx H1 hS1) hnx ?_
    rintro q N ⟨rfl, S', hS', hmem⟩
    refine ⟨?_⟩
    simp (config := { maxSteps := 4000000 }) only [↓sx0, ↓sx1, ↓sx2, ↓sx3, ↓sx4, ↓sx5, ↓sx6, sx0, sx1, sx2, sx3, sx4, sx5, sx6, tf164, ev3_hold, sxo, sxc, sxp, sxq, sxr, sxs, sxl, sxm, simprocAttr, f1, dn]
    refine CallOb.pureH (fun w' hp => hdr _ w' hp) ?_
    rintro q N2 rfl
    cases D with
    | true =>
      rw [if_pos rfl] at he
      rw [he]
      refine ⟨?_⟩
      simp (config := { maxSteps := 4000000 }) only [↓sx0, ↓sx1, ↓sx2, ↓sx3, ↓sx4, ↓sx5, ↓sx6, sx0, sx1, sx2, sx3, sx4, sx5, sx6, tf164, ev3_hold, sxo, sxc, sxp, sxq, sxr, sxs, sxl, sxm, simprocAttr]
      exact ⟨S', hS', fun h hh => by simp [hmem h hh]⟩
    | false =>
      rw [if_neg (by simp)] at he
      have hsub2 : HImp ⟨w, X0⟩ (N2 ++ (N ++ [])) S' := (HImp.app _ _ _).trans (by
        obtain ⟨es', ck', rfl, _⟩ := hS'
        exact HImp.pick (List.mem_append_left _ (hmem _ (List.mem_singleton.2 rfl))))
      refine ⟨?_⟩
      simp (config := { maxSteps := 4000000 }) only [↓sx0, ↓sx1, ↓sx2, ↓sx3, ↓sx4, ↓sx5, ↓sx6, sx0, sx1, sx2, sx3, sx4, sx5, sx6, tf164, ev3_hold, sxo, sxc, sxp, sxq, sxr, sxs, sxl, sxm, simprocAttr, e8]
      exact ⟨(i + 1, y), _, ⟨rfl, rfl⟩, by simpa using hsub2, ⟨by simp only []; omega, hy, hS', he⟩, by simp only []; omega⟩
end Go.Proofs.YtnbogcpnpcbjgaaGreatDoor

