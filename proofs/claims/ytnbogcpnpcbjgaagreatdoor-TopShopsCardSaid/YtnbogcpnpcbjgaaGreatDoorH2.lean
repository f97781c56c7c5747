/- Parts of a proof: the symbolic walk and what it shows of single functions. -/
import Derived.Test.YtnbogcpnpcbjgaaGreatDoorH1
import Derived.Test.YtnbogcpnpcbjgaaGreatDoorX5
import Derived.Test.YtnbogcpnpcbjgaaGreatDoorC4
import Derived.Test.YtnbogcpnpcbjgaaGreatDoorX4
import Derived.Shelf.Slices.In.SortAlone
import Derived.Shelf.Slices.In.SortNone
import Derived.Shelf.Slices.In.CompactI
set_option linter.all false
namespace Go.Proofs.YtnbogcpnpcbjgaaGreatDoor
open Go.RowKit Go.SX
set_option maxRecDepth 20000
set_option maxHeartbeats 0
set_option linter.unusedSimpArgs false
set_option linter.unusedVariables false
theorem stepI_fn (w : World) (f : Nat) : SX.Fn Tryz.prog 110 [I f] w (fun _ => False) fun q N => q = I f := by
  refine walk [] [] (det0_ok _ _) Tryz.func110 rfl Tryz.ntmps110 res110 (by kernel_rfl) no_facts ?_
  simp (config := { maxSteps := 4000000 }) only [↓sx0, ↓sx1, ↓sx2, ↓sx3, ↓sx4, ↓sx5, ↓sx6, sx0, sx1, sx2, sx3, sx4, sx5, sx6, tf110, ev3_hold, sxo, sxc, sxp, sxq, sxr, sxs, sxl, sxm, simprocAttr]
theorem stepL_fn (w : World) (b : Nat) (lw f : Nat) (hlw : lw ≤ 8) (hf : f ≤ 100) (hc : w.cell? ⟨b, 2, none⟩ = some (I lw)) : SX.Fn Tryz.prog 111 [I f, .pointer (some ⟨b, 0, none⟩)] w (fun _ => False) fun q N => q = I ((f * lw / 4 : Nat) : Int) := by
  have h8 : f * lw ≤ 800 := Nat.mul_le_mul hf hlw
  have e1 : wr ((f : Int) * lw) = ((f * lw : Nat) : Int) := (wrap_id (by rw [← Int.natCast_mul]; omega)).trans (Int.natCast_mul _ _).symm
  have e2 : wr (((f * lw : Nat) : Int).tdiv 4) = ((f * lw / 4 : Nat) : Int) := by
    rw [show ((f * lw : Nat) : Int).tdiv 4 = ((f * lw / 4 : Nat) : Int) from rfl]
    exact wrap_id (by omega)
  refine walk [] [] (det0_ok _ _) Tryz.func111 rfl Tryz.ntmps111 res111 (by kernel_rfl) no_facts ?_
  simp (config := { maxSteps := 4000000 }) only [↓sx0, ↓sx1, ↓sx2, ↓sx3, ↓sx4, ↓sx5, ↓sx6, sx0, sx1, sx2, sx3, sx4, sx5, sx6, tf111, ev3_hold, sxo, sxc, sxp, sxq, sxr, sxs, sxl, sxm, simprocAttr]
  refine ld_olda (by simp [add_block]) hc id ?_
  simp (config := { maxSteps := 4000000 }) only [↓sx0, ↓sx1, ↓sx2, ↓sx3, ↓sx4, ↓sx5, ↓sx6, sx0, sx1, sx2, sx3, sx4, sx5, sx6, tf111, ev3_hold, sxo, sxc, sxp, sxq, sxr, sxs, sxl, sxm, simprocAttr, e1, e2]
def StpOk (w : World) (vp : Value) (fn : Nat → Nat) (R : Nat → Prop) : Prop := ∃ (g : Nat) (first cap : List Value), vp = .func (.func g) first.toArray cap.toArray ∧ CallT Tryz.prog g ∧ ∀ (X : Nat → Prop) (w' : World), Keep X w w' → (∀ b, R b → ¬ X b) → ∀ f : Nat, f ≤ 3 → SX.Fn Tryz.prog g (first ++ ([I f] ++ cap)) w' (fun _ => False) fun q N => q = I (fn f)
theorem stpI (w : World) : StpOk w (.func (.func 110) #[] #[]) id (fun _ => False) := ⟨_, [], [], rfl, Tryz.call110, fun X w' hk hX f hf => stepI_fn w' f⟩
theorem stpL (w : World) (b lw : Nat) (hlw : lw ≤ 8) (hc : w.cell? ⟨b, 2, none⟩ = some (I lw)) : StpOk w (.func (.func 111) #[] #[.pointer (some ⟨b, 0, none⟩)]) (fun f => f * lw / 4) (fun x => x = b) := ⟨_, [], [.pointer (some ⟨b, 0, none⟩)], rfl, Tryz.call111, fun X w' hk hX f hf => stepL_fn w' b lw f hlw (by omega) ((World.cell?_of_block (w := w) (hk.block b (World.block_lt_of_cell? w _ hc) (hX b rfl))).trans hc)⟩
theorem StpOk.keep {w w' : World} {X : Nat → Prop} {vp : Value} {fn : Nat → Nat} {R : Nat → Prop} (h : StpOk w vp fn R) (hk : Keep X w w') (hX : ∀ b, R b → ¬ X b) : StpOk w' vp fn R := by
  obtain ⟨g, first, cap, h1, h2, h3⟩ := h
  exact ⟨g, first, cap, h1, h2, fun Y w2 hk2 hY f hf => h3 _ w2 (hk.trans hk2) (fun b hb hc => hc.elim (hX b hb) (hY b hb)) f hf⟩
structure Psh.ok (p : Psh) : Prop where
  d1 : 1 ≤ p.dirs ∧ p.dirs ≤ 63
  s : 0 ≤ p.low ∧ p.low ≤ p.high ∧ p.high ≤ 3
def pshD (c : Cht) (t : Nat) (h : Int) (k : Nat) (p : Psh) (fn : Nat → Nat) (d : Nat) : List Int := if p.dirs.toNat.testBit d then (List.range' p.low.toNat (p.high.toNat + 1 - p.low.toNat)).map fun f => pshN c t h d (fn f) k else []
def pshR (c : Cht) (t : Nat) (h : Int) (k : Nat) (p : Psh) (fn : Nat → Nat) (d : Nat) : List Int := (List.range' d (6 - d)).flatMap (pshD c t h k p fn)
def pshL (c : Cht) (t : Nat) (h : Int) (k : Nat) (p : Psh) (fn : Nat → Nat) : List Int := pshR c t h k p fn 0
theorem pshR_step (c : Cht) (t : Nat) (h : Int) (k : Nat) (p : Psh) (fn : Nat → Nat) {d : Nat} (hd : d < 6) : pshR c t h k p fn d = pshD c t h k p fn d ++ pshR c t h k p fn (d + 1) := by
  unfold pshR
  rw [show 6 - d = (6 - (d + 1)) + 1 by omega, List.range'_succ, List.flatMap_cons]
theorem bit6 : ∀ s : Fin 64, ∀ i : Fin 6, (bitS .and .i64 (((s.val : Nat) : Int).fdiv (2 ^ (min i.val IntKind.i64.bits))) 1 == 1) = s.val.testBit i.val := by
  decide +kernel
def pus6 (bs k : Nat) (p : Psh) (vf : Value) (t : Nat) (h : Int) (b1 b2 b3 b4 b5 b6 : Nat) : List HO := [.cells b6 3 [I h], .cells b5 3 [I t], .cells b4 107 [vf], .cells b1 139 (psc p), .cells b3 3 [I k], .cells b2 108 [.pointer (some ⟨bs, 0, none⟩)]]
def PusP (bs : Nat) (k : Nat) (p : Psh) (vf : Value) (t : Nat) (h : Int) (q : Value) (N : List HO) : Prop := ∃ b1 b2 b3 b4 b5 b6, q = .func (.func 163) #[] #[.pointer (some ⟨b1, 0, none⟩), .pointer (some ⟨b2, 0, none⟩), .pointer (some ⟨b3, 0, none⟩), .pointer (some ⟨b4, 0, none⟩), .pointer (some ⟨b5, 0, none⟩), .pointer (some ⟨b6, 0, none⟩)] ∧
  (pus6 bs k p vf t h b1 b2 b3 b4 b5 b6).Sublist N
theorem pushes_fn (w : World) (bs k : Nat) (p : Psh) (vf : Value) (hvf : vcells vf = [vf]) (t : Nat) (h : Int) : SX.Fn Tryz.prog 113 [.pointer (some ⟨bs, 0, none⟩), I k, psv p, vf, I t, I h] w (fun _ => False) (PusP bs k p vf t h) := by
  unfold PusP psv
  refine walk [6, 7, 8, 9, 10, 11] [] (det0_ok _ _) Tryz.func113 rfl Tryz.ntmps113 res113 (by kernel_rfl) no_facts ?_
  simp (config := { maxSteps := 4000000 }) only [↓sx0, ↓sx1, ↓sx2, ↓sx3, ↓sx4, ↓sx5, ↓sx6, sx0, sx1, sx2, sx3, sx4, sx5, sx6, tf113, ev3_hold, sxo, sxc, sxp, sxq, sxr, sxs, sxl, sxm, simprocAttr]
  intro b1 b2 b3 b4 b5 b6
  rw [hvf]
  exact ⟨_, _, _, _, _, _, rfl, List.Sublist.refl _⟩
end Go.Proofs.YtnbogcpnpcbjgaaGreatDoor

namespace Go.Proofs.YtnbogcpnpcbjgaaGreatDoor
open Go.RowKit Go.SX
set_option maxRecDepth 20000
set_option maxHeartbeats 0
set_option linter.unusedSimpArgs false
set_option linter.unusedVariables false
theorem walkIterS {gf : Nat} {fn : Func} {c : Code} {pre post : List Value} {nt n : Nat} {arg : Nat → List Value → List HO → Prop} {w : World} (Rs : Nat → Prop) (NS : List HO → Prop) (re : List Nat) (ord : List (Nat × Plan)) {det : Nat → List Value → Option Value} (hD : ∀ X, (∀ b, Rs b → ¬ X b) → DetFn Tryz.prog ⟨w, X⟩ det)
    (hf : Tryz.prog.funcs[gf]? = some fn) (hb : fn.body = some c) (hn : fn.ntmps = nt) (hr : fn.results.toList = []) (hok : codeB ord c = true)
    (h : ∀ l J C R, (∀ b, Rs b → ¬ (C b ∨ False)) → Handler Tryz.prog l n arg w C (fun _ => False) J → ShareJ NS J → W (EV w (fun b => C b ∨ False) re ord det []) c (retQ (EV w (fun b => C b ∨ False) re ord det []) [] (iterPost n J)) ((pre ++ [Value.func (.yield l) #[] #[]] ++ post).map SV.v ++ List.replicate (nt - (pre ++ [Value.func (.yield l) #[] #[]] ++ post).length) (.v undef)) [] [consu J (some 0) C R]) :
    IterS Tryz.prog gf pre post n arg (fun _ => False) Rs NS w := by
  refine IterS.introS fun l J C R hRs hA hH hJ hk => ?_
  have hRs' : ∀ b, Rs b → ¬ (C b ∨ False) := fun b hb hc => hc.elim (hRs b hb) id
  have hw := h l J C R hRs' hH hJ
  rw [← hr] at hw
  subst hn
  refine Calls.mono (Fn.introZ (E := EV w (fun b => C b ∨ False) re ord det []) (fun b => C b ∨ R b) hf hb trivial (hD _ hRs') mixed_prog hok ⟨fun g hg => ?_, fun g hg b => ?_, List.pairwise_singleton _ _⟩ hw) ?_
  · rw [List.mem_singleton] at hg
    subst hg
    exact hk
  · rw [List.mem_singleton] at hg
    subst hg
    exact ⟨id, .inl⟩
  · rintro e w' ⟨v, N, he, hk, ho, _, _, hp⟩
    exact ⟨v, N, he, hk, ho, hp⟩
def intArg (L : List Int) : Nat → List Value → List HO → Prop := fun i vs F => ∃ x, L[i]? = some x ∧ vs = [I x] ∧ F = []
theorem drop_cons {L : List Int} {k : Nat} {x : Int} {r : List Int} (h : L.drop k = x :: r) : k < L.length ∧ L[k]? = some x ∧ L.drop (k + 1) = r := by
  have h1 : L[k]? = some x := by
    have := congrArg (·[0]?) h
    simpa using this
  refine ⟨(List.getElem?_eq_some_iff.1 h1).1, h1, ?_⟩
  rw [← List.drop_drop, h]
  rfl
theorem pushes_it (w : World) (hw : Ways w) (bs mn ms : Nat) (d : Drf) (sD sT sS vZ vC vW : Value) (hs : SdC w bs mn ms d sD sT sS vZ vC vW) (hok : d.c.ok) (k : Nat) (hk : k < d.c.depth.length) (p : Psh) (hp : p.ok) (t : Nat) (ht : t < d.c.tide.length) (h : Int) (hh : -10000 ≤ h ∧ h ≤ 10000) (vf : Value) (fn : Nat → Nat) (R : Nat → Prop) (hvf : StpOk w vf fn R) (hfn : ∀ f, f ≤ 3 → fn f ≤ 10000) (b1 b2 b3 b4 b5 b6 : Nat)
    (h1 : ∀ i v, (psc p)[i]? = some v → w.cell? ⟨b1, i, none⟩ = some v) (h2 : w.cell? ⟨b2, 0, none⟩ = some (.pointer (some ⟨bs, 0, none⟩))) (h3 : w.cell? ⟨b3, 0, none⟩ = some (I k)) (h4 : w.cell? ⟨b4, 0, none⟩ = some vf) (h5 : w.cell? ⟨b5, 0, none⟩ = some (I t)) (h6 : w.cell? ⟨b6, 0, none⟩ = some (I h)) :
    IterS Tryz.prog 163 [] [.pointer (some ⟨b1, 0, none⟩), .pointer (some ⟨b2, 0, none⟩), .pointer (some ⟨b3, 0, none⟩), .pointer (some ⟨b4, 0, none⟩), .pointer (some ⟨b5, 0, none⟩), .pointer (some ⟨b6, 0, none⟩)] (pshL d.c t h k p fn).length (intArg (pshL d.c t h k p fn)) (fun _ => False) (fun b => b = b1 ∨ b = b2 ∨ b = b3 ∨ b = b4 ∨ b = b5 ∨ b = b6 ∨ sdR w bs sD sT sS b ∨ R b) (NrS d.c mn) w := by
  obtain ⟨D, lo, hi, hD1, hD6, hlh, hh3, hdirs, hlow, hhigh⟩ : ∃ D lo hi : Nat, 1 ≤ D ∧ D < 64 ∧ lo ≤ hi ∧ hi ≤ 3 ∧ p.dirs = D ∧ p.low = lo ∧ p.high = hi := by
    obtain ⟨⟨a1, a2⟩, a3, a4, a5⟩ := hp
    exact ⟨p.dirs.toNat, p.low.toNat, p.high.toNat, by omega, by omega, by omega, by omega, by omega, by omega, by omega⟩
  have c10 := h1 0 _ rfl
  have c11 := h1 1 _ rfl
  have c12 := h1 2 _ rfl
  rw [hdirs] at c10
  rw [hlow] at c11
  rw [hhigh] at c12
  have hst := fun (e : Nat) (he : e < 6) => pshR_step d.c t h k p fn he
  have hpD : ∀ e, pshD d.c t h k p fn e = if D.testBit e then (List.range' lo (hi + 1 - lo)).map fun f => pshN d.c t h e (fn f) k else [] := fun e => by
    unfold pshD
    rw [hdirs, hlow, hhigh]
    rfl
  have hp6 : pshR d.c t h k p fn 6 = [] := rfl
  have hp0 : pshL d.c t h k p fn = pshR d.c t h k p fn 0 := rfl
  obtain ⟨g, first, cap, hv, hT, hcl⟩ := hvf
  obtain ⟨L, hL⟩ : ∃ L, pshL d.c t h k p fn = L := ⟨_, rfl⟩
  rw [hL] at hp0 ⊢
  obtain ⟨Rd, hRd⟩ : ∃ Rd : Nat → List Int, ∀ e, pshR d.c t h k p fn e = Rd e := ⟨_, fun _ => rfl⟩
  simp only [hRd, hpD] at hst hp6 hp0
  have dn : ∀ (g : Nat) (xs : List Value), det0 g xs = none := fun _ _ => rfl
  refine walkIterS _ _ [] [(6, (ones [0, 4, 6] (.ld 1 (.ld 2 (.ld 3 (.ld 7 (.ld 8 (ones [5] (.mu 9 (.mu 10 (ones [11] .fin)))))))))))] (fun _ _ => det0_ok _ _) Tryz.func163 rfl Tryz.ntmps163 res163 (by kernel_rfl) fun l J C R0 hRs hHd hJ => ?_
  have x1 := hRs b1 (by simp)
  have x2 := hRs b2 (by simp)
  have x3 := hRs b3 (by simp)
  have x4 := hRs b4 (by simp)
  have x5 := hRs b5 (by simp)
  have x6 := hRs b6 (by simp)
  have hsX : ∀ b, sdR w bs sD sT sS b → ¬ (C b ∨ False) := fun b hb => hRs b (by simp [hb])
  have hRX : ∀ b, R b → ¬ (C b ∨ False) := fun b hb => hRs b (by simp [hb])
  have hps := fun (e : Nat) (he : e < 6) (f : Nat) (hf : f ≤ 3) (H : List HO) w' S (hp : Hp ⟨w, fun b => C b ∨ False⟩ H w') (hS : NrS d.c mn S) (hSok : ∀ h ∈ S, h.ok w') => pushed_fn w' (hw.keep hp.ext (hsX _ (.inr (.inl rfl)))) bs mn ms d sD sT sS vZ vC vW (hs.keepR hp.ext hsX) hok S hS hSok k e t (fn f) h hk he ht hh (hfn f hf)
  have hcl := fun (f : Nat) (hf : f ≤ 3) (H : List HO) w' (hp : Hp ⟨w, fun b => C b ∨ False⟩ H w') => hcl _ w' hp.ext hRX f hf
  unfold MutP at hps
  rw [hv] at h4
  simp (config := { maxSteps := 4000000 }) only [↓sx0, ↓sx1, ↓sx2, ↓sx3, ↓sx4, ↓sx5, ↓sx6, sx0, sx1, sx2, sx3, sx4, sx5, sx6, tf163, ev3_hold, sxo, sxc, sxp, sxq, sxr, sxs, sxl, sxm, simprocAttr]
  refine loop_constH [consu J (some 0) C R0] (HImp.refl _ _) [(8, 43)] (fun q : Nat × Nat => [(10, I q.1)])
    (fun q H1 => q.1 ≤ 6 ∧ q.2 ≤ L.length ∧ L.drop q.2 = Rd q.1 ∧ ∃ C1 R1, H1 = [consu J (some q.2) C1 R1]) (fun q => 6 - q.1) (0, 0) ?_ ⟨Nat.zero_le _, Nat.zero_le _, hp0, C, R0, rfl⟩ ?_
  · simp (config := { maxSteps := 4000000 }) only [↓sx0, ↓sx1, ↓sx2, ↓sx3, ↓sx4, ↓sx5, ↓sx6, sx0, sx1, sx2, sx3, sx4, sx5, sx6, tf163, ev3_hold, sxo, sxc, sxp, sxq, sxr, sxs, sxl, sxm, simprocAttr]
    try simp
  rintro ⟨e, kk⟩ H1 g1 ⟨he, hkk, hdr, C1, R1, rfl⟩
  simp only [] at he hkk hdr
  by_cases he6 : e = 6
  · have e7 : ((e : Int) < 6) = False := eq_false (by omega)
    rw [he6, hp6, List.drop_eq_nil_iff] at hdr
    refine ⟨?_⟩
    simp (config := { maxSteps := 4000000 }) only [↓sx0, ↓sx1, ↓sx2, ↓sx3, ↓sx4, ↓sx5, ↓sx6, sx0, sx1, sx2, sx3, sx4, sx5, sx6, tf163, ev3_hold, sxo, sxc, sxp, sxq, sxr, sxs, sxl, sxm, simprocAttr, e7]
    exact ⟨rfl, some kk, C1, R1, List.mem_cons_self, .inl (congrArg some (by omega))⟩
  have e7 : ((e : Int) < 6) = True := eq_true (by omega)
  have e8 : wr (e + 1) = ((e + 1 : Nat) : Int) := (wrap_id (by omega)).trans (by omega)
  have hst := hst e (by omega)
  have hps := hps e (by omega)
  have hb := bit6 ⟨D, hD6⟩ ⟨e, by omega⟩
  simp only [] at hb
  obtain ⟨B, hB⟩ : ∃ B, bitS .and .i64 ((D : Int).fdiv (2 ^ (min e IntKind.i64.bits))) 1 = B := ⟨_, rfl⟩
  rw [hB] at hb
  by_cases htb : D.testBit e = true
  case neg =>
    rw [Bool.not_eq_true] at htb
    rw [htb] at hb
    rw [htb, if_neg (by simp), List.nil_append] at hst
    rw [hst] at hdr
    have e1 : (B = 1) = False := eq_false (by simpa using hb)
    refine ⟨?_⟩
    simp (config := { maxSteps := 4000000 }) only [↓sx0, ↓sx1, ↓sx2, ↓sx3, ↓sx4, ↓sx5, ↓sx6, sx0, sx1, sx2, sx3, sx4, sx5, sx6, tf163, ev3_hold, sxo, sxc, sxp, sxq, sxr, sxs, sxl, sxm, simprocAttr, e7]
    refine ld_olda (by simp [add_block]) c11 x1 ?_
    simp (config := { maxSteps := 4000000 }) only [↓sx0, ↓sx1, ↓sx2, ↓sx3, ↓sx4, ↓sx5, ↓sx6, sx0, sx1, sx2, sx3, sx4, sx5, sx6, tf163, ev3_hold, sxo, sxc, sxp, sxq, sxr, sxs, sxl, sxm, simprocAttr]
    refine loop_constH [consu J (some kk) C1 R1] (HImp.refl _ _) [(9, 9), (16, 42)] (fun q : Nat => [(9, I lo)]) (fun q H1 => H1 = [consu J (some kk) C1 R1]) (fun q => 0) 0 ?_ rfl ?_
    · simp (config := { maxSteps := 4000000 }) only [↓sx0, ↓sx1, ↓sx2, ↓sx3, ↓sx4, ↓sx5, ↓sx6, sx0, sx1, sx2, sx3, sx4, sx5, sx6, tf163, ev3_hold, sxo, sxc, sxp, sxq, sxr, sxs, sxl, sxm, simprocAttr]
      try simp
    rintro f H1 g2 rfl
    refine ⟨?_⟩
    simp (config := { maxSteps := 4000000 }) only [↓sx0, ↓sx1, ↓sx2, ↓sx3, ↓sx4, ↓sx5, ↓sx6, sx0, sx1, sx2, sx3, sx4, sx5, sx6, tf163, ev3_hold, sxo, sxc, sxp, sxq, sxr, sxs, sxl, sxm, simprocAttr]
    refine ld_olda (by simp [add_block]) c10 x1 ?_
    simp (config := { maxSteps := 4000000 }) only [↓sx0, ↓sx1, ↓sx2, ↓sx3, ↓sx4, ↓sx5, ↓sx6, sx0, sx1, sx2, sx3, sx4, sx5, sx6, tf163, ev3_hold, sxo, sxc, sxp, sxq, sxr, sxs, sxl, sxm, simprocAttr, Int.toNat_natCast, hB, e1]
    refine ⟨by omega, ?_⟩
    simp (config := { maxSteps := 4000000 }) only [↓sx0, ↓sx1, ↓sx2, ↓sx3, ↓sx4, ↓sx5, ↓sx6, sx0, sx1, sx2, sx3, sx4, sx5, sx6, tf163, ev3_hold, sxo, sxc, sxp, sxq, sxr, sxs, sxl, sxm, simprocAttr, e8]
    exact ⟨(e + 1, kk), _, rfl, HImp.refl _ _, ⟨by simp only []; omega, hkk, hdr, C1, R1, rfl⟩, by simp only []; omega⟩
  rw [htb] at hb
  rw [htb, if_pos rfl] at hst
  rw [hst] at hdr
  have e1 : (B = 1) = True := eq_true (by simpa using hb)
  refine ⟨?_⟩
  simp (config := { maxSteps := 4000000 }) only [↓sx0, ↓sx1, ↓sx2, ↓sx3, ↓sx4, ↓sx5, ↓sx6, sx0, sx1, sx2, sx3, sx4, sx5, sx6, tf163, ev3_hold, sxo, sxc, sxp, sxq, sxr, sxs, sxl, sxm, simprocAttr, e7]
  refine ld_olda (by simp [add_block]) c11 x1 ?_
  simp (config := { maxSteps := 4000000 }) only [↓sx0, ↓sx1, ↓sx2, ↓sx3, ↓sx4, ↓sx5, ↓sx6, sx0, sx1, sx2, sx3, sx4, sx5, sx6, tf163, ev3_hold, sxo, sxc, sxp, sxq, sxr, sxs, sxl, sxm, simprocAttr]
  refine loop_constH [consu J (some kk) C1 R1] (HImp.refl _ _) [(9, 9), (16, 42)] (fun q : Nat × Nat => [(9, I q.1)])
    (fun q H1 => q.1 ≤ hi + 1 ∧ q.2 ≤ L.length ∧ L.drop q.2 = ((List.range' q.1 (hi + 1 - q.1)).map fun f => pshN d.c t h e (fn f) k) ++ Rd (e + 1) ∧ ∃ C1 R1, H1 = [consu J (some q.2) C1 R1]) (fun q => hi + 1 - q.1) (lo, kk) ?_ ⟨by simp only []; omega, hkk, hdr, C1, R1, rfl⟩ ?_
  · simp (config := { maxSteps := 4000000 }) only [↓sx0, ↓sx1, ↓sx2, ↓sx3, ↓sx4, ↓sx5, ↓sx6, sx0, sx1, sx2, sx3, sx4, sx5, sx6, tf163, ev3_hold, sxo, sxc, sxp, sxq, sxr, sxs, sxl, sxm, simprocAttr]
    try simp
  rintro ⟨f, kj⟩ H1 g2 ⟨hf, hkj, hdr2, C2, R2, rfl⟩
  simp only [] at hf hkj hdr2
  by_cases hfh : f = hi + 1
  · have f7 : ((f : Int) ≤ (hi : Int)) = False := eq_false (by omega)
    rw [hfh, Nat.sub_self] at hdr2
    refine ⟨?_⟩
    simp (config := { maxSteps := 4000000 }) only [↓sx0, ↓sx1, ↓sx2, ↓sx3, ↓sx4, ↓sx5, ↓sx6, sx0, sx1, sx2, sx3, sx4, sx5, sx6, tf163, ev3_hold, sxo, sxc, sxp, sxq, sxr, sxs, sxl, sxm, simprocAttr]
    refine ld_olda (by simp [add_block]) c10 x1 ?_
    simp (config := { maxSteps := 4000000 }) only [↓sx0, ↓sx1, ↓sx2, ↓sx3, ↓sx4, ↓sx5, ↓sx6, sx0, sx1, sx2, sx3, sx4, sx5, sx6, tf163, ev3_hold, sxo, sxc, sxp, sxq, sxr, sxs, sxl, sxm, simprocAttr, Int.toNat_natCast, hB, e1]
    refine ⟨by omega, ?_⟩
    refine ld_olda (by simp [add_block]) c12 x1 ?_
    simp (config := { maxSteps := 4000000 }) only [↓sx0, ↓sx1, ↓sx2, ↓sx3, ↓sx4, ↓sx5, ↓sx6, sx0, sx1, sx2, sx3, sx4, sx5, sx6, tf163, ev3_hold, sxo, sxc, sxp, sxq, sxr, sxs, sxl, sxm, simprocAttr, f7, e8]
    exact ⟨(e + 1, kj), _, rfl, HImp.refl _ _, ⟨by simp only []; omega, hkj, hdr2, C2, R2, rfl⟩, by simp only []; omega⟩
  have f7 : ((f : Int) ≤ (hi : Int)) = True := eq_true (by omega)
  have f8 : wr (f + 1) = ((f + 1 : Nat) : Int) := (wrap_id (by omega)).trans (by omega)
  have hps := hps f (by omega)
  have hcl := hcl f (by omega)
  rw [show hi + 1 - f = (hi + 1 - (f + 1)) + 1 by omega, List.range'_succ, List.map_cons, List.cons_append] at hdr2
  obtain ⟨hkl, hget, hdr3⟩ := drop_cons hdr2
  obtain ⟨x, hx⟩ : ∃ x, pshN d.c t h e (fn f) k = x := ⟨_, rfl⟩
  rw [hx] at hget
  simp only [hx] at hps
  refine ⟨?_⟩
  simp (config := { maxSteps := 4000000 }) only [↓sx0, ↓sx1, ↓sx2, ↓sx3, ↓sx4, ↓sx5, ↓sx6, sx0, sx1, sx2, sx3, sx4, sx5, sx6, tf163, ev3_hold, sxo, sxc, sxp, sxq, sxr, sxs, sxl, sxm, simprocAttr]
  refine ld_olda (by simp [add_block]) c10 x1 ?_
  simp (config := { maxSteps := 4000000 }) only [↓sx0, ↓sx1, ↓sx2, ↓sx3, ↓sx4, ↓sx5, ↓sx6, sx0, sx1, sx2, sx3, sx4, sx5, sx6, tf163, ev3_hold, sxo, sxc, sxp, sxq, sxr, sxs, sxl, sxm, simprocAttr, Int.toNat_natCast, hB, e1]
  refine ⟨by omega, ?_⟩
  refine ld_olda (by simp [add_block]) c12 x1 ?_
  simp (config := { maxSteps := 4000000 }) only [↓sx0, ↓sx1, ↓sx2, ↓sx3, ↓sx4, ↓sx5, ↓sx6, sx0, sx1, sx2, sx3, sx4, sx5, sx6, tf163, ev3_hold, sxo, sxc, sxp, sxq, sxr, sxs, sxl, sxm, simprocAttr, f7]
  refine ld_old h2 x2 ?_
  simp (config := { maxSteps := 4000000 }) only [↓sx0, ↓sx1, ↓sx2, ↓sx3, ↓sx4, ↓sx5, ↓sx6, sx0, sx1, sx2, sx3, sx4, sx5, sx6, tf163, ev3_hold, sxo, sxc, sxp, sxq, sxr, sxs, sxl, sxm, simprocAttr]
  refine ld_old h3 x3 ?_
  simp (config := { maxSteps := 4000000 }) only [↓sx0, ↓sx1, ↓sx2, ↓sx3, ↓sx4, ↓sx5, ↓sx6, sx0, sx1, sx2, sx3, sx4, sx5, sx6, tf163, ev3_hold, sxo, sxc, sxp, sxq, sxr, sxs, sxl, sxm, simprocAttr]
  refine ld_old h4 x4 ?_
  simp (config := { maxSteps := 4000000 }) only [↓sx0, ↓sx1, ↓sx2, ↓sx3, ↓sx4, ↓sx5, ↓sx6, sx0, sx1, sx2, sx3, sx4, sx5, sx6, tf163, ev3_hold, sxo, sxc, sxp, sxq, sxr, sxs, sxl, sxm, simprocAttr]
  refine ld_old h5 x5 ?_
  simp (config := { maxSteps := 4000000 }) only [↓sx0, ↓sx1, ↓sx2, ↓sx3, ↓sx4, ↓sx5, ↓sx6, sx0, sx1, sx2, sx3, sx4, sx5, sx6, tf163, ev3_hold, sxo, sxc, sxp, sxq, sxr, sxs, sxl, sxm, simprocAttr]
  refine ld_old h6 x6 ?_
  simp (config := { maxSteps := 4000000 }) only [↓sx0, ↓sx1, ↓sx2, ↓sx3, ↓sx4, ↓sx5, ↓sx6, sx0, sx1, sx2, sx3, sx4, sx5, sx6, tf163, ev3_hold, sxo, sxc, sxp, sxq, sxr, sxs, sxl, sxm, simprocAttr, dn]
  refine ⟨hT, ?_⟩
  refine CallOb.pureH (fun w' hp' => by rw [List.append_assoc]; exact hcl _ w' hp') ?_
  rintro q N rfl
  refine ⟨?_⟩
  simp (config := { maxSteps := 4000000 }) only [↓sx0, ↓sx1, ↓sx2, ↓sx3, ↓sx4, ↓sx5, ↓sx6, sx0, sx1, sx2, sx3, sx4, sx5, sx6, tf163, ev3_hold, sxo, sxc, sxp, sxq, sxr, sxs, sxl, sxm, simprocAttr, dn]
  refine CallOb.shareH (B := []) hJ (HImp.app _ _ _) (fun w' S hp' hS hSok => hps _ w' S hp' hS hSok) ?_
  rintro q rfl
  refine ⟨?_⟩
  simp (config := { maxSteps := 4000000 }) only [↓sx0, ↓sx1, ↓sx2, ↓sx3, ↓sx4, ↓sx5, ↓sx6, sx0, sx1, sx2, sx3, sx4, sx5, sx6, tf163, ev3_hold, sxo, sxc, sxp, sxq, sxr, sxs, sxl, sxm, simprocAttr, dn]
  refine CallOb.yield hHd (k := kj) hkl (F := []) (B := []) (HImp.refl _ _) (List.Sublist.refl _) ⟨x, hget, rfl, rfl⟩ (fun h hh => by cases hh) (fun w' hp b ⟨h, hh, hb⟩ => by cases hh) fun tt C3 R3 => ?_
  cases tt with
  | false =>
    simp (config := { maxSteps := 4000000 }) only [↓sx0, ↓sx1, ↓sx2, ↓sx3, ↓sx4, ↓sx5, ↓sx6, sx0, sx1, sx2, sx3, sx4, sx5, sx6, tf163, ev3_hold, sxo, sxc, sxp, sxq, sxr, sxs, sxl, sxm, simprocAttr]
    exact ⟨rfl, none, C3, R3, List.mem_cons_self, .inr rfl⟩
  | true =>
    simp (config := { maxSteps := 4000000 }) only [↓sx0, ↓sx1, ↓sx2, ↓sx3, ↓sx4, ↓sx5, ↓sx6, sx0, sx1, sx2, sx3, sx4, sx5, sx6, tf163, ev3_hold, sxo, sxc, sxp, sxq, sxr, sxs, sxl, sxm, simprocAttr, f8]
    exact ⟨(f + 1, kj + 1), _, rfl, HImp.refl _ _, ⟨by simp only []; omega, by simp only []; omega, hdr3, C3, R3, rfl⟩, by simp only []; omega⟩
end Go.Proofs.YtnbogcpnpcbjgaaGreatDoor

namespace Go.Proofs.YtnbogcpnpcbjgaaGreatDoor
open Go.RowKit Go.SX
set_option maxRecDepth 20000
set_option maxHeartbeats 0
set_option linter.unusedSimpArgs false
set_option linter.unusedVariables false
def RowP (c : Cht) (mn : Nat) (l : List Int) (q : Value) (N : List HO) : Prop := ∃ a cp S', q = .slice a l.length cp ∧ NrS c mn S' ∧ (S' ++ [HO.row (.slice a l.length cp) 3 1 (ints l)]).Sublist N
theorem old_of {w : World} {H0 : List HO} (hok : ∀ h ∈ H0, h.ok w) (hf : ∀ h ∈ H0, ∀ b, h.fp b → h.fpx b) (hp : H0.Pairwise Apart) : (∀ h ∈ H0, h.ok w) ∧ (∀ h ∈ H0, ∀ b, h.fp b → fpsx H0 b) ∧ H0.Pairwise Apart := ⟨hok, fun h hh b hb => ⟨h, hh, hf h hh b hb⟩, hp⟩
theorem appendSeq_fn (w : World) (c : Cht) (mn : Nat) (S : List HO) (hS : NrS c mn S) (a : Option Addr) (n cp : Nat) (l L : List Int) (hn : n = l.length) (hlen : l.length + L.length ≤ 1000000) (hok : ∀ h ∈ HO.row (.slice a n cp) 3 1 (ints l) :: S, h.ok w) (hap : (HO.row (.slice a n cp) 3 1 (ints l) :: S).Pairwise Apart) (gf : Nat) (hT : CallT Tryz.prog gf) (cap : List Value) (Rs : Nat → Prop) (X : Nat → Prop) (hX : fpsx (HO.row (.slice a n cp) 3 1 (ints l) :: S) = X) (hRs : ∀ b, Rs b → b < w.heap.size ∧ ¬ X b)
    (hit : ∀ w', Keep X w w' → IterS Tryz.prog gf [] cap L.length (intArg L) (fun _ => False) Rs (NrS c mn) w') :
    SX.Fn Tryz.prog 114 [.slice a n cp, .func (.func gf) #[] cap.toArray] w X (RowP c mn (l ++ L)) := by
  have hold := old_of hok (fun h hh b hb => by
    rcases List.mem_cons.1 hh with rfl | hh
    · exact hb
    · exact (NrS.shared c mn).fx S hS h hh b hb) hap
  rw [hX] at hold
  subst hn
  unfold RowP
  have htk : L.take L.length = L := List.take_length
  refine walk [] [] (det0_ok _ _) Tryz.func114 rfl Tryz.ntmps114 res114 (by kernel_rfl) (H0 := HO.row (.slice a l.length cp) 3 1 (ints l) :: S) hold ?_
  simp (config := { maxSteps := 4000000 }) only [↓sx0, ↓sx1, ↓sx2, ↓sx3, ↓sx4, ↓sx5, ↓sx6, sx0, sx1, sx2, sx3, sx4, sx5, sx6, tf114, ev3_hold, sxo, sxc, sxp, sxq, sxr, sxs, sxl, sxm, simprocAttr]
  refine range_introS (NrS c mn) (NrS.shared c mn) hT L.length (intArg L) (S ++ [HO.row (.slice a l.length cp) 3 1 (ints l)]) (fun k L' H' => ∃ S' a' c', NrS c mn S' ∧ H' = S' ++ [HO.row (.slice a' (l.length + k) c') 3 1 (ints (l ++ L.take k))] ∧ L' = [(22, [.slice a' (l.length + k) c'])]) Rs ?_ ?_ hRs (fun w' hp => ?_) ⟨S, a, cp, hS, ?_, rfl⟩ ?_ ?_ ?_
  · rintro k L0 H0 ⟨S', a', c', h1, rfl, h3⟩
    exact ⟨S', _, h1, rfl, fun S2 h2 => ⟨S2, a', c', h2, rfl, h3⟩⟩
  · exact HImp.perm (List.perm_append_comm (l₁ := [_]))
  · simpa using hit w' hp.ext
  · simp
  · rintro k vs F ⟨x, _, rfl, _⟩
    rfl
  · rintro k vs F L0 H0 hk ⟨x, hx, rfl, rfl⟩ hL0 ⟨S', a', c', h1, rfl, rfl⟩
    have hlk : (L.take k).length = k := by rw [List.length_take]; omega
    have htk1 : l ++ L.take k ++ [x] = l ++ L.take (k + 1) := by rw [List.append_assoc, List.take_add_one, hx]; rfl
    refine ⟨?_⟩
    simp (config := { maxSteps := 4000000 }) only [↓sx0, ↓sx1, ↓sx2, ↓sx3, ↓sx4, ↓sx5, ↓sx6, sx0, sx1, sx2, sx3, sx4, sx5, sx6, tf114, ev3_hold, sxo, sxc, sxp, sxq, sxr, sxs, sxl, sxm, simprocAttr]
    intro bq
    refine app_one (f := i1) (l := l ++ L.take k) x (A := S') (HImp.perm List.perm_append_comm) i1_len i1_one (by rw [List.length_append, hlk]; omega) fun a9 c9 => ?_
    rw [List.length_append, hlk, htk1]
    simp (config := { maxSteps := 4000000 }) only [↓sx0, ↓sx1, ↓sx2, ↓sx3, ↓sx4, ↓sx5, ↓sx6, sx0, sx1, sx2, sx3, sx4, sx5, sx6, tf114, ev3_hold, sxo, sxc, sxp, sxq, sxr, sxs, sxl, sxm, simprocAttr]
    exact ⟨_, HImp.perm (List.perm_append_comm (l₁ := [_])), S', some a9, c9, h1, rfl, by simp [Nat.add_assoc]⟩
  · rintro L0 H0 hL0 ⟨S', a', c', h1, rfl, rfl⟩
    rw [htk]
    refine ⟨?_⟩
    simp (config := { maxSteps := 4000000 }) only [↓sx0, ↓sx1, ↓sx2, ↓sx3, ↓sx4, ↓sx5, ↓sx6, sx0, sx1, sx2, sx3, sx4, sx5, sx6, tf114, ev3_hold, sxo, sxc, sxp, sxq, sxr, sxs, sxl, sxm, simprocAttr]
    refine ⟨a', c', S', by rw [List.length_append], h1, ?_⟩
    rw [List.length_append]
    exact List.Sublist.refl _
end Go.Proofs.YtnbogcpnpcbjgaaGreatDoor

namespace Go.Proofs.YtnbogcpnpcbjgaaGreatDoor
open Go.Shelf
def lays189_ren : Go.Shelf.Ren := ⟨fun | 189 => 47 | 125 => 88 | 257 => 87 | 128 => 140 | 129 => 141 | 294 => 131 | 295 => 132 | 296 => 133 | 297 => 134 | 298 => 135 | 299 => 136 | 216 => 137 | 300 => 138 | 301 => 139 | 328 => 168 | 329 => 169 | 330 => 170 | 331 => 171 | 332 => 172 | 215 => 149 | 343 => 179 | n => n, fun | 28 => 22 | 3 => 3 | 46 => 165 | 0 => 0 | 51 => 208 | 53 => 210 | 4 => 4 | 183 => 202 | 182 => 201 | 131 => 197 | 5 => 5 | 9 => 9 | 218 => 230 | 222 => 234 | 228 => 245 | 229 => 167 | n => n, fun | n => n⟩
theorem lays189 : Go.Proofs.Lays.n189 Tryz.prog lays189_ren := {
  mixed := by kernel_rfl
  f125 := Tryz.func88.trans (congrArg some (by kernel_rfl))
  f128 := Tryz.func140.trans (congrArg some (by kernel_rfl))
  f129 := Tryz.func141.trans (congrArg some (by kernel_rfl))
  f189 := Tryz.func47.trans (congrArg some (by kernel_rfl))
  f215 := Tryz.func149.trans (congrArg some (by kernel_rfl))
  f216 := Tryz.func137.trans (congrArg some (by kernel_rfl))
  f257 := Tryz.func87.trans (congrArg some (by kernel_rfl))
  f294 := Tryz.func131.trans (congrArg some (by kernel_rfl))
  f295 := Tryz.func132.trans (congrArg some (by kernel_rfl))
  f296 := Tryz.func133.trans (congrArg some (by kernel_rfl))
  f297 := Tryz.func134.trans (congrArg some (by kernel_rfl))
  f298 := Tryz.func135.trans (congrArg some (by kernel_rfl))
  f299 := Tryz.func136.trans (congrArg some (by kernel_rfl))
  f300 := Tryz.func138.trans (congrArg some (by kernel_rfl))
  f301 := Tryz.func139.trans (congrArg some (by kernel_rfl))
  f328 := Tryz.func168.trans (congrArg some (by kernel_rfl))
  f329 := Tryz.func169.trans (congrArg some (by kernel_rfl))
  f330 := Tryz.func170.trans (congrArg some (by kernel_rfl))
  f331 := Tryz.func171.trans (congrArg some (by kernel_rfl))
  f332 := Tryz.func172.trans (congrArg some (by kernel_rfl))
  f343 := Tryz.func179.trans (congrArg some (by kernel_rfl))
  t0 := Tryz.underlying0
  a0 := Tryz.isAgg0
  z0 := Tryz.sizeOf0
  v0 := Tryz.zeroValue0
  t3 := Tryz.underlying3
  a3 := Tryz.isAgg3
  z3 := Tryz.sizeOf3
  v3 := Tryz.zeroValue3
  t4 := Tryz.underlying4
  a4 := Tryz.isAgg4
  z4 := Tryz.sizeOf4
  v4 := Tryz.zeroValue4
  t5 := Tryz.underlying5
  a5 := Tryz.isAgg5
  z5 := Tryz.sizeOf5
  v5 := Tryz.zeroValue5
  t9 := Tryz.underlying9
  a9 := Tryz.isAgg9
  z9 := Tryz.sizeOf9
  v9 := Tryz.zeroValue9
  t28 := Tryz.underlying22
  a28 := Tryz.isAgg22
  z28 := Tryz.sizeOf22
  v28 := Tryz.zeroValue22
  t46 := Tryz.underlying165
  a46 := Tryz.isAgg165
  z46 := Tryz.sizeOf165
  v46 := Tryz.zeroValue165
  t51 := Tryz.underlying208
  a51 := Tryz.isAgg208
  z51 := Tryz.sizeOf208
  v51 := Tryz.zeroValue208
  t53 := Tryz.underlying210
  a53 := Tryz.isAgg210
  z53 := Tryz.sizeOf210
  v53 := Tryz.zeroValue210
  t131 := Tryz.underlying197
  a131 := Tryz.isAgg197
  z131 := Tryz.sizeOf197
  v131 := Tryz.zeroValue197
  t182 := Tryz.underlying201
  a182 := Tryz.isAgg201
  z182 := Tryz.sizeOf201
  v182 := Tryz.zeroValue201
  t183 := Tryz.underlying202
  a183 := Tryz.isAgg202
  z183 := Tryz.sizeOf202
  v183 := Tryz.zeroValue202
  t218 := Tryz.underlying230
  a218 := Tryz.isAgg230
  z218 := Tryz.sizeOf230
  v218 := Tryz.zeroValue230
  t222 := Tryz.underlying234
  a222 := Tryz.isAgg234
  z222 := Tryz.sizeOf234
  v222 := Tryz.zeroValue234
  t228 := Tryz.underlying245
  a228 := Tryz.isAgg245
  z228 := Tryz.sizeOf245
  v228 := Tryz.zeroValue245
  t229 := Tryz.underlying167
  a229 := Tryz.isAgg167
  z229 := Tryz.sizeOf167
  v229 := Tryz.zeroValue167 }
def lays20_ren : Go.Shelf.Ren := ⟨fun | 20 => 48 | n => n, fun | 22 => 22 | 3 => 3 | 4 => 4 | 0 => 0 | n => n, fun | n => n⟩
theorem lays20 : Go.Proofs.Lays2.n20 Tryz.prog lays20_ren := {
  mixed := by kernel_rfl
  f20 := Tryz.func48.trans (congrArg some (by kernel_rfl))
  t0 := Tryz.underlying0
  a0 := Tryz.isAgg0
  z0 := Tryz.sizeOf0
  v0 := Tryz.zeroValue0
  t3 := Tryz.underlying3
  a3 := Tryz.isAgg3
  z3 := Tryz.sizeOf3
  v3 := Tryz.zeroValue3
  t4 := Tryz.underlying4
  a4 := Tryz.isAgg4
  z4 := Tryz.sizeOf4
  v4 := Tryz.zeroValue4
  t22 := Tryz.underlying22
  a22 := Tryz.isAgg22
  z22 := Tryz.sizeOf22
  v22 := Tryz.zeroValue22
  i3 := by kernel_rfl }
end Go.Proofs.YtnbogcpnpcbjgaaGreatDoor

namespace Go.Proofs.YtnbogcpnpcbjgaaGreatDoor
open Go.RowKit Go.SX
set_option maxRecDepth 20000
set_option maxHeartbeats 0
set_option linter.unusedSimpArgs false
set_option linter.unusedVariables false
theorem putRow_row {w : World} {b off n cp : Nat} {E : TypeId} {l d : List Int} (q : Nat) (os : Array Obj) (h : RowOk w (.slice (some ⟨b, off, none⟩) n cp) E 1 (ints l)) (hd : d.length = l.length) :
    Keep (fun k => k = b) w (Go.Sort.grow (Go.Sort.putRow (Value.int .i64) (Go.Sort.ahead w q) b off d.toArray) os) ∧ RowOk (Go.Sort.grow (Go.Sort.putRow (Value.int .i64) (Go.Sort.ahead w q) b off d.toArray) os) (.slice (some ⟨b, off, none⟩) n cp) E 1 (ints d) := by
  rcases h with ⟨h, _⟩ | ⟨b', off', len, cap, arr, hv, hb, hl, hlc, hcm, hsz, hx⟩
  · cases h
  cases hv
  have hblt := lt_of_heap hb
  have hln : l.length = n := by rw [cat_len i1_len] at hl; omega
  have hbl : (Go.Sort.grow (Go.Sort.putRow (Value.int .i64) (Go.Sort.ahead w q) b off d.toArray) os).heap = (w.heap.modify b (Go.Sort.onCells (Go.Sort.putCells (Value.int .i64) off d.toArray))) ++ os := rfl
  constructor
  · refine ⟨rfl, rfl, rfl, ?_, fun k hk hn => ?_⟩
    · rw [hbl, Array.size_append, Array.size_modify]
      omega
    · rw [hbl, Array.getElem?_append_left (by rw [Array.size_modify]; exact hk), Array.getElem?_modify, if_neg (fun e => hn e.symm)]
  · refine .inr ⟨b, off, n, cp, Go.Sort.putCells (Value.int .i64) off d.toArray arr, rfl, ?_, by rw [cat_len i1_len]; omega, hlc, hcm, ?_, ?_⟩
    · rw [hbl, Array.getElem?_append_left (by rw [Array.size_modify]; exact hblt), Array.getElem?_modify, if_pos rfl, hb]
      rfl
    · rw [Go.Sort.putCells, Array.size_mapIdx]
      exact hsz
    · refine List.ext_getElem? fun i => ?_
      rw [ints_get]
      by_cases hi : i < n
      · have h1 : off + i < arr.size := by omega
        rw [List.getElem?_take, if_pos (by omega), List.getElem?_drop, Array.getElem?_toList, Go.Sort.putCells, Array.getElem?_mapIdx, Array.getElem?_eq_getElem h1, Option.map_some, if_pos (by rw [List.size_toArray]; omega), show off + i - off = i by omega, List.getElem?_eq_getElem (by omega), Option.map_some]
        rw [getElem!_pos d.toArray i (by rw [List.size_toArray]; omega)]
        rfl
      · rw [List.getElem?_take, if_neg (by omega), List.getElem?_eq_none (by omega)]
        rfl
theorem row_holds {w : World} {b off n cp : Nat} {E : TypeId} {l : List Int} (h : RowOk w (.slice (some ⟨b, off, none⟩) n cp) E 1 (ints l)) : Go.Sort.Holds (Value.int .i64) w b off l.toArray ∧ b < w.heap.size ∧ n = l.length ∧ n ≤ cp ∧ l.length ≤ maxLen := by
  rcases h with ⟨h, _⟩ | ⟨b', off', len, cap, arr, hv, hb, hl, hlc, hcm, hsz, hx⟩
  · cases h
  cases hv
  have hln : n = l.length := by rw [cat_len i1_len] at hl; omega
  refine ⟨fun j hj => ⟨?_, ?_⟩, lt_of_heap hb, hln, hlc, by omega⟩
  · rw [List.size_toArray] at hj
    have h1 : (ints l)[j]? = some (I l[j]) := by rw [ints_get, List.getElem?_eq_getElem hj]; rfl
    rw [← hx, List.getElem?_take, if_pos (by omega), List.getElem?_drop, Array.getElem?_toList] at h1
    rw [World.cell?]
    simp only [hb, Option.isSome_none, Bool.false_eq_true, if_false]
    rw [h1, getElem!_pos l.toArray j (by rw [List.size_toArray]; exact hj)]
    rfl
  · rw [World.frozen?]
    simp [hb]
def leI (x y : Int) : Bool := decide (x ≤ y)
def srtL (l : List Int) : List Int := l.mergeSort leI
theorem own_row {w : World} {a : Option Addr} {n cp : Nat} {E : TypeId} {xs : List Value} (h : RowOk w (.slice a n cp) E 1 xs) : a = none ∧ n = 0 ∧ cp = 0 ∧ xs = [] ∨ ∃ b off, a = some ⟨b, off, none⟩ := by
  rcases h with ⟨h, h2⟩ | ⟨b, off, len, cap, arr, hv, _⟩
  · cases h
    exact .inl ⟨rfl, rfl, rfl, h2⟩
  · cases hv
    exact .inr ⟨b, off, rfl⟩
theorem sort_fn (w : World) (a : Option Addr) (n cp : Nat) (l : List Int) (hl : l.length ≤ 1000000) (hok : HO.ok w (.row (.slice a n cp) 3 1 (ints l))) :
    SX.Fn Tryz.prog 47 [.slice a n cp] w (fpsx [HO.row (.slice a n cp) 3 1 (ints l)]) fun q N => q = .tuple #[] ∧ HO.row (.slice a n cp) 3 1 (ints (srtL l)) ∈ N := by
  rcases own_row hok with ⟨rfl, rfl, rfl, hx⟩ | ⟨b, off, rfl⟩
  · have hl0 : l = [] := by
      cases l with
      | nil => rfl
      | cons x l => simp [cat, i1] at hx
    subst hl0
    have hs0 : ints (srtL []) = [] := by simp [srtL, cat]
    refine Calls.mono (calls_of_every_depth fun D => AnyS.slices_Sort_int_none_in lays189 D none 0 w) ?_
    rintro e w' ⟨rfl, rfl⟩
    exact ⟨_, [.row (.slice none 0 0) 3 1 (ints (srtL []))], rfl, Keep.refl _ _, fun h hh => (by rw [List.mem_singleton] at hh; subst hh; exact .inl ⟨rfl, hs0⟩), fun h hh b hb => (by rw [List.mem_singleton] at hh; subst hh; cases hb), List.pairwise_singleton _ _, rfl, by simp⟩
  · obtain ⟨h1, h2, h3, h4, h5⟩ := row_holds hok
    subst h3
    refine Calls.mono (calls_of_every_depth fun D => AnyS.slices_Sort_int_alone lays189 D b off cp l w h1 h2 (by omega)) ?_
    rintro e w' ⟨rfl, q, os, rfl⟩
    obtain ⟨k1, k2⟩ := putRow_row (d := srtL l) q os hok (List.length_mergeSort _)
    exact ⟨_, [.row (.slice (some ⟨b, off, none⟩) l.length cp) 3 1 (ints (srtL l))], rfl, k1.mono (fun k hk => ⟨_, List.mem_singleton.2 rfl, by subst hk; rfl⟩), fun h hh => by rw [List.mem_singleton] at hh; subst hh; exact k2, fun h hh b hb => by rw [List.mem_singleton] at hh; subst hh; exact .inl ⟨_, List.mem_singleton.2 rfl, hb⟩, List.pairwise_singleton _ _, rfl, by simp⟩
theorem compact_fn (w : World) (a : Option Addr) (n cp : Nat) (l : List Int) (hl : l.length ≤ 1000000) (hok : HO.ok w (.row (.slice a n cp) 3 1 (ints l))) :
    SX.Fn Tryz.prog 48 [.slice a n cp] w (fpsx [HO.row (.slice a n cp) 3 1 (ints l)]) fun q N => q = .slice a (Lib.compact l).length cp ∧ HO.row (.slice a (Lib.compact l).length cp) 3 1 (ints (Lib.compact l)) ∈ N := by
  rcases own_row hok with ⟨rfl, rfl, rfl, hx⟩ | ⟨b, off, rfl⟩
  · have hl0 : l = [] := by
      cases l with
      | nil => rfl
      | cons x l => simp [cat, i1] at hx
    subst hl0
    have hs0 : ints ([] : List Int) = [] := rfl
    refine Calls.mono (calls_of_every_depth fun D => AnyS.slices_Compact_int_empty_in lays20 D none 0 w) ?_
    rintro e w' ⟨rfl, rfl⟩
    exact ⟨_, [.row (.slice none 0 0) 3 1 (ints [])], rfl, Keep.refl _ _, fun h hh => (by rw [List.mem_singleton] at hh; subst hh; exact .inl ⟨rfl, hs0⟩), fun h hh b hb => (by rw [List.mem_singleton] at hh; subst hh; cases hb), List.pairwise_singleton _ _, rfl, List.mem_singleton.2 rfl⟩
  · obtain ⟨h1, h2, h3, h4, h5⟩ := row_holds hok
    subst h3
    refine Calls.mono (calls_of_every_depth fun D => AnyS.slices_Compact_int_in lays20 D b off cp l w h1 (by omega) h4) ?_
    have hcl : (Lib.compact l).length ≤ l.length := by
      unfold Lib.compact Lib.compactUpTo
      rw [List.length_map]
      refine Nat.le_trans (List.length_filter_le _ _) ?_
      rw [List.length_range]
      exact Nat.le_refl _
    rintro e w' ⟨rfl, q, rfl⟩
    obtain ⟨k1, k2⟩ := putRow_row (d := Lib.compact l ++ List.replicate (l.length - (Lib.compact l).length) 0) q #[] hok (by rw [List.length_append, List.length_replicate]; omega)
    rw [Go.Sort.grow_empty] at k1 k2
    have k3 : RowOk (Go.Sort.putRow (Value.int .i64) (Go.Sort.ahead w q) b off (Lib.compact l ++ List.replicate (l.length - (Lib.compact l).length) 0).toArray) (.slice (some ⟨b, off, none⟩) (Lib.compact l).length cp) 3 1 (ints (Lib.compact l)) := by
      rcases k2 with ⟨h, _⟩ | ⟨b', off', len, cap, arr, hv, hb, hl', hlc, hcm, hsz, hx⟩
      · cases h
      cases hv
      refine .inr ⟨b, off, _, cp, arr, rfl, hb, by rw [cat_len i1_len], by omega, hcm, hsz, ?_⟩
      have := congrArg (List.take (Lib.compact l).length) hx
      rw [List.take_take, Nat.mul_one, Nat.min_eq_left hcl] at this
      rw [Nat.mul_one, this]
      unfold ints
      rw [cat_append, List.take_append_of_le_length (by rw [cat_len i1_len]; omega), List.take_of_length_le (by rw [cat_len i1_len]; omega)]
    exact ⟨_, [.row (.slice (some ⟨b, off, none⟩) (Lib.compact l).length cp) 3 1 (ints (Lib.compact l))], rfl, k1.mono (fun k hk => ⟨_, List.mem_singleton.2 rfl, by subst hk; rfl⟩), fun h hh => by rw [List.mem_singleton] at hh; subst hh; exact k3, fun h hh b hb => by rw [List.mem_singleton] at hh; subst hh; exact .inl ⟨_, List.mem_singleton.2 rfl, hb⟩, List.pairwise_singleton _ _, rfl, List.mem_singleton.2 rfl⟩
end Go.Proofs.YtnbogcpnpcbjgaaGreatDoor

namespace Go.Proofs.YtnbogcpnpcbjgaaGreatDoor
open Go.RowKit Go.SX Go.WideMaps
set_option maxRecDepth 20000
set_option maxHeartbeats 0
set_option linter.unusedSimpArgs false
set_option linter.unusedVariables false
theorem stay_law : KeyLaw Tryz.prog 116 := deep_law (m := 2) (by omega) (by kernel_rfl) (by kernel_rfl) (by kernel_rfl)
theorem stay_key {a b c : Int} (ha : -10000 ≤ a ∧ a ≤ 10000) (hb : -10000 ≤ b ∧ b ≤ 10000) (hc : -10000 ≤ c ∧ c ≤ 10000) : ∃ l, keyOf Tryz.prog 116 (.agg #[I a, I b, I c]) = some l := by
  have hu := Tryz.underlying116
  have h3 := Tryz.underlying3
  have k1 : Tryz.prog.keyType 116 = true := by kernel_rfl
  have k2 : (Value.agg #[I a, I b, I c]).formed Tryz.prog 116 = true := by kernel_rfl
  have k3 : Tryz.prog.cellsOf 116 = 3 := by kernel_rfl
  have k4 : Tryz.prog.cellsOf 3 = 1 := by kernel_rfl
  obtain ⟨m, hm⟩ := types_pos
  have hint : ∀ x : Int, -10000 ≤ x ∧ x ≤ 10000 → Tryz.prog.keyLits (m + 1) 3 [I x] = some [.int .i64 x] := fun x hx => by
    unfold Program.keyLits
    simp only [h3]
    rw [if_pos ⟨trivial, wf_small hx⟩]
  have hl : Tryz.prog.keyLits (m + 1 + 1) 116 [I a, I b, I c] = some [.int .i64 a, .int .i64 b, .int .i64 c] := by
    unfold Program.keyLits
    simp only [hu]
    rw [if_pos ⟨by rw [k3]; rfl, by kernel_rfl⟩]
    simp [k4, hint a ha, hint b hb, hint c hc]
  refine ⟨.string (keyBytes [.int .i64 a, .int .i64 b, .int .i64 c]), ?_⟩
  unfold keyOf
  simp only [hu]
  rw [if_pos (by rw [k1, k2]; rfl), hm, show (Value.agg #[I a, I b, I c]).cells.toList = [I a, I b, I c] from rfl, hl]
  rfl
theorem steps_map : Tryz.prog.underlying 184 = some (.map 116 22) := by kernel_rfl
theorem zero_ints (w : World) : (zeroValue 22).run Tryz.prog w = .ok (.slice none 0 0) w := Tryz.zeroValue22 w
def seedL (d : Drf) (cur wnd : Psh) (t : Nat) (h : Int) (k lw : Nat) : List Int := (pshL d.c t h k cur id).flatMap fun by_ => if by_ = -1 then [-1] else pshL d.c t h by_.toNat wnd (fun f => f * lw / 4)
def stpH (d : Drf) (cur wnd : Psh) (t k lw : Nat) (l : List Int) (h : Int) : List Int := if dryB d.c k t h then l ++ [(k : Int)] else Lib.compact (srtL (l ++ seedL d cur wnd t h k lw))
def stpN (d : Drf) (cur wnd : Psh) (t k lw : Nat) (lo : Int) : Nat → List Int
  | 0 => []
  | n + 1 => stpH d cur wnd t k lw (stpN d cur wnd t k lw lo n) (lo + n)
def stpA (d : Drf) (cur wnd : Psh) (t k lw : Nat) (lo hi : Int) : List Int := Lib.compact (srtL (stpN d cur wnd t k lw lo (hi - lo + 1).toNat))
theorem pshD_len (c : Cht) (t : Nat) (h : Int) (k : Nat) (p : Psh) (hp : p.ok) (fn : Nat → Nat) (d : Nat) : (pshD c t h k p fn d).length ≤ 4 := by
  obtain ⟨_, h1, h2, h3⟩ := hp
  unfold pshD
  split
  · rw [List.length_map, List.length_range']
    omega
  · simp
theorem pshL_len (c : Cht) (t : Nat) (h : Int) (k : Nat) (p : Psh) (hp : p.ok) (fn : Nat → Nat) : (pshL c t h k p fn).length ≤ 24 := by
  have h1 := fun d => pshD_len c t h k p hp fn d
  unfold pshL pshR
  rw [show List.range' 0 (6 - 0) = [0, 1, 2, 3, 4, 5] from rfl]
  simp only [List.flatMap_cons, List.flatMap_nil, List.length_append, List.length_nil]
  have := h1 0
  have := h1 1
  have := h1 2
  have := h1 3
  have := h1 4
  have := h1 5
  omega
theorem pshN_in {c : Cht} (hok : c.ok) {t : Nat} {h : Int} {dir : Nat} : ∀ (s k : Nat), k < c.depth.length → pshN c t h dir s k = -1 ∨ ∃ y : Nat, pshN c t h dir s k = y ∧ y < c.depth.length
  | 0, k, hk => .inr ⟨k, rfl, hk⟩
  | s + 1, k, hk => by
    rw [pshN]
    cases hb : bes c.W c.H k dir with
    | none => exact .inl rfl
    | some y =>
      have hy := bes_in hok hk hb
      simp only []
      split
      · exact .inr ⟨k, rfl, hk⟩
      · exact pshN_in hok s y hy
theorem mem_pshL {c : Cht} {t : Nat} {h : Int} {k : Nat} {p : Psh} {fn : Nat → Nat} {x : Int} (hx : x ∈ pshL c t h k p fn) : ∃ d f : Nat, d < 6 ∧ p.low.toNat ≤ f ∧ f < p.low.toNat + (p.high.toNat + 1 - p.low.toNat) ∧ x = pshN c t h d (fn f) k := by
  unfold pshL pshR at hx
  obtain ⟨d, hd, hx⟩ := List.mem_flatMap.1 hx
  rw [List.mem_range'_1] at hd
  unfold pshD at hx
  split at hx
  · obtain ⟨f, hf, rfl⟩ := List.mem_map.1 hx
    rw [List.mem_range'_1] at hf
    exact ⟨d, f, by omega, hf.1, hf.2, rfl⟩
  · cases hx
theorem seedL_len (d : Drf) (cur wnd : Psh) (hc : cur.ok) (hw : wnd.ok) (t : Nat) (h : Int) (k lw : Nat) : (seedL d cur wnd t h k lw).length ≤ 24 * 24 := by
  unfold seedL
  have h1 := pshL_len d.c t h k cur hc id
  have : ∀ l : List Int, (l.flatMap fun by_ => if by_ = -1 then [-1] else pshL d.c t h by_.toNat wnd (fun f => f * lw / 4)).length ≤ l.length * 24 := fun l => by
    induction l with
    | nil => simp
    | cons x l ih =>
      rw [List.flatMap_cons, List.length_append, List.length_cons]
      have : (if x = -1 then [-1] else pshL d.c t h x.toNat wnd (fun f => f * lw / 4)).length ≤ 24 := by
        split
        · simp
        · exact pshL_len _ _ _ _ _ hw _
      omega
  have := this (pshL d.c t h k cur id)
  omega
theorem compact_le (l : List Int) : (Lib.compact l).length ≤ l.length := by
  unfold Lib.compact Lib.compactUpTo
  rw [List.length_map]
  refine Nat.le_trans (List.length_filter_le _ _) ?_
  rw [List.length_range]
  exact Nat.le_refl _
theorem srt_len (l : List Int) : (srtL l).length = l.length := List.length_mergeSort _
theorem stpN_len (d : Drf) (cur wnd : Psh) (hc : cur.ok) (hw : wnd.ok) (t k lw : Nat) (lo : Int) : ∀ n, (stpN d cur wnd t k lw lo n).length ≤ 576 * n
  | 0 => Nat.le_refl _
  | n + 1 => by
    have ih := stpN_len d cur wnd hc hw t k lw lo n
    rw [stpN, stpH]
    split
    · rw [List.length_append, List.length_singleton]
      omega
    · refine Nat.le_trans (compact_le _) ?_
      rw [srt_len, List.length_append]
      have := seedL_len d cur wnd hc hw t (lo + n) k lw
      omega
end Go.Proofs.YtnbogcpnpcbjgaaGreatDoor

namespace Go.Proofs.YtnbogcpnpcbjgaaGreatDoor
open Go.RowKit Go.SX Go.WideMaps
set_option maxRecDepth 20000
set_option maxHeartbeats 0
set_option linter.unusedSimpArgs false
set_option linter.unusedVariables false
def Maps (w : World) (X : Nat → Prop) : Prop := ∀ b, X b → ∃ es ck, w.heap[b]? = some (.map es ck)
theorem Maps.not {w : World} {X : Nat → Prop} (hX : Maps w X) {a : Addr} {x : Value} (h : w.cell? a = some x) : ¬ X a.block := fun hb => by
  obtain ⟨es, ck, hm⟩ := hX _ hb
  simp [World.cell?, hm] at h
theorem Maps.cell {w w' : World} {X : Nat → Prop} (hX : Maps w X) (hk : Keep X w w') {a : Addr} {x : Value} (h : w.cell? a = some x) : w'.cell? a = some x := by
  rw [World.cell?_of_block (w := w) (hk.block _ (World.block_lt_of_cell? w _ h) (hX.not h))]
  exact h
theorem Maps.sl {w w' : World} {X : Nat → Prop} (hX : Maps w X) (hk : Keep X w w') {v : Value} {sz : Nat} {xs : List Value} (h : Sl w v sz xs) : Sl w' v sz xs := by
  obtain ⟨a, len, cap, rfl, hl, hc⟩ := h
  refine ⟨a, len, cap, rfl, hl, fun i x hx => ?_⟩
  obtain ⟨ad, ha, hcell⟩ := hc i x hx
  exact ⟨ad, ha, hX.cell hk hcell⟩
theorem Maps.rdv {w : World} {X : Nat → Prop} (hX : Maps w X) {v : Value} {sz : Nat} {xs : List Value} (h : Sl w v sz xs) (H : List HO) : Rdv ⟨w, X⟩ H v sz xs := by
  obtain ⟨a, len, cap, rfl, hl, hc⟩ := h
  refine ⟨a, len, cap, rfl, hl, fun i x hx => ?_⟩
  obtain ⟨ad, ha, hcell⟩ := hc i x hx
  exact ⟨ad, ha, .inl ⟨hcell, hX.not hcell⟩⟩
theorem Maps.ways {w w' : World} {X : Nat → Prop} (hX : Maps w X) (hk : Keep X w w') (h : Ways w) : Ways w' := fun i v hi => hX.cell hk (h i v hi)
theorem Maps.sd {w w' : World} {X : Nat → Prop} (hX : Maps w X) (hk : Keep X w w') {bs mn ms : Nat} {d : Drf} {sD sT sS vZ vC vW : Value} (h : SdC w bs mn ms d sD sT sS vZ vC vW) : SdC w' bs mn ms d sD sT sS vZ vC vW := by
  refine ⟨fun i v hi => hX.cell hk (h.cel i v hi), ?_⟩
  obtain ⟨sD', sT', sS', rfl', hD, hT, hS⟩ := h.ch
  exact ⟨_, _, _, rfl', hX.sl hk hD, hX.sl hk hT, hX.sl hk hS⟩
theorem CuOk.at {w : World} {v : Value} {cs : List (List Psh)} (h : CuOk w v cs) : ∃ (ps : List Cs) (a : Option Addr) (cp : Nat), v = .slice a cs.length cp ∧ ps.length = cs.length ∧ Sl w (.slice a cs.length cp) 1 (cat csc ps) ∧ ∀ (i : Nat) x, cs[i]? = some x → ∃ a2 c2, ps[i]? = some (x, a2, x.length, c2) ∧ Sl w (.slice a2 x.length c2) 3 (cat psc x) := by
  obtain ⟨ps, h1, h2, h3⟩ := h
  obtain ⟨a, n, cp, rfl⟩ := h2.shape
  have hn := h2.le csc_len (by omega)
  have hl : ps.length = cs.length := by rw [← h1, List.length_map]
  refine ⟨ps, a, cp, by rw [← hl, hn], hl, by rw [← hl, hn]; exact h2, fun i x hx => ?_⟩
  rw [← h1, List.getElem?_map, Option.map_eq_some_iff] at hx
  obtain ⟨⟨l, a2, n2, c2⟩, hp, rfl⟩ := hx
  have hs := h3 _ (List.mem_of_getElem? hp)
  have hn2 : n2 = l.length := (hs.le psc_len (by omega)).symm
  subst hn2
  exact ⟨a2, c2, hp, hs⟩
theorem range_introSA {P : Program} {w0 : Base} {Ba Bb : XSt → St} {gf : Nat} {first cap : Array Value} {ps : List Tmp} {Q : XSt} {fr : List SV} {L : List Box} {H : List HO} (NS : List HO → Prop) (hNS : Shared NS) (hT : CallT P gf) (n : Nat) (arg : Nat → List Value → List HO → Prop) (A Hc : List HO) (I : Nat → List Box → List HO → Prop) (Rs : Nat → Prop)
    (hdec : ∀ k L H, I k L H → ∃ S B, NS S ∧ H = S ++ B ∧ ∀ S', NS S' → I k L (S' ++ B))
    (hi : HImp w0 H (A ++ Hc)) (hRs : ∀ b, Rs b → (b < w0.w.heap.size ∧ ¬ w0.X b) ∨ fpsx A b) (hit : ∀ w, Hp w0 (A ++ Hc) w → IterS P gf first.toList cap.toList n arg (fun _ => False) Rs NS w) (h0 : I 0 L Hc) (hl : ∀ k vs F, arg k vs F → vs.length = ps.length)
    (hstep : ∀ k vs F L' H', k < n → arg k vs F → L'.length = L.length → I k L' H' → SX.Hid (Ba (assignQ fun fr2 L2 H2 => Bb (rangeQ w0 L.length (I (k + 1)) Q fr) fr2 L2 H2) (setPs fr ps vs) L' (F ++ H')))
    (hend : ∀ L' H', L'.length = L.length → I n L' H' → SX.Hid (Q .nxt fr L' H')) : RangeOb P w0 Ba Bb (.v (.func (.func gf) first cap)) ps Q fr L H :=
  ⟨hT, n, arg, A, Hc, I, fun _ => False, Rs, NS, hNS, hdec, hi, fun _ h => h.elim, hRs, hit, h0, hl, fun k vs F L' H' h1 h2 h3 h4 => (hstep k vs F L' H' h1 h2 h3 h4).get, fun L' H' h1 h2 => (hend L' H' h1 h2).get⟩
structure PusC (w : World) (bs k : Nat) (p : Psh) (vf : Value) (t : Nat) (h : Int) (b1 b2 b3 b4 b5 b6 : Nat) : Prop where
  h1 : ∀ i v, (psc p)[i]? = some v → w.cell? ⟨b1, i, none⟩ = some v
  h2 : w.cell? ⟨b2, 0, none⟩ = some (.pointer (some ⟨bs, 0, none⟩))
  h3 : w.cell? ⟨b3, 0, none⟩ = some (I k)
  h4 : w.cell? ⟨b4, 0, none⟩ = some vf
  h5 : w.cell? ⟨b5, 0, none⟩ = some (I t)
  h6 : w.cell? ⟨b6, 0, none⟩ = some (I h)
def six (b1 b2 b3 b4 b5 b6 b : Nat) : Prop := b = b1 ∨ b = b2 ∨ b = b3 ∨ b = b4 ∨ b = b5 ∨ b = b6
theorem PusC.lt {w : World} {bs k : Nat} {p : Psh} {vf : Value} {t : Nat} {h : Int} {b1 b2 b3 b4 b5 b6 : Nat} (c : PusC w bs k p vf t h b1 b2 b3 b4 b5 b6) : ∀ b, six b1 b2 b3 b4 b5 b6 b → b < w.heap.size := by
  rintro b (rfl | rfl | rfl | rfl | rfl | rfl)
  · exact World.block_lt_of_cell? w _ (c.h1 0 _ rfl)
  · exact World.block_lt_of_cell? w _ c.h2
  · exact World.block_lt_of_cell? w _ c.h3
  · exact World.block_lt_of_cell? w _ c.h4
  · exact World.block_lt_of_cell? w _ c.h5
  · exact World.block_lt_of_cell? w _ c.h6
theorem PusC.keep {w w' : World} {X : Nat → Prop} {bs k : Nat} {p : Psh} {vf : Value} {t : Nat} {h : Int} {b1 b2 b3 b4 b5 b6 : Nat} (c : PusC w bs k p vf t h b1 b2 b3 b4 b5 b6) (hk : Keep X w w') (hX : ∀ b, six b1 b2 b3 b4 b5 b6 b → ¬ X b) : PusC w' bs k p vf t h b1 b2 b3 b4 b5 b6 := by
  have key : ∀ b o v, six b1 b2 b3 b4 b5 b6 b → w.cell? ⟨b, o, none⟩ = some v → w'.cell? ⟨b, o, none⟩ = some v := fun b o v hb hc => (World.cell?_of_block (w := w) (hk.block b (World.block_lt_of_cell? w _ hc) (hX b hb))).trans hc
  exact ⟨fun i v hv => key _ _ _ (by simp [six]) (c.h1 i v hv), key _ _ _ (by simp [six]) c.h2, key _ _ _ (by simp [six]) c.h3, key _ _ _ (by simp [six]) c.h4, key _ _ _ (by simp [six]) c.h5, key _ _ _ (by simp [six]) c.h6⟩
theorem PusC.of {w0 : Base} {H : List HO} {w : World} {bs k : Nat} {p : Psh} {vf : Value} {t : Nat} {h : Int} {b1 b2 b3 b4 b5 b6 : Nat} (hp : Hp w0 H w) (hm : ∀ x ∈ pus6 bs k p vf t h b1 b2 b3 b4 b5 b6, x ∈ H) : PusC w bs k p vf t h b1 b2 b3 b4 b5 b6 := by
  have key : ∀ b T (cs : List Value), HO.cells b T cs ∈ H → ∀ o v, cs[o]? = some v → w.cell? ⟨b, o, none⟩ = some v := fun b T cs hm o v hv => by
    rw [cell_of_cells (hp.ok _ hm)]
    simpa using hv
  exact ⟨fun i v hv => key _ _ _ (hm (.cells b1 139 (psc p)) (by simp [pus6])) i v hv, key _ _ _ (hm (.cells b2 108 [.pointer (some ⟨bs, 0, none⟩)]) (by simp [pus6])) 0 _ rfl, key _ _ _ (hm (.cells b3 3 [I k]) (by simp [pus6])) 0 _ rfl, key _ _ _ (hm (.cells b4 107 [vf]) (by simp [pus6])) 0 _ rfl, key _ _ _ (hm (.cells b5 3 [I t]) (by simp [pus6])) 0 _ rfl, key _ _ _ (hm (.cells b6 3 [I h]) (by simp [pus6])) 0 _ rfl⟩
def pusR (w : World) (bs : Nat) (sD sT sS : Value) (R : Nat → Prop) (b1 b2 b3 b4 b5 b6 : Nat) : Nat → Prop := fun b => b = b1 ∨ b = b2 ∨ b = b3 ∨ b = b4 ∨ b = b5 ∨ b = b6 ∨ sdR w bs sD sT sS b ∨ R b
theorem sdR_lt {w : World} (hw : Ways w) {bs mn ms : Nat} {d : Drf} {sD sT sS vZ vC vW : Value} (h : SdC w bs mn ms d sD sT sS vZ vC vW) : ∀ b, sdR w bs sD sT sS b → b < w.heap.size := by
  rintro b (rfl | rfl | hb | hb | hb)
  · exact World.block_lt_of_cell? w _ (h.cel 0 _ rfl)
  · exact World.block_lt_of_cell? w _ (hw 0 _ rfl)
  · exact hb.2
  · exact hb.2
  · exact hb.2
theorem himp_next (w0 : Base) (c' row c x o : HO) (N S1 : List HO) : HImp w0 (c' :: row :: (N ++ (S1 ++ [c, x, o]))) (S1 ++ [row, c', x, o]) := by
  refine (HImp.sub (H' := c' :: row :: (S1 ++ [x, o])) ?_).trans (HImp.perm ?_)
  · refine List.Sublist.cons_cons _ (List.Sublist.cons_cons _ (List.Sublist.trans ?_ (List.sublist_append_right _ _)))
    exact List.Sublist.append (List.Sublist.refl _) (List.sublist_cons_self _ _)
  · exact (List.Perm.swap _ _ _).trans (List.perm_append_comm_assoc [row, c'] S1 [x, o])
theorem Sl.notX {w : World} {X : Nat → Prop} (hX : Maps w X) {v : Value} {sz : Nat} {xs : List Value} (h : Sl w v sz xs) (hne : 0 < xs.length) {b : Nat} (hb : v.ownBlock = some b) : ¬ X b := by
  obtain ⟨a, len, cap, rfl, hl, hc⟩ := h
  obtain ⟨ad, ha, hc'⟩ := hc 0 xs[0] (List.getElem?_eq_getElem hne)
  subst ha
  have hb' : b = ad.block := by
    obtain ⟨bl, off, sp⟩ := ad
    cases sp with
    | none => simp [Value.ownBlock] at hb; exact hb.symm
    | some _ => simp [Value.ownBlock] at hb; try exact hb.symm
  have := hX.not hc'
  rw [hb']
  exact this
theorem sd_pos {w : World} {bs mn ms : Nat} {d : Drf} {sD sT sS vZ vC vW : Value} (h : SdC w bs mn ms d sD sT sS vZ vC vW) (hok : d.c.ok) : (∃ sz xs, Sl w sD sz xs ∧ 0 < xs.length) ∧ (∃ sz xs, Sl w sT sz xs ∧ 0 < xs.length) ∧ ∃ sz xs, Sl w sS sz xs ∧ 0 < xs.length := by
  obtain ⟨sD', sT', sS', he, hD, hT, hS⟩ := h.ch
  injection he with he
  injection he with he
  simp only [List.cons.injEq, true_and, and_true] at he
  obtain ⟨rfl, rfl, rfl⟩ := he
  obtain ⟨_, _, hW, hH, hlen⟩ := hok.dims
  have h1 : 1 ≤ d.c.depth.length := by rw [hlen]; exact Nat.mul_le_mul hW.1 hH.1
  have hT1 := hok.2.2.2.1
  have hS1 := hok.2.2.2.2.1
  exact ⟨⟨_, _, hD, by rw [cat_len i1_len]; omega⟩, ⟨_, _, hT, by rw [cat_len spc_len]; omega⟩, _, _, hS, by rw [cat_len i1_len]; omega⟩
theorem sdR_not {w : World} (hw : Ways w) {X : Nat → Prop} (hX : Maps w X) {bs mn ms : Nat} {d : Drf} {sD sT sS vZ vC vW : Value} (h : SdC w bs mn ms d sD sT sS vZ vC vW) (hok : d.c.ok) : ∀ b, sdR w bs sD sT sS b → ¬ X b := by
  obtain ⟨⟨_, _, hD, hd⟩, ⟨_, _, hT, ht⟩, _, _, hS, hs⟩ := sd_pos h hok
  rintro b (rfl | rfl | hb | hb | hb)
  · exact hX.not (h.cel 0 _ rfl)
  · exact hX.not (hw 0 _ rfl)
  · exact Sl.notX hX hD hd hb.1
  · exact Sl.notX hX hT ht hb.1
  · exact Sl.notX hX hS hs hb.1
theorem sdR_back {w w' : World} {bs mn ms : Nat} {d : Drf} {sD sT sS vZ vC vW : Value} (h : SdC w bs mn ms d sD sT sS vZ vC vW) (hok : d.c.ok) : ∀ b, sdR w' bs sD sT sS b → sdR w bs sD sT sS b := by
  obtain ⟨⟨_, _, hD, hd⟩, ⟨_, _, hT, ht⟩, _, _, hS, hs⟩ := sd_pos h hok
  rintro b (rfl | rfl | hb | hb | hb)
  · exact .inl rfl
  · exact .inr (.inl rfl)
  · exact .inr (.inr (.inl (hD.rsl hd hb)))
  · exact .inr (.inr (.inr (.inl (hT.rsl ht hb))))
  · exact .inr (.inr (.inr (.inr (hS.rsl hs hb))))
theorem IterS.mono {P : Program} {gf n : Nat} {pre post : List Value} {arg : Nat → List Value → List HO → Prop} {A Rs Rs' : Nat → Prop} {NS : List HO → Prop} {w : World} (h : IterS P gf pre post n arg A Rs NS w) (hR : ∀ b, Rs b → Rs' b) : IterS P gf pre post n arg A Rs' NS w := fun l J C R h1 h2 h3 h4 h5 => h l J C R h1 h2 h3 (fun b hb => h4 b (hR b hb)) h5
theorem pushes_it2 {w0 : World} (hw : Ways w0) {bs mn ms : Nat} {d : Drf} {sD sT sS vZ vC vW : Value} (hs : SdC w0 bs mn ms d sD sT sS vZ vC vW) (hok : d.c.ok) {X : Nat → Prop} (hX : Maps w0 X) {w : World} (hk0 : Keep X w0 w) {k : Nat} (hk : k < d.c.depth.length) {p : Psh} (hp : p.ok) {t : Nat} (ht : t < d.c.tide.length) {h : Int} (hh : -10000 ≤ h ∧ h ≤ 10000) {vf : Value} {fn : Nat → Nat} {R : Nat → Prop} (hvf : StpOk w vf fn R) (hfn : ∀ f, f ≤ 3 → fn f ≤ 10000) {b1 b2 b3 b4 b5 b6 : Nat} (c6 : PusC w bs k p vf t h b1 b2 b3 b4 b5 b6) :
    IterS Tryz.prog 163 [] [.pointer (some ⟨b1, 0, none⟩), .pointer (some ⟨b2, 0, none⟩), .pointer (some ⟨b3, 0, none⟩), .pointer (some ⟨b4, 0, none⟩), .pointer (some ⟨b5, 0, none⟩), .pointer (some ⟨b6, 0, none⟩)] (pshL d.c t h k p fn).length (intArg (pshL d.c t h k p fn)) (fun _ => False) (pusR w0 bs sD sT sS R b1 b2 b3 b4 b5 b6) (NrS d.c mn) w :=
  IterS.mono (pushes_it w (hX.ways hk0 hw) bs mn ms d sD sT sS vZ vC vW (hX.sd hk0 hs) hok k hk p hp t ht h hh vf fn R hvf hfn b1 b2 b3 b4 b5 b6 c6.h1 c6.h2 c6.h3 c6.h4 c6.h5 c6.h6) fun b hb => by
    rcases hb with h | h | h | h | h | h | h | h
    · exact .inl h
    · exact .inr (.inl h)
    · exact .inr (.inr (.inl h))
    · exact .inr (.inr (.inr (.inl h)))
    · exact .inr (.inr (.inr (.inr (.inl h))))
    · exact .inr (.inr (.inr (.inr (.inr (.inl h)))))
    · exact .inr (.inr (.inr (.inr (.inr (.inr (.inl (sdR_back hs hok b h)))))))
    · exact .inr (.inr (.inr (.inr (.inr (.inr (.inr h))))))
def lwyF (b : Nat) : Value := .func (.func 111) #[] #[.pointer (some ⟨b, 0, none⟩)]
theorem app_push {w : World} {X0 : Nat → Prop} (hX : Maps w X0) (hw : Ways w) {bs mn ms : Nat} {d : Drf} {sD sT sS vZ vC vW : Value} (hs : SdC w bs mn ms d sD sT sS vZ vC vW) (hok : d.c.ok) {y : Nat} (hy : y < d.c.depth.length) {t : Nat} (ht : t < d.c.tide.length) {h : Int} (hh : -10000 ≤ h ∧ h ≤ 10000) {wnd : Psh} (hwo : wnd.ok) {lw : Nat} (hlw : lw ≤ 8)
    {S' : List HO} (hS' : NrS d.c mn S') {a : Option Addr} {n cp : Nat} {l : List Int} (hn : n = l.length) (hl : l.length ≤ 900000) {B : List HO} {w' : World} (hp : Hp ⟨w, X0⟩ ((HO.row (.slice a n cp) 3 1 (ints l) :: S') ++ B) w') {bx k : Nat} {b1 b2 b3 b4 b5 b6 : Nat} (h6 : ∀ x ∈ pus6 bs y wnd (lwyF bx) t h b1 b2 b3 b4 b5 b6, x ∈ B) (hx : HO.cells bx 116 [I k, I t, I lw] ∈ B) :
    SX.Fn Tryz.prog 114 [.slice a n cp, .func (.func 163) #[] #[.pointer (some ⟨b1, 0, none⟩), .pointer (some ⟨b2, 0, none⟩), .pointer (some ⟨b3, 0, none⟩), .pointer (some ⟨b4, 0, none⟩), .pointer (some ⟨b5, 0, none⟩), .pointer (some ⟨b6, 0, none⟩)]] w' (fpsx (HO.row (.slice a n cp) 3 1 (ints l) :: S')) (RowP d.c mn (l ++ pshL d.c t h y wnd fun f => f * lw / 4)) := by
  have hnd := List.pairwise_append.1 hp.nd
  have c6 : PusC w' bs y wnd (lwyF bx) t h b1 b2 b3 b4 b5 b6 := PusC.of hp fun x hx => List.mem_append_right _ (h6 x hx)
  have hcx : w'.cell? ⟨bx, 2, none⟩ = some (I lw) := by
    rw [cell_of_cells (hp.ok _ (List.mem_append_right _ hx))]
    rfl
  have hBn : ∀ g ∈ B, ∀ b, g.fp b → ¬ fpsx (HO.row (.slice a n cp) 3 1 (ints l) :: S') b := fun g hg b hb ⟨x, hx, hxb⟩ => (hnd.2.2 x hx g hg b (HO.fp_of_fpx hxb) hb).1 hxb
  have h6n : ∀ b, six b1 b2 b3 b4 b5 b6 b → ¬ fpsx (HO.row (.slice a n cp) 3 1 (ints l) :: S') b := by
    rintro b (rfl | rfl | rfl | rfl | rfl | rfl)
    · exact hBn (.cells b 139 (psc wnd)) (h6 _ (by simp [pus6])) _ rfl
    · exact hBn (.cells b 108 [.pointer (some ⟨bs, 0, none⟩)]) (h6 _ (by simp [pus6])) _ rfl
    · exact hBn (.cells b 3 [I y]) (h6 _ (by simp [pus6])) _ rfl
    · exact hBn (.cells b 107 [lwyF bx]) (h6 _ (by simp [pus6])) _ rfl
    · exact hBn (.cells b 3 [I t]) (h6 _ (by simp [pus6])) _ rfl
    · exact hBn (.cells b 3 [I h]) (h6 _ (by simp [pus6])) _ rfl
  have hxn := hBn _ hx bx rfl
  have hsn : ∀ b, sdR w bs sD sT sS b → ¬ fpsx (HO.row (.slice a n cp) 3 1 (ints l) :: S') b := fun b hb ⟨x, hx, hxb⟩ => by
    rcases hp.old x (List.mem_append_left _ hx) b hxb with h | h
    · exact sdR_not hw hX hs hok b hb h
    · have := sdR_lt hw hs b hb
      simp only [] at h
      omega
  have hsz := hp.ext.size
  simp only [] at hsz
  have hRs : ∀ b, pusR w bs sD sT sS (fun x => x = bx) b1 b2 b3 b4 b5 b6 b → b < w'.heap.size ∧ ¬ fpsx (HO.row (.slice a n cp) 3 1 (ints l) :: S') b := fun b hb => by
    have key : six b1 b2 b3 b4 b5 b6 b ∨ sdR w bs sD sT sS b ∨ b = bx := by
      rcases hb with h | h | h | h | h | h | h | h
      · exact .inl (.inl h)
      · exact .inl (.inr (.inl h))
      · exact .inl (.inr (.inr (.inl h)))
      · exact .inl (.inr (.inr (.inr (.inl h))))
      · exact .inl (.inr (.inr (.inr (.inr (.inl h)))))
      · exact .inl (.inr (.inr (.inr (.inr (.inr h)))))
      · exact .inr (.inl h)
      · exact .inr (.inr h)
    rcases key with h | h | rfl
    · exact ⟨c6.lt b h, h6n b h⟩
    · exact ⟨Nat.lt_of_lt_of_le (sdR_lt hw hs b h) hsz, hsn b h⟩
    · exact ⟨World.block_lt_of_cell? w' _ hcx, hxn⟩
  refine appendSeq_fn w' d.c mn S' hS' a n cp l _ hn (by have := pshL_len d.c t h y wnd hwo (fun f => f * lw / 4); omega) (fun x hx => hp.ok x (List.mem_append_left _ hx)) hnd.1 _ Tryz.call163 _ _ _ rfl hRs fun w2 hk2 => ?_
  have hk02 : Keep X0 w w2 := hk2.into hp.ext fun b ⟨x, hx, hxb⟩ => hp.old x (List.mem_append_left _ hx) b hxb
  have hcx2 : w2.cell? ⟨bx, 2, none⟩ = some (I lw) := (World.cell?_of_block (w := w') (hk2.block bx (World.block_lt_of_cell? w' _ hcx) hxn)).trans hcx
  exact pushes_it2 hw hs hok hX hk02 hy hwo ht hh (stpL w2 bx lw hlw hcx2) (fun f hf => by
    have h1 : f * lw ≤ 3 * 8 := Nat.mul_le_mul hf hlw
    have h2 : f * lw / 4 ≤ f * lw := Nat.div_le_self _ _
    omega) (c6.keep hk2 h6n)
theorem seeds_pack (d : Drf) (cur wnd : Psh) (hok : d.c.ok) (hco : cur.ok) (hwo : wnd.ok) (t : Nat) (h : Int) (k lw : Nat) (hk : k < d.c.depth.length) : ∃ (L : List Int) (G : Int → List Int) (SD : Nat → List Int), pshL d.c t h k cur id = L ∧ (∀ (j : Nat) (x : Int), L[j]? = some x → x = -1 ∨ ∃ y : Nat, x = y ∧ y < d.c.depth.length) ∧ G (-1) = [-1] ∧ (∀ y : Nat, (pshL d.c t h y wnd fun f => f * lw / 4) = G y) ∧ SD 0 = [] ∧ (∀ (j : Nat) (x : Int), L[j]? = some x → SD (j + 1) = SD j ++ G x) ∧ SD L.length = seedL d cur wnd t h k lw ∧ ∀ j, j ≤ L.length → (SD j).length ≤ 576 := by
  refine ⟨_, fun by_ : Int => if by_ = -1 then [-1] else pshL d.c t h by_.toNat wnd (fun f => f * lw / 4), fun j => ((pshL d.c t h k cur id).take j).flatMap fun by_ : Int => if by_ = -1 then [-1] else pshL d.c t h by_.toNat wnd (fun f => f * lw / 4), rfl, fun j x hx => ?_, rfl, fun y => ?_, rfl, fun j x hx => ?_, ?_, fun j hj => ?_⟩
  · obtain ⟨e, f, _, _, _, rfl⟩ := mem_pshL (List.mem_of_getElem? hx)
    exact pshN_in hok _ _ hk
  · show _ = if ((y : Nat) : Int) = -1 then _ else _
    rw [if_neg (by omega)]
    rfl
  · simp only []
    rw [List.take_add_one, hx, List.flatMap_append]
    simp
  · simp only [List.take_length]
    rfl
  · have h1 := pshL_len d.c t h k cur hco id
    have : ∀ l : List Int, (l.flatMap fun by_ => if by_ = -1 then [-1] else pshL d.c t h by_.toNat wnd (fun f => f * lw / 4)).length ≤ l.length * 24 := fun l => by
      induction l with
      | nil => simp
      | cons x l ih =>
        rw [List.flatMap_cons, List.length_append, List.length_cons]
        have : (if x = -1 then [-1] else pshL d.c t h x.toNat wnd (fun f => f * lw / 4)).length ≤ 24 := by
          split
          · simp
          · exact pshL_len _ _ _ _ _ hwo _
        omega
    have h2 := this ((pshL d.c t h k cur id).take j)
    have h3 : ((pshL d.c t h k cur id).take j).length ≤ 24 := by rw [List.length_take]; omega
    have h4 : ((pshL d.c t h k cur id).take j).length * 24 ≤ 24 * 24 := Nat.mul_le_mul h3 (Nat.le_refl _)
    exact Nat.le_trans h2 h4
theorem himp_app (w0 : Base) (P6 N S R : List HO) (row : HO) (hs : P6.Sublist N) : HImp w0 (N ++ (S ++ row :: R)) ((row :: S) ++ (P6 ++ R)) := by
  refine (HImp.sub (List.Sublist.append hs (List.Sublist.refl _))).trans (HImp.perm ?_)
  refine (List.Perm.append_left P6 List.perm_middle).trans (List.perm_middle.trans (List.Perm.cons _ ?_))
  exact List.perm_append_comm_assoc P6 S R
theorem himp_end (w0 : Base) (P6 N S R : List HO) (row : HO) (hs : (S ++ [row]).Sublist N) : HImp w0 (N ++ (P6 ++ R)) (S ++ row :: R) := by
  have h := List.Sublist.append hs (List.sublist_append_right P6 R)
  rw [List.append_assoc] at h
  exact HImp.sub h
theorem fps_row {c : Cht} {mn : Nat} {S : List HO} (hS : NrS c mn S) (v : Value) (E sz : Nat) (xs : List Value) : ∀ b, fps (HO.row v E sz xs :: S) b → fpsx (HO.row v E sz xs :: S) b := by
  rintro b ⟨h, hh, hb⟩
  rcases List.mem_cons.1 hh with rfl | hh
  · exact ⟨_, List.mem_cons_self, hb⟩
  · exact ⟨h, List.mem_cons_of_mem _ hh, (NrS.shared c mn).fx S hS h hh b hb⟩
theorem fps_row1 (v : Value) (E sz : Nat) (xs : List Value) : ∀ b, fps [HO.row v E sz xs] b → fpsx [HO.row v E sz xs] b := by
  rintro b ⟨h, hh, hb⟩
  rw [List.mem_singleton] at hh
  subst hh
  exact ⟨_, List.mem_singleton.2 rfl, hb⟩
theorem himp_next2 (w0 : Base) (c' row c x o : HO) (N S1 : List HO) (hm : row ∈ N) : HImp w0 (c' :: (N ++ (S1 ++ [c, x, o]))) (S1 ++ [row, c', x, o]) :=
  (HImp.sub (List.Sublist.cons_cons _ (List.Sublist.append (List.singleton_sublist.2 hm) (List.Sublist.refl _)))).trans (himp_next w0 c' row c x o [] S1)
end Go.Proofs.YtnbogcpnpcbjgaaGreatDoor

