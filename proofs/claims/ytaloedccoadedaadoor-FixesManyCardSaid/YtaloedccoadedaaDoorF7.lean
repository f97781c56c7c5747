/- Parts of a proof: the symbolic walk and what it shows of single functions. -/
import Derived.Test.YtaloedccoadedaaDoorF6
import Derived.Test.YtaloedccoadedaaDoorX3
import Derived.Test.YtaloedccoadedaaDoorX5
set_option linter.all false
namespace Go.Proofs.YtaloedccoadedaaDoor
open Go.RowKit Go.SX
set_option maxRecDepth 10000
set_option maxHeartbeats 0
set_option linter.unusedSimpArgs false
set_option linter.unusedVariables false
theorem walkZ {f : Nat} {fn : Func} {c : Code} {args : List Value} {n : Nat} {rs : List ResultVar} {Post : Value → List HO → Prop} {w : World} {X : Nat → Prop} (Z : Nat → Prop) (re : List Nat) (ord : List (Nat × Plan)) {det : Nat → List Value → Option Value} (hD : DetFn Tryd.prog ⟨w, X⟩ det)
    (hf : Tryd.prog.funcs[f]? = some fn) (hb : fn.body = some c) (hn : fn.ntmps = n) (hr : fn.results.toList = rs) (hok : codeB ord c = true) {H0 : List HO}
    (h0 : (∀ h ∈ H0, h.ok w) ∧ (∀ h ∈ H0, ∀ b, (h.fp b → Z b) ∧ (h.fpx b → X b)) ∧ H0.Pairwise Apart)
    (h : W (EV w X re ord det []) c (retQ (EV w X re ord det []) rs Post) (args.map SV.v ++ List.replicate (n - args.length) (.v undef)) [] H0) : FnZ Tryd.prog f args w X Z Post := by
  subst hn hr
  exact Fn.introZ (E := EV w X re ord det []) Z hf hb trivial hD mixed_prog hok h0 h
theorem or10 : ∀ s : Fin 1024, ∀ i : Fin 10, bitS .or .i64 ((s.val : Nat) : Int) (((2 ^ i.val : Nat)) : Int) = ((s.val ||| 2 ^ i.val : Nat) : Int) := by
  decide +kernel
theorem shl12 : ∀ i : Fin 13, IntKind.i64.wrap (1 * 2 ^ (min i.val IntKind.i64.bits)) = ((2 ^ i.val : Nat) : Int) := by
  decide +kernel
theorem or_lt {s i : Nat} (hs : s < 1024) (hi : i < 10) : s ||| 2 ^ i < 1024 := Nat.or_lt_two_pow (n := 10) hs (Nat.pow_lt_pow_right (by decide) hi)
def intArg (all : List Nat) : Nat → List Value → List HO → Prop := fun k vs F => ∃ x, all[k]? = some x ∧ vs = [I x] ∧ F = []
def fromS (bo bf : Nat) : Value := .func (.func 116) #[] #[.pointer (some ⟨bo, 0, none⟩), .pointer (some ⟨bf, 0, none⟩)]
def FrP (J : Option Nat → (Nat → Prop) → (Nat → Prop) → World → Prop) (k : Nat) (v : Value) (N : List HO) : Prop := ∃ t C2 R2, v = .bool t ∧ consu J (bif t then some k else none) C2 R2 ∈ N
theorem cmb_short {α : Type} {m : Nat} {l : List α} (h : l.length < m) : cmb m l = [] := by
  refine List.eq_nil_iff_forall_not_mem.2 fun x hx => ?_
  obtain ⟨h1, h2⟩ := cmb_mem.1 hx
  have := h1.length_le
  omega
def pl116_6 : Plan := (ones [1, 2, 3, 4, 5, 6, 7, 8, 9] (.ld 0 (.mu 10 (ones [11] .fin))))
def pl116 : List (Nat × Plan) := [(6, pl116_6)]
theorem pl116_lk : (lkO 6 pl116 = some pl116_6) := rfl
theorem sets1_fn (all : List Nat) (ws : World) (C0 A0 : Nat → Prop) (l : Nat) (J : Option Nat → (Nat → Prop) → (Nat → Prop) → World → Prop) (hH : Handler Tryd.prog l all.length (intArg all) ws C0 A0 J) (bo bf of : Nat) (hof : of ≤ 10) : ∀ (r : Nat) (w : World) (k : Nat) (C R : Nat → Prop) (set first : Nat),
    Keep (fun b => C0 b ∨ A0 b) ws w → (∀ b, C b → (C0 b ∨ A0 b) ∨ ws.heap.size ≤ b) → HO.ok w (consu J (some k) C R) →
    w.cell? ⟨bo, 0, none⟩ = some (I of) → ¬ C bo → w.cell? ⟨bf, 0, none⟩ = some (fromS bo bf) → ¬ C bf → set < 1024 → first + r ≤ of → tailAt all ((cmb r ((idx of).drop first)).map (orS set)) k →
    FnZ Tryd.prog 116 [I set, I first, I r, .func (.yield l) #[] #[], .pointer (some ⟨bo, 0, none⟩), .pointer (some ⟨bf, 0, none⟩)] w C (fun b => C b ∨ R b) (FrP J (k + (cmb r ((idx of).drop first)).length)) := by
  intro r
  induction r with
  | zero =>
    intro w k C R set first hks hXs hc ho hoX hf hfX hset hfr hpart
    have hk : k < all.length := by have := hpart.1; simp [cmb] at this; omega
    have hall : all[k]? = some set := by have := hpart.2 0 (by simp [cmb]); simpa [cmb, orS] using this
    refine walkZ (H0 := [consu J (some k) C R]) _ [] pl116 (det0_ok _ _) Tryd.func116 rfl Tryd.ntmps116 res116 (by kernel_rfl) ⟨?_, ?_, List.pairwise_singleton _ _⟩ ?_
    · intro h hh
      rw [List.mem_singleton] at hh
      subst hh
      exact hc
    · intro h hh b
      rw [List.mem_singleton] at hh
      subst hh
      exact ⟨fun h => h.elim .inl .inr, id⟩
    have z0 : (((0 : Nat) : Int) = 0) = True := eq_true rfl
    simp (config := { maxSteps := 4000000 }) only [↓sx0, ↓sx1, ↓sx2, ↓sx3, ↓sx4, ↓sx5, ↓sx6, sx0, sx1, sx2, sx3, sx4, sx5, sx6, tf116, ev3_hold, sxo, sxc, sxp, sxq, sxr, sxs, sxl, sxm, simprocAttr, z0]
    refine CallOb.yieldL hH hks hXs (k := k) hk (F := []) (B := []) (HImp.refl _ _) (List.Sublist.refl _) ⟨set, hall, rfl, rfl⟩ (by simp) (fun w' hp b ⟨h, hh, hb⟩ => by simp at hh) fun t C2 R2 => ?_
    refine ⟨?_⟩
    simp (config := { maxSteps := 4000000 }) only [↓sx0, ↓sx1, ↓sx2, ↓sx3, ↓sx4, ↓sx5, ↓sx6, sx0, sx1, sx2, sx3, sx4, sx5, sx6, tf116, ev3_hold, sxo, sxc, sxp, sxq, sxr, sxs, sxl, sxm, simprocAttr]
    exact ⟨t, C2, R2, rfl, by simp [cmb]⟩
  | succ r ih =>
  intro w k C R set first hks hXs hc ho hoX hf hfX hset hfr hpart
  have holt := World.block_lt_of_cell? w _ ho
  have hflt := World.block_lt_of_cell? w _ hf
  have e1 : (((r + 1 : Nat) : Int) = 0) = False := eq_false (by omega)
  have e2 : wr ((of : Int) - ((r + 1 : Nat) : Int)) = ((of - (r + 1) : Nat) : Int) := (wrap_id (by omega)).trans (by omega)
  have e3 : wr (((r + 1 : Nat) : Int) - 1) = (r : Int) := (wrap_id (by omega)).trans (by omega)
  have dn : ∀ (g : Nat) (xs : List Value), det0 g xs = none := fun _ _ => rfl
  have hT := Tryd.call116
  refine walkZ (H0 := [consu J (some k) C R]) _ [] pl116 (det0_ok _ _) Tryd.func116 rfl Tryd.ntmps116 res116 (by kernel_rfl) ⟨?_, ?_, List.pairwise_singleton _ _⟩ ?_
  · intro h hh
    rw [List.mem_singleton] at hh
    subst hh
    exact hc
  · intro h hh b
    rw [List.mem_singleton] at hh
    subst hh
    exact ⟨fun h => h.elim .inl .inr, id⟩
  simp (config := { maxSteps := 4000000 }) only [↓sx0, ↓sx1, ↓sx2, ↓sx3, ↓sx4, ↓sx5, ↓sx6, sx0, sx1, sx2, sx3, sx4, sx5, sx6, tf116, ev3_hold, sxo, sxc, sxp, sxq, sxr, sxs, sxl, sxm, simprocAttr, e1]
  refine loop_constH _ (HImp.refl _ _) [(10, 11), (18, 36)] (fun i : Nat => [(11, I i)])
    (fun i H1 => i + r ≤ of ∧ ∃ k1 C1 R1, k1 + (cmb (r + 1) ((idx of).drop i)).length = k + (cmb (r + 1) ((idx of).drop first)).length ∧ tailAt all ((cmb (r + 1) ((idx of).drop i)).map (orS set)) k1 ∧ H1 = [consu J (some k1) C1 R1]) (fun i => of - i) first ?_ ⟨by omega, k, C, R, rfl, hpart, rfl⟩ ?_
  · simp (config := { maxSteps := 4000000 }) only [↓sx0, ↓sx1, ↓sx2, ↓sx3, ↓sx4, ↓sx5, ↓sx6, sx0, sx1, sx2, sx3, sx4, sx5, sx6, tf116, ev3_hold, sxo, sxc, sxp, sxq, sxr, sxs, sxl, sxm, simprocAttr]
    try simp
  rintro i H1 g1 ⟨hi, k1, C1, R1, hk1, hp1, rfl⟩
  by_cases hin : i + r = of
  · have e7 : ((i : Int) ≤ ((of - (r + 1) : Nat) : Int)) = False := eq_false (by omega)
    rw [cmb_short (by rw [List.length_drop, idx_len]; omega), List.length_nil, Nat.add_zero] at hk1
    refine ⟨?_⟩
    simp (config := { maxSteps := 4000000 }) only [↓sx0, ↓sx1, ↓sx2, ↓sx3, ↓sx4, ↓sx5, ↓sx6, sx0, sx1, sx2, sx3, sx4, sx5, sx6, tf116, ev3_hold, sxo, sxc, sxp, sxq, sxr, sxs, sxl, sxm, simprocAttr]
    refine ld_old ho hoX ?_
    simp (config := { maxSteps := 4000000 }) only [↓sx0, ↓sx1, ↓sx2, ↓sx3, ↓sx4, ↓sx5, ↓sx6, sx0, sx1, sx2, sx3, sx4, sx5, sx6, tf116, ev3_hold, sxo, sxc, sxp, sxq, sxr, sxs, sxl, sxm, simprocAttr, e2, e7]
    exact ⟨true, C1, R1, rfl, by rw [hk1]; exact List.mem_cons_self⟩
  have e7 : ((i : Int) ≤ ((of - (r + 1) : Nat) : Int)) = True := eq_true (by omega)
  have e8 : wr (i + 1) = ((i + 1 : Nat) : Int) := (wrap_id (by omega)).trans (by omega)
  have hi10 : i < 10 := by omega
  have e9 := shl12 ⟨i, by omega⟩
  have e10 := or10 ⟨set, hset⟩ ⟨i, hi10⟩
  simp only [] at e9 e10
  have hset2 := or_lt hset hi10
  have hil : i < (idx of).length := by rw [idx_len]; omega
  rw [cmb_drop r hil, idx_get hil] at hk1 hp1
  rw [List.map_append] at hp1
  have hpl := tailAt_left hp1
  have hpr := tailAt_right hp1
  rw [List.map_map] at hpl
  rw [List.length_append, List.length_map] at hk1
  rw [List.length_map, List.length_map] at hpr
  have hfun : (orS set ∘ ((i : Int) :: ·) : List Int → Nat) = orS (set ||| 2 ^ i) := by
    funext y
    rfl
  rw [hfun] at hpl
  obtain ⟨s2, hs2⟩ : ∃ s2, set ||| 2 ^ i = s2 := ⟨_, rfl⟩
  rw [hs2] at e10 hset2 hpl
  have hcall : ∀ (H : List HO) (kont : Value → List HO → Prop), HImp ⟨w, C⟩ H ([consu J (some k1) C1 R1] ++ []) → (∀ v N, FrP J (k1 + (cmb r ((idx of).drop (i + 1))).length) v N → SX.Hid (kont v (N ++ []))) →
      CallOb Tryd.prog ⟨w, C⟩ false (.fn 116) [I s2, I ((i + 1 : Nat) : Int), I r, .func (.yield l) #[] #[], .pointer (some ⟨bo, 0, none⟩), .pointer (some ⟨bf, 0, none⟩)] H kont := fun H kont hi hk => by
    refine CallOb.mutZ C1 (fun b => C1 b ∨ R1 b) hi (fun b hb => ⟨_, List.mem_cons_self, hb⟩) (fun b hb => ?_) (fun w' hp => ?_) hk
    · exact ⟨_, List.mem_cons_self, hb⟩
    have hm1 : consu J (some k1) C1 R1 ∈ [consu J (some k1) C1 R1] ++ [] := List.mem_cons_self
    have hold : ∀ b, C1 b → C b ∨ w.heap.size ≤ b := fun b hb => hp.old _ hm1 b hb
    refine ih w' k1 C1 R1 s2 (i + 1) (hp.ext.into hks hXs) (fun b hb => (hold b hb).elim (hXs b) fun h => .inr (Nat.le_trans hks.size h)) (hp.ok _ hm1) ?_ ?_ ?_ ?_ hset2 (by omega) hpl
    · exact (World.cell?_of_block (w := w) (hp.ext.block bo holt hoX)).trans ho
    · exact fun h => (hold bo h).elim hoX fun h => absurd holt (Nat.not_lt.2 h)
    · exact (World.cell?_of_block (w := w) (hp.ext.block bf hflt hfX)).trans hf
    · exact fun h => (hold bf h).elim hfX fun h => absurd hflt (Nat.not_lt.2 h)
  have hend : ∀ (N : List HO) C2 R2, consu J (some (k1 + (cmb r ((idx of).drop (i + 1))).length)) C2 R2 ∈ N → ∃ H3, HImp ⟨w, C⟩ (N ++ []) H3 ∧ (i + 1 + r ≤ of ∧ ∃ k1 C1 R1, k1 + (cmb (r + 1) ((idx of).drop (i + 1))).length = k + (cmb (r + 1) ((idx of).drop first)).length ∧ tailAt all ((cmb (r + 1) ((idx of).drop (i + 1))).map (orS set)) k1 ∧ H3 = [consu J (some k1) C1 R1]) := fun N C2 R2 hm =>
    ⟨_, HImp.append (HImp.pick hm), by omega, _, C2, R2, by omega, hpr, rfl⟩
  refine ⟨?_⟩
  simp (config := { maxSteps := 4000000 }) only [↓sx0, ↓sx1, ↓sx2, ↓sx3, ↓sx4, ↓sx5, ↓sx6, sx0, sx1, sx2, sx3, sx4, sx5, sx6, tf116, ev3_hold, sxo, sxc, sxp, sxq, sxr, sxs, sxl, sxm, simprocAttr]
  refine ld_old ho hoX ?_
  simp (config := { maxSteps := 4000000 }) only [↓sx0, ↓sx1, ↓sx2, ↓sx3, ↓sx4, ↓sx5, ↓sx6, sx0, sx1, sx2, sx3, sx4, sx5, sx6, tf116, ev3_hold, sxo, sxc, sxp, sxq, sxr, sxs, sxl, sxm, simprocAttr, e2, e7, Int.toNat_natCast, e9, e10, e8, e3, pl116_lk, pl116_6]
  refine ⟨by omega, ?_⟩
  refine ld_old hf hfX ?_
  unfold fromS
  simp (config := { maxSteps := 4000000 }) only [↓sx0, ↓sx1, ↓sx2, ↓sx3, ↓sx4, ↓sx5, ↓sx6, sx0, sx1, sx2, sx3, sx4, sx5, sx6, tf116, ev3_hold, sxo, sxc, sxp, sxq, sxr, sxs, sxl, sxm, simprocAttr, hT, dn, pl116_lk, pl116_6]
  refine ⟨hT, hcall _ _ (HImp.refl _ _) ?_⟩
  rintro v N ⟨t, C2, R2, rfl, hm⟩
  cases t with
  | false =>
    refine ⟨?_⟩
    simp (config := { maxSteps := 4000000 }) only [↓sx0, ↓sx1, ↓sx2, ↓sx3, ↓sx4, ↓sx5, ↓sx6, sx0, sx1, sx2, sx3, sx4, sx5, sx6, tf116, ev3_hold, sxo, sxc, sxp, sxq, sxr, sxs, sxl, sxm, simprocAttr, pl116_lk, pl116_6]
    exact ⟨false, C2, R2, rfl, hm⟩
  | true =>
    obtain ⟨H3, h1, h2⟩ := hend N C2 R2 hm
    rw [List.append_nil] at h1
    refine ⟨?_⟩
    simp (config := { maxSteps := 4000000 }) only [↓sx0, ↓sx1, ↓sx2, ↓sx3, ↓sx4, ↓sx5, ↓sx6, sx0, sx1, sx2, sx3, sx4, sx5, sx6, tf116, ev3_hold, sxo, sxc, sxp, sxq, sxr, sxs, sxl, sxm, simprocAttr, e8, pl116_lk, pl116_6]
    exact ⟨i + 1, H3, rfl, h1, h2, by omega⟩
theorem sets2_it (w : World) (bf bo bm : Nat) (of many : Nat) (hof : of ≤ 10) (hm0 : many ≤ of) (hbf : w.cell? ⟨bf, 0, none⟩ = some (fromS bo bf)) (hbo : w.cell? ⟨bo, 0, none⟩ = some (I of)) (hbm : w.cell? ⟨bm, 0, none⟩ = some (I many)) :
    Iter Tryd.prog 117 [] [.pointer (some ⟨bf, 0, none⟩), .pointer (some ⟨bm, 0, none⟩)] ((cmb many (idx of)).map (orS 0)).length (intArg ((cmb many (idx of)).map (orS 0))) (fun _ => False) (fun x => x = bf ∨ x = bo ∨ x = bm) w := by
  refine walkIterR _ [] [] (fun _ _ => det0_ok _ _) Tryd.func117 rfl Tryd.ntmps117 res117 (by kernel_rfl) fun y J C R hRs hH => ?_
  have hfX := hRs bf (.inl rfl)
  have hoX := hRs bo (.inr (.inl rfl))
  have hmX := hRs bm (.inr (.inr rfl))
  have dn : ∀ (g : Nat) (xs : List Value), det0 g xs = none := fun _ _ => rfl
  have hsz := World.block_lt_of_cell? w _ hbf
  have holt := World.block_lt_of_cell? w _ hbo
  simp (config := { maxSteps := 4000000 }) only [↓sx0, ↓sx1, ↓sx2, ↓sx3, ↓sx4, ↓sx5, ↓sx6, sx0, sx1, sx2, sx3, sx4, sx5, sx6, tf117, ev3_hold, sxo, sxc, sxp, sxq, sxr, sxs, sxl, sxm, simprocAttr]
  refine ld_old hbf hfX ?_
  simp (config := { maxSteps := 4000000 }) only [↓sx0, ↓sx1, ↓sx2, ↓sx3, ↓sx4, ↓sx5, ↓sx6, sx0, sx1, sx2, sx3, sx4, sx5, sx6, tf117, ev3_hold, sxo, sxc, sxp, sxq, sxr, sxs, sxl, sxm, simprocAttr]
  refine ld_old hbm hmX ?_
  unfold fromS
  simp (config := { maxSteps := 4000000 }) only [↓sx0, ↓sx1, ↓sx2, ↓sx3, ↓sx4, ↓sx5, ↓sx6, sx0, sx1, sx2, sx3, sx4, sx5, sx6, tf117, ev3_hold, sxo, sxc, sxp, sxq, sxr, sxs, sxl, sxm, simprocAttr, dn]
  refine ⟨Tryd.call116, ?_⟩
  refine CallOb.mutZ (A := [consu J (some 0) C R]) (B := []) (Post := FrP J (0 + (cmb many ((idx of).drop 0)).length)) C (fun b => C b ∨ R b) (HImp.refl _ _) (fun b hb => ⟨_, List.mem_cons_self, hb⟩) (fun b hb => ⟨_, List.mem_cons_self, hb⟩) (fun w' hp => ?_) ?_
  · exact sets1_fn ((cmb many (idx of)).map (orS 0)) w C (fun _ => False) y J hH bo bf of hof many w' 0 C R 0 0 hp.ext (fun b hb => .inl (.inl hb)) (hp.ok _ List.mem_cons_self) ((World.cell?_of_block (w := w) (hp.ext.block bo holt hoX)).trans hbo) (fun h => hoX (.inl h)) ((World.cell?_of_block (w := w) (hp.ext.block bf hsz hfX)).trans hbf) (fun h => hfX (.inl h)) (by decide) (by omega) (tailAt_all _)
  · rintro r N ⟨t, C2, R2, rfl, hm⟩
    refine ⟨?_⟩
    simp (config := { maxSteps := 4000000 }) only [↓sx0, ↓sx1, ↓sx2, ↓sx3, ↓sx4, ↓sx5, ↓sx6, sx0, sx1, sx2, sx3, sx4, sx5, sx6, tf117, ev3_hold, sxo, sxc, sxp, sxq, sxr, sxs, sxl, sxm, simprocAttr]
    refine ⟨rfl, _, C2, R2, hm, ?_⟩
    cases t with
    | false => exact .inr rfl
    | true => exact .inl (congrArg some (by rw [Nat.zero_add, List.length_map]; rfl))
theorem sets_fn (w : World) (many of : Int) : SX.Fn Tryd.prog 84 [I many, I of] w (fun _ => False) fun r N => ∃ bf bo bm, r = .func (.func 117) #[] #[.pointer (some ⟨bf, 0, none⟩), .pointer (some ⟨bm, 0, none⟩)] ∧ N = [HO.cells bf 138 [fromS bo bf], HO.cells bo 3 [I of], HO.cells bm 3 [I many]] := by
  refine walk [2, 3, 5] [] (det0_ok _ _) Tryd.func84 rfl Tryd.ntmps84 res84 (by kernel_rfl) no_facts ?_
  simp (config := { maxSteps := 4000000 }) only [↓sx0, ↓sx1, ↓sx2, ↓sx3, ↓sx4, ↓sx5, ↓sx6, sx0, sx1, sx2, sx3, sx4, sx5, sx6, tf84, ev3_hold, sxo, sxc, sxp, sxq, sxr, sxs, sxl, sxm, simprocAttr]
  intro b1 b2 b3
  refine wr_cell (A := []) rfl (by simp) ?_
  simp (config := { maxSteps := 4000000 }) only [↓sx0, ↓sx1, ↓sx2, ↓sx3, ↓sx4, ↓sx5, ↓sx6, sx0, sx1, sx2, sx3, sx4, sx5, sx6, tf84, ev3_hold, sxo, sxc, sxp, sxq, sxr, sxs, sxl, sxm, simprocAttr]
  exact ⟨b3, b2, b1, rfl, by simp [fromS]⟩
end Go.Proofs.YtaloedccoadedaaDoor

namespace Go.Proofs.YtaloedccoadedaaDoor
open Go.RowKit Go.SX
set_option maxRecDepth 10000
set_option maxHeartbeats 0
set_option linter.unusedSimpArgs false
set_option linter.unusedVariables false
def debT : List Int := [0, 1, 56, 2, 57, 49, 28, 3, 61, 58, 42, 50, 38, 29, 17, 4, 62, 47, 59, 36, 45, 43, 51, 22, 53, 39, 33, 30, 24, 18, 12, 5, 63, 55, 48, 27, 60, 41, 37, 16, 46, 35, 44, 21, 52, 32, 23, 11, 54, 26, 40, 15, 34, 20, 31, 10, 25, 14, 19, 9, 13, 8, 7, 6]
def u8c (n : Int) : List Value := [.int .u8 n]
def Deb (w : World) : Prop := ∀ (i : Nat) v, (cat u8c debT)[i]? = some v → w.cell? ⟨2, i, none⟩ = some v
theorem deb_lt {w : World} (h : Deb w) : 2 < w.heap.size := World.block_lt_of_cell? w _ (h 0 _ rfl)
theorem Deb.hp {w0 : World} {H : List HO} {w : World} (h : Deb w0) (hp : Hp ⟨w0, fun _ => False⟩ H w) : Deb w := fun i v hi => (World.cell?_of_block (w := w0) (hp.ext.block _ (deb_lt h) id)).trans (h i v hi)
def tzN (s : Nat) : Nat := ((List.range 10).find? s.testBit).getD 0
def debX (s : Nat) : Int := (IntKind.u64.wrap (bitS .and .u64 s (IntKind.u64.wrap (0 - (s : Int))) * 285870213051353865)).fdiv (2 ^ (min 58 IntKind.u64.bits))
theorem deb10 : ∀ s : Fin 1024, s.val ≠ 0 → (0 ≤ debX s.val ∧ debX s.val < 64) ∧ debT[(debX s.val).toNat]? = some (tzN s.val : Int) := by decide +kernel
theorem and10 : ∀ s : Fin 1024, s.val ≠ 0 → bitS .and .i64 ((s.val : Nat) : Int) ((s.val : Int) - 1) = ((s.val &&& (s.val - 1) : Nat) : Int) := by decide +kernel
theorem pick10 : ∀ s : Fin 1024, s.val ≠ 0 → pick s.val.testBit 10 = (tzN s.val : Int) :: pick (s.val &&& (s.val - 1)).testBit 10 := by decide +kernel
theorem tz64_fn (w : World) (hd : Deb w) (s : Nat) (hs : s < 1024) (h0 : s ≠ 0) : SX.Fn Tryd.prog 128 [.int .u64 s] w (fun _ => False) fun q N => q = I (tzN s) := by
  obtain ⟨⟨h1, h2⟩, h3⟩ := deb10 ⟨s, hs⟩ h0
  simp only [] at h1 h2 h3
  have e1 : ((s : Int) = 0) = False := eq_false (by omega)
  have htz : tzN s < 10 := by
    unfold tzN
    cases h : (List.range 10).find? s.testBit with
    | none => simp
    | some x => exact List.mem_range.1 (List.mem_of_find?_eq_some h)
  have hc := hd (debX s).toNat (.int .u8 (tzN s)) (by
    have := cat_get (f := u8c) (n := 1) (fun _ => rfl) h3 (j := 0) (by decide)
    rw [Nat.mul_one, Nat.add_zero] at this
    exact this)
  have e2 : wr (tzN s : Int) = (tzN s : Int) := wrap_id (by omega)
  have hX : debX s = (IntKind.u64.wrap (bitS .and .u64 s (IntKind.u64.wrap (0 - (s : Int))) * 285870213051353865)).fdiv (2 ^ (min 58 IntKind.u64.bits)) := rfl
  refine walk [] [] (det0_ok _ _) Tryd.func128 rfl Tryd.ntmps128 res128 (by kernel_rfl) no_facts ?_
  simp (config := { maxSteps := 4000000 }) only [↓sx0, ↓sx1, ↓sx2, ↓sx3, ↓sx4, ↓sx5, ↓sx6, sx0, sx1, sx2, sx3, sx4, sx5, sx6, tf128, ev3_hold, sxo, sxc, sxp, sxq, sxr, sxs, sxl, sxm, simprocAttr, e1]
  rw [← hX]
  refine ⟨h1, h2, ?_⟩
  refine ld_olda (b := 2) (o := (debX s).toNat) (by simp [Addr.add]; try omega) hc id ?_
  simp (config := { maxSteps := 4000000 }) only [↓sx0, ↓sx1, ↓sx2, ↓sx3, ↓sx4, ↓sx5, ↓sx6, sx0, sx1, sx2, sx3, sx4, sx5, sx6, tf128, ev3_hold, sxo, sxc, sxp, sxq, sxr, sxs, sxl, sxm, simprocAttr, e2]
theorem tz_fn (w : World) (hd : Deb w) (s : Nat) (hs : s < 1024) (h0 : s ≠ 0) : SX.Fn Tryd.prog 118 [.int .u64 s] w (fun _ => False) fun q N => q = I (tzN s) := by
  have dn : ∀ (g : Nat) (xs : List Value), det0 g xs = none := fun _ _ => rfl
  refine walk [] [] (det0_ok _ _) Tryd.func118 rfl Tryd.ntmps118 res118 (by kernel_rfl) no_facts ?_
  simp (config := { maxSteps := 4000000 }) only [↓sx0, ↓sx1, ↓sx2, ↓sx3, ↓sx4, ↓sx5, ↓sx6, sx0, sx1, sx2, sx3, sx4, sx5, sx6, tf118, ev3_hold, sxo, sxc, sxp, sxq, sxr, sxs, sxl, sxm, simprocAttr, dn]
  refine CallOb.pureH (fun w' hp => tz64_fn w' (hd.hp hp) s hs h0) ?_
  rintro q N rfl
  refine ⟨?_⟩
  simp (config := { maxSteps := 4000000 }) only [↓sx0, ↓sx1, ↓sx2, ↓sx3, ↓sx4, ↓sx5, ↓sx6, sx0, sx1, sx2, sx3, sx4, sx5, sx6, tf118, ev3_hold, sxo, sxc, sxp, sxq, sxr, sxs, sxl, sxm, simprocAttr]
theorem and_lt {s : Nat} (h : s ≠ 0) : s &&& (s - 1) < s := Nat.lt_of_le_of_lt Nat.and_le_right (by omega)
theorem pick_zero : ∀ n, pick (0 : Nat).testBit n = [] := by
  intro n
  unfold pick
  rw [List.filter_eq_nil_iff.2 (fun i _ => by simp)]
  rfl
theorem pick_len (p : Nat → Bool) (n : Nat) : (pick p n).length ≤ n := by
  unfold pick
  rw [List.length_map]
  exact Nat.le_trans (List.length_filter_le _ _) (by rw [List.length_range]; exact Nat.le_refl _)
theorem elements_fn (w : World) (hd : Deb w) (s : Nat) (hs : s < 1024) : SX.Fn Tryd.prog 85 [I s] w (fun _ => False) fun q N => Got q 3 1 i1 (pick s.testBit 10) N := by
  have dn : ∀ (g : Nat) (xs : List Value), det0 g xs = none := fun _ _ => rfl
  have hpl := pick_len s.testBit 10
  obtain ⟨P, hP⟩ : ∃ P, pick s.testBit 10 = P := ⟨_, rfl⟩
  rw [hP] at hpl ⊢
  refine walk [] [] (det0_ok _ _) Tryd.func85 rfl Tryd.ntmps85 res85 (by kernel_rfl) no_facts ?_
  simp (config := { maxSteps := 4000000 }) only [↓sx0, ↓sx1, ↓sx2, ↓sx3, ↓sx4, ↓sx5, ↓sx6, sx0, sx1, sx2, sx3, sx4, sx5, sx6, tf85, ev3_hold, sxo, sxc, sxp, sxq, sxr, sxs, sxl, sxm, simprocAttr]
  refine loop_constH [HO.row (.slice none 0 0) 3 1 (ints [])] ((HImp.nil _ _).trans (HImp.nilRow _ _ _ _)) [(0, 0), (2, 14)] (fun q : Nat × Option Addr × Nat × List Int => [(0, I q.1), (2, .slice q.2.1 q.2.2.2.length q.2.2.1)])
    (fun q H1 => q.1 < 1024 ∧ (q.2.1 = none → q.2.2.2 = []) ∧ q.2.2.2 ++ pick q.1.testBit 10 = P ∧ H1 = [HO.row (.slice q.2.1 q.2.2.2.length q.2.2.1) 3 1 (ints q.2.2.2)]) (fun q => q.1) (s, none, 0, []) ?_ ⟨hs, fun _ => rfl, hP, rfl⟩ ?_
  · simp (config := { maxSteps := 4000000 }) only [↓sx0, ↓sx1, ↓sx2, ↓sx3, ↓sx4, ↓sx5, ↓sx6, sx0, sx1, sx2, sx3, sx4, sx5, sx6, tf85, ev3_hold, sxo, sxc, sxp, sxq, sxr, sxs, sxl, sxm, simprocAttr]
    try simp
  rintro ⟨x, ad, cp, L⟩ H1 g1 hinv
  simp only [] at hinv
  obtain ⟨hx, hnil, hLP, rfl⟩ := hinv
  by_cases h0 : x = 0
  · subst h0
    have e7 : (((0 : Nat) : Int) = 0) = True := eq_true rfl
    rw [pick_zero, List.append_nil] at hLP
    subst hLP
    refine ⟨?_⟩
    simp (config := { maxSteps := 4000000 }) only [↓sx0, ↓sx1, ↓sx2, ↓sx3, ↓sx4, ↓sx5, ↓sx6, sx0, sx1, sx2, sx3, sx4, sx5, sx6, tf85, ev3_hold, sxo, sxc, sxp, sxq, sxr, sxs, sxl, sxm, simprocAttr, e7]
    exact Got.row rfl List.mem_cons_self hnil
  have e7 : ((x : Int) = 0) = False := eq_false (by omega)
  have e1 : IntKind.u64.wrap (x : Int) = x := by rw [IntKind.wrap_u64]; omega
  have e2 : wr ((x : Int) - 1) = (x : Int) - 1 := wrap_id (by omega)
  have e3 := and10 ⟨x, hx⟩ h0
  have e4 := pick10 ⟨x, hx⟩ h0
  simp only [] at e3 e4
  have hlt := and_lt h0
  rw [e4] at hLP
  have hLl := congrArg List.length hLP
  rw [List.length_append, List.length_cons] at hLl
  obtain ⟨y, hy⟩ : ∃ y, x &&& (x - 1) = y := ⟨_, rfl⟩
  rw [hy] at e3 hLP hlt
  obtain ⟨z, hz⟩ : ∃ z : Int, (tzN x : Int) = z := ⟨_, rfl⟩
  have htz := fun (H : List HO) w' (hp : Hp ⟨w, fun _ => False⟩ H w') => tz_fn w' (hd.hp hp) x hx h0
  rw [hz] at htz hLP
  have hL2 : (L ++ [z]).length = L.length + 1 := by rw [List.length_append]; rfl
  refine ⟨?_⟩
  simp (config := { maxSteps := 4000000 }) only [↓sx0, ↓sx1, ↓sx2, ↓sx3, ↓sx4, ↓sx5, ↓sx6, sx0, sx1, sx2, sx3, sx4, sx5, sx6, tf85, ev3_hold, sxo, sxc, sxp, sxq, sxr, sxs, sxl, sxm, simprocAttr, e7, e1, dn]
  refine CallOb.pureH (fun w' hp => htz _ w' hp) ?_
  rintro q N rfl
  refine ⟨?_⟩
  simp (config := { maxSteps := 4000000 }) only [↓sx0, ↓sx1, ↓sx2, ↓sx3, ↓sx4, ↓sx5, ↓sx6, sx0, sx1, sx2, sx3, sx4, sx5, sx6, tf85, ev3_hold, sxo, sxc, sxp, sxq, sxr, sxs, sxl, sxm, simprocAttr]
  intro b4
  refine app_one (l := L) z (HImp.app _ _ _) i1_len i1_one (by omega) fun ad3 c3 => ?_
  rw [← hL2]
  simp (config := { maxSteps := 4000000 }) only [↓sx0, ↓sx1, ↓sx2, ↓sx3, ↓sx4, ↓sx5, ↓sx6, sx0, sx1, sx2, sx3, sx4, sx5, sx6, tf85, ev3_hold, sxo, sxc, sxp, sxq, sxr, sxs, sxl, sxm, simprocAttr, e2, e3]
  exact ⟨(y, some ad3, c3, L ++ [z]), _, ⟨rfl, rfl⟩, HImp.refl _ _, ⟨by simp only []; omega, fun h => (by cases h), by simp only [List.append_assoc]; exact hLP, rfl⟩, by simp only []; omega⟩
end Go.Proofs.YtaloedccoadedaaDoor

namespace Go.Proofs.YtaloedccoadedaaDoor
open Go.RowKit Go.SX
set_option maxRecDepth 10000
set_option maxHeartbeats 0
set_option linter.unusedSimpArgs false
set_option linter.unusedVariables false
def CanOk (w : World) (vc : Value) (can : Nat → Bool) : Prop := ∃ (g : Nat) (first cap : List Value), vc = .func (.func g) first.toArray cap.toArray ∧ CallT Tryd.prog g ∧ ∀ w' : World, Keep (fun _ => False) w w' → ∀ S : Nat, S < 1024 → SX.Fn Tryd.prog g (first ++ ([I S] ++ cap)) w' (fun _ => False) fun q N => q = .bool (can S)
theorem CanOk.hp {w0 : World} {vp : Value} {p : Nat → Bool} (h : CanOk w0 vp p) {H : List HO} {w : World} (hp : Hp ⟨w0, fun _ => False⟩ H w) : CanOk w vp p := by
  obtain ⟨g, first, cap, h1, h2, h3⟩ := h
  exact ⟨g, first, cap, h1, h2, fun w' hk i hi => h3 w' ((Keep.trans hp.ext hk).mono fun b hb => hb.elim id id) i hi⟩
theorem find_step {P : List Int → Bool} {l : List (List Int)} {k : Nat} {x : List Int} (hx : l[k]? = some x) (h : ∀ q y, q < k → l[q]? = some y → P y = false) (hp : P x = true) : l.find? P = some x := by
  obtain ⟨hk, rfl⟩ := List.getElem?_eq_some_iff.1 hx
  refine List.find?_eq_some_iff_getElem.2 ⟨hp, k, hk, rfl, fun j hj => ?_⟩
  rw [h j _ hj (List.getElem?_eq_getElem (by omega))]
  rfl
theorem find_no {P : List Int → Bool} {l : List (List Int)} (h : ∀ q y, q < l.length → l[q]? = some y → P y = false) : l.find? P = none := by
  refine List.find?_eq_none.2 fun y hy => ?_
  obtain ⟨q, hq, rfl⟩ := List.getElem_of_mem hy
  rw [h q _ hq (List.getElem?_eq_getElem hq)]
  simp
def FstQ (P : List Int → Bool) (n : Nat) (q : Value) (N : List HO) : Prop := (fstL P n = none ∧ q = .tuple #[.slice none 0 0, I 3]) ∨ ∃ x v, fstL P n = some x ∧ q = .tuple #[v, I 0] ∧ Got v 3 1 i1 x N
def notC (can : Nat → Bool) (y : List Int) : Bool := !can (orS 0 y)
theorem fewest_fn (w : World) (hd : Deb w) (vc : Value) (can : Nat → Bool) (hc : CanOk w vc can) (n : Nat) (hn : n ≤ 10) :
    SX.Fn Tryd.prog 49 [I n, vc] w (fun _ => False) (FstQ (notC can) n) := by
  obtain ⟨g, first, cap, rfl, hT, hcan⟩ := hc
  have dn : ∀ (g : Nat) (xs : List Value), det0 g xs = none := fun _ _ => rfl
  have hlen : wr ((n : Int) + 1) = ((n + 1 : Nat) : Int) := (wrap_id (by omega)).trans (by omega)
  obtain ⟨P, hP⟩ : ∃ P : List Int → Bool, notC can = P := ⟨_, rfl⟩
  have hP1 : ∀ x, P x = !can (orS 0 x) := fun x => by rw [← hP]; rfl
  rw [hP]
  unfold FstQ
  have hfin : (∀ m, m < n + 1 → (cmb m (idx n)).find? P = none) → fstL P n = none := fun h => fs_none _ _ h
  have hfou : ∀ m x, m < n + 1 → (∀ m', m' < m → (cmb m' (idx n)).find? P = none) → (cmb m (idx n)).find? P = some x → fstL P n = some x := fun m x hm h0 h1 => fs_some _ h0 h1 _ hm
  refine walk [] [] (det0_ok _ _) Tryd.func49 rfl Tryd.ntmps49 res49 (by kernel_rfl) no_facts ?_
  simp (config := { maxSteps := 4000000 }) only [↓sx0, ↓sx1, ↓sx2, ↓sx3, ↓sx4, ↓sx5, ↓sx6, sx0, sx1, sx2, sx3, sx4, sx5, sx6, tf49, ev3_hold, sxo, sxc, sxp, sxq, sxr, sxs, sxl, sxm, simprocAttr, hlen]
  refine loop_constH [] (HImp.nil _ _) [(6, 7), (10, 23)] (fun i : Nat => [(10, I i)]) (fun i H1 => i ≤ n + 1 ∧ (∀ m, m < i → (cmb m (idx n)).find? P = none) ∧ H1 = []) (fun i => n + 1 - i) 0 ?_ ⟨Nat.zero_le _, fun m hm => by omega, rfl⟩ ?_
  · simp (config := { maxSteps := 4000000 }) only [↓sx0, ↓sx1, ↓sx2, ↓sx3, ↓sx4, ↓sx5, ↓sx6, sx0, sx1, sx2, sx3, sx4, sx5, sx6, tf49, ev3_hold, sxo, sxc, sxp, sxq, sxr, sxs, sxl, sxm, simprocAttr]
    try simp
  rintro i H1 g1 ⟨hi, hno, rfl⟩
  by_cases hin : i = n + 1
  · have e7 : ((i : Int) < ((n + 1 : Nat) : Int)) = False := eq_false (by omega)
    have hz := hfin fun m hm => hno m (by omega)
    refine ⟨?_⟩
    simp (config := { maxSteps := 4000000 }) only [↓sx0, ↓sx1, ↓sx2, ↓sx3, ↓sx4, ↓sx5, ↓sx6, sx0, sx1, sx2, sx3, sx4, sx5, sx6, tf49, ev3_hold, sxo, sxc, sxp, sxq, sxr, sxs, sxl, sxm, simprocAttr, e7]
    exact Or.inl hz
  have e7 : ((i : Int) < ((n + 1 : Nat) : Int)) = True := eq_true (by omega)
  have e8 : wr (i + 1) = ((i + 1 : Nat) : Int) := (wrap_id (by omega)).trans (by omega)
  obtain ⟨all, hall⟩ : ∃ all, cmb i (idx n) = all := ⟨_, rfl⟩
  have hmem : ∀ x ∈ all, x.Sublist (idx n) := fun x hx => (cmb_mem.1 (by rw [hall]; exact hx)).1
  refine ⟨?_⟩
  simp (config := { maxSteps := 4000000 }) only [↓sx0, ↓sx1, ↓sx2, ↓sx3, ↓sx4, ↓sx5, ↓sx6, sx0, sx1, sx2, sx3, sx4, sx5, sx6, tf49, ev3_hold, sxo, sxc, sxp, sxq, sxr, sxs, sxl, sxm, simprocAttr, e7, dn]
  refine CallOb.pureH (fun w' hp => sets_fn w' i n) ?_
  rintro r N2 ⟨bf, bo, bm, rfl, rfl⟩
  refine ⟨?_⟩
  simp (config := { maxSteps := 4000000 }) only [↓sx0, ↓sx1, ↓sx2, ↓sx3, ↓sx4, ↓sx5, ↓sx6, sx0, sx1, sx2, sx3, sx4, sx5, sx6, tf49, ev3_hold, sxo, sxc, sxp, sxq, sxr, sxs, sxl, sxm, simprocAttr]
  refine range_introH Tryd.call117 (all.map (orS 0)).length (intArg (all.map (orS 0))) [HO.cells bf 138 [fromS bo bf], HO.cells bo 3 [I n], HO.cells bm 3 [I i]] [] (fun k L' H' => H' = [] ∧ L' = [(62, [.func (.func g) first.toArray cap.toArray]), (22, [.slice none 0 0]), (30, [I 0])] ∧ ∀ q y, q < k → all[q]? = some y → P y = false) (fun _ => False) (fun x => x = bf ∨ x = bo ∨ x = bm) (HImp.refl _ _) (fun b h => h.elim) (fun b hb => .inr ?_) (fun w' hp => by rw [← hall]; exact sets2_it w' bf bo bm n i hn (by omega) (cells_hp List.mem_cons_self hp) (cells_hp (List.mem_cons_of_mem _ List.mem_cons_self) hp) (cells_hp (List.mem_cons_of_mem _ (List.mem_cons_of_mem _ List.mem_cons_self)) hp)) ⟨rfl, rfl, fun q y hq => by omega⟩ ?_ ?_ ?_
  · rcases hb with rfl | rfl | rfl
    · exact ⟨_, List.mem_cons_self, rfl⟩
    · exact ⟨_, List.mem_cons_of_mem _ List.mem_cons_self, rfl⟩
    · exact ⟨_, List.mem_cons_of_mem _ (List.mem_cons_of_mem _ List.mem_cons_self), rfl⟩
  · rintro k vs F ⟨x, h1, rfl, rfl⟩
    rfl
  · rintro k vs F L' H' hk ⟨x0, hx0, rfl, rfl⟩ hL ⟨rfl, rfl, hq⟩
    rw [List.getElem?_map, Option.map_eq_some_iff] at hx0
    obtain ⟨x, hx, rfl⟩ := hx0
    have hsub := hmem x (List.mem_of_getElem? hx)
    obtain ⟨_, hx1, hx2, _⟩ := sub_orS hn hsub
    have hPx := hP1 x
    obtain ⟨s, hs⟩ : ∃ s, orS 0 x = s := ⟨_, rfl⟩
    rw [hs] at hx1 hx2 hPx ⊢
    have hcs := fun (H : List HO) w' (hp : Hp ⟨w, fun _ => False⟩ H w') => hcan w' hp.ext s hx1
    have hel := fun (H : List HO) w' (hp : Hp ⟨w, fun _ => False⟩ H w') => elements_fn w' (hd.hp hp) s hx1
    rw [hx2] at hel
    obtain ⟨B, hB⟩ : ∃ B, can s = B := ⟨_, rfl⟩
    rw [hB] at hPx
    simp only [hB] at hcs
    cases B with
    | false =>
      have hz := hfou i x (by omega) hno (by rw [hall]; exact find_step hx hq hPx)
      refine ⟨?_⟩
      simp (config := { maxSteps := 4000000 }) only [↓sx0, ↓sx1, ↓sx2, ↓sx3, ↓sx4, ↓sx5, ↓sx6, sx0, sx1, sx2, sx3, sx4, sx5, sx6, tf49, ev3_hold, sxo, sxc, sxp, sxq, sxr, sxs, sxl, sxm, simprocAttr, dn]
      refine ⟨hT, ?_⟩
      refine CallOb.pureH (fun w' hp => by rw [List.append_assoc]; exact hcs _ w' hp) ?_
      rintro r N3 rfl
      refine ⟨?_⟩
      simp (config := { maxSteps := 4000000 }) only [↓sx0, ↓sx1, ↓sx2, ↓sx3, ↓sx4, ↓sx5, ↓sx6, sx0, sx1, sx2, sx3, sx4, sx5, sx6, tf49, ev3_hold, sxo, sxc, sxp, sxq, sxr, sxs, sxl, sxm, simprocAttr, dn]
      refine CallOb.pureH (fun w' hp => hel _ w' hp) ?_
      rintro r N4 hG
      obtain ⟨ax, cx, rfl⟩ := hG.shape
      refine ⟨?_⟩
      simp (config := { maxSteps := 4000000 }) only [↓sx0, ↓sx1, ↓sx2, ↓sx3, ↓sx4, ↓sx5, ↓sx6, sx0, sx1, sx2, sx3, sx4, sx5, sx6, tf49, ev3_hold, sxo, sxc, sxp, sxq, sxr, sxs, sxl, sxm, simprocAttr]
      exact ⟨_, HImp.refl _ _, .inr ⟨x, _, hz, rfl, hG.mono (by simp +contextual)⟩⟩
    | true =>
      refine ⟨?_⟩
      simp (config := { maxSteps := 4000000 }) only [↓sx0, ↓sx1, ↓sx2, ↓sx3, ↓sx4, ↓sx5, ↓sx6, sx0, sx1, sx2, sx3, sx4, sx5, sx6, tf49, ev3_hold, sxo, sxc, sxp, sxq, sxr, sxs, sxl, sxm, simprocAttr, dn]
      refine ⟨hT, ?_⟩
      refine CallOb.pureH (fun w' hp => by rw [List.append_assoc]; exact hcs _ w' hp) ?_
      rintro r N3 rfl
      refine ⟨?_⟩
      simp (config := { maxSteps := 4000000 }) only [↓sx0, ↓sx1, ↓sx2, ↓sx3, ↓sx4, ↓sx5, ↓sx6, sx0, sx1, sx2, sx3, sx4, sx5, sx6, tf49, ev3_hold, sxo, sxc, sxp, sxq, sxr, sxs, sxl, sxm, simprocAttr]
      refine ⟨_, HImp.nil _ _, rfl, fun q y hqk hy => ?_⟩
      by_cases e : q = k
      · subst e
        rw [hx] at hy
        cases hy
        exact hPx
      · exact hq q y (by omega) hy
  · rintro L' H' hL ⟨rfl, rfl, hq⟩
    rw [List.length_map] at hq
    have hz := find_no hq
    rw [← hall] at hz
    refine ⟨?_⟩
    simp (config := { maxSteps := 4000000 }) only [↓sx0, ↓sx1, ↓sx2, ↓sx3, ↓sx4, ↓sx5, ↓sx6, sx0, sx1, sx2, sx3, sx4, sx5, sx6, tf49, ev3_hold, sxo, sxc, sxp, sxq, sxr, sxs, sxl, sxm, simprocAttr, e8]
    refine ⟨i + 1, _, rfl, HImp.refl _ _, ⟨by omega, fun m hm => ?_, rfl⟩, by omega⟩
    by_cases e : m = i
    · subst e
      exact hz
    · exact hno m (by omega)
end Go.Proofs.YtaloedccoadedaaDoor

