/- Parts of a proof: the symbolic walk and what it shows of single functions. -/
import Derived.Test.YtpmodggfogahhaaGreatDoorL1
set_option linter.all false
namespace Go.Proofs.YtpmodggfogahhaaGreatDoor
open Go.RowKit Go.SX
set_option maxRecDepth 10000
set_option maxHeartbeats 0
set_option linter.unusedSimpArgs false
set_option linter.unusedVariables false
theorem walkZ {f : Nat} {fn : Func} {c : Code} {args : List Value} {n : Nat} {rs : List ResultVar} {Post : Value → List HO → Prop} {w : World} {X : Nat → Prop} (Z : Nat → Prop) (re : List Nat) (ord : List (Nat × Plan)) {det : Nat → List Value → Option Value} (hD : DetFn Tryz.prog ⟨w, X⟩ det)
    (hf : Tryz.prog.funcs[f]? = some fn) (hb : fn.body = some c) (hn : fn.ntmps = n) (hr : fn.results.toList = rs) (hok : codeB ord c = true) {H0 : List HO}
    (h0 : (∀ h ∈ H0, h.ok w) ∧ (∀ h ∈ H0, ∀ b, (h.fp b → Z b) ∧ (h.fpx b → X b)) ∧ H0.Pairwise Apart)
    (h : W (EV w X re ord det []) c (retQ (EV w X re ord det []) rs Post) (args.map SV.v ++ List.replicate (n - args.length) (.v undef)) [] H0) : FnZ Tryz.prog f args w X Z Post := by
  subst hn hr
  exact Fn.introZ (E := EV w X re ord det []) Z hf hb trivial hD mixed_prog hok h0 h
def idx (n : Nat) : List Int := (List.range n).map fun (i : Nat) => (i : Int)
theorem idx_len (n : Nat) : (idx n).length = n := by unfold idx; rw [List.length_map, List.length_range]
theorem idx_get {n i : Nat} (h : i < (idx n).length) : (idx n)[i] = (i : Int) := by simp [idx]
def listArg (all : List (List Int)) : Nat → List Value → List HO → Prop := fun k vs F => ∃ x a c, all[k]? = some x ∧ vs = [.slice a x.length c] ∧ (a = none → x = []) ∧ F = [.ro (.row (.slice a x.length c) 3 1 (ints x))]
def fromC (bm bl bf : Nat) : Value := .func (.func 123) #[] #[.pointer (some ⟨bm, 0, none⟩), .pointer (some ⟨bl, 0, none⟩), .pointer (some ⟨bf, 0, none⟩)]
def FrP (J : Option Nat → (Nat → Prop) → (Nat → Prop) → World → Prop) (k : Nat) (v : Value) (N : List HO) : Prop := ∃ t C2 R2, v = .bool t ∧ consu J (bif t then some k else none) C2 R2 ∈ N
theorem sl_full {w : World} {ad : Addr} {n c : Nat} {xs : List Value} (h : Sl w (.slice (some ad) n c) 1 xs) : Sl w (.slice (some (if n = 0 then ad else ad.add 0)) n n) 1 xs := by
  have hl := h.len
  split
  · rename_i h0
    subst h0
    have : xs = [] := List.eq_nil_of_length_eq_zero (by omega)
    subst this
    exact ⟨_, _, _, rfl, rfl, fun i x hx => by simp at hx⟩
  · have := Sl.pre (m := n) (c := n) h (Nat.le_refl _)
    rwa [List.take_of_length_le (by omega)] at this
theorem sl_nonilL {w : World} {n c sz : Nat} {xs : List Value} (h : Sl w (.slice none n c) sz xs) : xs = [] := by
  cases xs with
  | nil => rfl
  | cons y ys =>
    obtain ⟨_, _, _, e, _, hcl⟩ := h
    cases e
    obtain ⟨ad, h, _⟩ := hcl 0 _ rfl
    cases h
theorem ints_nilL {l : List Int} (h : ints l = []) : l = [] := by
  cases l with
  | nil => rfl
  | cons y ys => simp [cat, i1] at h
def pl123_6 : Plan := (ones [1, 2, 3, 4, 5, 6, 7, 10, 11, 12] (.ld 0 (ones [8] (.kl 9 (.mu 13 (ones [14] .fin))))))
def pl123 : List (Nat × Plan) := [(6, pl123_6)]
theorem pl123_lk : (lkO 6 pl123 = some pl123_6) := rfl
theorem choose1_fn (all : List (List Int)) (ws : World) (C0 A0 : Nat → Prop) (l : Nat) (J : Option Nat → (Nat → Prop) → (Nat → Prop) → World → Prop) (hH : Handler Tryz.prog l all.length (listArg all) ws C0 A0 J) (bm bl bf many below : Nat) (hmany : many ≤ 1000) (hbel : below ≤ 1000) : ∀ (r : Nat) (w : World) (k : Nat) (C R : Nat → Prop) (vl : Value) (list : List Int) (first : Nat),
    Keep (fun b => C0 b ∨ A0 b) ws w → (∀ b, C b → (C0 b ∨ A0 b) ∨ ws.heap.size ≤ b) → HO.ok w (consu J (some k) C R) → HO.ok w (.row vl 3 1 (ints list)) → (∀ b, vl.ownBlock = some b → ¬ C b ∧ ws.heap.size ≤ b) →
    w.cell? ⟨bm, 0, none⟩ = some (I many) → ¬ C bm → w.cell? ⟨bl, 0, none⟩ = some (I below) → ¬ C bl → w.cell? ⟨bf, 0, none⟩ = some (fromC bm bl bf) → ¬ C bf → list.length + r = many → first ≤ below → tailAt all ((cmb r ((idx below).drop first)).map (list ++ ·)) k →
    FnZ Tryz.prog 123 [vl, I first, .func (.yield l) #[] #[], .pointer (some ⟨bm, 0, none⟩), .pointer (some ⟨bl, 0, none⟩), .pointer (some ⟨bf, 0, none⟩)] w C (fun b => C b ∨ R b ∨ vl.ownBlock = some b) (FrP J (k + (cmb r ((idx below).drop first)).length)) := by
  intro r
  induction r with
  | zero =>
    intro w k C R vl list first hks hXs hc hl hlX hm hmX hb hbX hf hfX hlen hrl hpart
    have hsl := RowOk.sl hl
    obtain ⟨a, n, c, rfl⟩ := hsl.shape
    have hn := hsl.le i1_len (by omega)
    subst hn
    have e1 : ((list.length : Int) = (many : Int)) = True := eq_true (by omega)
    have hk : k < all.length := by have := hpart.1; simp [cmb] at this; omega
    have hall : all[k]? = some list := by have := hpart.2 0 (by simp [cmb]); simpa [cmb] using this
    refine walkZ (H0 := [consu J (some k) C R, .ro (.row (.slice a list.length c) 3 1 (ints list))]) _ [] pl123 (det0_ok _ _) Tryz.func123 rfl Tryz.ntmps123 res123 (by kernel_rfl) ⟨?_, ?_, ?_⟩ ?_
    · intro h hh
      simp only [List.mem_cons, List.not_mem_nil, or_false] at hh
      rcases hh with rfl | rfl
      · exact hc
      · exact hl
    · intro h hh b
      simp only [List.mem_cons, List.not_mem_nil, or_false] at hh
      rcases hh with rfl | rfl
      · exact ⟨fun h => h.elim .inl fun h => .inr (.inl h), id⟩
      · exact ⟨fun h => .inr (.inr h), fun h => h.elim⟩
    · refine List.pairwise_cons.2 ⟨fun h hh b hb hb' => ?_, List.pairwise_singleton _ _⟩
      rw [List.mem_singleton] at hh
      subst hh
      exact ⟨(hlX b hb').1, id⟩
    simp (config := { maxSteps := 4000000 }) only [↓sx0, ↓sx1, ↓sx2, ↓sx3, ↓sx4, ↓sx5, ↓sx6, sx0, sx1, sx2, sx3, sx4, sx5, sx6, tf123, ev3_hold, sxo, sxc, sxp, sxq, sxr, sxs, sxl, sxm, Int.reduceBEq, Int.reduceBNe, Int.reduceLT, Int.reduceLE, Int.reduceEq, Int.reduceGT, Int.reduceGE, Int.reduceToNat, ↓reduceIte, List.reduceReplicate, Nat.reduceAdd, Nat.reduceSub, Nat.reduceMul, Nat.reduceLT, Nat.reduceLeDiff, Nat.reduceBEq, Nat.reduceEqDiff]
    refine ld_old hm hmX ?_
    simp (config := { maxSteps := 4000000 }) only [↓sx0, ↓sx1, ↓sx2, ↓sx3, ↓sx4, ↓sx5, ↓sx6, sx0, sx1, sx2, sx3, sx4, sx5, sx6, tf123, ev3_hold, sxo, sxc, sxp, sxq, sxr, sxs, sxl, sxm, Int.reduceBEq, Int.reduceBNe, Int.reduceLT, Int.reduceLE, Int.reduceEq, Int.reduceGT, Int.reduceGE, Int.reduceToNat, ↓reduceIte, List.reduceReplicate, Nat.reduceAdd, Nat.reduceSub, Nat.reduceMul, Nat.reduceLT, Nat.reduceLeDiff, Nat.reduceBEq, Nat.reduceEqDiff, e1]
    refine CallOb.yieldL hH hks hXs (k := k) hk (F := [.ro (.row (.slice a list.length c) 3 1 (ints list))]) (B := [.ro (.row (.slice a list.length c) 3 1 (ints list))]) (HImp.refl _ _) (List.Sublist.refl _) ⟨list, a, c, hall, rfl, fun h => by subst h; exact ints_nilL (sl_nonilL hsl), rfl⟩ (by simp [HO.fpx]) (fun w' hp b ⟨h, hh, hb⟩ => ?_) fun t C2 R2 => ?_
    · rw [List.mem_singleton] at hh
      subst hh
      exact (hlX b hb).2
    refine ⟨?_⟩
    simp (config := { maxSteps := 4000000 }) only [↓sx0, ↓sx1, ↓sx2, ↓sx3, ↓sx4, ↓sx5, ↓sx6, sx0, sx1, sx2, sx3, sx4, sx5, sx6, tf123, ev3_hold, sxo, sxc, sxp, sxq, sxr, sxs, sxl, sxm, Int.reduceBEq, Int.reduceBNe, Int.reduceLT, Int.reduceLE, Int.reduceEq, Int.reduceGT, Int.reduceGE, Int.reduceToNat, ↓reduceIte, List.reduceReplicate, Nat.reduceAdd, Nat.reduceSub, Nat.reduceMul, Nat.reduceLT, Nat.reduceLeDiff, Nat.reduceBEq, Nat.reduceEqDiff]
    exact ⟨t, C2, R2, rfl, by simp [cmb]⟩
  | succ r ih =>
  intro w k C R vl list first hks hXs hc hl hlX hm hmX hb hbX hf hfX hlen hrl hpart
  have hsl := RowOk.sl hl
  obtain ⟨a, n, c, rfl⟩ := hsl.shape
  have hcap : n ≤ c := RowOk.cap hl
  have hn := hsl.le i1_len (by omega)
  subst hn
  have hmlt := World.block_lt_of_cell? w _ hm
  have hblt := World.block_lt_of_cell? w _ hb
  have hflt := World.block_lt_of_cell? w _ hf
  have e1 : ((list.length : Int) = (many : Int)) = False := eq_false (by omega)
  have dn : ∀ (g : Nat) (xs : List Value), det0 g xs = none := fun _ _ => rfl
  have hT := Tryz.call123
  obtain ⟨B0, hB0⟩ : ∃ B0, [HO.ro (.row (.slice a list.length c) 3 1 (ints list))] = B0 := ⟨_, rfl⟩
  refine walkZ (H0 := consu J (some k) C R :: B0) _ [] pl123 (det0_ok _ _) Tryz.func123 rfl Tryz.ntmps123 res123 (by kernel_rfl) ⟨?_, ?_, ?_⟩ ?_
  · intro h hh
    subst hB0
    simp only [List.mem_cons, List.not_mem_nil, or_false] at hh
    rcases hh with rfl | rfl
    · exact hc
    · exact hl
  · intro h hh b
    subst hB0
    simp only [List.mem_cons, List.not_mem_nil, or_false] at hh
    rcases hh with rfl | rfl
    · exact ⟨fun h => h.elim .inl fun h => .inr (.inl h), id⟩
    · exact ⟨fun h => .inr (.inr h), fun h => h.elim⟩
  · subst hB0
    refine List.pairwise_cons.2 ⟨fun h hh b hb hb' => ?_, List.pairwise_singleton _ _⟩
    rw [List.mem_singleton] at hh
    subst hh
    exact ⟨(hlX b hb').1, id⟩
  simp (config := { maxSteps := 4000000 }) only [↓sx0, ↓sx1, ↓sx2, ↓sx3, ↓sx4, ↓sx5, ↓sx6, sx0, sx1, sx2, sx3, sx4, sx5, sx6, tf123, ev3_hold, sxo, sxc, sxp, sxq, sxr, sxs, sxl, sxm, Int.reduceBEq, Int.reduceBNe, Int.reduceLT, Int.reduceLE, Int.reduceEq, Int.reduceGT, Int.reduceGE, Int.reduceToNat, ↓reduceIte, List.reduceReplicate, Nat.reduceAdd, Nat.reduceSub, Nat.reduceMul, Nat.reduceLT, Nat.reduceLeDiff, Nat.reduceBEq, Nat.reduceEqDiff]
  refine ld_old hm hmX ?_
  simp (config := { maxSteps := 4000000 }) only [↓sx0, ↓sx1, ↓sx2, ↓sx3, ↓sx4, ↓sx5, ↓sx6, sx0, sx1, sx2, sx3, sx4, sx5, sx6, tf123, ev3_hold, sxo, sxc, sxp, sxq, sxr, sxs, sxl, sxm, Int.reduceBEq, Int.reduceBNe, Int.reduceLT, Int.reduceLE, Int.reduceEq, Int.reduceGT, Int.reduceGE, Int.reduceToNat, ↓reduceIte, List.reduceReplicate, Nat.reduceAdd, Nat.reduceSub, Nat.reduceMul, Nat.reduceLT, Nat.reduceLeDiff, Nat.reduceBEq, Nat.reduceEqDiff, e1]
  refine loop_constH _ (HImp.refl _ _) [(9, 10), (19, 38)] (fun i : Nat => [(9, .bool false), (10, I i)])
    (fun i H1 => i ≤ below ∧ ∃ k1 C1 R1, k1 + (cmb (r + 1) ((idx below).drop i)).length = k + (cmb (r + 1) ((idx below).drop first)).length ∧ tailAt all ((cmb (r + 1) ((idx below).drop i)).map (list ++ ·)) k1 ∧ H1 = consu J (some k1) C1 R1 :: B0) (fun i => below - i) first ?_ ⟨hrl, k, C, R, rfl, hpart, rfl⟩ ?_
  · simp (config := { maxSteps := 4000000 }) only [↓sx0, ↓sx1, ↓sx2, ↓sx3, ↓sx4, ↓sx5, ↓sx6, sx0, sx1, sx2, sx3, sx4, sx5, sx6, tf123, ev3_hold, sxo, sxc, sxp, sxq, sxr, sxs, sxl, sxm, Int.reduceBEq, Int.reduceBNe, Int.reduceLT, Int.reduceLE, Int.reduceEq, Int.reduceGT, Int.reduceGE, Int.reduceToNat, ↓reduceIte, List.reduceReplicate, Nat.reduceAdd, Nat.reduceSub, Nat.reduceMul, Nat.reduceLT, Nat.reduceLeDiff, Nat.reduceBEq, Nat.reduceEqDiff]
    try simp
  rintro i H1 g1 ⟨hi, k1, C1, R1, hk1, hp1, rfl⟩
  by_cases hin : i = below
  · have e7 : ((i : Int) < (below : Int)) = False := eq_false (by omega)
    rw [List.drop_of_length_le (by rw [idx_len]; omega), cmb, List.length_nil, Nat.add_zero] at hk1
    refine ⟨?_⟩
    simp (config := { maxSteps := 4000000 }) only [↓sx0, ↓sx1, ↓sx2, ↓sx3, ↓sx4, ↓sx5, ↓sx6, sx0, sx1, sx2, sx3, sx4, sx5, sx6, tf123, ev3_hold, sxo, sxc, sxp, sxq, sxr, sxs, sxl, sxm, Int.reduceBEq, Int.reduceBNe, Int.reduceLT, Int.reduceLE, Int.reduceEq, Int.reduceGT, Int.reduceGE, Int.reduceToNat, ↓reduceIte, List.reduceReplicate, Nat.reduceAdd, Nat.reduceSub, Nat.reduceMul, Nat.reduceLT, Nat.reduceLeDiff, Nat.reduceBEq, Nat.reduceEqDiff]
    refine ld_old hb hbX ?_
    simp (config := { maxSteps := 4000000 }) only [↓sx0, ↓sx1, ↓sx2, ↓sx3, ↓sx4, ↓sx5, ↓sx6, sx0, sx1, sx2, sx3, sx4, sx5, sx6, tf123, ev3_hold, sxo, sxc, sxp, sxq, sxr, sxs, sxl, sxm, Int.reduceBEq, Int.reduceBNe, Int.reduceLT, Int.reduceLE, Int.reduceEq, Int.reduceGT, Int.reduceGE, Int.reduceToNat, ↓reduceIte, List.reduceReplicate, Nat.reduceAdd, Nat.reduceSub, Nat.reduceMul, Nat.reduceLT, Nat.reduceLeDiff, Nat.reduceBEq, Nat.reduceEqDiff, e7]
    exact ⟨true, C1, R1, rfl, by rw [hk1]; exact List.mem_cons_self⟩
  have e7 : ((i : Int) < (below : Int)) = True := eq_true (by omega)
  have e8 : wr (i + 1) = ((i + 1 : Nat) : Int) := (wrap_id (by omega)).trans (by omega)
  have hil : i < (idx below).length := by rw [idx_len]; omega
  rw [cmb_drop r hil, idx_get hil] at hk1 hp1
  rw [List.map_append] at hp1
  have hpl := tailAt_left hp1
  have hpr := tailAt_right hp1
  rw [List.map_map] at hpl
  rw [List.length_append, List.length_map] at hk1
  rw [List.length_map, List.length_map] at hpr
  obtain ⟨x, hx⟩ : ∃ x : Int, (i : Int) = x := ⟨_, rfl⟩
  have hfun : ((list ++ ·) ∘ ((i : Int) :: ·) : List Int → List Int) = ((list ++ [(i : Int)]) ++ ·) := by
    funext y
    simp
  rw [hfun] at hpl
  have hcall : ∀ (ad2 : Addr) (c2 : Nat) (H : List HO) (kont : Value → List HO → Prop), (∀ b, (Value.slice (some ad2) (list.length + 1) c2).ownBlock = some b → w.heap.size ≤ b) →
      HImp ⟨w, C⟩ H ([consu J (some k1) C1 R1, .row (.slice (some ad2) (list.length + 1) c2) 3 1 (ints (list ++ [(i : Int)]))] ++ B0) → (∀ v N, FrP J (k1 + (cmb r ((idx below).drop (i + 1))).length) v N → SX.Hid (kont v (N ++ B0))) →
      CallOb Tryz.prog ⟨w, C⟩ false (.fn 123) [.slice (some ad2) (list.length + 1) c2, I ((i + 1 : Nat) : Int), .func (.yield l) #[] #[], .pointer (some ⟨bm, 0, none⟩), .pointer (some ⟨bl, 0, none⟩), .pointer (some ⟨bf, 0, none⟩)] H kont := fun ad2 c2 H kont hnew hi hk => by
    refine CallOb.mutZ C1 (fun b => C1 b ∨ R1 b ∨ (Value.slice (some ad2) (list.length + 1) c2).ownBlock = some b) hi (fun b hb => ⟨_, List.mem_cons_self, hb⟩) (fun b hb => ?_) (fun w' hp => ?_) hk
    · rcases hb with hb | hb | hb
      · exact ⟨_, List.mem_cons_self, .inl hb⟩
      · exact ⟨_, List.mem_cons_self, .inr hb⟩
      · exact ⟨_, List.mem_cons_of_mem _ List.mem_cons_self, hb⟩
    have hm1 : consu J (some k1) C1 R1 ∈ [consu J (some k1) C1 R1, HO.row (.slice (some ad2) (list.length + 1) c2) 3 1 (ints (list ++ [(i : Int)]))] ++ B0 := List.mem_cons_self
    have hm2 : HO.row (.slice (some ad2) (list.length + 1) c2) 3 1 (ints (list ++ [(i : Int)])) ∈ [consu J (some k1) C1 R1, HO.row (.slice (some ad2) (list.length + 1) c2) 3 1 (ints (list ++ [(i : Int)]))] ++ B0 := List.mem_cons_of_mem _ List.mem_cons_self
    have hold : ∀ b, C1 b → C b ∨ w.heap.size ≤ b := fun b hb => hp.old _ hm1 b hb
    have hnd := List.pairwise_cons.1 hp.nd
    refine ih w' k1 C1 R1 _ (list ++ [(i : Int)]) (i + 1) (hp.ext.into hks hXs) (fun b hb => (hold b hb).elim (hXs b) fun h => .inr (Nat.le_trans hks.size h)) (hp.ok _ hm1) (hp.ok _ hm2) (fun b hb => ⟨fun hC => (hnd.1 _ List.mem_cons_self b (.inl hC) hb).1 hC, Nat.le_trans hks.size (hnew b hb)⟩)
      ?_ ?_ ?_ ?_ ?_ ?_ (by rw [List.length_append, List.length_singleton]; omega) (by omega) hpl
    · exact (World.cell?_of_block (w := w) (hp.ext.block bm hmlt hmX)).trans hm
    · exact fun h => (hold bm h).elim hmX fun h => absurd hmlt (Nat.not_lt.2 h)
    · exact (World.cell?_of_block (w := w) (hp.ext.block bl hblt hbX)).trans hb
    · exact fun h => (hold bl h).elim hbX fun h => absurd hblt (Nat.not_lt.2 h)
    · exact (World.cell?_of_block (w := w) (hp.ext.block bf hflt hfX)).trans hf
    · exact fun h => (hold bf h).elim hfX fun h => absurd hflt (Nat.not_lt.2 h)
  have hend : ∀ (N : List HO) C2 R2, consu J (some (k1 + (cmb r ((idx below).drop (i + 1))).length)) C2 R2 ∈ N → ∃ H3, HImp ⟨w, C⟩ (N ++ B0) H3 ∧ (i + 1 ≤ below ∧ ∃ k1 C1 R1, k1 + (cmb (r + 1) ((idx below).drop (i + 1))).length = k + (cmb (r + 1) ((idx below).drop first)).length ∧ tailAt all ((cmb (r + 1) ((idx below).drop (i + 1))).map (list ++ ·)) k1 ∧ H3 = consu J (some k1) C1 R1 :: B0) := fun N C2 R2 hm =>
    ⟨_, HImp.append (HImp.pick hm), by omega, _, C2, R2, by omega, hpr, rfl⟩
  cases a with
  | none =>
    have hl0 : list = [] := ints_nilL (sl_nonilL hsl)
    subst hl0
    simp only [List.length_nil, Nat.zero_add, List.nil_append] at hcall
    refine ⟨?_⟩
    simp (config := { maxSteps := 4000000 }) only [↓sx0, ↓sx1, ↓sx2, ↓sx3, ↓sx4, ↓sx5, ↓sx6, sx0, sx1, sx2, sx3, sx4, sx5, sx6, tf123, ev3_hold, sxo, sxc, sxp, sxq, sxr, sxs, sxl, sxm, Int.reduceBEq, Int.reduceBNe, Int.reduceLT, Int.reduceLE, Int.reduceEq, Int.reduceGT, Int.reduceGE, Int.reduceToNat, ↓reduceIte, List.reduceReplicate, Nat.reduceAdd, Nat.reduceSub, Nat.reduceMul, Nat.reduceLT, Nat.reduceLeDiff, Nat.reduceBEq, Nat.reduceEqDiff]
    refine ld_old hb hbX ?_
    simp (config := { maxSteps := 4000000 }) only [↓sx0, ↓sx1, ↓sx2, ↓sx3, ↓sx4, ↓sx5, ↓sx6, sx0, sx1, sx2, sx3, sx4, sx5, sx6, tf123, ev3_hold, sxo, sxc, sxp, sxq, sxr, sxs, sxl, sxm, Int.reduceBEq, Int.reduceBNe, Int.reduceLT, Int.reduceLE, Int.reduceEq, Int.reduceGT, Int.reduceGE, Int.reduceToNat, ↓reduceIte, List.reduceReplicate, Nat.reduceAdd, Nat.reduceSub, Nat.reduceMul, Nat.reduceLT, Nat.reduceLeDiff, Nat.reduceBEq, Nat.reduceEqDiff, e7, e8, pl123_lk, pl123_6]
    refine ⟨by simp, by simp, by simp, by simp, ?_⟩
    refine ld_old hf hfX ?_
    unfold fromC
    simp (config := { maxSteps := 4000000 }) only [↓sx0, ↓sx1, ↓sx2, ↓sx3, ↓sx4, ↓sx5, ↓sx6, sx0, sx1, sx2, sx3, sx4, sx5, sx6, tf123, ev3_hold, sxo, sxc, sxp, sxq, sxr, sxs, sxl, sxm, Int.reduceBEq, Int.reduceBNe, Int.reduceLT, Int.reduceLE, Int.reduceEq, Int.reduceGT, Int.reduceGE, Int.reduceToNat, ↓reduceIte, List.reduceReplicate, Nat.reduceAdd, Nat.reduceSub, Nat.reduceMul, Nat.reduceLT, Nat.reduceLeDiff, Nat.reduceBEq, Nat.reduceEqDiff, pl123_lk, pl123_6]
    intro b
    refine app_nilN (f := i1) (i : Int) i1_len i1_one (by decide) fun ad2 c2 hnew => ?_
    simp (config := { maxSteps := 4000000 }) only [↓sx0, ↓sx1, ↓sx2, ↓sx3, ↓sx4, ↓sx5, ↓sx6, sx0, sx1, sx2, sx3, sx4, sx5, sx6, tf123, ev3_hold, sxo, sxc, sxp, sxq, sxr, sxs, sxl, sxm, Int.reduceBEq, Int.reduceBNe, Int.reduceLT, Int.reduceLE, Int.reduceEq, Int.reduceGT, Int.reduceGE, Int.reduceToNat, ↓reduceIte, List.reduceReplicate, Nat.reduceAdd, Nat.reduceSub, Nat.reduceMul, Nat.reduceLT, Nat.reduceLeDiff, Nat.reduceBEq, Nat.reduceEqDiff, hT, dn, pl123_lk, pl123_6]
    refine ⟨hT, hcall ad2 c2 _ _ hnew (HImp.swap _ _ _ _) ?_⟩
    rintro v N ⟨t, C2, R2, rfl, hm⟩
    cases t with
    | false =>
      refine ⟨?_⟩
      simp (config := { maxSteps := 4000000 }) only [↓sx0, ↓sx1, ↓sx2, ↓sx3, ↓sx4, ↓sx5, ↓sx6, sx0, sx1, sx2, sx3, sx4, sx5, sx6, tf123, ev3_hold, sxo, sxc, sxp, sxq, sxr, sxs, sxl, sxm, Int.reduceBEq, Int.reduceBNe, Int.reduceLT, Int.reduceLE, Int.reduceEq, Int.reduceGT, Int.reduceGE, Int.reduceToNat, ↓reduceIte, List.reduceReplicate, Nat.reduceAdd, Nat.reduceSub, Nat.reduceMul, Nat.reduceLT, Nat.reduceLeDiff, Nat.reduceBEq, Nat.reduceEqDiff, pl123_lk, pl123_6]
      exact ⟨false, C2, R2, rfl, List.mem_append_left _ hm⟩
    | true =>
      obtain ⟨H3, h1, h2⟩ := hend N C2 R2 hm
      refine ⟨?_⟩
      simp (config := { maxSteps := 4000000 }) only [↓sx0, ↓sx1, ↓sx2, ↓sx3, ↓sx4, ↓sx5, ↓sx6, sx0, sx1, sx2, sx3, sx4, sx5, sx6, tf123, ev3_hold, sxo, sxc, sxp, sxq, sxr, sxs, sxl, sxm, Int.reduceBEq, Int.reduceBNe, Int.reduceLT, Int.reduceLE, Int.reduceEq, Int.reduceGT, Int.reduceGE, Int.reduceToNat, ↓reduceIte, List.reduceReplicate, Nat.reduceAdd, Nat.reduceSub, Nat.reduceMul, Nat.reduceLT, Nat.reduceLeDiff, Nat.reduceBEq, Nat.reduceEqDiff, e8, pl123_lk, pl123_6]
      exact ⟨i + 1, H3, rfl, h1, h2, by omega⟩
  | some adl =>
    refine ⟨?_⟩
    simp (config := { maxSteps := 4000000 }) only [↓sx0, ↓sx1, ↓sx2, ↓sx3, ↓sx4, ↓sx5, ↓sx6, sx0, sx1, sx2, sx3, sx4, sx5, sx6, tf123, ev3_hold, sxo, sxc, sxp, sxq, sxr, sxs, sxl, sxm, Int.reduceBEq, Int.reduceBNe, Int.reduceLT, Int.reduceLE, Int.reduceEq, Int.reduceGT, Int.reduceGE, Int.reduceToNat, ↓reduceIte, List.reduceReplicate, Nat.reduceAdd, Nat.reduceSub, Nat.reduceMul, Nat.reduceLT, Nat.reduceLeDiff, Nat.reduceBEq, Nat.reduceEqDiff]
    refine ld_old hb hbX ?_
    simp (config := { maxSteps := 4000000 }) only [↓sx0, ↓sx1, ↓sx2, ↓sx3, ↓sx4, ↓sx5, ↓sx6, sx0, sx1, sx2, sx3, sx4, sx5, sx6, tf123, ev3_hold, sxo, sxc, sxp, sxq, sxr, sxs, sxl, sxm, Int.reduceBEq, Int.reduceBNe, Int.reduceLT, Int.reduceLE, Int.reduceEq, Int.reduceGT, Int.reduceGE, Int.reduceToNat, ↓reduceIte, List.reduceReplicate, Nat.reduceAdd, Nat.reduceSub, Nat.reduceMul, Nat.reduceLT, Nat.reduceLeDiff, Nat.reduceBEq, Nat.reduceEqDiff, e7, e8, pl123_lk, pl123_6]
    refine ⟨by omega, by omega, by omega, by omega, ?_⟩
    refine ld_old hf hfX ?_
    unfold fromC
    simp (config := { maxSteps := 4000000 }) only [↓sx0, ↓sx1, ↓sx2, ↓sx3, ↓sx4, ↓sx5, ↓sx6, sx0, sx1, sx2, sx3, sx4, sx5, sx6, tf123, ev3_hold, sxo, sxc, sxp, sxq, sxr, sxs, sxl, sxm, Int.reduceBEq, Int.reduceBNe, Int.reduceLT, Int.reduceLE, Int.reduceEq, Int.reduceGT, Int.reduceGE, Int.reduceToNat, ↓reduceIte, List.reduceReplicate, Nat.reduceAdd, Nat.reduceSub, Nat.reduceMul, Nat.reduceLT, Nat.reduceLeDiff, Nat.reduceBEq, Nat.reduceEqDiff, pl123_lk, pl123_6]
    intro b
    rw [show (if list.length = 0 then some adl else some (adl.add 0)) = some (if list.length = 0 then adl else adl.add 0) by split <;> rfl, Nat.sub_zero]
    refine app_roN (f := i1) (l := list) (m := [(i : Int)]) i1_len (by simp) (fun w' hp => ?_) (fun w' hp => row_hp List.mem_cons_self hp) (by simp only [List.length_cons, List.length_nil]; omega) fun b2 c2 hnew => ?_
    · exact sl_full (ro_hp (E := 3) (v := .slice (some adl) list.length c) (sz := 1) (xs := ints list) (by rw [← hB0]; simp) hp)
    simp (config := { maxSteps := 4000000 }) only [↓sx0, ↓sx1, ↓sx2, ↓sx3, ↓sx4, ↓sx5, ↓sx6, sx0, sx1, sx2, sx3, sx4, sx5, sx6, tf123, ev3_hold, sxo, sxc, sxp, sxq, sxr, sxs, sxl, sxm, Int.reduceBEq, Int.reduceBNe, Int.reduceLT, Int.reduceLE, Int.reduceEq, Int.reduceGT, Int.reduceGE, Int.reduceToNat, ↓reduceIte, List.reduceReplicate, Nat.reduceAdd, Nat.reduceSub, Nat.reduceMul, Nat.reduceLT, Nat.reduceLeDiff, Nat.reduceBEq, Nat.reduceEqDiff, hT, dn, pl123_lk, pl123_6]
    refine ⟨hT, hcall ⟨b2, 0, none⟩ c2 _ _ (fun b hb => ?_) ((HImp.tail2 _ _ _ _).trans (HImp.swap _ _ _ _)) ?_⟩
    · have h0 : b2 = b := by simpa [Value.ownBlock] using hb
      have h1 : w.heap.size ≤ b2 := hnew
      omega
    rintro v N ⟨t, C2, R2, rfl, hm⟩
    cases t with
    | false =>
      refine ⟨?_⟩
      simp (config := { maxSteps := 4000000 }) only [↓sx0, ↓sx1, ↓sx2, ↓sx3, ↓sx4, ↓sx5, ↓sx6, sx0, sx1, sx2, sx3, sx4, sx5, sx6, tf123, ev3_hold, sxo, sxc, sxp, sxq, sxr, sxs, sxl, sxm, Int.reduceBEq, Int.reduceBNe, Int.reduceLT, Int.reduceLE, Int.reduceEq, Int.reduceGT, Int.reduceGE, Int.reduceToNat, ↓reduceIte, List.reduceReplicate, Nat.reduceAdd, Nat.reduceSub, Nat.reduceMul, Nat.reduceLT, Nat.reduceLeDiff, Nat.reduceBEq, Nat.reduceEqDiff, pl123_lk, pl123_6]
      exact ⟨false, C2, R2, rfl, List.mem_append_left _ hm⟩
    | true =>
      obtain ⟨H3, h1, h2⟩ := hend N C2 R2 hm
      refine ⟨?_⟩
      simp (config := { maxSteps := 4000000 }) only [↓sx0, ↓sx1, ↓sx2, ↓sx3, ↓sx4, ↓sx5, ↓sx6, sx0, sx1, sx2, sx3, sx4, sx5, sx6, tf123, ev3_hold, sxo, sxc, sxp, sxq, sxr, sxs, sxl, sxm, Int.reduceBEq, Int.reduceBNe, Int.reduceLT, Int.reduceLE, Int.reduceEq, Int.reduceGT, Int.reduceGE, Int.reduceToNat, ↓reduceIte, List.reduceReplicate, Nat.reduceAdd, Nat.reduceSub, Nat.reduceMul, Nat.reduceLT, Nat.reduceLeDiff, Nat.reduceBEq, Nat.reduceEqDiff, e8, pl123_lk, pl123_6]
      exact ⟨i + 1, H3, rfl, h1, h2, by omega⟩
theorem choose2_it (w : World) (bf bl bm : Nat) (below many : Nat) (hmany : many ≤ 1000) (hll : below ≤ 1000) (hbf : w.cell? ⟨bf, 0, none⟩ = some (fromC bm bl bf)) (hbl : w.cell? ⟨bl, 0, none⟩ = some (I below)) (hbm : w.cell? ⟨bm, 0, none⟩ = some (I many)) :
    Iter Tryz.prog 124 [] [.pointer (some ⟨bf, 0, none⟩)] (cmb many (idx below)).length (listArg (cmb many (idx below))) (fun _ => False) (fun x => x = bf ∨ x = bl ∨ x = bm) w := by
  refine walkIterR _ [] [] (fun _ _ => det0_ok _ _) Tryz.func124 rfl Tryz.ntmps124 res124 (by kernel_rfl) fun y J C R hRs hH => ?_
  have hfX := hRs bf (.inl rfl)
  have hlX := hRs bl (.inr (.inl rfl))
  have hmX := hRs bm (.inr (.inr rfl))
  have dn : ∀ (g : Nat) (xs : List Value), det0 g xs = none := fun _ _ => rfl
  have hsz := World.block_lt_of_cell? w _ hbf
  have hmlt := World.block_lt_of_cell? w _ hbm
  have hllt := World.block_lt_of_cell? w _ hbl
  simp (config := { maxSteps := 4000000 }) only [↓sx0, ↓sx1, ↓sx2, ↓sx3, ↓sx4, ↓sx5, ↓sx6, sx0, sx1, sx2, sx3, sx4, sx5, sx6, tf124, ev3_hold, sxo, sxc, sxp, sxq, sxr, sxs, sxl, sxm, Int.reduceBEq, Int.reduceBNe, Int.reduceLT, Int.reduceLE, Int.reduceEq, Int.reduceGT, Int.reduceGE, Int.reduceToNat, ↓reduceIte, List.reduceReplicate, Nat.reduceAdd, Nat.reduceSub, Nat.reduceMul, Nat.reduceLT, Nat.reduceLeDiff, Nat.reduceBEq, Nat.reduceEqDiff]
  refine ld_old hbf hfX ?_
  unfold fromC
  simp (config := { maxSteps := 4000000 }) only [↓sx0, ↓sx1, ↓sx2, ↓sx3, ↓sx4, ↓sx5, ↓sx6, sx0, sx1, sx2, sx3, sx4, sx5, sx6, tf124, ev3_hold, sxo, sxc, sxp, sxq, sxr, sxs, sxl, sxm, Int.reduceBEq, Int.reduceBNe, Int.reduceLT, Int.reduceLE, Int.reduceEq, Int.reduceGT, Int.reduceGE, Int.reduceToNat, ↓reduceIte, List.reduceReplicate, Nat.reduceAdd, Nat.reduceSub, Nat.reduceMul, Nat.reduceLT, Nat.reduceLeDiff, Nat.reduceBEq, Nat.reduceEqDiff, dn]
  refine ⟨Tryz.call123, ?_⟩
  refine CallOb.mutZ (A := [consu J (some 0) C R, .row (.slice none 0 0) 3 1 (ints [])]) (B := []) (Post := FrP J (0 + (cmb many (idx below)).length)) C (fun b => C b ∨ R b ∨ (Value.slice none 0 0).ownBlock = some b) ((HImp.nilRow _ _ _ _).trans (HImp.swap _ _ _ _)) (fun b hb => ⟨_, List.mem_cons_self, hb⟩) (fun b hb => ?_) (fun w' hp => ?_) ?_
  · rcases hb with hb | hb | hb
    · exact ⟨_, List.mem_cons_self, .inl hb⟩
    · exact ⟨_, List.mem_cons_self, .inr hb⟩
    · simp [Value.ownBlock] at hb
  · refine choose1_fn (cmb many (idx below)) w C (fun _ => False) y J hH bm bl bf many below hmany hll many w' 0 C R _ [] 0 hp.ext (fun b hb => .inl (.inl hb)) (hp.ok _ List.mem_cons_self) (hp.ok _ (List.mem_cons_of_mem _ List.mem_cons_self)) (fun b hb => by simp [Value.ownBlock] at hb) ((World.cell?_of_block (w := w) (hp.ext.block bm hmlt hmX)).trans hbm) (fun h => hmX (.inl h)) ((World.cell?_of_block (w := w) (hp.ext.block bl hllt hlX)).trans hbl) (fun h => hlX (.inl h)) ((World.cell?_of_block (w := w) (hp.ext.block bf hsz hfX)).trans hbf) (fun h => hfX (.inl h)) (by simp) (Nat.zero_le _) ?_
    · have : (cmb many ((idx below).drop 0)).map (([] : List Int) ++ ·) = cmb many (idx below) := by
        rw [show (([] : List Int) ++ ·) = id from by funext x; rfl, List.map_id]
        rfl
      rw [this]
      exact tailAt_all _
  · rintro r N ⟨t, C2, R2, rfl, hm⟩
    refine ⟨?_⟩
    simp (config := { maxSteps := 4000000 }) only [↓sx0, ↓sx1, ↓sx2, ↓sx3, ↓sx4, ↓sx5, ↓sx6, sx0, sx1, sx2, sx3, sx4, sx5, sx6, tf124, ev3_hold, sxo, sxc, sxp, sxq, sxr, sxs, sxl, sxm, Int.reduceBEq, Int.reduceBNe, Int.reduceLT, Int.reduceLE, Int.reduceEq, Int.reduceGT, Int.reduceGE, Int.reduceToNat, ↓reduceIte, List.reduceReplicate, Nat.reduceAdd, Nat.reduceSub, Nat.reduceMul, Nat.reduceLT, Nat.reduceLeDiff, Nat.reduceBEq, Nat.reduceEqDiff]
    refine ⟨rfl, _, C2, R2, hm, ?_⟩
    cases t with
    | false => exact .inr rfl
    | true => exact .inl (congrArg some (Nat.zero_add _))
theorem choose_fn (w : World) (many below : Int) : SX.Fn Tryz.prog 78 [I many, I below] w (fun _ => False) fun r N => ∃ bf bl bm, r = .func (.func 124) #[] #[.pointer (some ⟨bf, 0, none⟩)] ∧ N = [HO.cells bf 206 [fromC bm bl bf], HO.cells bl 3 [I below], HO.cells bm 3 [I many]] := by
  refine walk [2, 3, 5] [] (det0_ok _ _) Tryz.func78 rfl Tryz.ntmps78 res78 (by kernel_rfl) no_facts ?_
  simp (config := { maxSteps := 4000000 }) only [↓sx0, ↓sx1, ↓sx2, ↓sx3, ↓sx4, ↓sx5, ↓sx6, sx0, sx1, sx2, sx3, sx4, sx5, sx6, tf78, ev3_hold, sxo, sxc, sxp, sxq, sxr, sxs, sxl, sxm, Int.reduceBEq, Int.reduceBNe, Int.reduceLT, Int.reduceLE, Int.reduceEq, Int.reduceGT, Int.reduceGE, Int.reduceToNat, ↓reduceIte, List.reduceReplicate, Nat.reduceAdd, Nat.reduceSub, Nat.reduceMul, Nat.reduceLT, Nat.reduceLeDiff, Nat.reduceBEq, Nat.reduceEqDiff]
  intro b1 b2 b3
  refine wr_cell (A := []) rfl (by simp) ?_
  simp (config := { maxSteps := 4000000 }) only [↓sx0, ↓sx1, ↓sx2, ↓sx3, ↓sx4, ↓sx5, ↓sx6, sx0, sx1, sx2, sx3, sx4, sx5, sx6, tf78, ev3_hold, sxo, sxc, sxp, sxq, sxr, sxs, sxl, sxm, Int.reduceBEq, Int.reduceBNe, Int.reduceLT, Int.reduceLE, Int.reduceEq, Int.reduceGT, Int.reduceGE, Int.reduceToNat, ↓reduceIte, List.reduceReplicate, Nat.reduceAdd, Nat.reduceSub, Nat.reduceMul, Nat.reduceLT, Nat.reduceLeDiff, Nat.reduceBEq, Nat.reduceEqDiff]
  exact ⟨b3, b2, b1, rfl, by simp [fromC]⟩
end Go.Proofs.YtpmodggfogahhaaGreatDoor

namespace Go.Proofs.YtpmodggfogahhaaGreatDoor
open Go.RowKit Go.SX
set_option linter.unusedSimpArgs false
set_option linter.unusedVariables false
def lexB : List Int → List Int → Bool
  | a :: x, b :: y => if a = b then lexB x y else decide (a < b)
  | _, _ => false
def befB (x y : List Int) : Bool := if x.length = y.length then lexB x y else decide (x.length < y.length)
theorem lexB_irr (x : List Int) : lexB x x = false := by
  induction x with
  | nil => rfl
  | cons a x ih => simp [lexB, ih]
theorem lexB_asym : ∀ {x y : List Int}, lexB x y = true → lexB y x = false := by
  intro x
  induction x with
  | nil => intro y h; simp [lexB] at h
  | cons a x ih =>
    intro y h
    cases y with
    | nil => simp [lexB] at h
    | cons b y =>
      simp only [lexB] at h ⊢
      by_cases e : a = b
      · subst e; simp only [if_true] at h ⊢; exact ih h
      · rw [if_neg e] at h; rw [if_neg (fun k => e k.symm)]
        simp only [decide_eq_true_eq, decide_eq_false_iff_not] at h ⊢
        omega
theorem lexB_trans : ∀ {x y z : List Int}, lexB x y = true → lexB y z = true → lexB x z = true := by
  intro x
  induction x with
  | nil => intro y z h; simp [lexB] at h
  | cons a x ih =>
    intro y z h h2
    cases y with
    | nil => simp [lexB] at h
    | cons b y =>
      cases z with
      | nil => simp [lexB] at h2
      | cons c z =>
        simp only [lexB] at h h2 ⊢
        by_cases e : a = b
        · subst e
          simp only [if_true] at h
          by_cases e2 : a = c
          · rw [if_pos e2] at h2 ⊢; exact ih h h2
          · rw [if_neg e2] at h2 ⊢; exact h2
        · rw [if_neg e, decide_eq_true_eq] at h
          by_cases e2 : b = c
          · subst e2; rw [if_neg e, decide_eq_true_eq]; exact h
          · rw [if_neg e2, decide_eq_true_eq] at h2
            rw [if_neg (by omega), decide_eq_true_eq]; omega
theorem lexB_tri : ∀ {x y : List Int}, x.length = y.length → lexB x y = false → lexB y x = false → x = y := by
  intro x
  induction x with
  | nil => intro y h _ _; exact (List.eq_nil_of_length_eq_zero h.symm).symm
  | cons a x ih =>
    intro y hl h h2
    cases y with
    | nil => simp at hl
    | cons b y =>
      simp only [lexB] at h h2
      by_cases e : a = b
      · subst e
        simp only [if_true] at h h2
        rw [ih (by simpa using hl) h h2]
      · rw [if_neg e, decide_eq_false_iff_not] at h
        rw [if_neg (fun k => e k.symm), decide_eq_false_iff_not] at h2
        omega
theorem befB_trans {x y z : List Int} (h : befB x y = true) (h2 : befB y z = true) : befB x z = true := by
  unfold befB at h h2 ⊢
  by_cases e1 : x.length = y.length
  · rw [if_pos e1] at h
    by_cases e2 : y.length = z.length
    · rw [if_pos e2] at h2; rw [if_pos (e1.trans e2)]; exact lexB_trans h h2
    · rw [if_neg e2, decide_eq_true_eq] at h2; rw [if_neg (by omega), decide_eq_true_eq]; omega
  · rw [if_neg e1, decide_eq_true_eq] at h
    by_cases e2 : y.length = z.length
    · rw [if_neg (by omega), decide_eq_true_eq]; omega
    · rw [if_neg e2, decide_eq_true_eq] at h2; rw [if_neg (by omega), decide_eq_true_eq]; omega
theorem befB_tri {x y : List Int} (h : befB x y = false) (h2 : befB y x = false) : x = y := by
  unfold befB at h h2
  by_cases e : x.length = y.length
  · rw [if_pos e] at h; rw [if_pos e.symm] at h2; exact lexB_tri e h h2
  · rw [if_neg e, decide_eq_false_iff_not] at h; rw [if_neg (fun k => e k.symm), decide_eq_false_iff_not] at h2; omega
theorem cmb_mem {α : Type} : ∀ {l : List α} {m : Nat} {x : List α}, x ∈ cmb m l ↔ x.Sublist l ∧ x.length = m := by
  intro l
  induction l with
  | nil =>
    intro m x
    cases m with
    | zero =>
      simp only [cmb, List.mem_singleton, List.sublist_nil]
      exact ⟨fun h => ⟨h, by rw [h]; rfl⟩, fun h => h.1⟩
    | succ m =>
      simp only [cmb, List.not_mem_nil, List.sublist_nil, false_iff]
      rintro ⟨rfl, h⟩
      cases h
  | cons a r ih =>
    intro m x
    cases m with
    | zero =>
      simp only [cmb, List.mem_singleton]
      exact ⟨fun h => by rw [h]; exact ⟨List.nil_sublist _, rfl⟩, fun h => List.eq_nil_of_length_eq_zero h.2⟩
    | succ m =>
      simp only [cmb, List.mem_append, List.mem_map]
      constructor
      · rintro (⟨y, hy, rfl⟩ | h)
        · have := ih.1 hy
          exact ⟨this.1.cons_cons a, by simp [this.2]⟩
        · have := ih.1 h
          exact ⟨this.1.cons a, this.2⟩
      · rintro ⟨h, hl⟩
        cases h with
        | cons _ h => exact .inr (ih.2 ⟨h, hl⟩)
        | cons_cons _ h => exact .inl ⟨_, ih.2 ⟨h, by simpa using hl⟩, rfl⟩
theorem cmb_sorted : ∀ {l : List Int} (m : Nat), l.Pairwise (· < ·) → (cmb m l).Pairwise fun x y => lexB x y = true := by
  intro l
  induction l with
  | nil =>
    intro m _
    cases m with
    | zero => exact List.pairwise_singleton _ _
    | succ m => exact List.Pairwise.nil
  | cons a r ih =>
    intro m h
    have h := List.pairwise_cons.1 h
    cases m with
    | zero => exact List.pairwise_singleton _ _
    | succ m =>
      refine List.pairwise_append.2 ⟨List.pairwise_map.2 ((ih m h.2).imp fun {x y} h => by simp [lexB, h]), ih (m + 1) h.2, fun x hx y hy => ?_⟩
      obtain ⟨x, _, rfl⟩ := List.mem_map.1 hx
      obtain ⟨hy1, hy2⟩ := cmb_mem.1 hy
      cases y with
      | nil => cases hy2
      | cons b y =>
        have := h.1 b (hy1.subset List.mem_cons_self)
        simp only [lexB]
        rw [if_neg (by omega), decide_eq_true_eq]
        exact this
theorem idx_succ (n : Nat) : idx (n + 1) = idx n ++ [(n : Int)] := by unfold idx; rw [List.range_succ, List.map_append]; rfl
theorem idx_mem {n : Nat} {i : Int} : i ∈ idx n ↔ 0 ≤ i ∧ i < n := by
  unfold idx
  rw [List.mem_map]
  constructor
  · rintro ⟨k, hk, rfl⟩
    rw [List.mem_range] at hk
    omega
  · intro h
    exact ⟨i.toNat, by rw [List.mem_range]; omega, by omega⟩
theorem idx_sorted (n : Nat) : (idx n).Pairwise (· < ·) := by
  induction n with
  | zero => exact List.Pairwise.nil
  | succ n ih =>
    rw [idx_succ]
    refine List.pairwise_append.2 ⟨ih, List.pairwise_singleton _ _, fun x hx y hy => ?_⟩
    rw [List.mem_singleton] at hy
    have := idx_mem.1 hx
    omega
def fstL (P : List Int → Bool) (n : Nat) : Option (List Int) := (List.range (n + 1)).findSome? fun m => (cmb m (idx n)).find? P
theorem fs_none {β : Type} (f : Nat → Option β) : ∀ n, (∀ m, m < n → f m = none) → (List.range n).findSome? f = none := by
  intro n
  induction n with
  | zero => intro _; rfl
  | succ n ih =>
    intro h
    rw [List.range_succ, List.findSome?_append, ih fun m hm => h m (by omega)]
    simp [h n (by omega)]
theorem fs_some {β : Type} (f : Nat → Option β) {k : Nat} {x : β} (h0 : ∀ m, m < k → f m = none) (h1 : f k = some x) : ∀ n, k < n → (List.range n).findSome? f = some x := by
  intro n
  induction n with
  | zero => intro h; omega
  | succ n ih =>
    intro h
    rw [List.range_succ, List.findSome?_append]
    by_cases e : k = n
    · subst e
      rw [fs_none f k h0]
      simp [h1]
    · rw [ih (by omega)]
      rfl
def Best (P : List Int → Bool) (n : Nat) (x : List Int) : Prop := x.Sublist (idx n) ∧ P x = true ∧ ∀ y, y.Sublist (idx n) → P y = true → befB y x = false
theorem Best.uniq {P : List Int → Bool} {n : Nat} {x y : List Int} (hx : Best P n x) (hy : Best P n y) : x = y := befB_tri (hy.2.2 x hx.1 hx.2.1) (hx.2.2 y hy.1 hy.2.1)
theorem sub_len {n : Nat} {y : List Int} (h : y.Sublist (idx n)) : y.length ≤ n := by have := h.length_le; rwa [idx_len] at this
theorem fst_none {P : List Int → Bool} {n : Nat} (h : fstL P n = none) : ∀ y, y.Sublist (idx n) → P y = false := by
  intro y hy
  have := (List.findSome?_eq_none_iff.1 h) y.length (by rw [List.mem_range]; have := sub_len hy; omega)
  have := List.find?_eq_none.1 this y (cmb_mem.2 ⟨hy, rfl⟩)
  simpa using this
theorem fst_some {P : List Int → Bool} {n : Nat} {x : List Int} (h : fstL P n = some x) : Best P n x := by
  have hx : ∃ k, k < n + 1 ∧ (∀ m, m < k → (cmb m (idx n)).find? P = none) ∧ (cmb k (idx n)).find? P = some x := by
    refine Classical.byContradiction fun hc => ?_
    have : ∀ k, k ≤ n + 1 → ∀ m, m < k → (cmb m (idx n)).find? P = none := by
      intro k
      induction k with
      | zero => intro _ m hm; omega
      | succ k ih =>
        intro hk m hm
        by_cases e : m = k
        · subst e
          cases hf : (cmb m (idx n)).find? P with
          | none => rfl
          | some y =>
            have h1 := fs_some (fun m => (cmb m (idx n)).find? P) (ih (by omega)) hf (n + 1) (by omega)
            have h2 : some x = some y := h.symm.trans h1
            cases h2
            exact absurd ⟨m, by omega, ih (by omega), hf⟩ hc
        · exact ih (by omega) m (by omega)
    have := fs_none (fun m => (cmb m (idx n)).find? P) (n + 1) (this (n + 1) (Nat.le_refl _))
    rw [show fstL P n = none from this] at h
    cases h
  obtain ⟨k, hk, h0, h1⟩ := hx
  obtain ⟨hp, i, hi, hxi, hbef⟩ := List.find?_eq_some_iff_getElem.1 h1
  have hm := cmb_mem.1 (List.mem_of_find?_eq_some h1)
  refine ⟨hm.1, hp, fun y hy hP => ?_⟩
  unfold befB
  by_cases e : y.length = x.length
  · rw [if_pos e]
    have hy' : y ∈ cmb k (idx n) := cmb_mem.2 ⟨hy, by omega⟩
    obtain ⟨j, hj, rfl⟩ := List.getElem_of_mem hy'
    rcases Nat.lt_trichotomy j i with h3 | h3 | h3
    · have := hbef j h3
      rw [hP] at this
      cases this
    · subst h3
      rw [hxi]
      exact lexB_irr _
    · have := List.pairwise_iff_getElem.1 (cmb_sorted k (idx_sorted n)) i j hi hj h3
      rw [hxi] at this
      exact lexB_asym this
  · rw [if_neg e, decide_eq_false_iff_not]
    intro hlt
    have := List.find?_eq_none.1 (h0 y.length (by omega)) y (cmb_mem.2 ⟨hy, rfl⟩)
    exact this hP
theorem Best.fst {P : List Int → Bool} {n : Nat} {x : List Int} (h : Best P n x) : fstL P n = some x := by
  cases hf : fstL P n with
  | none => have := fst_none hf x h.1; rw [h.2.1] at this; cases this
  | some y => rw [h.uniq (fst_some hf)]
def pick (p : Nat → Bool) (n : Nat) : List Int := ((List.range n).filter p).map fun (i : Nat) => (i : Int)
theorem pick_sub (p : Nat → Bool) (n : Nat) : (pick p n).Sublist (idx n) := List.Sublist.map _ List.filter_sublist
end Go.Proofs.YtpmodggfogahhaaGreatDoor

namespace Go.Proofs.YtpmodggfogahhaaGreatDoor
open Go.RowKit Go.SX
set_option maxRecDepth 10000
set_option maxHeartbeats 0
set_option linter.unusedSimpArgs false
set_option linter.unusedVariables false
def seatAt (cs : List Cls) (i : Int) : Int := match cs[i.toNat]? with | some b => b.seats | none => 0
def seatsL (cs : List Cls) (x : List Int) : Int := sumB (seatAt cs) x
theorem seatAt_bound {cs : List Cls} (hg : ∀ b ∈ cs, clsB b = true) (i : Int) : 0 ≤ seatAt cs i ∧ seatAt cs i ≤ (40 : Nat) := by
  unfold seatAt
  cases h : cs[i.toNat]? with
  | none => simp
  | some b =>
    have := (clsB_iff b).1 (hg b (List.mem_of_getElem? h))
    simp only []
    omega
theorem seats_fn (w : World) (v u : Value) (cs : List Cls) (x : List Int) (hs : Sl w v 7 (cat clc cs)) (hx : Sl w u 1 (ints x)) (hg : ∀ b ∈ cs, clsB b = true) (hin : ∀ i ∈ x, 0 ≤ i ∧ i < cs.length) (hxl : x.length ≤ 1000) (hcl : cs.length ≤ 1000) :
    SX.Fn Tryz.prog 79 [v, u] w (fun _ => False) fun r N => r = I (seatsL cs x) := by
  obtain ⟨a, n, c, rfl⟩ := hs.shape
  have hn := hs.le clc_len (by omega)
  subst hn
  obtain ⟨a2, n2, c2, rfl⟩ := hx.shape
  have hn := hx.le i1_len (by omega)
  subst hn
  have hr := hs.rd0
  have hr2 := hx.rd0
  have b1 := fun i => sumB_bound (seatAt cs) 40 (x.take i) fun y _ => seatAt_bound hg y
  have b3 : ∀ i, (x.take i).length * 40 ≤ 40000 := fun i => by
    rw [List.length_take]
    have : min i x.length ≤ 1000 := by omega
    omega
  obtain ⟨A, hA⟩ : ∃ A : Nat → Int, ∀ i, sumB (seatAt cs) (x.take i) = A i := ⟨_, fun _ => rfl⟩
  have hAs : ∀ i y, x[i]? = some y → A (i + 1) = A i + seatAt cs y := fun i y h => by rw [← hA, ← hA, sumB_take _ h]
  have hA0 : A 0 = 0 := by rw [← hA]; rfl
  have hAl : A x.length = seatsL cs x := by rw [← hA, List.take_length]; rfl
  simp only [hA] at b1
  rw [← hAl]
  refine walk [] [] (det0_ok _ _) Tryz.func79 rfl Tryz.ntmps79 res79 (by kernel_rfl) no_facts ?_
  simp (config := { maxSteps := 4000000 }) only [↓sx0, ↓sx1, ↓sx2, ↓sx3, ↓sx4, ↓sx5, ↓sx6, sx0, sx1, sx2, sx3, sx4, sx5, sx6, tf79, ev3_hold, sxo, sxc, sxp, sxq, sxr, sxs, sxl, sxm, simprocAttr]
  refine loop_constH [] (HImp.refl _ _) [(4, 4), (6, 6), (9, 20)] (fun i : Nat => [(4, I (A i)), (9, I i)]) (fun i H1 => i ≤ x.length ∧ H1 = []) (fun i => x.length - i) 0 ?_ ⟨Nat.zero_le _, rfl⟩ ?_
  · rw [hA0]
    simp (config := { maxSteps := 4000000 }) only [↓sx0, ↓sx1, ↓sx2, ↓sx3, ↓sx4, ↓sx5, ↓sx6, sx0, sx1, sx2, sx3, sx4, sx5, sx6, tf79, ev3_hold, sxo, sxc, sxp, sxq, sxr, sxs, sxl, sxm, simprocAttr]
    try simp
  rintro i H1 g1 ⟨hi, rfl⟩
  by_cases hin2 : i = x.length
  · have e7 : ((i : Int) < (x.length : Int)) = False := eq_false (by omega)
    subst hin2
    refine ⟨?_⟩
    simp (config := { maxSteps := 4000000 }) only [↓sx0, ↓sx1, ↓sx2, ↓sx3, ↓sx4, ↓sx5, ↓sx6, sx0, sx1, sx2, sx3, sx4, sx5, sx6, tf79, ev3_hold, sxo, sxc, sxp, sxq, sxr, sxs, sxl, sxm, simprocAttr, e7]
  have e7 : ((i : Int) < (x.length : Int)) = True := eq_true (by omega)
  have e2 : wr (i + 1) = ((i + 1 : Nat) : Int) := (wrap_id (by omega)).trans (by omega)
  have hil : i < x.length := by omega
  have hu := List.getElem?_eq_getElem hil
  obtain ⟨y, hy⟩ : ∃ y, x[i] = y := ⟨_, rfl⟩
  rw [hy] at hu
  obtain ⟨k, rfl⟩ : ∃ k : Nat, y = k := ⟨y.toNat, by have := hin y (by rw [← hy]; exact List.getElem_mem hil); omega⟩
  have hk : k < cs.length := by have := hin k (by rw [← hy]; exact List.getElem_mem hil); omega
  have hub := List.getElem?_eq_getElem hk
  obtain ⟨b, hb⟩ : ∃ b, cs[k] = b := ⟨_, rfl⟩
  rw [hb] at hub
  have hsa : seatAt cs k = b.seats := by unfold seatAt; rw [Int.toNat_natCast, hub]
  have c1 := hAs i k hu
  rw [hsa] at c1
  have d0 := seatAt_bound hg k
  rw [hsa] at d0
  have d1 := b1 i
  have d3 := b3 i
  have w3 : wr (A i + b.seats) = A (i + 1) := by rw [c1]; exact wrap_id (by omega)
  refine ⟨?_⟩
  simp (config := { maxSteps := 4000000 }) only [↓sx0, ↓sx1, ↓sx2, ↓sx3, ↓sx4, ↓sx5, ↓sx6, sx0, sx1, sx2, sx3, sx4, sx5, sx6, tf79, ev3_hold, sxo, sxc, sxp, sxq, sxr, sxs, sxl, sxm, simprocAttr, e7]
  refine amid (at_1 (hr2 _) i1_len hu rfl fun ad => ?_)
  simp (config := { maxSteps := 4000000 }) only [↓sx0, ↓sx1, ↓sx2, ↓sx3, ↓sx4, ↓sx5, ↓sx6, sx0, sx1, sx2, sx3, sx4, sx5, sx6, tf79, ev3_hold, sxo, sxc, sxp, sxq, sxr, sxs, sxl, sxm, simprocAttr]
  refine at_f (hr _) clc_len hub (o := 5) (x := I b.seats) rfl fun ad2 => ?_
  simp (config := { maxSteps := 4000000 }) only [↓sx0, ↓sx1, ↓sx2, ↓sx3, ↓sx4, ↓sx5, ↓sx6, sx0, sx1, sx2, sx3, sx4, sx5, sx6, tf79, ev3_hold, sxo, sxc, sxp, sxq, sxr, sxs, sxl, sxm, simprocAttr, w3, e2]
  exact ⟨i + 1, _, ⟨rfl, rfl⟩, HImp.nil _ _, ⟨by omega, rfl⟩, by omega⟩
def boardE (cs : List Cls) (people : Int) : Int := if cs.length > 10 then 2 else if cs.any badC then 50 else if people < 0 then 1 else 0
def GotR (v : Value) (x : List Int) (N : List HO) : Prop := ∃ a c, v = .slice a x.length c ∧ (a = none → x = []) ∧ HO.ro (.row (.slice a x.length c) 3 1 (ints x)) ∈ N
theorem GotR.rdv {v : Value} {x : List Int} {N H : List HO} {w0 : Base} (h : GotR v x N) (hm : ∀ h ∈ N, h ∈ H) : Rdv w0 H v 1 (ints x) := by
  obtain ⟨a, c, rfl, h1, h2⟩ := h
  exact ro_rdv (hm _ h2) ⟨_, _, _, rfl, by rw [cat_len i1_len], fun h => by rw [h1 h]; rfl⟩
theorem GotR.hp {v : Value} {x : List Int} {N H : List HO} {w0 : Base} {w : World} (h : GotR v x N) (hm : ∀ h ∈ N, h ∈ H) (hp : Hp w0 H w) : Sl w v 1 (ints x) := by
  obtain ⟨a, c, rfl, h1, h2⟩ := h
  exact ro_hp (hm _ h2) hp
def FstP (P : List Int → Bool) (n : Nat) (q : Value) (N : List HO) : Prop := (fstL P n = none ∧ q = .tuple #[.slice none 0 0, I 3]) ∨ ∃ x v, fstL P n = some x ∧ q = .tuple #[v, I 0] ∧ GotR v x N
def BoardP (cs : List Cls) (people : Int) (q : Value) (N : List HO) : Prop := (boardE cs people ≠ 0 ∧ q = .tuple #[.slice none 0 0, I (boardE cs people)]) ∨ (boardE cs people = 0 ∧ FstP (fun x => decide (seatsL cs x ≥ people)) cs.length q N)
theorem find_step {P : List Int → Bool} {l : List (List Int)} {k : Nat} {x : List Int} (hx : l[k]? = some x) (h : ∀ q y, q < k → l[q]? = some y → P y = false) (hp : P x = true) : l.find? P = some x := by
  obtain ⟨hk, rfl⟩ := List.getElem?_eq_some_iff.1 hx
  refine List.find?_eq_some_iff_getElem.2 ⟨hp, k, hk, rfl, fun j hj => ?_⟩
  rw [h j _ hj (List.getElem?_eq_getElem (by omega))]
  rfl
theorem find_no {P : List Int → Bool} {l : List (List Int)} (h : ∀ q y, q < l.length → l[q]? = some y → P y = false) : l.find? P = none := by
  refine List.find?_eq_none.2 fun y hy => ?_
  obtain ⟨q, hq, rfl⟩ := List.getElem_of_mem hy
  rw [h q _ hq (List.getElem?_eq_getElem hq)]
  simp
def pl33_12 : Plan := (ones [1] (.ld 0 (.ld 3 (ones [2, 4] .fin))))
def pl33 : List (Nat × Plan) := [(12, pl33_12)]
theorem pl33_lk : (lkO 12 pl33 = some pl33_12) ∧ (lkO 11 pl33 = none) ∧ (lkO 13 pl33 = none) := ⟨rfl, rfl, rfl⟩
theorem board_fn (w : World) (v : Value) (cs : List Cls) (people : Int) (hs : Sl w v 7 (cat clc cs)) (hcl : cs.length ≤ 1000) :
    SX.Fn Tryz.prog 33 [v, I people] w (fun _ => False) (BoardP cs people) := by
  obtain ⟨a, n, c, rfl⟩ := hs.shape
  have hn := hs.le clc_len (by omega)
  subst hn
  have dn : ∀ (g : Nat) (xs : List Value), det0 g xs = none := fun _ _ => rfl
  unfold BoardP
  obtain ⟨E, hE⟩ : ∃ E, boardE cs people = E := ⟨_, rfl⟩
  rw [hE]
  unfold boardE at hE
  by_cases h1 : cs.length > 10
  · have e1 : ((cs.length : Int) > 10) = True := eq_true (by omega)
    rw [if_pos h1] at hE
    subst hE
    refine walk [] pl33 (det0_ok _ _) Tryz.func33 rfl Tryz.ntmps33 res33 (by kernel_rfl) no_facts ?_
    simp (config := { maxSteps := 4000000 }) only [↓sx0, ↓sx1, ↓sx2, ↓sx3, ↓sx4, ↓sx5, ↓sx6, sx0, sx1, sx2, sx3, sx4, sx5, sx6, tf33, ev3_hold, sxo, sxc, sxp, sxq, sxr, sxs, sxl, sxm, simprocAttr, e1]
    exact .inl trivial
  have e1 : ((cs.length : Int) > 10) = False := eq_false (by omega)
  rw [if_neg h1] at hE
  cases h2 : cs.any badC with
  | true =>
    rw [h2, if_pos rfl] at hE
    subst hE
    refine walk [] pl33 (det0_ok _ _) Tryz.func33 rfl Tryz.ntmps33 res33 (by kernel_rfl) no_facts ?_
    simp (config := { maxSteps := 4000000 }) only [↓sx0, ↓sx1, ↓sx2, ↓sx3, ↓sx4, ↓sx5, ↓sx6, sx0, sx1, sx2, sx3, sx4, sx5, sx6, tf33, ev3_hold, sxo, sxc, sxp, sxq, sxr, sxs, sxl, sxm, simprocAttr, e1, dn]
    refine CallOb.pureH (fun w' hp => containsC_fn w' _ cs _ [] badC (hs.hp (fun _ _ => id) hp) hcl (tells_badC w')) ?_
    rintro r N rfl
    refine ⟨?_⟩
    simp (config := { maxSteps := 4000000 }) only [↓sx0, ↓sx1, ↓sx2, ↓sx3, ↓sx4, ↓sx5, ↓sx6, sx0, sx1, sx2, sx3, sx4, sx5, sx6, tf33, ev3_hold, sxo, sxc, sxp, sxq, sxr, sxs, sxl, sxm, simprocAttr, h2]
    exact .inl trivial
  | false =>
  rw [h2, if_neg (by simp)] at hE
  by_cases h3 : people < 0
  · have e3 : (people < 0) = True := eq_true h3
    rw [if_pos h3] at hE
    subst hE
    refine walk [] pl33 (det0_ok _ _) Tryz.func33 rfl Tryz.ntmps33 res33 (by kernel_rfl) no_facts ?_
    simp (config := { maxSteps := 4000000 }) only [↓sx0, ↓sx1, ↓sx2, ↓sx3, ↓sx4, ↓sx5, ↓sx6, sx0, sx1, sx2, sx3, sx4, sx5, sx6, tf33, ev3_hold, sxo, sxc, sxp, sxq, sxr, sxs, sxl, sxm, simprocAttr, e1, dn]
    refine CallOb.pureH (fun w' hp => containsC_fn w' _ cs _ [] badC (hs.hp (fun _ _ => id) hp) hcl (tells_badC w')) ?_
    rintro r N rfl
    refine ⟨?_⟩
    simp (config := { maxSteps := 4000000 }) only [↓sx0, ↓sx1, ↓sx2, ↓sx3, ↓sx4, ↓sx5, ↓sx6, sx0, sx1, sx2, sx3, sx4, sx5, sx6, tf33, ev3_hold, sxo, sxc, sxp, sxq, sxr, sxs, sxl, sxm, simprocAttr, h2, e3]
    exact .inl trivial
  have e3 : (people < 0) = False := eq_false h3
  rw [if_neg h3] at hE
  subst hE
  have hg : ∀ b ∈ cs, clsB b = true := fun b hb => by
    rw [List.any_eq_false] at h2
    simpa [badC] using h2 b hb
  have hlen : wr ((cs.length : Int) + 1) = ((cs.length + 1 : Nat) : Int) := (wrap_id (by omega)).trans (by omega)
  obtain ⟨P, hP⟩ : ∃ P : List Int → Bool, (fun x => decide (seatsL cs x ≥ people)) = P := ⟨_, rfl⟩
  have hP1 : ∀ x, P x = decide (seatsL cs x ≥ people) := fun x => by rw [← hP]
  rw [hP]
  have hfin : (∀ m, m < cs.length + 1 → (cmb m (idx cs.length)).find? P = none) → fstL P cs.length = none := fun h => fs_none _ _ h
  have hfou : ∀ m x, m < cs.length + 1 → (∀ m', m' < m → (cmb m' (idx cs.length)).find? P = none) → (cmb m (idx cs.length)).find? P = some x → fstL P cs.length = some x := fun m x hm h0 h1 => fs_some _ h0 h1 _ hm
  refine walk [] pl33 (det0_ok _ _) Tryz.func33 rfl Tryz.ntmps33 res33 (by kernel_rfl) no_facts ?_
  simp (config := { maxSteps := 4000000 }) only [↓sx0, ↓sx1, ↓sx2, ↓sx3, ↓sx4, ↓sx5, ↓sx6, sx0, sx1, sx2, sx3, sx4, sx5, sx6, tf33, ev3_hold, sxo, sxc, sxp, sxq, sxr, sxs, sxl, sxm, simprocAttr, e1, dn]
  refine CallOb.pureH (fun w' hp => containsC_fn w' _ cs _ [] badC (hs.hp (fun _ _ => id) hp) hcl (tells_badC w')) ?_
  rintro r N rfl
  refine ⟨?_⟩
  simp (config := { maxSteps := 4000000 }) only [↓sx0, ↓sx1, ↓sx2, ↓sx3, ↓sx4, ↓sx5, ↓sx6, sx0, sx1, sx2, sx3, sx4, sx5, sx6, tf33, ev3_hold, sxo, sxc, sxp, sxq, sxr, sxs, sxl, sxm, simprocAttr, h2, e3, hlen]
  refine loop_constH [] (HImp.nil _ _) [(6, 7), (18, 32)] (fun i : Nat => [(18, I i)]) (fun i H1 => i ≤ cs.length + 1 ∧ (∀ m, m < i → (cmb m (idx cs.length)).find? P = none) ∧ H1 = []) (fun i => cs.length + 1 - i) 0 ?_ ⟨Nat.zero_le _, fun m hm => by omega, rfl⟩ ?_
  · simp (config := { maxSteps := 4000000 }) only [↓sx0, ↓sx1, ↓sx2, ↓sx3, ↓sx4, ↓sx5, ↓sx6, sx0, sx1, sx2, sx3, sx4, sx5, sx6, tf33, ev3_hold, sxo, sxc, sxp, sxq, sxr, sxs, sxl, sxm, simprocAttr]
    try simp
  rintro i H1 g1 ⟨hi, hno, rfl⟩
  by_cases hin : i = cs.length + 1
  · have e7 : ((i : Int) < ((cs.length + 1 : Nat) : Int)) = False := eq_false (by omega)
    have hz := hfin fun m hm => hno m (by omega)
    refine ⟨?_⟩
    simp (config := { maxSteps := 4000000 }) only [↓sx0, ↓sx1, ↓sx2, ↓sx3, ↓sx4, ↓sx5, ↓sx6, sx0, sx1, sx2, sx3, sx4, sx5, sx6, tf33, ev3_hold, sxo, sxc, sxp, sxq, sxr, sxs, sxl, sxm, simprocAttr, e7]
    exact .inr (Or.inl ⟨hz, rfl⟩)
  have e7 : ((i : Int) < ((cs.length + 1 : Nat) : Int)) = True := eq_true (by omega)
  have e8 : wr (i + 1) = ((i + 1 : Nat) : Int) := (wrap_id (by omega)).trans (by omega)
  obtain ⟨all, hall⟩ : ∃ all, cmb i (idx cs.length) = all := ⟨_, rfl⟩
  have hmem : ∀ x ∈ all, x.Sublist (idx cs.length) := fun x hx => (cmb_mem.1 (by rw [hall]; exact hx)).1
  refine ⟨?_⟩
  simp (config := { maxSteps := 4000000 }) only [↓sx0, ↓sx1, ↓sx2, ↓sx3, ↓sx4, ↓sx5, ↓sx6, sx0, sx1, sx2, sx3, sx4, sx5, sx6, tf33, ev3_hold, sxo, sxc, sxp, sxq, sxr, sxs, sxl, sxm, simprocAttr, e7, dn]
  refine CallOb.pureH (fun w' hp => choose_fn w' i cs.length) ?_
  rintro r N2 ⟨bf, bl, bm, rfl, rfl⟩
  refine ⟨?_⟩
  simp (config := { maxSteps := 4000000 }) only [↓sx0, ↓sx1, ↓sx2, ↓sx3, ↓sx4, ↓sx5, ↓sx6, sx0, sx1, sx2, sx3, sx4, sx5, sx6, tf33, ev3_hold, sxo, sxc, sxp, sxq, sxr, sxs, sxl, sxm, simprocAttr]
  refine range_introH Tryz.call124 all.length (listArg all) [HO.cells bf 206 [fromC bm bl bf], HO.cells bl 3 [I cs.length], HO.cells bm 3 [I i]] [] (fun k L' H' => H' = [] ∧ L' = [(76, [.slice a cs.length c]), (3, [I people]), (22, [.slice none 0 0]), (33, [I 0])] ∧ ∀ q y, q < k → all[q]? = some y → P y = false) (fun _ => False) (fun x => x = bf ∨ x = bl ∨ x = bm) (HImp.refl _ _) (fun b h => h.elim) (fun b hb => .inr ?_) (fun w' hp => by rw [← hall]; exact choose2_it w' bf bl bm cs.length i (by omega) (by omega) (cells_hp List.mem_cons_self hp) (cells_hp (List.mem_cons_of_mem _ List.mem_cons_self) hp) (cells_hp (List.mem_cons_of_mem _ (List.mem_cons_of_mem _ List.mem_cons_self)) hp)) ⟨rfl, rfl, fun q y hq => by omega⟩ ?_ ?_ ?_
  · rcases hb with rfl | rfl | rfl
    · exact ⟨_, List.mem_cons_self, rfl⟩
    · exact ⟨_, List.mem_cons_of_mem _ List.mem_cons_self, rfl⟩
    · exact ⟨_, List.mem_cons_of_mem _ (List.mem_cons_of_mem _ List.mem_cons_self), rfl⟩
  · rintro k vs F ⟨x, a1, c1, h1, rfl, h2, rfl⟩
    rfl
  · rintro k vs F L' H' hk ⟨x, a1, c1, hx, rfl, hx0, rfl⟩ hL ⟨rfl, rfl, hq⟩
    have hsub := hmem x (List.mem_of_getElem? hx)
    have hxl := sub_len hsub
    have hxin : ∀ j ∈ x, 0 ≤ j ∧ j < cs.length := fun j hj => idx_mem.1 (hsub.subset hj)
    have hst := fun (w' : World) (hp : Hp ⟨w, fun _ => False⟩ [HO.ro (.row (.slice a1 x.length c1) 3 1 (ints x))] w') => seats_fn w' _ _ cs x (hs.hp (fun _ _ => id) hp) (ro_hp List.mem_cons_self hp) hg hxin (by omega) hcl
    obtain ⟨S, hS⟩ : ∃ S, seatsL cs x = S := ⟨_, rfl⟩
    rw [hS] at hst
    have hPx := hP1 x
    rw [hS] at hPx
    by_cases hge : S ≥ people
    · have e9 : (S ≥ people) = True := eq_true hge
      rw [decide_eq_true hge] at hPx
      have hz := hfou i x (by omega) hno (by rw [hall]; exact find_step hx hq hPx)
      refine ⟨?_⟩
      simp (config := { maxSteps := 4000000 }) only [↓sx0, ↓sx1, ↓sx2, ↓sx3, ↓sx4, ↓sx5, ↓sx6, sx0, sx1, sx2, sx3, sx4, sx5, sx6, tf33, ev3_hold, sxo, sxc, sxp, sxq, sxr, sxs, sxl, sxm, simprocAttr, dn, pl33_lk, pl33_12]
      refine CallOb.pureH (fun w' hp => hst w' hp) ?_
      rintro r N3 rfl
      refine ⟨?_⟩
      simp (config := { maxSteps := 4000000 }) only [↓sx0, ↓sx1, ↓sx2, ↓sx3, ↓sx4, ↓sx5, ↓sx6, sx0, sx1, sx2, sx3, sx4, sx5, sx6, tf33, ev3_hold, sxo, sxc, sxp, sxq, sxr, sxs, sxl, sxm, simprocAttr, e9, pl33_lk, pl33_12]
      exact ⟨_, HImp.app _ _ _, .inr (Or.inr ⟨x, _, hz, rfl, a1, c1, rfl, hx0, List.mem_cons_self⟩)⟩
    · have e9 : (S ≥ people) = False := eq_false hge
      rw [decide_eq_false hge] at hPx
      refine ⟨?_⟩
      simp (config := { maxSteps := 4000000 }) only [↓sx0, ↓sx1, ↓sx2, ↓sx3, ↓sx4, ↓sx5, ↓sx6, sx0, sx1, sx2, sx3, sx4, sx5, sx6, tf33, ev3_hold, sxo, sxc, sxp, sxq, sxr, sxs, sxl, sxm, simprocAttr, dn, pl33_lk, pl33_12]
      refine CallOb.pureH (fun w' hp => hst w' hp) ?_
      rintro r N3 rfl
      refine ⟨?_⟩
      simp (config := { maxSteps := 4000000 }) only [↓sx0, ↓sx1, ↓sx2, ↓sx3, ↓sx4, ↓sx5, ↓sx6, sx0, sx1, sx2, sx3, sx4, sx5, sx6, tf33, ev3_hold, sxo, sxc, sxp, sxq, sxr, sxs, sxl, sxm, simprocAttr, e9, pl33_lk, pl33_12]
      refine ⟨_, HImp.nil _ _, rfl, fun q y hqk hy => ?_⟩
      by_cases e : q = k
      · subst e
        rw [hx] at hy
        cases hy
        exact hPx
      · exact hq q y (by omega) hy
  · rintro L' H' hL ⟨rfl, rfl, hq⟩
    have hz := find_no hq
    rw [← hall] at hz
    refine ⟨?_⟩
    simp (config := { maxSteps := 4000000 }) only [↓sx0, ↓sx1, ↓sx2, ↓sx3, ↓sx4, ↓sx5, ↓sx6, sx0, sx1, sx2, sx3, sx4, sx5, sx6, tf33, ev3_hold, sxo, sxc, sxp, sxq, sxr, sxs, sxl, sxm, simprocAttr, e8]
    refine ⟨i + 1, _, rfl, HImp.refl _ _, ⟨by omega, fun m hm => ?_, rfl⟩, by omega⟩
    by_cases e : m = i
    · subst e
      exact hz
    · exact hno m (by omega)
end Go.Proofs.YtpmodggfogahhaaGreatDoor

namespace Go.Proofs.YtpmodggfogahhaaGreatDoor
open Go.RowKit Go.SX
set_option maxRecDepth 10000
set_option maxHeartbeats 0
set_option linter.unusedSimpArgs false
set_option linter.unusedVariables false
def rightsV (b : Cls) (l : List (Int × Int × Int)) : Value := if loadE b l = 0 then .tuple #[.bool (decide (sumB highM l ≤ b.moment)), .bool (decide (sumB lowM l ≤ b.moment)), I 0] else .tuple #[.bool false, .bool false, I (loadE b l)]
theorem rights_fn (w : World) (v : Value) (b : Cls) (l : List (Int × Int × Int)) (hs : Sl w v 3 (cat ldc l)) (hl : l.length ≤ 1000) :
    SX.Fn Tryz.prog 34 [clv b, v] w (fun _ => False) fun r N => r = rightsV b l := by
  have dn : ∀ (g : Nat) (xs : List Value), det0 g xs = none := fun _ _ => rfl
  have hlo := fun (H : List HO) w' (hp : Hp ⟨w, fun _ => False⟩ H w') => loaded_fn w' v b l (hs.hp (fun _ _ => id) hp) hl
  unfold rightsV
  unfold clv
  unfold clv at hlo
  by_cases hE : loadE b l = 0
  · have hz := loadE_zero hE
    have hm := fun (H : List HO) w' (hp : Hp ⟨w, fun _ => False⟩ H w') => moments_fn w' v l (hs.hp (fun _ _ => id) hp) hl hz.2.2
    rw [if_pos hE]
    rw [hE] at hlo
    refine walk [] [] (det0_ok _ _) Tryz.func34 rfl Tryz.ntmps34 res34 (by kernel_rfl) no_facts ?_
    simp (config := { maxSteps := 4000000 }) only [↓sx0, ↓sx1, ↓sx2, ↓sx3, ↓sx4, ↓sx5, ↓sx6, sx0, sx1, sx2, sx3, sx4, sx5, sx6, tf34, ev3_hold, sxo, sxc, sxp, sxq, sxr, sxs, sxl, sxm, simprocAttr, dn]
    refine CallOb.pureH (fun w' hp => hlo _ w' hp) ?_
    rintro r N rfl
    refine ⟨?_⟩
    simp (config := { maxSteps := 4000000 }) only [↓sx0, ↓sx1, ↓sx2, ↓sx3, ↓sx4, ↓sx5, ↓sx6, sx0, sx1, sx2, sx3, sx4, sx5, sx6, tf34, ev3_hold, sxo, sxc, sxp, sxq, sxr, sxs, sxl, sxm, simprocAttr, dn]
    refine CallOb.pureH (fun w' hp => hm _ w' hp) ?_
    rintro r N2 rfl
    refine ⟨?_⟩
    simp (config := { maxSteps := 4000000 }) only [↓sx0, ↓sx1, ↓sx2, ↓sx3, ↓sx4, ↓sx5, ↓sx6, sx0, sx1, sx2, sx3, sx4, sx5, sx6, tf34, ev3_hold, sxo, sxc, sxp, sxq, sxr, sxs, sxl, sxm, simprocAttr]
  · have e1 : (loadE b l = 0) = False := eq_false hE
    rw [if_neg hE]
    refine walk [] [] (det0_ok _ _) Tryz.func34 rfl Tryz.ntmps34 res34 (by kernel_rfl) no_facts ?_
    simp (config := { maxSteps := 4000000 }) only [↓sx0, ↓sx1, ↓sx2, ↓sx3, ↓sx4, ↓sx5, ↓sx6, sx0, sx1, sx2, sx3, sx4, sx5, sx6, tf34, ev3_hold, sxo, sxc, sxp, sxq, sxr, sxs, sxl, sxm, simprocAttr, dn]
    refine CallOb.pureH (fun w' hp => hlo _ w' hp) ?_
    rintro r N rfl
    refine ⟨?_⟩
    simp (config := { maxSteps := 4000000 }) only [↓sx0, ↓sx1, ↓sx2, ↓sx3, ↓sx4, ↓sx5, ↓sx6, sx0, sx1, sx2, sx3, sx4, sx5, sx6, tf34, ev3_hold, sxo, sxc, sxp, sxq, sxr, sxs, sxl, sxm, simprocAttr, e1]
end Go.Proofs.YtpmodggfogahhaaGreatDoor

