/- Parts of a proof: the symbolic walk and what it shows of single functions. -/
import Derived.Test.YtgpglmcbopfddaaK5
import Derived.Test.YtgpglmcbopfddaaX3
set_option linter.all false
namespace Go.Proofs.Ytgpglmcbopfddaa
open Go.RowKit Go.SX
set_option maxRecDepth 10000
set_option maxHeartbeats 0
set_option linter.unusedSimpArgs false
set_option linter.unusedVariables false
theorem walkZ {f : Nat} {fn : Func} {c : Code} {args : List Value} {n : Nat} {rs : List ResultVar} {Post : Value → List HO → Prop} {w : World} {X : Nat → Prop} (Z : Nat → Prop) (re : List Nat) (ord : List (Nat × Plan)) {det : Nat → List Value → Option Value} (hD : DetFn Try.prog ⟨w, X⟩ det)
    (hf : Try.prog.funcs[f]? = some fn) (hb : fn.body = some c) (hn : fn.ntmps = n) (hr : fn.results.toList = rs) (hok : codeB ord c = true) {H0 : List HO}
    (h0 : (∀ h ∈ H0, h.ok w) ∧ (∀ h ∈ H0, ∀ b, (h.fp b → Z b) ∧ (h.fpx b → X b)) ∧ H0.Pairwise Apart)
    (h : W (EV w X re ord det []) c (retQ (EV w X re ord det []) rs Post) (args.map SV.v ++ List.replicate (n - args.length) (.v undef)) [] H0) : FnZ Try.prog f args w X Z Post := by
  subst hn hr
  exact Fn.introZ (E := EV w X re ord det []) Z hf hb trivial hD mixed_prog hok h0 h
theorem Sl.tl {w : World} {ad : Addr} {len cap k c : Nat} {xs : List Value} (h : Sl w (.slice (some ad) len cap) 1 xs) (hk : k ≤ len) (hc : len ≤ cap) : Sl w (.slice (if cap = k then some ad else some (ad.add (k * 1))) (len - k) c) 1 (xs.drop k) := by
  have hl := h.len
  split
  · have : xs.drop k = [] := List.drop_of_length_le (by omega)
    rw [this]
    exact ⟨_, _, _, rfl, by simp only [List.length_nil]; omega, fun i x hi => by simp at hi⟩
  · obtain ⟨a, l, c', hv, hl', hcc⟩ := h
    cases hv
    refine ⟨_, _, _, rfl, by rw [List.length_drop, hl']; omega, fun i x hi => ?_⟩
    rw [List.getElem?_drop] at hi
    obtain ⟨ad', had, hx⟩ := hcc _ x hi
    cases had
    exact ⟨_, rfl, by rw [add_add, Nat.mul_one]; exact hx⟩
theorem nil_of_none {w : World} {l : List Int} {c : Nat} (h : Sl w (.slice none l.length c) 1 (ints l)) : l = [] := by
  cases l with
  | nil => rfl
  | cons y ys =>
    obtain ⟨_, _, _, e, _, hcl⟩ := h
    cases e
    obtain ⟨ad, h, _⟩ := hcl 0 _ rfl
    cases h
def listArg (all : List (List Int)) : Nat → List Value → List HO → Prop := fun k vs F => ∃ x a c, all[k]? = some x ∧ vs = [.slice a x.length c] ∧ (a = none → x = []) ∧ F = [.ro (.row (.slice a x.length c) 3 1 (ints x))]
def fromV (bm bf : Nat) : Value := .func (.func 51) #[] #[.pointer (some ⟨bm, 0, none⟩), .pointer (some ⟨bf, 0, none⟩)]
def FrP (J : Option Nat → (Nat → Prop) → (Nat → Prop) → World → Prop) (k : Nat) (v : Value) (N : List HO) : Prop := ∃ t C2 R2, v = .bool t ∧ consu J (bif t then some k else none) C2 R2 ∈ N
def pl51_6 : Plan := (ones [1, 2, 3, 4, 5, 6, 7, 10, 11, 12, 13, 14] (.ld 0 (ones [8] (.kl 9 (.mu 15 (ones [16] .fin))))))
def pl51 : List (Nat × Plan) := [(6, pl51_6)]
theorem pl51_lk : (lkO 6 pl51 = some pl51_6) := rfl
theorem lists1_fn (all : List (List Int)) (ws : World) (C0 A0 : Nat → Prop) (l : Nat) (J : Option Nat → (Nat → Prop) → (Nat → Prop) → World → Prop) (hH : Handler Try.prog l all.length (listArg all) ws C0 A0 J) (bm bf many : Nat) (hmany : many ≤ 1000) : ∀ (r : Nat) (w : World) (k : Nat) (C R : Nat → Prop) (vl : Value) (list : List Int) (vr : Value) (rest : List Int),
    Keep (fun b => C0 b ∨ A0 b) ws w → (∀ b, C b → (C0 b ∨ A0 b) ∨ ws.heap.size ≤ b) → HO.ok w (consu J (some k) C R) → HO.ok w (.row vl 3 1 (ints list)) → (∀ b, vl.ownBlock = some b → ¬ C b ∧ ws.heap.size ≤ b) → Sl w vr 1 (ints rest) → (0 < rest.length → ∀ b, rsl w vr b → ¬ C b) →
    (∀ a n c, vr = .slice a n c → n ≤ c) → w.cell? ⟨bm, 0, none⟩ = some (I many) → ¬ C bm → w.cell? ⟨bf, 0, none⟩ = some (fromV bm bf) → ¬ C bf → list.length + r = many → rest.length ≤ 1000 → tailAt all ((cmb r rest).map (list ++ ·)) k →
    FnZ Try.prog 51 [vl, vr, .func (.yield l) #[] #[], .pointer (some ⟨bm, 0, none⟩), .pointer (some ⟨bf, 0, none⟩)] w C (fun b => C b ∨ R b ∨ vl.ownBlock = some b) (FrP J (k + (cmb r rest).length)) := by
  intro r
  induction r with
  | zero =>
    intro w k C R vl list vr rest hks hXs hc hl hlX hr hrX hrc hm hmX hf hfX hlen hrl hpart
    have hsl := RowOk.sl hl
    obtain ⟨a, n, c, rfl⟩ := hsl.shape
    have hn := hsl.le i1_len (by omega)
    subst hn
    have e1 : ((list.length : Int) = (many : Int)) = True := eq_true (by omega)
    have hk : k < all.length := by have := hpart.1; simp [cmb] at this; omega
    have hall : all[k]? = some list := by have := hpart.2 0 (by simp [cmb]); simpa [cmb] using this
    refine walkZ (H0 := [consu J (some k) C R, .ro (.row (.slice a list.length c) 3 1 (ints list))]) _ [] pl51 (det0_ok _ _) Try.func51 rfl Try.ntmps51 res51 (by kernel_rfl) ⟨?_, ?_, ?_⟩ ?_
    · intro h hh
      simp only [List.mem_cons, List.not_mem_nil, or_false] at hh
      rcases hh with rfl | rfl
      · exact hc
      · exact hl
    · intro h hh b
      simp only [List.mem_cons, List.not_mem_nil, or_false] at hh
      rcases hh with rfl | rfl
      · exact ⟨fun h => h.elim .inl fun h => .inr (.inl h), id⟩
      · exact ⟨fun h => .inr (.inr h), fun h => h.elim⟩
    · refine List.pairwise_cons.2 ⟨fun h hh b hb hb' => ?_, List.pairwise_singleton _ _⟩
      rw [List.mem_singleton] at hh
      subst hh
      exact ⟨(hlX b hb').1, id⟩
    simp (config := { maxSteps := 4000000 }) only [↓sx0, ↓sx1, ↓sx2, ↓sx3, ↓sx4, ↓sx5, ↓sx6, sx0, sx1, sx2, sx3, sx4, sx5, sx6, tf51, ev3_hold, sxo, sxc, sxp, sxq, sxr, sxs, sxl, sxm, Int.reduceBEq, Int.reduceBNe, Int.reduceLT, Int.reduceLE, Int.reduceEq, Int.reduceGT, Int.reduceGE, Int.reduceToNat, ↓reduceIte, List.reduceReplicate, Nat.reduceAdd, Nat.reduceSub, Nat.reduceMul, Nat.reduceLT, Nat.reduceLeDiff, Nat.reduceBEq, Nat.reduceEqDiff]
    refine ld_old hm hmX ?_
    simp (config := { maxSteps := 4000000 }) only [↓sx0, ↓sx1, ↓sx2, ↓sx3, ↓sx4, ↓sx5, ↓sx6, sx0, sx1, sx2, sx3, sx4, sx5, sx6, tf51, ev3_hold, sxo, sxc, sxp, sxq, sxr, sxs, sxl, sxm, Int.reduceBEq, Int.reduceBNe, Int.reduceLT, Int.reduceLE, Int.reduceEq, Int.reduceGT, Int.reduceGE, Int.reduceToNat, ↓reduceIte, List.reduceReplicate, Nat.reduceAdd, Nat.reduceSub, Nat.reduceMul, Nat.reduceLT, Nat.reduceLeDiff, Nat.reduceBEq, Nat.reduceEqDiff, e1]
    refine CallOb.yieldL hH hks hXs (k := k) hk (F := [.ro (.row (.slice a list.length c) 3 1 (ints list))]) (B := [.ro (.row (.slice a list.length c) 3 1 (ints list))]) (HImp.refl _ _) (List.Sublist.refl _) ⟨list, a, c, hall, rfl, fun h => by subst h; exact nil_of_none hsl, rfl⟩ (by simp [HO.fpx]) (fun w' hp b ⟨h, hh, hb⟩ => ?_) fun t C2 R2 => ?_
    · rw [List.mem_singleton] at hh
      subst hh
      exact (hlX b hb).2
    refine ⟨?_⟩
    simp (config := { maxSteps := 4000000 }) only [↓sx0, ↓sx1, ↓sx2, ↓sx3, ↓sx4, ↓sx5, ↓sx6, sx0, sx1, sx2, sx3, sx4, sx5, sx6, tf51, ev3_hold, sxo, sxc, sxp, sxq, sxr, sxs, sxl, sxm, Int.reduceBEq, Int.reduceBNe, Int.reduceLT, Int.reduceLE, Int.reduceEq, Int.reduceGT, Int.reduceGE, Int.reduceToNat, ↓reduceIte, List.reduceReplicate, Nat.reduceAdd, Nat.reduceSub, Nat.reduceMul, Nat.reduceLT, Nat.reduceLeDiff, Nat.reduceBEq, Nat.reduceEqDiff]
    exact ⟨t, C2, R2, rfl, by simp [cmb]⟩
  | succ r ih =>
  intro w k C R vl list vr rest hks hXs hc hl hlX hr hrX hrc hm hmX hf hfX hlen hrl hpart
  have hsl := RowOk.sl hl
  obtain ⟨a, n, c, rfl⟩ := hsl.shape
  have hcap : n ≤ c := RowOk.cap hl
  have hn := hsl.le i1_len (by omega)
  subst hn
  obtain ⟨ar, nr, cr, rfl⟩ := hr.shape
  have hnr := hr.le i1_len (by omega)
  subst hnr
  have hrc1 := hrc _ _ _ rfl
  have hmlt := World.block_lt_of_cell? w _ hm
  have hflt := World.block_lt_of_cell? w _ hf
  have e1 : ((list.length : Int) = (many : Int)) = False := eq_false (by omega)
  have dn : ∀ (g : Nat) (xs : List Value), det0 g xs = none := fun _ _ => rfl
  have hT := Try.call51
  obtain ⟨B0, hB0⟩ : ∃ B0, [HO.ro (.row (.slice a list.length c) 3 1 (ints list))] = B0 := ⟨_, rfl⟩
  refine walkZ (H0 := consu J (some k) C R :: B0) _ [] pl51 (det0_ok _ _) Try.func51 rfl Try.ntmps51 res51 (by kernel_rfl) ⟨?_, ?_, ?_⟩ ?_
  · intro h hh
    subst hB0
    simp only [List.mem_cons, List.not_mem_nil, or_false] at hh
    rcases hh with rfl | rfl
    · exact hc
    · exact hl
  · intro h hh b
    subst hB0
    simp only [List.mem_cons, List.not_mem_nil, or_false] at hh
    rcases hh with rfl | rfl
    · exact ⟨fun h => h.elim .inl fun h => .inr (.inl h), id⟩
    · exact ⟨fun h => .inr (.inr h), fun h => h.elim⟩
  · subst hB0
    refine List.pairwise_cons.2 ⟨fun h hh b hb hb' => ?_, List.pairwise_singleton _ _⟩
    rw [List.mem_singleton] at hh
    subst hh
    exact ⟨(hlX b hb').1, id⟩
  simp (config := { maxSteps := 4000000 }) only [↓sx0, ↓sx1, ↓sx2, ↓sx3, ↓sx4, ↓sx5, ↓sx6, sx0, sx1, sx2, sx3, sx4, sx5, sx6, tf51, ev3_hold, sxo, sxc, sxp, sxq, sxr, sxs, sxl, sxm, Int.reduceBEq, Int.reduceBNe, Int.reduceLT, Int.reduceLE, Int.reduceEq, Int.reduceGT, Int.reduceGE, Int.reduceToNat, ↓reduceIte, List.reduceReplicate, Nat.reduceAdd, Nat.reduceSub, Nat.reduceMul, Nat.reduceLT, Nat.reduceLeDiff, Nat.reduceBEq, Nat.reduceEqDiff]
  refine ld_old hm hmX ?_
  simp (config := { maxSteps := 4000000 }) only [↓sx0, ↓sx1, ↓sx2, ↓sx3, ↓sx4, ↓sx5, ↓sx6, sx0, sx1, sx2, sx3, sx4, sx5, sx6, tf51, ev3_hold, sxo, sxc, sxp, sxq, sxr, sxs, sxl, sxm, Int.reduceBEq, Int.reduceBNe, Int.reduceLT, Int.reduceLE, Int.reduceEq, Int.reduceGT, Int.reduceGE, Int.reduceToNat, ↓reduceIte, List.reduceReplicate, Nat.reduceAdd, Nat.reduceSub, Nat.reduceMul, Nat.reduceLT, Nat.reduceLeDiff, Nat.reduceBEq, Nat.reduceEqDiff, e1]
  refine loop_constH _ (HImp.refl _ _) [(8, 10), (20, 42)] (fun i : Nat => [(20, I i)])
    (fun i H1 => i ≤ rest.length ∧ ∃ k1 C1 R1, k1 + (cmb (r + 1) (rest.drop i)).length = k + (cmb (r + 1) rest).length ∧ tailAt all ((cmb (r + 1) (rest.drop i)).map (list ++ ·)) k1 ∧ H1 = consu J (some k1) C1 R1 :: B0) (fun i => rest.length - i) 0 ?_ ⟨Nat.zero_le _, k, C, R, rfl, hpart, rfl⟩ ?_
  · simp (config := { maxSteps := 4000000 }) only [↓sx0, ↓sx1, ↓sx2, ↓sx3, ↓sx4, ↓sx5, ↓sx6, sx0, sx1, sx2, sx3, sx4, sx5, sx6, tf51, ev3_hold, sxo, sxc, sxp, sxq, sxr, sxs, sxl, sxm, Int.reduceBEq, Int.reduceBNe, Int.reduceLT, Int.reduceLE, Int.reduceEq, Int.reduceGT, Int.reduceGE, Int.reduceToNat, ↓reduceIte, List.reduceReplicate, Nat.reduceAdd, Nat.reduceSub, Nat.reduceMul, Nat.reduceLT, Nat.reduceLeDiff, Nat.reduceBEq, Nat.reduceEqDiff]
    try simp
  rintro i H1 g1 ⟨hi, k1, C1, R1, hk1, hp1, rfl⟩
  by_cases hin : i = rest.length
  · have e7 : ((i : Int) < (rest.length : Int)) = False := eq_false (by omega)
    rw [List.drop_of_length_le (by omega), cmb, List.length_nil, Nat.add_zero] at hk1
    refine ⟨?_⟩
    simp (config := { maxSteps := 4000000 }) only [↓sx0, ↓sx1, ↓sx2, ↓sx3, ↓sx4, ↓sx5, ↓sx6, sx0, sx1, sx2, sx3, sx4, sx5, sx6, tf51, ev3_hold, sxo, sxc, sxp, sxq, sxr, sxs, sxl, sxm, Int.reduceBEq, Int.reduceBNe, Int.reduceLT, Int.reduceLE, Int.reduceEq, Int.reduceGT, Int.reduceGE, Int.reduceToNat, ↓reduceIte, List.reduceReplicate, Nat.reduceAdd, Nat.reduceSub, Nat.reduceMul, Nat.reduceLT, Nat.reduceLeDiff, Nat.reduceBEq, Nat.reduceEqDiff, e7]
    exact ⟨true, C1, R1, rfl, by rw [hk1]; exact List.mem_cons_self⟩
  have e7 : ((i : Int) < (rest.length : Int)) = True := eq_true (by omega)
  have e8 : wr (i + 1) = ((i + 1 : Nat) : Int) := (wrap_id (by omega)).trans (by omega)
  have hil : i < rest.length := by omega
  have hrX := hrX (by omega)
  have hr0 := hr.rdR (X := C) hrX
  have hu := List.getElem?_eq_getElem hil
  rw [cmb_drop r hil] at hk1 hp1
  obtain ⟨x, hx⟩ : ∃ x, rest[i] = x := ⟨_, rfl⟩
  rw [hx] at hu hk1 hp1
  rw [List.map_append] at hp1
  have hpl := tailAt_left hp1
  have hpr := tailAt_right hp1
  rw [List.map_map] at hpl
  rw [List.length_append, List.length_map] at hk1
  rw [List.length_map, List.length_map] at hpr
  have hfun : ((list ++ ·) ∘ (x :: ·) : List Int → List Int) = ((list ++ [x]) ++ ·) := by
    funext y
    simp
  rw [hfun] at hpl
  cases ar with
  | none =>
    obtain ⟨_, _, _, e, _, hcl⟩ := hr
    cases e
    obtain ⟨ad, h, _⟩ := hcl i (I x) (by have := cat_get i1_len hu (j := 0) (by decide); rwa [Nat.mul_one, Nat.add_zero] at this)
    cases h
  | some adr =>
  have hcall : ∀ (ad2 : Addr) (c2 : Nat) (H : List HO) (kont : Value → List HO → Prop), (∀ b, (Value.slice (some ad2) (list.length + 1) c2).ownBlock = some b → w.heap.size ≤ b) →
      HImp ⟨w, C⟩ H ([consu J (some k1) C1 R1, .row (.slice (some ad2) (list.length + 1) c2) 3 1 (ints (list ++ [x]))] ++ B0) → (∀ v N, FrP J (k1 + (cmb r (rest.drop (i + 1))).length) v N → SX.Hid (kont v (N ++ B0))) →
      CallOb Try.prog ⟨w, C⟩ false (.fn 51) [.slice (some ad2) (list.length + 1) c2, .slice (if cr = i + 1 then some adr else some (adr.add ((i + 1) * 1))) (rest.length - (i + 1)) (cr - (i + 1)), .func (.yield l) #[] #[], .pointer (some ⟨bm, 0, none⟩), .pointer (some ⟨bf, 0, none⟩)] H kont := fun ad2 c2 H kont hnew hi hk => by
    refine CallOb.mutZ C1 (fun b => C1 b ∨ R1 b ∨ (Value.slice (some ad2) (list.length + 1) c2).ownBlock = some b) hi (fun b hb => ⟨_, List.mem_cons_self, hb⟩) (fun b hb => ?_) (fun w' hp => ?_) hk
    · rcases hb with hb | hb | hb
      · exact ⟨_, List.mem_cons_self, .inl hb⟩
      · exact ⟨_, List.mem_cons_self, .inr hb⟩
      · exact ⟨_, List.mem_cons_of_mem _ List.mem_cons_self, hb⟩
    have hm1 : consu J (some k1) C1 R1 ∈ [consu J (some k1) C1 R1, HO.row (.slice (some ad2) (list.length + 1) c2) 3 1 (ints (list ++ [x]))] ++ B0 := List.mem_cons_self
    have hm2 : HO.row (.slice (some ad2) (list.length + 1) c2) 3 1 (ints (list ++ [x])) ∈ [consu J (some k1) C1 R1, HO.row (.slice (some ad2) (list.length + 1) c2) 3 1 (ints (list ++ [x]))] ++ B0 := List.mem_cons_of_mem _ List.mem_cons_self
    have hold : ∀ b, C1 b → C b ∨ w.heap.size ≤ b := fun b hb => hp.old _ hm1 b hb
    have hnd := List.pairwise_cons.1 hp.nd
    refine ih w' k1 C1 R1 _ (list ++ [x]) _ (rest.drop (i + 1)) (hp.ext.into hks hXs) (fun b hb => (hold b hb).elim (hXs b) fun h => .inr (Nat.le_trans hks.size h)) (hp.ok _ hm1) (hp.ok _ hm2) (fun b hb => ⟨fun hC => (hnd.1 _ List.mem_cons_self b (.inl hC) hb).1 hC, Nat.le_trans hks.size (hnew b hb)⟩)
      ?_ ?_ ?_ ?_ ?_ ?_ ?_ (by rw [List.length_append, List.length_singleton]; omega) (by rw [List.length_drop]; omega) hpl
    · have h1 := Sl.tl (k := i + 1) (c := cr - (i + 1)) (hr.keepR hp.ext hrX) (by omega) hrc1
      have h2 := cat_drop i1_len rest (i + 1)
      rw [Nat.mul_one] at h2
      rwa [show (ints rest).drop (i + 1) = ints (rest.drop (i + 1)) from h2] at h1
    · intro _ b hb hC
      have hbo : (Value.slice (some adr) rest.length cr).ownBlock = some b := by
        have h1 := hb.1
        have h2 := own_of (ad := adr) (len := rest.length) (cap := cr) (i + 1)
        have h3 := own_of (ad := adr) (len := rest.length) (cap := cr) 0
        split at h1
        · rw [own_of 0] at h1
          rw [h3]
          exact h1
        · rw [own_of 0, add_add, Nat.mul_one, Nat.add_zero] at h1
          rw [h2]
          exact h1
      have hblt := hr.own_lt (by rw [cat_len i1_len]; omega) hbo
      rcases hold b hC with h | h
      · exact hrX b ⟨hbo, hblt⟩ h
      · omega
    · intro a n c e
      cases e
      omega
    · exact (World.cell?_of_block (w := w) (hp.ext.block bm hmlt hmX)).trans hm
    · exact fun h => (hold bm h).elim hmX fun h => absurd hmlt (Nat.not_lt.2 h)
    · exact (World.cell?_of_block (w := w) (hp.ext.block bf hflt hfX)).trans hf
    · exact fun h => (hold bf h).elim hfX fun h => absurd hflt (Nat.not_lt.2 h)
  have hend : ∀ (N : List HO) C2 R2, consu J (some (k1 + (cmb r (rest.drop (i + 1))).length)) C2 R2 ∈ N → ∃ H3, HImp ⟨w, C⟩ (N ++ B0) H3 ∧ (i + 1 ≤ rest.length ∧ ∃ k1 C1 R1, k1 + (cmb (r + 1) (rest.drop (i + 1))).length = k + (cmb (r + 1) rest).length ∧ tailAt all ((cmb (r + 1) (rest.drop (i + 1))).map (list ++ ·)) k1 ∧ H3 = consu J (some k1) C1 R1 :: B0) := fun N C2 R2 hm =>
    ⟨_, HImp.append (HImp.pick hm), by omega, _, C2, R2, by omega, hpr, rfl⟩
  cases a with
  | none =>
    have hl0 : list = [] := by
      cases list with
      | nil => rfl
      | cons y ys =>
        obtain ⟨_, _, _, e, _, hcl⟩ := hsl
        cases e
        obtain ⟨ad, h, _⟩ := hcl 0 _ rfl
        cases h
    subst hl0
    simp only [List.length_nil, Nat.zero_add, List.nil_append] at hcall
    refine ⟨?_⟩
    simp (config := { maxSteps := 4000000 }) only [↓sx0, ↓sx1, ↓sx2, ↓sx3, ↓sx4, ↓sx5, ↓sx6, sx0, sx1, sx2, sx3, sx4, sx5, sx6, tf51, ev3_hold, sxo, sxc, sxp, sxq, sxr, sxs, sxl, sxm, Int.reduceBEq, Int.reduceBNe, Int.reduceLT, Int.reduceLE, Int.reduceEq, Int.reduceGT, Int.reduceGE, Int.reduceToNat, ↓reduceIte, List.reduceReplicate, Nat.reduceAdd, Nat.reduceSub, Nat.reduceMul, Nat.reduceLT, Nat.reduceLeDiff, Nat.reduceBEq, Nat.reduceEqDiff, e7]
    refine amid (at_1 (hr0 _) i1_len hu rfl fun ad1 => ?_)
    simp (config := { maxSteps := 4000000 }) only [↓sx0, ↓sx1, ↓sx2, ↓sx3, ↓sx4, ↓sx5, ↓sx6, sx0, sx1, sx2, sx3, sx4, sx5, sx6, tf51, ev3_hold, sxo, sxc, sxp, sxq, sxr, sxs, sxl, sxm, Int.reduceBEq, Int.reduceBNe, Int.reduceLT, Int.reduceLE, Int.reduceEq, Int.reduceGT, Int.reduceGE, Int.reduceToNat, ↓reduceIte, List.reduceReplicate, Nat.reduceAdd, Nat.reduceSub, Nat.reduceMul, Nat.reduceLT, Nat.reduceLeDiff, Nat.reduceBEq, Nat.reduceEqDiff, e8, pl51_lk, pl51_6]
    refine ⟨by simp, by simp, by simp, by simp, fun h => h, by omega, by omega, ?_⟩
    refine ld_old hf hfX ?_
    unfold fromV
    simp (config := { maxSteps := 4000000 }) only [↓sx0, ↓sx1, ↓sx2, ↓sx3, ↓sx4, ↓sx5, ↓sx6, sx0, sx1, sx2, sx3, sx4, sx5, sx6, tf51, ev3_hold, sxo, sxc, sxp, sxq, sxr, sxs, sxl, sxm, Int.reduceBEq, Int.reduceBNe, Int.reduceLT, Int.reduceLE, Int.reduceEq, Int.reduceGT, Int.reduceGE, Int.reduceToNat, ↓reduceIte, List.reduceReplicate, Nat.reduceAdd, Nat.reduceSub, Nat.reduceMul, Nat.reduceLT, Nat.reduceLeDiff, Nat.reduceBEq, Nat.reduceEqDiff, pl51_lk, pl51_6]
    intro b
    refine app_nilN (f := i1) x i1_len i1_one (by decide) fun ad2 c2 hnew => ?_
    simp (config := { maxSteps := 4000000 }) only [↓sx0, ↓sx1, ↓sx2, ↓sx3, ↓sx4, ↓sx5, ↓sx6, sx0, sx1, sx2, sx3, sx4, sx5, sx6, tf51, ev3_hold, sxo, sxc, sxp, sxq, sxr, sxs, sxl, sxm, Int.reduceBEq, Int.reduceBNe, Int.reduceLT, Int.reduceLE, Int.reduceEq, Int.reduceGT, Int.reduceGE, Int.reduceToNat, ↓reduceIte, List.reduceReplicate, Nat.reduceAdd, Nat.reduceSub, Nat.reduceMul, Nat.reduceLT, Nat.reduceLeDiff, Nat.reduceBEq, Nat.reduceEqDiff, hT, dn, pl51_lk, pl51_6]
    refine ⟨hT, hcall ad2 c2 _ _ hnew (HImp.swap _ _ _ _) ?_⟩
    rintro v N ⟨t, C2, R2, rfl, hm⟩
    cases t with
    | false =>
      refine ⟨?_⟩
      simp (config := { maxSteps := 4000000 }) only [↓sx0, ↓sx1, ↓sx2, ↓sx3, ↓sx4, ↓sx5, ↓sx6, sx0, sx1, sx2, sx3, sx4, sx5, sx6, tf51, ev3_hold, sxo, sxc, sxp, sxq, sxr, sxs, sxl, sxm, Int.reduceBEq, Int.reduceBNe, Int.reduceLT, Int.reduceLE, Int.reduceEq, Int.reduceGT, Int.reduceGE, Int.reduceToNat, ↓reduceIte, List.reduceReplicate, Nat.reduceAdd, Nat.reduceSub, Nat.reduceMul, Nat.reduceLT, Nat.reduceLeDiff, Nat.reduceBEq, Nat.reduceEqDiff, pl51_lk, pl51_6]
      exact ⟨false, C2, R2, rfl, List.mem_append_left _ hm⟩
    | true =>
      obtain ⟨H3, h1, h2⟩ := hend N C2 R2 hm
      refine ⟨?_⟩
      simp (config := { maxSteps := 4000000 }) only [↓sx0, ↓sx1, ↓sx2, ↓sx3, ↓sx4, ↓sx5, ↓sx6, sx0, sx1, sx2, sx3, sx4, sx5, sx6, tf51, ev3_hold, sxo, sxc, sxp, sxq, sxr, sxs, sxl, sxm, Int.reduceBEq, Int.reduceBNe, Int.reduceLT, Int.reduceLE, Int.reduceEq, Int.reduceGT, Int.reduceGE, Int.reduceToNat, ↓reduceIte, List.reduceReplicate, Nat.reduceAdd, Nat.reduceSub, Nat.reduceMul, Nat.reduceLT, Nat.reduceLeDiff, Nat.reduceBEq, Nat.reduceEqDiff, e8, pl51_lk, pl51_6]
      exact ⟨i + 1, H3, rfl, h1, h2, by omega⟩
  | some adl =>
    refine ⟨?_⟩
    simp (config := { maxSteps := 4000000 }) only [↓sx0, ↓sx1, ↓sx2, ↓sx3, ↓sx4, ↓sx5, ↓sx6, sx0, sx1, sx2, sx3, sx4, sx5, sx6, tf51, ev3_hold, sxo, sxc, sxp, sxq, sxr, sxs, sxl, sxm, Int.reduceBEq, Int.reduceBNe, Int.reduceLT, Int.reduceLE, Int.reduceEq, Int.reduceGT, Int.reduceGE, Int.reduceToNat, ↓reduceIte, List.reduceReplicate, Nat.reduceAdd, Nat.reduceSub, Nat.reduceMul, Nat.reduceLT, Nat.reduceLeDiff, Nat.reduceBEq, Nat.reduceEqDiff, e7]
    refine amid (at_1 (hr0 _) i1_len hu rfl fun ad1 => ?_)
    simp (config := { maxSteps := 4000000 }) only [↓sx0, ↓sx1, ↓sx2, ↓sx3, ↓sx4, ↓sx5, ↓sx6, sx0, sx1, sx2, sx3, sx4, sx5, sx6, tf51, ev3_hold, sxo, sxc, sxp, sxq, sxr, sxs, sxl, sxm, Int.reduceBEq, Int.reduceBNe, Int.reduceLT, Int.reduceLE, Int.reduceEq, Int.reduceGT, Int.reduceGE, Int.reduceToNat, ↓reduceIte, List.reduceReplicate, Nat.reduceAdd, Nat.reduceSub, Nat.reduceMul, Nat.reduceLT, Nat.reduceLeDiff, Nat.reduceBEq, Nat.reduceEqDiff, e8, pl51_lk, pl51_6]
    refine ⟨by omega, by omega, by omega, by omega, fun h => h, by omega, by omega, ?_⟩
    refine ld_old hf hfX ?_
    unfold fromV
    simp (config := { maxSteps := 4000000 }) only [↓sx0, ↓sx1, ↓sx2, ↓sx3, ↓sx4, ↓sx5, ↓sx6, sx0, sx1, sx2, sx3, sx4, sx5, sx6, tf51, ev3_hold, sxo, sxc, sxp, sxq, sxr, sxs, sxl, sxm, Int.reduceBEq, Int.reduceBNe, Int.reduceLT, Int.reduceLE, Int.reduceEq, Int.reduceGT, Int.reduceGE, Int.reduceToNat, ↓reduceIte, List.reduceReplicate, Nat.reduceAdd, Nat.reduceSub, Nat.reduceMul, Nat.reduceLT, Nat.reduceLeDiff, Nat.reduceBEq, Nat.reduceEqDiff, pl51_lk, pl51_6]
    intro b
    rw [show (if list.length = 0 then some adl else some (adl.add 0)) = some (if list.length = 0 then adl else adl.add 0) by split <;> rfl, Nat.sub_zero]
    refine app_roN (f := i1) (l := list) (m := [x]) i1_len (by simp) (fun w' hp => ?_) (fun w' hp => row_hp List.mem_cons_self hp) (by simp only [List.length_cons, List.length_nil]; omega) fun b2 c2 hnew => ?_
    · exact Sl.full (ro_hp (E := 3) (v := .slice (some adl) list.length c) (sz := 1) (xs := ints list) (by rw [← hB0]; simp) hp)
    simp (config := { maxSteps := 4000000 }) only [↓sx0, ↓sx1, ↓sx2, ↓sx3, ↓sx4, ↓sx5, ↓sx6, sx0, sx1, sx2, sx3, sx4, sx5, sx6, tf51, ev3_hold, sxo, sxc, sxp, sxq, sxr, sxs, sxl, sxm, Int.reduceBEq, Int.reduceBNe, Int.reduceLT, Int.reduceLE, Int.reduceEq, Int.reduceGT, Int.reduceGE, Int.reduceToNat, ↓reduceIte, List.reduceReplicate, Nat.reduceAdd, Nat.reduceSub, Nat.reduceMul, Nat.reduceLT, Nat.reduceLeDiff, Nat.reduceBEq, Nat.reduceEqDiff, hT, dn, pl51_lk, pl51_6]
    refine ⟨hT, hcall ⟨b2, 0, none⟩ c2 _ _ (fun b hb => ?_) ((HImp.tail2 _ _ _ _).trans (HImp.swap _ _ _ _)) ?_⟩
    · have h0 : b2 = b := by simpa [Value.ownBlock] using hb
      have h1 : w.heap.size ≤ b2 := hnew
      omega
    rintro v N ⟨t, C2, R2, rfl, hm⟩
    cases t with
    | false =>
      refine ⟨?_⟩
      simp (config := { maxSteps := 4000000 }) only [↓sx0, ↓sx1, ↓sx2, ↓sx3, ↓sx4, ↓sx5, ↓sx6, sx0, sx1, sx2, sx3, sx4, sx5, sx6, tf51, ev3_hold, sxo, sxc, sxp, sxq, sxr, sxs, sxl, sxm, Int.reduceBEq, Int.reduceBNe, Int.reduceLT, Int.reduceLE, Int.reduceEq, Int.reduceGT, Int.reduceGE, Int.reduceToNat, ↓reduceIte, List.reduceReplicate, Nat.reduceAdd, Nat.reduceSub, Nat.reduceMul, Nat.reduceLT, Nat.reduceLeDiff, Nat.reduceBEq, Nat.reduceEqDiff, pl51_lk, pl51_6]
      exact ⟨false, C2, R2, rfl, List.mem_append_left _ hm⟩
    | true =>
      obtain ⟨H3, h1, h2⟩ := hend N C2 R2 hm
      refine ⟨?_⟩
      simp (config := { maxSteps := 4000000 }) only [↓sx0, ↓sx1, ↓sx2, ↓sx3, ↓sx4, ↓sx5, ↓sx6, sx0, sx1, sx2, sx3, sx4, sx5, sx6, tf51, ev3_hold, sxo, sxc, sxp, sxq, sxr, sxs, sxl, sxm, Int.reduceBEq, Int.reduceBNe, Int.reduceLT, Int.reduceLE, Int.reduceEq, Int.reduceGT, Int.reduceGE, Int.reduceToNat, ↓reduceIte, List.reduceReplicate, Nat.reduceAdd, Nat.reduceSub, Nat.reduceMul, Nat.reduceLT, Nat.reduceLeDiff, Nat.reduceBEq, Nat.reduceEqDiff, e8, pl51_lk, pl51_6]
      exact ⟨i + 1, H3, rfl, h1, h2, by omega⟩
end Go.Proofs.Ytgpglmcbopfddaa

namespace Go.Proofs.Ytgpglmcbopfddaa
open Go.RowKit Go.SX
set_option maxRecDepth 10000
set_option maxHeartbeats 0
set_option linter.unusedSimpArgs false
set_option linter.unusedVariables false
theorem lists2_it (w : World) (bf bl bm : Nat) (v : Value) (l : List Int) (many : Nat) (hmany : many ≤ 1000) (hll : l.length ≤ 1000) (hbf : w.cell? ⟨bf, 0, none⟩ = some (fromV bm bf)) (hbl : w.cell? ⟨bl, 0, none⟩ = some v) (hbm : w.cell? ⟨bm, 0, none⟩ = some (I many)) (hs : Sl w v 1 (ints l)) (hc : ∀ a n c, v = .slice a n c → n ≤ c) :
    Iter Try.prog 52 [] [.pointer (some ⟨bf, 0, none⟩), .pointer (some ⟨bl, 0, none⟩)] (cmb many l).length (listArg (cmb many l)) (fun _ => False) (fun x => x = bf ∨ x = bl ∨ x = bm ∨ rsl w v x) w := by
  refine walkIterR _ [] [] (fun _ _ => det0_ok _ _) Try.func52 rfl Try.ntmps52 res52 (by kernel_rfl) fun y J C R hRs hH => ?_
  have hfX := hRs bf (.inl rfl)
  have hlX := hRs bl (.inr (.inl rfl))
  have hmX := hRs bm (.inr (.inr (.inl rfl)))
  have hsX := fun b hb => hRs b (.inr (.inr (.inr hb)))
  have dn : ∀ (g : Nat) (xs : List Value), det0 g xs = none := fun _ _ => rfl
  have hsz := World.block_lt_of_cell? w _ hbf
  have hmlt := World.block_lt_of_cell? w _ hbm
  simp (config := { maxSteps := 4000000 }) only [↓sx0, ↓sx1, ↓sx2, ↓sx3, ↓sx4, ↓sx5, ↓sx6, sx0, sx1, sx2, sx3, sx4, sx5, sx6, tf52, ev3_hold, sxo, sxc, sxp, sxq, sxr, sxs, sxl, sxm, simprocAttr]
  refine ld_old hbf hfX ?_
  simp (config := { maxSteps := 4000000 }) only [↓sx0, ↓sx1, ↓sx2, ↓sx3, ↓sx4, ↓sx5, ↓sx6, sx0, sx1, sx2, sx3, sx4, sx5, sx6, tf52, ev3_hold, sxo, sxc, sxp, sxq, sxr, sxs, sxl, sxm, simprocAttr]
  refine ld_old hbl hlX ?_
  unfold fromV
  simp (config := { maxSteps := 4000000 }) only [↓sx0, ↓sx1, ↓sx2, ↓sx3, ↓sx4, ↓sx5, ↓sx6, sx0, sx1, sx2, sx3, sx4, sx5, sx6, tf52, ev3_hold, sxo, sxc, sxp, sxq, sxr, sxs, sxl, sxm, simprocAttr, dn]
  refine ⟨Try.call51, ?_⟩
  refine CallOb.mutZ (A := [consu J (some 0) C R, .row (.slice none 0 0) 3 1 (ints [])]) (B := []) (Post := FrP J (0 + (cmb many l).length)) C (fun b => C b ∨ R b ∨ (Value.slice none 0 0).ownBlock = some b) ((HImp.nilRow _ _ _ _).trans (HImp.swap _ _ _ _)) (fun b hb => ⟨_, List.mem_cons_self, hb⟩) (fun b hb => ?_) (fun w' hp => ?_) ?_
  · rcases hb with hb | hb | hb
    · exact ⟨_, List.mem_cons_self, .inl hb⟩
    · exact ⟨_, List.mem_cons_self, .inr hb⟩
    · simp [Value.ownBlock] at hb
  · refine lists1_fn (cmb many l) w C (fun _ => False) y J hH bm bf many hmany many w' 0 C R _ [] v l hp.ext (fun b hb => .inl (.inl hb)) (hp.ok _ List.mem_cons_self) (hp.ok _ (List.mem_cons_of_mem _ List.mem_cons_self)) (fun b hb => by simp [Value.ownBlock] at hb) (hs.keepR hp.ext hsX) (fun h0 b hb hC => hsX b ⟨hb.1, hs.own_lt (by rw [cat_len i1_len]; omega) hb.1⟩ (.inl hC)) hc ((World.cell?_of_block (w := w) (hp.ext.block bm hmlt hmX)).trans hbm) (fun h => hmX (.inl h)) ((World.cell?_of_block (w := w) (hp.ext.block bf hsz hfX)).trans hbf) (fun h => hfX (.inl h)) (by simp) hll ?_
    · have : (cmb many l).map (([] : List Int) ++ ·) = cmb many l := by
        rw [show (([] : List Int) ++ ·) = id from by funext x; rfl, List.map_id]
      rw [this]
      exact tailAt_all _
  · rintro r N ⟨t, C2, R2, rfl, hm⟩
    refine ⟨?_⟩
    simp (config := { maxSteps := 4000000 }) only [↓sx0, ↓sx1, ↓sx2, ↓sx3, ↓sx4, ↓sx5, ↓sx6, sx0, sx1, sx2, sx3, sx4, sx5, sx6, tf52, ev3_hold, sxo, sxc, sxp, sxq, sxr, sxs, sxl, sxm, simprocAttr]
    refine ⟨rfl, _, C2, R2, hm, ?_⟩
    cases t with
    | false => exact .inr rfl
    | true => exact .inl (congrArg some (Nat.zero_add _))
theorem lists_fn (w : World) (a : Option Addr) (n c : Nat) (many : Int) : SX.Fn Try.prog 33 [.slice a n c, I many] w (fun _ => False) fun r N => ∃ bf bl bm, r = .func (.func 52) #[] #[.pointer (some ⟨bf, 0, none⟩), .pointer (some ⟨bl, 0, none⟩)] ∧ N.Perm [HO.cells bf 106 [fromV bm bf], HO.cells bl 25 [.slice a n c], HO.cells bm 3 [I many]] := by
  refine walk [2, 3, 5] [] (det0_ok _ _) Try.func33 rfl Try.ntmps33 res33 (by kernel_rfl) no_facts ?_
  simp (config := { maxSteps := 4000000 }) only [↓sx0, ↓sx1, ↓sx2, ↓sx3, ↓sx4, ↓sx5, ↓sx6, sx0, sx1, sx2, sx3, sx4, sx5, sx6, tf33, ev3_hold, sxo, sxc, sxp, sxq, sxr, sxs, sxl, sxm, simprocAttr]
  intro b1 b2 b3
  refine wr_cell (A := []) rfl (by simp) ?_
  simp (config := { maxSteps := 4000000 }) only [↓sx0, ↓sx1, ↓sx2, ↓sx3, ↓sx4, ↓sx5, ↓sx6, sx0, sx1, sx2, sx3, sx4, sx5, sx6, tf33, ev3_hold, sxo, sxc, sxp, sxq, sxr, sxs, sxl, sxm, simprocAttr]
  refine ⟨b3, b1, b2, rfl, ?_⟩
  unfold fromV
  exact List.Perm.cons _ (List.Perm.swap _ _ _)
end Go.Proofs.Ytgpglmcbopfddaa

namespace Go.Proofs.Ytgpglmcbopfddaa
open Go.RowKit Go.SX
set_option linter.unusedSimpArgs false
set_option linter.unusedVariables false
def withH (y : List Int) (i : Nat) (h : Hnd) : Hnd := if h.ans = 0 then { h with ans := if y.contains (i : Int) then 2 else 1 } else h
def withS (s : Stn) (y : List Int) : Stn := { s with hands := s.hands.mapIdx fun i h => withH y i h }
theorem withS_len (s : Stn) (y : List Int) : (withS s y).hands.length = s.hands.length := by unfold withS; simp
theorem withS_at (s : Stn) (y : List Int) (i : Nat) : (withS s y).hands[i]? = s.hands[i]?.map (withH y i) := by unfold withS; simp
theorem withH_log (y : List Int) (i : Nat) (h : Hnd) : (withH y i h).log = h.log ∧ (withH y i h).skills = h.skills ∧ (withH y i h).low = h.low ∧ (withH y i h).high = h.high := by
  unfold withH
  split <;> exact ⟨rfl, rfl, rfl, rfl⟩
theorem withH_ok (y : List Int) (i : Nat) (h : Hnd) : handB (withH y i h) = handB h := by
  have := withH_log y i h
  unfold handB
  rw [this.1, this.2.1, this.2.2.1, this.2.2.2]
  congr 1
  unfold withH
  split
  · rename_i h0
    rw [h0]
    simp only []
    split <;> decide
  · rfl
theorem okB_with (s : Stn) (y : List Int) : (withS s y).okB = s.okB := by
  unfold Stn.okB
  rw [withS_len]
  have e : (withS s y).hands.all handB = s.hands.all handB := by
    rw [Bool.eq_iff_iff, List.all_eq_true, List.all_eq_true]
    constructor
    · intro h x hx
      obtain ⟨i, hi, rfl⟩ := List.getElem_of_mem hx
      have h1 := withS_at s y i
      rw [List.getElem?_eq_getElem hi] at h1
      have := h _ (List.mem_of_getElem? h1)
      rwa [withH_ok] at this
    · intro h x hx
      obtain ⟨i, hi, rfl⟩ := List.getElem_of_mem hx
      have h1 := withS_at s y i
      rw [withS_len] at hi
      rw [List.getElem?_eq_getElem (by rw [withS_len]; exact hi), List.getElem?_eq_getElem hi] at h1
      injection h1 with h1
      rw [h1, withH_ok]
      exact h _ (List.getElem_mem hi)
  rw [e]
  rfl
theorem mayP_with (s : Stn) (y : List Int) (i : Nat) (h : Hnd) (t len : Int) : mayP (withS s y) (withH y i h) t len ↔ mayP s h t len := by
  unfold mayP
  rw [(withH_log y i h).1]
  rfl
def uns (s : Stn) : List Int := pick (fun i => (s.hands[i]?).elim false fun h => decide (h.ans = 0)) s.hands.length
noncomputable def musW (s : Stn) (call len : Int) (seats : List Int) (y : List Int) : Option Int := (musG (withS s y) call len seats).map fun p => call + (p.1 : Nat)
noncomputable def whoE (s : Stn) (call : Int) (seats : List Int) (len silent : Int) : Int := if s.okB && !inB silent 0 10 then 1 else callE s call seats len
def lots (s : Stn) (silent : Int) (y : List Int) : Prop := y.Sublist (uns s) ∧ (y.length : Int) ≤ silent
def WhoP (s : Stn) (call : Int) (seats : List Int) (len silent : Int) (t : Int) (m : List Int) (e : Int) : Prop :=
  (whoE s call seats len silent ≠ 0 ∧ t = 0 ∧ m = [] ∧ e = whoE s call seats len silent) ∨
  (whoE s call seats len silent = 0 ∧ ((∃ y, lots s silent y ∧ musW s call len seats y = none) ∧ t = 0 ∧ m = [] ∧ e = 3 ∨ e = 0 ∧ MaxI (musW s call len seats) (lots s silent) t m))
end Go.Proofs.Ytgpglmcbopfddaa

namespace Go.Proofs.Ytgpglmcbopfddaa
open Go.RowKit Go.SX
set_option maxRecDepth 10000
set_option maxHeartbeats 0
set_option linter.unusedSimpArgs false
set_option linter.unusedVariables false
theorem wr_f1 {α : Type} {H A B : List HO} {ad : Addr} {len cap e n k o : Nat} {f : α → List Value} {l : List α} {u : α} (u' : α) {x : Value} {K : List HO → Prop} (hH : H = A ++ .row (.slice (some ad) len cap) e n (cat f l) :: B) (hf : ∀ a, (f a).length = n) (hl : l.length = len) (hu : l[k]? = some u)
    (hu' : f u' = (f u).set o x) (ho : o < n) (hK : K (A ++ .row (.slice (some ad) len cap) e n (cat f (l.set k u')) :: B)) : hold (WrOb H ((ad.add (k * n)).add o) [x] K) ⟨0⟩ := by
  have h := wr_f2 (o1 := o) (o2 := 0) u' hH hf hl hu hu' ho hK
  rw [add_add, add_add, Nat.add_zero] at h
  rw [add_add]
  exact h
def psW (y : List Int) (ps : List Hm) : List Hm := ps.mapIdx fun i p => (withH y i p.1, p.2)
theorem psW_len (y : List Int) (ps : List Hm) : (psW y ps).length = ps.length := by unfold psW; simp
theorem psW_get (y : List Int) (ps : List Hm) (i : Nat) : (psW y ps)[i]? = ps[i]?.map fun p => (withH y i p.1, p.2) := by unfold psW; simp
theorem psW_map {y : List Int} {ps : List Hm} {s : Stn} (h : ps.map Prod.fst = s.hands) : (psW y ps).map Prod.fst = (withS s y).hands := by
  refine List.ext_getElem? fun i => ?_
  rw [List.getElem?_map, psW_get, withS_at, ← h, List.getElem?_map]
  cases ps[i]? <;> rfl
theorem lgv_with (y : List Int) (i : Nat) (p : Hm) : lgv (withH y i p.1, p.2) = lgv p := by
  unfold lgv
  rw [(withH_log y i p.1).1]
theorem log_with {w : World} {y : List Int} {i : Nat} {p : Hm} (h : LogOk w p) : LogOk w (withH y i p.1, p.2) := by
  unfold LogOk at h ⊢
  rw [lgv_with]
  rw [(withH_log y i p.1).1]
  exact h
theorem log_psW {w : World} {y : List Int} {ps : List Hm} (h : ∀ p ∈ ps, LogOk w p) : ∀ p ∈ psW y ps, LogOk w p := fun p hp => by
  obtain ⟨i, hi⟩ := List.getElem?_of_mem hp
  rw [psW_get] at hi
  cases hq : ps[i]? with
  | none => rw [hq] at hi; cases hi
  | some q =>
    rw [hq] at hi
    cases hi
    exact log_with (h q (List.mem_of_getElem? hq))
theorem psW_set {y y' : List Int} {ps : List Hm} {k : Nat} {p : Hm} (hk : ps[k]? = some p) (h : ∀ i : Nat, i ≠ k → y'.contains (i : Int) = y.contains (i : Int)) : (psW y ps).set k (withH y' k p.1, p.2) = psW y' ps := by
  refine List.ext_getElem? fun i => ?_
  have hkl := (List.getElem?_eq_some_iff.1 hk).1
  by_cases hik : i = k
  · subst hik
    rw [List.getElem?_set_self (by rw [psW_len]; exact hkl), psW_get, hk]
    rfl
  · rw [List.getElem?_set_ne (fun e => hik e.symm), psW_get, psW_get]
    cases ps[i]? with
    | none => rfl
    | some q =>
      simp only [Option.map_some, Option.some.injEq, Prod.mk.injEq, and_true]
      unfold withH
      rw [h i hik]
theorem hdc_with {y y' : List Int} {k : Nat} {p : Hm} (h0 : p.1.ans = 0) : hdc (withH y' k p.1, p.2) = (hdc (withH y k p.1, p.2)).set 4 (I (if y'.contains (k : Int) then 2 else 1)) := by
  unfold hdc
  rw [lgv_with, lgv_with, (withH_log y' k p.1).2.1, (withH_log y' k p.1).2.2.1, (withH_log y' k p.1).2.2.2, (withH_log y k p.1).2.1, (withH_log y k p.1).2.2.1, (withH_log y k p.1).2.2.2]
  simp only [List.set_cons_succ, List.set_cons_zero, List.cons.injEq, true_and, and_true]
  congr 1
  unfold withH
  rw [if_pos h0]
theorem small_with {s : Stn} (y : List Int) (h : s.small) : (withS s y).small := by
  refine ⟨by rw [withS_len]; exact h.1, fun x hx => ?_⟩
  obtain ⟨i, hi⟩ := List.getElem?_of_mem hx
  rw [withS_at] at hi
  cases hq : s.hands[i]? with
  | none => rw [hq] at hi; cases hi
  | some q =>
    rw [hq] at hi
    cases hi
    rw [(withH_log y i q).1]
    exact h.2 q (List.mem_of_getElem? hq)
theorem callE_with (s : Stn) (y : List Int) (a : Int) (l : List Int) (len : Int) : callE (withS s y) a l len = callE s a l len := by
  unfold callE
  rw [okB_with]
theorem RoN.with {N : List HO} {v : Value} {s : Stn} {br : Nat} {y : List Int} (h : RoN N v (withS s y) br) (z : List Int) : RoN N v (withS s z) br := by
  obtain ⟨hv, ao, co, bs, h1, h2, h3, h4, h5, h6⟩ := h
  rw [withS_len] at h2 h3 h4
  refine ⟨hv, ao, co, bs, h1, by rw [withS_len]; exact h2, by rw [withS_len]; exact h3, by rw [withS_len]; exact h4, h5, fun i b x hb hx => ?_⟩
  rw [withS_at] at hx
  cases hq : s.hands[i]? with
  | none => rw [hq] at hx; cases hx
  | some q =>
    rw [hq] at hx
    cases hx
    have := h6 i b (withH y i q) hb (by rw [withS_at, hq]; rfl)
    rw [(withH_log y i q).1] at this
    rw [(withH_log z i q).1]
    exact this
theorem RoN.mono {N N' : List HO} {v : Value} {s : Stn} {br : Nat} (h : RoN N v s br) (hm : ∀ h ∈ N, h ∈ N') : RoN N' v s br := by
  obtain ⟨hv, ao, co, bs, h1, h2, h3, h4, h5, h6⟩ := h
  exact ⟨hv, ao, co, bs, h1, hm _ h2, hm _ h3, h4, h5, fun i b x hb hx => hm _ (h6 i b x hb hx)⟩
theorem ld_cellz {w0 : Base} {H : List HO} {a : Addr} {b o : Nat} {T : TypeId} {cs : List Value} {v : Value} {K : SV → Prop} (e : a = ⟨b, o, none⟩) (h : HO.cells b T cs ∈ H) (hv : cs[o]? = some v) (hK : K (.v v)) : hold (LdOb w0 H a none K) ⟨0⟩ := by
  subst e
  exact ld_cell h hv hK
theorem KnOk.with {s : Stn} {call len : Int} {kn : List (Nat → Int)} {y : List Int} (h : KnOk (withS s y) call len kn) (z : List Int) : KnOk (withS s z) call len kn := by
  refine ⟨by rw [withS_len, ← withS_len s y]; exact h.1, fun k f x hf hx j hj => ?_⟩
  rw [withS_at] at hx
  cases hq : s.hands[k]? with
  | none => rw [hq] at hx; cases hx
  | some q =>
    rw [hq] at hx
    cases hx
    have := h.2 k f (withH y k q) hf (by rw [withS_at, hq]; rfl) j hj
    rw [mayP_with] at this ⊢
    exact this
theorem ca_with {B : List HO} {s : Stn} {y : List Int} {at_ len : Int} {bc br bk n : Nat} {kn : List (Nat → Int)} {hv : Value} {ps : List Hm} {w0 w : World} (hro : RoN B (.agg #[hv, I s.window, I s.duty]) (withS s y) br) (hcc : HO.cells bc 77 [.pointer (some ⟨br, 0, none⟩), I at_, I len, .slice (some ⟨bk, 0, none⟩) s.hands.length s.hands.length] ∈ B)
    (hrow : HO.row hv 44 5 (cat hdc (psW y ps)) ∈ B) (hps : ps.map Prod.fst = s.hands) (hlg : ∀ p ∈ ps, LogOk w0 p) (hp : Hp ⟨w0, fun _ => False⟩ (knR bk n kn :: B) w) : CaOk w bc br bk (withS s y) at_ len := by
  have hnd := List.pairwise_cons.1 hp.nd
  have hbk : w0.heap.size ≤ bk := (hp.old _ List.mem_cons_self bk knR_fp.2).resolve_left id
  have hne : ∀ g ∈ B, ∀ b, g.fp b → b ≠ bk := fun g hg b hb e => by
    subst e
    exact (hnd.1 g hg b knR_fp.1 hb).1 knR_fp.2
  have hok : ∀ w', Keep (fun b => b = bk) w w' → ∀ g ∈ B, g.ok w' := fun w' hk g hg => HO.stable (hp.ok g (List.mem_cons_of_mem _ hg)) (hk.sameOn (fun b hb => HO.lt (hp.ok g (List.mem_cons_of_mem _ hg)) hb) fun b hb => hne g hg b hb)
  have hlw : ∀ w', Keep (fun b => b = bk) w w' → ∀ p ∈ psW y ps, LogOk w' p := fun w' hk => log_psW fun p hp2 => Sl.keepR (hlg p hp2) (hp.ext.trans hk) fun b hb hx => by
    rcases hx with hx | hx
    · exact hx
    · have hx : b = bk := hx
      have := hb.2
      omega
  have hmap := psW_map (y := y) hps
  have hsl : ∀ w', Keep (fun b => b = bk) w w' → Sl w' hv 5 (cat hdc (psW y ps)) := fun w' hk => RowOk.sl (hok w' hk _ hrow)
  have hro2 : ∀ w', Keep (fun b => b = bk) w w' → RoOk w' br (withS s y) := fun w' hk => by
    obtain ⟨hv1, ao, co, bs, he, h1, h2, h3, h4, h5⟩ := hro
    have : hv1 = hv := by
      injection he with he
      injection he with he
      exact (List.cons.inj he).1.symm
    subst this
    refine ⟨hv1, .slice ao (withS s y).hands.length co, psW y ps, bs, fun i x hx => ?_, hmap, hsl w' hk, hlw w' hk, RowOk.sl (hok w' hk _ h2), h3, fun i b h hb hh j v hj => ?_⟩
    · rw [cell_of_cells (hok w' hk _ h1)]
      simpa using hx
    · rw [cell_of_cells (hok w' hk _ (h5 i b h hb hh))]
      simpa using hj
  refine ⟨hne _ hcc bc rfl, ?_, ?_, fun w' hk => ⟨fun i x hx => ?_, hro2 w' hk⟩⟩
  · obtain ⟨hv, ao, co, bs, _, h1, _⟩ := hro
    exact hne _ h1 br rfl
  · obtain ⟨hv1, ao, co, bs, he, h1, h2, h3, h4, h5⟩ := hro
    have : hv1 = hv := by
      injection he with he
      injection he with he
      exact (List.cons.inj he).1.symm
    subst this
    refine ⟨hv1, psW y ps, ?_, hmap, hsl w (Keep.refl _ w), fun h0 b hb e => ?_⟩
    · rw [cell_of_cells (hp.ok _ (List.mem_cons_of_mem _ h1))]
      rfl
    · exact hne _ hrow b (by simpa [HO.fp] using hb) e
  · rw [cell_of_cells (hok w' hk _ hcc)]
    rw [withS_len] at hx
    simpa using hx
theorem st_with {w0 w : World} {H : List HO} {s : Stn} {y : List Int} {hv : Value} {ps : List Hm} (hrow : HO.row hv 44 5 (cat hdc (psW y ps)) ∈ H) (hps : ps.map Prod.fst = s.hands) (hlg : ∀ p ∈ ps, LogOk w0 p) (hp : Hp ⟨w0, fun _ => False⟩ H w) : StOk w (.agg #[hv, I s.window, I s.duty]) (withS s y) :=
  ⟨hv, psW y ps, rfl, psW_map hps, row_hp hrow hp, log_psW fun p hm => Sl.hp (w0 := ⟨w0, fun _ => False⟩) (hlg p hm) (fun _ _ => id) hp⟩
theorem cloneH_fn (w : World) (v : Value) (ps : List Hm) (hs : Sl w v 5 (cat hdc ps)) (hb : ps.length ≤ 1000) : SX.Fn Try.prog 31 [v] w (fun _ => False) fun r N => ∃ a c, r = .slice a ps.length c ∧ (a = none → ps = []) ∧ ((ps = [] ∧ r = .slice none 0 0 ∧ N = []) ∨ HO.row r 44 5 (cat hdc ps) ∈ N) := by
  have hs0 := hs
  obtain ⟨a, n, c, rfl⟩ := hs.shape
  have hn := hs.le hdc_len (by omega)
  subst hn
  have hone : ∀ p : Hm, ∀ y ∈ hdc p, y.oneCell' = true := fun p => by simp [hdc, lgv, Value.oneCell']
  cases a with
  | none =>
    have hnil : ps = [] := by
      cases ps with
      | nil => rfl
      | cons y ys =>
        obtain ⟨_, _, _, e, _, hcl⟩ := hs
        cases e
        obtain ⟨ad, h, _⟩ := hcl 0 _ rfl
        cases h
    subst hnil
    refine walk [] [] (det0_ok _ _) Try.func31 rfl Try.ntmps31 res31 (by kernel_rfl) no_facts ?_
    simp (config := { maxSteps := 4000000 }) only [↓sx0, ↓sx1, ↓sx2, ↓sx3, ↓sx4, ↓sx5, ↓sx6, sx0, sx1, sx2, sx3, sx4, sx5, sx6, tf31, ev3_hold, sxo, sxc, sxp, sxq, sxr, sxs, sxl, sxm, simprocAttr, Option.isNone_none, reduceCtorEq, false_imp_iff, true_imp_iff]
    exact ⟨none, 0, rfl, by simp⟩
  | some ad =>
    refine walk [] [] (det0_ok _ _) Try.func31 rfl Try.ntmps31 res31 (by kernel_rfl) no_facts ?_
    simp (config := { maxSteps := 4000000 }) only [↓sx0, ↓sx1, ↓sx2, ↓sx3, ↓sx4, ↓sx5, ↓sx6, sx0, sx1, sx2, sx3, sx4, sx5, sx6, tf31, ev3_hold, sxo, sxc, sxp, sxq, sxr, sxs, sxl, sxm, simprocAttr, Option.isNone_some, reduceCtorEq, false_imp_iff, true_imp_iff]
    intro b
    refine app_at (f := hdc) (l := []) (m := ps) (HImp.refl _ _) hdc_len hone (fun w' hp' => Sl.hp (w0 := ⟨w, fun _ => False⟩) hs0 (fun _ _ => id) hp') (by simp only [List.length_nil]; omega) fun a2 c2 h2 => ?_
    rw [List.nil_append, List.length_nil, Nat.zero_add]
    simp (config := { maxSteps := 4000000 }) only [↓sx0, ↓sx1, ↓sx2, ↓sx3, ↓sx4, ↓sx5, ↓sx6, sx0, sx1, sx2, sx3, sx4, sx5, sx6, tf31, ev3_hold, sxo, sxc, sxp, sxq, sxr, sxs, sxl, sxm, simprocAttr]
    exact ⟨a2, c2, rfl, fun h => (h2 h).2, .inr List.mem_cons_self⟩
theorem uns_mem {s : Stn} {x : Int} (h : x ∈ uns s) : ∃ (k : Nat) (q : Hnd), x = (k : Int) ∧ s.hands[k]? = some q ∧ q.ans = 0 := by
  unfold uns pick at h
  obtain ⟨k, hk, rfl⟩ := List.mem_map.1 h
  obtain ⟨h1, h2⟩ := List.mem_filter.1 hk
  cases hq : s.hands[k]? with
  | none => rw [hq] at h2; cases h2
  | some q =>
    rw [hq] at h2
    exact ⟨k, q, rfl, hq, of_decide_eq_true h2⟩
theorem idx_lt (n : Nat) : (idx n).Pairwise (· < ·) := by
  unfold idx
  rw [List.pairwise_map]
  exact List.pairwise_lt_range.imp fun h => by omega
theorem uns_lt (s : Stn) : (uns s).Pairwise (· < ·) := (idx_lt _).sublist (pick_sub _ _)
theorem uns_len (s : Stn) : (uns s).length ≤ s.hands.length := by
  have := (pick_sub (fun i => (s.hands[i]?).elim false fun h => decide (h.ans = 0)) s.hands.length).length_le
  unfold idx at this
  rw [List.length_map, List.length_range] at this
  exact this
end Go.Proofs.Ytgpglmcbopfddaa

namespace Go.Proofs.Ytgpglmcbopfddaa
open Go.RowKit Go.SX
set_option maxRecDepth 10000
set_option maxHeartbeats 0
set_option linter.unusedSimpArgs false
set_option linter.unusedVariables false
theorem mix_set {α : Type} {A B : List α} {i : Nat} {a : α} (h : A[i]? = some a) (hl : A.length = B.length) : (A.take i ++ B.drop i).set i a = A.take (i + 1) ++ B.drop (i + 1) := by
  have hi := (List.getElem?_eq_some_iff.1 h).1
  have e : (A.take i).length = i := by rw [List.length_take]; omega
  rw [List.drop_eq_getElem_cons (show i < B.length by omega), List.set_append_right _ _ (by omega), e, Nat.sub_self, List.set_cons_zero, List.take_add_one, h]
  simp
theorem mix_same {α : Type} {A B : List α} {i : Nat} {a : α} (h : A[i]? = some a) (h2 : B[i]? = some a) : A.take (i + 1) ++ B.drop (i + 1) = A.take i ++ B.drop i := by
  obtain ⟨hi, h3⟩ := List.getElem?_eq_some_iff.1 h2
  rw [List.take_add_one, h, List.drop_eq_getElem_cons hi, h3]
  simp
theorem mix_get {α : Type} {A B : List α} {i : Nat} (hl : A.length = B.length) (hi : i < B.length) : (A.take i ++ B.drop i)[i]? = B[i]? := by
  have e : (A.take i).length = i := by rw [List.length_take]; omega
  rw [List.getElem?_append_right (by omega), e, Nat.sub_self, List.getElem?_drop, Nat.add_zero]
def GotR (v : Value) (x : List Int) (N : List HO) : Prop := ∃ a c, v = .slice a x.length c ∧ (a = none → x = []) ∧ HO.ro (.row (.slice a x.length c) 3 1 (ints x)) ∈ N
theorem GotR.rdv {v : Value} {x : List Int} {N H : List HO} {w0 : Base} (h : GotR v x N) (hm : ∀ h ∈ N, h ∈ H) : Rdv w0 H v 1 (ints x) := by
  obtain ⟨a, c, rfl, h1, h2⟩ := h
  exact ro_rdv (hm _ h2) ⟨_, _, _, rfl, by rw [cat_len i1_len], fun h => by rw [h1 h]; rfl⟩
theorem GotR.hp {v : Value} {x : List Int} {N H : List HO} {w0 : Base} {w : World} (h : GotR v x N) (hm : ∀ h ∈ N, h ∈ H) (hp : Hp w0 H w) : Sl w v 1 (ints x) := by
  obtain ⟨a, c, rfl, h1, h2⟩ := h
  exact ro_hp (hm _ h2) hp
def GotE (v : Value) (x : List Int) (N : List HO) : Prop := (v = .slice none 0 0 ∧ x = []) ∨ GotR v x N
def WhoN (s : Stn) (call : Int) (seats : List Int) (len silent : Int) (r : Value) (N : List HO) : Prop := ∃ t v m e, r = .tuple #[I t, v, I e] ∧ WhoP s call seats len silent t m e ∧ GotE v m N
def MisOk (a : Option Addr) (c : Nat) (m : List Int) (MF : List HO) : Prop := (a = none ∧ c = 0 ∧ m = [] ∧ MF = []) ∨ ((a = none → m = []) ∧ MF = [HO.ro (.row (.slice a m.length c) 3 1 (ints m))])
theorem MisOk.got {a : Option Addr} {c : Nat} {m : List Int} {MF N : List HO} (h : MisOk a c m MF) (hm : ∀ h ∈ MF, h ∈ N) : GotE (.slice a m.length c) m N := by
  rcases h with ⟨rfl, rfl, rfl, _⟩ | ⟨h1, rfl⟩
  · exact .inl ⟨rfl, rfl⟩
  · exact .inr ⟨a, c, rfl, h1, hm _ List.mem_cons_self⟩
theorem mus_some {s : Stn} {call len : Int} {seats y : List Int} {j : Nat} {l : List Int} (h : musG (withS s y) call len seats = some (j, l)) : musW s call len seats y = some (call + (j : Nat)) := by
  unfold musW
  rw [h]
  rfl
theorem mus_none {s : Stn} {call len : Int} {seats y : List Int} (h : musG (withS s y) call len seats = none) : musW s call len seats y = none := by
  unfold musW
  rw [h]
  rfl
def doneL (U : List Int) (many : Nat) (z : List Int) : Prop := z.Sublist U ∧ z.length < many
def doneK (U : List Int) (many k : Nat) (z : List Int) : Prop := doneL U many z ∨ ∃ q, q < k ∧ (cmb many U)[q]? = some z
theorem doneK_succ {U x : List Int} {many k : Nat} (hx : (cmb many U)[k]? = some x) (z : List Int) : (doneK U many k z ∨ z = x) ↔ doneK U many (k + 1) z := by
  unfold doneK
  constructor
  · rintro ((h | ⟨q, hq, hz⟩) | rfl)
    · exact .inl h
    · exact .inr ⟨q, by omega, hz⟩
    · exact .inr ⟨k, by omega, hx⟩
  · rintro (h | ⟨q, hq, hz⟩)
    · exact .inl (.inl h)
    · by_cases e : q = k
      · subst e
        rw [hx] at hz
        cases hz
        exact .inr rfl
      · exact .inl (.inr ⟨q, by omega, hz⟩)
theorem doneK_all {U : List Int} {many : Nat} (z : List Int) : doneK U many (cmb many U).length z ↔ doneL U (many + 1) z := by
  unfold doneK doneL
  constructor
  · rintro (⟨h1, h2⟩ | ⟨q, hq, hz⟩)
    · exact ⟨h1, by omega⟩
    · have := cmb_mem.1 (List.mem_of_getElem? hz)
      exact ⟨this.1, by omega⟩
  · rintro ⟨h1, h2⟩
    by_cases e : z.length = many
    · obtain ⟨q, hq⟩ := List.getElem?_of_mem (cmb_mem.2 ⟨h1, e⟩)
      exact .inr ⟨q, (List.getElem?_eq_some_iff.1 hq).1, hq⟩
    · exact .inl ⟨h1, by omega⟩
theorem doneK_zero {U : List Int} {many : Nat} (z : List Int) : doneL U many z ↔ doneK U many 0 z := by
  unfold doneK
  exact ⟨.inl, fun h => h.elim id fun ⟨q, h, _⟩ => by omega⟩
theorem who_keep {U : List Int} (hU : U.Pairwise (· < ·)) {mus : List Int → Option Int} {many k : Nat} {t u : Int} {m x : List Int} (h : MaxI mus (doneK U many k) t m) (hx : (cmb many U)[k]? = some x) (hm : mus x = some u) (h0 : 0 ≤ u) (hu : u ≤ t) : MaxI mus (doneK U many (k + 1)) t m := by
  refine (h.keep hm h0 hu fun e => ?_).congr (doneK_succ hx)
  rcases h.one with ⟨h1, _⟩ | ⟨h1, _⟩
  · omega
  · rcases h1 with h1 | ⟨q, hq, hz⟩
    · have := (cmb_mem.1 (List.mem_of_getElem? hx)).2
      exact befB_len (by have := h1.2; omega)
    · exact cmb_order hU hz hx (by omega)
theorem who_more {U : List Int} {mus : List Int → Option Int} {many k : Nat} {t u : Int} {m x : List Int} (h : MaxI mus (doneK U many k) t m) (hx : (cmb many U)[k]? = some x) (hm : mus x = some u) (hu : u > t) : MaxI mus (doneK U many (k + 1)) u x :=
  (h.more hm hu).congr (doneK_succ hx)
theorem take_not {x : List Int} {j : Nat} {k i : Nat} (hx : x[j]? = some (k : Int)) (hik : i ≠ k) : (x.take (j + 1)).contains (i : Int) = (x.take j).contains (i : Int) := by
  rw [List.take_add_one, hx]
  simp only [Option.toList_some, List.contains_eq_mem, List.mem_append, List.mem_singleton]
  have : ¬ ((i : Int) = (k : Int)) := by omega
  simp [this]
theorem drop_not {x : List Int} {j : Nat} {k i : Nat} (hx : x[j]? = some (k : Int)) (hik : i ≠ k) : (x.drop (j + 1)).contains (i : Int) = (x.drop j).contains (i : Int) := by
  obtain ⟨hj, h3⟩ := List.getElem?_eq_some_iff.1 hx
  rw [List.drop_eq_getElem_cons hj, h3]
  have : ¬ ((i : Int) = (k : Int)) := by omega
  simp [this]
theorem drop_no {x : List Int} {j : Nat} {k : Int} (hs : x.Pairwise (· < ·)) (hx : x[j]? = some k) : (x.drop (j + 1)).contains k = false := by
  obtain ⟨hj, h3⟩ := List.getElem?_eq_some_iff.1 hx
  have h1 : (x.drop j).Pairwise (· < ·) := hs.sublist (List.drop_sublist _ _)
  rw [List.drop_eq_getElem_cons hj, h3, List.pairwise_cons] at h1
  rw [Bool.eq_false_iff]
  intro h
  rw [List.contains_iff_mem] at h
  exact absurd (h1.1 k h) (Int.lt_irrefl _)
end Go.Proofs.Ytgpglmcbopfddaa

namespace Go.Proofs.Ytgpglmcbopfddaa
open Go.RowKit Go.SX
set_option maxRecDepth 10000
set_option maxHeartbeats 0
set_option linter.unusedSimpArgs false
set_option linter.unusedVariables false
def pl11_15 : Plan := (.ld 0 (.kl 1 (.kl 2 (.kl 3 .fin))))
def pl11_38 : Plan := (ones [0] (.ld 1 (.kl 2 (.kl 3 (.kl 4 .fin)))))
def pl11 : List (Nat × Plan) := [(15, pl11_15), (38, pl11_38)]
theorem pl11_lk : (lkO 15 pl11 = some pl11_15) ∧ (lkO 38 pl11 = some pl11_38) := ⟨rfl, rfl⟩
theorem mix_facts (s : Stn) (ps : List Hm) (hps : ps.map Prod.fst = s.hands) : ∃ (PU : Nat → List Int) (MX : Nat → List Hm), PU 0 = [] ∧ PU ps.length = uns s ∧ (∀ i, (PU i).length ≤ i) ∧ MX 0 = ps ∧ MX ps.length = psW [] ps ∧ (∀ i, i < ps.length → (MX i).length = ps.length) ∧
    (∀ i p, ps[i]? = some p → (MX i)[i]? = some p) ∧ (∀ i p, ps[i]? = some p → p.1.ans = 0 → PU (i + 1) = PU i ++ [(i : Int)] ∧ (MX i).set i (withH [] i p.1, p.2) = MX (i + 1) ∧ hdc (withH [] i p.1, p.2) = (hdc p).set 4 (I 1)) ∧ (∀ i p, ps[i]? = some p → ¬ p.1.ans = 0 → PU (i + 1) = PU i ∧ MX (i + 1) = MX i) := by
  have hlen := psW_len [] ps
  have hpl : ps.length = s.hands.length := by rw [← hps, List.length_map]
  refine ⟨pick (fun i => (s.hands[i]?).elim false fun h => decide (h.ans = 0)), fun i => (psW [] ps).take i ++ ps.drop i, rfl, by rw [hpl]; rfl, fun i => ?_, by simp, ?_, fun i hi => ?_, fun i p hp => ?_, fun i p hp h0 => ⟨?_, ?_, ?_⟩, fun i p hp h0 => ⟨?_, ?_⟩⟩
  · have := (pick_sub (fun i => (s.hands[i]?).elim false fun h => decide (h.ans = 0)) i).length_le
    unfold idx at this
    rw [List.length_map, List.length_range] at this
    exact this
  · simp only []
    rw [List.take_of_length_le (by omega), List.drop_of_length_le (Nat.le_refl _), List.append_nil]
  · simp only []
    rw [List.length_append, List.length_take, List.length_drop]
    omega
  · simp only []
    rw [mix_get hlen (List.getElem?_eq_some_iff.1 hp).1, hp]
  · have hh : s.hands[i]? = some p.1 := by rw [← hps, List.getElem?_map, hp]; rfl
    rw [pick_succ, hh]
    simp [h0]
  · simp only []
    exact mix_set (by rw [psW_get, hp]; rfl) hlen
  · have := hdc_with (y := ([] : List Int)) (y' := []) (k := i) (p := p) h0
    have e : hdc p = [I p.1.skills, I p.1.low, I p.1.high, lgv p, I p.1.ans] := rfl
    have e2 : hdc (withH [] i p.1, p.2) = [I (withH [] i p.1).skills, I (withH [] i p.1).low, I (withH [] i p.1).high, lgv (withH [] i p.1, p.2), I (withH [] i p.1).ans] := rfl
    have hw := withH_log [] i p.1
    rw [e2, e, lgv_with, hw.2.1, hw.2.2.1, hw.2.2.2]
    simp only [List.set_cons_succ, List.set_cons_zero, List.cons.injEq, true_and, and_true]
    congr 1
    unfold withH
    rw [if_pos h0]
    rfl
  · have hh : s.hands[i]? = some p.1 := by rw [← hps, List.getElem?_map, hp]; rfl
    rw [pick_succ, hh]
    simp [h0]
  · simp only []
    refine mix_same (a := p) ?_ hp
    rw [psW_get, hp]
    simp only [Option.map_some, Option.some.injEq]
    unfold withH
    rw [if_neg h0]
theorem whoever_fn (w : World) (v : Value) (s : Stn) (hs : StOk w v s) (hsm : s.small) (call : Int) (vs : Value) (seats : List Int) (hvs : Sl w vs 1 (ints seats)) (hlb : seats.length ≤ 1000) (len silent : Int) :
    SX.Fn Try.prog 11 [v, I call, vs, I len, I silent] w (fun _ => False) (WhoN s call seats len silent) := by
  have dn : ∀ (g : Nat) (xs : List Value), det0 g xs = none := fun _ _ => rfl
  have hs0 := hs
  have hck := fun (H : List HO) w' (hp : Hp ⟨w, fun _ => False⟩ H w') => check_fn w' v s (hs0.hp hp) hsm
  have hwi := fun w' => within_fn w' silent 0 10
  obtain ⟨hv, ps, rfl, hps, hsl, hlg⟩ := hs
  have hpl : ps.length = s.hands.length := by rw [← hps, List.length_map]
  have hp100 : ps.length ≤ 100 := by rw [hpl]; exact hsm.1
  have hcn := fun (H : List HO) w' (hp : Hp ⟨w, fun _ => False⟩ H w') => cloneH_fn w' hv ps (Sl.hp (w0 := ⟨w, fun _ => False⟩) hsl (fun _ _ => id) hp) (by omega)
  have hcall := fun (hv1 : Value) (H : List HO) w' (hp : Hp ⟨w, fun _ => False⟩ H w') (hm : HO.row hv1 44 5 (cat hdc (psW [] ps)) ∈ H) => call_fn w' (.agg #[hv1, I s.window, I s.duty]) (withS s []) (st_with hm hps hlg hp) (small_with [] hsm) call vs seats (Sl.hp (w0 := ⟨w, fun _ => False⟩) hvs (fun _ _ => id) hp) hlb len
  simp only [callE_with] at hcall
  obtain ⟨asx, ns, cs, rfl⟩ := hvs.shape
  obtain ⟨PU, MX, hP0, hPn, hPl, hM0, hMn, hMl, hMg, hM1, hM2⟩ := mix_facts s ps hps
  have hone : ∀ p : Hm, ∀ y ∈ hdc p, y.oneCell' = true := fun p => by simp [hdc, lgv, Value.oneCell']
  obtain ⟨E0, hE0'⟩ : ∃ E0, (s.okB && !inB silent 0 10) = E0 := ⟨_, rfl⟩
  unfold WhoN WhoP whoE
  rw [hE0']
  refine walkC [3] [] pl11 (det0_ok _ _) Try.func11 rfl Try.ntmps11 res11 (by kernel_rfl) no_facts ?_
  simp (config := { maxSteps := 4000000 }) only [↓sx0, ↓sx1, ↓sx2, ↓sx3, ↓sx4, ↓sx5, ↓sx6, sx0, sx1, sx2, sx3, sx4, sx5, sx6, tf11, ev3_hold, sxo, sxc, sxp, sxq, sxr, sxs, sxl, sxm, simprocAttr, dn]
  refine cut_constH [(26, 33)] (fun _ : Unit => [(33, .bool E0)]) (fun _ H2 => H2 = []) ?_ ?_
  · refine ⟨?_⟩
    simp (config := { maxSteps := 4000000 }) only [↓sx0, ↓sx1, ↓sx2, ↓sx3, ↓sx4, ↓sx5, ↓sx6, sx0, sx1, sx2, sx3, sx4, sx5, sx6, tf11, ev3_hold, sxo, sxc, sxp, sxq, sxr, sxs, sxl, sxm, simprocAttr, dn]
    refine CallOb.pureH (fun w' hp => hck _ w' hp) ?_
    rintro q N rfl
    cases hB : s.okB with
    | false =>
      rw [hB, Bool.false_and] at hE0'
      refine ⟨?_⟩
      simp (config := { maxSteps := 4000000 }) only [↓sx0, ↓sx1, ↓sx2, ↓sx3, ↓sx4, ↓sx5, ↓sx6, sx0, sx1, sx2, sx3, sx4, sx5, sx6, tf11, ev3_hold, sxo, sxc, sxp, sxq, sxr, sxs, sxl, sxm, simprocAttr, dn]
      exact ⟨(), _, by rw [← hE0'], HImp.nil _ _, rfl⟩
    | true =>
      rw [hB, Bool.true_and] at hE0'
      refine ⟨?_⟩
      simp (config := { maxSteps := 4000000 }) only [↓sx0, ↓sx1, ↓sx2, ↓sx3, ↓sx4, ↓sx5, ↓sx6, sx0, sx1, sx2, sx3, sx4, sx5, sx6, tf11, ev3_hold, sxo, sxc, sxp, sxq, sxr, sxs, sxl, sxm, simprocAttr, dn]
      refine CallOb.pureH (fun w' hp => hwi w') ?_
      rintro q N2 rfl
      refine ⟨?_⟩
      simp (config := { maxSteps := 4000000 }) only [↓sx0, ↓sx1, ↓sx2, ↓sx3, ↓sx4, ↓sx5, ↓sx6, sx0, sx1, sx2, sx3, sx4, sx5, sx6, tf11, ev3_hold, sxo, sxc, sxp, sxq, sxr, sxs, sxl, sxm, simprocAttr, dn, hE0']
      exact ⟨(), _, HImp.nil _ _, rfl⟩
  rintro _ H2 g2 rfl
  cases E0 with
  | true =>
    refine ⟨?_⟩
    simp (config := { maxSteps := 4000000 }) only [↓sx0, ↓sx1, ↓sx2, ↓sx3, ↓sx4, ↓sx5, ↓sx6, sx0, sx1, sx2, sx3, sx4, sx5, sx6, tf11, ev3_hold, sxo, sxc, sxp, sxq, sxr, sxs, sxl, sxm, simprocAttr]
    exact ⟨0, .slice none 0 0, [], 1, rfl, .inl ⟨rfl, rfl, rfl⟩, .inl ⟨rfl, rfl⟩⟩
  | false =>
  rw [if_neg (by simp)]
  refine ⟨?_⟩
  simp (config := { maxSteps := 4000000 }) only [↓sx0, ↓sx1, ↓sx2, ↓sx3, ↓sx4, ↓sx5, ↓sx6, sx0, sx1, sx2, sx3, sx4, sx5, sx6, tf11, ev3_hold, sxo, sxc, sxp, sxq, sxr, sxs, sxl, sxm, simprocAttr, dn]
  refine CallOb.pureH (fun w' hp => hcn _ w' hp) ?_
  rintro q N ⟨ah, ch, rfl, hnil, hN⟩
  have hi0 : HImp ⟨w, fun _ => False⟩ N [HO.row (.slice ah ps.length ch) 44 5 (cat hdc ps), HO.row (.slice none 0 0) 3 1 (ints [])] := by
    refine HImp.trans ?_ ((HImp.nilRow _ _ _ _).trans (HImp.swap _ _ _ _))
    rcases hN with ⟨h1, h2, rfl⟩ | h
    · rw [h2, h1]
      exact (HImp.nil _ _).trans (HImp.nilRow _ _ _ _)
    · exact HImp.pick h
  clear hN
  refine ⟨?_⟩
  simp (config := { maxSteps := 4000000 }) only [↓sx0, ↓sx1, ↓sx2, ↓sx3, ↓sx4, ↓sx5, ↓sx6, sx0, sx1, sx2, sx3, sx4, sx5, sx6, tf11, ev3_hold, sxo, sxc, sxp, sxq, sxr, sxs, sxl, sxm, simprocAttr]
  refine loop_constH [HO.row (.slice ah ps.length ch) 44 5 (cat hdc ps), HO.row (.slice none 0 0) 3 1 (ints [])] hi0 [(14, 15), (39, 56)] (fun q : Nat × Option Addr × Nat => [(14, .slice q.2.1 (PU q.1).length q.2.2), (39, I q.1)])
    (fun q H1 => q.1 ≤ ps.length ∧ (q.2.1 = none → PU q.1 = []) ∧ H1 = [HO.row (.slice ah ps.length ch) 44 5 (cat hdc (MX q.1)), HO.row (.slice q.2.1 (PU q.1).length q.2.2) 3 1 (ints (PU q.1))]) (fun q => ps.length - q.1) (0, none, 0) ?_ ⟨Nat.zero_le _, fun _ => hP0, by rw [hM0, hP0]; rfl⟩ ?_
  · simp (config := { maxSteps := 4000000 }) only [↓sx0, ↓sx1, ↓sx2, ↓sx3, ↓sx4, ↓sx5, ↓sx6, sx0, sx1, sx2, sx3, sx4, sx5, sx6, tf11, ev3_hold, sxo, sxc, sxp, sxq, sxr, sxs, sxl, sxm, simprocAttr]
    simp [hP0]
  rintro ⟨i, au, cu⟩ H1 g1 hinv
  simp only [] at hinv
  obtain ⟨hi, hun, rfl⟩ := hinv
  by_cases hin : i = ps.length
  case neg =>
    have e7 : ((i : Int) < (ps.length : Int)) = True := eq_true (by omega)
    have e8 : wr (i + 1) = ((i + 1 : Nat) : Int) := (wrap_id (by omega)).trans (by omega)
    obtain ⟨p, hp⟩ : ∃ p, ps[i]? = some p := ⟨_, List.getElem?_eq_getElem (by omega)⟩
    have hg := hMg i p hp
    have hML := hMl i (by omega)
    have hPi := hPl i
    cases ah with
    | none =>
      have hz := hnil rfl
      subst hz
      simp at hp
    | some adh =>
    have hr : Rdv ⟨w, fun _ => False⟩ [HO.row (.slice (some adh) ps.length ch) 44 5 (cat hdc (MX i)), HO.row (.slice au (PU i).length cu) 3 1 (ints (PU i))] (.slice (some adh) ps.length ch) 5 (cat hdc (MX i)) := row_rdv (E := 44) List.mem_cons_self ⟨_, _, _, rfl, by rw [cat_len hdc_len, hML], fun h => by cases h⟩
    by_cases h0 : p.1.ans = 0
    · have z0 : (p.1.ans = 0) = True := eq_true h0
      obtain ⟨h1, h2, h3⟩ := hM1 i p hp h0
      refine ⟨?_⟩
      simp (config := { maxSteps := 4000000 }) only [↓sx0, ↓sx1, ↓sx2, ↓sx3, ↓sx4, ↓sx5, ↓sx6, sx0, sx1, sx2, sx3, sx4, sx5, sx6, tf11, ev3_hold, sxo, sxc, sxp, sxq, sxr, sxs, sxl, sxm, simprocAttr, e7]
      refine amid (at_f hr hdc_len hg (o := 4) (x := I p.1.ans) rfl fun ad => ?_)
      simp (config := { maxSteps := 4000000 }) only [↓sx0, ↓sx1, ↓sx2, ↓sx3, ↓sx4, ↓sx5, ↓sx6, sx0, sx1, sx2, sx3, sx4, sx5, sx6, tf11, ev3_hold, sxo, sxc, sxp, sxq, sxr, sxs, sxl, sxm, simprocAttr, z0]
      intro b
      refine app_one (f := i1) (l := PU i) (i : Int) (A := [HO.row (.slice (some adh) ps.length ch) 44 5 (cat hdc (MX i))]) (HImp.swap _ _ _ _) i1_len i1_one (by omega) fun a9 c9 => ?_
      rw [show (PU i).length + 1 = (PU (i + 1)).length by rw [h1, List.length_append]; rfl, ← h1]
      simp (config := { maxSteps := 4000000 }) only [↓sx0, ↓sx1, ↓sx2, ↓sx3, ↓sx4, ↓sx5, ↓sx6, sx0, sx1, sx2, sx3, sx4, sx5, sx6, tf11, ev3_hold, sxo, sxc, sxp, sxq, sxr, sxs, sxl, sxm, simprocAttr, e7]
      refine ⟨by omega, adh, rfl, ?_⟩
      refine wr_f1 (A := [_]) (withH [] i p.1, p.2) rfl hdc_len hML hg h3 (by omega) ?_
      rw [h2]
      simp (config := { maxSteps := 4000000 }) only [↓sx0, ↓sx1, ↓sx2, ↓sx3, ↓sx4, ↓sx5, ↓sx6, sx0, sx1, sx2, sx3, sx4, sx5, sx6, tf11, ev3_hold, sxo, sxc, sxp, sxq, sxr, sxs, sxl, sxm, simprocAttr, e8]
      exact ⟨(i + 1, some a9, c9), _, by first | exact ⟨rfl, rfl⟩ | rfl, HImp.swap _ _ _ _, ⟨by simp only []; omega, fun h => (by cases h), rfl⟩, by simp only []; omega⟩
    · have z0 : (p.1.ans = 0) = False := eq_false h0
      obtain ⟨h1, h2⟩ := hM2 i p hp h0
      refine ⟨?_⟩
      simp (config := { maxSteps := 4000000 }) only [↓sx0, ↓sx1, ↓sx2, ↓sx3, ↓sx4, ↓sx5, ↓sx6, sx0, sx1, sx2, sx3, sx4, sx5, sx6, tf11, ev3_hold, sxo, sxc, sxp, sxq, sxr, sxs, sxl, sxm, simprocAttr, e7]
      refine amid (at_f hr hdc_len hg (o := 4) (x := I p.1.ans) rfl fun ad => ?_)
      simp (config := { maxSteps := 4000000 }) only [↓sx0, ↓sx1, ↓sx2, ↓sx3, ↓sx4, ↓sx5, ↓sx6, sx0, sx1, sx2, sx3, sx4, sx5, sx6, tf11, ev3_hold, sxo, sxc, sxp, sxq, sxr, sxs, sxl, sxm, simprocAttr, z0, e8]
      exact ⟨(i + 1, au, cu), _, by simp only []; rw [h1]; first | exact ⟨rfl, rfl⟩ | exact ⟨rfl, trivial⟩ | rfl, HImp.refl _ _, ⟨by simp only []; omega, by simp only []; rw [h1]; exact hun, by simp only []; rw [h1, h2]⟩, by simp only []; omega⟩
  subst hin
  have e7 : ((ps.length : Int) < (ps.length : Int)) = False := eq_false (by omega)
  rw [hPn] at hun ⊢
  rw [hMn]
  clear hP0 hPn hPl hM0 hMn hMl hMg hM1 hM2 hi0
  have hUlt := uns_lt s
  have hUle := uns_len s
  have hUm : ∀ x ∈ uns s, ∃ (k : Nat) (p : Hm), x = (k : Int) ∧ ps[k]? = some p ∧ p.1.ans = 0 := fun x hx => by
    obtain ⟨k, q, h1, h2, h3⟩ := uns_mem hx
    rw [← hps, List.getElem?_map] at h2
    cases hq : ps[k]? with
    | none => rw [hq] at h2; cases h2
    | some p =>
      rw [hq] at h2
      cases h2
      exact ⟨k, p, h1, hq, h3⟩
  obtain ⟨U, hU⟩ : ∃ U, uns s = U := ⟨_, rfl⟩
  have hlots : ∀ y, lots s silent y ↔ y.Sublist U ∧ (y.length : Int) ≤ silent := fun y => by unfold lots; rw [hU]
  rw [hU] at hUlt hUle hUm hun ⊢
  have hcall := hcall (.slice ah ps.length ch)
  obtain ⟨E, hE⟩ : ∃ E, callE s call seats len = E := ⟨_, rfl⟩
  rw [hE] at hcall ⊢
  refine ⟨?_⟩
  simp (config := { maxSteps := 4000000 }) only [↓sx0, ↓sx1, ↓sx2, ↓sx3, ↓sx4, ↓sx5, ↓sx6, sx0, sx1, sx2, sx3, sx4, sx5, sx6, tf11, ev3_hold, sxo, sxc, sxp, sxq, sxr, sxs, sxl, sxm, simprocAttr, e7, dn]
  refine CallOb.pureH (fun w' hp => hcall _ w' hp (by simp)) ?_
  rintro q N2 ⟨x, rfl, hx⟩
  by_cases hE0 : E = 0
  case neg =>
    have z0 : (E = 0) = False := eq_false hE0
    refine ⟨?_⟩
    simp (config := { maxSteps := 4000000 }) only [↓sx0, ↓sx1, ↓sx2, ↓sx3, ↓sx4, ↓sx5, ↓sx6, sx0, sx1, sx2, sx3, sx4, sx5, sx6, tf11, ev3_hold, sxo, sxc, sxp, sxq, sxr, sxs, sxl, sxm, simprocAttr, z0, pl11_lk, pl11_15]
    exact ⟨0, .slice none 0 0, [], E, rfl, .inl ⟨rfl, rfl, rfl⟩, .inl ⟨rfl, rfl⟩⟩
  have z0 : (E = 0) = True := eq_true hE0
  obtain ⟨bc, rfl, hcn2⟩ := hx hE0
  obtain ⟨br, bk, B, hperm, hcb⟩ := hcn2.split
  obtain ⟨hro, hcc⟩ := hcb
  rw [withS_len] at hcc hperm
  obtain ⟨ao, co, hbr⟩ : ∃ ao co, HO.cells br 80 [.slice ah ps.length ch, I s.window, I s.duty, .slice ao s.hands.length co] ∈ B := by
    obtain ⟨hv1, ao, co, bs, he, k1, _⟩ := hro
    rw [withS_len] at k1
    injection he with he
    injection he with he
    obtain rfl := (List.cons.inj he).1
    exact ⟨ao, co, k1⟩
  have hz := callE_zero (hE.trans hE0)
  obtain ⟨hok, hc100, hl40, hs5, hs255⟩ := hz
  have hsil : 0 ≤ silent ∧ silent ≤ 10 := by
    rw [hok, Bool.true_and] at hE0'
    exact (inB_iff _ _ _).1 (by simpa using hE0')
  obtain ⟨M, hM⟩ : ∃ M : Nat, M = min silent.toNat U.length := ⟨_, rfl⟩
  have eM : wr (min silent (U.length : Int) + 1) = ((M + 1 : Nat) : Int) := by
    rw [show min silent (U.length : Int) = (M : Int) by omega]
    exact (wrap_id (by omega)).trans (by omega)
  have hU100 : U.length ≤ 100 := by omega
  have hfin : ∀ y, doneL U (M + 1) y ↔ lots s silent y := fun y => by
    rw [hlots]
    unfold doneL
    exact ⟨fun ⟨h1, h2⟩ => ⟨h1, by omega⟩, fun ⟨h1, h2⟩ => ⟨h1, by have := h1.length_le; omega⟩⟩
  have hms : ∀ y j l, musG (withS s y) call len seats = some (j, l) → musW s call len seats y = some (call + (j : Nat)) := fun y j l h => mus_some h
  have hmn : ∀ y, musG (withS s y) call len seats = none → musW s call len seats y = none := fun y h => mus_none h
  obtain ⟨mus, hmus⟩ : ∃ mus, musW s call len seats = mus := ⟨_, rfl⟩
  rw [hmus] at hms hmn ⊢
  have hkn0 : KnOk (withS s []) call len (List.replicate s.hands.length fun _ => 0) := by
    have := KnOk.zero (withS s []) call len
    rwa [withS_len] at this
  obtain ⟨HRW, hHRW⟩ : ∃ h, HO.row (.slice ah ps.length ch) 44 5 (cat hdc (psW [] ps)) = h := ⟨_, rfl⟩
  obtain ⟨ROU, hROU⟩ : ∃ h, HO.ro (.row (.slice au U.length cu) 3 1 (ints U)) = h := ⟨_, rfl⟩
  have hi1 : HImp ⟨w, fun _ => False⟩ (N2 ++ [HO.row (.slice ah ps.length ch) 44 5 (cat hdc (psW [] ps)), HO.row (.slice au U.length cu) 3 1 (ints U)]) (HRW :: ROU :: knR bk s.hands.length (List.replicate s.hands.length fun _ => 0) :: ([] ++ B)) := by
    rw [← hHRW, ← hROU]
    refine (HImp.perm (List.perm_append_comm (l₁ := N2))).trans ?_
    refine HImp.trans (HImp.perm (List.Perm.swap _ _ _)) ?_
    refine (HImp.ro _ _ _).trans ?_
    refine HImp.trans (HImp.perm (List.Perm.swap _ _ _)) ?_
    exact HImp.perm (List.Perm.cons _ (List.Perm.cons _ hperm))
  subst hE0
  refine ⟨?_⟩
  simp (config := { maxSteps := 4000000 }) only [↓sx0, ↓sx1, ↓sx2, ↓sx3, ↓sx4, ↓sx5, ↓sx6, sx0, sx1, sx2, sx3, sx4, sx5, sx6, tf11, ev3_hold, sxo, sxc, sxp, sxq, sxr, sxs, sxl, sxm, simprocAttr, eM, pl11_lk, pl11_15]
  refine loop_boxH (HRW :: ROU :: knR bk s.hands.length (List.replicate s.hands.length fun _ => 0) :: ([] ++ B)) hi1 [(17, 18), (20, 23), (25, 25), (75, 132)] (fun q : Nat × Int × List Int × (Option Addr × Nat) × List HO => [(75, I q.1)])
    (fun q => [(24, [.slice ah ps.length ch, I s.window, I s.duty]), (25, [.slice asx ns cs]), (3, [I q.2.1]), (25, [.slice q.2.2.2.1.1 q.2.2.1.length q.2.2.2.1.2]), (30, [I 0]), (69, [.pointer (some ⟨bc, 0, none⟩)])])
    (fun q H1 => q.1 ≤ M + 1 ∧ MaxI mus (doneL U q.1) q.2.1 q.2.2.1 ∧ MisOk q.2.2.2.1.1 q.2.2.2.1.2 q.2.2.1 q.2.2.2.2 ∧ ∃ kn, KnOk (withS s []) call len kn ∧ H1 = HRW :: ROU :: knR bk s.hands.length kn :: (q.2.2.2.2 ++ B)) (fun q => M + 1 - q.1) (0, -1, [], (none, 0), []) ?_ rfl (fun _ => rfl) ⟨Nat.zero_le _, (MaxI.init mus).congr fun y => ⟨fun h => h.elim, fun h => absurd h.2 (by omega)⟩, .inl ⟨rfl, rfl, rfl, rfl⟩, _, hkn0, rfl⟩ ?_
  · simp (config := { maxSteps := 4000000 }) only [↓sx0, ↓sx1, ↓sx2, ↓sx3, ↓sx4, ↓sx5, ↓sx6, sx0, sx1, sx2, sx3, sx4, sx5, sx6, tf11, ev3_hold, sxo, sxc, sxp, sxq, sxr, sxs, sxl, sxm, simprocAttr]
    try simp
  rintro ⟨many, t, m, ⟨am, cm⟩, MF⟩ H1 g1 hinv
  simp only [] at hinv
  obtain ⟨hmany, hmax, hmis, kn, hkn, rfl⟩ := hinv
  by_cases hmn1 : many = M + 1
  · subst hmn1
    have e8 : (((M + 1 : Nat) : Int) < ((M + 1 : Nat) : Int)) = False := eq_false (by omega)
    have hmax2 := hmax.congr hfin
    refine ⟨?_⟩
    simp (config := { maxSteps := 4000000 }) only [↓sx0, ↓sx1, ↓sx2, ↓sx3, ↓sx4, ↓sx5, ↓sx6, sx0, sx1, sx2, sx3, sx4, sx5, sx6, tf11, ev3_hold, sxo, sxc, sxp, sxq, sxr, sxs, sxl, sxm, simprocAttr, e8, pl11_lk, pl11_38]
    exact ⟨t, _, m, 0, rfl, .inr (.inr ⟨rfl, hmax2⟩), hmis.got (by simp +contextual)⟩
  have e8 : ((many : Int) < ((M + 1 : Nat) : Int)) = True := eq_true (by omega)
  have e9 : wr ((many : Int) + 1) = ((many + 1 : Nat) : Int) := (wrap_id (by omega)).trans (by omega)
  obtain ⟨all, hall⟩ : ∃ all, cmb many U = all := ⟨_, rfl⟩
  refine ⟨?_⟩
  simp (config := { maxSteps := 4000000 }) only [↓sx0, ↓sx1, ↓sx2, ↓sx3, ↓sx4, ↓sx5, ↓sx6, sx0, sx1, sx2, sx3, sx4, sx5, sx6, tf11, ev3_hold, sxo, sxc, sxp, sxq, sxr, sxs, sxl, sxm, simprocAttr, e8, dn]
  refine CallOb.pureH (fun w' hp => lists_fn w' au U.length cu many) ?_
  rintro q N3 ⟨bf, bl, bm, rfl, hN3⟩
  have hi2 : HImp ⟨w, fun _ => False⟩ (N3 ++ (HRW :: ROU :: knR bk s.hands.length kn :: (MF ++ B))) ([HO.cells bf 106 [fromV bm bf], HO.cells bl 25 [.slice au U.length cu], HO.cells bm 3 [I many]] ++ (HRW :: ROU :: knR bk s.hands.length kn :: (MF ++ B))) := HImp.perm (hN3.append_right _)
  refine ⟨?_⟩
  simp (config := { maxSteps := 4000000 }) only [↓sx0, ↓sx1, ↓sx2, ↓sx3, ↓sx4, ↓sx5, ↓sx6, sx0, sx1, sx2, sx3, sx4, sx5, sx6, tf11, ev3_hold, sxo, sxc, sxp, sxq, sxr, sxs, sxl, sxm, simprocAttr]
  refine range_introRo Try.call52 all.length (listArg all) [HO.cells bf 106 [fromV bm bf], HO.cells bl 25 [.slice au U.length cu], HO.cells bm 3 [I many]] (HRW :: ROU :: knR bk s.hands.length kn :: (MF ++ B))
    (fun k L' H' => ∃ t m am cm MF kn, MaxI mus (doneK U many k) t m ∧ MisOk am cm m MF ∧ KnOk (withS s []) call len kn ∧ L' = [(24, [.slice ah ps.length ch, I s.window, I s.duty]), (25, [.slice asx ns cs]), (3, [I t]), (25, [.slice am m.length cm]), (30, [I 0]), (69, [.pointer (some ⟨bc, 0, none⟩)])] ∧ H' = HRW :: ROU :: knR bk s.hands.length kn :: (MF ++ B))
    (fun _ => False) (fun x => x = bf ∨ x = bl ∨ x = bm ∨ (Value.slice au U.length cu).ownBlock = some x) hi2 (fun _ h => h.elim) ?_ ?_ ⟨t, m, am, cm, MF, kn, hmax.congr doneK_zero, hmis, hkn, rfl, rfl⟩ ?_ ?_ ?_
  · rintro b (rfl | rfl | rfl | hb)
    · exact .inr (.inl ⟨_, List.mem_cons_self, rfl⟩)
    · exact .inr (.inl ⟨_, List.mem_cons_of_mem _ List.mem_cons_self, rfl⟩)
    · exact .inr (.inl ⟨_, List.mem_cons_of_mem _ (List.mem_cons_of_mem _ List.mem_cons_self), rfl⟩)
    · exact .inr (.inr ⟨_, by rw [hROU]; exact List.mem_cons_of_mem _ List.mem_cons_self, by simpa [HO.fp] using hb⟩)
  · intro w' hp
    have hm4 : HO.ro (.row (.slice au U.length cu) 3 1 (ints U)) ∈ ([HO.cells bf 106 [fromV bm bf], HO.cells bl 25 [.slice au U.length cu], HO.cells bm 3 [I many]] ++ (HRW :: ROU :: knR bk s.hands.length kn :: (MF ++ B))) := by rw [hROU]; simp
    have hit := lists2_it w' bf bl bm (.slice au U.length cu) U many (by omega) (by omega) (by rw [cell_of_cells (hp.ok _ List.mem_cons_self)]; rfl) (by rw [cell_of_cells (hp.ok _ (List.mem_cons_of_mem _ List.mem_cons_self))]; rfl) (by rw [cell_of_cells (hp.ok _ (List.mem_cons_of_mem _ (List.mem_cons_of_mem _ List.mem_cons_self)))]; rfl) (ro_hp hm4 hp) (fun a n c h => by cases h; exact RowOk.cap (hp.ok _ hm4))
    rw [hall] at hit
    exact fun l J C R hH hJ hA hRs => hit l J C R hH hJ hA fun b hb => hRs b (hb.imp id (Or.imp id (Or.imp id And.left)))
  · rintro k vs F ⟨x, a1, c1, h1, rfl, h2, rfl⟩
    rfl
  · rintro k vs F L' H' hk ⟨x, a1, c1, hx, rfl, hx0, rfl⟩ hL ⟨t, m, am, cm, MF, kn, hmax, hmis, hkn, rfl, rfl⟩
    have hxm := cmb_mem.1 (by rw [hall]; exact List.mem_of_getElem? hx)
    have hxlt : x.Pairwise (· < ·) := hUlt.sublist hxm.1
    have hxl : x.length ≤ 100 := by have := hxm.1.length_le; omega
    have hxk : ∀ (j : Nat) y, x[j]? = some y → ∃ (k : Nat) (p : Hm), y = (k : Int) ∧ ps[k]? = some p ∧ p.1.ans = 0 := fun j y hj => hUm y (hxm.1.subset (List.mem_of_getElem? hj))
    obtain ⟨R1, hR1⟩ : ∃ R1, HO.ro (.row (.slice a1 x.length c1) 3 1 (ints x)) :: ROU :: knR bk s.hands.length kn :: (MF ++ B) = R1 := ⟨_, rfl⟩
    have hbc1 : HO.cells bc 77 [.pointer (some ⟨br, 0, none⟩), I call, I len, .slice (some ⟨bk, 0, none⟩) s.hands.length s.hands.length] ∈ R1 := by rw [← hR1]; simp [hcc]
    have hbr1 : HO.cells br 80 [.slice ah ps.length ch, I s.window, I s.duty, .slice ao s.hands.length co] ∈ R1 := by rw [← hR1]; simp [hbr]
    have hrx : ∀ h, Rdv ⟨w, fun _ => False⟩ (h :: R1) (.slice a1 x.length c1) 1 (ints x) := fun h => ro_rdv (E := 3) (List.mem_cons_of_mem _ (by rw [← hR1]; exact List.mem_cons_self)) ⟨_, _, _, rfl, by rw [cat_len i1_len], fun h => by rw [hx0 h]; rfl⟩
    refine ⟨?_⟩
    simp (config := { maxSteps := 4000000 }) only [↓sx0, ↓sx1, ↓sx2, ↓sx3, ↓sx4, ↓sx5, ↓sx6, sx0, sx1, sx2, sx3, sx4, sx5, sx6, tf11, ev3_hold, sxo, sxc, sxp, sxq, sxr, sxs, sxl, sxm, simprocAttr]
    refine loop_constH (HO.row (.slice ah ps.length ch) 44 5 (cat hdc (psW [] ps)) :: R1) (by rw [← hHRW, ← hR1]; exact HImp.swap _ _ _ _) [(20, 20), (84, 99)] (fun j : Nat => [(84, I j)]) (fun j H1 => j ≤ x.length ∧ H1 = HO.row (.slice ah ps.length ch) 44 5 (cat hdc (psW (x.take j) ps)) :: R1) (fun j => x.length - j) 0 ?_ ⟨Nat.zero_le _, rfl⟩ ?_
    · simp (config := { maxSteps := 4000000 }) only [↓sx0, ↓sx1, ↓sx2, ↓sx3, ↓sx4, ↓sx5, ↓sx6, sx0, sx1, sx2, sx3, sx4, sx5, sx6, tf11, ev3_hold, sxo, sxc, sxp, sxq, sxr, sxs, sxl, sxm, simprocAttr]
      try simp
    rintro j H1 g1 ⟨hj, rfl⟩
    by_cases hjn : j = x.length
    case neg =>
      have f7 : ((j : Int) < (x.length : Int)) = True := eq_true (by omega)
      have f8 : wr (j + 1) = ((j + 1 : Nat) : Int) := (wrap_id (by omega)).trans (by omega)
      obtain ⟨y, hy⟩ : ∃ y, x[j]? = some y := ⟨_, List.getElem?_eq_getElem (by omega)⟩
      obtain ⟨k', p, rfl, hp, h0⟩ := hxk j y hy
      have hkl := (List.getElem?_eq_some_iff.1 hp).1
      have f9 : ((k' : Int) < (ps.length : Int)) = True := eq_true (by omega)
      cases ah with
      | none =>
        have hz := hnil rfl
        subst hz
        simp at hkl
      | some adh =>
      have hset := psW_set (y := x.take j) (y' := x.take (j + 1)) hp fun i hik => take_not hy hik
      have hd := hdc_with (y := x.take j) (y' := x.take (j + 1)) (k := k') h0
      rw [if_pos (by rw [List.take_add_one, hy]; simp)] at hd
      have hgp : (psW (x.take j) ps)[k']? = some (withH (x.take j) k' p.1, p.2) := by rw [psW_get, hp]; rfl
      refine ⟨?_⟩
      simp (config := { maxSteps := 4000000 }) only [↓sx0, ↓sx1, ↓sx2, ↓sx3, ↓sx4, ↓sx5, ↓sx6, sx0, sx1, sx2, sx3, sx4, sx5, sx6, tf11, ev3_hold, sxo, sxc, sxp, sxq, sxr, sxs, sxl, sxm, simprocAttr, f7]
      refine amid (at_1 (hrx _) i1_len hy rfl fun ad => ?_)
      simp (config := { maxSteps := 4000000 }) only [↓sx0, ↓sx1, ↓sx2, ↓sx3, ↓sx4, ↓sx5, ↓sx6, sx0, sx1, sx2, sx3, sx4, sx5, sx6, tf11, ev3_hold, sxo, sxc, sxp, sxq, sxr, sxs, sxl, sxm, simprocAttr]
      refine ld_cellz (o := 0) (T := 77) (by simp [Addr.add]) (List.mem_cons_of_mem _ hbc1) rfl ?_
      simp (config := { maxSteps := 4000000 }) only [↓sx0, ↓sx1, ↓sx2, ↓sx3, ↓sx4, ↓sx5, ↓sx6, sx0, sx1, sx2, sx3, sx4, sx5, sx6, tf11, ev3_hold, sxo, sxc, sxp, sxq, sxr, sxs, sxl, sxm, simprocAttr]
      refine ld_cellz (o := 0) (T := 80) (by simp [Addr.add]) (List.mem_cons_of_mem _ hbr1) rfl ?_
      simp (config := { maxSteps := 4000000 }) only [↓sx0, ↓sx1, ↓sx2, ↓sx3, ↓sx4, ↓sx5, ↓sx6, sx0, sx1, sx2, sx3, sx4, sx5, sx6, tf11, ev3_hold, sxo, sxc, sxp, sxq, sxr, sxs, sxl, sxm, simprocAttr, f9]
      refine ⟨by omega, adh, rfl, ?_⟩
      refine wr_f1 (A := []) (withH (x.take (j + 1)) k' p.1, p.2) rfl hdc_len (psW_len _ _) hgp hd (by omega) ?_
      rw [hset]
      simp (config := { maxSteps := 4000000 }) only [↓sx0, ↓sx1, ↓sx2, ↓sx3, ↓sx4, ↓sx5, ↓sx6, sx0, sx1, sx2, sx3, sx4, sx5, sx6, tf11, ev3_hold, sxo, sxc, sxp, sxq, sxr, sxs, sxl, sxm, simprocAttr, f8]
      exact ⟨j + 1, _, rfl, HImp.refl _ _, ⟨by omega, rfl⟩, by omega⟩
    have f7 : ((j : Int) < (x.length : Int)) = False := eq_false (by omega)
    rw [List.take_of_length_le (by omega)]
    have hi3 : HImp ⟨w, fun _ => False⟩ (HO.row (.slice ah ps.length ch) 44 5 (cat hdc (psW x ps)) :: R1) ([knR bk s.hands.length kn] ++ (HO.row (.slice ah ps.length ch) 44 5 (cat hdc (psW x ps)) :: HO.ro (.row (.slice a1 x.length c1) 3 1 (ints x)) :: ROU :: (MF ++ B))) := by
      rw [← hR1]
      exact HImp.perm (List.perm_middle (l₁ := [_, _, _]))
    have hmu := fun w' (hp : Hp ⟨w, fun _ => False⟩ ([knR bk s.hands.length kn] ++ (HO.row (.slice ah ps.length ch) 44 5 (cat hdc (psW x ps)) :: HO.ro (.row (.slice a1 x.length c1) 3 1 (ints x)) :: ROU :: (MF ++ B))) w') => by
      have hok1 : HO.ok w' (knR bk s.hands.length kn) := hp.ok _ List.mem_cons_self
      have hca := ca_with (y := x) (ps := ps) (kn := kn) (n := s.hands.length) (at_ := call) (len := len) (bc := bc) ((hro.with x).mono (N' := HO.row (.slice ah ps.length ch) 44 5 (cat hdc (psW x ps)) :: HO.ro (.row (.slice a1 x.length c1) 3 1 (ints x)) :: ROU :: (MF ++ B)) (by simp +contextual)) (by simp [hcc]) List.mem_cons_self hps hlg hp
      have h1 := muster_fn w' bc br bk (withS s x) call len (by rw [okB_with]; exact hok) hc100 hl40 hca kn (by rw [withS_len]; exact hok1) (hkn.with x) (.slice asx ns cs) seats (fun w2 hk => hvs.keepR (hp.ext.trans hk) fun b hb hx => by
        rcases hx with hx | hx
        · exact hx
        · have hbk : w.heap.size ≤ bk := (hp.old _ List.mem_cons_self bk knR_fp.2).resolve_left id
          have hx : b = bk := hx
          have := hb.2
          omega) hlb
      rw [withS_len] at h1
      exact h1
    refine ⟨?_⟩
    simp (config := { maxSteps := 4000000 }) only [↓sx0, ↓sx1, ↓sx2, ↓sx3, ↓sx4, ↓sx5, ↓sx6, sx0, sx1, sx2, sx3, sx4, sx5, sx6, tf11, ev3_hold, sxo, sxc, sxp, sxq, sxr, sxs, sxl, sxm, simprocAttr, f7, dn]
    refine CallOb.mutH (A := [knR bk s.hands.length kn]) (B := HO.row (.slice ah ps.length ch) 44 5 (cat hdc (psW x ps)) :: HO.ro (.row (.slice a1 x.length c1) 3 1 (ints x)) :: ROU :: (MF ++ B)) hi3 fps_knR hmu ?_
    rintro q N5 ⟨kn2, hkn2, hm2, hMus⟩
    have hkn3 := hkn2.with []
    obtain ⟨R2, hR2⟩ : ∃ R2, HO.ro (.row (.slice a1 x.length c1) 3 1 (ints x)) :: ROU :: knR bk s.hands.length kn2 :: (MF ++ B) = R2 := ⟨_, rfl⟩
    have hi4 : HImp ⟨w, fun _ => False⟩ (N5 ++ (HO.row (.slice ah ps.length ch) 44 5 (cat hdc (psW x ps)) :: HO.ro (.row (.slice a1 x.length c1) 3 1 (ints x)) :: ROU :: (MF ++ B))) (HO.row (.slice ah ps.length ch) 44 5 (cat hdc (psW (x.drop 0) ps)) :: R2) := by
      rw [← hR2, List.drop_zero]
      exact (HImp.append (HImp.pick hm2)).trans (HImp.perm (List.perm_middle (l₁ := [_, _, _])).symm)
    have hbc2 : HO.cells bc 77 [.pointer (some ⟨br, 0, none⟩), I call, I len, .slice (some ⟨bk, 0, none⟩) s.hands.length s.hands.length] ∈ R2 := by rw [← hR2]; simp [hcc]
    have hbr2 : HO.cells br 80 [.slice ah ps.length ch, I s.window, I s.duty, .slice ao s.hands.length co] ∈ R2 := by rw [← hR2]; simp [hbr]
    have hrx2 : ∀ h, Rdv ⟨w, fun _ => False⟩ (h :: R2) (.slice a1 x.length c1) 1 (ints x) := fun h => ro_rdv (E := 3) (List.mem_cons_of_mem _ (by rw [← hR2]; exact List.mem_cons_self)) ⟨_, _, _, rfl, by rw [cat_len i1_len], fun h => by rw [hx0 h]; rfl⟩
    obtain ⟨W1, W2, W3, rfl, hW⟩ : ∃ (W1 : Int) (W2 : Value) (W3 : Bool), q = .tuple #[I W1, W2, .bool W3] ∧ ((W3 = false ∧ mus x = none) ∨ (W3 = true ∧ mus x = some W1 ∧ call ≤ W1)) := by
      rcases hMus with ⟨h1, rfl⟩ | ⟨j', l, x', h1, rfl, _⟩
      · exact ⟨_, _, _, rfl, .inl ⟨rfl, hmn x h1⟩⟩
      · exact ⟨_, _, _, rfl, .inr ⟨rfl, hms x j' l h1, by omega⟩⟩
    clear hMus
    refine ⟨?_⟩
    simp (config := { maxSteps := 4000000 }) only [↓sx0, ↓sx1, ↓sx2, ↓sx3, ↓sx4, ↓sx5, ↓sx6, sx0, sx1, sx2, sx3, sx4, sx5, sx6, tf11, ev3_hold, sxo, sxc, sxp, sxq, sxr, sxs, sxl, sxm, simprocAttr]
    refine loop_constH (HO.row (.slice ah ps.length ch) 44 5 (cat hdc (psW (x.drop 0) ps)) :: R2) hi4 [(25, 25), (109, 124)] (fun j : Nat => [(109, I j)]) (fun j H1 => j ≤ x.length ∧ H1 = HO.row (.slice ah ps.length ch) 44 5 (cat hdc (psW (x.drop j) ps)) :: R2) (fun j => x.length - j) 0 ?_ ⟨Nat.zero_le _, rfl⟩ ?_
    · simp (config := { maxSteps := 4000000 }) only [↓sx0, ↓sx1, ↓sx2, ↓sx3, ↓sx4, ↓sx5, ↓sx6, sx0, sx1, sx2, sx3, sx4, sx5, sx6, tf11, ev3_hold, sxo, sxc, sxp, sxq, sxr, sxs, sxl, sxm, simprocAttr]
      try simp
    rintro j2 H1 g1 ⟨hj2, rfl⟩
    by_cases hjn2 : j2 = x.length
    case neg =>
      have f7 : ((j2 : Int) < (x.length : Int)) = True := eq_true (by omega)
      have f8 : wr (j2 + 1) = ((j2 + 1 : Nat) : Int) := (wrap_id (by omega)).trans (by omega)
      obtain ⟨y, hy⟩ : ∃ y, x[j2]? = some y := ⟨_, List.getElem?_eq_getElem (by omega)⟩
      obtain ⟨k', p, rfl, hp, h0⟩ := hxk j2 y hy
      have hkl := (List.getElem?_eq_some_iff.1 hp).1
      have f9 : ((k' : Int) < (ps.length : Int)) = True := eq_true (by omega)
      cases ah with
      | none =>
        have hz := hnil rfl
        subst hz
        simp at hkl
      | some adh =>
      have hset := psW_set (y := x.drop j2) (y' := x.drop (j2 + 1)) hp fun i hik => drop_not hy hik
      have hd := hdc_with (y := x.drop j2) (y' := x.drop (j2 + 1)) (k := k') h0
      rw [if_neg (by rw [drop_no hxlt hy]; simp)] at hd
      have hgp : (psW (x.drop j2) ps)[k']? = some (withH (x.drop j2) k' p.1, p.2) := by rw [psW_get, hp]; rfl
      refine ⟨?_⟩
      simp (config := { maxSteps := 4000000 }) only [↓sx0, ↓sx1, ↓sx2, ↓sx3, ↓sx4, ↓sx5, ↓sx6, sx0, sx1, sx2, sx3, sx4, sx5, sx6, tf11, ev3_hold, sxo, sxc, sxp, sxq, sxr, sxs, sxl, sxm, simprocAttr, f7]
      refine amid (at_1 (hrx2 _) i1_len hy rfl fun ad => ?_)
      simp (config := { maxSteps := 4000000 }) only [↓sx0, ↓sx1, ↓sx2, ↓sx3, ↓sx4, ↓sx5, ↓sx6, sx0, sx1, sx2, sx3, sx4, sx5, sx6, tf11, ev3_hold, sxo, sxc, sxp, sxq, sxr, sxs, sxl, sxm, simprocAttr]
      refine ld_cellz (o := 0) (T := 77) (by simp [Addr.add]) (List.mem_cons_of_mem _ hbc2) rfl ?_
      simp (config := { maxSteps := 4000000 }) only [↓sx0, ↓sx1, ↓sx2, ↓sx3, ↓sx4, ↓sx5, ↓sx6, sx0, sx1, sx2, sx3, sx4, sx5, sx6, tf11, ev3_hold, sxo, sxc, sxp, sxq, sxr, sxs, sxl, sxm, simprocAttr]
      refine ld_cellz (o := 0) (T := 80) (by simp [Addr.add]) (List.mem_cons_of_mem _ hbr2) rfl ?_
      simp (config := { maxSteps := 4000000 }) only [↓sx0, ↓sx1, ↓sx2, ↓sx3, ↓sx4, ↓sx5, ↓sx6, sx0, sx1, sx2, sx3, sx4, sx5, sx6, tf11, ev3_hold, sxo, sxc, sxp, sxq, sxr, sxs, sxl, sxm, simprocAttr, f9]
      refine ⟨by omega, adh, rfl, ?_⟩
      refine wr_f1 (A := []) (withH (x.drop (j2 + 1)) k' p.1, p.2) rfl hdc_len (psW_len _ _) hgp hd (by omega) ?_
      rw [hset]
      simp (config := { maxSteps := 4000000 }) only [↓sx0, ↓sx1, ↓sx2, ↓sx3, ↓sx4, ↓sx5, ↓sx6, sx0, sx1, sx2, sx3, sx4, sx5, sx6, tf11, ev3_hold, sxo, sxc, sxp, sxq, sxr, sxs, sxl, sxm, simprocAttr, f8]
      exact ⟨j2 + 1, _, rfl, HImp.refl _ _, ⟨by omega, rfl⟩, by omega⟩
    have f7 : ((j2 : Int) < (x.length : Int)) = False := eq_false (by omega)
    rw [List.drop_of_length_le (by omega)]
    rcases hW with ⟨rfl, hno⟩ | ⟨rfl, hyes, hge⟩
    · refine ⟨?_⟩
      simp (config := { maxSteps := 4000000 }) only [↓sx0, ↓sx1, ↓sx2, ↓sx3, ↓sx4, ↓sx5, ↓sx6, sx0, sx1, sx2, sx3, sx4, sx5, sx6, tf11, ev3_hold, sxo, sxc, sxp, sxq, sxr, sxs, sxl, sxm, simprocAttr, f7]
      exact ⟨_, HImp.nil _ _, 0, .slice none 0 0, [], 3, rfl, .inr (.inl ⟨⟨x, (hlots x).2 ⟨hxm.1, by have := hxm.2; omega⟩, hno⟩, rfl, rfl, rfl⟩), .inl ⟨rfl, rfl⟩⟩
    have hxk2 : (cmb many U)[k]? = some x := by rw [hall]; exact hx
    by_cases hmo : W1 > t
    · have z1 : (W1 > t) = True := eq_true hmo
      have hnew := who_more hmax hxk2 hyes hmo
      refine ⟨?_⟩
      simp (config := { maxSteps := 4000000 }) only [↓sx0, ↓sx1, ↓sx2, ↓sx3, ↓sx4, ↓sx5, ↓sx6, sx0, sx1, sx2, sx3, sx4, sx5, sx6, tf11, ev3_hold, sxo, sxc, sxp, sxq, sxr, sxs, sxl, sxm, simprocAttr, f7, z1]
      refine ⟨_, ?_, W1, x, a1, c1, [HO.ro (.row (.slice a1 x.length c1) 3 1 (ints x))], kn2, hnew, .inr ⟨hx0, rfl⟩, hkn3, rfl, rfl⟩
      rw [← hR2, hHRW]
      refine HImp.trans (HImp.sub (.cons_cons _ (.cons_cons _ (.cons_cons _ (.cons_cons _ (List.sublist_append_right MF B)))))) ?_
      exact HImp.perm (List.Perm.cons _ (List.perm_middle (l₁ := [_, _])).symm)
    · have z1 : (W1 > t) = False := eq_false hmo
      have hnew := who_keep hUlt hmax hxk2 hyes (by omega) (by omega)
      refine ⟨?_⟩
      simp (config := { maxSteps := 4000000 }) only [↓sx0, ↓sx1, ↓sx2, ↓sx3, ↓sx4, ↓sx5, ↓sx6, sx0, sx1, sx2, sx3, sx4, sx5, sx6, tf11, ev3_hold, sxo, sxc, sxp, sxq, sxr, sxs, sxl, sxm, simprocAttr, f7, z1]
      refine ⟨_, ?_, t, m, am, cm, MF, kn2, hnew, hmis, hkn3, rfl, rfl⟩
      rw [← hR2, hHRW]
      exact HImp.sub (.cons_cons _ (List.sublist_cons_self _ _))
  · rintro L' H' hL ⟨t, m, am, cm, MF, kn, hmax, hmis, hkn, rfl, rfl⟩
    have hmax2 := hmax.congr (d' := doneL U (many + 1)) fun z => by rw [← hall]; exact doneK_all z
    refine ⟨?_⟩
    simp (config := { maxSteps := 4000000 }) only [↓sx0, ↓sx1, ↓sx2, ↓sx3, ↓sx4, ↓sx5, ↓sx6, sx0, sx1, sx2, sx3, sx4, sx5, sx6, tf11, ev3_hold, sxo, sxc, sxp, sxq, sxr, sxs, sxl, sxm, simprocAttr, e9]
    exact ⟨(many + 1, t, m, (am, cm), MF), _, rfl, rfl, HImp.refl _ _, ⟨by simp only []; omega, hmax2, hmis, kn, hkn, rfl⟩, by simp only []; omega⟩
end Go.Proofs.Ytgpglmcbopfddaa

