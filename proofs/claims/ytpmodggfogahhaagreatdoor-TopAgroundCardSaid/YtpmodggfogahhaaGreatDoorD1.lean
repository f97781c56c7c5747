/- Parts of a proof: the symbolic walk and what it shows of single functions. -/
import Derived.Test.YtpmodggfogahhaaGreatDoorH4
import Derived.Test.YtpmodggfogahhaaGreatDoorC5
import Derived.Test.YtpmodggfogahhaaGreatDoorC2
import Derived.Test.YtpmodggfogahhaaGreatDoorH5
import Derived.Test.YtpmodggfogahhaaGreatDoorC1
import Derived.Test.YtpmodggfogahhaaGreatDoorF8
import Derived.Test.YtpmodggfogahhaaGreatDoorT1
set_option linter.all false
namespace Go.Proofs.YtpmodggfogahhaaGreatDoor
open Go.RowKit Go.SX
set_option maxRecDepth 20000
set_option maxHeartbeats 4000000
set_option linter.unusedSimpArgs false
set_option linter.unusedVariables false
theorem keeps_ex {d : Array Int} {n : Nat} {x : Int} : ∀ j, j < n → d[j]! = x → ∃ i, i < n ∧ d[i]! = x ∧ Lib.keeps d i = true
  | 0, h, e => ⟨0, h, e, by simp [Lib.keeps]⟩
  | j + 1, h, e => by
    by_cases hp : d[j]! = x
    · exact keeps_ex j (by omega) hp
    · refine ⟨j + 1, h, e, ?_⟩
      unfold Lib.keeps
      rw [decide_eq_true_eq]
      right
      rw [e, Nat.add_sub_cancel]
      exact fun h => hp h.symm
theorem mem_compact (l : List Int) (x : Int) : x ∈ Lib.compact l ↔ x ∈ l := by
  unfold Lib.compact Lib.compactUpTo
  simp only [List.mem_map, List.mem_filter, List.mem_range]
  constructor
  · rintro ⟨j, ⟨hj, _⟩, rfl⟩
    rw [getElem!_pos l.toArray j (by simpa using hj)]
    simp
  · intro hx
    obtain ⟨j, hj, e⟩ := List.mem_iff_getElem.1 hx
    obtain ⟨i, hi, e2, hk⟩ := keeps_ex (d := l.toArray) (n := l.length) (x := x) j hj (by rw [getElem!_pos l.toArray j (by simpa using hj)]; simpa using e)
    exact ⟨i, ⟨hi, hk⟩, e2⟩
theorem mem_srtL (l : List Int) (x : Int) : x ∈ srtL l ↔ x ∈ l := (srtL_perm l).mem_iff
theorem mem_stpN (d : Drf) (cur wnd : Psh) (t k lw : Nat) (lo x : Int) : ∀ n, x ∈ stpN d cur wnd t k lw lo n ↔ ∃ j : Nat, j < n ∧ if dryB d.c k t (lo + j) then x = k else x ∈ seedL d cur wnd t (lo + j) k lw
  | 0 => by
    simp [stpN]
  | n + 1 => by
    have ih := mem_stpN d cur wnd t k lw lo x n
    rw [stpN, stpH]
    constructor
    · intro h
      have h2 : x ∈ stpN d cur wnd t k lw lo n ∨ (if dryB d.c k t (lo + n) then x = k else x ∈ seedL d cur wnd t (lo + n) k lw) := by
        split at h
        · rename_i hd
          rw [if_pos hd]
          simpa using h
        · rename_i hd
          rw [if_neg hd]
          rw [mem_compact, mem_srtL] at h
          simpa using h
      rcases h2 with h2 | h2
      · obtain ⟨j, hj, h3⟩ := ih.1 h2
        exact ⟨j, by omega, h3⟩
      · exact ⟨n, by omega, h2⟩
    · rintro ⟨j, hj, h⟩
      have h2 : x ∈ stpN d cur wnd t k lw lo n ∨ (if dryB d.c k t (lo + n) then x = k else x ∈ seedL d cur wnd t (lo + n) k lw) := by
        by_cases e : j = n
        · subst e
          exact .inr h
        · exact .inl (ih.2 ⟨j, by omega, h⟩)
      split
      · rename_i hd
        rw [if_pos hd] at h2
        simpa using h2
      · rename_i hd
        rw [if_neg hd] at h2
        rw [mem_compact, mem_srtL]
        simpa using h2
theorem mem_stpA (d : Drf) (cur wnd : Psh) (t k lw : Nat) (lo hi x : Int) : x ∈ stpA d cur wnd t k lw lo hi ↔ ∃ h : Int, lo ≤ h ∧ h ≤ hi ∧ if dryB d.c k t h then x = k else x ∈ seedL d cur wnd t h k lw := by
  unfold stpA
  rw [mem_compact, mem_srtL, mem_stpN]
  constructor
  · rintro ⟨j, hj, h⟩
    exact ⟨lo + j, by omega, by omega, h⟩
  · rintro ⟨h, h1, h2, h3⟩
    refine ⟨(h - lo).toNat, by omega, ?_⟩
    rw [show lo + ((h - lo).toNat : Int) = h by omega]
    exact h3
theorem pshN_wet {c : Cht} {t : Nat} {h : Int} {dir : Nat} : ∀ (s k : Nat) (y : Int), pshN c t h dir s k = y → y ≠ -1 → y = k ∨ dryB c y.toNat t h = false
  | 0, k, y, e, _ => .inl e.symm
  | s + 1, k, y, e, hn => by
    rw [pshN] at e
    cases hb : bes c.W c.H k dir with
    | none =>
      rw [hb] at e
      exact absurd e.symm hn
    | some z =>
      rw [hb] at e
      simp only [] at e
      split at e
      · exact .inl e.symm
      · rename_i hd
        rcases pshN_wet s z y e hn with h2 | h2
        · right
          rw [h2, Int.toNat_natCast]
          simpa using hd
        · exact .inr h2
theorem pshN_dst {c : Cht} (hok : c.ok) {t : Nat} {h : Int} {dir : Nat} (hdir : dir < 6) : ∀ (s k y : Nat), k < c.depth.length → pshN c t h dir s k = y → dst c.W c.H k y ≤ s
  | 0, k, y, hk, e => by
    obtain ⟨_, _, _, _, hlen⟩ := hok.dims
    have : k = y := by
      rw [pshN] at e
      omega
    subst this
    rw [(dst_zero (by omega) (by omega)).2 rfl]
    exact Nat.le_refl _
  | s + 1, k, y, hk, e => by
    obtain ⟨_, _, _, _, hlen⟩ := hok.dims
    rw [pshN] at e
    cases hb : bes c.W c.H k dir with
    | none =>
      rw [hb] at e
      simp only [] at e
      omega
    | some z =>
      rw [hb] at e
      simp only [] at e
      have hz := bes_in hok hk hb
      split at e
      · have : k = y := by omega
        subst this
        rw [(dst_zero (by omega) (by omega)).2 rfl]
        exact Nat.zero_le _
      · have h1 := pshN_dst hok hdir s z y hz e
        have hy : y < c.depth.length := by
          rcases pshN_in (t := t) (h := h) (dir := dir) hok s z hz with h2 | ⟨y', h2, h3⟩
          · omega
          · have : y = y' := by omega
            omega
        have h2 : dst c.W c.H k z = 1 := (dst_one (by omega) (by omega)).2 (List.mem_filterMap.2 ⟨dir, by simpa using hdir, hb⟩)
        have h3 := dst_over (W := c.W) (H := c.H) (a := k) (x := y) (o := z) (by omega) (by omega) (by omega)
        omega
theorem seed_parts {d : Drf} {cur wnd : Psh} {t k lw : Nat} {h x : Int} (hok : d.c.ok) (hk : k < d.c.depth.length) (hx : x ∈ seedL d cur wnd t h k lw) : x = -1 ∨ ∃ y : Nat, y < d.c.depth.length ∧ (y : Int) ∈ pshL d.c t h k cur id ∧ x ∈ pshL d.c t h y wnd (fun f => f * lw / 4) := by
  unfold seedL at hx
  obtain ⟨b, hb, hx⟩ := List.mem_flatMap.1 hx
  split at hx
  · simp only [List.mem_singleton] at hx
    exact .inl hx
  · rename_i hn
    right
    obtain ⟨dir, f, h1, h2, h3, e⟩ := mem_pshL hb
    rcases pshN_in (t := t) (h := h) (dir := dir) hok (id f) k hk with h4 | ⟨y, h4, h5⟩
    · omega
    · have : b = y := by omega
      subst this
      exact ⟨y, h5, hb, by simpa using hx⟩
theorem stpA_in {d : Drf} {cur wnd : Psh} {t k lw : Nat} {lo hi x : Int} (hok : d.c.ok) (hk : k < d.c.depth.length) (hx : x ∈ stpA d cur wnd t k lw lo hi) : x = -1 ∨ ∃ y : Nat, x = y ∧ y < d.c.depth.length := by
  rw [mem_stpA] at hx
  obtain ⟨h, _, _, hx⟩ := hx
  split at hx
  · exact .inr ⟨k, hx, hk⟩
  · rcases seed_parts hok hk hx with h1 | ⟨y, hy, _, h2⟩
    · exact .inl h1
    · obtain ⟨dir, f, _, _, _, e⟩ := mem_pshL h2
      rcases pshN_in (t := t) (h := h) (dir := dir) hok (f * lw / 4) y hy with h4 | ⟨z, h4, h5⟩
      · exact .inl (by rw [e]; exact h4)
      · exact .inr ⟨z, by rw [e]; exact h4, h5⟩
theorem dry_mono {c : Cht} {k t : Nat} {h h2 : Int} (hh : h ≤ h2) (hd : dryB c k t h = false) : c.over k t h2 ≥ 1 := by
  unfold dryB at hd
  rw [decide_eq_false_iff_not] at hd
  have e1 : c.over k t h = c.dep k + h - c.swl t := rfl
  have e2 : c.over k t h2 = c.dep k + h2 - c.swl t := rfl
  omega
theorem stpA_wet {d : Drf} {cur wnd : Psh} {t k lw : Nat} {lo hi : Int} {y : Nat} (hok : d.c.ok) (hk : k < d.c.depth.length) (hx : (y : Int) ∈ stpA d cur wnd t k lw lo hi) (hn : y ≠ k) : d.c.over y t hi ≥ 1 := by
  rw [mem_stpA] at hx
  obtain ⟨h, _, hh, hx⟩ := hx
  split at hx
  · omega
  · rcases seed_parts hok hk hx with h1 | ⟨m, hm, h0, h2⟩
    · omega
    · obtain ⟨dir, f, _, _, _, e⟩ := mem_pshL h2
      rcases pshN_wet _ _ _ e.symm (by omega) with h3 | h3
      · obtain ⟨dir, f, _, _, _, e⟩ := mem_pshL h0
        rcases pshN_wet _ _ _ e.symm (by omega) with h4 | h4
        · omega
        · refine dry_mono hh ?_
          rw [Int.toNat_natCast] at h4
          have : y = m := by omega
          rw [this]
          exact h4
      · refine dry_mono hh ?_
        rw [Int.toNat_natCast] at h3
        exact h3
theorem stpA_stays {d : Drf} {cur wnd : Psh} {t k lw : Nat} {lo hi : Int} (hlh : lo ≤ hi) (hd : ¬ d.c.over k t lo ≥ 1) : (k : Int) ∈ stpA d cur wnd t k lw lo hi := by
  rw [mem_stpA]
  refine ⟨lo, Int.le_refl _, hlh, ?_⟩
  rw [if_pos (by unfold dryB; rw [decide_eq_true_eq]; omega)]
theorem stpA_far {d : Drf} {cur wnd : Psh} {t k lw : Nat} {lo hi : Int} {y : Nat} (hok : d.c.ok) (hc : cur.ok) (hw : wnd.ok) (hk : k < d.c.depth.length) (hx : (y : Int) ∈ stpA d cur wnd t k lw lo hi) : (dst d.c.W d.c.H k y : Int) ≤ cur.high + wnd.high * lw / 4 := by
  obtain ⟨_, _, _, _, hlen⟩ := hok.dims
  obtain ⟨_, c1, c2, c3⟩ := hc
  obtain ⟨_, w1, w2, w3⟩ := hw
  have hq : 0 ≤ wnd.high * (lw : Int) / 4 := Int.ediv_nonneg (Int.mul_nonneg (by omega) (by omega)) (by omega)
  rcases stpA_in hok hk hx with h0 | ⟨y', h0, hy⟩
  · omega
  have : y = y' := by omega
  subst this
  rw [mem_stpA] at hx
  obtain ⟨h, _, _, hx⟩ := hx
  split at hx
  · have : y = k := by omega
    subst this
    rw [(dst_zero (by omega) (by omega)).2 rfl]
    omega
  · rcases seed_parts hok hk hx with h1 | ⟨m, hm, h0, h2⟩
    · omega
    · obtain ⟨dir, f, d1, f1, f2, e⟩ := mem_pshL h2
      have g1 := pshN_dst hok d1 _ _ _ hm e.symm
      obtain ⟨dir', f', d2, f3, f4, e'⟩ := mem_pshL h0
      have g2 := pshN_dst hok d2 _ _ _ hk e'.symm
      have g3 := dst_over (W := d.c.W) (H := d.c.H) (a := k) (x := y) (o := m) (by omega) (by omega) (by omega)
      have g4 : ((f * lw / 4 : Nat) : Int) ≤ wnd.high * lw / 4 := by
        rw [show wnd.high * (lw : Int) / 4 = ((wnd.high.toNat * lw / 4 : Nat) : Int) by
          rw [Int.natCast_ediv, Int.natCast_mul, Int.toNat_of_nonneg (by omega)]; rfl]
        have : f * lw / 4 ≤ wnd.high.toNat * lw / 4 := Nat.div_le_div_right (Nat.mul_le_mul_right _ (by omega))
        omega
      simp only [id] at g2
      omega
end Go.Proofs.YtpmodggfogahhaaGreatDoor

namespace Go.Proofs.YtpmodggfogahhaaGreatDoor
open Go.RowKit Go.SX
set_option maxRecDepth 20000
set_option maxHeartbeats 4000000
set_option linter.unusedSimpArgs false
set_option linter.unusedVariables false
theorem some_bit : ∀ s : Fin 64, s ≠ 0 → ∃ d : Fin 6, s.val.testBit d.val = true := by decide +kernel
theorem pshL_ne {c : Cht} {t : Nat} {h : Int} {k : Nat} {p : Psh} (hp : p.ok) (fn : Nat → Nat) : ∃ x, x ∈ pshL c t h k p fn := by
  obtain ⟨⟨h1, h2⟩, h3, h4, h5⟩ := hp
  obtain ⟨d, hd⟩ := some_bit ⟨p.dirs.toNat, by omega⟩ (fun h => by
    have := congrArg Fin.val h
    simp at this
    omega)
  refine ⟨pshN c t h d.val (fn p.low.toNat) k, ?_⟩
  unfold pshL pshR
  refine List.mem_flatMap.2 ⟨d.val, by rw [List.mem_range'_1]; omega, ?_⟩
  unfold pshD
  rw [if_pos hd]
  refine List.mem_map.2 ⟨p.low.toNat, ?_, rfl⟩
  rw [List.mem_range'_1]
  omega
theorem stpA_ne {d : Drf} {cur wnd : Psh} {t k lw : Nat} {lo hi : Int} (hlh : lo ≤ hi) (hc : cur.ok) (hw : wnd.ok) : stpA d cur wnd t k lw lo hi ≠ [] := by
  have : ∃ x, x ∈ stpA d cur wnd t k lw lo hi := by
    by_cases hd : dryB d.c k t lo = true
    · refine ⟨k, ?_⟩
      rw [mem_stpA]
      exact ⟨lo, Int.le_refl _, hlh, by rw [if_pos hd]⟩
    · obtain ⟨y, hy⟩ := pshL_ne (c := d.c) (t := t) (h := lo) (k := k) hc id
      by_cases hy1 : y = -1
      · refine ⟨-1, ?_⟩
        rw [mem_stpA]
        refine ⟨lo, Int.le_refl _, hlh, ?_⟩
        rw [if_neg hd]
        exact List.mem_flatMap.2 ⟨y, hy, by rw [if_pos hy1]; simp⟩
      · obtain ⟨x, hx⟩ := pshL_ne (c := d.c) (t := t) (h := lo) (k := y.toNat) hw (fun f => f * lw / 4)
        refine ⟨x, ?_⟩
        rw [mem_stpA]
        refine ⟨lo, Int.le_refl _, hlh, ?_⟩
        rw [if_neg hd]
        exact List.mem_flatMap.2 ⟨y, hy, by rw [if_neg hy1]; exact hx⟩
  intro h
  rw [h] at this
  obtain ⟨x, hx⟩ := this
  cases hx
theorem floatsV_at {c : Cht} (hok : c.ok) {g : Int} {k t : Nat} (hk : k < c.depth.length) (ht : t < c.tide.length) (hg : notDraught g = false) : floatsV c g k t = .tuple #[.bool (decide (c.over k t (c.tlo t) ≥ g)), .bool (decide (c.over k t (c.thi t) ≥ g)), I 0] := by
  have h1 : notCell c (k : Int) = false := by
    unfold notCell
    rw [Bool.not_eq_false', inB_iff]
    omega
  have h2 : notTick c (t : Int) = false := by
    unfold notTick
    rw [Bool.not_eq_false', inB_iff]
    omega
  unfold floatsV
  rw [if_pos, Int.toNat_natCast, Int.toNat_natCast]
  unfold openE
  rw [(okB_iff c).2 hok, if_pos rfl]
  simp [h1, h2, hg]
end Go.Proofs.YtpmodggfogahhaaGreatDoor

namespace Go.Proofs.YtpmodggfogahhaaGreatDoor
open Go.RowKit Go.SX
set_option maxRecDepth 20000
set_option maxHeartbeats 4000000
set_option linter.unusedSimpArgs false
set_option linter.unusedVariables false
theorem contains_fn (w : World) (v : Value) (l : List Int) (x : Int) (hs : Sl w v 1 (ints l)) (hb : l.length ≤ 1099511627776) : SX.Fn Tryz.prog 17 [v, I x] w (fun _ => False) fun v N => v = .bool (decide (x ∈ l)) := by
  obtain ⟨a, n, c, rfl⟩ := hs.shape
  have hn := hs.le i1_len (by omega)
  have hr := hs.rd0
  refine walk [] [] (det0_ok _ _) Tryz.func17 rfl Tryz.ntmps17 res17 (by kernel_rfl) no_facts ?_
  simp (config := { maxSteps := 4000000 }) only [↓sx0, ↓sx1, ↓sx2, ↓sx3, ↓sx4, ↓sx5, ↓sx6, sx0, sx1, sx2, sx3, sx4, sx5, sx6, tf17, ev3_hold, sxo, sxc, sxp, sxq, sxr, sxs, sxl, sxm, simprocAttr]
  refine loop_const [(4, 17)] (fun k : Nat => [(5, I k)]) (fun k H1 => H1 = [] ∧ k ≤ n ∧ (x ∈ l ↔ x ∈ l.drop k)) (fun k => n - k) 0 ?_ ⟨rfl, Nat.zero_le _, Iff.rfl⟩ ?_
  · simp (config := { maxSteps := 4000000 }) only [↓sx0, ↓sx1, ↓sx2, ↓sx3, ↓sx4, ↓sx5, ↓sx6, sx0, sx1, sx2, sx3, sx4, sx5, sx6, tf17, ev3_hold, sxo, sxc, sxp, sxq, sxr, sxs, sxl, sxm, simprocAttr]
    try rfl
  · rintro k H1 g ⟨rfl, hk, ht⟩
    have e2 : wr (k + 1) = k + 1 := wrap_id (by omega)
    simp (config := { maxSteps := 4000000 }) only [↓sx0, ↓sx1, ↓sx2, ↓sx3, ↓sx4, ↓sx5, ↓sx6, sx0, sx1, sx2, sx3, sx4, sx5, sx6, tf17, ev3_hold, sxo, sxc, sxp, sxq, sxr, sxs, sxl, sxm, simprocAttr, e2]
    refine ⟨fun h1 => ?_, fun h1 => ?_⟩
    · have hkl : k < l.length := by omega
      refine at_1 (hr _) i1_len (List.getElem?_eq_getElem hkl) rfl fun ad => ?_
      rw [List.drop_eq_getElem_cons hkl, List.mem_cons] at ht
      simp (config := { maxSteps := 4000000 }) only [↓sx0, ↓sx1, ↓sx2, ↓sx3, ↓sx4, ↓sx5, ↓sx6, sx0, sx1, sx2, sx3, sx4, sx5, sx6, tf17, ev3_hold, sxo, sxc, sxp, sxq, sxr, sxs, sxl, sxm, simprocAttr, e2]
      refine ⟨fun h2 => ?_, fun h2 => ⟨k + 1, _, rfl, HImp.refl _ _, ⟨rfl, by omega, ?_⟩, by omega⟩⟩
      · simp [ht, h2]
      · rw [ht]
        exact ⟨fun h => h.resolve_left fun e => h2 e.symm, .inr⟩
    · have : x ∉ l := by rw [ht, List.drop_of_length_le (by omega)]; simp
      simp [this]
end Go.Proofs.YtpmodggfogahhaaGreatDoor

namespace Go.Proofs.YtpmodggfogahhaaGreatDoor
open Go.RowKit Go.SX
set_option maxRecDepth 20000
set_option maxHeartbeats 0
set_option linter.unusedSimpArgs false
set_option linter.unusedVariables false
theorem rwithin2_fn (w : World) (n lo hi : Int) : SX.Fn Tryz.prog 41 [I n, I lo, I hi] w (fun _ => False) fun q N => q = .bool (decide (lo ≤ n ∧ n ≤ hi)) := by
  by_cases h1 : lo ≤ n
  · have e1 : (n ≥ lo) = True := eq_true h1
    refine walk [] [] (det0_ok _ _) Tryz.func41 rfl Tryz.ntmps41 res41 (by kernel_rfl) no_facts ?_
    simp (config := { maxSteps := 4000000 }) only [↓sx0, ↓sx1, ↓sx2, ↓sx3, ↓sx4, ↓sx5, ↓sx6, sx0, sx1, sx2, sx3, sx4, sx5, sx6, tf41, ev3_hold, sxo, sxc, sxp, sxq, sxr, sxs, sxl, sxm, simprocAttr, e1]
    try simp [h1]
  · have e1 : (n ≥ lo) = False := eq_false h1
    refine walk [] [] (det0_ok _ _) Tryz.func41 rfl Tryz.ntmps41 res41 (by kernel_rfl) no_facts ?_
    simp (config := { maxSteps := 4000000 }) only [↓sx0, ↓sx1, ↓sx2, ↓sx3, ↓sx4, ↓sx5, ↓sx6, sx0, sx1, sx2, sx3, sx4, sx5, sx6, tf41, ev3_hold, sxo, sxc, sxp, sxq, sxr, sxs, sxl, sxm, simprocAttr, e1]
    try simp [h1]
def detX2 : Nat → List Value → Option Value
  | 41, [.int .i64 n, .int .i64 lo, .int .i64 hi] => some (.bool (decide (lo ≤ n ∧ n ≤ hi)))
  | _, _ => none
theorem detX2_ok (w0 : World) (X : Nat → Prop) : DetFn Tryz.prog ⟨w0, X⟩ detX2 := by
  intro g args v h w hk
  unfold detX2 at h
  split at h
  · cases h
    exact Tw.det_of_fn' (rwithin2_fn w _ _ _)
  · cases h
theorem detX2_eq : ∀ n lo hi : Int, detX2 41 [I n, I lo, I hi] = some (.bool (decide (lo ≤ n ∧ n ≤ hi))) := fun _ _ _ => rfl
def pshB (p : Psh) : Bool := decide (1 ≤ p.dirs ∧ p.dirs ≤ 63) && decide (0 ≤ p.low ∧ p.low ≤ p.high) && decide (p.high ≤ 3)
theorem pshB_iff (p : Psh) : pshB p = true ↔ p.ok := by
  unfold pshB
  simp only [Bool.and_eq_true, decide_eq_true_eq]
  constructor
  · rintro ⟨⟨h1, h2⟩, h3⟩
    exact ⟨h1, h2.1, h2.2, h3⟩
  · rintro ⟨h1, h2, h3, h4⟩
    exact ⟨⟨h1, h2, h3⟩, h4⟩
theorem isPush_fn (w : World) (x y z : Int) : SX.Fn Tryz.prog 87 [.agg #[I x, I y, I z]] w (fun _ => False) fun q N => q = .bool (pshB ⟨x, y, z⟩) := by
  unfold pshB
  simp only []
  cases h1 : decide (1 ≤ x ∧ x ≤ 63) with
  | false =>
    refine walk [] [] (detX2_ok _ _) Tryz.func87 rfl Tryz.ntmps87 res87 (by kernel_rfl) no_facts ?_
    simp (config := { maxSteps := 4000000 }) only [↓sx0, ↓sx1, ↓sx2, ↓sx3, ↓sx4, ↓sx5, ↓sx6, sx0, sx1, sx2, sx3, sx4, sx5, sx6, tf87, ev3_hold, sxo, sxc, sxp, sxq, sxr, sxs, sxl, sxm, simprocAttr, detX2_eq, h1]
    all_goals rfl
  | true =>
  cases h2 : decide (0 ≤ y ∧ y ≤ z) with
  | false =>
    refine walk [] [] (detX2_ok _ _) Tryz.func87 rfl Tryz.ntmps87 res87 (by kernel_rfl) no_facts ?_
    simp (config := { maxSteps := 4000000 }) only [↓sx0, ↓sx1, ↓sx2, ↓sx3, ↓sx4, ↓sx5, ↓sx6, sx0, sx1, sx2, sx3, sx4, sx5, sx6, tf87, ev3_hold, sxo, sxc, sxp, sxq, sxr, sxs, sxl, sxm, simprocAttr, detX2_eq, h1, h2]
    all_goals rfl
  | true =>
    refine walk [] [] (detX2_ok _ _) Tryz.func87 rfl Tryz.ntmps87 res87 (by kernel_rfl) no_facts ?_
    simp (config := { maxSteps := 4000000 }) only [↓sx0, ↓sx1, ↓sx2, ↓sx3, ↓sx4, ↓sx5, ↓sx6, sx0, sx1, sx2, sx3, sx4, sx5, sx6, tf87, ev3_hold, sxo, sxc, sxp, sxq, sxr, sxs, sxl, sxm, simprocAttr, detX2_eq, h1, h2]
    all_goals rfl
def detX3 : Nat → List Value → Option Value
  | 87, [.agg ⟨[.int .i64 x, .int .i64 y, .int .i64 z]⟩] => some (.bool (pshB ⟨x, y, z⟩))
  | g, xs => detX2 g xs
theorem detX3_ok (w0 : World) (X : Nat → Prop) : DetFn Tryz.prog ⟨w0, X⟩ detX3 := by
  intro g args v h w hk
  unfold detX3 at h
  split at h
  · cases h
    exact Tw.det_of_fn' (isPush_fn w _ _ _)
  · exact detX2_ok w0 X _ _ _ h w hk
theorem detX3_eq : (∀ x y z : Int, detX3 87 [.agg #[I x, I y, I z]] = some (.bool (pshB ⟨x, y, z⟩))) ∧ (∀ n lo hi : Int, detX3 41 [I n, I lo, I hi] = some (.bool (decide (lo ≤ n ∧ n ≤ hi)))) := ⟨fun _ _ _ => rfl, fun _ _ _ => rfl⟩
def psB (l : List Psh) (n : Int) : Bool := l.all pshB && decide ((l.length : Int) = n)
theorem arePushes_fn (w : World) (v : Value) (l : List Psh) (n : Int) (hs : Sl w v 3 (cat psc l)) (hl : l.length ≤ 1000000) : SX.Fn Tryz.prog 42 [v, I n] w (fun _ => False) fun q N => q = .bool (psB l n) := by
  obtain ⟨a, m, cp, rfl⟩ := hs.shape
  have hn := hs.le psc_len (by omega)
  subst hn
  have hr := fun H => hs.rd0 H
  unfold psB
  refine walk [] [] (detX3_ok _ _) Tryz.func42 rfl Tryz.ntmps42 res42 (by kernel_rfl) no_facts ?_
  simp (config := { maxSteps := 4000000 }) only [↓sx0, ↓sx1, ↓sx2, ↓sx3, ↓sx4, ↓sx5, ↓sx6, sx0, sx1, sx2, sx3, sx4, sx5, sx6, tf42, ev3_hold, sxo, sxc, sxp, sxq, sxr, sxs, sxl, sxm, simprocAttr]
  refine loop_constH [] (HImp.refl _ _) [(4, 17)] (fun i : Nat => [(5, I i)]) (fun i H1 => i ≤ l.length ∧ (l.take i).all pshB = true) (fun i => l.length - i) 0 ?_ ⟨Nat.zero_le _, rfl⟩ ?_
  · simp (config := { maxSteps := 4000000 }) only [↓sx0, ↓sx1, ↓sx2, ↓sx3, ↓sx4, ↓sx5, ↓sx6, sx0, sx1, sx2, sx3, sx4, sx5, sx6, tf42, ev3_hold, sxo, sxc, sxp, sxq, sxr, sxs, sxl, sxm, simprocAttr]
    try simp
  rintro i H1 g1 ⟨hi, hall⟩
  by_cases hin : i = l.length
  · have e7 : ((i : Int) < (l.length : Int)) = False := eq_false (by omega)
    rw [List.take_of_length_le (by omega)] at hall
    rw [hall]
    refine ⟨?_⟩
    simp (config := { maxSteps := 4000000 }) only [↓sx0, ↓sx1, ↓sx2, ↓sx3, ↓sx4, ↓sx5, ↓sx6, sx0, sx1, sx2, sx3, sx4, sx5, sx6, tf42, ev3_hold, sxo, sxc, sxp, sxq, sxr, sxs, sxl, sxm, simprocAttr, e7]
    all_goals rfl
  have e7 : ((i : Int) < (l.length : Int)) = True := eq_true (by omega)
  have e8 : wr (i + 1) = ((i + 1 : Nat) : Int) := (wrap_id (by omega)).trans (by omega)
  obtain ⟨x, hx⟩ : ∃ x, l[i]? = some x := ⟨_, List.getElem?_eq_getElem (by omega)⟩
  have hyes := fun hp : pshB x = true => all_take hall hx hp
  have hno := fun hp : pshB x = false => all_not (p := pshB) hx hp
  obtain ⟨x1, x2, x3⟩ := x
  have hpx : psc ⟨x1, x2, x3⟩ = [I x1, I x2, I x3] := rfl
  cases hB : pshB ⟨x1, x2, x3⟩ with
  | false =>
    rw [hno hB]
    refine ⟨?_⟩
    simp (config := { maxSteps := 4000000 }) only [↓sx0, ↓sx1, ↓sx2, ↓sx3, ↓sx4, ↓sx5, ↓sx6, sx0, sx1, sx2, sx3, sx4, sx5, sx6, tf42, ev3_hold, sxo, sxc, sxp, sxq, sxr, sxs, sxl, sxm, simprocAttr, e7]
    refine amid (at_n (hr _) psc_len (by omega) hx fun ad => ?_)
    simp (config := { maxSteps := 4000000 }) only [↓sx0, ↓sx1, ↓sx2, ↓sx3, ↓sx4, ↓sx5, ↓sx6, sx0, sx1, sx2, sx3, sx4, sx5, sx6, tf42, ev3_hold, sxo, sxc, sxp, sxq, sxr, sxs, sxl, sxm, simprocAttr, hpx, detX3_eq, hB]
    all_goals rfl
  | true =>
    refine ⟨?_⟩
    simp (config := { maxSteps := 4000000 }) only [↓sx0, ↓sx1, ↓sx2, ↓sx3, ↓sx4, ↓sx5, ↓sx6, sx0, sx1, sx2, sx3, sx4, sx5, sx6, tf42, ev3_hold, sxo, sxc, sxp, sxq, sxr, sxs, sxl, sxm, simprocAttr, e7]
    refine amid (at_n (hr _) psc_len (by omega) hx fun ad => ?_)
    simp (config := { maxSteps := 4000000 }) only [↓sx0, ↓sx1, ↓sx2, ↓sx3, ↓sx4, ↓sx5, ↓sx6, sx0, sx1, sx2, sx3, sx4, sx5, sx6, tf42, ev3_hold, sxo, sxc, sxp, sxq, sxr, sxs, sxl, sxm, simprocAttr, hpx, detX3_eq, hB, e8]
    exact ⟨i + 1, _, rfl, HImp.nil _ _, ⟨by omega, hyes hB⟩, by omega⟩
theorem psB_iff (d : Drf) (l : List Psh) (h : 1 ≤ d.c.tide.length) : psB l ((d.c.tide.length : Int) - 1) = true ↔ PsOk d l := by
  unfold psB PsOk
  simp only [Bool.and_eq_true, List.all_eq_true, pshB_iff, decide_eq_true_eq]
  constructor
  · rintro ⟨h1, h2⟩
    exact ⟨by omega, h1⟩
  · rintro ⟨h1, h2⟩
    exact ⟨h2, by omega⟩
def Drf.small (d : Drf) : Prop := d.c.small ∧ d.zones.length ≤ 1000 ∧ d.cur.length ≤ 100 ∧ d.wind.length ≤ 1000 ∧ ∀ l ∈ d.cur, l.length ≤ 1000
theorem rcheck2_fn (w : World) (d : Drf) (sD sT sS vZ vC vW : Value) (hd : DfOk w d sD sT sS vZ vC vW) (hsm : d.small) :
    SX.Fn Tryz.prog 11 [dfv d sD sT sS vZ vC vW] w (fun _ => False) fun q N => ∃ e, q = I e ∧ (e = 0 ↔ d.ok) := by
  obtain ⟨hc, hzo, hcu, hwi⟩ := hd
  have hck := fun (H : List HO) w' (hp : Hp ⟨w, fun _ => False⟩ H w') => rcheck_fn w' _ d.c (hc.hp hp) hsm.1
  obtain ⟨sD', sT', sS', he, hsD, hsT, hsS⟩ := hc
  injection he with he
  injection he with he
  simp only [List.cons.injEq, true_and, and_true] at he
  obtain ⟨rfl, rfl, rfl⟩ := he
  obtain ⟨aD, nD, cD, rfl⟩ := hsD.shape
  obtain ⟨aT, nT, cT, rfl⟩ := hsT.shape
  obtain ⟨aZ, nZ, cZ, rfl⟩ := hzo.shape
  obtain ⟨aW, nW, cW, rfl⟩ := hwi.shape
  obtain ⟨ps, hps, hsC, hsP⟩ := hcu
  obtain ⟨aC, nC, cC, rfl⟩ := hsC.shape
  have hnD := hsD.le i1_len (by omega)
  have hnT := hsT.le spc_len (by omega)
  have hnZ := hzo.le i1_len (by omega)
  have hnW := hwi.le psc_len (by omega)
  have hnC := hsC.le csc_len (by omega)
  subst hnD hnT hnZ hnW hnC
  have hpl : ps.length = d.cur.length := by rw [← hps, List.length_map]
  obtain ⟨⟨q1, q2, q3⟩, q4, q5, q6, q7⟩ := hsm
  have harW := fun (n : Int) (H : List HO) w' (hp : Hp ⟨w, fun _ => False⟩ H w') => arePushes_fn w' _ d.wind n (Sl.hp (w0 := ⟨w, fun _ => False⟩) hwi (fun _ _ => id) hp) (by omega)
  have harC := fun (p : Cs) (hp0 : p ∈ ps) (n : Int) (H : List HO) w' (hp : Hp ⟨w, fun _ => False⟩ H w') => arePushes_fn w' _ p.1 n (Sl.hp (w0 := ⟨w, fun _ => False⟩) (hsP p hp0) (fun _ _ => id) hp) (by
    have := q7 p.1 (by rw [← hps]; exact List.mem_map_of_mem hp0)
    omega)
  have hrZ := fun H => hzo.rd0 H
  have hrC := fun H => hsC.rd0 H
  unfold dfv
  refine walkC [3] [] [] (detX3_ok _ _) Tryz.func11 rfl Tryz.ntmps11 res11 (by kernel_rfl) no_facts ?_
  have dn : (∀ xs, detX3 28 xs = none) ∧ (∀ xs, detX3 42 xs = none) := ⟨fun _ => rfl, fun _ => rfl⟩
  simp (config := { maxSteps := 4000000 }) only [↓sx0, ↓sx1, ↓sx2, ↓sx3, ↓sx4, ↓sx5, ↓sx6, sx0, sx1, sx2, sx3, sx4, sx5, sx6, tf11, ev3_hold, sxo, sxc, sxp, sxq, sxr, sxs, sxl, sxm, simprocAttr, dn]
  refine cut_constH [(4, 36)] (fun b : Bool => [(36, .bool b)]) (fun b H2 => (b = true → ¬ d.ok) ∧ (b = false → d.c.ok ∧ (1 ≤ d.cur.length ∧ d.cur.length ≤ 4) ∧ d.zones.length = d.c.depth.length ∧ PsOk d d.wind)) ?_ ?_
  · refine ⟨?_⟩
    simp (config := { maxSteps := 4000000 }) only [↓sx0, ↓sx1, ↓sx2, ↓sx3, ↓sx4, ↓sx5, ↓sx6, sx0, sx1, sx2, sx3, sx4, sx5, sx6, tf11, ev3_hold, sxo, sxc, sxp, sxq, sxr, sxs, sxl, sxm, simprocAttr, dn]
    refine CallOb.pureH (fun w' hp => hck _ w' hp) ?_
    rintro q N rfl
    by_cases hok : d.c.ok
    case neg =>
      have hkb : d.c.okB = false := by
        cases hk : d.c.okB with
        | false => rfl
        | true => exact absurd ((okB_iff d.c).1 hk) hok
      have z1 : ((if d.c.okB = true then (0 : Int) else 10) = 0) = False := eq_false (by rw [hkb]; simp)
      refine ⟨?_⟩
      simp (config := { maxSteps := 4000000 }) only [↓sx0, ↓sx1, ↓sx2, ↓sx3, ↓sx4, ↓sx5, ↓sx6, sx0, sx1, sx2, sx3, sx4, sx5, sx6, tf11, ev3_hold, sxo, sxc, sxp, sxq, sxr, sxs, sxl, sxm, simprocAttr, z1, dn]
      exact ⟨true, _, rfl, HImp.refl _ _, (fun _ h => hok h.c), fun h => by cases h⟩
    have hkb : d.c.okB = true := (okB_iff d.c).2 hok
    have z1 : ((if d.c.okB = true then (0 : Int) else 10) = 0) = True := eq_true (by rw [hkb]; simp)
    have hT1 := hok.2.2.2.1
    have e1 : wr ((d.c.tide.length : Int) - 1) = (d.c.tide.length : Int) - 1 := wrap_id (by omega)
    cases h2 : decide (1 ≤ (ps.length : Int) ∧ (ps.length : Int) ≤ 4) with
    | false =>
      refine ⟨?_⟩
      simp (config := { maxSteps := 4000000 }) only [↓sx0, ↓sx1, ↓sx2, ↓sx3, ↓sx4, ↓sx5, ↓sx6, sx0, sx1, sx2, sx3, sx4, sx5, sx6, tf11, ev3_hold, sxo, sxc, sxp, sxq, sxr, sxs, sxl, sxm, simprocAttr, z1, detX3_eq, h2, dn]
      refine ⟨true, _, rfl, HImp.refl _ _, (fun _ h => ?_), fun h => by cases h⟩
      have := h.cn
      have := of_decide_eq_false h2
      omega
    | true =>
    have h2' := of_decide_eq_true h2
    by_cases h3 : (d.zones.length : Int) = d.c.depth.length
    case neg =>
      have z3 : ((d.zones.length : Int) = (d.c.depth.length : Int)) = False := eq_false h3
      refine ⟨?_⟩
      simp (config := { maxSteps := 4000000 }) only [↓sx0, ↓sx1, ↓sx2, ↓sx3, ↓sx4, ↓sx5, ↓sx6, sx0, sx1, sx2, sx3, sx4, sx5, sx6, tf11, ev3_hold, sxo, sxc, sxp, sxq, sxr, sxs, sxl, sxm, simprocAttr, z1, detX3_eq, h2, z3, dn]
      refine ⟨true, _, rfl, HImp.refl _ _, (fun _ h => ?_), fun h => by cases h⟩
      have := h.zl
      omega
    have z3 : ((d.zones.length : Int) = (d.c.depth.length : Int)) = True := eq_true h3
    refine ⟨?_⟩
    simp (config := { maxSteps := 4000000 }) only [↓sx0, ↓sx1, ↓sx2, ↓sx3, ↓sx4, ↓sx5, ↓sx6, sx0, sx1, sx2, sx3, sx4, sx5, sx6, tf11, ev3_hold, sxo, sxc, sxp, sxq, sxr, sxs, sxl, sxm, simprocAttr, z1, detX3_eq, h2, z3, e1, dn]
    refine CallOb.pureH (fun w' hp => harW _ _ w' hp) ?_
    rintro q N2 rfl
    have hiff := psB_iff d d.wind (by omega)
    cases hB : psB d.wind ((d.c.tide.length : Int) - 1) with
    | false =>
      refine ⟨?_⟩
      simp (config := { maxSteps := 4000000 }) only [↓sx0, ↓sx1, ↓sx2, ↓sx3, ↓sx4, ↓sx5, ↓sx6, sx0, sx1, sx2, sx3, sx4, sx5, sx6, tf11, ev3_hold, sxo, sxc, sxp, sxq, sxr, sxs, sxl, sxm, simprocAttr]
      refine ⟨true, _, rfl, HImp.refl _ _, (fun _ h => ?_), fun h => by cases h⟩
      have := hiff.2 h.wi
      rw [hB] at this
      cases this
    | true =>
      refine ⟨?_⟩
      simp (config := { maxSteps := 4000000 }) only [↓sx0, ↓sx1, ↓sx2, ↓sx3, ↓sx4, ↓sx5, ↓sx6, sx0, sx1, sx2, sx3, sx4, sx5, sx6, tf11, ev3_hold, sxo, sxc, sxp, sxq, sxr, sxs, sxl, sxm, simprocAttr]
      exact ⟨false, _, rfl, HImp.refl _ _, (fun h => by cases h), fun _ => ⟨hok, by omega, by omega, hiff.1 hB⟩⟩
  rintro b H2 g2 ⟨hb1, hb2⟩
  cases b with
  | true =>
    have hno := hb1 rfl
    refine ⟨?_⟩
    simp (config := { maxSteps := 4000000 }) only [↓sx0, ↓sx1, ↓sx2, ↓sx3, ↓sx4, ↓sx5, ↓sx6, sx0, sx1, sx2, sx3, sx4, sx5, sx6, tf11, ev3_hold, sxo, sxc, sxp, sxq, sxr, sxs, sxl, sxm, simprocAttr]
    exact ⟨20, rfl, (fun h => by cases h), fun h => absurd h hno⟩
  | false =>
  obtain ⟨hok, hcn, hzl, hwd⟩ := hb2 rfl
  have hT1 := hok.2.2.2.1
  have e1 : wr ((d.c.tide.length : Int) - 1) = (d.c.tide.length : Int) - 1 := wrap_id (by omega)
  have e2 : wr ((ps.length : Int) - 1) = (ps.length : Int) - 1 := wrap_id (by omega)
  refine ⟨?_⟩
  simp (config := { maxSteps := 4000000 }) only [↓sx0, ↓sx1, ↓sx2, ↓sx3, ↓sx4, ↓sx5, ↓sx6, sx0, sx1, sx2, sx3, sx4, sx5, sx6, tf11, ev3_hold, sxo, sxc, sxp, sxq, sxr, sxs, sxl, sxm, simprocAttr]
  refine loop_constH [] (HImp.nil _ _) [(2, 3), (37, 54)] (fun i : Nat => [(3, I i)]) (fun i H1 => i ≤ d.zones.length ∧ ∀ z ∈ d.zones.take i, 0 ≤ z ∧ z < d.cur.length) (fun i => d.zones.length - i) 0 ?_ ⟨Nat.zero_le _, by simp⟩ ?_
  · simp (config := { maxSteps := 4000000 }) only [↓sx0, ↓sx1, ↓sx2, ↓sx3, ↓sx4, ↓sx5, ↓sx6, sx0, sx1, sx2, sx3, sx4, sx5, sx6, tf11, ev3_hold, sxo, sxc, sxp, sxq, sxr, sxs, sxl, sxm, simprocAttr]
    try simp
  rintro i H1 g1 ⟨hi, hall⟩
  by_cases hin : i = d.zones.length
  · have e7 : ((i : Int) < (d.zones.length : Int)) = False := eq_false (by omega)
    rw [List.take_of_length_le (by omega)] at hall
    refine ⟨?_⟩
    simp (config := { maxSteps := 4000000 }) only [↓sx0, ↓sx1, ↓sx2, ↓sx3, ↓sx4, ↓sx5, ↓sx6, sx0, sx1, sx2, sx3, sx4, sx5, sx6, tf11, ev3_hold, sxo, sxc, sxp, sxq, sxr, sxs, sxl, sxm, simprocAttr, e7]
    refine loop_constH [] (HImp.nil _ _) [(2, 2), (4, 4), (55, 73)] (fun j : Nat => [(4, I j)]) (fun j H1 => j ≤ ps.length ∧ ∀ p ∈ ps.take j, PsOk d p.1) (fun j => ps.length - j) 0 ?_ ⟨Nat.zero_le _, by simp⟩ ?_
    · simp (config := { maxSteps := 4000000 }) only [↓sx0, ↓sx1, ↓sx2, ↓sx3, ↓sx4, ↓sx5, ↓sx6, sx0, sx1, sx2, sx3, sx4, sx5, sx6, tf11, ev3_hold, sxo, sxc, sxp, sxq, sxr, sxs, sxl, sxm, simprocAttr]
      try simp
    rintro j H1 g1 ⟨hj, hallC⟩
    by_cases hjn : j = ps.length
    · have f7 : ((j : Int) < (ps.length : Int)) = False := eq_false (by omega)
      rw [List.take_of_length_le (by omega)] at hallC
      have hdok : d.ok := ⟨hok, hzl, hcn, hall, fun l hl => by
        rw [← hps] at hl
        obtain ⟨p, hp, rfl⟩ := List.mem_map.1 hl
        exact hallC p hp, hwd⟩
      refine ⟨?_⟩
      simp (config := { maxSteps := 4000000 }) only [↓sx0, ↓sx1, ↓sx2, ↓sx3, ↓sx4, ↓sx5, ↓sx6, sx0, sx1, sx2, sx3, sx4, sx5, sx6, tf11, ev3_hold, sxo, sxc, sxp, sxq, sxr, sxs, sxl, sxm, simprocAttr, f7]
      exact ⟨0, rfl, fun _ => hdok, fun _ => rfl⟩
    have f7 : ((j : Int) < (ps.length : Int)) = True := eq_true (by omega)
    have f8 : wr (j + 1) = ((j + 1 : Nat) : Int) := (wrap_id (by omega)).trans (by omega)
    obtain ⟨p, hp⟩ : ∃ p, ps[j]? = some p := ⟨_, List.getElem?_eq_getElem (by omega)⟩
    have hpm := List.mem_of_getElem? hp
    have harC := harC p hpm
    have hiff := psB_iff d p.1 (by omega)
    refine ⟨?_⟩
    simp (config := { maxSteps := 4000000 }) only [↓sx0, ↓sx1, ↓sx2, ↓sx3, ↓sx4, ↓sx5, ↓sx6, sx0, sx1, sx2, sx3, sx4, sx5, sx6, tf11, ev3_hold, sxo, sxc, sxp, sxq, sxr, sxs, sxl, sxm, simprocAttr, f7]
    refine amid (at_1 (hrC _) csc_len hp rfl fun ad => ?_)
    simp (config := { maxSteps := 4000000 }) only [↓sx0, ↓sx1, ↓sx2, ↓sx3, ↓sx4, ↓sx5, ↓sx6, sx0, sx1, sx2, sx3, sx4, sx5, sx6, tf11, ev3_hold, sxo, sxc, sxp, sxq, sxr, sxs, sxl, sxm, simprocAttr, e1, dn]
    refine CallOb.pureH (fun w' hp => harC _ _ w' hp) ?_
    rintro q N2 rfl
    cases hB : psB p.1 ((d.c.tide.length : Int) - 1) with
    | false =>
      refine ⟨?_⟩
      simp (config := { maxSteps := 4000000 }) only [↓sx0, ↓sx1, ↓sx2, ↓sx3, ↓sx4, ↓sx5, ↓sx6, sx0, sx1, sx2, sx3, sx4, sx5, sx6, tf11, ev3_hold, sxo, sxc, sxp, sxq, sxr, sxs, sxl, sxm, simprocAttr]
      refine ⟨20, rfl, (fun h => by cases h), fun h => ?_⟩
      have h2 := h.cu p.1 (by rw [← hps]; exact List.mem_map_of_mem hpm)
      have := hiff.2 h2
      rw [hB] at this
      cases this
    | true =>
      refine ⟨?_⟩
      simp (config := { maxSteps := 4000000 }) only [↓sx0, ↓sx1, ↓sx2, ↓sx3, ↓sx4, ↓sx5, ↓sx6, sx0, sx1, sx2, sx3, sx4, sx5, sx6, tf11, ev3_hold, sxo, sxc, sxp, sxq, sxr, sxs, sxl, sxm, simprocAttr, f8]
      refine ⟨j + 1, _, rfl, HImp.nil _ _, ⟨by omega, fun p' hp' => ?_⟩, by omega⟩
      rw [List.take_succ, hp] at hp'
      rcases List.mem_append.1 hp' with h | h
      · exact hallC _ h
      · simp at h
        subst h
        exact hiff.1 hB
  have e7 : ((i : Int) < (d.zones.length : Int)) = True := eq_true (by omega)
  have e8 : wr (i + 1) = ((i + 1 : Nat) : Int) := (wrap_id (by omega)).trans (by omega)
  obtain ⟨z, hz⟩ : ∃ z, d.zones[i]? = some z := ⟨_, List.getElem?_eq_getElem (by omega)⟩
  have hzm := List.mem_of_getElem? hz
  cases hB : decide (0 ≤ z ∧ z ≤ (ps.length : Int) - 1) with
  | false =>
    have hB' := of_decide_eq_false hB
    refine ⟨?_⟩
    simp (config := { maxSteps := 4000000 }) only [↓sx0, ↓sx1, ↓sx2, ↓sx3, ↓sx4, ↓sx5, ↓sx6, sx0, sx1, sx2, sx3, sx4, sx5, sx6, tf11, ev3_hold, sxo, sxc, sxp, sxq, sxr, sxs, sxl, sxm, simprocAttr, e7]
    refine amid (at_1 (hrZ _) i1_len hz rfl fun ad => ?_)
    simp (config := { maxSteps := 4000000 }) only [↓sx0, ↓sx1, ↓sx2, ↓sx3, ↓sx4, ↓sx5, ↓sx6, sx0, sx1, sx2, sx3, sx4, sx5, sx6, tf11, ev3_hold, sxo, sxc, sxp, sxq, sxr, sxs, sxl, sxm, simprocAttr, e2, detX3_eq, hB]
    refine ⟨20, rfl, (fun h => by cases h), fun h => ?_⟩
    have := h.zo z hzm
    omega
  | true =>
    have hB' := of_decide_eq_true hB
    refine ⟨?_⟩
    simp (config := { maxSteps := 4000000 }) only [↓sx0, ↓sx1, ↓sx2, ↓sx3, ↓sx4, ↓sx5, ↓sx6, sx0, sx1, sx2, sx3, sx4, sx5, sx6, tf11, ev3_hold, sxo, sxc, sxp, sxq, sxr, sxs, sxl, sxm, simprocAttr, e7]
    refine amid (at_1 (hrZ _) i1_len hz rfl fun ad => ?_)
    simp (config := { maxSteps := 4000000 }) only [↓sx0, ↓sx1, ↓sx2, ↓sx3, ↓sx4, ↓sx5, ↓sx6, sx0, sx1, sx2, sx3, sx4, sx5, sx6, tf11, ev3_hold, sxo, sxc, sxp, sxq, sxr, sxs, sxl, sxm, simprocAttr, e2, e8, detX3_eq, hB]
    refine ⟨i + 1, _, rfl, HImp.nil _ _, ⟨by omega, fun z' hz' => ?_⟩, by omega⟩
    rw [List.take_succ, hz] at hz'
    rcases List.mem_append.1 hz' with h | h
    · exact hall _ h
    · simp at h
      subst h
      omega
end Go.Proofs.YtpmodggfogahhaaGreatDoor

namespace Go.Proofs.YtpmodggfogahhaaGreatDoor
open Go.RowKit Go.SX
set_option maxRecDepth 20000
set_option maxHeartbeats 0
set_option linter.unusedSimpArgs false
set_option linter.unusedVariables false
theorem far2_fn (w : World) (d : Drf) (sD sT sS vZ vC vW : Value) (hd : DfOk w d sD sT sS vZ vC vW) :
    SX.Fn Tryz.prog 10 [dfv d sD sT sS vZ vC vW] w (fun _ => False) fun q N => ∃ b, q = .bool b ∧ (b = false → d.small) := by
  have hck := fun (hs : d.small) (H : List HO) w' (hp : Hp ⟨w, fun _ => False⟩ H w') => rcheck2_fn w' d sD sT sS vZ vC vW (hd.keep (maps_none w) hp.ext) hs
  obtain ⟨hc, hzo, hcu, hwi⟩ := hd
  obtain ⟨sD', sT', sS', he, hsD, hsT, hsS⟩ := hc
  injection he with he
  injection he with he
  simp only [List.cons.injEq, true_and, and_true] at he
  obtain ⟨rfl, rfl, rfl⟩ := he
  have hce := fun w' => cells_fn w' d.c.wide d.c.high sD sT sS
  obtain ⟨aD, nD, cD, rfl⟩ := hsD.shape
  obtain ⟨aT, nT, cT, rfl⟩ := hsT.shape
  obtain ⟨aS, nS, cS, rfl⟩ := hsS.shape
  obtain ⟨aZ, nZ, cZ, rfl⟩ := hzo.shape
  obtain ⟨aW, nW, cW, rfl⟩ := hwi.shape
  obtain ⟨ps, hps, hsC, hsP⟩ := hcu
  obtain ⟨aC, nC, cC, rfl⟩ := hsC.shape
  have hnD := hsD.le i1_len (by omega)
  have hnT := hsT.le spc_len (by omega)
  have hnS := hsS.le i1_len (by omega)
  have hnZ := hzo.le i1_len (by omega)
  have hnW := hwi.le psc_len (by omega)
  have hnC := hsC.le csc_len (by omega)
  subst hnD hnT hnS hnZ hnW hnC
  have hpl : ps.length = d.cur.length := by rw [← hps, List.length_map]
  have hrC := fun H => hsC.rd0 H
  have hrT := fun H => hsT.rd0 H
  have dn : ∀ (g : Nat) (xs : List Value), det0 g xs = none := fun _ _ => rfl
  unfold dfv
  unfold dfv at hck
  refine walk [] [] (det0_ok _ _) Tryz.func10 rfl Tryz.ntmps10 res10 (by kernel_rfl) no_facts ?_
  by_cases h1 : (d.c.depth.length : Int) > 200
  · have e1 : ((d.c.depth.length : Int) > 200) = True := eq_true h1
    simp (config := { maxSteps := 4000000 }) only [↓sx0, ↓sx1, ↓sx2, ↓sx3, ↓sx4, ↓sx5, ↓sx6, sx0, sx1, sx2, sx3, sx4, sx5, sx6, tf10, ev3_hold, sxo, sxc, sxp, sxq, sxr, sxs, sxl, sxm, simprocAttr, e1]
    exact ⟨true, rfl, fun h => by cases h⟩
  have e1 : ((d.c.depth.length : Int) > 200) = False := eq_false h1
  by_cases h2 : (d.c.tide.length : Int) > 80
  · have e2 : ((d.c.tide.length : Int) > 80) = True := eq_true h2
    simp (config := { maxSteps := 4000000 }) only [↓sx0, ↓sx1, ↓sx2, ↓sx3, ↓sx4, ↓sx5, ↓sx6, sx0, sx1, sx2, sx3, sx4, sx5, sx6, tf10, ev3_hold, sxo, sxc, sxp, sxq, sxr, sxs, sxl, sxm, simprocAttr, e1, e2]
    exact ⟨true, rfl, fun h => by cases h⟩
  have e2 : ((d.c.tide.length : Int) > 80) = False := eq_false h2
  by_cases h3 : (d.c.swell.length : Int) > 80
  · have e3 : ((d.c.swell.length : Int) > 80) = True := eq_true h3
    simp (config := { maxSteps := 4000000 }) only [↓sx0, ↓sx1, ↓sx2, ↓sx3, ↓sx4, ↓sx5, ↓sx6, sx0, sx1, sx2, sx3, sx4, sx5, sx6, tf10, ev3_hold, sxo, sxc, sxp, sxq, sxr, sxs, sxl, sxm, simprocAttr, e1, e2, e3]
    exact ⟨true, rfl, fun h => by cases h⟩
  have e3 : ((d.c.swell.length : Int) > 80) = False := eq_false h3
  by_cases h4 : (d.zones.length : Int) > 200
  · have e4 : ((d.zones.length : Int) > 200) = True := eq_true h4
    simp (config := { maxSteps := 4000000 }) only [↓sx0, ↓sx1, ↓sx2, ↓sx3, ↓sx4, ↓sx5, ↓sx6, sx0, sx1, sx2, sx3, sx4, sx5, sx6, tf10, ev3_hold, sxo, sxc, sxp, sxq, sxr, sxs, sxl, sxm, simprocAttr, e1, e2, e3, e4]
    exact ⟨true, rfl, fun h => by cases h⟩
  have e4 : ((d.zones.length : Int) > 200) = False := eq_false h4
  by_cases h5 : (ps.length : Int) > 8
  · have e5 : ((ps.length : Int) > 8) = True := eq_true h5
    simp (config := { maxSteps := 4000000 }) only [↓sx0, ↓sx1, ↓sx2, ↓sx3, ↓sx4, ↓sx5, ↓sx6, sx0, sx1, sx2, sx3, sx4, sx5, sx6, tf10, ev3_hold, sxo, sxc, sxp, sxq, sxr, sxs, sxl, sxm, simprocAttr, e1, e2, e3, e4, e5]
    exact ⟨true, rfl, fun h => by cases h⟩
  have e5 : ((ps.length : Int) > 8) = False := eq_false h5
  by_cases h6 : (d.wind.length : Int) > 80
  · have e6 : ((d.wind.length : Int) > 80) = True := eq_true h6
    simp (config := { maxSteps := 4000000 }) only [↓sx0, ↓sx1, ↓sx2, ↓sx3, ↓sx4, ↓sx5, ↓sx6, sx0, sx1, sx2, sx3, sx4, sx5, sx6, tf10, ev3_hold, sxo, sxc, sxp, sxq, sxr, sxs, sxl, sxm, simprocAttr, e1, e2, e3, e4, e5, e6]
    exact ⟨true, rfl, fun h => by cases h⟩
  have e6 : ((d.wind.length : Int) > 80) = False := eq_false h6
  simp (config := { maxSteps := 4000000 }) only [↓sx0, ↓sx1, ↓sx2, ↓sx3, ↓sx4, ↓sx5, ↓sx6, sx0, sx1, sx2, sx3, sx4, sx5, sx6, tf10, ev3_hold, sxo, sxc, sxp, sxq, sxr, sxs, sxl, sxm, simprocAttr, e1, e2, e3, e4, e5, e6]
  refine loop_constH [] (HImp.nil _ _) [(2, 3), (42, 55)] (fun j : Nat => [(3, I j)]) (fun j H1 => j ≤ ps.length ∧ ∀ p ∈ ps.take j, p.1.length ≤ 1000) (fun j => ps.length - j) 0 ?_ ⟨Nat.zero_le _, by simp⟩ ?_
  · simp (config := { maxSteps := 4000000 }) only [↓sx0, ↓sx1, ↓sx2, ↓sx3, ↓sx4, ↓sx5, ↓sx6, sx0, sx1, sx2, sx3, sx4, sx5, sx6, tf10, ev3_hold, sxo, sxc, sxp, sxq, sxr, sxs, sxl, sxm, simprocAttr]
    try simp
  rintro j H1 g1 ⟨hj, hall⟩
  by_cases hjn : j = ps.length
  · have f7 : ((j : Int) < (ps.length : Int)) = False := eq_false (by omega)
    rw [List.take_of_length_le (by omega)] at hall
    have hsm : d.small := ⟨⟨by omega, by omega, by omega⟩, by omega, by omega, by omega, fun l hl => by
      rw [← hps] at hl
      obtain ⟨p, hp, rfl⟩ := List.mem_map.1 hl
      exact hall p hp⟩
    have hck := hck hsm
    refine ⟨?_⟩
    simp (config := { maxSteps := 4000000 }) only [↓sx0, ↓sx1, ↓sx2, ↓sx3, ↓sx4, ↓sx5, ↓sx6, sx0, sx1, sx2, sx3, sx4, sx5, sx6, tf10, ev3_hold, sxo, sxc, sxp, sxq, sxr, sxs, sxl, sxm, simprocAttr, f7, dn]
    refine CallOb.pureH (fun w' hp => hck _ w' hp) ?_
    rintro q N2 ⟨e, rfl, he⟩
    by_cases hok : d.ok
    case neg =>
      have z1 : (e = 0) = False := eq_false fun h => hok (he.1 h)
      refine ⟨?_⟩
      simp (config := { maxSteps := 4000000 }) only [↓sx0, ↓sx1, ↓sx2, ↓sx3, ↓sx4, ↓sx5, ↓sx6, sx0, sx1, sx2, sx3, sx4, sx5, sx6, tf10, ev3_hold, sxo, sxc, sxp, sxq, sxr, sxs, sxl, sxm, simprocAttr, z1]
      exact ⟨false, rfl, fun _ => hsm⟩
    have z1 : (e = 0) = True := eq_true (he.2 hok)
    refine ⟨?_⟩
    simp (config := { maxSteps := 4000000 }) only [↓sx0, ↓sx1, ↓sx2, ↓sx3, ↓sx4, ↓sx5, ↓sx6, sx0, sx1, sx2, sx3, sx4, sx5, sx6, tf10, ev3_hold, sxo, sxc, sxp, sxq, sxr, sxs, sxl, sxm, simprocAttr, z1]
    refine loop_constH [] (HImp.nil _ _) [(2, 2), (4, 4), (59, 82)] (fun i : Nat => [(4, I i)]) (fun i H1 => i ≤ d.c.tide.length) (fun i => d.c.tide.length - i) 0 ?_ (Nat.zero_le _) ?_
    · simp (config := { maxSteps := 4000000 }) only [↓sx0, ↓sx1, ↓sx2, ↓sx3, ↓sx4, ↓sx5, ↓sx6, sx0, sx1, sx2, sx3, sx4, sx5, sx6, tf10, ev3_hold, sxo, sxc, sxp, sxq, sxr, sxs, sxl, sxm, simprocAttr]
      try simp
    rintro i H1 g1 hi
    by_cases hin : i = d.c.tide.length
    · have f8 : ((i : Int) < (d.c.tide.length : Int)) = False := eq_false (by omega)
      refine ⟨?_⟩
      simp (config := { maxSteps := 4000000 }) only [↓sx0, ↓sx1, ↓sx2, ↓sx3, ↓sx4, ↓sx5, ↓sx6, sx0, sx1, sx2, sx3, sx4, sx5, sx6, tf10, ev3_hold, sxo, sxc, sxp, sxq, sxr, sxs, sxl, sxm, simprocAttr, f8, dn]
      refine CallOb.pureH (fun w' hp => hce w') ?_
      rintro q N3 rfl
      by_cases k1 : wr (d.c.wide * d.c.high) > 20
      · have g1 : (wr (d.c.wide * d.c.high) > 20) = True := eq_true k1
        refine ⟨?_⟩
        simp (config := { maxSteps := 4000000 }) only [↓sx0, ↓sx1, ↓sx2, ↓sx3, ↓sx4, ↓sx5, ↓sx6, sx0, sx1, sx2, sx3, sx4, sx5, sx6, tf10, ev3_hold, sxo, sxc, sxp, sxq, sxr, sxs, sxl, sxm, simprocAttr, g1]
        exact ⟨_, rfl, fun _ => hsm⟩
      · have g1 : (wr (d.c.wide * d.c.high) > 20) = False := eq_false k1
        refine ⟨?_⟩
        simp (config := { maxSteps := 4000000 }) only [↓sx0, ↓sx1, ↓sx2, ↓sx3, ↓sx4, ↓sx5, ↓sx6, sx0, sx1, sx2, sx3, sx4, sx5, sx6, tf10, ev3_hold, sxo, sxc, sxp, sxq, sxr, sxs, sxl, sxm, simprocAttr, g1]
        exact ⟨_, rfl, fun _ => hsm⟩
    have f8 : ((i : Int) < (d.c.tide.length : Int)) = True := eq_true (by omega)
    have f9 : wr (i + 1) = ((i + 1 : Nat) : Int) := (wrap_id (by omega)).trans (by omega)
    obtain ⟨x, hx⟩ : ∃ x, d.c.tide[i]? = some x := ⟨_, List.getElem?_eq_getElem (by omega)⟩
    obtain ⟨lo, hi'⟩ := x
    by_cases k1 : wr (hi' - lo) > 7
    · have g1 : (wr (hi' - lo) > 7) = True := eq_true k1
      refine ⟨?_⟩
      simp (config := { maxSteps := 4000000 }) only [↓sx0, ↓sx1, ↓sx2, ↓sx3, ↓sx4, ↓sx5, ↓sx6, sx0, sx1, sx2, sx3, sx4, sx5, sx6, tf10, ev3_hold, sxo, sxc, sxp, sxq, sxr, sxs, sxl, sxm, simprocAttr, f8]
      refine amid (at_f (hrT _) spc_len hx (o := 1) (x := I hi') rfl fun ad1 => ?_)
      simp (config := { maxSteps := 4000000 }) only [↓sx0, ↓sx1, ↓sx2, ↓sx3, ↓sx4, ↓sx5, ↓sx6, sx0, sx1, sx2, sx3, sx4, sx5, sx6, tf10, ev3_hold, sxo, sxc, sxp, sxq, sxr, sxs, sxl, sxm, simprocAttr]
      refine at_f (hrT _) spc_len hx (o := 0) (x := I lo) rfl fun ad2 => ?_
      simp (config := { maxSteps := 4000000 }) only [↓sx0, ↓sx1, ↓sx2, ↓sx3, ↓sx4, ↓sx5, ↓sx6, sx0, sx1, sx2, sx3, sx4, sx5, sx6, tf10, ev3_hold, sxo, sxc, sxp, sxq, sxr, sxs, sxl, sxm, simprocAttr, g1]
      exact ⟨true, rfl, fun _ => hsm⟩
    · have g1 : (wr (hi' - lo) > 7) = False := eq_false k1
      refine ⟨?_⟩
      simp (config := { maxSteps := 4000000 }) only [↓sx0, ↓sx1, ↓sx2, ↓sx3, ↓sx4, ↓sx5, ↓sx6, sx0, sx1, sx2, sx3, sx4, sx5, sx6, tf10, ev3_hold, sxo, sxc, sxp, sxq, sxr, sxs, sxl, sxm, simprocAttr, f8]
      refine amid (at_f (hrT _) spc_len hx (o := 1) (x := I hi') rfl fun ad1 => ?_)
      simp (config := { maxSteps := 4000000 }) only [↓sx0, ↓sx1, ↓sx2, ↓sx3, ↓sx4, ↓sx5, ↓sx6, sx0, sx1, sx2, sx3, sx4, sx5, sx6, tf10, ev3_hold, sxo, sxc, sxp, sxq, sxr, sxs, sxl, sxm, simprocAttr]
      refine at_f (hrT _) spc_len hx (o := 0) (x := I lo) rfl fun ad2 => ?_
      simp (config := { maxSteps := 4000000 }) only [↓sx0, ↓sx1, ↓sx2, ↓sx3, ↓sx4, ↓sx5, ↓sx6, sx0, sx1, sx2, sx3, sx4, sx5, sx6, tf10, ev3_hold, sxo, sxc, sxp, sxq, sxr, sxs, sxl, sxm, simprocAttr, g1, f9]
      exact ⟨i + 1, _, rfl, HImp.nil _ _, by omega, by omega⟩
  have f7 : ((j : Int) < (ps.length : Int)) = True := eq_true (by omega)
  have f8 : wr (j + 1) = ((j + 1 : Nat) : Int) := (wrap_id (by omega)).trans (by omega)
  obtain ⟨p, hp⟩ : ∃ p, ps[j]? = some p := ⟨_, List.getElem?_eq_getElem (by omega)⟩
  have hpm := List.mem_of_getElem? hp
  obtain ⟨pl, pa, pn, pc⟩ := p
  have hsl : Sl w (.slice pa pn pc) 3 (cat psc pl) := hsP _ hpm
  have hnp := hsl.le psc_len (by omega)
  subst hnp
  by_cases k1 : (pl.length : Int) > 80
  · have g1 : ((pl.length : Int) > 80) = True := eq_true k1
    refine ⟨?_⟩
    simp (config := { maxSteps := 4000000 }) only [↓sx0, ↓sx1, ↓sx2, ↓sx3, ↓sx4, ↓sx5, ↓sx6, sx0, sx1, sx2, sx3, sx4, sx5, sx6, tf10, ev3_hold, sxo, sxc, sxp, sxq, sxr, sxs, sxl, sxm, simprocAttr, f7]
    refine amid (at_1 (hrC _) csc_len hp rfl fun ad => ?_)
    unfold csv
    simp (config := { maxSteps := 4000000 }) only [↓sx0, ↓sx1, ↓sx2, ↓sx3, ↓sx4, ↓sx5, ↓sx6, sx0, sx1, sx2, sx3, sx4, sx5, sx6, tf10, ev3_hold, sxo, sxc, sxp, sxq, sxr, sxs, sxl, sxm, simprocAttr, g1]
    exact ⟨true, rfl, fun h => by cases h⟩
  · have g1 : ((pl.length : Int) > 80) = False := eq_false k1
    refine ⟨?_⟩
    simp (config := { maxSteps := 4000000 }) only [↓sx0, ↓sx1, ↓sx2, ↓sx3, ↓sx4, ↓sx5, ↓sx6, sx0, sx1, sx2, sx3, sx4, sx5, sx6, tf10, ev3_hold, sxo, sxc, sxp, sxq, sxr, sxs, sxl, sxm, simprocAttr, f7]
    refine amid (at_1 (hrC _) csc_len hp rfl fun ad => ?_)
    unfold csv
    simp (config := { maxSteps := 4000000 }) only [↓sx0, ↓sx1, ↓sx2, ↓sx3, ↓sx4, ↓sx5, ↓sx6, sx0, sx1, sx2, sx3, sx4, sx5, sx6, tf10, ev3_hold, sxo, sxc, sxp, sxq, sxr, sxs, sxl, sxm, simprocAttr, g1, f8]
    refine ⟨j + 1, _, rfl, HImp.nil _ _, ⟨by omega, fun p' hp' => ?_⟩, by omega⟩
    rw [List.take_succ, hp] at hp'
    rcases List.mem_append.1 hp' with h | h
    · exact hall _ h
    · simp at h
      subst h
      simp only []
      omega
end Go.Proofs.YtpmodggfogahhaaGreatDoor

namespace Go.Proofs.YtpmodggfogahhaaGreatDoor
open Go.RowKit Go.SX
set_option maxRecDepth 20000
set_option maxHeartbeats 0
set_option linter.unusedSimpArgs false
set_option linter.unusedVariables false
theorem drift_step2_fn (w : World) (hw : Ways w) (d : Drf) (sD sT sS vZ vC vW : Value) (hd : DfOk w d sD sT sS vZ vC vW) (hok : d.ok) (k t lw : Nat) (hk : k < d.c.depth.length) (ht : t + 1 < d.c.tide.length) (hlw : lw ≤ 8) (z : Nat) (hz : d.zones[k]? = some (z : Int)) (cl : List Psh) (hcl : d.cur[z]? = some cl) (cur wnd : Psh) (hcur : cl[t]? = some cur) (hwnd : d.wind[t]? = some wnd) (lo hi : Int) (hp : d.c.tide[t]? = some (lo, hi)) :
    SX.Fn Tryz.prog 15 [dfv d sD sT sS vZ vC vW, I k, I t, I lw] w (fun _ => False) (fun q N => ∃ v, q = .tuple #[v, I 0] ∧ Got v 3 1 i1 (stpA d cur wnd t k lw lo hi) N) := by
  have hco : cur.ok := (hok.cu _ (List.mem_of_getElem? hcl)).2 _ (List.mem_of_getElem? hcur)
  have hwo : wnd.ok := hok.wi.2 _ (List.mem_of_getElem? hwnd)
  have hsm := small_of hok.c
  have hT := hok.c.2.2.2.1
  have hopn := fun (H : List HO) w' (hp : Hp ⟨w, fun _ => False⟩ H w') => open_drift_fn w' d sD sT sS vZ vC vW (hd.keep (maps_none w) hp.ext) hok
  have hc := fun (bs ms mn : Nat) (H : List HO) w' (hp : Hp ⟨w, fun _ => False⟩ H w') (hm : HO.cells bs 179 (seaL d sD sT sS vZ vC vW ms mn) ∈ H) => cell_fn w' bs mn ms d sD sT sS vZ vC vW (sdc_of hd hp hm) k hk (Nat.le_trans hsm.1 (by omega))
  have hla := fun (bs ms mn : Nat) (H : List HO) w' (hp : Hp ⟨w, fun _ => False⟩ H w') (hm : HO.cells bs 179 (seaL d sD sT sS vZ vC vW ms mn) ∈ H) => last_fn w' bs mn ms d sD sT sS vZ vC vW (sdc_of hd hp hm) (by omega)
  have hw1 := fun w' => dwithin_fn w' (t : Int) 0 ((d.c.tide.length : Int) - 1 - 1)
  simp only [show (decide (0 ≤ (t : Int) ∧ (t : Int) ≤ (d.c.tide.length : Int) - 1 - 1)) = true from by simp; omega] at hw1
  have hw2 := fun w' => dwithin_fn w' (lw : Int) 0 8
  simp only [show (decide (0 ≤ (lw : Int) ∧ (lw : Int) ≤ 8)) = true from by simp; omega] at hw2
  have e1 : ((k : Int) = -1) = False := eq_false (by omega)
  have e2 : wr ((d.c.tide.length : Int) - 1 - 1) = (d.c.tide.length : Int) - 1 - 1 := wrap_id (by omega)
  have hcb : (stpA d cur wnd t k lw lo hi).length ≤ 1000000 := by
    unfold stpA
    refine Nat.le_trans (compact_le _) ?_
    rw [srt_len]
    have h1 := stpN_len d cur wnd hco hwo t k lw lo (hi - lo + 1).toNat
    have h2 := hok.c.2.2.2.2.2.2.1 _ (List.mem_of_getElem? hp)
    simp only [] at h2
    have h3 : (hi - lo + 1).toNat ≤ 201 := by omega
    omega
  have hstep := fun (bs ms mn : Nat) (B : List HO) w' (hp0 : Hp ⟨w, fun _ => False⟩ ((HO.obj ms (.map #[] 0) :: [HO.obj mn (.map #[] 0)]) ++ B) w') (hm : HO.cells bs 179 (seaL d sD sT sS vZ vC vW ms mn) ∈ B) =>
    dstep_fn w' (hw.keep hp0.ext fun h => h) bs mn ms (fun e => by
      subst e
      have h1 := List.pairwise_cons.1 hp0.nd
      exact (h1.1 (HO.obj mn (.map #[] 0)) (by simp) mn rfl rfl).1 rfl) d sD sT sS vZ vC vW ⟨sdc_of hd hp0 (List.mem_append_right _ hm), (hd.keep (maps_none w) hp0.ext).zo, (hd.keep (maps_none w) hp0.ext).cu, (hd.keep (maps_none w) hp0.ext).wi⟩ hok.c [HO.obj mn (.map #[] 0)] ⟨#[], 0, rfl, KeysOk.nil _ _, fun e he => by simp at he⟩ (fun h hh => hp0.ok h (by rw [List.mem_singleton] at hh; subst hh; simp)) 0 (hp0.ok (HO.obj ms (.map #[] 0)) (by simp)) k t lw hk (by omega) hlw z hz cl hcl cur wnd hcur hwnd hco hwo lo hi hp
  obtain ⟨R, hR⟩ : ∃ R, stpA d cur wnd t k lw lo hi = R := ⟨_, rfl⟩
  rw [hR] at hcb ⊢
  simp only [hR] at hstep
  unfold dfv at hopn ⊢
  have dn : ∀ (g : Nat) (xs : List Value), det0 g xs = none := fun _ _ => rfl
  refine walk [] [] (det0_ok _ _) Tryz.func15 rfl Tryz.ntmps15 res15 (by kernel_rfl) no_facts ?_
  simp (config := { maxSteps := 4000000 }) only [↓sx0, ↓sx1, ↓sx2, ↓sx3, ↓sx4, ↓sx5, ↓sx6, sx0, sx1, sx2, sx3, sx4, sx5, sx6, tf15, ev3_hold, sxo, sxc, sxp, sxq, sxr, sxs, sxl, sxm, simprocAttr, dn]
  refine CallOb.pureH (fun w' hp' => hopn _ w' hp') ?_
  rintro q N ⟨bs, ms, mn, rfl, hsub⟩
  have hm1 : HO.cells bs 179 (seaL d sD sT sS vZ vC vW ms mn) ∈ N := hsub.subset List.mem_cons_self
  have hc := hc bs ms mn
  have hla := hla bs ms mn
  have hstep := hstep bs ms mn
  refine ⟨?_⟩
  simp (config := { maxSteps := 4000000 }) only [↓sx0, ↓sx1, ↓sx2, ↓sx3, ↓sx4, ↓sx5, ↓sx6, sx0, sx1, sx2, sx3, sx4, sx5, sx6, tf15, ev3_hold, sxo, sxc, sxp, sxq, sxr, sxs, sxl, sxm, simprocAttr, e1, dn]
  refine CallOb.pureH (fun w' hp' => hc _ w' hp' (by simp [hm1])) ?_
  rintro q N1 rfl
  refine ⟨?_⟩
  simp (config := { maxSteps := 4000000 }) only [↓sx0, ↓sx1, ↓sx2, ↓sx3, ↓sx4, ↓sx5, ↓sx6, sx0, sx1, sx2, sx3, sx4, sx5, sx6, tf15, ev3_hold, sxo, sxc, sxp, sxq, sxr, sxs, sxl, sxm, simprocAttr, e1, dn]
  refine CallOb.pureH (fun w' hp' => hla _ w' hp' (by simp [hm1])) ?_
  rintro q N2 rfl
  refine ⟨?_⟩
  simp (config := { maxSteps := 4000000 }) only [↓sx0, ↓sx1, ↓sx2, ↓sx3, ↓sx4, ↓sx5, ↓sx6, sx0, sx1, sx2, sx3, sx4, sx5, sx6, tf15, ev3_hold, sxo, sxc, sxp, sxq, sxr, sxs, sxl, sxm, simprocAttr, e2, dn]
  refine CallOb.pureH (fun w' hp' => hw1 w') ?_
  rintro q N3 rfl
  refine ⟨?_⟩
  simp (config := { maxSteps := 4000000 }) only [↓sx0, ↓sx1, ↓sx2, ↓sx3, ↓sx4, ↓sx5, ↓sx6, sx0, sx1, sx2, sx3, sx4, sx5, sx6, tf15, ev3_hold, sxo, sxc, sxp, sxq, sxr, sxs, sxl, sxm, simprocAttr, dn]
  refine CallOb.pureH (fun w' hp' => hw2 w') ?_
  rintro q N4 rfl
  refine ⟨?_⟩
  simp (config := { maxSteps := 4000000 }) only [↓sx0, ↓sx1, ↓sx2, ↓sx3, ↓sx4, ↓sx5, ↓sx6, sx0, sx1, sx2, sx3, sx4, sx5, sx6, tf15, ev3_hold, sxo, sxc, sxp, sxq, sxr, sxs, sxl, sxm, simprocAttr, dn]
  refine CallOb.mutH (A := HO.obj ms (.map #[] 0) :: [HO.obj mn (.map #[] 0)]) (B := [HO.cells bs 179 (seaL d sD sT sS vZ vC vW ms mn)]) ?_ (fun b hb => ?_) (fun w' hp' => hstep _ w' hp' List.mem_cons_self) ?_
  · refine (HImp.sub (H' := [HO.cells bs 179 (seaL d sD sT sS vZ vC vW ms mn), HO.obj mn (.map #[] 0), HO.obj ms (.map #[] 0)]) ?_).trans (HImp.perm (List.reverse_perm _).symm)
    refine List.Sublist.trans ?_ (List.sublist_append_right _ _)
    refine List.Sublist.trans ?_ (List.sublist_append_right _ _)
    refine List.Sublist.trans ?_ (List.sublist_append_right _ _)
    exact List.Sublist.trans hsub (List.sublist_append_right _ _)
  · obtain ⟨h, hh, hb⟩ := hb
    simp only [List.mem_cons, List.not_mem_nil, or_false] at hh
    rcases hh with rfl | rfl
    · exact ⟨_, List.mem_cons_self, hb⟩
    · exact ⟨_, List.mem_cons_of_mem _ List.mem_cons_self, hb⟩
  rintro q N5 ⟨a, cp, rfl, hN5⟩
  refine ⟨?_⟩
  simp (config := { maxSteps := 4000000 }) only [↓sx0, ↓sx1, ↓sx2, ↓sx3, ↓sx4, ↓sx5, ↓sx6, sx0, sx1, sx2, sx3, sx4, sx5, sx6, tf15, ev3_hold, sxo, sxc, sxp, sxq, sxr, sxs, sxl, sxm, simprocAttr, dn]
  refine CallOb.pureH (fun w' hp' => clone1_fn w' (.slice a R.length cp) R (RowOk.sl (hp'.ok _ (List.mem_append_left _ hN5))) hcb) ?_
  rintro q N6 ⟨ad, c, rfl, hnil, hN6⟩
  refine ⟨?_⟩
  simp (config := { maxSteps := 4000000 }) only [↓sx0, ↓sx1, ↓sx2, ↓sx3, ↓sx4, ↓sx5, ↓sx6, sx0, sx1, sx2, sx3, sx4, sx5, sx6, tf15, ev3_hold, sxo, sxc, sxp, sxq, sxr, sxs, sxl, sxm, simprocAttr]
  refine ⟨_, rfl, ad, c, rfl, hnil, ?_⟩
  rcases hN6 with h | h
  · exact .inr (by simp [h])
  · exact .inl h.2
end Go.Proofs.YtpmodggfogahhaaGreatDoor

namespace Go.Proofs.YtpmodggfogahhaaGreatDoor
open Go.RowKit Go.SX Go.ChangeShapes Go.WideShapes Go.ChangeAt
set_option maxRecDepth 100000
theorem flat_drift : flat Tryz.prog 4 29 = some [.int .i64, .int .i64, .slice 3, .slice 44, .slice 3, .slice 3, .slice 27, .slice 46] := by kernel_rfl
theorem flat_push : flat Tryz.prog 4 46 = some [.int .i64, .int .i64, .int .i64] := by kernel_rfl
theorem flat_pushes : flat Tryz.prog 4 27 = some [.slice 46] := by kernel_rfl
theorem flat_spot2 : flat Tryz.prog 4 31 = some [.int .i64, .int .i64, .int .i64] := by kernel_rfl
theorem cells_push : Tryz.prog.cellsOf 46 = 3 := by kernel_rfl
theorem cells_pushes : Tryz.prog.cellsOf 27 = 1 := by kernel_rfl
theorem cat_ofP {α : Type} {f : α → List Value} {p : α → Prop} : ∀ {xss : List (List Value)}, (∀ xs ∈ xss, ∃ u, xs = f u ∧ p u) → ∃ l : List α, xss.flatten = cat f l ∧ l.length = xss.length ∧ ∀ u ∈ l, p u
  | [], _ => ⟨[], rfl, rfl, fun _ h => by cases h⟩
  | xs :: xss, h => by
    obtain ⟨u, rfl, hu⟩ := h xs List.mem_cons_self
    obtain ⟨l, hl, hn, hp⟩ := cat_ofP fun ys hy => h ys (List.mem_cons_of_mem _ hy)
    refine ⟨u :: l, by rw [List.flatten_cons, hl, cat_cons], by simp [hn], fun v hv => ?_⟩
    rcases List.mem_cons.1 hv with rfl | hv
    · exact hu
    · exact hp v hv
theorem sl_psh {w : World} {a : Option Addr} {len cap : Nat} {xss : List (List Value)} (hs : Sl w (.slice a len cap) (Tryz.prog.cellsOf 46) xss.flatten) (hx : ∀ xs ∈ xss, ∀ m es, flat Tryz.prog m 46 = some es → Lvs Tryz.prog w es xs) : ∃ l : List Psh, Sl w (.slice a len cap) 3 (cat psc l) := by
  obtain ⟨us, hu, _⟩ := cat_of (f := psc) (xss := xss) fun xs hxs => by
    obtain ⟨a, b, c, hl⟩ := leaves3 (hx xs hxs 4 _ flat_push)
    exact ⟨⟨a, b, c⟩, hl⟩
  rw [cells_push, hu] at hs
  exact ⟨us, hs⟩
theorem sl_cur {w : World} {a : Option Addr} {len cap : Nat} {xss : List (List Value)} (hs : Sl w (.slice a len cap) (Tryz.prog.cellsOf 27) xss.flatten) (hx : ∀ xs ∈ xss, ∀ m es, flat Tryz.prog m 27 = some es → Lvs Tryz.prog w es xs) : ∃ cs, CuOk w (.slice a len cap) cs := by
  obtain ⟨us, hu, _, hp⟩ := cat_ofP (f := csc) (p := fun p : Cs => Sl w (csv p) 3 (cat psc p.1)) (xss := xss) fun xs hxs => by
    have hl := hx xs hxs 4 _ flat_pushes
    cases hl with
    | @slice _ a2 n2 c2 x1 _ _ _ _ _ s1 _ e1 hl =>
      cases hl
      obtain ⟨l, h⟩ := sl_psh s1 e1
      exact ⟨(l, a2, n2, c2), rfl, h⟩
  rw [cells_pushes, hu] at hs
  exact ⟨us.map Prod.fst, us, rfl, hs, hp⟩
theorem drift_of {H : Type} {enc : TypeId × Value → H} {w : World} {base : Nat} {v : Value} {d : DataW H} {ps : List MemPlace} (h : Value.okWide Tryz.prog w .any base 29 v) (hd : DataW.Trod enc Tryz.prog w 0 (fun _ => true) true 29 v d ps) : ∃ (f : Drf) (sD sT sS vZ vC vW : Value), v = dfv f sD sT sS vZ vC vW ∧ DfOk w f sD sT sS vZ vC vW := by
  obtain ⟨cs, rfl⟩ := agg_of Tryz.underlying29 h
  have hl := lvs_of_Trod hd 4 flat_drift
  rw [show (Value.agg cs).cells.toList = cs.toList from rfl] at hl
  generalize hcs : cs.toList = l at hl
  cases hl with | int _ hl => cases hl with | int _ hl => cases hl with | slice x1 _ _ _ s1 _ e1 hl => cases hl with | slice x2 _ _ _ s2 _ e2 hl => cases hl with | slice x3 _ _ _ s3 _ e3 hl => cases hl with | slice x4 _ _ _ s4 _ e4 hl => cases hl with | slice x5 _ _ _ s5 _ e5 hl => cases hl with | slice x6 _ _ _ s6 _ e6 hl =>
    cases hl
    obtain ⟨l1, h1, _⟩ := sl_ints s1 e1
    obtain ⟨l2, h2, _⟩ := sl_spans s2 e2
    obtain ⟨l3, h3, _⟩ := sl_ints s3 e3
    obtain ⟨l4, h4, _⟩ := sl_ints s4 e4
    obtain ⟨l5, h5⟩ := sl_cur s5 e5
    obtain ⟨l6, h6⟩ := sl_psh s6 e6
    exact ⟨⟨⟨_, _, l1, l2, l3⟩, l4, l5, l6⟩, _, _, _, _, _, _, by rw [show cs = cs.toList.toArray by simp, hcs]; rfl, ⟨⟨_, _, _, rfl, h1, h2, h3⟩, h4, h5, h6⟩⟩
theorem spot2_of {H : Type} {enc : TypeId × Value → H} {w : World} {base : Nat} {v : Value} {d : DataW H} {ps : List MemPlace} (h : Value.okWide Tryz.prog w .any base 31 v) (hd : DataW.Trod enc Tryz.prog w 0 (fun _ => true) true 31 v d ps) : ∃ a b c, v = .agg #[I a, I b, I c] := by
  obtain ⟨cs, rfl⟩ := agg_of Tryz.underlying31 h
  obtain ⟨a, b, c, hl⟩ := leaves3 (lvs_of_Trod hd 4 flat_spot2)
  exact ⟨a, b, c, by rw [show cs = cs.toList.toArray by simp, show cs.toList = _ from hl]⟩
end Go.Proofs.YtpmodggfogahhaaGreatDoor

