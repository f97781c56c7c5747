/- A part of a proof: the symbolic walk and what it shows of single functions. -/
import Derived.Test.YtaloedccoadedaaDoorSuF
set_option linter.all false
namespace Go.Proofs.YtaloedccoadedaaDoor
open Go.RowKit Go.SX
set_option maxRecDepth 20000
set_option maxHeartbeats 4000000
set_option linter.unusedSimpArgs false
set_option linter.unusedVariables false
theorem Dis.tru_all (d : Dis) (M : List Nat) : (∀ i, i < d.rs.length → d.tru i M) ↔ ∀ r ∈ d.rs, saysB d.c r (M.getD r.tick.toNat 0) = true := by
  constructor
  · intro h r hr
    obtain ⟨i, hi⟩ := List.getElem?_of_mem hr
    have hlt := (List.getElem?_eq_some_iff.1 hi).1
    have h1 := (Dis.rep_mem hlt).2
    rw [hi] at h1
    have h2 := h i hlt
    unfold Dis.tru at h2
    rw [← Option.some.inj h1] at h2
    exact h2
  · intro h i hi
    exact h _ (Dis.rep_mem hi).1
theorem mem_onlyR {d : Dis} {L : List Int} {but : Int} {r : Rep} : ∀ {k}, r ∈ onlyR d L but k ↔ ∃ j : Nat, j < k ∧ (j : Int) ≠ but ∧ r = d.rep (L.getD j 0).toNat
  | 0 => ⟨fun h => (by cases h), fun ⟨j, h, _⟩ => (by omega)⟩
  | k + 1 => by
    unfold onlyR
    rw [List.mem_append, mem_onlyR]
    constructor
    · rintro (⟨j, h1, h2, h3⟩ | h)
      · exact ⟨j, by omega, h2, h3⟩
      · split at h
        · cases h
        · rename_i hne
          exact ⟨k, by omega, hne, List.mem_singleton.1 h⟩
    · rintro ⟨j, h1, h2, h3⟩
      by_cases e : j = k
      · subst e
        right
        rw [if_neg h2]
        exact List.mem_singleton.2 h3
      · exact .inl ⟨j, by omega, h2, h3⟩
theorem mem_pick {p : Nat → Bool} {n i : Nat} : (i : Int) ∈ pick p n ↔ i < n ∧ p i = true := by
  unfold pick
  rw [List.mem_map]
  constructor
  · rintro ⟨j, h1, h2⟩
    have : j = i := by omega
    subst this
    rw [List.mem_filter, List.mem_range] at h1
    exact h1
  · rintro ⟨h1, h2⟩
    exact ⟨i, by rw [List.mem_filter, List.mem_range]; exact ⟨h1, h2⟩, rfl⟩
theorem orS_bit {n : Nat} (hn : n ≤ 10) {y : List Int} (hy : y.Sublist (idx n)) {i : Nat} (hi : i < n) : (orS 0 y).testBit i = true ↔ (i : Int) ∈ y := by
  have h := (sub_orS hn hy).2.2.2
  have h1 : (i : Int) ∈ pick (orS 0 y).testBit n ↔ _ := mem_pick
  rw [h] at h1
  rw [h1]
  exact ⟨fun h => ⟨hi, h⟩, fun h => h.2⟩
theorem sub_asc {n : Nat} {y : List Int} (hy : y.Sublist (idx n)) : ascB n y := by
  refine ⟨fun i x hx => idx_mem.1 (hy.subset (List.mem_of_getElem? hx)), fun i x z hx hz => ?_⟩
  have hp := (idx_sorted n).sublist hy
  obtain ⟨h1, h2⟩ := List.getElem?_eq_some_iff.1 hx
  obtain ⟨h3, h4⟩ := List.getElem?_eq_some_iff.1 hz
  have := List.pairwise_iff_getElem.1 hp i (i + 1) h1 h3 (by omega)
  rw [h2, h4] at this
  exact this
theorem onlyR_tru {d : Dis} (hm : d.rs.length ≤ 10) {y z : List Int} (hy : y.Sublist (idx d.rs.length)) (hz : z.Sublist (idx d.rs.length)) {but : Int} (hyz : ∀ x : Int, x ∈ z ↔ ∃ j : Nat, (j : Int) ≠ but ∧ y[j]? = some x) (M : List Nat) :
    (∀ r ∈ onlyR d y but y.length, saysB d.c r (M.getD r.tick.toNat 0) = true) ↔ ∀ i, i < d.rs.length → (orS 0 z).testBit i = true → d.tru i M := by
  constructor
  · intro h i hi hb
    obtain ⟨j, hj, hx⟩ := (hyz i).1 ((orS_bit hm hz hi).1 hb)
    have hlt := (List.getElem?_eq_some_iff.1 hx).1
    exact h _ (mem_onlyR.2 ⟨j, hlt, hj, by rw [List.getD_eq_getElem?_getD, hx]; rfl⟩)
  · intro h r hr
    obtain ⟨j, hj, hne, rfl⟩ := mem_onlyR.1 hr
    have hx : y[j]? = some (y.getD j 0) := getD_at hj 0
    have hb := idx_mem.1 (hy.subset (List.mem_of_getElem? hx))
    obtain ⟨X, hX⟩ : ∃ X : Nat, y.getD j 0 = X := ⟨(y.getD j 0).toNat, by omega⟩
    rw [hX, Int.toNat_natCast]
    rw [hX] at hx hb
    exact h X (by omega) ((orS_bit hm hz (by omega)).2 ((hyz X).2 ⟨j, hne, hx⟩))
def dropAt (y : List Int) (but : Int) : List Int := if but < 0 then y else y.eraseIdx but.toNat
theorem dropAt_sub (y : List Int) (but : Int) : (dropAt y but).Sublist y := by
  unfold dropAt
  split
  · exact List.Sublist.refl _
  · exact List.eraseIdx_sublist _ _
theorem dropAt_mem (y : List Int) (but : Int) (x : Int) : x ∈ dropAt y but ↔ ∃ j : Nat, (j : Int) ≠ but ∧ y[j]? = some x := by
  unfold dropAt
  split
  · rename_i h
    constructor
    · intro hx
      obtain ⟨j, hj⟩ := List.getElem?_of_mem hx
      exact ⟨j, by omega, hj⟩
    · rintro ⟨j, _, hj⟩
      exact List.mem_of_getElem? hj
  · rename_i h
    rw [List.mem_eraseIdx_iff_getElem?]
    constructor
    · rintro ⟨j, h1, h2⟩
      exact ⟨j, by omega, h2⟩
    · rintro ⟨j, h1, h2⟩
      exact ⟨j, by omega, h2⟩
theorem dropAt_bef {y : List Int} {but : Int} (h0 : 0 ≤ but) (h1 : but < y.length) : befB (dropAt y but) y = true := by
  unfold dropAt
  rw [if_neg (by omega)]
  have hl : (y.eraseIdx but.toNat).length = y.length - 1 := by rw [List.length_eraseIdx, if_pos (by omega)]
  unfold befB
  rw [if_neg (by omega), decide_eq_true (by omega)]
def Dis.sub (d : Dis) (y : List Int) (but : Int) : Dis := ⟨d.c, d.dr, d.pc, onlyR d y but y.length⟩
theorem Dis.sub_E {d : Dis} (hE : d.E = 0) {y : List Int} (hy : y.Sublist (idx d.rs.length)) (but : Int) : (d.sub y but).E = 0 := by
  obtain ⟨hok, hdr, hpc, hm, hrs⟩ := Dis.E_zero hE
  have h1 := onlyR_len d y but y.length
  have h2 := sub_len hy
  unfold Dis.E Dis.valB Dis.numB Dis.sub
  simp only []
  rw [if_pos ((okB_iff _).2 hok), if_pos]
  simp only [Bool.and_eq_true, inB_iff, decide_eq_true_eq, List.all_eq_true]
  refine ⟨⟨⟨hdr, hpc⟩, by omega⟩, fun r hr => ?_⟩
  obtain ⟨j, hj, _, rfl⟩ := mem_onlyR.1 hr
  have hx : y[j]? = some (y.getD j 0) := getD_at hj 0
  have hb := idx_mem.1 (hy.subset (List.mem_of_getElem? hx))
  exact hrs _ (Dis.rep_mem (by omega)).1
theorem Dis.sub_way (d : Dis) (y : List Int) (but : Int) (M : List Nat) : (d.sub y but).way M ↔ d.way M := way_rs (d := d) _ M
theorem Dis.sub_tru {d : Dis} (hm : d.rs.length ≤ 10) {y : List Int} (hy : y.Sublist (idx d.rs.length)) (but : Int) (M : List Nat) : (∀ i, i < (d.sub y but).rs.length → (d.sub y but).tru i M) ↔ ∀ i, i < d.rs.length → (orS 0 (dropAt y but)).testBit i = true → d.tru i M := by
  rw [Dis.tru_all]
  exact onlyR_tru hm hy ((dropAt_sub y but).trans hy) (dropAt_mem y but) M
theorem Dis.sub_least {d : Dis} (hE : d.E = 0) (hm : d.rs.length ≤ 10) {y : List Int} (hy : y.Sublist (idx d.rs.length)) (but : Int) : ((d.sub y but).crs pAll).least < NV ↔ d.canB (orS 0 (dropAt y but)) = true := by
  rw [Dis.least_iff (Dis.sub_E hE hy but), Dis.canB_iff hE]
  refine exists_congr fun M => ?_
  rw [Dis.sub_way, Dis.sub_tru hm hy]
theorem orS_all {n : Nat} (hn : n ≤ 10) {i : Nat} (hi : i < n) : (orS 0 (idx n)).testBit i = true := (orS_bit hn (List.Sublist.refl _) hi).2 (idx_mem.2 (by omega))
theorem Dis.can_none {d : Dis} (hE : d.E = 0) (hm : d.rs.length ≤ 10) : fstL (notC d.canB) d.rs.length = none ↔ (d.crs pAll).least < NV := by
  rw [Dis.least_iff hE]
  constructor
  · intro h
    have h1 := fst_none h (idx d.rs.length) (List.Sublist.refl _)
    unfold notC at h1
    rw [Bool.not_eq_false', Dis.canB_iff hE] at h1
    obtain ⟨M, h2, h3⟩ := h1
    exact ⟨M, h2, fun i hi => h3 i hi (orS_all hm hi)⟩
  · rintro ⟨M, h2, h3⟩
    exact none_fst fun y hy => by
      unfold notC
      rw [Bool.not_eq_false']
      exact (Dis.canB_iff hE _).2 ⟨M, h2, fun i hi _ => h3 i hi⟩
theorem fst_less {can : Nat → Bool} {n : Nat} {y : List Int} (h : fstL (notC can) n = some y) {but : Int} (hb : -1 ≤ but ∧ but < y.length) : y.Sublist (idx n) ∧ can (orS 0 (dropAt y but)) = decide (0 ≤ but) := by
  obtain ⟨h1, h2, h3⟩ := fst_some h
  refine ⟨h1, ?_⟩
  by_cases h0 : 0 ≤ but
  · rw [decide_eq_true h0]
    have h4 := h3 (dropAt y but) ((dropAt_sub y but).trans h1)
    have h5 := dropAt_bef h0 hb.2
    by_cases hc : can (orS 0 (dropAt y but)) = true
    · exact hc
    · rw [Bool.not_eq_true] at hc
      rw [h4 (by unfold notC; rw [hc]; rfl)] at h5
      cases h5
  · rw [decide_eq_false h0]
    unfold dropAt
    rw [if_pos (by omega)]
    unfold notC at h2
    simpa using h2
end Go.Proofs.YtaloedccoadedaaDoor
