/- A part of a proof: the symbolic walk and what it shows of single functions. -/
import Derived.Test.YtaloedccoadedaaDoorF9
import Derived.Test.YtaloedccoadedaaDoorSuC2
set_option linter.all false
namespace Go.Proofs.YtaloedccoadedaaDoor
open Go.RowKit Go.SX
set_option maxRecDepth 20000
set_option maxHeartbeats 4000000
set_option linter.unusedSimpArgs false
set_option linter.unusedVariables false
theorem lex_prefix : ∀ {x y : List Int}, lexB x y = false → ∀ (t : Nat) (a b : Int), (∀ s : Nat, s < t → x[s]? = y[s]?) → x[t]? = some a → y[t]? = some b → b ≤ a
  | [], _, _, t, a, b, _, h, _ => by simp at h
  | _ :: _, [], _, t, a, b, _, _, h => by simp at h
  | u :: x, v :: y, hl, 0, a, b, _, h1, h2 => by
    simp only [List.getElem?_cons_zero, Option.some.injEq] at h1 h2
    subst h1 h2
    simp only [lexB] at hl
    by_cases e : u = v
    · omega
    · rw [if_neg e] at hl
      have := of_decide_eq_false hl
      omega
  | u :: x, v :: y, hl, t + 1, a, b, hs, h1, h2 => by
    have h0 := hs 0 (by omega)
    simp only [List.getElem?_cons_zero, Option.some.injEq] at h0
    subst h0
    simp only [lexB, if_true] at hl
    simp only [List.getElem?_cons_succ] at h1 h2
    exact lex_prefix hl t a b (fun s h => by
      have := hs (s + 1) (by omega)
      simpa only [List.getElem?_cons_succ] using this) h1 h2
def Dis.allB (d : Dis) (L : List Int) : Prop := ∃ M, L = zs M ∧ d.way M ∧ ∀ i, i < d.rs.length → d.tru i M
theorem DbtP.all {d : Dis} (hE : d.E = 0) {L : List Int} {q : Value} (h : DbtP d L q) : ∃ (n : Int) (p s : Bool), q = .tuple #[I n, .bool p, .bool s] ∧ ((s = true ∧ p = true ∧ n = 0) ↔ d.allB L) := by
  rcases h with ⟨M, hM, hw, rfl⟩ | ⟨hn, rfl⟩
  · refine ⟨_, _, _, rfl, ?_⟩
    constructor
    · rintro ⟨_, h1, h2⟩
      exact ⟨M, hM, hw, Dis.all_of_zero hE h2 h1⟩
    · rintro ⟨M', h1, h2, h3⟩
      have : M = M' := zs_inj (hM.symm.trans h1)
      subst this
      have h4 := Dis.dbt_zero h3
      exact ⟨rfl, h4.2, h4.1⟩
  · refine ⟨_, _, _, rfl, ?_⟩
    constructor
    · rintro ⟨h, _⟩
      cases h
    · rintro ⟨M, h1, h2, _⟩
      exact absurd ⟨M, h1, h2⟩ hn
theorem Dis.whr_nil {d : Dis} (hE : d.E = 0) {t : Nat} (ht : t < d.c.tide.length) : d.whrL t = [] ↔ ¬ (d.crs pAll).least < NV := by
  rw [Dis.least_iff hE]
  constructor
  · rintro h ⟨M, h1, h2⟩
    have := (Dis.mem_whr hE (x := M.getD t 0) ht).2 ⟨M, ⟨h1, rfl⟩, h2⟩
    rw [h] at this
    cases this
  · intro h
    refine List.eq_nil_iff_forall_not_mem.2 fun x hx => ?_
    obtain ⟨M, ⟨h1, _⟩, h2⟩ := (Dis.mem_whr hE ht).1 hx
    exact h ⟨M, h1, h2⟩
theorem Dis.E2_nil {d : Dis} (hE : d.E = 0) {t : Nat} (ht : t < d.c.tide.length) : d.E2 t 0 = 0 := by
  unfold Dis.E2
  obtain ⟨hok, _⟩ := Dis.E_zero hE
  obtain ⟨_, _, hW, hH, hlen⟩ := hok.dims
  have h1 : 1 ≤ d.c.depth.length := by rw [hlen]; exact Nat.mul_le_mul hW.1 hH.1
  rw [if_pos hE, if_pos]
  rw [Bool.and_eq_true, inB_iff, inB_iff]
  omega
theorem Dis.plus_whr {d : Dis} {r : Rep} (h : (d.plus r).E = 0) {t x : Nat} (ht : t < d.c.tide.length) (hx : x ∈ (d.plus r).whrL t) : x ∈ d.whrL t := by
  obtain ⟨M, ⟨h1, h2⟩, h3⟩ := (Dis.mem_whr h ht).1 hx
  exact (Dis.mem_whr (Dis.plus_E' h) ht).2 ⟨M, ⟨(Dis.plus_way _ _ _).1 h1, h2⟩, ((Dis.plus_tru _ _ _).1 h3).1⟩
theorem Dis.allB_what {d : Dis} (hE : d.E = 0) {L : List Int} (h : d.allB L) : (d.crs pAll).least < NV ∧ ∃ M, L = zs M ∧ M.length = d.c.tide.length ∧ (d.crs pAll).first.length = d.c.tide.length ∧ (∀ t, t < d.c.tide.length → M.getD t 0 ∈ d.whrL t) ∧
    ∀ t, t < d.c.tide.length → (∀ s, s < t → (d.crs pAll).first.getD s 0 = M.getD s 0) → (d.crs pAll).first.getD t 0 ≤ M.getD t 0 := by
  obtain ⟨M, hM, hw, ht⟩ := h
  have hl := (Dis.least_iff hE).2 ⟨M, hw, ht⟩
  obtain ⟨f1, f2⟩ := Dis.first_tru hE hl
  have hgo := Dis.crs_ok hE pAll_ok
  obtain ⟨g1, g2, g3⟩ := Crs.first_ok hgo hl
  have htot : ∀ K, d.way K → (∀ i, i < d.rs.length → d.tru i K) → (d.crs pAll).tot 0 K = 0 := fun K h1 h2 => by
    rw [Dis.tot_is hE pAll_ok ((Dis.all_tru hE K).2 ⟨h1, h2⟩), sumN_zero fun i hi => ?_]
    have := h2 i hi
    unfold Dis.tru at this
    rw [this]
    rfl
  have hlex := g3 M ((Dis.all_tru hE M).2 ⟨hw, ht⟩) (by rw [htot M hw ht, ← g2, htot _ f1 f2])
  refine ⟨hl, M, hM, hw.1, f1.1, fun t h => (Dis.mem_whr hE h).2 ⟨M, ⟨hw, rfl⟩, ht⟩, fun t h hs => ?_⟩
  have hg := fun (K : List Nat) (hK : K.length = d.c.tide.length) s (h : s < d.c.tide.length) => zs_get (getD_at (l := K) (k := s) (by rw [hK]; exact h) 0)
  have h5 := lex_prefix hlex t _ _ (fun s h1 => by rw [hg M hw.1 s (by omega), hg _ f1.1 s (by omega), hs s h1]) (hg M hw.1 t h) (hg _ f1.1 t h)
  omega
theorem Dis.first_may {d : Dis} (hE : d.E = 0) (hl : (d.crs pAll).least < NV) {t : Nat} (ht : t < d.c.tide.length) : (d.crs pAll).first.getD t 0 < d.c.depth.length ∧ d.c.over ((d.crs pAll).first.getD t 0) t (d.c.thi t) ≥ d.dr := by
  obtain ⟨f1, f2⟩ := Dis.first_tru hE hl
  refine ⟨Dis.few_x f1 ht, ?_⟩
  exact of_decide_eq_true (f1.2.2 t ht)
end Go.Proofs.YtaloedccoadedaaDoor
