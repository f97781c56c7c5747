/- A part of a proof: the symbolic walk and what it shows of single functions. -/
import Derived.Test.YtlbcgkoncnablaaSkU
set_option linter.all false
namespace Go.Proofs.Ytlbcgkoncnablaa
open Go.RowKit Go.SX
set_option maxRecDepth 10000
set_option maxHeartbeats 4000000
set_option linter.unusedSimpArgs false
set_option linter.unusedVariables false

/-! ### Both know the same of each hand -/

def relP (x : Pr) (y : Int × Int) : Prop := (x.1 = true ∧ y = (x.2.2, x.2.1) ∧ x.2.1 ≠ -1000) ∨ (x = (false, 0, 0) ∧ y = (0, -1000))

theorem pgOk_ge {hands : Int} : ∀ {l : List Pg} {last : Int}, pgOk hands last l = true → ∀ p ∈ l, last ≤ p.1
  | [], _, _, p, hp => by cases hp
  | x :: l, last, h, p, hp => by
    simp only [pgOk, pgB, Bool.and_eq_true, decide_eq_true_eq] at h
    rcases List.mem_cons.1 hp with rfl | hp
    · exact h.1.2
    · exact Int.le_trans h.1.2 (pgOk_ge h.2 p hp)

theorem rp_skip (h tick : Int) : ∀ (l : List Pg) (y : Int × Int), (∀ p ∈ l, p.1 > tick) → l.foldl (rpStep h tick) y = y
  | [], _, _ => rfl
  | p :: r, y, hl => by
    rw [List.foldl_cons, show rpStep h tick y p = y from if_pos (.inr (hl p List.mem_cons_self))]
    exact rp_skip h tick r y fun q hq => hl q (List.mem_cons_of_mem _ hq)

theorem pg_step {hands : Int} {p : Pg} {s : List Pr} {h : Nat} {x : Pr} {y : Int × Int} {tick : Int} (hp : pgIn hands p) (hlo : -200 ≤ p.1) (ht : ¬ p.1 > tick) (hx : s[h]? = some x) (hr : relP x y) : ∃ x', (pgStep s p)[h]? = some x' ∧ relP x' (rpStep h tick y p) := by
  obtain ⟨pt, ph, pk⟩ := p
  obtain ⟨h1, h2, h3, h4⟩ := hp
  simp only at h1 h2 h3 h4 hlo ht
  obtain ⟨j, rfl⟩ : ∃ j : Nat, ph = j := ⟨ph.toNat, by omega⟩
  by_cases e : j = h
  · subst e
    have hjl : j < s.length := (List.getElem?_eq_some_iff.1 hx).1
    have q0 : rpStep j tick y (pt, (j : Int), pk) = if pk = 1 then (0, pt) else if y.2 = -1000 then y else if pk = 2 then (1, y.2) else (2, y.2) := if_neg (by simp only [ht]; simp)
    rw [q0]
    unfold pgStep
    by_cases c1 : pk = 1
    · rw [if_pos c1, if_pos c1]
      refine ⟨(true, pt, 0), ?_, .inl ⟨rfl, rfl, by show pt ≠ -1000; omega⟩⟩
      simp only [Int.toNat_natCast]
      rw [List.getElem?_set_self hjl]
    · rw [if_neg c1, if_neg c1]
      simp only [Int.toNat_natCast, hx]
      rcases hr with ⟨r1, rfl, r3⟩ | ⟨rfl, rfl⟩
      · rw [if_pos r1, if_neg r3]
        refine ⟨(x.1, x.2.1, pgAns pk), by rw [List.getElem?_set_self hjl], .inl ⟨r1, ?_, r3⟩⟩
        unfold pgAns
        split <;> rfl
      · rw [if_neg (by decide), if_pos rfl]
        exact ⟨_, hx, .inr ⟨rfl, rfl⟩⟩
  · rw [show rpStep h tick y (pt, (j : Int), pk) = y from if_pos (.inl (by show ((j : Int)) ≠ (h : Int); omega))]
    refine ⟨x, ?_, hr⟩
    unfold pgStep
    simp only [Int.toNat_natCast]
    split
    · rw [List.getElem?_set_ne e, hx]
    · split
      · split
        · rw [List.getElem?_set_ne e, hx]
        · exact hx
      · exact hx

theorem pg_rel {hands tick : Int} : ∀ (l : List Pg) (last : Int) (s : List Pr) (h : Nat) (x : Pr) (y : Int × Int), pgOk hands last l = true → s[h]? = some x → relP x y → ∃ x', (pgRun tick l s)[h]? = some x' ∧ relP x' (l.foldl (rpStep h tick) y)
  | [], _, s, h, x, y, _, hx, hr => ⟨x, hx, hr⟩
  | p :: r, last, s, h, x, y, hok, hx, hr => by
    have hin := pgOk_in hok p List.mem_cons_self
    have htk := pgOk_tick hok p List.mem_cons_self
    have hge := pgOk_ge hok
    rw [pgRun]
    by_cases c : p.1 > tick
    · rw [if_pos c, rp_skip]
      · exact ⟨x, hx, hr⟩
      · intro q hq
        rcases List.mem_cons.1 hq with rfl | hq
        · exact c
        · simp only [pgOk, pgB, Bool.and_eq_true] at hok
          have := pgOk_ge hok.2 q hq
          omega
    · rw [if_neg c, List.foldl_cons]
      obtain ⟨x', hx', hr'⟩ := pg_step (hands := hands) (tick := tick) hin htk.1 c hx hr
      simp only [pgOk, Bool.and_eq_true] at hok
      exact pg_rel r p.1 _ h x' _ hok.2 hx' hr'

theorem pg_all {hands tick : Int} {l : List Pg} (hok : pgOk hands (-200) l = true) (h : Nat) (hh : h < hands.toNat) : ∃ x, (pgRun tick l (pgNone hands))[h]? = some x ∧ relP x (rpV l h tick) :=
  pg_rel l (-200) _ h (false, 0, 0) _ hok (by rw [pgNone, List.getElem?_replicate, if_pos hh]) (.inr ⟨rfl, rfl⟩)

theorem relP_ans {x : Pr} {y : Int × Int} (h : relP x y) : x.2.2 = y.1 := by
  rcases h with ⟨_, rfl, _⟩ | ⟨rfl, rfl⟩ <;> rfl

theorem relP_ag {x : Pr} {y : Int × Int} (h : relP x y) (tick every : Int) : agB tick every x = raB tick every y := by
  unfold agB raB
  rcases h with ⟨h1, rfl, h3⟩ | ⟨rfl, rfl⟩
  · simp only [h1, Bool.not_true, Bool.false_or, h3, decide_false]
  · rfl

theorem ans_eq {hands tick : Int} {l : List Pg} (hok : pgOk hands (-200) l = true) : ansL hands tick l = rpA hands tick l := by
  refine List.ext_getElem? fun h => ?_
  unfold ansL rpA
  have hlen : (pgRun tick l (pgNone hands)).length = hands.toNat := by rw [pgRun_len]; exact List.length_replicate
  by_cases hh : h < hands.toNat
  · obtain ⟨x, hx, hr⟩ := pg_all (tick := tick) hok h hh
    rw [List.getElem?_map, List.getElem?_map, hx, List.getElem?_range hh]
    show some x.2.2 = some _
    rw [relP_ans hr]
  · rw [List.getElem?_eq_none (by rw [List.length_map, hlen]; omega), List.getElem?_eq_none (by rw [List.length_map, List.length_range]; omega)]

theorem agL_eq (tick every : Int) (f : Nat → Int × Int) : ∀ (s : List Pr) (i : Nat), (∀ j x, s[j]? = some x → agB tick every x = raB tick every (f (i + j))) → agL tick every s i = ((List.range s.length).filter fun h => raB tick every (f (i + h))).map fun (h : Nat) => ((i + h : Nat) : Int)
  | [], _, _ => rfl
  | x :: r, i, h => by
    have h0 := h 0 x rfl
    rw [Nat.add_zero] at h0
    rw [agL, agL_eq tick every f r (i + 1) (fun j y hy => by
      have := h (j + 1) y hy
      rw [this]
      congr 2
      omega), List.length_cons, List.range_succ_eq_map, List.filter_cons, h0]
    have e : ∀ (b : Bool), (List.map (fun (h : Nat) => ((i + h : Nat) : Int)) (if b = true then 0 :: List.filter (fun h => raB tick every (f (i + h))) (List.map Nat.succ (List.range r.length)) else List.filter (fun h => raB tick every (f (i + h))) (List.map Nat.succ (List.range r.length)))) =
        (if b = true then [((i : Nat) : Int)] else []) ++ List.map (fun (h : Nat) => ((i + h : Nat) : Int)) (List.filter (fun h => raB tick every (f (i + h))) (List.map Nat.succ (List.range r.length))) := by
      intro b
      cases b
      · rfl
      · simp
    rw [Nat.add_zero, e, List.filter_map, List.map_map]
    congr 1
    have e1 : (fun h => raB tick every (f (i + 1 + h))) = ((fun h => raB tick every (f (i + h))) ∘ Nat.succ) := by
      funext j
      show raB tick every (f (i + 1 + j)) = raB tick every (f (i + (j + 1)))
      congr 2
      omega
    have e2 : (fun (h : Nat) => ((i + 1 + h : Nat) : Int)) = ((fun (h : Nat) => ((i + h : Nat) : Int)) ∘ Nat.succ) := by
      funext j
      show ((i + 1 + j : Nat) : Int) = ((i + (j + 1) : Nat) : Int)
      omega
    rw [e1, e2]

theorem again_eq {hands tick every : Int} {l : List Pg} (hok : pgOk hands (-200) l = true) : agL tick every (pgRun tick l (pgNone hands)) 0 = raL tick every (fun h => rpV l h tick) hands.toNat := by
  have hlen : (pgRun tick l (pgNone hands)).length = hands.toNat := by rw [pgRun_len]; exact List.length_replicate
  rw [agL_eq tick every (fun h => rpV l h tick) _ 0 (fun j x hx => ?_), hlen]
  · unfold raL
    simp only [Nat.zero_add]
  · have hj : j < hands.toNat := by rw [← hlen]; exact (List.getElem?_eq_some_iff.1 hx).1
    obtain ⟨x', hx', hr⟩ := pg_all (tick := tick) hok j hj
    rw [hx] at hx'
    cases hx'
    rw [Nat.zero_add]
    exact relP_ag hr tick every

end Go.Proofs.Ytlbcgkoncnablaa
