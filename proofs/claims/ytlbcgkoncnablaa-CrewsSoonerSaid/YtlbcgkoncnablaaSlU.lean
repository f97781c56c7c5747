/- A part of a proof: the symbolic walk and what it shows of single functions. -/
import Derived.Test.YtlbcgkoncnablaaK5
import Derived.Test.YtlbcgkoncnablaaSlM
set_option linter.all false
namespace Go.Proofs.Ytlbcgkoncnablaa
open Go.RowKit Go.SX
set_option maxRecDepth 10000
set_option maxHeartbeats 4000000
set_option linter.unusedSimpArgs false
set_option linter.unusedVariables false

/-! ### The first crew, plain -/

def lexL (l l' : List Int) : Prop := l = l' ∨ ∃ (p : Nat) (a b : Int), l.take p = l'.take p ∧ l[p]? = some a ∧ l'[p]? = some b ∧ a < b

def extP (ok : Nat → Nat → Bool) (n : Nat) (l : List Int) (q : Nat) : Prop := ∀ p, q ≤ p → p < l.length → ∃ i : Nat, l[p]? = some (i : Int) ∧ i < n ∧ ok p i = true ∧ (i : Int) ∉ l.take p

theorem take_next {l : List Int} {k : Nat} {x : Int} (h : l[k]? = some x) : l.take (k + 1) = l.take k ++ [x] := by
  rw [List.take_add_one, h]
  rfl

theorem fillG_some {ok : Nat → Nat → Bool} {n : Nat} : ∀ {r : Nat} {who l : List Int}, fillG ok n r who = some l → l.length = who.length + r ∧ l.take who.length = who ∧ extP ok n l who.length
  | 0, who, l, h => by
    rw [fillG] at h
    cases h
    exact ⟨rfl, List.take_of_length_le (Nat.le_refl _), fun p h1 h2 => by omega⟩
  | r + 1, who, l, h => by
    rw [fillG] at h
    obtain ⟨i, hi, hg⟩ := List.exists_of_findSome?_eq_some h
    split at hg
    · rename_i hc
      rw [Bool.and_eq_true, Bool.not_eq_true', decide_eq_false_iff_not] at hc
      obtain ⟨h1, h2, h3⟩ := fillG_some hg
      rw [List.length_append, List.length_singleton] at h1 h2 h3
      have hu : l[who.length]? = some (i : Int) := by
        have : (l.take (who.length + 1))[who.length]? = some (i : Int) := by rw [h2, List.getElem?_append_right (Nat.le_refl _), Nat.sub_self]; rfl
        rwa [List.getElem?_take, if_pos (by omega)] at this
      have ht : l.take who.length = who := by
        have := congrArg (List.take who.length) h2
        rwa [List.take_take, Nat.min_eq_left (by omega), List.take_left'] at this
        rfl
      refine ⟨by omega, ht, fun p hp1 hp2 => ?_⟩
      by_cases hpe : p = who.length
      · subst hpe
        exact ⟨i, hu, List.mem_range.1 hi, hc.1, by rw [ht]; exact hc.2⟩
      · exact h3 p (by omega) hp2
    · cases hg

theorem range_split {n a : Nat} {l1 l2 : List Nat} (h : List.range n = l1 ++ a :: l2) : a = l1.length ∧ ∀ x, x < a → x ∈ l1 := by
  have hlen : l1.length < n := by
    have := congrArg List.length h
    rw [List.length_range, List.length_append, List.length_cons] at this
    omega
  have hget : ∀ i, i < n → (l1 ++ a :: l2)[i]? = some i := fun i hi => by rw [← h]; exact List.getElem?_range hi
  have ha : a = l1.length := by
    have := hget l1.length hlen
    rw [List.getElem?_append_right (Nat.le_refl _), Nat.sub_self] at this
    simpa using this
  refine ⟨ha, fun x hx => ?_⟩
  have := hget x (by omega)
  rw [List.getElem?_append_left (by omega)] at this
  exact List.mem_of_getElem? this

theorem fillG_first {ok : Nat → Nat → Bool} {n : Nat} : ∀ (r : Nat) (who l' : List Int), l'.length = who.length + r → l'.take who.length = who → extP ok n l' who.length → ∃ l, fillG ok n r who = some l ∧ lexL l l'
  | 0, who, l', h1, h2, h3 => ⟨who, rfl, .inl (by rw [← h2, List.take_of_length_le (by omega)])⟩
  | r + 1, who, l', h1, h2, h3 => by
    obtain ⟨i', hu, hin, hok, hni⟩ := h3 who.length (Nat.le_refl _) (by omega)
    rw [h2] at hni
    have ht : l'.take (who ++ [(i' : Int)]).length = who ++ [(i' : Int)] := by
      rw [List.length_append, List.length_singleton, take_next hu, h2]
    obtain ⟨l1, hl1, hx1⟩ := fillG_first r (who ++ [(i' : Int)]) l' (by rw [List.length_append, List.length_singleton]; omega) ht (fun p hp1 hp2 => h3 p (by rw [List.length_append] at hp1; omega) hp2)
    have hG : (if ok who.length i' && !decide ((i' : Int) ∈ who) then fillG ok n r (who ++ [(i' : Int)]) else none) = some l1 := by
      rw [hok, decide_eq_false hni]
      exact hl1
    rw [fillG]
    cases hres : (List.range n).findSome? fun i => if ok who.length i && !decide ((i : Int) ∈ who) then fillG ok n r (who ++ [(i : Int)]) else none with
    | none =>
      rw [List.findSome?_eq_none_iff] at hres
      have := hres i' (List.mem_range.2 hin)
      rw [hG] at this
      cases this
    | some b =>
      refine ⟨b, rfl, ?_⟩
      obtain ⟨m1, a, m2, hm, hb, hnone⟩ := List.findSome?_eq_some_iff.1 hres
      obtain ⟨ha, hlt⟩ := range_split hm
      by_cases c1 : i' < a
      · have := hnone i' (hlt i' c1)
        rw [hG] at this
        cases this
      · by_cases c2 : a = i'
        · subst c2
          rw [hG] at hb
          cases hb
          exact hx1
        · split at hb
          · obtain ⟨k1, k2, k3⟩ := fillG_some hb
            rw [List.length_append, List.length_singleton] at k1 k2
            have hbu : b[who.length]? = some (a : Int) := by
              have : (b.take (who.length + 1))[who.length]? = some (a : Int) := by rw [k2, List.getElem?_append_right (Nat.le_refl _), Nat.sub_self]; rfl
              rwa [List.getElem?_take, if_pos (by omega)] at this
            have hbt : b.take who.length = who := by
              have := congrArg (List.take who.length) k2
              rwa [List.take_take, Nat.min_eq_left (by omega), List.take_left'] at this
              rfl
            exact .inr ⟨who.length, a, i', by rw [hbt, h2], hbu, hu, by omega⟩
          · cases hb

/-- A crew at a tick. -/
def crewP (s : Stn) (call len : Int) (seats : List Int) (j : Nat) (l : List Int) : Prop := l.length = seats.length ∧ extP (okS (atL s call len (call + (j : Int))) s.hands seats) s.hands.length l 0

theorem musG_none {s : Stn} {call len : Int} {seats : List Int} (h : musG s call len seats = none) : ∀ j, j ≤ 100 → ∀ l, ¬ crewP s call len seats j l := by
  intro j hj l hc
  unfold musG at h
  rw [List.findSome?_eq_none_iff] at h
  have := h j (List.mem_range.2 (by omega))
  obtain ⟨l1, h1, _⟩ := fillG_first seats.length [] l (by rw [hc.1]; simp) rfl hc.2
  rw [h1] at this
  cases this

theorem musG_some {s : Stn} {call len : Int} {seats : List Int} {j : Nat} {l : List Int} (h : musG s call len seats = some (j, l)) : j ≤ 100 ∧ crewP s call len seats j l ∧ (∀ j', j' < j → ∀ l', ¬ crewP s call len seats j' l') ∧ ∀ l', crewP s call len seats j l' → lexL l l' := by
  unfold musG at h
  obtain ⟨m1, a, m2, hm, hb, hnone⟩ := List.findSome?_eq_some_iff.1 h
  obtain ⟨ha, hlt⟩ := range_split hm
  have ha101 : a < 101 := by
    have : a ∈ List.range 101 := by rw [hm]; simp
    exact List.mem_range.1 this
  obtain ⟨l1, h1, h2⟩ := Option.map_eq_some_iff.1 hb
  cases h2
  obtain ⟨k1, k2, k3⟩ := fillG_some h1
  refine ⟨by omega, ⟨by rw [k1]; simp, k3⟩, fun j' hj' l' hc => ?_, fun l' hc => ?_⟩
  · have := hnone j' (hlt j' hj')
    obtain ⟨l2, h2, _⟩ := fillG_first seats.length [] l' (by rw [hc.1]; simp) rfl hc.2
    rw [h2] at this
    cases this
  · obtain ⟨l2, h2, h3⟩ := fillG_first seats.length [] l' (by rw [hc.1]; simp) rfl hc.2
    rw [h1] at h2
    cases h2
    exact h3

theorem musG_isSome {s : Stn} {call len : Int} {seats : List Int} {j : Nat} {l : List Int} (hj : j ≤ 100) (hc : crewP s call len seats j l) : ∃ j' l', musG s call len seats = some (j', l') ∧ j' ≤ j := by
  cases h : musG s call len seats with
  | none => exact absurd hc (musG_none h j hj l)
  | some q =>
    obtain ⟨j', l'⟩ := q
    refine ⟨j', l', rfl, ?_⟩
    have := (musG_some h).2.2.1
    exact Classical.byContradiction fun hn => this j (by omega) l hc

theorem can_at {s : Stn} {call len tick : Int} {i : Nat} {h : Hnd} (hh : s.hands[i]? = some h) (seats : List Int) (p : Nat) : okS (atL s call len tick) s.hands seats p i = (canB s call len tick h && hasB h.skills (seats.getD p 0)) := by
  unfold okS atL
  simp only [List.getD_eq_getElem?_getD, List.getElem?_map, hh, Option.map_some, Option.getD_some]

theorem crew_right {s : Stn} {call len : Int} (hok : s.okB = true) (hc : 0 ≤ call ∧ call ≤ 100) (hl : 1 ≤ len ∧ len ≤ 40) (seats : List Int) (j : Nat) (hj : j ≤ 100) (l : List Int) : crewP s call len seats j l ↔ rightP s call len (call + (j : Int)) seats l := by
  have hob := okB_of hok
  have key : ∀ (i : Nat) (h : Hnd) (p : Nat), s.hands[i]? = some h → (okS (atL s call len (call + (j : Int))) s.hands seats p i = true ↔ (h.ans = 1 ∧ bitS .and .i64 h.skills (seats.getD p 0) = seats.getD p 0 ∧ call + h.high ≤ call + j ∧ ¬ tiredP s h [(call + (j : Int), call + (j : Int) + len - 1)])) := fun i h p hh => by
    have hhb := handB_of (hob.2.2.2 h (List.mem_of_getElem? hh))
    rw [can_at hh]
    unfold canB hasB
    rw [tired_serv hob.2.1 hhb.2.2.2.2.1 (newOk_one ⟨by omega, by omega, by omega⟩), ← may_serv hob.2.1 hhb.2.2.2.2.1 (by omega) hl.1 (by omega)]
    simp only [Bool.and_eq_true, decide_eq_true_eq, Classical.not_not]
    constructor
    · rintro ⟨⟨⟨a1, a2⟩, a3⟩, a4⟩
      exact ⟨a1, a4, a2, a3⟩
    · rintro ⟨a1, a4, a2, a3⟩
      exact ⟨⟨⟨a1, a2⟩, a3⟩, a4⟩
  unfold crewP rightP extP
  constructor
  · rintro ⟨h1, h2⟩
    refine ⟨h1, fun p hp => ?_⟩
    obtain ⟨i, a1, a2, a3, a4⟩ := h2 p (Nat.zero_le _) hp
    have hh := List.getElem?_eq_getElem a2
    exact ⟨i, _, a1, hh, a4, (key i _ p hh).1 a3⟩
  · rintro ⟨h1, h2⟩
    refine ⟨h1, fun p _ hp => ?_⟩
    obtain ⟨i, h, a1, hh, a4, a3⟩ := h2 p hp
    exact ⟨i, a1, (List.getElem?_eq_some_iff.1 hh).1, (key i _ p hh).2 a3, a4⟩

end Go.Proofs.Ytlbcgkoncnablaa
