/- Parts of a proof: the symbolic walk and what it shows of single functions. -/
import Derived.Test.YtgpglmcbopfddaaW2
import Derived.Test.YtgpglmcbopfddaaK5
import Derived.Test.YtgpglmcbopfddaaK3
set_option linter.all false
namespace Go.Proofs.Ytgpglmcbopfddaa
open Go.RowKit Go.SX
set_option maxRecDepth 10000
set_option maxHeartbeats 0
set_option linter.unusedSimpArgs false
set_option linter.unusedVariables false
theorem Fn.okd {P : Program} {f : Nat} {args : List Value} {w : World} {X : Nat → Prop} {Post : Value → List HO → Prop} (h : SX.Fn P f args w X Post) : SX.Fn P f args w X fun r N => Post r N ∧ ∃ w', ∀ g ∈ N, g.ok w' :=
  Calls.mono h fun _e w' ⟨v, N, a, b, c, d, e', p⟩ => ⟨v, N, a, b, c, d, e', p, w', c⟩
noncomputable def watE (s : Stn) (seats : List Int) (shifts : List Spn) : Int := if chkW s seats shifts = 0 then (match wat s seats shifts (mea seats shifts [] [] + 1) [] [] with | none => 3 | some _ => 0) else chkW s seats shifts
noncomputable def watR (s : Stn) (seats : List Int) (shifts : List Spn) : List (List Int) := if chkW s seats shifts = 0 then (wat s seats shifts (mea seats shifts [] [] + 1) [] []).getD [] else []
def RwN (a : Option Addr) (c : Nat) (ps : List Lm) (N : List HO) : Prop := ((a = none ∧ ps = []) ∨ HO.row (.slice a ps.length c) 25 1 (cat lmc ps) ∈ N) ∧ ∀ p ∈ ps, p = nilM ∨ HO.row (lmv p) 3 1 (ints p.1) ∈ N
theorem WatP.uni {s : Stn} {seats : List Int} {shifts : List Spn} {r : Value} {N : List HO} (h : WatP s seats shifts r N) (hw : ∃ w', ∀ g ∈ N, HO.ok w' g) : ∃ a c ps, r = .tuple #[.slice a ps.length c, I (watE s seats shifts)] ∧ ps.map Prod.fst = watR s seats shifts ∧ RwN a c ps N := by
  unfold watE watR RwN
  rcases h with ⟨h0, rfl⟩ | ⟨h0, ⟨h1, rfl⟩ | ⟨R, x, ps, h1, rfl, h2, h3, h4⟩⟩
  · rw [if_neg h0, if_neg h0]
    exact ⟨none, 0, [], rfl, rfl, .inl ⟨rfl, rfl⟩, fun p hp => by cases hp⟩
  · rw [if_pos h0, if_pos h0, h1]
    exact ⟨none, 0, [], rfl, rfl, .inl ⟨rfl, rfl⟩, fun p hp => by cases hp⟩
  · rw [if_pos h0, if_pos h0, h1]
    rcases h3 with ⟨rfl, rfl⟩ | h3
    · exact ⟨none, 0, [], rfl, h2, .inl ⟨rfl, rfl⟩, fun p hp => by cases hp⟩
    · obtain ⟨w', hw⟩ := hw
      have h5 : Sl w' x 1 (cat lmc ps) := RowOk.sl (hw _ h3)
      obtain ⟨a, n, c, rfl⟩ := h5.shape
      have hn := h5.le lmc_len (by omega)
      subst hn
      exact ⟨a, c, ps, rfl, h2, .inr h3, h4⟩
theorem RwN.rdv {a : Option Addr} {c : Nat} {ps : List Lm} {N H : List HO} {w0 : Base} (h : RwN a c ps N) (hm : ∀ g ∈ N, g ∈ H) (ha : a = none → ps = []) : Rdv w0 H (.slice a ps.length c) 1 (cat lmc ps) := by
  rcases h.1 with ⟨rfl, rfl⟩ | h
  · exact ⟨none, 0, c, rfl, rfl, fun i x hx => by simp [cat] at hx⟩
  · exact row_rdv (E := 25) (hm _ h) ⟨_, _, _, rfl, by rw [cat_len lmc_len], fun h => by rw [ha h]; rfl⟩
theorem RwN.nn {a : Option Addr} {c : Nat} {ps : List Lm} {N : List HO} (h : RwN a c ps N) (hw : ∃ w', ∀ g ∈ N, HO.ok w' g) : a = none → ps = [] := fun ha => by
  rcases h.1 with ⟨_, h⟩ | h
  · exact h
  · subst ha
    obtain ⟨w', hw⟩ := hw
    have h5 : Sl w' (.slice none ps.length c) 1 (cat lmc ps) := RowOk.sl (hw _ h)
    cases ps with
    | nil => rfl
    | cons p ps =>
      obtain ⟨ad, e⟩ := h5.addr (by rw [cat_len lmc_len]; simp)
      cases e
theorem RwN.sl {a : Option Addr} {c : Nat} {ps : List Lm} {N H : List HO} {w0 : Base} {w : World} (h : RwN a c ps N) (hm : ∀ g ∈ N, g ∈ H) (hp : Hp w0 H w) {p : Lm} (hp2 : p ∈ ps) : Sl w (lmv p) 1 (ints p.1) := by
  rcases h.2 p hp2 with rfl | h
  · exact Sl.nil _ _
  · exact row_hp (hm _ h) hp
end Go.Proofs.Ytgpglmcbopfddaa

namespace Go.Proofs.Ytgpglmcbopfddaa
open Go.RowKit Go.SX
set_option maxRecDepth 10000
set_option maxHeartbeats 0
set_option linter.unusedSimpArgs false
set_option linter.unusedVariables false
theorem com_nonneg (a b : Spn) : 0 ≤ com a b := by
  unfold com
  omega
theorem comL_sub (w : Spn) {l m : List Spn} (h : l.Sublist m) : comL w l ≤ comL w m := by
  induction h with
  | slnil => exact Int.le_refl _
  | cons a _ ih =>
    rw [comL_cons]
    have := com_nonneg w a
    omega
  | cons_cons a _ ih =>
    rw [comL_cons, comL_cons]
    omega
theorem servP_sub {s : Stn} {h : Hnd} {l m : List Spn} (hl : l.Sublist m) (hs : servP s h m) : servP s h l := fun x hx t h1 h2 => by
  have := hs x (hl.subset hx) t h1 h2
  have := comL_sub (t, t + s.window - 1) hl
  omega
def okPre (s : Stn) (seats row : List Int) : Prop := ∀ (j : Nat) (y : Int), row[j]? = some y → ∃ (h : Nat) (hd : Hnd), y = (h : Int) ∧ s.hands[h]? = some hd ∧ hasB hd.skills (seats.getD j 0) = true ∧ y ∉ row.take j
structure WtsP (s : Stn) (seats : List Int) (shifts : List Spn) (rows : List (List Int)) : Prop where
  len : rows.length = shifts.length
  rws : ∀ r ∈ rows, r.length = seats.length ∧ okPre s seats r
  rest : ∀ (k : Nat) (hd : Hnd), s.hands[k]? = some hd → servP s hd (hisN shifts rows k rows.length)
structure GooP (s : Stn) (seats : List Int) (shifts : List Spn) (rows : List (List Int)) (row : List Int) : Prop where
  rws : ∀ r ∈ rows, r.length = seats.length ∧ okPre s seats r
  cur : okPre s seats row
  rest : ∀ (k : Nat) (hd : Hnd), s.hands[k]? = some hd → servP s hd (hisR shifts rows row k)
theorem fitB_iff {s : Stn} {seats : List Int} {shifts : List Spn} {rows : List (List Int)} {row : List Int} {h : Nat} : fitB s seats shifts rows row h = true ↔ ∃ hd, s.hands[h]? = some hd ∧ (h : Int) ∉ row ∧ hasB hd.skills (seats.getD row.length 0) = true ∧ servP s hd (hisR shifts rows (row ++ [(h : Int)]) h) := by
  unfold fitB srvB hisR
  cases s.hands[h]? with
  | none => simp
  | some hd => simp [and_assoc]
theorem okPre.put {s : Stn} {seats row : List Int} (h : okPre s seats row) {k : Nat} {hd : Hnd} (h1 : s.hands[k]? = some hd) (h2 : (k : Int) ∉ row) (h3 : hasB hd.skills (seats.getD row.length 0) = true) : okPre s seats (row ++ [(k : Int)]) := fun j y hy => by
  by_cases hj : j < row.length
  · rw [List.getElem?_append_left hj] at hy
    rw [List.take_append_of_le_length (by omega)]
    exact h j y hy
  · have hj2 := (List.getElem?_eq_some_iff.1 hy).1
    rw [List.length_append, List.length_singleton] at hj2
    obtain rfl : j = row.length := by omega
    rw [List.getElem?_append_right (Nat.le_refl _), Nat.sub_self] at hy
    simp only [List.getElem?_cons_zero, Option.some.injEq] at hy
    subst hy
    exact ⟨k, hd, rfl, h1, h3, by rw [List.take_left]; exact h2⟩
theorem GooP.put {s : Stn} {seats : List Int} {shifts : List Spn} {rows : List (List Int)} {row : List Int} (h : GooP s seats shifts rows row) {k : Nat} (hf : fitB s seats shifts rows row k = true) : GooP s seats shifts rows (row ++ [(k : Int)]) := by
  obtain ⟨hd, h1, h2, h3, h4⟩ := fitB_iff.1 hf
  refine ⟨h.rws, h.cur.put h1 h2 h3, fun j hj hjh => ?_⟩
  by_cases e : j = k
  · subst e
    rw [h1] at hjh
    cases hjh
    exact h4
  · rw [hisR_other e]
    exact h.rest j hj hjh
theorem GooP.next {s : Stn} {seats : List Int} {shifts : List Spn} {rows : List (List Int)} {row : List Int} (h : GooP s seats shifts rows row) (hl : row.length = seats.length) : GooP s seats shifts (rows ++ [row]) [] := by
  refine ⟨fun r hr => ?_, fun j y hy => by simp at hy, fun k hd hk => by rw [hisR_next]; exact h.rest k hd hk⟩
  rcases List.mem_append.1 hr with hr | hr
  · exact h.rws r hr
  · rw [List.mem_singleton.1 hr]
    exact ⟨hl, h.cur⟩
theorem hisR_done {shifts : List Spn} {rows : List (List Int)} {k : Nat} : hisR shifts rows [] k = hisN shifts rows k rows.length := by
  unfold hisR
  rw [hisN_push, if_neg (by simp), List.append_nil]
theorem GooP.nil (s : Stn) (seats : List Int) (shifts : List Spn) : GooP s seats shifts [] [] := by
  refine ⟨fun r hr => (by cases hr), fun j y hy => (by simp at hy), fun k hd hk => ?_⟩
  rw [hisR_nil]
  intro x hx
  cases hx
structure StaP (seats : List Int) (shifts : List Spn) (rows : List (List Int)) (row : List Int) : Prop where
  rl : row.length ≤ seats.length
  len : rows.length ≤ shifts.length
  don : rows.length = shifts.length → row = []
theorem wat_good {s : Stn} {seats : List Int} {shifts : List Spn} : ∀ (f : Nat) (rows : List (List Int)) (row : List Int) (R : List (List Int)), wat s seats shifts f rows row = some R → StaP seats shifts rows row → GooP s seats shifts rows row → WtsP s seats shifts R
  | 0, _, _, _, h, _, _ => by cases h
  | f + 1, rows, row, R, h, h1, h2 => by
    have hl := h1.len
    have hr := h1.rl
    rw [wat] at h
    split at h
    · rename_i h3
      cases h
      refine ⟨h3, h2.rws, fun k hd hk => ?_⟩
      have := h2.rest k hd hk
      rw [h1.don h3, hisR_done] at this
      exact this
    · rename_i h3
      split at h
      · rename_i h4
        exact wat_good f _ _ R h ⟨Nat.zero_le _, by rw [List.length_append, List.length_singleton]; omega, fun _ => rfl⟩ (h2.next h4)
      · rename_i h4
        obtain ⟨x, hx, h5⟩ := List.exists_of_findSome?_eq_some h
        split at h5
        · rename_i h6
          exact wat_good f _ _ R h5 ⟨by rw [List.length_append, List.length_singleton]; omega, hl, fun h => absurd h h3⟩ (h2.put h6)
        · cases h5
structure ExtP (rows : List (List Int)) (row : List Int) (R : List (List Int)) : Prop where
  a : ∀ (i : Nat) r, rows[i]? = some r → R[i]? = some r
  b : ∀ (j : Nat) y, row[j]? = some y → ∃ r, R[rows.length]? = some r ∧ r[j]? = some y
theorem wat_ext {s : Stn} {seats : List Int} {shifts : List Spn} : ∀ (f : Nat) (rows : List (List Int)) (row : List Int) (R : List (List Int)), wat s seats shifts f rows row = some R → StaP seats shifts rows row → ExtP rows row R
  | 0, _, _, _, h, _ => by cases h
  | f + 1, rows, row, R, h, h1 => by
    have hl := h1.len
    have hr := h1.rl
    rw [wat] at h
    split at h
    · rename_i h3
      cases h
      exact ⟨fun i r hi => hi, fun j y hy => by rw [h1.don h3] at hy; simp at hy⟩
    · rename_i h3
      split at h
      · rename_i h4
        have h5 := wat_ext f _ _ R h ⟨Nat.zero_le _, by rw [List.length_append, List.length_singleton]; omega, fun _ => rfl⟩
        refine ⟨fun i r hi => h5.a i r (by rw [List.getElem?_append_left (List.getElem?_eq_some_iff.1 hi).1]; exact hi), fun j y hy => ⟨row, h5.a _ row ?_, hy⟩⟩
        rw [List.getElem?_append_right (Nat.le_refl _), Nat.sub_self]
        rfl
      · rename_i h4
        obtain ⟨x, hx, h5⟩ := List.exists_of_findSome?_eq_some h
        split at h5
        · have h6 := wat_ext f _ _ R h5 ⟨by rw [List.length_append, List.length_singleton]; omega, hl, fun h => absurd h h3⟩
          exact ⟨h6.a, fun j y hy => h6.b j y (by rw [List.getElem?_append_left (List.getElem?_eq_some_iff.1 hy).1]; exact hy)⟩
        · cases h5
def LeR (R X : List (List Int)) : Prop := R = X ∨ ∃ (i k : Nat) (r q : List Int) (a b : Int), (∀ i', i' < i → R[i']? = X[i']?) ∧ R[i]? = some r ∧ X[i]? = some q ∧ (∀ k', k' < k → r[k']? = q[k']?) ∧ r[k]? = some a ∧ q[k]? = some b ∧ a < b
theorem LeR.lt {R X : List (List Int)} (h : LeR R X) {i k : Nat} {r q : List Int} {a b : Int} (h1 : ∀ i', i' < i → R[i']? = X[i']?) (h2 : R[i]? = some r) (h3 : X[i]? = some q) (h4 : ∀ k', k' < k → r[k']? = q[k']?) (h5 : r[k]? = some a) (h6 : q[k]? = some b) (h7 : a ≠ b) : a < b := by
  rcases h with rfl | ⟨i2, k2, r2, q2, a2, b2, g1, g2, g3, g4, g5, g6, g7⟩
  · rw [h2] at h3
    cases h3
    rw [h5] at h6
    cases h6
    exact absurd rfl h7
  rcases Nat.lt_trichotomy i i2 with hi | rfl | hi
  · have := g1 i hi
    rw [h2, h3] at this
    cases this
    rw [h5] at h6
    cases h6
    exact absurd rfl h7
  · rw [h2] at g2
    cases g2
    rw [h3] at g3
    cases g3
    rcases Nat.lt_trichotomy k k2 with hk | rfl | hk
    · have := g4 k hk
      rw [h5, h6] at this
      cases this
      exact absurd rfl h7
    · rw [h5] at g5
      cases g5
      rw [h6] at g6
      cases g6
      exact g7
    · have := h4 k2 hk
      rw [g5, g6] at this
      cases this
      omega
  · have := h1 i2 hi
    rw [g2, g3] at this
    cases this
    rw [g5] at g6
    cases g6
    omega
theorem findSome_least {β : Type} {n h0 : Nat} {g : Nat → Option β} (hn : h0 < n) (hg : (g h0).isSome) : ∀ (d k : Nat), k + d = h0 → ∃ h R, k ≤ h ∧ h ≤ h0 ∧ g h = some R ∧ ((List.range n).drop k).findSome? g = some R
  | 0, k, e => by
    obtain rfl : k = h0 := by omega
    obtain ⟨R, hR⟩ := Option.isSome_iff_exists.1 hg
    exact ⟨k, R, Nat.le_refl _, Nat.le_refl _, hR, findSome_hit (List.getElem?_range hn) hR⟩
  | d + 1, k, e => by
    have hk : (List.range n)[k]? = some k := List.getElem?_range (by omega)
    cases hq : g k with
    | some R => exact ⟨k, R, Nat.le_refl _, by omega, hq, findSome_hit hk hq⟩
    | none =>
      obtain ⟨h, R, h1, h2, h3, h4⟩ := findSome_least hn hg d (k + 1) (by omega)
      exact ⟨h, R, by omega, h2, h3, by rw [findSome_drop hk hq]; exact h4⟩
theorem hisN_mono {shifts : List Spn} {rows : List (List Int)} {k : Int} {m : Nat} : ∀ {n}, m ≤ n → (hisN shifts rows k m).Sublist (hisN shifts rows k n)
  | 0, h => by
    obtain rfl : m = 0 := by omega
    exact List.Sublist.refl _
  | n + 1, h => by
    by_cases e : m = n + 1
    · subst e
      exact List.Sublist.refl _
    · rw [hisN]
      exact (hisN_mono (by omega)).trans (List.sublist_append_left _ _)
theorem ExtP.split {rows : List (List Int)} {row : List Int} {X : List (List Int)} (h : ExtP rows row X) : X = rows ++ X.drop rows.length := by
  apply List.ext_getElem?
  intro i
  by_cases hi : i < rows.length
  · rw [List.getElem?_append_left hi, List.getElem?_eq_getElem hi]
    exact h.a i _ (List.getElem?_eq_getElem hi)
  · rw [List.getElem?_append_right (by omega), List.getElem?_drop, show rows.length + (i - rows.length) = i by omega]
theorem wat_least {s : Stn} {seats : List Int} {shifts : List Spn} {X : List (List Int)} (hX : WtsP s seats shifts X) : ∀ (f : Nat) (rows : List (List Int)) (row : List Int), ExtP rows row X → StaP seats shifts rows row → mea seats shifts rows row < f → ∃ R, wat s seats shifts f rows row = some R ∧ LeR R X
  | 0, _, _, _, _, h => by omega
  | f + 1, rows, row, hE, hS, hf => by
    have hl := hS.len
    have hr := hS.rl
    have hXl := hX.len
    by_cases h3 : rows.length = shifts.length
    · refine ⟨rows, by rw [wat, if_pos h3], .inl ?_⟩
      rw [hE.split, List.drop_of_length_le (by omega), List.append_nil]
    obtain ⟨q, hq⟩ : ∃ q, X[rows.length]? = some q := ⟨_, List.getElem?_eq_getElem (by omega)⟩
    obtain ⟨hqS, hqo⟩ := hX.rws q (List.mem_of_getElem? hq)
    have hqr : ∀ (j : Nat) y, row[j]? = some y → q[j]? = some y := fun j y hy => by
      obtain ⟨r, h1, h2⟩ := hE.b j y hy
      rw [hq] at h1
      cases h1
      exact h2
    by_cases h4 : row.length = seats.length
    · have hqe : q = row := by
        apply List.ext_getElem?
        intro j
        by_cases hj : j < row.length
        · rw [List.getElem?_eq_getElem hj]
          exact hqr j _ (List.getElem?_eq_getElem hj)
        · rw [List.getElem?_eq_none (by omega), List.getElem?_eq_none (by omega)]
      subst hqe
      have hmn := mea_next (seats := seats) (shifts := shifts) (rows := rows) h4 (by omega)
      obtain ⟨R, hR, hLe⟩ := wat_least hX f (rows ++ [q]) [] ⟨fun i r hi => by
        by_cases hi2 : i < rows.length
        · rw [List.getElem?_append_left hi2] at hi
          exact hE.a i r hi
        · have hi3 := (List.getElem?_eq_some_iff.1 hi).1
          rw [List.length_append, List.length_singleton] at hi3
          obtain rfl : i = rows.length := by omega
          rw [List.getElem?_append_right (Nat.le_refl _), Nat.sub_self] at hi
          cases hi
          exact hq, fun j y hy => by simp at hy⟩ ⟨Nat.zero_le _, by rw [List.length_append, List.length_singleton]; omega, fun _ => rfl⟩ (by omega)
      exact ⟨R, by rw [wat, if_neg h3, if_pos h4]; exact hR, hLe⟩
    obtain ⟨y, hy⟩ : ∃ y, q[row.length]? = some y := ⟨_, List.getElem?_eq_getElem (by omega)⟩
    have hqt : q.take row.length = row := by
      apply List.ext_getElem?
      intro j
      by_cases hj : j < row.length
      · rw [List.getElem?_take_of_lt hj, List.getElem?_eq_getElem hj]
        exact hqr j _ (List.getElem?_eq_getElem hj)
      · rw [List.getElem?_eq_none (by rw [List.length_take]; omega), List.getElem?_eq_none (by omega)]
    obtain ⟨h0, hd, rfl, hh0, hsk, hnr⟩ := hqo row.length y hy
    rw [hqt] at hnr
    have hXs := hE.split
    have hqd : X.getD rows.length [] = q := by rw [List.getD_eq_getElem?_getD, hq]; rfl
    have hsub : (hisR shifts rows (row ++ [(h0 : Int)]) h0).Sublist (hisN shifts X h0 X.length) := by
      rw [hisR_put hnr]
      have h5 : hisN shifts X h0 (rows.length + 1) = hisN shifts rows h0 rows.length ++ [shifts.getD rows.length (0, 0)] := by
        rw [hisN, hqd, if_pos (List.mem_of_getElem? hy)]
        rw [hXs, hisN_left (Nat.le_refl _)]
      have h6 : hisR shifts rows row h0 = hisN shifts rows h0 rows.length := by
        unfold hisR
        rw [hisN_push, if_neg hnr, List.append_nil]
      rw [h6, ← h5]
      exact hisN_mono (by omega)
    have hfit : fitB s seats shifts rows row h0 = true := fitB_iff.2 ⟨hd, hh0, hnr, hsk, servP_sub hsub (hX.rest h0 hd hh0)⟩
    have hmp := mea_push (seats := seats) (shifts := shifts) (rows := rows) (row := row) (x := (h0 : Int)) (by omega)
    obtain ⟨R0, hR0, hLe0⟩ := wat_least hX f rows (row ++ [(h0 : Int)]) ⟨hE.a, fun j z hz => by
      by_cases hj : j < row.length
      · rw [List.getElem?_append_left hj] at hz
        exact hE.b j z hz
      · have hj3 := (List.getElem?_eq_some_iff.1 hz).1
        rw [List.length_append, List.length_singleton] at hj3
        obtain rfl : j = row.length := by omega
        rw [List.getElem?_append_right (Nat.le_refl _), Nat.sub_self] at hz
        cases hz
        exact ⟨q, hq, hy⟩⟩ ⟨by rw [List.length_append, List.length_singleton]; omega, hl, fun h => absurd h h3⟩ (by omega)
    obtain ⟨G, hG⟩ : ∃ G : Nat → Option (List (List Int)), (fun h : Nat => if fitB s seats shifts rows row h then wat s seats shifts f rows (row ++ [(h : Int)]) else none) = G := ⟨_, rfl⟩
    have hGe : ∀ i : Nat, G i = if fitB s seats shifts rows row i then wat s seats shifts f rows (row ++ [(i : Int)]) else none := fun i => by rw [← hG]
    have hg0 : G h0 = some R0 := by rw [hGe, hfit, if_pos rfl]; exact hR0
    have hh0l := (List.getElem?_eq_some_iff.1 hh0).1
    obtain ⟨h, R, _, hle, hgh, hfs⟩ := findSome_least (g := G) hh0l (by rw [hg0]; rfl) h0 0 (Nat.zero_add _)
    refine ⟨R, by rw [wat, if_neg h3, if_neg h4, hG]; exact hfs, ?_⟩
    by_cases e : h = h0
    · subst e
      rw [hg0] at hgh
      cases hgh
      exact hLe0
    rw [hGe] at hgh
    split at hgh
    case isFalse => cases hgh
    have hEx := wat_ext f rows _ R hgh ⟨by rw [List.length_append, List.length_singleton]; omega, hl, fun h => absurd h h3⟩
    obtain ⟨r, hr1, hr2⟩ := hEx.b row.length (h : Int) (by rw [List.getElem?_append_right (Nat.le_refl _), Nat.sub_self]; rfl)
    refine .inr ⟨rows.length, row.length, r, q, (h : Int), (h0 : Int), fun i' hi' => ?_, hr1, hq, fun k' hk' => ?_, hr2, hy, by omega⟩
    · rw [hEx.a i' _ (List.getElem?_eq_getElem hi'), hE.a i' _ (List.getElem?_eq_getElem hi')]
    · obtain ⟨r2, g1, g2⟩ := hEx.b k' _ (by rw [List.getElem?_append_left hk']; exact List.getElem?_eq_getElem hk')
      rw [hr1] at g1
      cases g1
      rw [g2, hqr k' _ (List.getElem?_eq_getElem hk')]
end Go.Proofs.Ytgpglmcbopfddaa

namespace Go.Proofs.Ytgpglmcbopfddaa
open Go.RowKit Go.SX
set_option maxRecDepth 10000
set_option maxHeartbeats 0
set_option linter.unusedSimpArgs false
set_option linter.unusedVariables false
def pl23_6 : Plan := (ones [0, 1, 2, 3, 4, 5, 6, 7, 8] .fin)
def pl23_11 : Plan := (ones [0, 1, 2, 3, 4, 5, 6, 7, 8, 9, 10, 11, 12, 13, 14, 15, 16, 17, 18, 19, 20, 21, 22, 23, 24, 25, 26, 27, 28, 29, 30, 31, 32, 33, 34, 35] .fin)
def pl23_16 : Plan := (ones [0, 1, 2, 3, 4, 5, 6, 7, 8, 9, 10, 11, 12, 13, 14] .fin)
def pl23 : List (Nat × Plan) := [(6, pl23_6), (11, pl23_11), (16, pl23_16)]
theorem pl23_lk : (lkO 6 pl23 = some pl23_6) ∧ (lkO 11 pl23 = some pl23_11) ∧ (lkO 16 pl23 = some pl23_16) := ⟨rfl, rfl, rfl⟩
open Classical in
theorem seatedW_fn (w : World) (v : Value) (s : Stn) (hs : StOk w v s) (hok : s.okB = true) (vt : Value) (seats : List Int) (hvt : Sl w vt 1 (ints seats)) (hsL : seats.length ≤ 20) (vs : Value) (shifts : List Spn) (hvs : Sl w vs 2 (cat spc shifts)) (hsS : shifts.length ≤ 20) (hsp : shB (-1) shifts = true) (ax : Option Addr) (nx cx : Nat) (vr : Value) (rows : List (List Int)) (hr : LlOk w vr rows) :
    SX.Fn Try.prog 23 [v, .agg #[vt, vs, .slice ax nx cx], vr] w (fun _ => False) fun r N => r = .bool (decide (WtsP s seats shifts rows)) := by
  have hob := okB_of hok
  have dn : (∀ xs, detB 44 xs = none) := fun _ => rfl
  have hti := fun (k : Nat) (h : Hnd) (hk : s.hands[k]? = some h) (H : List HO) w' (hp : Hp ⟨w, fun _ => False⟩ H w') (vl : Value) (l : List Spn) (hl : Sl w' vl 2 (cat spc l)) (hlb : spanB l ∧ l.length ≤ 1000) => tired_fn w' v s (hs.hp hp) (by omega) hob.2.1 k h hk (by have := (logB_span (handB_of (hob.2.2.2 h (List.mem_of_getElem? hk))).2.2.2.2.1).2; omega) vl l hl hlb
  obtain ⟨hv, psh, rfl, hpsh, hslh, hlgh⟩ := hs
  obtain ⟨aH, nH, cH, rfl⟩ := hslh.shape
  have hlh : psh.length = s.hands.length := by rw [← hpsh, List.length_map]
  have hnH := hslh.le hdc_len (by omega)
  subst hnH
  obtain ⟨aT, nT, cT, rfl⟩ := hvt.shape
  have hnT := hvt.le i1_len (by omega)
  subst hnT
  obtain ⟨aS, nS, cS, rfl⟩ := hvs.shape
  have hnS := hvs.le spc_len (by omega)
  subst hnS
  obtain ⟨ps, hps, hsl, hro⟩ := hr
  have hpl : ps.length = rows.length := by rw [← hps, List.length_map]
  obtain ⟨aR, nR, cR, rfl⟩ := hsl.shape
  have hnR := hsl.le lmc_len (by omega)
  subst hnR
  have hrH := hslh.rd0
  have hrT := hvt.rd0
  have hrS := hvs.rd0
  have hrR := hsl.rd0
  obtain ⟨B, hB⟩ : ∃ B : Bool, decide (WtsP s seats shifts rows) = B := ⟨_, rfl⟩
  have hno : ¬ WtsP s seats shifts rows → B = false := fun h => by rw [← hB]; exact decide_eq_false h
  rw [hB]
  have eW : wr ((psh.length : Int) - 1) = (psh.length : Int) - 1 := wrap_id (by omega)
  refine walk [] pl23 (detB_ok _ _) Try.func23 rfl Try.ntmps23 res23 (by kernel_rfl) no_facts ?_
  by_cases h1 : ps.length = shifts.length
  case neg =>
    have e1 : ((ps.length : Int) = (shifts.length : Int)) = False := eq_false (by omega)
    rw [hno fun h => h1 (by rw [hpl]; exact h.len)]
    simp (config := { maxSteps := 4000000 }) only [↓sx0, ↓sx1, ↓sx2, ↓sx3, ↓sx4, ↓sx5, ↓sx6, sx0, sx1, sx2, sx3, sx4, sx5, sx6, tf23, ev3_hold, sxo, sxc, sxp, sxq, sxr, sxs, sxl, sxm, simprocAttr, e1, dn]
    try rfl
  have e1 : ((ps.length : Int) = (shifts.length : Int)) = True := eq_true (by omega)
  simp (config := { maxSteps := 4000000 }) only [↓sx0, ↓sx1, ↓sx2, ↓sx3, ↓sx4, ↓sx5, ↓sx6, sx0, sx1, sx2, sx3, sx4, sx5, sx6, tf23, ev3_hold, sxo, sxc, sxp, sxq, sxr, sxs, sxl, sxm, simprocAttr, e1, dn]
  refine loop_constH [] (HImp.nil _ _) [(6, 9), (20, 99)] (fun i : Nat => [(7, I i)]) (fun i H1 => i ≤ ps.length ∧ H1 = [] ∧ ∀ i', i' < i → ∀ r, rows[i']? = some r → r.length = seats.length ∧ okPre s seats r) (fun i => ps.length - i) 0 ?_ ⟨Nat.zero_le _, rfl, fun i' h => by omega⟩ ?_
  · simp (config := { maxSteps := 4000000 }) only [↓sx0, ↓sx1, ↓sx2, ↓sx3, ↓sx4, ↓sx5, ↓sx6, sx0, sx1, sx2, sx3, sx4, sx5, sx6, tf23, ev3_hold, sxo, sxc, sxp, sxq, sxr, sxs, sxl, sxm, simprocAttr]
    try simp
  rintro i H1 g1 ⟨hi, rfl, hall⟩
  by_cases hin : i = ps.length
  case neg =>
    have e7 : ((i : Int) < (ps.length : Int)) = True := eq_true (by omega)
    have e8 : wr (i + 1) = ((i + 1 : Nat) : Int) := (wrap_id (by omega)).trans (by omega)
    obtain ⟨p, hp⟩ : ∃ p, ps[i]? = some p := ⟨_, List.getElem?_eq_getElem (by omega)⟩
    have hpr : rows[i]? = some p.1 := by rw [← hps, List.getElem?_map, hp]; rfl
    have hrow := hro p (List.mem_of_getElem? hp)
    obtain ⟨r, ar, cr⟩ := p
    have hrow' : Sl w (.slice ar r.length cr) 1 (ints r) := hrow
    have hrr := hrow'.rd0
    simp only [] at hpr
    by_cases h2 : r.length = seats.length
    case neg =>
      have e2 : ((r.length : Int) = (seats.length : Int)) = False := eq_false (by omega)
      rw [hno fun h => h2 (h.rws r (List.mem_of_getElem? hpr)).1]
      refine ⟨?_⟩
      simp (config := { maxSteps := 4000000 }) only [↓sx0, ↓sx1, ↓sx2, ↓sx3, ↓sx4, ↓sx5, ↓sx6, sx0, sx1, sx2, sx3, sx4, sx5, sx6, tf23, ev3_hold, sxo, sxc, sxp, sxq, sxr, sxs, sxl, sxm, simprocAttr, e7, dn, pl23_lk, pl23_6]
      first | refine amid (at_1 (hrR _) lmc_len hp rfl fun ad1 => ?_) | refine at_1 (hrR _) lmc_len hp rfl fun ad1 => ?_
      unfold lmv
      simp (config := { maxSteps := 4000000 }) only [↓sx0, ↓sx1, ↓sx2, ↓sx3, ↓sx4, ↓sx5, ↓sx6, sx0, sx1, sx2, sx3, sx4, sx5, sx6, tf23, ev3_hold, sxo, sxc, sxp, sxq, sxr, sxs, sxl, sxm, simprocAttr, e2, dn]
      try rfl
    have e2 : ((r.length : Int) = (seats.length : Int)) = True := eq_true (by omega)
    refine ⟨?_⟩
    simp (config := { maxSteps := 4000000 }) only [↓sx0, ↓sx1, ↓sx2, ↓sx3, ↓sx4, ↓sx5, ↓sx6, sx0, sx1, sx2, sx3, sx4, sx5, sx6, tf23, ev3_hold, sxo, sxc, sxp, sxq, sxr, sxs, sxl, sxm, simprocAttr, e7, dn, pl23_lk, pl23_6]
    first | refine amid (at_1 (hrR _) lmc_len hp rfl fun ad1 => ?_) | refine at_1 (hrR _) lmc_len hp rfl fun ad1 => ?_
    unfold lmv
    simp (config := { maxSteps := 4000000 }) only [↓sx0, ↓sx1, ↓sx2, ↓sx3, ↓sx4, ↓sx5, ↓sx6, sx0, sx1, sx2, sx3, sx4, sx5, sx6, tf23, ev3_hold, sxo, sxc, sxp, sxq, sxr, sxs, sxl, sxm, simprocAttr, e2, dn]
    refine loop_constH [] (HImp.nil _ _) [(6, 6), (8, 9), (35, 99)] (fun k : Nat => [(8, I k)]) (fun k H1 => k ≤ r.length ∧ H1 = [] ∧ okPre s seats (r.take k)) (fun k => r.length - k) 0 ?_ ⟨Nat.zero_le _, rfl, fun j y h => by simp at h⟩ ?_
    · simp (config := { maxSteps := 4000000 }) only [↓sx0, ↓sx1, ↓sx2, ↓sx3, ↓sx4, ↓sx5, ↓sx6, sx0, sx1, sx2, sx3, sx4, sx5, sx6, tf23, ev3_hold, sxo, sxc, sxp, sxq, sxr, sxs, sxl, sxm, simprocAttr]
      try simp
    rintro k H1 g2 ⟨hk, rfl, hpre⟩
    by_cases hkn : k = r.length
    · have f7 : ((k : Int) < (r.length : Int)) = False := eq_false (by omega)
      rw [hkn, List.take_length] at hpre
      refine ⟨?_⟩
      simp (config := { maxSteps := 4000000 }) only [↓sx0, ↓sx1, ↓sx2, ↓sx3, ↓sx4, ↓sx5, ↓sx6, sx0, sx1, sx2, sx3, sx4, sx5, sx6, tf23, ev3_hold, sxo, sxc, sxp, sxq, sxr, sxs, sxl, sxm, simprocAttr, e7, dn]
      first | refine amid (at_1 (hrR _) lmc_len hp rfl fun ad1 => ?_) | refine at_1 (hrR _) lmc_len hp rfl fun ad1 => ?_
      unfold lmv
      simp (config := { maxSteps := 4000000 }) only [↓sx0, ↓sx1, ↓sx2, ↓sx3, ↓sx4, ↓sx5, ↓sx6, sx0, sx1, sx2, sx3, sx4, sx5, sx6, tf23, ev3_hold, sxo, sxc, sxp, sxq, sxr, sxs, sxl, sxm, simprocAttr, e8, f7, dn]
      exact ⟨i + 1, _, rfl, HImp.refl _ _, ⟨by omega, rfl, fun i' hi' r' hr' => by
        by_cases e : i' = i
        · subst e
          rw [hpr] at hr'
          cases hr'
          exact ⟨h2, hpre⟩
        · exact hall i' (by omega) r' hr'⟩, by omega⟩
    have f7 : ((k : Int) < (r.length : Int)) = True := eq_true (by omega)
    have f8 : wr (k + 1) = ((k + 1 : Nat) : Int) := (wrap_id (by omega)).trans (by omega)
    obtain ⟨y, hy⟩ : ∃ y, r[k]? = some y := ⟨_, List.getElem?_eq_getElem (by omega)⟩
    have hus : seats[k]? = some (seats.getD k 0) := getD_at (by omega) 0
    have eT : ((k : Int) < (seats.length : Int)) = True := eq_true (by omega)
    obtain ⟨st, hst⟩ : ∃ st, seats.getD k 0 = st := ⟨_, rfl⟩
    have hwy := fun (h : WtsP s seats shifts rows) => (h.rws r (List.mem_of_getElem? hpr)).2 k y hy
    rw [hst] at hus hwy
    cases hyI : inB y 0 ((psh.length : Int) - 1) with
    | false =>
      rw [hno fun h => by
        obtain ⟨h', hd, rfl, g1, _⟩ := hwy h
        have := (List.getElem?_eq_some_iff.1 g1).1
        rw [(inB_iff _ _ _).2 (by omega)] at hyI
        cases hyI]
      refine ⟨?_⟩
      simp (config := { maxSteps := 4000000 }) only [↓sx0, ↓sx1, ↓sx2, ↓sx3, ↓sx4, ↓sx5, ↓sx6, sx0, sx1, sx2, sx3, sx4, sx5, sx6, tf23, ev3_hold, sxo, sxc, sxp, sxq, sxr, sxs, sxl, sxm, simprocAttr, e7, dn]
      first | refine amid (at_1 (hrR _) lmc_len hp rfl fun ad1 => ?_) | refine at_1 (hrR _) lmc_len hp rfl fun ad1 => ?_
      unfold lmv
      simp (config := { maxSteps := 4000000 }) only [↓sx0, ↓sx1, ↓sx2, ↓sx3, ↓sx4, ↓sx5, ↓sx6, sx0, sx1, sx2, sx3, sx4, sx5, sx6, tf23, ev3_hold, sxo, sxc, sxp, sxq, sxr, sxs, sxl, sxm, simprocAttr, e7, f7, dn, pl23_lk, pl23_11]
      first | refine amid (at_1 (hrR _) lmc_len hp rfl fun ad1 => ?_) | refine at_1 (hrR _) lmc_len hp rfl fun ad1 => ?_
      unfold lmv
      simp (config := { maxSteps := 4000000 }) only [↓sx0, ↓sx1, ↓sx2, ↓sx3, ↓sx4, ↓sx5, ↓sx6, sx0, sx1, sx2, sx3, sx4, sx5, sx6, tf23, ev3_hold, sxo, sxc, sxp, sxq, sxr, sxs, sxl, sxm, simprocAttr, e7, f7, dn]
      first | refine amid (at_1 (hrr _) i1_len hy rfl fun ad1 => ?_) | refine at_1 (hrr _) i1_len hy rfl fun ad1 => ?_
      simp (config := { maxSteps := 4000000 }) only [↓sx0, ↓sx1, ↓sx2, ↓sx3, ↓sx4, ↓sx5, ↓sx6, sx0, sx1, sx2, sx3, sx4, sx5, sx6, tf23, ev3_hold, sxo, sxc, sxp, sxq, sxr, sxs, sxl, sxm, simprocAttr, detB_eq, eW, hyI, dn]
      try rfl
    | true =>
    have hyr := (inB_iff _ _ _).1 hyI
    obtain ⟨h0, rfl⟩ : ∃ h0 : Nat, y = (h0 : Int) := ⟨y.toNat, by omega⟩
    have hh0 : h0 < psh.length := by omega
    have hu := List.getElem?_eq_getElem hh0
    have hhk : s.hands[h0]? = some (psh[h0]).1 := by rw [← hpsh, List.getElem?_map, hu]; rfl
    generalize psh[h0] = p2 at hu hhk
    have eH : ((h0 : Int) < (psh.length : Int)) = True := eq_true (by omega)
    by_cases hb : bitS .and .i64 p2.1.skills st = st
    case neg =>
      have qb : (bitS .and .i64 p2.1.skills st = st) = False := eq_false hb
      rw [hno fun h => by
        obtain ⟨h', hd, g0, g1, g2, _⟩ := hwy h
        obtain rfl : h0 = h' := by omega
        rw [hhk] at g1
        cases g1
        unfold hasB at g2
        exact hb (of_decide_eq_true g2)]
      refine ⟨?_⟩
      simp (config := { maxSteps := 4000000 }) only [↓sx0, ↓sx1, ↓sx2, ↓sx3, ↓sx4, ↓sx5, ↓sx6, sx0, sx1, sx2, sx3, sx4, sx5, sx6, tf23, ev3_hold, sxo, sxc, sxp, sxq, sxr, sxs, sxl, sxm, simprocAttr, e7, dn]
      first | refine amid (at_1 (hrR _) lmc_len hp rfl fun ad1 => ?_) | refine at_1 (hrR _) lmc_len hp rfl fun ad1 => ?_
      unfold lmv
      simp (config := { maxSteps := 4000000 }) only [↓sx0, ↓sx1, ↓sx2, ↓sx3, ↓sx4, ↓sx5, ↓sx6, sx0, sx1, sx2, sx3, sx4, sx5, sx6, tf23, ev3_hold, sxo, sxc, sxp, sxq, sxr, sxs, sxl, sxm, simprocAttr, e7, f7, dn, pl23_lk, pl23_11]
      first | refine amid (at_1 (hrR _) lmc_len hp rfl fun ad1 => ?_) | refine at_1 (hrR _) lmc_len hp rfl fun ad1 => ?_
      unfold lmv
      simp (config := { maxSteps := 4000000 }) only [↓sx0, ↓sx1, ↓sx2, ↓sx3, ↓sx4, ↓sx5, ↓sx6, sx0, sx1, sx2, sx3, sx4, sx5, sx6, tf23, ev3_hold, sxo, sxc, sxp, sxq, sxr, sxs, sxl, sxm, simprocAttr, e7, f7, dn]
      first | refine amid (at_1 (hrr _) i1_len hy rfl fun ad2 => ?_) | refine at_1 (hrr _) i1_len hy rfl fun ad2 => ?_
      simp (config := { maxSteps := 4000000 }) only [↓sx0, ↓sx1, ↓sx2, ↓sx3, ↓sx4, ↓sx5, ↓sx6, sx0, sx1, sx2, sx3, sx4, sx5, sx6, tf23, ev3_hold, sxo, sxc, sxp, sxq, sxr, sxs, sxl, sxm, simprocAttr, detB_eq, eW, hyI, e7, dn]
      first | refine amid (at_1 (hrR _) lmc_len hp rfl fun ad1 => ?_) | refine at_1 (hrR _) lmc_len hp rfl fun ad1 => ?_
      unfold lmv
      simp (config := { maxSteps := 4000000 }) only [↓sx0, ↓sx1, ↓sx2, ↓sx3, ↓sx4, ↓sx5, ↓sx6, sx0, sx1, sx2, sx3, sx4, sx5, sx6, tf23, ev3_hold, sxo, sxc, sxp, sxq, sxr, sxs, sxl, sxm, simprocAttr, e7, f7, dn]
      first | refine amid (at_1 (hrr _) i1_len hy rfl fun ad2 => ?_) | refine at_1 (hrr _) i1_len hy rfl fun ad2 => ?_
      simp (config := { maxSteps := 4000000 }) only [↓sx0, ↓sx1, ↓sx2, ↓sx3, ↓sx4, ↓sx5, ↓sx6, sx0, sx1, sx2, sx3, sx4, sx5, sx6, tf23, ev3_hold, sxo, sxc, sxp, sxq, sxr, sxs, sxl, sxm, simprocAttr, eH, dn]
      first | refine amid (at_f (hrH _) hdc_len hu (o := 0) (x := I p2.1.skills) rfl fun ad3 => ?_) | refine at_f (hrH _) hdc_len hu (o := 0) (x := I p2.1.skills) rfl fun ad3 => ?_
      simp (config := { maxSteps := 4000000 }) only [↓sx0, ↓sx1, ↓sx2, ↓sx3, ↓sx4, ↓sx5, ↓sx6, sx0, sx1, sx2, sx3, sx4, sx5, sx6, tf23, ev3_hold, sxo, sxc, sxp, sxq, sxr, sxs, sxl, sxm, simprocAttr, eT, dn]
      first | refine amid (at_1 (hrT _) i1_len hus rfl fun ad4 => ?_) | refine at_1 (hrT _) i1_len hus rfl fun ad4 => ?_
      simp (config := { maxSteps := 4000000 }) only [↓sx0, ↓sx1, ↓sx2, ↓sx3, ↓sx4, ↓sx5, ↓sx6, sx0, sx1, sx2, sx3, sx4, sx5, sx6, tf23, ev3_hold, sxo, sxc, sxp, sxq, sxr, sxs, sxl, sxm, simprocAttr, eT, dn]
      first | refine amid (at_1 (hrT _) i1_len hus rfl fun ad4 => ?_) | refine at_1 (hrT _) i1_len hus rfl fun ad4 => ?_
      simp (config := { maxSteps := 4000000 }) only [↓sx0, ↓sx1, ↓sx2, ↓sx3, ↓sx4, ↓sx5, ↓sx6, sx0, sx1, sx2, sx3, sx4, sx5, sx6, tf23, ev3_hold, sxo, sxc, sxp, sxq, sxr, sxs, sxl, sxm, simprocAttr, qb, dn]
      try rfl
    have qb : (bitS .and .i64 p2.1.skills st = st) = True := eq_true hb
    refine ⟨?_⟩
    simp (config := { maxSteps := 4000000 }) only [↓sx0, ↓sx1, ↓sx2, ↓sx3, ↓sx4, ↓sx5, ↓sx6, sx0, sx1, sx2, sx3, sx4, sx5, sx6, tf23, ev3_hold, sxo, sxc, sxp, sxq, sxr, sxs, sxl, sxm, simprocAttr, e7, dn]
    first | refine amid (at_1 (hrR _) lmc_len hp rfl fun ad1 => ?_) | refine at_1 (hrR _) lmc_len hp rfl fun ad1 => ?_
    unfold lmv
    simp (config := { maxSteps := 4000000 }) only [↓sx0, ↓sx1, ↓sx2, ↓sx3, ↓sx4, ↓sx5, ↓sx6, sx0, sx1, sx2, sx3, sx4, sx5, sx6, tf23, ev3_hold, sxo, sxc, sxp, sxq, sxr, sxs, sxl, sxm, simprocAttr, e7, f7, dn, pl23_lk, pl23_11]
    first | refine amid (at_1 (hrR _) lmc_len hp rfl fun ad1 => ?_) | refine at_1 (hrR _) lmc_len hp rfl fun ad1 => ?_
    unfold lmv
    simp (config := { maxSteps := 4000000 }) only [↓sx0, ↓sx1, ↓sx2, ↓sx3, ↓sx4, ↓sx5, ↓sx6, sx0, sx1, sx2, sx3, sx4, sx5, sx6, tf23, ev3_hold, sxo, sxc, sxp, sxq, sxr, sxs, sxl, sxm, simprocAttr, e7, f7, dn]
    first | refine amid (at_1 (hrr _) i1_len hy rfl fun ad2 => ?_) | refine at_1 (hrr _) i1_len hy rfl fun ad2 => ?_
    simp (config := { maxSteps := 4000000 }) only [↓sx0, ↓sx1, ↓sx2, ↓sx3, ↓sx4, ↓sx5, ↓sx6, sx0, sx1, sx2, sx3, sx4, sx5, sx6, tf23, ev3_hold, sxo, sxc, sxp, sxq, sxr, sxs, sxl, sxm, simprocAttr, detB_eq, eW, hyI, e7, dn]
    first | refine amid (at_1 (hrR _) lmc_len hp rfl fun ad1 => ?_) | refine at_1 (hrR _) lmc_len hp rfl fun ad1 => ?_
    unfold lmv
    simp (config := { maxSteps := 4000000 }) only [↓sx0, ↓sx1, ↓sx2, ↓sx3, ↓sx4, ↓sx5, ↓sx6, sx0, sx1, sx2, sx3, sx4, sx5, sx6, tf23, ev3_hold, sxo, sxc, sxp, sxq, sxr, sxs, sxl, sxm, simprocAttr, e7, f7, dn]
    first | refine amid (at_1 (hrr _) i1_len hy rfl fun ad2 => ?_) | refine at_1 (hrr _) i1_len hy rfl fun ad2 => ?_
    simp (config := { maxSteps := 4000000 }) only [↓sx0, ↓sx1, ↓sx2, ↓sx3, ↓sx4, ↓sx5, ↓sx6, sx0, sx1, sx2, sx3, sx4, sx5, sx6, tf23, ev3_hold, sxo, sxc, sxp, sxq, sxr, sxs, sxl, sxm, simprocAttr, eH, dn]
    first | refine amid (at_f (hrH _) hdc_len hu (o := 0) (x := I p2.1.skills) rfl fun ad3 => ?_) | refine at_f (hrH _) hdc_len hu (o := 0) (x := I p2.1.skills) rfl fun ad3 => ?_
    simp (config := { maxSteps := 4000000 }) only [↓sx0, ↓sx1, ↓sx2, ↓sx3, ↓sx4, ↓sx5, ↓sx6, sx0, sx1, sx2, sx3, sx4, sx5, sx6, tf23, ev3_hold, sxo, sxc, sxp, sxq, sxr, sxs, sxl, sxm, simprocAttr, eT, dn]
    first | refine amid (at_1 (hrT _) i1_len hus rfl fun ad4 => ?_) | refine at_1 (hrT _) i1_len hus rfl fun ad4 => ?_
    simp (config := { maxSteps := 4000000 }) only [↓sx0, ↓sx1, ↓sx2, ↓sx3, ↓sx4, ↓sx5, ↓sx6, sx0, sx1, sx2, sx3, sx4, sx5, sx6, tf23, ev3_hold, sxo, sxc, sxp, sxq, sxr, sxs, sxl, sxm, simprocAttr, eT, dn]
    first | refine amid (at_1 (hrT _) i1_len hus rfl fun ad4 => ?_) | refine at_1 (hrT _) i1_len hus rfl fun ad4 => ?_
    simp (config := { maxSteps := 4000000 }) only [↓sx0, ↓sx1, ↓sx2, ↓sx3, ↓sx4, ↓sx5, ↓sx6, sx0, sx1, sx2, sx3, sx4, sx5, sx6, tf23, ev3_hold, sxo, sxc, sxp, sxq, sxr, sxs, sxl, sxm, simprocAttr, qb, dn]
    refine loop_constH [] (HImp.nil _ _) [(6, 6), (9, 9), (80, 99)] (fun n : Nat => [(9, I n)]) (fun n H1 => n ≤ k ∧ H1 = [] ∧ (h0 : Int) ∉ r.take n) (fun n => k - n) 0 ?_ ⟨Nat.zero_le _, rfl, by simp⟩ ?_
    · simp (config := { maxSteps := 4000000 }) only [↓sx0, ↓sx1, ↓sx2, ↓sx3, ↓sx4, ↓sx5, ↓sx6, sx0, sx1, sx2, sx3, sx4, sx5, sx6, tf23, ev3_hold, sxo, sxc, sxp, sxq, sxr, sxs, sxl, sxm, simprocAttr]
      try simp
    rintro n H1 g3 ⟨hn, rfl, hnn⟩
    by_cases hnk : n = k
    · have k7 : ((n : Int) < (k : Int)) = False := eq_false (by omega)
      rw [hnk] at hnn
      refine ⟨?_⟩
      simp (config := { maxSteps := 4000000 }) only [↓sx0, ↓sx1, ↓sx2, ↓sx3, ↓sx4, ↓sx5, ↓sx6, sx0, sx1, sx2, sx3, sx4, sx5, sx6, tf23, ev3_hold, sxo, sxc, sxp, sxq, sxr, sxs, sxl, sxm, simprocAttr, k7, f8, dn]
      exact ⟨k + 1, _, rfl, HImp.refl _ _, ⟨by omega, rfl, by
        have h5 : r.take (k + 1) = r.take k ++ [(h0 : Int)] := by rw [List.take_succ, hy]; rfl
        rw [h5]
        refine hpre.put hhk hnn ?_
        rw [List.length_take, Nat.min_eq_left (by omega), hst]
        unfold hasB
        exact decide_eq_true hb⟩, by omega⟩
    have k7 : ((n : Int) < (k : Int)) = True := eq_true (by omega)
    have k8 : wr (n + 1) = ((n + 1 : Nat) : Int) := (wrap_id (by omega)).trans (by omega)
    have k9 : ((n : Int) < (r.length : Int)) = True := eq_true (by omega)
    obtain ⟨z, hz⟩ : ∃ z, r[n]? = some z := ⟨_, List.getElem?_eq_getElem (by omega)⟩
    by_cases hzh : z = (h0 : Int)
    · have q1 : (z = (h0 : Int)) = True := eq_true hzh
      rw [hno fun h => by
        obtain ⟨h', hd, g0, g1, g2, g3⟩ := hwy h
        exact g3 (List.mem_of_getElem? (i := n) (by rw [List.getElem?_take_of_lt (by omega), hz, hzh]))]
      refine ⟨?_⟩
      simp (config := { maxSteps := 4000000 }) only [↓sx0, ↓sx1, ↓sx2, ↓sx3, ↓sx4, ↓sx5, ↓sx6, sx0, sx1, sx2, sx3, sx4, sx5, sx6, tf23, ev3_hold, sxo, sxc, sxp, sxq, sxr, sxs, sxl, sxm, simprocAttr, k7, e7, dn, pl23_lk, pl23_16]
      first | refine amid (at_1 (hrR _) lmc_len hp rfl fun ad1 => ?_) | refine at_1 (hrR _) lmc_len hp rfl fun ad1 => ?_
      unfold lmv
      simp (config := { maxSteps := 4000000 }) only [↓sx0, ↓sx1, ↓sx2, ↓sx3, ↓sx4, ↓sx5, ↓sx6, sx0, sx1, sx2, sx3, sx4, sx5, sx6, tf23, ev3_hold, sxo, sxc, sxp, sxq, sxr, sxs, sxl, sxm, simprocAttr, k9, e7, dn]
      first | refine amid (at_1 (hrr _) i1_len hz rfl fun ad5 => ?_) | refine at_1 (hrr _) i1_len hz rfl fun ad5 => ?_
      simp (config := { maxSteps := 4000000 }) only [↓sx0, ↓sx1, ↓sx2, ↓sx3, ↓sx4, ↓sx5, ↓sx6, sx0, sx1, sx2, sx3, sx4, sx5, sx6, tf23, ev3_hold, sxo, sxc, sxp, sxq, sxr, sxs, sxl, sxm, simprocAttr, k9, e7, f7, dn]
      first | refine amid (at_1 (hrR _) lmc_len hp rfl fun ad1 => ?_) | refine at_1 (hrR _) lmc_len hp rfl fun ad1 => ?_
      unfold lmv
      simp (config := { maxSteps := 4000000 }) only [↓sx0, ↓sx1, ↓sx2, ↓sx3, ↓sx4, ↓sx5, ↓sx6, sx0, sx1, sx2, sx3, sx4, sx5, sx6, tf23, ev3_hold, sxo, sxc, sxp, sxq, sxr, sxs, sxl, sxm, simprocAttr, k9, e7, f7, dn]
      first | refine amid (at_1 (hrr _) i1_len hy rfl fun ad2 => ?_) | refine at_1 (hrr _) i1_len hy rfl fun ad2 => ?_
      simp (config := { maxSteps := 4000000 }) only [↓sx0, ↓sx1, ↓sx2, ↓sx3, ↓sx4, ↓sx5, ↓sx6, sx0, sx1, sx2, sx3, sx4, sx5, sx6, tf23, ev3_hold, sxo, sxc, sxp, sxq, sxr, sxs, sxl, sxm, simprocAttr, q1, dn]
      try rfl
    · have q1 : (z = (h0 : Int)) = False := eq_false hzh
      refine ⟨?_⟩
      simp (config := { maxSteps := 4000000 }) only [↓sx0, ↓sx1, ↓sx2, ↓sx3, ↓sx4, ↓sx5, ↓sx6, sx0, sx1, sx2, sx3, sx4, sx5, sx6, tf23, ev3_hold, sxo, sxc, sxp, sxq, sxr, sxs, sxl, sxm, simprocAttr, k7, e7, dn, pl23_lk, pl23_16]
      first | refine amid (at_1 (hrR _) lmc_len hp rfl fun ad1 => ?_) | refine at_1 (hrR _) lmc_len hp rfl fun ad1 => ?_
      unfold lmv
      simp (config := { maxSteps := 4000000 }) only [↓sx0, ↓sx1, ↓sx2, ↓sx3, ↓sx4, ↓sx5, ↓sx6, sx0, sx1, sx2, sx3, sx4, sx5, sx6, tf23, ev3_hold, sxo, sxc, sxp, sxq, sxr, sxs, sxl, sxm, simprocAttr, k9, e7, dn]
      first | refine amid (at_1 (hrr _) i1_len hz rfl fun ad5 => ?_) | refine at_1 (hrr _) i1_len hz rfl fun ad5 => ?_
      simp (config := { maxSteps := 4000000 }) only [↓sx0, ↓sx1, ↓sx2, ↓sx3, ↓sx4, ↓sx5, ↓sx6, sx0, sx1, sx2, sx3, sx4, sx5, sx6, tf23, ev3_hold, sxo, sxc, sxp, sxq, sxr, sxs, sxl, sxm, simprocAttr, k9, e7, f7, dn]
      first | refine amid (at_1 (hrR _) lmc_len hp rfl fun ad1 => ?_) | refine at_1 (hrR _) lmc_len hp rfl fun ad1 => ?_
      unfold lmv
      simp (config := { maxSteps := 4000000 }) only [↓sx0, ↓sx1, ↓sx2, ↓sx3, ↓sx4, ↓sx5, ↓sx6, sx0, sx1, sx2, sx3, sx4, sx5, sx6, tf23, ev3_hold, sxo, sxc, sxp, sxq, sxr, sxs, sxl, sxm, simprocAttr, k9, e7, f7, dn]
      first | refine amid (at_1 (hrr _) i1_len hy rfl fun ad2 => ?_) | refine at_1 (hrr _) i1_len hy rfl fun ad2 => ?_
      simp (config := { maxSteps := 4000000 }) only [↓sx0, ↓sx1, ↓sx2, ↓sx3, ↓sx4, ↓sx5, ↓sx6, sx0, sx1, sx2, sx3, sx4, sx5, sx6, tf23, ev3_hold, sxo, sxc, sxp, sxq, sxr, sxs, sxl, sxm, simprocAttr, q1, k8, dn]
      exact ⟨n + 1, _, rfl, HImp.refl _ _, ⟨by omega, rfl, by
        rw [List.take_succ, hz, List.mem_append]
        rintro (h | h)
        · exact hnn h
        · simp only [Option.toList_some, List.mem_singleton] at h
          exact hzh h.symm⟩, by omega⟩
  have e7 : ((i : Int) < (ps.length : Int)) = False := eq_false (by omega)
  have hallr : ∀ r ∈ rows, r.length = seats.length ∧ okPre s seats r := fun r hr => by
    obtain ⟨i', hi', rfl⟩ := List.mem_iff_getElem.1 hr
    exact hall i' (by omega) _ (List.getElem?_eq_getElem hi')
  refine ⟨?_⟩
  simp (config := { maxSteps := 4000000 }) only [↓sx0, ↓sx1, ↓sx2, ↓sx3, ↓sx4, ↓sx5, ↓sx6, sx0, sx1, sx2, sx3, sx4, sx5, sx6, tf23, ev3_hold, sxo, sxc, sxp, sxq, sxr, sxs, sxl, sxm, simprocAttr, e7, dn]
  refine loop_constH [] (HImp.nil _ _) [(6, 6), (10, 13), (100, 142)] (fun h : Nat => [(10, I h)]) (fun h H1 => h ≤ psh.length ∧ H1 = [] ∧ ∀ h', h' < h → ∀ hd, s.hands[h']? = some hd → servP s hd (hisN shifts rows h' rows.length)) (fun h => psh.length - h) 0 ?_ ⟨Nat.zero_le _, rfl, fun h' h => by omega⟩ ?_
  · simp (config := { maxSteps := 4000000 }) only [↓sx0, ↓sx1, ↓sx2, ↓sx3, ↓sx4, ↓sx5, ↓sx6, sx0, sx1, sx2, sx3, sx4, sx5, sx6, tf23, ev3_hold, sxo, sxc, sxp, sxq, sxr, sxs, sxl, sxm, simprocAttr]
    try simp
  rintro h H1 g2 ⟨hh, rfl, hser⟩
  by_cases hhn : h = psh.length
  · have f7 : ((h : Int) < (psh.length : Int)) = False := eq_false (by omega)
    have hyes : B = true := by
      rw [← hB]
      exact decide_eq_true ⟨by omega, hallr, fun k hd hk => hser k (by have := (List.getElem?_eq_some_iff.1 hk).1; omega) hd hk⟩
    rw [hyes]
    refine ⟨?_⟩
    simp (config := { maxSteps := 4000000 }) only [↓sx0, ↓sx1, ↓sx2, ↓sx3, ↓sx4, ↓sx5, ↓sx6, sx0, sx1, sx2, sx3, sx4, sx5, sx6, tf23, ev3_hold, sxo, sxc, sxp, sxq, sxr, sxs, sxl, sxm, simprocAttr, f7, dn]
    try rfl
  have f7 : ((h : Int) < (psh.length : Int)) = True := eq_true (by omega)
  have f8 : wr (h + 1) = ((h + 1 : Nat) : Int) := (wrap_id (by omega)).trans (by omega)
  obtain ⟨hd, hhd⟩ : ∃ hd, s.hands[h]? = some hd := ⟨_, List.getElem?_eq_getElem (by omega)⟩
  have htd := hti h hd hhd
  have hlog := (handB_of (hob.2.2.2 hd (List.mem_of_getElem? hhd))).2.2.2.2.1
  refine ⟨?_⟩
  simp (config := { maxSteps := 4000000 }) only [↓sx0, ↓sx1, ↓sx2, ↓sx3, ↓sx4, ↓sx5, ↓sx6, sx0, sx1, sx2, sx3, sx4, sx5, sx6, tf23, ev3_hold, sxo, sxc, sxp, sxq, sxr, sxs, sxl, sxm, simprocAttr, f7, dn]
  refine loop_constH [HO.row (.slice none 0 0) 41 2 (cat spc ([] : List Spn))] (HImp.nilRow _ _ _ _) [(11, 13), (107, 138)] (fun q : Nat × Option Addr × Nat × List Spn => [(11, .slice q.2.1 q.2.2.2.length q.2.2.1), (12, I q.1)]) (fun q H1 => q.1 ≤ ps.length ∧ (q.2.1 = none → q.2.2.2 = []) ∧ q.2.2.2 = hisN shifts rows h q.1 ∧ H1 = [HO.row (.slice q.2.1 q.2.2.2.length q.2.2.1) 41 2 (cat spc q.2.2.2)]) (fun q => ps.length - q.1) (0, none, 0, []) ?_ ⟨Nat.zero_le _, fun _ => rfl, rfl, rfl⟩ ?_
  · simp (config := { maxSteps := 4000000 }) only [↓sx0, ↓sx1, ↓sx2, ↓sx3, ↓sx4, ↓sx5, ↓sx6, sx0, sx1, sx2, sx3, sx4, sx5, sx6, tf23, ev3_hold, sxo, sxc, sxp, sxq, sxr, sxs, sxl, sxm, simprocAttr]
    try simp
  rintro ⟨i, ao, co, l⟩ H1 g3 hinv
  simp only [] at hinv
  obtain ⟨hi2, hao, hl, rfl⟩ := hinv
  have hll : l.length ≤ i := by rw [hl]; exact hisN_len _ _ _ _
  by_cases hin2 : i = ps.length
  · have k7 : ((i : Int) < (ps.length : Int)) = False := eq_false (by omega)
    have hlb : spanB l ∧ l.length ≤ 1000 := ⟨fun x hx => by
      rw [hl] at hx
      exact shB_span hsp x (hisN_mem (by omega) x hx), by omega⟩
    have hts := tired_serv (s := s) (h := hd) (l := l) hob.2.1 hlog (by rw [hl]; exact hisN_new (by omega) hsp)
    have hln : hisN shifts rows h rows.length = l := by rw [hl, hin2, hpl]
    refine ⟨?_⟩
    simp (config := { maxSteps := 4000000 }) only [↓sx0, ↓sx1, ↓sx2, ↓sx3, ↓sx4, ↓sx5, ↓sx6, sx0, sx1, sx2, sx3, sx4, sx5, sx6, tf23, ev3_hold, sxo, sxc, sxp, sxq, sxr, sxs, sxl, sxm, simprocAttr, k7, dn]
    refine CallOb.pureH (fun w' hp' => htd _ w' hp' _ l (row_hp (E := 41) (by simp) hp') hlb) ?_
    rintro r N rfl
    by_cases hsv : servP s hd l
    · rw [decide_eq_false fun ht => hts.1 ht hsv]
      refine ⟨?_⟩
      simp (config := { maxSteps := 4000000 }) only [↓sx0, ↓sx1, ↓sx2, ↓sx3, ↓sx4, ↓sx5, ↓sx6, sx0, sx1, sx2, sx3, sx4, sx5, sx6, tf23, ev3_hold, sxo, sxc, sxp, sxq, sxr, sxs, sxl, sxm, simprocAttr, f8, dn]
      exact ⟨h + 1, _, rfl, HImp.nil _ _, ⟨by omega, rfl, fun h' hh' hd' hk' => by
        by_cases e : h' = h
        · subst e
          rw [hhd] at hk'
          cases hk'
          rw [hln]
          exact hsv
        · exact hser h' (by omega) hd' hk'⟩, by omega⟩
    · rw [decide_eq_true (hts.2 hsv), hno fun hW => hsv (by rw [← hln]; exact hW.rest h hd hhd)]
      refine ⟨?_⟩
      simp (config := { maxSteps := 4000000 }) only [↓sx0, ↓sx1, ↓sx2, ↓sx3, ↓sx4, ↓sx5, ↓sx6, sx0, sx1, sx2, sx3, sx4, sx5, sx6, tf23, ev3_hold, sxo, sxc, sxp, sxq, sxr, sxs, sxl, sxm, simprocAttr, dn]
      try rfl
  have k7 : ((i : Int) < (ps.length : Int)) = True := eq_true (by omega)
  have k8 : wr (i + 1) = ((i + 1 : Nat) : Int) := (wrap_id (by omega)).trans (by omega)
  obtain ⟨p, hp⟩ : ∃ p, ps[i]? = some p := ⟨_, List.getElem?_eq_getElem (by omega)⟩
  have hpr : rows[i]? = some p.1 := by rw [← hps, List.getElem?_map, hp]; rfl
  have hrow := hro p (List.mem_of_getElem? hp)
  obtain ⟨r, ar, cr⟩ := p
  have hrow' : Sl w (.slice ar r.length cr) 1 (ints r) := hrow
  have hrr := hrow'.rd0
  simp only [] at hpr
  obtain ⟨hrl, hro2⟩ := hallr r (List.mem_of_getElem? hpr)
  have hgr : rows.getD i [] = r := by rw [List.getD_eq_getElem?_getD, hpr]; rfl
  have hx : shifts[i]? = some (shifts.getD i (0, 0)) := getD_at (by omega) (0, 0)
  obtain ⟨x, hxe⟩ : ∃ x, shifts.getD i (0, 0) = x := ⟨_, rfl⟩
  rw [hxe] at hx
  have eS : ((i : Int) < (shifts.length : Int)) = True := eq_true (by omega)
  refine ⟨?_⟩
  simp (config := { maxSteps := 4000000 }) only [↓sx0, ↓sx1, ↓sx2, ↓sx3, ↓sx4, ↓sx5, ↓sx6, sx0, sx1, sx2, sx3, sx4, sx5, sx6, tf23, ev3_hold, sxo, sxc, sxp, sxq, sxr, sxs, sxl, sxm, simprocAttr, k7, dn]
  refine loop_constH _ (HImp.refl _ _) [(11, 11), (13, 13), (113, 138)] (fun q : Nat × Option Addr × Nat × List Spn => [(11, .slice q.2.1 q.2.2.2.length q.2.2.1), (13, I q.1)]) (fun q H1 => q.1 ≤ r.length ∧ (q.2.1 = none → q.2.2.2 = []) ∧ (q.2.2.2 = l ++ if (h : Int) ∈ r.take q.1 then [x] else []) ∧ H1 = [HO.row (.slice q.2.1 q.2.2.2.length q.2.2.1) 41 2 (cat spc q.2.2.2)]) (fun q => r.length - q.1) (0, ao, co, l) ?_ ⟨Nat.zero_le _, hao, by simp, rfl⟩ ?_
  · simp (config := { maxSteps := 4000000 }) only [↓sx0, ↓sx1, ↓sx2, ↓sx3, ↓sx4, ↓sx5, ↓sx6, sx0, sx1, sx2, sx3, sx4, sx5, sx6, tf23, ev3_hold, sxo, sxc, sxp, sxq, sxr, sxs, sxl, sxm, simprocAttr]
    try simp
  rintro ⟨k, ap, cp, m⟩ H1 g4 hinv2
  simp only [] at hinv2
  obtain ⟨hk, hap, hm, rfl⟩ := hinv2
  have hml : m.length ≤ l.length + 1 := by
    rw [hm, List.length_append]
    split <;> simp
  by_cases hkn : k = r.length
  · have j7 : ((k : Int) < (r.length : Int)) = False := eq_false (by omega)
    rw [hkn, List.take_length] at hm
    refine ⟨?_⟩
    simp (config := { maxSteps := 4000000 }) only [↓sx0, ↓sx1, ↓sx2, ↓sx3, ↓sx4, ↓sx5, ↓sx6, sx0, sx1, sx2, sx3, sx4, sx5, sx6, tf23, ev3_hold, sxo, sxc, sxp, sxq, sxr, sxs, sxl, sxm, simprocAttr, k7, dn]
    first | refine amid (at_1 (hrR _) lmc_len hp rfl fun ad1 => ?_) | refine at_1 (hrR _) lmc_len hp rfl fun ad1 => ?_
    unfold lmv
    simp (config := { maxSteps := 4000000 }) only [↓sx0, ↓sx1, ↓sx2, ↓sx3, ↓sx4, ↓sx5, ↓sx6, sx0, sx1, sx2, sx3, sx4, sx5, sx6, tf23, ev3_hold, sxo, sxc, sxp, sxq, sxr, sxs, sxl, sxm, simprocAttr, j7, k8, dn]
    exact ⟨(i + 1, ap, cp, m), _, by first | exact ⟨rfl, rfl⟩ | rfl, HImp.refl _ _, ⟨by simp only []; omega, hap, by rw [hisN, hgr, hxe, ← hl]; exact hm, rfl⟩, by simp only []; omega⟩
  have j7 : ((k : Int) < (r.length : Int)) = True := eq_true (by omega)
  have j8 : wr (k + 1) = ((k + 1 : Nat) : Int) := (wrap_id (by omega)).trans (by omega)
  obtain ⟨z, hz⟩ : ∃ z, r[k]? = some z := ⟨_, List.getElem?_eq_getElem (by omega)⟩
  have htk : r.take (k + 1) = r.take k ++ [z] := by rw [List.take_succ, hz]; rfl
  by_cases hzh : z = (h : Int)
  · have q1 : (z = (h : Int)) = True := eq_true hzh
    obtain ⟨_, _, _, _, _, hnt⟩ := hro2 k z hz
    rw [if_neg (by rw [← hzh]; exact hnt), List.append_nil] at hm
    refine ⟨?_⟩
    simp (config := { maxSteps := 4000000 }) only [↓sx0, ↓sx1, ↓sx2, ↓sx3, ↓sx4, ↓sx5, ↓sx6, sx0, sx1, sx2, sx3, sx4, sx5, sx6, tf23, ev3_hold, sxo, sxc, sxp, sxq, sxr, sxs, sxl, sxm, simprocAttr, k7, dn]
    first | refine amid (at_1 (hrR _) lmc_len hp rfl fun ad1 => ?_) | refine at_1 (hrR _) lmc_len hp rfl fun ad1 => ?_
    unfold lmv
    simp (config := { maxSteps := 4000000 }) only [↓sx0, ↓sx1, ↓sx2, ↓sx3, ↓sx4, ↓sx5, ↓sx6, sx0, sx1, sx2, sx3, sx4, sx5, sx6, tf23, ev3_hold, sxo, sxc, sxp, sxq, sxr, sxs, sxl, sxm, simprocAttr, j7, k7, dn]
    first | refine amid (at_1 (hrR _) lmc_len hp rfl fun ad1 => ?_) | refine at_1 (hrR _) lmc_len hp rfl fun ad1 => ?_
    unfold lmv
    simp (config := { maxSteps := 4000000 }) only [↓sx0, ↓sx1, ↓sx2, ↓sx3, ↓sx4, ↓sx5, ↓sx6, sx0, sx1, sx2, sx3, sx4, sx5, sx6, tf23, ev3_hold, sxo, sxc, sxp, sxq, sxr, sxs, sxl, sxm, simprocAttr, j7, k7, dn]
    first | refine amid (at_1 (hrr _) i1_len hz rfl fun ad2 => ?_) | refine at_1 (hrr _) i1_len hz rfl fun ad2 => ?_
    simp (config := { maxSteps := 4000000 }) only [↓sx0, ↓sx1, ↓sx2, ↓sx3, ↓sx4, ↓sx5, ↓sx6, sx0, sx1, sx2, sx3, sx4, sx5, sx6, tf23, ev3_hold, sxo, sxc, sxp, sxq, sxr, sxs, sxl, sxm, simprocAttr, q1, eS, dn]
    first | refine amid (at_n (hrS _) spc_len (by omega) hx fun ad3 => ?_) | refine at_n (hrS _) spc_len (by omega) hx fun ad3 => ?_
    unfold spc
    simp (config := { maxSteps := 4000000 }) only [↓sx0, ↓sx1, ↓sx2, ↓sx3, ↓sx4, ↓sx5, ↓sx6, sx0, sx1, sx2, sx3, sx4, sx5, sx6, tf23, ev3_hold, sxo, sxc, sxp, sxq, sxr, sxs, sxl, sxm, simprocAttr, dn]
    intro b
    refine app_one (f := spc) (l := m) x (HImp.refl _ _) spc_len spc_one (by omega) fun ad4 c4 => ?_
    simp (config := { maxSteps := 4000000 }) only [↓sx0, ↓sx1, ↓sx2, ↓sx3, ↓sx4, ↓sx5, ↓sx6, sx0, sx1, sx2, sx3, sx4, sx5, sx6, tf23, ev3_hold, sxo, sxc, sxp, sxq, sxr, sxs, sxl, sxm, simprocAttr, j8, dn]
    refine ⟨(k + 1, some ad4, c4, m ++ [x]), _, by first | exact ⟨by simp, rfl⟩ | (simp; done), HImp.refl _ _, ⟨by simp only []; omega, fun h => (by cases h), ?_, by simp only [List.length_append, List.length_singleton]; rfl⟩, by simp only []; omega⟩
    simp only []
    rw [htk, if_pos (by rw [hzh]; simp), hm]
  · have q1 : (z = (h : Int)) = False := eq_false hzh
    refine ⟨?_⟩
    simp (config := { maxSteps := 4000000 }) only [↓sx0, ↓sx1, ↓sx2, ↓sx3, ↓sx4, ↓sx5, ↓sx6, sx0, sx1, sx2, sx3, sx4, sx5, sx6, tf23, ev3_hold, sxo, sxc, sxp, sxq, sxr, sxs, sxl, sxm, simprocAttr, k7, dn]
    first | refine amid (at_1 (hrR _) lmc_len hp rfl fun ad1 => ?_) | refine at_1 (hrR _) lmc_len hp rfl fun ad1 => ?_
    unfold lmv
    simp (config := { maxSteps := 4000000 }) only [↓sx0, ↓sx1, ↓sx2, ↓sx3, ↓sx4, ↓sx5, ↓sx6, sx0, sx1, sx2, sx3, sx4, sx5, sx6, tf23, ev3_hold, sxo, sxc, sxp, sxq, sxr, sxs, sxl, sxm, simprocAttr, j7, k7, dn]
    first | refine amid (at_1 (hrR _) lmc_len hp rfl fun ad1 => ?_) | refine at_1 (hrR _) lmc_len hp rfl fun ad1 => ?_
    unfold lmv
    simp (config := { maxSteps := 4000000 }) only [↓sx0, ↓sx1, ↓sx2, ↓sx3, ↓sx4, ↓sx5, ↓sx6, sx0, sx1, sx2, sx3, sx4, sx5, sx6, tf23, ev3_hold, sxo, sxc, sxp, sxq, sxr, sxs, sxl, sxm, simprocAttr, j7, k7, dn]
    first | refine amid (at_1 (hrr _) i1_len hz rfl fun ad2 => ?_) | refine at_1 (hrr _) i1_len hz rfl fun ad2 => ?_
    simp (config := { maxSteps := 4000000 }) only [↓sx0, ↓sx1, ↓sx2, ↓sx3, ↓sx4, ↓sx5, ↓sx6, sx0, sx1, sx2, sx3, sx4, sx5, sx6, tf23, ev3_hold, sxo, sxc, sxp, sxq, sxr, sxs, sxl, sxm, simprocAttr, q1, j8, dn]
    refine ⟨(k + 1, ap, cp, m), _, by first | exact ⟨rfl, rfl⟩ | rfl, HImp.refl _ _, ⟨by simp only []; omega, hap, ?_, rfl⟩, by simp only []; omega⟩
    simp only []
    rw [htk, hm]
    have : ((h : Int) ∈ r.take k ++ [z]) = ((h : Int) ∈ r.take k) := by
      rw [List.mem_append, List.mem_singleton]
      exact propext ⟨fun g => g.resolve_right fun e => hzh e.symm, .inl⟩
    simp only [this]
end Go.Proofs.Ytgpglmcbopfddaa

namespace Go.Proofs.Ytgpglmcbopfddaa
open Go.RowKit Go.SX Go.ChangeShapes Go.WideShapes Go.ChangeAt
set_option maxRecDepth 100000
theorem flat_roster : flat Try.prog 6 55 = some [.slice 3, .slice 41, .slice 25] := by kernel_rfl
theorem cells_rints : Try.prog.cellsOf 25 = 1 := by kernel_rfl
theorem sl_rowsL {w : World} {a : Option Addr} {len cap : Nat} {xss : List (List Value)} (hs : Sl w (.slice a len cap) (Try.prog.cellsOf 25) xss.flatten) (hx : ∀ xs ∈ xss, ∀ m es, flat Try.prog m 25 = some es → Lvs Try.prog w es xs) : ∃ cs, LlOk w (.slice a len cap) cs := by
  obtain ⟨us, hu, _, hp⟩ := cat_ofP (f := lmc) (p := fun p : Lm => Sl w (lmv p) 1 (ints p.1)) (xss := xss) fun xs hxs => by
    have hl := hx xs hxs 4 _ flat_ints
    cases hl with
    | @slice _ a2 n2 c2 x1 _ _ _ _ _ s1 _ e1 hl =>
      cases hl
      obtain ⟨l, h⟩ := sl_ints s1 e1
      have hn := h.le i1_len (by omega)
      subst hn
      exact ⟨(l, a2, c2), rfl, h⟩
  rw [cells_rints, hu] at hs
  exact ⟨us.map Prod.fst, us, rfl, hs, hp⟩
theorem roster_of {H : Type} {enc : TypeId × Value → H} {w : World} {base : Nat} {v : Value} {d : DataW H} {ps : List MemPlace} (h : Value.okWide Try.prog w .any base 55 v) (hd : DataW.Trod enc Try.prog w 0 (fun _ => true) true 55 v d ps) : ∃ vt lt vs ls vx lx, v = .agg #[vt, vs, vx] ∧ Sl w vt 1 (ints lt) ∧ Sl w vs 2 (cat spc ls) ∧ LlOk w vx lx := by
  obtain ⟨cs, rfl⟩ := agg_of Try.underlying55 h
  have hl := lvs_of_Trod hd 6 flat_roster
  rw [show (Value.agg cs).cells.toList = cs.toList from rfl] at hl
  generalize hcs : cs.toList = l at hl
  cases hl with | slice x1 _ _ _ s1 _ e1 hl => cases hl with | slice x2 _ _ _ s2 _ e2 hl => cases hl with | slice x3 _ _ _ s3 _ e3 hl =>
    cases hl
    obtain ⟨l1, h1⟩ := sl_ints s1 e1
    obtain ⟨l2, h2⟩ := sl_spans s2 e2
    obtain ⟨l3, h3⟩ := sl_rowsL s3 e3
    exact ⟨_, l1, _, l2, _, l3, by rw [show cs = cs.toList.toArray by simp, hcs], h1, h2, h3⟩
end Go.Proofs.Ytgpglmcbopfddaa

