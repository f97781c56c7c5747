/- A part of a proof: the symbolic walk and what it shows of single functions. -/
import Derived.Test.YtcnjhgnlcnmagaaDoorC7
set_option linter.all false
namespace Go.Proofs.YtcnjhgnlcnmagaaDoor
open Go.RowKit Go.SX
set_option maxRecDepth 20000
set_option maxHeartbeats 8000000
set_option linter.unusedSimpArgs false
set_option linter.unusedVariables false

/-! ### A narrower tide: plain -/

def Cht.withT (c : Cht) (m : List (Int × Int)) : Cht := ⟨c.wide, c.high, c.depth, m, c.swell⟩

def mlo (m : List (Int × Int)) (t : Nat) : Int := (m.getD t (0, 0)).1
def mhi (m : List (Int × Int)) (t : Nat) : Int := (m.getD t (0, 0)).2

def narrowTo (c : Cht) (m : List (Int × Int)) (n : Nat) : Prop := ∀ t, t < n → c.tlo t ≤ mlo m t ∧ mhi m t ≤ c.thi t ∧ mlo m t ≤ mhi m t

theorem withT_ok {c : Cht} (hok : c.ok) {m : List (Int × Int)} (hl : m.length = c.tide.length) (hm : narrowTo c m m.length) : (c.withT m).ok := by
  refine ⟨hok.1, hok.2.1, hok.2.2.1, ?_, ?_, hok.2.2.2.2.2.1, ?_, hok.2.2.2.2.2.2.2⟩
  · have := hok.2.2.2.1
    show 1 ≤ m.length ∧ m.length ≤ 60
    omega
  · have := hok.2.2.2.2.1
    show c.swell.length = m.length
    omega
  · intro p hp
    obtain ⟨i, hi, rfl⟩ := List.getElem_of_mem (show p ∈ m from hp)
    have h1 := hm i hi
    have h2 := hok.2.2.2.2.2.2.1 _ (getD_mem (show i < c.tide.length by omega) (0, 0))
    have e : m.getD i (0, 0) = m[i] := by rw [List.getD_eq_getElem?_getD, List.getElem?_eq_getElem hi]; rfl
    unfold mlo mhi at h1
    rw [e] at h1
    unfold Cht.tlo Cht.thi at h1
    omega

theorem flt_less {c : Cht} {m : List (Int × Int)} {n : Nat} (hm : narrowTo c m n) {g b : Int} (hb : 0 ≤ b) {t k : Nat} (ht : t < n) (h : c.flt g t k = true) : (c.withT m).flt (g - b) t k = true := by
  unfold Cht.flt at h ⊢
  have h1 := of_decide_eq_true h
  have h2 := (hm t ht).1
  refine decide_eq_true ?_
  change c.dep k + mlo m t - c.swl t ≥ g - b
  change c.dep k + c.tlo t - c.swl t ≥ g at h1
  omega

theorem Rr_less {c : Cht} {m : List (Int × Int)} {n : Nat} (hm : narrowTo c m n) {g b : Int} (hb : 0 ≤ b) {t a : Nat} : ∀ {i x : Nat}, t + i < n → Rr c g t a i x → Rr (c.withT m) (g - b) t a i x
  | 0, x, hi, h => ⟨h.1, flt_less hm hb (by omega) h.2⟩
  | i + 1, x, hi, ⟨h1, y, h2, h3⟩ => ⟨flt_less hm hb (by omega) h1, y, h2, Rr_less hm hb (by omega) h3⟩

theorem arr_less {c : Cht} (hok : c.ok) {m : List (Int × Int)} (hl : m.length = c.tide.length) (hm : narrowTo c m m.length) {g b : Int} (hb : 0 ≤ b) {T A x : Nat} (hA : A < c.depth.length) (hx : x < c.depth.length) (h : 0 ≤ lv (arrL c g A T (c.tide.length - T)) x) :
    0 ≤ lv (arrL (c.withT m) (g - b) A T (c.tide.length - T)) x ∧ lv (arrL (c.withT m) (g - b) A T (c.tide.length - T)) x ≤ lv (arrL c g A T (c.tide.length - T)) x := by
  have hL := arrL_get c g A T x hx (c.tide.length - T)
  have hM := arrL_get (c.withT m) (g - b) A T x hx (c.tide.length - T)
  change (∃ i, i < c.tide.length - T ∧ (setN c g A T i).getD x false = true ∧ (∀ j, j < i → (setN c g A T j).getD x false = false) ∧ lv (arrL c g A T (c.tide.length - T)) x = ((T + i : Nat) : Int)) ∨ ((∀ i, i < c.tide.length - T → (setN c g A T i).getD x false = false) ∧ lv (arrL c g A T (c.tide.length - T)) x = -1) at hL
  change (∃ i, i < c.tide.length - T ∧ (setN (c.withT m) (g - b) A T i).getD x false = true ∧ (∀ j, j < i → (setN (c.withT m) (g - b) A T j).getD x false = false) ∧ lv (arrL (c.withT m) (g - b) A T (c.tide.length - T)) x = ((T + i : Nat) : Int)) ∨ ((∀ i, i < c.tide.length - T → (setN (c.withT m) (g - b) A T i).getD x false = false) ∧ lv (arrL (c.withT m) (g - b) A T (c.tide.length - T)) x = -1) at hM
  rcases hL with ⟨i, h1, h2, h3, h4⟩ | ⟨_, h4⟩
  · have h5 := (setN_Rr (withT_ok hok hl hm) (g := g - b) (t := T) hA i x hx).2 (Rr_less hm hb (by omega) ((setN_Rr hok hA i x hx).1 h2))
    rcases hM with ⟨j, q1, q2, q3, q4⟩ | ⟨q1, _⟩
    · have : j ≤ i := by
        rcases Nat.lt_or_ge i j with k | k
        · rw [q3 _ k] at h5
          cases h5
        · exact k
      omega
    · rw [q1 _ h1] at h5
      cases h5
  · omega

theorem floatsV_ok {c : Cht} (hok : c.ok) {g : Int} {k t : Nat} (hk : k < c.depth.length) (ht : t < c.tide.length) (hg : notDraught g = false) : floatsV c g k t = .tuple #[.bool (decide (c.over k t (c.tlo t) ≥ g)), .bool (decide (c.over k t (c.thi t) ≥ g)), I 0] := by
  unfold floatsV
  rw [if_pos, Int.toNat_natCast, Int.toNat_natCast]
  refine openE_of hok ?_ ?_ ?_
  · simp only [List.mem_singleton]
    rintro x rfl
    unfold notCell
    rw [Bool.not_eq_false', inB_iff]
    omega
  · simp only [List.mem_singleton]
    rintro x rfl
    unfold notTick
    rw [Bool.not_eq_false', inB_iff]
    omega
  · simp only [List.mem_singleton]
    rintro x rfl
    exact hg

theorem got_swap {α : Type} {x : Value} {e sz : Nat} {f : α → List Value} {l : List α} {A B : List HO} {r r' : HO} (h : Got x e sz f l (A ++ r :: B)) (hne : HO.row x e sz (cat f l) ≠ r) : Got x e sz f l (A ++ r' :: B) := by
  obtain ⟨ad, c, h1, h2, h3⟩ := h
  refine ⟨ad, c, h1, h2, h3.imp id fun h => ?_⟩
  rcases List.mem_append.1 h with h | h
  · exact List.mem_append_left _ h
  · rcases List.mem_cons.1 h with h | h
    · exact absurd h hne
    · exact List.mem_append_right _ (List.mem_cons_of_mem _ h)

theorem arriveT_fn (w : World) (hw : Ways w) (v : Value) (c : Cht) (m : List (Int × Int)) (hl : m.length = c.tide.length) (hc : ChOk w v (c.withT m)) (hsm : c.small) (g : Int) (A T : Nat) (hE : openE (c.withT m) [(A : Int)] [(T : Int)] [g] = 0) :
    SX.Fn Tryd.prog 37 [v, I g, I A, I T] w (fun _ => False) fun r N => 
      ∃ x, r = .tuple #[.slice (some ⟨x, 0, none⟩) c.depth.length c.depth.length, I 0] ∧ HO.row (.slice (some ⟨x, 0, none⟩) c.depth.length c.depth.length) 3 1 (ints (arrL (c.withT m) g A T (c.tide.length - T))) ∈ N := by
  refine (arrive_fn w hw v (c.withT m) hc ⟨hsm.1, by show m.length ≤ 100; rw [hl]; exact hsm.2.1, hsm.2.2⟩ g A T).mono fun r N h => ?_
  rcases h with ⟨h, _⟩ | ⟨_, x, h1, h2⟩
  · exact absurd hE h
  · refine ⟨x, h1, ?_⟩
    rw [← hl]
    exact h2

/-- The tides, some of them narrowed. -/
def mixT (c : Cht) (m : List (Int × Int)) (t : Nat) : List (Int × Int) := m.take t ++ c.tide.drop t

theorem mixT_len {c : Cht} {m : List (Int × Int)} (hl : m.length = c.tide.length) {t : Nat} (ht : t ≤ m.length) : (mixT c m t).length = c.tide.length := by
  unfold mixT
  simp
  omega

theorem mixT_succ {c : Cht} {m : List (Int × Int)} (hl : m.length = c.tide.length) {t : Nat} (ht : t < m.length) : (mixT c m t).set t (m.getD t (0, 0)) = mixT c m (t + 1) := by
  unfold mixT
  rw [List.set_append_right _ _ (by simp; omega), List.length_take, Nat.min_eq_left (by omega), Nat.sub_self, List.drop_eq_getElem_cons (by omega : t < c.tide.length), List.set_cons_zero, List.take_add_one, getD_at ht (0, 0)]
  simp

theorem mixT_end {c : Cht} {m : List (Int × Int)} (hl : m.length = c.tide.length) : mixT c m m.length = m := by
  unfold mixT
  rw [List.take_length, List.drop_of_length_le (by omega), List.append_nil]

end Go.Proofs.YtcnjhgnlcnmagaaDoor
