/- A part of a proof: the symbolic walk and what it shows of single functions. -/
import Derived.Test.YtlbcgkoncnablaaK6
set_option linter.all false
namespace Go.Proofs.Ytlbcgkoncnablaa
open Go.RowKit Go.SX
set_option maxRecDepth 10000
set_option maxHeartbeats 4000000
set_option linter.unusedSimpArgs false
set_option linter.unusedVariables false

/-! ### More hands, plain -/

theorem ct_win {p p' : Nat → Bool} (h : ∀ u, p' u = true → p u = true) {a b : Nat} (hab : a ≤ b) : ct p' b + ct p a ≤ ct p b + ct p' a := by
  induction b with
  | zero => rw [show a = 0 by omega]; omega
  | succ b ih =>
    by_cases e : a = b + 1
    · subst e; omega
    · have := ih (by omega)
      rw [ct, ct]
      have hb := h b
      split <;> split <;> first | omega | (rename_i h1 h2; exact absurd (hb h1) h2)

theorem allAlw_mono {p p' q q' : Int → Bool} {W : Nat} {D : Int} (hp : ∀ u, p' u = true → p u = true) (hq : ∀ u, q' u = true → q u = true) (h : allAlw p q W D) : allAlw p' q' W D := by
  intro t ht h1
  have h2 := ct_win (p := at300 q) (p' := at300 q') (fun u => hq _) (show t + 1 - W ≤ t + 1 by omega)
  have h3 := ct_win (p := at300 p) (p' := at300 p') (fun u => hp _) (show t + 1 - W ≤ t + 1 by omega)
  have := h t ht (by omega)
  omega

theorem may_less {s s2 : Stn} (hw : s2.window = s.window) (hd : s2.duty = s.duty) {h : Hnd} {t len len2 : Int} (hl : len2 ≤ len) (hm : mayP s h t len) : mayP s2 h t len2 := by
  unfold mayP at hm ⊢
  rw [hw, hd]
  have hin : ∀ u, inS (t, t + len2 - 1) u = true → inS (t, t + len - 1) u = true := fun u h => by
    rw [inS_iff] at h ⊢
    simp only [] at h ⊢
    omega
  refine allAlw_mono (fun u h => ?_) (fun u h => ?_) hm
  · rw [Bool.or_eq_true] at h ⊢
    exact h.imp id (hin u)
  · rw [Bool.or_eq_true] at h ⊢
    exact h.imp id (hin u)

theorem i64_small {n : Nat} (h : n ≤ 255) : IntKind.i64.wrap (n : Int) = n := wrap_id (by omega)

theorem bv_small {x : Int} (h : 0 ≤ x ∧ x ≤ 255) : ((BitVec.ofInt 64 x).toNat : Int) = x := by
  rw [BitVec.toNat_ofInt]
  omega

theorem has_iff {a b : Int} (hb : 0 ≤ b ∧ b ≤ 255) : bitS .and .i64 a b = b ↔ BitVec.ofInt 64 a &&& BitVec.ofInt 64 b = BitVec.ofInt 64 b := by
  have h1 := bv_small hb
  have h2 : (BitVec.ofInt 64 a &&& BitVec.ofInt 64 b).toNat ≤ (BitVec.ofInt 64 b).toNat := by
    rw [BitVec.toNat_and]
    exact Nat.and_le_right
  show IntKind.i64.wrap ((BitVec.ofInt 64 a &&& BitVec.ofInt 64 b).toNat : Int) = b ↔ _
  rw [i64_small (by omega)]
  constructor
  · intro h
    exact BitVec.eq_of_toNat_eq (by omega)
  · intro h
    rw [h]
    exact h1

theorem less_iff {a b : Int} (ha : 0 ≤ a ∧ a ≤ 255) (h : bitS .andNot .i64 a b = 0) : BitVec.ofInt 64 a &&& ~~~BitVec.ofInt 64 b = 0#64 := by
  have h1 := bv_small ha
  have h2 : (BitVec.ofInt 64 a &&& ~~~BitVec.ofInt 64 b).toNat ≤ (BitVec.ofInt 64 a).toNat := by
    rw [BitVec.toNat_and]
    exact Nat.and_le_left
  have h3 : IntKind.i64.wrap ((BitVec.ofInt 64 a &&& ~~~BitVec.ofInt 64 b).toNat : Int) = 0 := h
  rw [i64_small (by omega)] at h3
  exact BitVec.eq_of_toNat_eq (by simpa using h3)

theorem bits_sub {A L S : BitVec 64} (h1 : A &&& S = S) (h2 : L &&& ~~~S = 0#64) : A &&& L = L := by
  refine BitVec.eq_of_getLsbD_eq fun i hi => ?_
  have k1 := congrArg (fun x => BitVec.getLsbD x i) h1
  have k2 := congrArg (fun x => BitVec.getLsbD x i) h2
  simp only [BitVec.getLsbD_and, BitVec.getLsbD_not, hi, decide_true, Bool.true_and, BitVec.getLsbD_zero] at k1 k2 ⊢
  revert k1 k2
  cases A.getLsbD i <;> cases L.getLsbD i <;> cases S.getLsbD i <;> simp

theorem has_less {a l s : Int} (hl : 0 ≤ l ∧ l ≤ 255) (hs : 0 ≤ s ∧ s ≤ 255) (h : bitS .andNot .i64 l s = 0) (ha : hasB a s = true) : hasB a l = true := by
  unfold hasB at ha ⊢
  rw [decide_eq_true_eq] at ha ⊢
  exact (has_iff hl).2 (bits_sub ((has_iff hs).1 ha) (less_iff hl h))

def Stn.more (s : Stn) (h : Hnd) : Stn := ⟨s.hands ++ [h], s.window, s.duty⟩

open Classical in
theorem mus_more {s : Stn} {h : Hnd} {call len len2 : Int} {seats less : List Int} (hll : less.length = seats.length) (hl : len2 ≤ len) (hs : ∀ x ∈ seats, 0 ≤ x ∧ x ≤ 255) (hls : ∀ x ∈ less, 0 ≤ x ∧ x ≤ 255)
    (hb : ∀ p, p < seats.length → bitS .andNot .i64 (less.getD p 0) (seats.getD p 0) = 0) {j : Nat} {l : List Int} (hm : musG s call len seats = some (j, l)) : ∃ j' l', musG (s.more h) call len2 less = some (j', l') ∧ j' ≤ j := by
  obtain ⟨h1, ⟨h2, h3⟩, _⟩ := musG_some hm
  refine musG_isSome h1 (l := l) ⟨by omega, fun p hp1 hp2 => ?_⟩
  obtain ⟨i, h4, h5, h6, h7⟩ := h3 p hp1 hp2
  have hh := List.getElem?_eq_getElem h5
  have hh2 : (s.more h).hands[i]? = some s.hands[i] := (List.getElem?_append_left h5).trans hh
  refine ⟨i, h4, by unfold Stn.more; rw [List.length_append]; omega, ?_, h7⟩
  rw [can_at hh] at h6
  rw [can_at hh2]
  generalize s.hands[i] = g at h6
  rw [Bool.and_eq_true] at h6 ⊢
  refine ⟨?_, has_less (hls _ (List.mem_of_getElem? (getD_at (by omega) 0))) (hs _ (List.mem_of_getElem? (getD_at (by omega) 0))) (hb p (by omega)) h6.2⟩
  have h8 := h6.1
  unfold canB at h8 ⊢
  rw [Bool.and_eq_true, Bool.and_eq_true, decide_eq_true_eq, decide_eq_true_eq, decide_eq_true_eq] at h8 ⊢
  exact ⟨h8.1, may_less rfl rfl hl h8.2⟩

end Go.Proofs.Ytlbcgkoncnablaa
