/- A part of a proof: the symbolic walk and what it shows of single functions. -/
import Derived.Test.YtcnjhgnlcnmagaaDoorScWd
set_option linter.all false
namespace Go.Proofs.YtcnjhgnlcnmagaaDoor
open Go.RowKit Go.SX
set_option maxRecDepth 20000
set_option maxHeartbeats 8000000
set_option linter.unusedSimpArgs false
set_option linter.unusedVariables false

/-! ### How far it is: plain -/

open Classical in
noncomputable def dst (W H a x : Nat) : Nat := if h : ∃ n, isD W H a x n then h.choose else 0

theorem dst_is {W H a x : Nat} (ha : a < W * H) (hx : x < W * H) : isD W H a x (dst W H a x) := by
  obtain ⟨k, _, hk⟩ := isD_ex ha hx
  unfold dst
  rw [dif_pos ⟨k, hk⟩]
  exact Exists.choose_spec _

theorem dst_lt {W H a x : Nat} (ha : a < W * H) (hx : x < W * H) : dst W H a x < W * H := by
  obtain ⟨k, h1, hk⟩ := isD_ex ha hx
  rw [isD_uniq (dst_is ha hx) hk]
  exact h1

theorem dst_le_symm {W H a x : Nat} (ha : a < W * H) (hx : x < W * H) : dst W H a x ≤ dst W H x a :=
  (dst_is ha hx).2 _ (Rc.symm hx (dst_is hx ha).1)

theorem dst_symm {W H a x : Nat} (ha : a < W * H) (hx : x < W * H) : dst W H a x = dst W H x a := Nat.le_antisymm (dst_le_symm ha hx) (dst_le_symm hx ha)

theorem dst_over {W H a x o : Nat} (ha : a < W * H) (hx : x < W * H) (ho : o < W * H) : dst W H a x ≤ dst W H a o + dst W H o x :=
  (dst_is ha hx).2 _ ((dst_is ha ho).1.trans (dst_is ho hx).1)

theorem rc_zero {W H a x : Nat} (h : Rc W H a 0 x) : x = a := by
  cases h
  rfl

theorem dst_zero {W H a x : Nat} (ha : a < W * H) (hx : x < W * H) : dst W H a x = 0 ↔ a = x := by
  constructor
  · intro h
    have := (dst_is ha hx).1
    rw [h] at this
    exact (rc_zero this).symm
  · rintro rfl
    have := (dst_is ha ha).2 0 .zero
    omega

/-- A neighbour is another cell. -/
theorem bes_ne {W H k d n : Nat} (hk : k < W * H) (hd : d < 6) (h : bes W H k d = some n) : n ≠ k := by
  rintro rfl
  have h2 := bes_back hk hd h
  have hW : 0 < W := by
    cases W with
    | zero => simp at hk
    | succ w => omega
  have hr : n % W < W := Nat.mod_lt _ hW
  have hkk : n / W * W + n % W = n := by rw [Nat.mul_comm]; exact Nat.div_add_mod n W
  unfold bes at h
  simp only [] at h
  generalize hxe : ((n % W : Nat) : Int) + (if n / W % 2 = 1 then (wayAt d).2.1 else (wayAt d).1) = x at h
  generalize hye : ((n / W : Nat) : Int) + (wayAt d).2.2 = y at h
  split at h
  case isFalse => cases h
  rename_i hc
  simp only [Option.some.injEq] at h
  have hn1 : n / W = y.toNat := by
    conv => lhs; rw [← h, Nat.mul_comm, Nat.mul_add_div hW, Nat.div_eq_of_lt (by omega)]
    omega
  have hn2 : n % W = x.toNat := by
    conv => lhs; rw [← h, Nat.mul_comm, Nat.mul_add_mod, Nat.mod_eq_of_lt (by omega)]
  have hd' : d = 0 ∨ d = 1 ∨ d = 2 ∨ d = 3 ∨ d = 4 ∨ d = 5 := by omega
  rcases hd' with rfl | rfl | rfl | rfl | rfl | rfl <;> simp [wayAt, ways6] at hxe hye <;> omega

theorem dst_one {W H a x : Nat} (ha : a < W * H) (hx : x < W * H) : dst W H a x = 1 ↔ x ∈ besL W H a 6 := by
  constructor
  · intro h
    have h1 := (dst_is ha hx).1
    have h0 : ¬ a = x := fun e => by have := (dst_zero ha hx).2 e; omega
    rw [h] at h1
    cases h1 with
    | step hz hy =>
      rw [rc_zero hz] at hy
      rcases List.mem_cons.1 hy with e | e
      · exact absurd e.symm h0
      · exact e
  · intro h
    have h1 := (dst_is ha hx).2 1 (.step .zero (List.mem_cons_of_mem _ h))
    obtain ⟨d, hd, hb⟩ := List.mem_filterMap.1 h
    have := bes_ne ha (by simpa using hd) hb
    have h0 : dst W H a x ≠ 0 := fun e => this ((dst_zero ha hx).1 e).symm
    omega

theorem openE_cells {c : Cht} {a b : Int} (hok : c.ok) (ha : notCell c a = false) (hb : notCell c b = false) : openE c [a, b] [] [] = 0 := by
  unfold openE
  rw [(okB_iff c).2 hok]
  simp [ha, hb]

theorem cell_of {c : Cht} {a : Int} (ha : notCell c a = false) : ∃ A : Nat, a = A ∧ A < c.depth.length := by
  unfold notCell at ha
  rw [Bool.not_eq_false', inB_iff] at ha
  exact ⟨a.toNat, by omega, by omega⟩

/-- Apart of two cells. -/
theorem apart_at (w : World) (hw : Ways w) (v : Value) (c : Cht) (hc : ChOk w v c) (hsm : c.small) (hok : c.ok) (A B : Nat) (hA : A < c.depth.length) (hB : B < c.depth.length) : SX.Fn Tryd.prog 28 [v, I A, I B] w (fun _ => False) fun r N => r = .tuple #[I (dst c.W c.H A B : Nat), I 0] := by
  obtain ⟨eW, eH, hW, hH, hlen⟩ := hok.dims
  refine (apart_fn w hw v c hc hsm A B).mono fun r N h => ?_
  have nc : ∀ X : Nat, X < c.depth.length → notCell c X = false := fun X hX => by
    unfold notCell
    rw [Bool.not_eq_false', inB_iff]
    omega
  rcases h with ⟨h1, _⟩ | ⟨_, d, rfl, hd⟩
  · exact absurd (openE_cells hok (nc A hA) (nc B hB)) h1
  · simp only [Int.toNat_natCast] at hd
    rw [isD_uniq hd (dst_is (by omega) (by omega))]

end Go.Proofs.YtcnjhgnlcnmagaaDoor
