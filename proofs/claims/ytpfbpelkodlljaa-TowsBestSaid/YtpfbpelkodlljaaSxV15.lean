/- A part of a proof: the symbolic walk and what it shows of single functions. -/
import Derived.Test.YtpfbpelkodlljaaSxV14
set_option linter.all false
namespace Go.Proofs.Ytpfbpelkodlljaa
open Go.RowKit Go.SX
set_option maxRecDepth 100000
set_option linter.unusedSimpArgs false
set_option linter.unusedVariables false

/-! ### Sets of units as numbers -/

theorem bits_all : ∀ S : Fin 256, ∀ i : Fin 8,
    ((bitS .and .i64 (((S.val : Nat) : Int).fdiv (2 ^ (min ((i.val : Nat) : Int).toNat IntKind.i64.bits))) 1 == 1) = S.val.testBit i.val ∧
    IntKind.i64.wrap (1 * 2 ^ (min ((i.val : Nat) : Int).toNat IntKind.i64.bits)) = ((2 ^ i.val : Nat) : Int)) ∧
    bitS .andNot .i64 ((S.val : Nat) : Int) ((2 ^ i.val : Nat) : Int) = ((if S.val.testBit i.val then S.val - 2 ^ i.val else S.val : Nat) : Int) := by
  decide +kernel

theorem bit_has {S i : Nat} (hS : S < 256) (hi : i < 8) : (bitS .and .i64 ((S : Int).fdiv (2 ^ (min ((i : Int)).toNat IntKind.i64.bits))) 1 == 1) = S.testBit i := (bits_all ⟨S, hS⟩ ⟨i, hi⟩).1.1
theorem bit_shl {i : Nat} (hi : i < 8) : wr (1 * 2 ^ (min ((i : Int)).toNat IntKind.i64.bits)) = ((2 ^ i : Nat) : Int) := (bits_all ⟨0, by omega⟩ ⟨i, hi⟩).1.2
theorem bit_without {S i : Nat} (hS : S < 256) (hi : i < 8) (h : S.testBit i = true) : bitS .andNot .i64 (S : Int) ((2 ^ i : Nat) : Int) = ((S - 2 ^ i : Nat) : Int) := by
  have := (bits_all ⟨S, hS⟩ ⟨i, hi⟩).2
  simp only [h, if_true] at this
  exact this
theorem bit_one8 {n : Nat} (hn : n ≤ 8) : wr (1 * 2 ^ (min ((n : Int)).toNat IntKind.i64.bits)) = ((2 ^ n : Nat) : Int) := by
  by_cases h : n < 8
  · exact bit_shl h
  · have : n = 8 := by omega
    subst this
    decide +kernel

theorem bit_sub : ∀ S : Fin 256, ∀ i : Fin 8, S.val.testBit i.val = true → 2 ^ i.val ≤ S.val ∧ ∀ j : Fin 8, (S.val - 2 ^ i.val).testBit j.val = (S.val.testBit j.val && j.val != i.val) := by
  decide +kernel

theorem bit_lt : ∀ S : Fin 256, ∀ i : Fin 8, ∀ n : Fin 9, S.val < 2 ^ n.val → S.val.testBit i.val = true → i.val < n.val := by
  decide +kernel

theorem bit_hasP {S i : Nat} (hS : S < 256) (hi : i < 8) : (bitS .and .i64 ((S : Int).fdiv (2 ^ (min i IntKind.i64.bits))) 1 = 1) = (S.testBit i = true) := by
  have := bit_has hS hi
  rw [Int.toNat_natCast] at this
  rw [← this]
  simp

theorem bit_shlP {i : Nat} (hi : i < 8) : IntKind.i64.wrap (1 * 2 ^ (min i IntKind.i64.bits)) = ((2 ^ i : Nat) : Int) := by
  have := bit_shl hi
  rwa [Int.toNat_natCast] at this

theorem bit_one8P {n : Nat} (hn : n ≤ 8) : IntKind.i64.wrap (1 * 2 ^ (min n IntKind.i64.bits)) = ((2 ^ n : Nat) : Int) := by
  have := bit_one8 hn
  rwa [Int.toNat_natCast] at this

end Go.Proofs.Ytpfbpelkodlljaa
