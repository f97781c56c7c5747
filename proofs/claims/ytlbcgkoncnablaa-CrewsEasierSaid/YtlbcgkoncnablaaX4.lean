/- Parts of a proof: the symbolic walk and what it shows of single functions. -/
import Derived.Test.YtlbcgkoncnablaaX3
import Derived.Test.YtlbcgkoncnablaaRows
set_option linter.all false
/- Long rows of one value. -/
namespace Go.SX
open Go.RowKit

def rep (n : Nat) (v : Value) : List Value := List.replicate n v

theorem rep_len (n : Nat) (v : Value) : (rep n v).length = n := List.length_replicate

end Go.SX

/- The tables of the program, read once; what each function needs of them. Written by gen_tab.py. -/
namespace Go.Proofs.Ytlbcgkoncnablaa
open Go.RowKit Go.SX
set_option maxRecDepth 4000

theorem tr0 : arT Try.prog 113 = none := by kernel_rfl
theorem tr1 : arT Try.prog 116 = none := by kernel_rfl
theorem tr2 : arT Try.prog 133 = none := by kernel_rfl
theorem tr3 : arT Try.prog 143 = some (900, 1, none) := by kernel_rfl
theorem tr4 : arT Try.prog 150 = some (101, 1, none) := by kernel_rfl
theorem tr5 : arT Try.prog 22 = none := by kernel_rfl
theorem tr6 : arT Try.prog 37 = none := by kernel_rfl
theorem tr7 : arT Try.prog 38 = none := by kernel_rfl
theorem tr8 : arT Try.prog 49 = none := by kernel_rfl
theorem tr9 : arT Try.prog 59 = none := by kernel_rfl
theorem tr10 : arT Try.prog 72 = none := by kernel_rfl
theorem tr11 : arT Try.prog 97 = none := by kernel_rfl
theorem tr12 : elT Try.prog 113 = some (150, 101, (rep 101 (.int .i8 0)), 101) := by kernel_rfl
theorem tr13 : elT Try.prog 116 = some (122, 1, [.pointer none], 8) := by kernel_rfl
theorem tr14 : elT Try.prog 133 = some (4, 1, [.bool false], 1) := by kernel_rfl
theorem tr15 : elT Try.prog 22 = some (47, 5, [.int .i64 0, .int .i64 0, .int .i64 0, .slice none 0 0, .int .i64 0], 56) := by kernel_rfl
theorem tr16 : elT Try.prog 37 = some (36, 2, [.int .i64 0, .int .i64 0], 16) := by kernel_rfl
theorem tr17 : elT Try.prog 38 = some (3, 1, [.int .i64 0], 8) := by kernel_rfl
theorem tr18 : elT Try.prog 49 = some (51, 3, [.int .i64 0, .int .i64 0, .int .i64 0], 24) := by kernel_rfl
theorem tr19 : elT Try.prog 59 = some (106, 3, [.int .i64 0, .int .i64 0, .int .i64 0], 24) := by kernel_rfl
theorem tr20 : elT Try.prog 72 = some (38, 1, [.slice none 0 0], 24) := by kernel_rfl
theorem tr21 : elT Try.prog 97 = some (100, 3, [.bool false, .int .i64 0, .int .i64 0], 24) := by kernel_rfl
theorem tr22 : intT Try.prog 3 = some .i64 := by kernel_rfl
theorem tr23 : intT Try.prog 69 = some .u64 := by kernel_rfl
theorem tr24 : kdT Try.prog 116 = some 2 := by kernel_rfl
theorem tr25 : kdT Try.prog 149 = some 0 := by kernel_rfl
theorem tr26 : kdT Try.prog 22 = some 2 := by kernel_rfl
theorem tr27 : kdT Try.prog 28 = some 0 := by kernel_rfl
theorem tr28 : kdT Try.prog 3 = some 0 := by kernel_rfl
theorem tr29 : kdT Try.prog 38 = some 2 := by kernel_rfl
theorem tr30 : kdT Try.prog 4 = some 1 := by kernel_rfl
theorem tr31 : ldT Try.prog 100 = some (some 3) := by kernel_rfl
theorem tr32 : ldT Try.prog 106 = some (some 3) := by kernel_rfl
theorem tr33 : ldT Try.prog 113 = some none := by kernel_rfl
theorem tr34 : ldT Try.prog 116 = some none := by kernel_rfl
theorem tr35 : ldT Try.prog 122 = some none := by kernel_rfl
theorem tr36 : ldT Try.prog 140 = some none := by kernel_rfl
theorem tr37 : ldT Try.prog 145 = some (some 1800) := by kernel_rfl
theorem tr38 : ldT Try.prog 149 = some none := by kernel_rfl
theorem tr39 : ldT Try.prog 22 = some none := by kernel_rfl
theorem tr40 : ldT Try.prog 24 = some (some 3) := by kernel_rfl
theorem tr41 : ldT Try.prog 28 = some none := by kernel_rfl
theorem tr42 : ldT Try.prog 3 = some none := by kernel_rfl
theorem tr43 : ldT Try.prog 36 = some (some 2) := by kernel_rfl
theorem tr44 : ldT Try.prog 37 = some none := by kernel_rfl
theorem tr45 : ldT Try.prog 38 = some none := by kernel_rfl
theorem tr46 : ldT Try.prog 4 = some none := by kernel_rfl
theorem tr47 : ldT Try.prog 40 = some (some 3) := by kernel_rfl
theorem tr48 : ldT Try.prog 47 = some (some 5) := by kernel_rfl
theorem tr49 : ldT Try.prog 51 = some (some 3) := by kernel_rfl
theorem tr50 : ldT Try.prog 72 = some none := by kernel_rfl
theorem tr51 : ldT Try.prog 77 = some (some 3) := by kernel_rfl
theorem tr52 : ldT Try.prog 83 = some none := by kernel_rfl
theorem tr53 : ldT Try.prog 92 = some none := by kernel_rfl
theorem tr54 : offT Try.prog 100 0 = some 0 := by kernel_rfl
theorem tr55 : offT Try.prog 100 1 = some 1 := by kernel_rfl
theorem tr56 : offT Try.prog 100 2 = some 2 := by kernel_rfl
theorem tr57 : offT Try.prog 106 0 = some 0 := by kernel_rfl
theorem tr58 : offT Try.prog 106 1 = some 1 := by kernel_rfl
theorem tr59 : offT Try.prog 106 2 = some 2 := by kernel_rfl
theorem tr60 : offT Try.prog 115 0 = some 0 := by kernel_rfl
theorem tr61 : offT Try.prog 115 1 = some 1 := by kernel_rfl
theorem tr62 : offT Try.prog 115 2 = some 2 := by kernel_rfl
theorem tr63 : offT Try.prog 115 3 = some 3 := by kernel_rfl
theorem tr64 : offT Try.prog 118 0 = some 0 := by kernel_rfl
theorem tr65 : offT Try.prog 118 1 = some 3 := by kernel_rfl
theorem tr66 : offT Try.prog 124 0 = some 0 := by kernel_rfl
theorem tr67 : offT Try.prog 124 1 = some 1 := by kernel_rfl
theorem tr68 : offT Try.prog 124 2 = some 2 := by kernel_rfl
theorem tr69 : offT Try.prog 124 3 = some 3 := by kernel_rfl
theorem tr70 : offT Try.prog 124 4 = some 4 := by kernel_rfl
theorem tr71 : offT Try.prog 145 0 = some 0 := by kernel_rfl
theorem tr72 : offT Try.prog 145 1 = some 900 := by kernel_rfl
theorem tr73 : offT Try.prog 24 0 = some 0 := by kernel_rfl
theorem tr74 : offT Try.prog 24 1 = some 1 := by kernel_rfl
theorem tr75 : offT Try.prog 24 2 = some 2 := by kernel_rfl
theorem tr76 : offT Try.prog 36 0 = some 0 := by kernel_rfl
theorem tr77 : offT Try.prog 36 1 = some 1 := by kernel_rfl
theorem tr78 : offT Try.prog 40 0 = some 0 := by kernel_rfl
theorem tr79 : offT Try.prog 40 1 = some 1 := by kernel_rfl
theorem tr80 : offT Try.prog 40 2 = some 2 := by kernel_rfl
theorem tr81 : offT Try.prog 47 0 = some 0 := by kernel_rfl
theorem tr82 : offT Try.prog 47 1 = some 1 := by kernel_rfl
theorem tr83 : offT Try.prog 47 2 = some 3 := by kernel_rfl
theorem tr84 : offT Try.prog 47 3 = some 4 := by kernel_rfl
theorem tr85 : offT Try.prog 51 0 = some 0 := by kernel_rfl
theorem tr86 : offT Try.prog 51 1 = some 1 := by kernel_rfl
theorem tr87 : offT Try.prog 51 2 = some 2 := by kernel_rfl
theorem tr88 : offT Try.prog 61 0 = some 0 := by kernel_rfl
theorem tr89 : offT Try.prog 61 1 = some 1 := by kernel_rfl
theorem tr90 : offT Try.prog 61 2 = some 2 := by kernel_rfl
theorem tr91 : offT Try.prog 77 0 = some 0 := by kernel_rfl
theorem tr92 : offT Try.prog 77 1 = some 1 := by kernel_rfl
theorem tr93 : offT Try.prog 77 2 = some 2 := by kernel_rfl
theorem tr94 : placesT Try.prog 100 = some [(0, 1), (1, 1), (2, 1)] := by kernel_rfl
theorem tr95 : placesT Try.prog 115 = some [(0, 1), (1, 1), (2, 1), (3, 1)] := by kernel_rfl
theorem tr96 : placesT Try.prog 118 = some [(0, 3), (3, 1)] := by kernel_rfl
theorem tr97 : placesT Try.prog 124 = some [(0, 1), (1, 1), (2, 1), (3, 1), (4, 1)] := by kernel_rfl
theorem tr98 : placesT Try.prog 145 = some [(0, 900), (900, 900)] := by kernel_rfl
theorem tr99 : placesT Try.prog 24 = some [(0, 1), (1, 1), (2, 1)] := by kernel_rfl
theorem tr100 : placesT Try.prog 36 = some [(0, 1), (1, 1)] := by kernel_rfl
theorem tr101 : placesT Try.prog 47 = some [(0, 1), (1, 2), (3, 1), (4, 1)] := by kernel_rfl
theorem tr102 : placesT Try.prog 51 = some [(0, 1), (1, 1), (2, 1)] := by kernel_rfl
theorem tr103 : slT Try.prog 113 = some (150, 101) := by kernel_rfl
theorem tr104 : slT Try.prog 116 = some (122, 1) := by kernel_rfl
theorem tr105 : slT Try.prog 133 = some (4, 1) := by kernel_rfl
theorem tr106 : slT Try.prog 143 = none := by kernel_rfl
theorem tr107 : slT Try.prog 150 = none := by kernel_rfl
theorem tr108 : slT Try.prog 22 = some (47, 5) := by kernel_rfl
theorem tr109 : slT Try.prog 37 = some (36, 2) := by kernel_rfl
theorem tr110 : slT Try.prog 38 = some (3, 1) := by kernel_rfl
theorem tr111 : slT Try.prog 49 = some (51, 3) := by kernel_rfl
theorem tr112 : slT Try.prog 59 = some (106, 3) := by kernel_rfl
theorem tr113 : slT Try.prog 72 = some (38, 1) := by kernel_rfl
theorem tr114 : slT Try.prog 97 = some (100, 3) := by kernel_rfl
theorem tr115 : szT Try.prog 100 = some 3 := by kernel_rfl
theorem tr116 : szT Try.prog 106 = some 3 := by kernel_rfl
theorem tr117 : szT Try.prog 116 = some 1 := by kernel_rfl
theorem tr118 : szT Try.prog 122 = some 1 := by kernel_rfl
theorem tr119 : szT Try.prog 140 = some 1 := by kernel_rfl
theorem tr120 : szT Try.prog 149 = some 1 := by kernel_rfl
theorem tr121 : szT Try.prog 22 = some 1 := by kernel_rfl
theorem tr122 : szT Try.prog 24 = some 3 := by kernel_rfl
theorem tr123 : szT Try.prog 28 = some 1 := by kernel_rfl
theorem tr124 : szT Try.prog 3 = some 1 := by kernel_rfl
theorem tr125 : szT Try.prog 36 = some 2 := by kernel_rfl
theorem tr126 : szT Try.prog 37 = some 1 := by kernel_rfl
theorem tr127 : szT Try.prog 38 = some 1 := by kernel_rfl
theorem tr128 : szT Try.prog 4 = some 1 := by kernel_rfl
theorem tr129 : szT Try.prog 47 = some 5 := by kernel_rfl
theorem tr130 : szT Try.prog 51 = some 3 := by kernel_rfl
theorem tr131 : szT Try.prog 72 = some 1 := by kernel_rfl
theorem tr132 : szT Try.prog 92 = some 1 := by kernel_rfl
theorem tr133 : zeroT Try.prog 100 = some [.bool false, .int .i64 0, .int .i64 0] := by kernel_rfl
theorem tr134 : zeroT Try.prog 106 = some [.int .i64 0, .int .i64 0, .int .i64 0] := by kernel_rfl
theorem tr135 : zeroT Try.prog 115 = some [.pointer none, .int .i64 0, .int .i64 0, .slice none 0 0] := by kernel_rfl
theorem tr136 : zeroT Try.prog 118 = some [.slice none 0 0, .int .i64 0, .int .i64 0, .slice none 0 0] := by kernel_rfl
theorem tr137 : zeroT Try.prog 124 = some [.pointer none, .slice none 0 0, .slice none 0 0, .slice none 0 0, .slice none 0 0] := by kernel_rfl
theorem tr138 : zeroT Try.prog 140 = some [.nilFunc] := by kernel_rfl
theorem tr139 : zeroT Try.prog 145 = some (rep 1800 (.bool false)) := by kernel_rfl
theorem tr140 : zeroT Try.prog 24 = some [.slice none 0 0, .int .i64 0, .int .i64 0] := by kernel_rfl
theorem tr141 : zeroT Try.prog 28 = some [.int .i64 0] := by kernel_rfl
theorem tr142 : zeroT Try.prog 3 = some [.int .i64 0] := by kernel_rfl
theorem tr143 : zeroT Try.prog 36 = some [.int .i64 0, .int .i64 0] := by kernel_rfl
theorem tr144 : zeroT Try.prog 38 = some [.slice none 0 0] := by kernel_rfl
theorem tr145 : zeroT Try.prog 47 = some [.int .i64 0, .int .i64 0, .int .i64 0, .slice none 0 0, .int .i64 0] := by kernel_rfl
theorem tr146 : zeroT Try.prog 51 = some [.int .i64 0, .int .i64 0, .int .i64 0] := by kernel_rfl
theorem tr147 : zeroT Try.prog 92 = some [.pointer none] := by kernel_rfl
theorem tf3 : (CallT Try.prog 16 = True) ∧ (CallT Try.prog 17 = True) ∧ (CallT Try.prog 18 = True) ∧ (CallT Try.prog 19 = True) ∧ (CallT Try.prog 20 = True) ∧ (CallT Try.prog 21 = True) ∧ (CallT Try.prog 22 = True) ∧ (kdT Try.prog 28 = some 0) ∧ (kdT Try.prog 3 = some 0) ∧ (ldT Try.prog 24 = some (some 3)) ∧ (szT Try.prog 24 = some 3) ∧ (zeroT Try.prog 24 = some [.slice none 0 0, .int .i64 0, .int .i64 0]) := ⟨eq_true Try.call16, eq_true Try.call17, eq_true Try.call18, eq_true Try.call19, eq_true Try.call20, eq_true Try.call21, eq_true Try.call22, tr27, tr28, tr40, tr122, tr140⟩
theorem tf4 : (CallT Try.prog 16 = True) ∧ (CallT Try.prog 17 = True) ∧ (CallT Try.prog 19 = True) ∧ (CallT Try.prog 22 = True) ∧ (CallT Try.prog 23 = True) ∧ (CallT Try.prog 24 = True) ∧ (elT Try.prog 37 = some (36, 2, [.int .i64 0, .int .i64 0], 16)) ∧ (kdT Try.prog 28 = some 0) ∧ (kdT Try.prog 3 = some 0) ∧ (ldT Try.prog 24 = some (some 3)) ∧ (placesT Try.prog 36 = some [(0, 1), (1, 1)]) ∧ (zeroT Try.prog 36 = some [.int .i64 0, .int .i64 0]) := ⟨eq_true Try.call16, eq_true Try.call17, eq_true Try.call19, eq_true Try.call22, eq_true Try.call23, eq_true Try.call24, tr16, tr27, tr28, tr40, tr100, tr143⟩
theorem tf5 : (CallT Try.prog 16 = True) ∧ (CallT Try.prog 17 = True) ∧ (CallT Try.prog 25 = True) ∧ (CallT Try.prog 26 = True) ∧ (CallT Try.prog 27 = True) ∧ (CallT Try.prog 28 = True) ∧ (arT Try.prog 38 = none) ∧ (kdT Try.prog 28 = some 0) ∧ (kdT Try.prog 3 = some 0) ∧ (ldT Try.prog 24 = some (some 3)) ∧ (ldT Try.prog 3 = some none) ∧ (ldT Try.prog 38 = some none) ∧ (ldT Try.prog 40 = some (some 3)) ∧ (offT Try.prog 40 0 = some 0) ∧ (offT Try.prog 40 1 = some 1) ∧ (offT Try.prog 40 2 = some 2) ∧ (slT Try.prog 38 = some (3, 1)) := ⟨eq_true Try.call16, eq_true Try.call17, eq_true Try.call25, eq_true Try.call26, eq_true Try.call27, eq_true Try.call28, tr7, tr27, tr28, tr40, tr42, tr45, tr47, tr78, tr79, tr80, tr110⟩
theorem tf6 : (CallT Try.prog 16 = True) ∧ (CallT Try.prog 17 = True) ∧ (CallT Try.prog 18 = True) ∧ (CallT Try.prog 25 = True) ∧ (CallT Try.prog 26 = True) ∧ (CallT Try.prog 27 = True) ∧ (arT Try.prog 38 = none) ∧ (elT Try.prog 22 = some (47, 5, [.int .i64 0, .int .i64 0, .int .i64 0, .slice none 0 0, .int .i64 0], 56)) ∧ (kdT Try.prog 28 = some 0) ∧ (kdT Try.prog 3 = some 0) ∧ (ldT Try.prog 22 = some none) ∧ (ldT Try.prog 24 = some (some 3)) ∧ (ldT Try.prog 3 = some none) ∧ (ldT Try.prog 37 = some none) ∧ (ldT Try.prog 38 = some none) ∧ (ldT Try.prog 40 = some (some 3)) ∧ (ldT Try.prog 47 = some (some 5)) ∧ (offT Try.prog 24 0 = some 0) ∧ (offT Try.prog 40 0 = some 0) ∧ (offT Try.prog 40 1 = some 1) ∧ (offT Try.prog 40 2 = some 2) ∧ (offT Try.prog 47 2 = some 3) ∧ (slT Try.prog 22 = some (47, 5)) ∧ (slT Try.prog 37 = some (36, 2)) ∧ (slT Try.prog 38 = some (3, 1)) ∧ (szT Try.prog 22 = some 1) ∧ (szT Try.prog 24 = some 3) ∧ (zeroT Try.prog 24 = some [.slice none 0 0, .int .i64 0, .int .i64 0]) := ⟨eq_true Try.call16, eq_true Try.call17, eq_true Try.call18, eq_true Try.call25, eq_true Try.call26, eq_true Try.call27, tr7, tr15, tr27, tr28, tr39, tr40, tr42, tr44, tr45, tr47, tr48, tr73, tr78, tr79, tr80, tr83, tr108, tr109, tr110, tr121, tr122, tr140⟩
theorem tf7 : (CallT Try.prog 17 = True) ∧ (CallT Try.prog 29 = True) ∧ (CallT Try.prog 30 = True) ∧ (arT Try.prog 38 = none) ∧ (elT Try.prog 49 = some (51, 3, [.int .i64 0, .int .i64 0, .int .i64 0], 24)) ∧ (kdT Try.prog 28 = some 0) ∧ (kdT Try.prog 3 = some 0) ∧ (ldT Try.prog 3 = some none) ∧ (ldT Try.prog 51 = some (some 3)) ∧ (offT Try.prog 51 1 = some 1) ∧ (offT Try.prog 51 2 = some 2) ∧ (slT Try.prog 38 = some (3, 1)) ∧ (slT Try.prog 49 = some (51, 3)) := ⟨eq_true Try.call17, eq_true Try.call29, eq_true Try.call30, tr7, tr18, tr27, tr28, tr42, tr49, tr86, tr87, tr110, tr111⟩
theorem tf8 : (CallT Try.prog 17 = True) ∧ (CallT Try.prog 30 = True) ∧ (CallT Try.prog 31 = True) ∧ (CallT Try.prog 32 = True) ∧ (CallT Try.prog 33 = True) ∧ (CallT Try.prog 34 = True) ∧ (elT Try.prog 49 = some (51, 3, [.int .i64 0, .int .i64 0, .int .i64 0], 24)) ∧ (kdT Try.prog 28 = some 0) ∧ (kdT Try.prog 3 = some 0) ∧ (ldT Try.prog 3 = some none) ∧ (offT Try.prog 36 0 = some 0) ∧ (offT Try.prog 36 1 = some 1) ∧ (slT Try.prog 49 = some (51, 3)) := ⟨eq_true Try.call17, eq_true Try.call30, eq_true Try.call31, eq_true Try.call32, eq_true Try.call33, eq_true Try.call34, tr18, tr27, tr28, tr42, tr76, tr77, tr111⟩
theorem tf9 : (CallT Try.prog 17 = True) ∧ (CallT Try.prog 34 = True) ∧ (CallT Try.prog 35 = True) ∧ (CallT Try.prog 36 = True) ∧ (elT Try.prog 38 = some (3, 1, [.int .i64 0], 8)) ∧ (elT Try.prog 59 = some (106, 3, [.int .i64 0, .int .i64 0, .int .i64 0], 24)) ∧ (kdT Try.prog 28 = some 0) ∧ (kdT Try.prog 3 = some 0) ∧ (ldT Try.prog 3 = some none) ∧ (ldT Try.prog 38 = some none) ∧ (offT Try.prog 61 0 = some 0) ∧ (offT Try.prog 61 1 = some 1) ∧ (offT Try.prog 61 2 = some 2) ∧ (slT Try.prog 38 = some (3, 1)) ∧ (slT Try.prog 59 = some (106, 3)) := ⟨eq_true Try.call17, eq_true Try.call34, eq_true Try.call35, eq_true Try.call36, tr17, tr19, tr27, tr28, tr42, tr45, tr88, tr89, tr90, tr110, tr112⟩
theorem tf10 : (CallT Try.prog 16 = True) ∧ (CallT Try.prog 17 = True) ∧ (CallT Try.prog 18 = True) ∧ (CallT Try.prog 25 = True) ∧ (CallT Try.prog 27 = True) ∧ (CallT Try.prog 34 = True) ∧ (CallT Try.prog 37 = True) ∧ (CallT Try.prog 38 = True) ∧ (CallT Try.prog 39 = True) ∧ (elT Try.prog 38 = some (3, 1, [.int .i64 0], 8)) ∧ (kdT Try.prog 28 = some 0) ∧ (kdT Try.prog 3 = some 0) ∧ (ldT Try.prog 24 = some (some 3)) ∧ (ldT Try.prog 3 = some none) ∧ (ldT Try.prog 38 = some none) ∧ (ldT Try.prog 40 = some (some 3)) ∧ (offT Try.prog 40 0 = some 0) ∧ (offT Try.prog 40 1 = some 1) ∧ (offT Try.prog 40 2 = some 2) ∧ (szT Try.prog 24 = some 3) ∧ (zeroT Try.prog 24 = some [.slice none 0 0, .int .i64 0, .int .i64 0]) := ⟨eq_true Try.call16, eq_true Try.call17, eq_true Try.call18, eq_true Try.call25, eq_true Try.call27, eq_true Try.call34, eq_true Try.call37, eq_true Try.call38, eq_true Try.call39, tr17, tr27, tr28, tr40, tr42, tr45, tr47, tr78, tr79, tr80, tr122, tr140⟩
theorem tf11 : (CallT Try.prog 16 = True) ∧ (CallT Try.prog 17 = True) ∧ (CallT Try.prog 25 = True) ∧ (CallT Try.prog 26 = True) ∧ (CallT Try.prog 27 = True) ∧ (CallT Try.prog 38 = True) ∧ (arT Try.prog 38 = none) ∧ (elT Try.prog 38 = some (3, 1, [.int .i64 0], 8)) ∧ (kdT Try.prog 28 = some 0) ∧ (kdT Try.prog 3 = some 0) ∧ (kdT Try.prog 4 = some 1) ∧ (ldT Try.prog 24 = some (some 3)) ∧ (ldT Try.prog 3 = some none) ∧ (ldT Try.prog 38 = some none) ∧ (ldT Try.prog 40 = some (some 3)) ∧ (offT Try.prog 40 0 = some 0) ∧ (offT Try.prog 40 1 = some 1) ∧ (offT Try.prog 40 2 = some 2) ∧ (slT Try.prog 38 = some (3, 1)) := ⟨eq_true Try.call16, eq_true Try.call17, eq_true Try.call25, eq_true Try.call26, eq_true Try.call27, eq_true Try.call38, tr7, tr17, tr27, tr28, tr30, tr40, tr42, tr45, tr47, tr78, tr79, tr80, tr110⟩
theorem tf12 : (CallT Try.prog 16 = True) ∧ (CallT Try.prog 17 = True) ∧ (CallT Try.prog 18 = True) ∧ (CallT Try.prog 22 = True) ∧ (CallT Try.prog 25 = True) ∧ (CallT Try.prog 34 = True) ∧ (CallT Try.prog 40 = True) ∧ (CallT Try.prog 41 = True) ∧ (elT Try.prog 38 = some (3, 1, [.int .i64 0], 8)) ∧ (kdT Try.prog 28 = some 0) ∧ (kdT Try.prog 3 = some 0) ∧ (ldT Try.prog 22 = some none) ∧ (ldT Try.prog 24 = some (some 3)) ∧ (ldT Try.prog 3 = some none) ∧ (ldT Try.prog 38 = some none) ∧ (ldT Try.prog 40 = some (some 3)) ∧ (offT Try.prog 24 0 = some 0) ∧ (offT Try.prog 40 0 = some 0) ∧ (offT Try.prog 40 1 = some 1) ∧ (offT Try.prog 40 2 = some 2) ∧ (slT Try.prog 22 = some (47, 5)) := ⟨eq_true Try.call16, eq_true Try.call17, eq_true Try.call18, eq_true Try.call22, eq_true Try.call25, eq_true Try.call34, eq_true Try.call40, eq_true Try.call41, tr17, tr27, tr28, tr39, tr40, tr42, tr45, tr47, tr73, tr78, tr79, tr80, tr108⟩
theorem tf13 : (CallT Try.prog 16 = True) ∧ (CallT Try.prog 17 = True) ∧ (CallT Try.prog 23 = True) ∧ (CallT Try.prog 25 = True) ∧ (CallT Try.prog 26 = True) ∧ (CallT Try.prog 27 = True) ∧ (CallT Try.prog 40 = True) ∧ (CallT Try.prog 42 = True) ∧ (arT Try.prog 22 = none) ∧ (arT Try.prog 38 = none) ∧ (elT Try.prog 38 = some (3, 1, [.int .i64 0], 8)) ∧ (intT Try.prog 3 = some .i64) ∧ (intT Try.prog 69 = some .u64) ∧ (kdT Try.prog 28 = some 0) ∧ (kdT Try.prog 3 = some 0) ∧ (ldT Try.prog 22 = some none) ∧ (ldT Try.prog 24 = some (some 3)) ∧ (ldT Try.prog 3 = some none) ∧ (ldT Try.prog 38 = some none) ∧ (ldT Try.prog 40 = some (some 3)) ∧ (offT Try.prog 24 0 = some 0) ∧ (offT Try.prog 40 0 = some 0) ∧ (offT Try.prog 40 1 = some 1) ∧ (offT Try.prog 40 2 = some 2) ∧ (offT Try.prog 47 3 = some 4) ∧ (slT Try.prog 22 = some (47, 5)) ∧ (slT Try.prog 38 = some (3, 1)) := ⟨eq_true Try.call16, eq_true Try.call17, eq_true Try.call23, eq_true Try.call25, eq_true Try.call26, eq_true Try.call27, eq_true Try.call40, eq_true Try.call42, tr5, tr7, tr17, tr22, tr23, tr27, tr28, tr39, tr40, tr42, tr45, tr47, tr73, tr78, tr79, tr80, tr84, tr108, tr110⟩
theorem tf14 : (CallT Try.prog 16 = True) ∧ (CallT Try.prog 17 = True) ∧ (CallT Try.prog 18 = True) ∧ (CallT Try.prog 34 = True) ∧ (CallT Try.prog 43 = True) ∧ (CallT Try.prog 44 = True) ∧ (CallT Try.prog 45 = True) ∧ (arT Try.prog 72 = none) ∧ (elT Try.prog 37 = some (36, 2, [.int .i64 0, .int .i64 0], 16)) ∧ (elT Try.prog 38 = some (3, 1, [.int .i64 0], 8)) ∧ (kdT Try.prog 28 = some 0) ∧ (kdT Try.prog 3 = some 0) ∧ (ldT Try.prog 24 = some (some 3)) ∧ (ldT Try.prog 38 = some none) ∧ (slT Try.prog 72 = some (38, 1)) := ⟨eq_true Try.call16, eq_true Try.call17, eq_true Try.call18, eq_true Try.call34, eq_true Try.call43, eq_true Try.call44, eq_true Try.call45, tr10, tr16, tr17, tr27, tr28, tr40, tr45, tr113⟩
theorem tf15 : (CallT Try.prog 16 = True) ∧ (CallT Try.prog 17 = True) ∧ (CallT Try.prog 43 = True) ∧ (CallT Try.prog 44 = True) ∧ (CallT Try.prog 46 = True) ∧ (CallT Try.prog 47 = True) ∧ (arT Try.prog 38 = none) ∧ (arT Try.prog 72 = none) ∧ (kdT Try.prog 28 = some 0) ∧ (kdT Try.prog 3 = some 0) ∧ (ldT Try.prog 24 = some (some 3)) ∧ (ldT Try.prog 3 = some none) ∧ (ldT Try.prog 37 = some none) ∧ (ldT Try.prog 38 = some none) ∧ (ldT Try.prog 72 = some none) ∧ (ldT Try.prog 77 = some (some 3)) ∧ (offT Try.prog 77 0 = some 0) ∧ (offT Try.prog 77 1 = some 1) ∧ (offT Try.prog 77 2 = some 2) ∧ (slT Try.prog 38 = some (3, 1)) ∧ (slT Try.prog 72 = some (38, 1)) := ⟨eq_true Try.call16, eq_true Try.call17, eq_true Try.call43, eq_true Try.call44, eq_true Try.call46, eq_true Try.call47, tr7, tr10, tr27, tr28, tr40, tr42, tr44, tr45, tr50, tr51, tr91, tr92, tr93, tr110, tr113⟩
theorem tf16 : (CallT Try.prog 22 = True) ∧ (arT Try.prog 22 = none) ∧ (kdT Try.prog 28 = some 0) ∧ (kdT Try.prog 3 = some 0) ∧ (ldT Try.prog 22 = some none) ∧ (ldT Try.prog 24 = some (some 3)) ∧ (ldT Try.prog 3 = some none) ∧ (ldT Try.prog 37 = some none) ∧ (offT Try.prog 24 0 = some 0) ∧ (offT Try.prog 24 1 = some 1) ∧ (offT Try.prog 47 2 = some 3) ∧ (slT Try.prog 22 = some (47, 5)) ∧ (slT Try.prog 37 = some (36, 2)) := ⟨eq_true Try.call22, tr5, tr27, tr28, tr39, tr40, tr42, tr44, tr73, tr74, tr83, tr108, tr109⟩
theorem tf17 : (CallT Try.prog 19 = True) ∧ (CallT Try.prog 27 = True) ∧ (CallT Try.prog 30 = True) ∧ (CallT Try.prog 34 = True) ∧ (CallT Try.prog 48 = True) ∧ (elT Try.prog 38 = some (3, 1, [.int .i64 0], 8)) ∧ (kdT Try.prog 28 = some 0) ∧ (kdT Try.prog 3 = some 0) ∧ (ldT Try.prog 24 = some (some 3)) ∧ (szT Try.prog 24 = some 3) ∧ (zeroT Try.prog 24 = some [.slice none 0 0, .int .i64 0, .int .i64 0]) := ⟨eq_true Try.call19, eq_true Try.call27, eq_true Try.call30, eq_true Try.call34, eq_true Try.call48, tr17, tr27, tr28, tr40, tr122, tr140⟩
theorem tf18 : (arT Try.prog 22 = none) ∧ (elT Try.prog 22 = some (47, 5, [.int .i64 0, .int .i64 0, .int .i64 0, .slice none 0 0, .int .i64 0], 56)) ∧ (elT Try.prog 37 = some (36, 2, [.int .i64 0, .int .i64 0], 16)) ∧ (kdT Try.prog 3 = some 0) ∧ (ldT Try.prog 22 = some none) ∧ (ldT Try.prog 24 = some (some 3)) ∧ (ldT Try.prog 37 = some none) ∧ (ldT Try.prog 47 = some (some 5)) ∧ (offT Try.prog 24 0 = some 0) ∧ (offT Try.prog 47 2 = some 3) ∧ (slT Try.prog 22 = some (47, 5)) ∧ (szT Try.prog 22 = some 1) ∧ (szT Try.prog 24 = some 3) ∧ (szT Try.prog 37 = some 1) ∧ (szT Try.prog 47 = some 5) ∧ (zeroT Try.prog 24 = some [.slice none 0 0, .int .i64 0, .int .i64 0]) ∧ (zeroT Try.prog 47 = some [.int .i64 0, .int .i64 0, .int .i64 0, .slice none 0 0, .int .i64 0]) := ⟨tr5, tr15, tr16, tr28, tr39, tr40, tr44, tr48, tr73, tr83, tr108, tr121, tr122, tr126, tr129, tr140, tr145⟩
theorem tf19 : (CallT Try.prog 49 = True) ∧ (CallT Try.prog 50 = True) ∧ (CallT Try.prog 51 = True) ∧ (kdT Try.prog 28 = some 0) ∧ (kdT Try.prog 3 = some 0) ∧ (ldT Try.prog 22 = some none) ∧ (ldT Try.prog 24 = some (some 3)) ∧ (offT Try.prog 24 0 = some 0) ∧ (slT Try.prog 22 = some (47, 5)) := ⟨eq_true Try.call49, eq_true Try.call50, eq_true Try.call51, tr27, tr28, tr39, tr40, tr73, tr108⟩
theorem tf20 : (CallT Try.prog 22 = True) ∧ (CallT Try.prog 23 = True) ∧ (CallT Try.prog 52 = True) ∧ (CallT Try.prog 53 = True) ∧ (elT Try.prog 37 = some (36, 2, [.int .i64 0, .int .i64 0], 16)) ∧ (kdT Try.prog 28 = some 0) ∧ (kdT Try.prog 3 = some 0) ∧ (ldT Try.prog 24 = some (some 3)) ∧ (placesT Try.prog 36 = some [(0, 1), (1, 1)]) ∧ (zeroT Try.prog 36 = some [.int .i64 0, .int .i64 0]) := ⟨eq_true Try.call22, eq_true Try.call23, eq_true Try.call52, eq_true Try.call53, tr16, tr27, tr28, tr40, tr100, tr143⟩
theorem tf21 : (CallT Try.prog 50 = True) ∧ (CallT Try.prog 54 = True) ∧ (CallT Try.prog 55 = True) ∧ (arT Try.prog 22 = none) ∧ (kdT Try.prog 3 = some 0) ∧ (ldT Try.prog 22 = some none) ∧ (ldT Try.prog 3 = some none) ∧ (ldT Try.prog 37 = some none) ∧ (ldT Try.prog 47 = some (some 5)) ∧ (offT Try.prog 24 0 = some 0) ∧ (offT Try.prog 24 1 = some 1) ∧ (offT Try.prog 24 2 = some 2) ∧ (offT Try.prog 36 0 = some 0) ∧ (offT Try.prog 36 1 = some 1) ∧ (offT Try.prog 47 0 = some 0) ∧ (offT Try.prog 47 1 = some 1) ∧ (offT Try.prog 47 2 = some 3) ∧ (offT Try.prog 47 3 = some 4) ∧ (slT Try.prog 22 = some (47, 5)) ∧ (szT Try.prog 47 = some 5) ∧ (zeroT Try.prog 47 = some [.int .i64 0, .int .i64 0, .int .i64 0, .slice none 0 0, .int .i64 0]) := ⟨eq_true Try.call50, eq_true Try.call54, eq_true Try.call55, tr5, tr28, tr39, tr42, tr44, tr48, tr73, tr74, tr75, tr76, tr77, tr81, tr82, tr83, tr84, tr108, tr129, tr145⟩
theorem tf22 : (CallT Try.prog 52 = True) ∧ (CallT Try.prog 56 = True) ∧ (arT Try.prog 22 = none) ∧ (kdT Try.prog 3 = some 0) ∧ (ldT Try.prog 22 = some none) ∧ (ldT Try.prog 3 = some none) ∧ (ldT Try.prog 47 = some (some 5)) ∧ (offT Try.prog 24 0 = some 0) ∧ (offT Try.prog 24 1 = some 1) ∧ (offT Try.prog 24 2 = some 2) ∧ (slT Try.prog 22 = some (47, 5)) := ⟨eq_true Try.call52, eq_true Try.call56, tr5, tr28, tr39, tr42, tr48, tr73, tr74, tr75, tr108⟩
theorem tf23 : (CallT Try.prog 52 = True) ∧ (kdT Try.prog 3 = some 0) ∧ (ldT Try.prog 22 = some none) ∧ (offT Try.prog 24 0 = some 0) ∧ (slT Try.prog 22 = some (47, 5)) := ⟨eq_true Try.call52, tr28, tr39, tr73, tr108⟩
theorem tf24 : (CallT Try.prog 57 = True) ∧ (arT Try.prog 22 = none) ∧ (arT Try.prog 37 = none) ∧ (kdT Try.prog 3 = some 0) ∧ (ldT Try.prog 22 = some none) ∧ (ldT Try.prog 3 = some none) ∧ (ldT Try.prog 37 = some none) ∧ (offT Try.prog 24 0 = some 0) ∧ (offT Try.prog 24 1 = some 1) ∧ (offT Try.prog 24 2 = some 2) ∧ (offT Try.prog 36 0 = some 0) ∧ (offT Try.prog 36 1 = some 1) ∧ (offT Try.prog 47 2 = some 3) ∧ (slT Try.prog 22 = some (47, 5)) ∧ (slT Try.prog 37 = some (36, 2)) := ⟨eq_true Try.call57, tr5, tr6, tr28, tr39, tr42, tr44, tr73, tr74, tr75, tr76, tr77, tr83, tr108, tr109⟩
theorem tf25 : (kdT Try.prog 3 = some 0) ∧ (ldT Try.prog 3 = some none) ∧ (ldT Try.prog 38 = some none) ∧ (offT Try.prog 40 1 = some 1) ∧ (offT Try.prog 40 2 = some 2) ∧ (slT Try.prog 38 = some (3, 1)) := ⟨tr28, tr42, tr45, tr79, tr80, tr110⟩
theorem tf26 : (CallT Try.prog 22 = True) ∧ (CallT Try.prog 52 = True) ∧ (CallT Try.prog 58 = True) ∧ (kdT Try.prog 28 = some 0) ∧ (ldT Try.prog 24 = some (some 3)) := ⟨eq_true Try.call22, eq_true Try.call52, eq_true Try.call58, tr27, tr40⟩
theorem tf27 : (CallT Try.prog 59 = True) ∧ (CallT Try.prog 60 = True) ∧ (kdT Try.prog 28 = some 0) ∧ (ldT Try.prog 24 = some (some 3)) := ⟨eq_true Try.call59, eq_true Try.call60, tr27, tr40⟩
theorem tf28 : (CallT Try.prog 23 = True) ∧ (CallT Try.prog 24 = True) ∧ (arT Try.prog 22 = none) ∧ (arT Try.prog 38 = none) ∧ (elT Try.prog 37 = some (36, 2, [.int .i64 0, .int .i64 0], 16)) ∧ (kdT Try.prog 3 = some 0) ∧ (ldT Try.prog 22 = some none) ∧ (ldT Try.prog 24 = some (some 3)) ∧ (ldT Try.prog 3 = some none) ∧ (ldT Try.prog 38 = some none) ∧ (ldT Try.prog 47 = some (some 5)) ∧ (offT Try.prog 24 0 = some 0) ∧ (offT Try.prog 36 1 = some 1) ∧ (offT Try.prog 40 0 = some 0) ∧ (offT Try.prog 40 1 = some 1) ∧ (offT Try.prog 40 2 = some 2) ∧ (offT Try.prog 47 0 = some 0) ∧ (offT Try.prog 47 1 = some 1) ∧ (offT Try.prog 47 3 = some 4) ∧ (placesT Try.prog 36 = some [(0, 1), (1, 1)]) ∧ (slT Try.prog 22 = some (47, 5)) ∧ (slT Try.prog 38 = some (3, 1)) ∧ (szT Try.prog 47 = some 5) ∧ (zeroT Try.prog 36 = some [.int .i64 0, .int .i64 0]) ∧ (zeroT Try.prog 47 = some [.int .i64 0, .int .i64 0, .int .i64 0, .slice none 0 0, .int .i64 0]) := ⟨eq_true Try.call23, eq_true Try.call24, tr5, tr7, tr16, tr28, tr39, tr40, tr42, tr45, tr48, tr73, tr77, tr78, tr79, tr80, tr81, tr82, tr84, tr100, tr108, tr110, tr129, tr143, tr145⟩
theorem tf29 : (CallT Try.prog 52 = True) ∧ (CallT Try.prog 61 = True) ∧ (arT Try.prog 49 = none) ∧ (kdT Try.prog 3 = some 0) ∧ (ldT Try.prog 3 = some none) ∧ (offT Try.prog 51 0 = some 0) ∧ (offT Try.prog 51 1 = some 1) ∧ (offT Try.prog 51 2 = some 2) ∧ (slT Try.prog 49 = some (51, 3)) := ⟨eq_true Try.call52, eq_true Try.call61, tr8, tr28, tr42, tr85, tr86, tr87, tr111⟩
theorem tf30 : (CallT Try.prog 62 = True) ∧ (CallT Try.prog 63 = True) ∧ (arT Try.prog 97 = none) ∧ (elT Try.prog 38 = some (3, 1, [.int .i64 0], 8)) ∧ (kdT Try.prog 28 = some 0) ∧ (kdT Try.prog 3 = some 0) ∧ (ldT Try.prog 100 = some (some 3)) ∧ (ldT Try.prog 3 = some none) ∧ (offT Try.prog 100 2 = some 2) ∧ (slT Try.prog 97 = some (100, 3)) ∧ (szT Try.prog 100 = some 3) ∧ (zeroT Try.prog 100 = some [.bool false, .int .i64 0, .int .i64 0]) := ⟨eq_true Try.call62, eq_true Try.call63, tr11, tr17, tr27, tr28, tr31, tr42, tr56, tr114, tr115, tr133⟩
theorem tf31 : (CallT Try.prog 29 = True) ∧ (CallT Try.prog 64 = True) ∧ (elT Try.prog 38 = some (3, 1, [.int .i64 0], 8)) ∧ (kdT Try.prog 28 = some 0) ∧ (kdT Try.prog 3 = some 0) := ⟨eq_true Try.call29, eq_true Try.call64, tr17, tr27, tr28⟩
theorem tf32 : (CallT Try.prog 50 = True) ∧ (CallT Try.prog 62 = True) ∧ (CallT Try.prog 63 = True) ∧ (arT Try.prog 97 = none) ∧ (elT Try.prog 38 = some (3, 1, [.int .i64 0], 8)) ∧ (kdT Try.prog 28 = some 0) ∧ (kdT Try.prog 3 = some 0) ∧ (ldT Try.prog 100 = some (some 3)) ∧ (ldT Try.prog 3 = some none) ∧ (ldT Try.prog 4 = some none) ∧ (offT Try.prog 100 0 = some 0) ∧ (offT Try.prog 100 1 = some 1) ∧ (offT Try.prog 100 2 = some 2) ∧ (slT Try.prog 97 = some (100, 3)) ∧ (szT Try.prog 100 = some 3) ∧ (zeroT Try.prog 100 = some [.bool false, .int .i64 0, .int .i64 0]) := ⟨eq_true Try.call50, eq_true Try.call62, eq_true Try.call63, tr11, tr17, tr27, tr28, tr31, tr42, tr46, tr54, tr55, tr56, tr114, tr115, tr133⟩
theorem tf33 : (CallT Try.prog 29 = True) ∧ (CallT Try.prog 52 = True) ∧ (CallT Try.prog 64 = True) ∧ (elT Try.prog 38 = some (3, 1, [.int .i64 0], 8)) ∧ (kdT Try.prog 28 = some 0) ∧ (kdT Try.prog 3 = some 0) := ⟨eq_true Try.call29, eq_true Try.call52, eq_true Try.call64, tr17, tr27, tr28⟩
theorem tf34 : (arT Try.prog 38 = none) ∧ (kdT Try.prog 3 = some 0) ∧ (ldT Try.prog 3 = some none) ∧ (slT Try.prog 38 = some (3, 1)) := ⟨tr7, tr28, tr42, tr110⟩
theorem tf35 : (CallT Try.prog 50 = True) ∧ (CallT Try.prog 65 = True) ∧ (CallT Try.prog 66 = True) ∧ (CallT Try.prog 67 = True) ∧ (CallT Try.prog 68 = True) ∧ (arT Try.prog 38 = none) ∧ (arT Try.prog 59 = none) ∧ (elT Try.prog 38 = some (3, 1, [.int .i64 0], 8)) ∧ (kdT Try.prog 28 = some 0) ∧ (kdT Try.prog 3 = some 0) ∧ (ldT Try.prog 106 = some (some 3)) ∧ (ldT Try.prog 3 = some none) ∧ (offT Try.prog 106 0 = some 0) ∧ (offT Try.prog 106 1 = some 1) ∧ (offT Try.prog 106 2 = some 2) ∧ (slT Try.prog 38 = some (3, 1)) ∧ (slT Try.prog 59 = some (106, 3)) ∧ (szT Try.prog 106 = some 3) ∧ (szT Try.prog 3 = some 1) ∧ (zeroT Try.prog 106 = some [.int .i64 0, .int .i64 0, .int .i64 0]) := ⟨eq_true Try.call50, eq_true Try.call65, eq_true Try.call66, eq_true Try.call67, eq_true Try.call68, tr7, tr9, tr17, tr27, tr28, tr32, tr42, tr57, tr58, tr59, tr110, tr112, tr116, tr124, tr134⟩
theorem tf36 : (CallT Try.prog 52 = True) ∧ (CallT Try.prog 61 = True) ∧ (arT Try.prog 38 = none) ∧ (arT Try.prog 59 = none) ∧ (elT Try.prog 38 = some (3, 1, [.int .i64 0], 8)) ∧ (intT Try.prog 3 = some .i64) ∧ (intT Try.prog 69 = some .u64) ∧ (kdT Try.prog 3 = some 0) ∧ (ldT Try.prog 106 = some (some 3)) ∧ (ldT Try.prog 3 = some none) ∧ (offT Try.prog 106 0 = some 0) ∧ (offT Try.prog 106 1 = some 1) ∧ (offT Try.prog 106 2 = some 2) ∧ (slT Try.prog 38 = some (3, 1)) ∧ (slT Try.prog 59 = some (106, 3)) ∧ (szT Try.prog 106 = some 3) ∧ (szT Try.prog 3 = some 1) ∧ (zeroT Try.prog 106 = some [.int .i64 0, .int .i64 0, .int .i64 0]) := ⟨eq_true Try.call52, eq_true Try.call61, tr7, tr9, tr17, tr22, tr23, tr28, tr32, tr42, tr57, tr58, tr59, tr110, tr112, tr116, tr124, tr134⟩
theorem tf37 : (CallT Try.prog 26 = True) ∧ (CallT Try.prog 69 = True) ∧ (kdT Try.prog 28 = some 0) ∧ (ldT Try.prog 24 = some (some 3)) := ⟨eq_true Try.call26, eq_true Try.call69, tr27, tr40⟩
theorem tf38 : (CallT Try.prog 59 = True) ∧ (CallT Try.prog 60 = True) ∧ (CallT Try.prog 70 = True) ∧ (CallT Try.prog 71 = True) ∧ (CallT Try.prog 72 = True) ∧ (arT Try.prog 38 = none) ∧ (elT Try.prog 38 = some (3, 1, [.int .i64 0], 8)) ∧ (kdT Try.prog 28 = some 0) ∧ (kdT Try.prog 3 = some 0) ∧ (ldT Try.prog 24 = some (some 3)) ∧ (ldT Try.prog 3 = some none) ∧ (slT Try.prog 38 = some (3, 1)) ∧ (szT Try.prog 3 = some 1) ∧ (zeroT Try.prog 3 = some [.int .i64 0]) := ⟨eq_true Try.call59, eq_true Try.call60, eq_true Try.call70, eq_true Try.call71, eq_true Try.call72, tr7, tr17, tr27, tr28, tr40, tr42, tr110, tr124, tr142⟩
theorem tf39 : (CallT Try.prog 26 = True) ∧ (CallT Try.prog 69 = True) ∧ (arT Try.prog 38 = none) ∧ (elT Try.prog 38 = some (3, 1, [.int .i64 0], 8)) ∧ (kdT Try.prog 28 = some 0) ∧ (kdT Try.prog 3 = some 0) ∧ (ldT Try.prog 24 = some (some 3)) ∧ (ldT Try.prog 3 = some none) ∧ (slT Try.prog 38 = some (3, 1)) := ⟨eq_true Try.call26, eq_true Try.call69, tr7, tr17, tr27, tr28, tr40, tr42, tr110⟩
theorem tf40 : (CallT Try.prog 21 = True) ∧ (CallT Try.prog 50 = True) ∧ (CallT Try.prog 59 = True) ∧ (CallT Try.prog 60 = True) ∧ (CallT Try.prog 73 = True) ∧ (CallT Try.prog 74 = True) ∧ (arT Try.prog 22 = none) ∧ (arT Try.prog 38 = none) ∧ (elT Try.prog 38 = some (3, 1, [.int .i64 0], 8)) ∧ (kdT Try.prog 28 = some 0) ∧ (kdT Try.prog 3 = some 0) ∧ (ldT Try.prog 22 = some none) ∧ (ldT Try.prog 24 = some (some 3)) ∧ (ldT Try.prog 28 = some none) ∧ (ldT Try.prog 3 = some none) ∧ (ldT Try.prog 38 = some none) ∧ (ldT Try.prog 83 = some none) ∧ (ldT Try.prog 92 = some none) ∧ (offT Try.prog 115 0 = some 0) ∧ (offT Try.prog 118 0 = some 0) ∧ (offT Try.prog 24 0 = some 0) ∧ (offT Try.prog 47 3 = some 4) ∧ (slT Try.prog 22 = some (47, 5)) ∧ (slT Try.prog 38 = some (3, 1)) ∧ (szT Try.prog 22 = some 1) ∧ (szT Try.prog 28 = some 1) ∧ (szT Try.prog 3 = some 1) ∧ (szT Try.prog 38 = some 1) ∧ (szT Try.prog 92 = some 1) ∧ (zeroT Try.prog 28 = some [.int .i64 0]) ∧ (zeroT Try.prog 3 = some [.int .i64 0]) ∧ (zeroT Try.prog 38 = some [.slice none 0 0]) ∧ (zeroT Try.prog 92 = some [.pointer none]) := ⟨eq_true Try.call21, eq_true Try.call50, eq_true Try.call59, eq_true Try.call60, eq_true Try.call73, eq_true Try.call74, tr5, tr7, tr17, tr27, tr28, tr39, tr40, tr41, tr42, tr45, tr52, tr53, tr60, tr64, tr73, tr84, tr108, tr110, tr121, tr123, tr124, tr127, tr132, tr141, tr142, tr144, tr147⟩
theorem tf41 : (CallT Try.prog 22 = True) ∧ (CallT Try.prog 26 = True) ∧ (CallT Try.prog 42 = True) ∧ (CallT Try.prog 52 = True) ∧ (CallT Try.prog 69 = True) ∧ (CallT Try.prog 75 = True) ∧ (arT Try.prog 22 = none) ∧ (elT Try.prog 38 = some (3, 1, [.int .i64 0], 8)) ∧ (intT Try.prog 3 = some .i64) ∧ (intT Try.prog 69 = some .u64) ∧ (kdT Try.prog 28 = some 0) ∧ (kdT Try.prog 3 = some 0) ∧ (ldT Try.prog 22 = some none) ∧ (ldT Try.prog 24 = some (some 3)) ∧ (ldT Try.prog 3 = some none) ∧ (offT Try.prog 24 0 = some 0) ∧ (offT Try.prog 47 3 = some 4) ∧ (slT Try.prog 22 = some (47, 5)) ∧ (slT Try.prog 38 = some (3, 1)) := ⟨eq_true Try.call22, eq_true Try.call26, eq_true Try.call42, eq_true Try.call52, eq_true Try.call69, eq_true Try.call75, tr5, tr17, tr22, tr23, tr27, tr28, tr39, tr40, tr42, tr73, tr84, tr108, tr110⟩
theorem tf42 : (CallT Try.prog 18 = True) ∧ (CallT Try.prog 76 = True) ∧ (arT Try.prog 22 = none) ∧ (kdT Try.prog 3 = some 0) ∧ (ldT Try.prog 22 = some none) ∧ (ldT Try.prog 24 = some (some 3)) ∧ (ldT Try.prog 3 = some none) ∧ (offT Try.prog 24 0 = some 0) ∧ (offT Try.prog 47 3 = some 4) ∧ (slT Try.prog 22 = some (47, 5)) ∧ (szT Try.prog 24 = some 3) ∧ (szT Try.prog 3 = some 1) ∧ (zeroT Try.prog 24 = some [.slice none 0 0, .int .i64 0, .int .i64 0]) := ⟨eq_true Try.call18, eq_true Try.call76, tr5, tr28, tr39, tr40, tr42, tr73, tr84, tr108, tr122, tr124, tr140⟩
theorem tf43 : (arT Try.prog 37 = none) ∧ (kdT Try.prog 3 = some 0) ∧ (ldT Try.prog 3 = some none) ∧ (ldT Try.prog 36 = some (some 2)) ∧ (offT Try.prog 36 0 = some 0) ∧ (offT Try.prog 36 1 = some 1) ∧ (slT Try.prog 37 = some (36, 2)) ∧ (slT Try.prog 38 = some (3, 1)) ∧ (szT Try.prog 36 = some 2) ∧ (zeroT Try.prog 36 = some [.int .i64 0, .int .i64 0]) := ⟨tr6, tr28, tr42, tr43, tr76, tr77, tr109, tr110, tr125, tr143⟩
theorem tf44 : (CallT Try.prog 49 = True) ∧ (CallT Try.prog 77 = True) ∧ (CallT Try.prog 78 = True) ∧ (CallT Try.prog 79 = True) ∧ (arT Try.prog 37 = none) ∧ (elT Try.prog 38 = some (3, 1, [.int .i64 0], 8)) ∧ (elT Try.prog 72 = some (38, 1, [.slice none 0 0], 24)) ∧ (kdT Try.prog 28 = some 0) ∧ (kdT Try.prog 3 = some 0) ∧ (ldT Try.prog 116 = some none) ∧ (ldT Try.prog 24 = some (some 3)) ∧ (ldT Try.prog 3 = some none) ∧ (ldT Try.prog 36 = some (some 2)) ∧ (ldT Try.prog 72 = some none) ∧ (offT Try.prog 118 1 = some 3) ∧ (offT Try.prog 124 3 = some 3) ∧ (offT Try.prog 36 0 = some 0) ∧ (offT Try.prog 36 1 = some 1) ∧ (placesT Try.prog 124 = some [(0, 1), (1, 1), (2, 1), (3, 1), (4, 1)]) ∧ (slT Try.prog 37 = some (36, 2)) ∧ (slT Try.prog 38 = some (3, 1)) ∧ (szT Try.prog 36 = some 2) ∧ (szT Try.prog 72 = some 1) ∧ (zeroT Try.prog 124 = some [.pointer none, .slice none 0 0, .slice none 0 0, .slice none 0 0, .slice none 0 0]) ∧ (zeroT Try.prog 36 = some [.int .i64 0, .int .i64 0]) := ⟨eq_true Try.call49, eq_true Try.call77, eq_true Try.call78, eq_true Try.call79, tr6, tr17, tr20, tr27, tr28, tr34, tr40, tr42, tr43, tr50, tr65, tr69, tr76, tr77, tr97, tr109, tr110, tr125, tr131, tr137, tr143⟩
theorem tf45 : (CallT Try.prog 46 = True) ∧ (CallT Try.prog 80 = True) ∧ (kdT Try.prog 28 = some 0) ∧ (ldT Try.prog 24 = some (some 3)) := ⟨eq_true Try.call46, eq_true Try.call80, tr27, tr40⟩
theorem tf46 : (CallT Try.prog 22 = True) ∧ (CallT Try.prog 52 = True) ∧ (CallT Try.prog 58 = True) ∧ (arT Try.prog 37 = none) ∧ (kdT Try.prog 28 = some 0) ∧ (kdT Try.prog 3 = some 0) ∧ (ldT Try.prog 24 = some (some 3)) ∧ (ldT Try.prog 3 = some none) ∧ (offT Try.prog 36 0 = some 0) ∧ (offT Try.prog 36 1 = some 1) ∧ (slT Try.prog 37 = some (36, 2)) := ⟨eq_true Try.call22, eq_true Try.call52, eq_true Try.call58, tr6, tr27, tr28, tr40, tr42, tr76, tr77, tr109⟩
theorem tf47 : (CallT Try.prog 23 = True) ∧ (CallT Try.prog 24 = True) ∧ (arT Try.prog 22 = none) ∧ (arT Try.prog 37 = none) ∧ (arT Try.prog 38 = none) ∧ (arT Try.prog 72 = none) ∧ (elT Try.prog 37 = some (36, 2, [.int .i64 0, .int .i64 0], 16)) ∧ (kdT Try.prog 3 = some 0) ∧ (ldT Try.prog 22 = some none) ∧ (ldT Try.prog 24 = some (some 3)) ∧ (ldT Try.prog 3 = some none) ∧ (ldT Try.prog 36 = some (some 2)) ∧ (ldT Try.prog 37 = some none) ∧ (ldT Try.prog 38 = some none) ∧ (offT Try.prog 24 0 = some 0) ∧ (offT Try.prog 47 0 = some 0) ∧ (offT Try.prog 77 0 = some 0) ∧ (offT Try.prog 77 1 = some 1) ∧ (slT Try.prog 22 = some (47, 5)) ∧ (slT Try.prog 37 = some (36, 2)) ∧ (slT Try.prog 38 = some (3, 1)) ∧ (slT Try.prog 72 = some (38, 1)) := ⟨eq_true Try.call23, eq_true Try.call24, tr5, tr6, tr7, tr10, tr16, tr28, tr39, tr40, tr42, tr43, tr44, tr45, tr73, tr81, tr91, tr92, tr108, tr109, tr110, tr113⟩
theorem tf48 : (elT Try.prog 22 = some (47, 5, [.int .i64 0, .int .i64 0, .int .i64 0, .slice none 0 0, .int .i64 0], 56)) ∧ (elT Try.prog 37 = some (36, 2, [.int .i64 0, .int .i64 0], 16)) ∧ (elT Try.prog 49 = some (51, 3, [.int .i64 0, .int .i64 0, .int .i64 0], 24)) ∧ (ldT Try.prog 24 = some (some 3)) ∧ (placesT Try.prog 24 = some [(0, 1), (1, 1), (2, 1)]) ∧ (placesT Try.prog 36 = some [(0, 1), (1, 1)]) ∧ (placesT Try.prog 47 = some [(0, 1), (1, 2), (3, 1), (4, 1)]) ∧ (placesT Try.prog 51 = some [(0, 1), (1, 1), (2, 1)]) ∧ (szT Try.prog 24 = some 3) ∧ (zeroT Try.prog 24 = some [.slice none 0 0, .int .i64 0, .int .i64 0]) ∧ (zeroT Try.prog 36 = some [.int .i64 0, .int .i64 0]) ∧ (zeroT Try.prog 47 = some [.int .i64 0, .int .i64 0, .int .i64 0, .slice none 0 0, .int .i64 0]) ∧ (zeroT Try.prog 51 = some [.int .i64 0, .int .i64 0, .int .i64 0]) := ⟨tr15, tr16, tr18, tr40, tr99, tr100, tr101, tr102, tr122, tr140, tr143, tr145, tr146⟩
theorem tf49 : (CallT Try.prog 21 = True) ∧ (CallT Try.prog 81 = True) ∧ (arT Try.prog 22 = none) ∧ (elT Try.prog 116 = some (122, 1, [.pointer none], 8)) ∧ (kdT Try.prog 28 = some 0) ∧ (kdT Try.prog 3 = some 0) ∧ (ldT Try.prog 116 = some none) ∧ (ldT Try.prog 22 = some none) ∧ (ldT Try.prog 24 = some (some 3)) ∧ (ldT Try.prog 47 = some (some 5)) ∧ (offT Try.prog 118 1 = some 3) ∧ (offT Try.prog 24 0 = some 0) ∧ (placesT Try.prog 118 = some [(0, 3), (3, 1)]) ∧ (slT Try.prog 22 = some (47, 5)) ∧ (szT Try.prog 116 = some 1) ∧ (szT Try.prog 47 = some 5) ∧ (zeroT Try.prog 118 = some [.slice none 0 0, .int .i64 0, .int .i64 0, .slice none 0 0]) ∧ (zeroT Try.prog 47 = some [.int .i64 0, .int .i64 0, .int .i64 0, .slice none 0 0, .int .i64 0]) := ⟨eq_true Try.call21, eq_true Try.call81, tr5, tr13, tr27, tr28, tr34, tr39, tr40, tr48, tr65, tr73, tr96, tr108, tr117, tr129, tr136, tr145⟩
theorem tf50 : (kdT Try.prog 3 = some 0) := tr28
theorem tf51 : (CallT Try.prog 82 = True) ∧ (CallT Try.prog 83 = True) ∧ (arT Try.prog 116 = none) ∧ (kdT Try.prog 3 = some 0) ∧ (ldT Try.prog 116 = some none) ∧ (ldT Try.prog 122 = some none) ∧ (ldT Try.prog 145 = some (some 1800)) ∧ (ldT Try.prog 3 = some none) ∧ (offT Try.prog 118 0 = some 0) ∧ (offT Try.prog 118 1 = some 3) ∧ (offT Try.prog 24 1 = some 1) ∧ (offT Try.prog 24 2 = some 2) ∧ (placesT Try.prog 36 = some [(0, 1), (1, 1)]) ∧ (slT Try.prog 116 = some (122, 1)) ∧ (zeroT Try.prog 36 = some [.int .i64 0, .int .i64 0]) := ⟨eq_true Try.call82, eq_true Try.call83, tr1, tr28, tr34, tr35, tr37, tr42, tr64, tr65, tr74, tr75, tr100, tr104, tr143⟩
theorem tf52 : (kdT Try.prog 3 = some 0) := tr28
theorem tf53 : (CallT Try.prog 84 = True) ∧ (arT Try.prog 22 = none) ∧ (arT Try.prog 37 = none) ∧ (kdT Try.prog 3 = some 0) ∧ (ldT Try.prog 22 = some none) ∧ (ldT Try.prog 3 = some none) ∧ (ldT Try.prog 36 = some (some 2)) ∧ (ldT Try.prog 37 = some none) ∧ (offT Try.prog 24 0 = some 0) ∧ (offT Try.prog 24 1 = some 1) ∧ (offT Try.prog 24 2 = some 2) ∧ (offT Try.prog 36 0 = some 0) ∧ (offT Try.prog 36 1 = some 1) ∧ (offT Try.prog 47 2 = some 3) ∧ (placesT Try.prog 36 = some [(0, 1), (1, 1)]) ∧ (slT Try.prog 22 = some (47, 5)) ∧ (slT Try.prog 37 = some (36, 2)) ∧ (szT Try.prog 36 = some 2) ∧ (zeroT Try.prog 36 = some [.int .i64 0, .int .i64 0]) := ⟨eq_true Try.call84, tr5, tr6, tr28, tr39, tr42, tr43, tr44, tr73, tr74, tr75, tr76, tr77, tr83, tr100, tr108, tr109, tr125, tr143⟩
theorem tf54 : (CallT Try.prog 50 = True) := eq_true Try.call50
theorem tf55 : (arT Try.prog 37 = none) ∧ (kdT Try.prog 3 = some 0) ∧ (ldT Try.prog 3 = some none) ∧ (ldT Try.prog 36 = some (some 2)) ∧ (offT Try.prog 36 0 = some 0) ∧ (offT Try.prog 36 1 = some 1) ∧ (slT Try.prog 37 = some (36, 2)) ∧ (szT Try.prog 36 = some 2) ∧ (zeroT Try.prog 36 = some [.int .i64 0, .int .i64 0]) := ⟨tr6, tr28, tr42, tr43, tr76, tr77, tr109, tr125, tr143⟩
theorem tf56 : (CallT Try.prog 52 = True) ∧ (CallT Try.prog 85 = True) ∧ (arT Try.prog 37 = none) ∧ (kdT Try.prog 3 = some 0) ∧ (ldT Try.prog 3 = some none) ∧ (ldT Try.prog 37 = some none) ∧ (offT Try.prog 36 0 = some 0) ∧ (offT Try.prog 36 1 = some 1) ∧ (offT Try.prog 47 0 = some 0) ∧ (offT Try.prog 47 1 = some 1) ∧ (offT Try.prog 47 2 = some 3) ∧ (offT Try.prog 47 3 = some 4) ∧ (slT Try.prog 37 = some (36, 2)) := ⟨eq_true Try.call52, eq_true Try.call85, tr6, tr28, tr42, tr44, tr76, tr77, tr81, tr82, tr83, tr84, tr109⟩
theorem tf57 : (arT Try.prog 37 = none) ∧ (kdT Try.prog 3 = some 0) ∧ (ldT Try.prog 3 = some none) ∧ (offT Try.prog 36 0 = some 0) ∧ (offT Try.prog 36 1 = some 1) ∧ (slT Try.prog 37 = some (36, 2)) := ⟨tr6, tr28, tr42, tr76, tr77, tr109⟩
theorem tf58 : (CallT Try.prog 85 = True) ∧ (arT Try.prog 38 = none) ∧ (kdT Try.prog 3 = some 0) ∧ (ldT Try.prog 3 = some none) ∧ (slT Try.prog 38 = some (3, 1)) := ⟨eq_true Try.call85, tr7, tr28, tr42, tr110⟩
theorem tf59 : (CallT Try.prog 49 = True) ∧ (CallT Try.prog 50 = True) ∧ (CallT Try.prog 77 = True) ∧ (elT Try.prog 113 = some (150, 101, (rep 101 (.int .i8 0)), 101)) ∧ (kdT Try.prog 28 = some 0) ∧ (ldT Try.prog 22 = some none) ∧ (ldT Try.prog 24 = some (some 3)) ∧ (offT Try.prog 24 0 = some 0) ∧ (placesT Try.prog 115 = some [(0, 1), (1, 1), (2, 1), (3, 1)]) ∧ (slT Try.prog 22 = some (47, 5)) ∧ (zeroT Try.prog 115 = some [.pointer none, .int .i64 0, .int .i64 0, .slice none 0 0]) := ⟨eq_true Try.call49, eq_true Try.call50, eq_true Try.call77, tr12, tr27, tr39, tr40, tr73, tr95, tr108, tr135⟩
theorem tf60 : (CallT Try.prog 86 = True) ∧ (CallT Try.prog 87 = True) ∧ (kdT Try.prog 3 = some 0) ∧ (ldT Try.prog 3 = some none) ∧ (offT Try.prog 115 1 = some 1) := ⟨eq_true Try.call86, eq_true Try.call87, tr28, tr42, tr61⟩
theorem tf61 : (CallT Try.prog 52 = True) := eq_true Try.call52
theorem tf62 : (CallT Try.prog 50 = True) ∧ (CallT Try.prog 67 = True) ∧ (CallT Try.prog 68 = True) ∧ (arT Try.prog 49 = none) ∧ (elT Try.prog 38 = some (3, 1, [.int .i64 0], 8)) ∧ (kdT Try.prog 28 = some 0) ∧ (kdT Try.prog 3 = some 0) ∧ (ldT Try.prog 3 = some none) ∧ (ldT Try.prog 51 = some (some 3)) ∧ (offT Try.prog 51 0 = some 0) ∧ (offT Try.prog 51 1 = some 1) ∧ (offT Try.prog 51 2 = some 2) ∧ (slT Try.prog 49 = some (51, 3)) ∧ (szT Try.prog 51 = some 3) ∧ (zeroT Try.prog 51 = some [.int .i64 0, .int .i64 0, .int .i64 0]) := ⟨eq_true Try.call50, eq_true Try.call67, eq_true Try.call68, tr8, tr17, tr27, tr28, tr42, tr49, tr85, tr86, tr87, tr111, tr130, tr146⟩
theorem tf63 : (arT Try.prog 49 = none) ∧ (arT Try.prog 97 = none) ∧ (elT Try.prog 97 = some (100, 3, [.bool false, .int .i64 0, .int .i64 0], 24)) ∧ (kdT Try.prog 3 = some 0) ∧ (ldT Try.prog 3 = some none) ∧ (ldT Try.prog 4 = some none) ∧ (ldT Try.prog 51 = some (some 3)) ∧ (offT Try.prog 100 0 = some 0) ∧ (offT Try.prog 100 2 = some 2) ∧ (offT Try.prog 51 0 = some 0) ∧ (offT Try.prog 51 1 = some 1) ∧ (offT Try.prog 51 2 = some 2) ∧ (placesT Try.prog 100 = some [(0, 1), (1, 1), (2, 1)]) ∧ (slT Try.prog 49 = some (51, 3)) ∧ (slT Try.prog 97 = some (100, 3)) ∧ (szT Try.prog 100 = some 3) ∧ (szT Try.prog 3 = some 1) ∧ (szT Try.prog 51 = some 3) ∧ (zeroT Try.prog 100 = some [.bool false, .int .i64 0, .int .i64 0]) ∧ (zeroT Try.prog 51 = some [.int .i64 0, .int .i64 0, .int .i64 0]) := ⟨tr8, tr11, tr21, tr28, tr42, tr46, tr49, tr54, tr56, tr85, tr86, tr87, tr94, tr111, tr114, tr115, tr124, tr130, tr133, tr146⟩
theorem tf64 : (arT Try.prog 49 = none) ∧ (kdT Try.prog 3 = some 0) ∧ (ldT Try.prog 3 = some none) ∧ (ldT Try.prog 51 = some (some 3)) ∧ (offT Try.prog 51 0 = some 0) ∧ (offT Try.prog 51 1 = some 1) ∧ (offT Try.prog 51 2 = some 2) ∧ (slT Try.prog 49 = some (51, 3)) ∧ (szT Try.prog 51 = some 3) ∧ (zeroT Try.prog 51 = some [.int .i64 0, .int .i64 0, .int .i64 0]) := ⟨tr8, tr28, tr42, tr49, tr85, tr86, tr87, tr111, tr130, tr146⟩
theorem tf65 : (CallT Try.prog 88 = True) ∧ (kdT Try.prog 3 = some 0) := ⟨eq_true Try.call88, tr28⟩
theorem tf66 : (CallT Try.prog 50 = True) := eq_true Try.call50
theorem tf67 : (CallT Try.prog 50 = True) ∧ (CallT Try.prog 65 = True) ∧ (CallT Try.prog 89 = True) ∧ (kdT Try.prog 3 = some 0) := ⟨eq_true Try.call50, eq_true Try.call65, eq_true Try.call89, tr28⟩
theorem tf68 : (CallT Try.prog 50 = True) := eq_true Try.call50
theorem tf69 : (CallT Try.prog 90 = True) ∧ (CallT Try.prog 91 = True) ∧ (arT Try.prog 38 = none) ∧ (elT Try.prog 38 = some (3, 1, [.int .i64 0], 8)) ∧ (elT Try.prog 72 = some (38, 1, [.slice none 0 0], 24)) ∧ (kdT Try.prog 3 = some 0) ∧ (ldT Try.prog 22 = some none) ∧ (ldT Try.prog 24 = some (some 3)) ∧ (ldT Try.prog 3 = some none) ∧ (offT Try.prog 24 0 = some 0) ∧ (slT Try.prog 22 = some (47, 5)) ∧ (slT Try.prog 38 = some (3, 1)) := ⟨eq_true Try.call90, eq_true Try.call91, tr7, tr17, tr20, tr28, tr39, tr40, tr42, tr73, tr108, tr110⟩
theorem tf70 : (CallT Try.prog 88 = True) ∧ (arT Try.prog 38 = none) ∧ (kdT Try.prog 3 = some 0) ∧ (ldT Try.prog 3 = some none) ∧ (slT Try.prog 38 = some (3, 1)) ∧ (szT Try.prog 3 = some 1) := ⟨eq_true Try.call88, tr7, tr28, tr42, tr110, tr124⟩
theorem tf71 : (elT Try.prog 38 = some (3, 1, [.int .i64 0], 8)) ∧ (kdT Try.prog 38 = some 2) := ⟨tr17, tr29⟩
theorem tf72 : (kdT Try.prog 3 = some 0) ∧ (ldT Try.prog 3 = some none) := ⟨tr28, tr42⟩
theorem tf73 : (elT Try.prog 22 = some (47, 5, [.int .i64 0, .int .i64 0, .int .i64 0, .slice none 0 0, .int .i64 0], 56)) ∧ (kdT Try.prog 22 = some 2) := ⟨tr15, tr26⟩
theorem tf74 : (CallT Try.prog 92 = True) ∧ (CallT Try.prog 93 = True) ∧ (szT Try.prog 140 = some 1) ∧ (zeroT Try.prog 140 = some [.nilFunc]) := ⟨eq_true Try.call92, eq_true Try.call93, tr119, tr138⟩
theorem tf75 : (arT Try.prog 38 = none) ∧ (kdT Try.prog 3 = some 0) ∧ (ldT Try.prog 3 = some none) ∧ (slT Try.prog 38 = some (3, 1)) := ⟨tr7, tr28, tr42, tr110⟩
theorem tf76 : (arT Try.prog 38 = none) ∧ (kdT Try.prog 3 = some 0) ∧ (ldT Try.prog 3 = some none) ∧ (slT Try.prog 38 = some (3, 1)) := ⟨tr7, tr28, tr42, tr110⟩
theorem tf77 : (CallT Try.prog 65 = True) ∧ (CallT Try.prog 94 = True) ∧ (kdT Try.prog 3 = some 0) ∧ (slT Try.prog 38 = some (3, 1)) := ⟨eq_true Try.call65, eq_true Try.call94, tr28, tr110⟩
theorem tf78 : (elT Try.prog 116 = some (122, 1, [.pointer none], 8)) ∧ (kdT Try.prog 116 = some 2) := ⟨tr13, tr24⟩
theorem tf79 : (CallT Try.prog 79 = True) ∧ (CallT Try.prog 82 = True) ∧ (CallT Try.prog 83 = True) ∧ (arT Try.prog 116 = none) ∧ (arT Try.prog 22 = none) ∧ (arT Try.prog 37 = none) ∧ (arT Try.prog 38 = none) ∧ (arT Try.prog 72 = none) ∧ (kdT Try.prog 3 = some 0) ∧ (ldT Try.prog 116 = some none) ∧ (ldT Try.prog 122 = some none) ∧ (ldT Try.prog 145 = some (some 1800)) ∧ (ldT Try.prog 22 = some none) ∧ (ldT Try.prog 3 = some none) ∧ (ldT Try.prog 36 = some (some 2)) ∧ (ldT Try.prog 37 = some none) ∧ (ldT Try.prog 38 = some none) ∧ (ldT Try.prog 47 = some (some 5)) ∧ (ldT Try.prog 72 = some none) ∧ (ldT Try.prog 83 = some none) ∧ (offT Try.prog 118 0 = some 0) ∧ (offT Try.prog 124 0 = some 0) ∧ (offT Try.prog 124 1 = some 1) ∧ (offT Try.prog 124 2 = some 2) ∧ (offT Try.prog 124 3 = some 3) ∧ (offT Try.prog 124 4 = some 4) ∧ (offT Try.prog 24 0 = some 0) ∧ (offT Try.prog 24 1 = some 1) ∧ (offT Try.prog 24 2 = some 2) ∧ (offT Try.prog 47 0 = some 0) ∧ (slT Try.prog 116 = some (122, 1)) ∧ (slT Try.prog 22 = some (47, 5)) ∧ (slT Try.prog 37 = some (36, 2)) ∧ (slT Try.prog 38 = some (3, 1)) ∧ (slT Try.prog 72 = some (38, 1)) ∧ (szT Try.prog 122 = some 1) ∧ (szT Try.prog 3 = some 1) ∧ (szT Try.prog 47 = some 5) ∧ (zeroT Try.prog 47 = some [.int .i64 0, .int .i64 0, .int .i64 0, .slice none 0 0, .int .i64 0]) := ⟨eq_true Try.call79, eq_true Try.call82, eq_true Try.call83, tr1, tr5, tr6, tr7, tr10, tr28, tr34, tr35, tr37, tr39, tr42, tr43, tr44, tr45, tr48, tr50, tr52, tr64, tr66, tr67, tr68, tr69, tr70, tr73, tr74, tr75, tr81, tr104, tr108, tr109, tr110, tr113, tr118, tr124, tr129, tr145⟩
theorem tf80 : (CallT Try.prog 76 = True) ∧ (CallT Try.prog 80 = True) ∧ (CallT Try.prog 95 = True) ∧ (arT Try.prog 22 = none) ∧ (arT Try.prog 38 = none) ∧ (arT Try.prog 72 = none) ∧ (elT Try.prog 38 = some (3, 1, [.int .i64 0], 8)) ∧ (elT Try.prog 72 = some (38, 1, [.slice none 0 0], 24)) ∧ (kdT Try.prog 3 = some 0) ∧ (ldT Try.prog 22 = some none) ∧ (ldT Try.prog 24 = some (some 3)) ∧ (ldT Try.prog 3 = some none) ∧ (ldT Try.prog 38 = some none) ∧ (offT Try.prog 24 0 = some 0) ∧ (offT Try.prog 47 0 = some 0) ∧ (slT Try.prog 22 = some (47, 5)) ∧ (slT Try.prog 37 = some (36, 2)) ∧ (slT Try.prog 38 = some (3, 1)) ∧ (slT Try.prog 72 = some (38, 1)) ∧ (szT Try.prog 38 = some 1) := ⟨eq_true Try.call76, eq_true Try.call80, eq_true Try.call95, tr5, tr7, tr10, tr17, tr20, tr28, tr39, tr40, tr42, tr45, tr73, tr81, tr108, tr109, tr110, tr113, tr127⟩
theorem tf81 : (arT Try.prog 143 = some (900, 1, none)) ∧ (arT Try.prog 37 = none) ∧ (kdT Try.prog 3 = some 0) ∧ (ldT Try.prog 3 = some none) ∧ (ldT Try.prog 36 = some (some 2)) ∧ (ldT Try.prog 37 = some none) ∧ (offT Try.prog 145 0 = some 0) ∧ (offT Try.prog 36 0 = some 0) ∧ (offT Try.prog 36 1 = some 1) ∧ (offT Try.prog 47 2 = some 3) ∧ (placesT Try.prog 145 = some [(0, 900), (900, 900)]) ∧ (slT Try.prog 143 = none) ∧ (slT Try.prog 37 = some (36, 2)) ∧ (szT Try.prog 36 = some 2) ∧ (szT Try.prog 4 = some 1) ∧ (zeroT Try.prog 145 = some (rep 1800 (.bool false))) ∧ (zeroT Try.prog 36 = some [.int .i64 0, .int .i64 0]) := ⟨tr3, tr6, tr28, tr42, tr43, tr44, tr71, tr76, tr77, tr83, tr98, tr106, tr109, tr125, tr128, tr139, tr143⟩
theorem tf82 : (arT Try.prog 143 = some (900, 1, none)) ∧ (kdT Try.prog 3 = some 0) ∧ (ldT Try.prog 3 = some none) ∧ (offT Try.prog 145 0 = some 0) ∧ (offT Try.prog 145 1 = some 900) ∧ (offT Try.prog 36 0 = some 0) ∧ (offT Try.prog 36 1 = some 1) ∧ (slT Try.prog 143 = none) ∧ (szT Try.prog 4 = some 1) := ⟨tr3, tr28, tr42, tr71, tr72, tr76, tr77, tr106, tr128⟩
theorem tf83 : (CallT Try.prog 96 = True) ∧ (kdT Try.prog 3 = some 0) ∧ (ldT Try.prog 3 = some none) ∧ (szT Try.prog 3 = some 1) ∧ (zeroT Try.prog 3 = some [.int .i64 0]) := ⟨eq_true Try.call96, tr28, tr42, tr124, tr142⟩
theorem tf84 : (kdT Try.prog 3 = some 0) ∧ (ldT Try.prog 3 = some none) ∧ (offT Try.prog 36 0 = some 0) ∧ (offT Try.prog 36 1 = some 1) := ⟨tr28, tr42, tr76, tr77⟩
theorem tf85 : (CallT Try.prog 52 = True) := eq_true Try.call52
theorem tf86 : (CallT Try.prog 86 = True) ∧ (CallT Try.prog 97 = True) ∧ (arT Try.prog 133 = none) ∧ (arT Try.prog 22 = none) ∧ (arT Try.prog 38 = none) ∧ (elT Try.prog 38 = some (3, 1, [.int .i64 0], 8)) ∧ (kdT Try.prog 3 = some 0) ∧ (ldT Try.prog 22 = some none) ∧ (ldT Try.prog 3 = some none) ∧ (ldT Try.prog 4 = some none) ∧ (ldT Try.prog 47 = some (some 5)) ∧ (ldT Try.prog 83 = some none) ∧ (offT Try.prog 115 0 = some 0) ∧ (offT Try.prog 118 0 = some 0) ∧ (offT Try.prog 24 0 = some 0) ∧ (offT Try.prog 47 0 = some 0) ∧ (slT Try.prog 133 = some (4, 1)) ∧ (slT Try.prog 22 = some (47, 5)) ∧ (slT Try.prog 38 = some (3, 1)) ∧ (szT Try.prog 47 = some 5) ∧ (zeroT Try.prog 47 = some [.int .i64 0, .int .i64 0, .int .i64 0, .slice none 0 0, .int .i64 0]) := ⟨eq_true Try.call86, eq_true Try.call97, tr2, tr5, tr7, tr17, tr28, tr39, tr42, tr46, tr48, tr52, tr60, tr64, tr73, tr81, tr105, tr108, tr110, tr129, tr145⟩
theorem tf87 : (CallT Try.prog 98 = True) ∧ (arT Try.prog 22 = none) ∧ (elT Try.prog 133 = some (4, 1, [.bool false], 1)) ∧ (kdT Try.prog 3 = some 0) ∧ (ldT Try.prog 22 = some none) ∧ (ldT Try.prog 3 = some none) ∧ (ldT Try.prog 47 = some (some 5)) ∧ (ldT Try.prog 83 = some none) ∧ (offT Try.prog 115 0 = some 0) ∧ (offT Try.prog 115 1 = some 1) ∧ (offT Try.prog 118 0 = some 0) ∧ (offT Try.prog 24 0 = some 0) ∧ (offT Try.prog 36 1 = some 1) ∧ (offT Try.prog 47 1 = some 1) ∧ (offT Try.prog 47 3 = some 4) ∧ (slT Try.prog 22 = some (47, 5)) ∧ (szT Try.prog 47 = some 5) ∧ (zeroT Try.prog 47 = some [.int .i64 0, .int .i64 0, .int .i64 0, .slice none 0 0, .int .i64 0]) := ⟨eq_true Try.call98, tr5, tr14, tr28, tr39, tr42, tr48, tr52, tr60, tr61, tr64, tr73, tr77, tr82, tr84, tr108, tr129, tr145⟩
theorem tf88 : (arT Try.prog 38 = none) ∧ (kdT Try.prog 3 = some 0) ∧ (ldT Try.prog 3 = some none) ∧ (slT Try.prog 38 = some (3, 1)) := ⟨tr7, tr28, tr42, tr110⟩
theorem tf89 : (CallT Try.prog 68 = True) := eq_true Try.call68
theorem tf90 : (CallT Try.prog 53 = True) ∧ (arT Try.prog 22 = none) ∧ (elT Try.prog 37 = some (36, 2, [.int .i64 0, .int .i64 0], 16)) ∧ (kdT Try.prog 3 = some 0) ∧ (ldT Try.prog 22 = some none) ∧ (ldT Try.prog 24 = some (some 3)) ∧ (ldT Try.prog 3 = some none) ∧ (ldT Try.prog 47 = some (some 5)) ∧ (offT Try.prog 24 0 = some 0) ∧ (offT Try.prog 36 1 = some 1) ∧ (offT Try.prog 47 0 = some 0) ∧ (offT Try.prog 47 1 = some 1) ∧ (offT Try.prog 47 3 = some 4) ∧ (placesT Try.prog 36 = some [(0, 1), (1, 1)]) ∧ (slT Try.prog 22 = some (47, 5)) ∧ (szT Try.prog 47 = some 5) ∧ (zeroT Try.prog 36 = some [.int .i64 0, .int .i64 0]) ∧ (zeroT Try.prog 47 = some [.int .i64 0, .int .i64 0, .int .i64 0, .slice none 0 0, .int .i64 0]) := ⟨eq_true Try.call53, tr5, tr16, tr28, tr39, tr40, tr42, tr48, tr73, tr77, tr81, tr82, tr84, tr100, tr108, tr129, tr143, tr145⟩
theorem tf91 : (CallT Try.prog 76 = True) ∧ (CallT Try.prog 91 = True) ∧ (arT Try.prog 38 = none) ∧ (arT Try.prog 72 = none) ∧ (elT Try.prog 38 = some (3, 1, [.int .i64 0], 8)) ∧ (kdT Try.prog 3 = some 0) ∧ (ldT Try.prog 3 = some none) ∧ (ldT Try.prog 38 = some none) ∧ (slT Try.prog 38 = some (3, 1)) ∧ (slT Try.prog 72 = some (38, 1)) := ⟨eq_true Try.call76, eq_true Try.call91, tr7, tr10, tr17, tr28, tr42, tr45, tr110, tr113⟩
theorem tf92 : (arT Try.prog 38 = none) ∧ (elT Try.prog 38 = some (3, 1, [.int .i64 0], 8)) ∧ (kdT Try.prog 3 = some 0) ∧ (ldT Try.prog 140 = some none) ∧ (ldT Try.prog 3 = some none) ∧ (slT Try.prog 38 = some (3, 1)) := ⟨tr7, tr17, tr28, tr36, tr42, tr110⟩
theorem tf93 : (ldT Try.prog 140 = some none) ∧ (ldT Try.prog 38 = some none) := ⟨tr36, tr45⟩
theorem tf94 : (CallT Try.prog 54 = True) := eq_true Try.call54
theorem tf95 : (CallT Try.prog 53 = True) ∧ (CallT Try.prog 76 = True) ∧ (arT Try.prog 37 = none) ∧ (arT Try.prog 72 = none) ∧ (elT Try.prog 37 = some (36, 2, [.int .i64 0, .int .i64 0], 16)) ∧ (kdT Try.prog 3 = some 0) ∧ (ldT Try.prog 24 = some (some 3)) ∧ (ldT Try.prog 36 = some (some 2)) ∧ (ldT Try.prog 38 = some none) ∧ (slT Try.prog 37 = some (36, 2)) ∧ (slT Try.prog 72 = some (38, 1)) := ⟨eq_true Try.call53, eq_true Try.call76, tr6, tr10, tr16, tr28, tr40, tr43, tr45, tr109, tr113⟩
theorem tf96 : (arT Try.prog 143 = some (900, 1, none)) ∧ (kdT Try.prog 3 = some 0) ∧ (ldT Try.prog 122 = some none) ∧ (ldT Try.prog 3 = some none) ∧ (ldT Try.prog 4 = some none) ∧ (offT Try.prog 145 0 = some 0) ∧ (offT Try.prog 145 1 = some 900) ∧ (slT Try.prog 143 = none) ∧ (szT Try.prog 3 = some 1) := ⟨tr3, tr28, tr35, tr42, tr46, tr71, tr72, tr106, tr124⟩
theorem tf97 : (CallT Try.prog 99 = True) ∧ (kdT Try.prog 3 = some 0) := ⟨eq_true Try.call99, tr28⟩
theorem tf98 : (CallT Try.prog 51 = True) ∧ (arT Try.prog 113 = none) ∧ (arT Try.prog 150 = some (101, 1, none)) ∧ (kdT Try.prog 149 = some 0) ∧ (kdT Try.prog 3 = some 0) ∧ (ldT Try.prog 113 = some none) ∧ (ldT Try.prog 149 = some none) ∧ (ldT Try.prog 3 = some none) ∧ (ldT Try.prog 83 = some none) ∧ (offT Try.prog 115 0 = some 0) ∧ (offT Try.prog 115 1 = some 1) ∧ (offT Try.prog 115 2 = some 2) ∧ (offT Try.prog 115 3 = some 3) ∧ (slT Try.prog 113 = some (150, 101)) ∧ (slT Try.prog 150 = none) ∧ (szT Try.prog 149 = some 1) := ⟨eq_true Try.call51, tr0, tr4, tr25, tr28, tr33, tr38, tr42, tr52, tr60, tr61, tr62, tr63, tr103, tr107, tr120⟩
theorem tf99 : (arT Try.prog 38 = none) ∧ (kdT Try.prog 3 = some 0) ∧ (ldT Try.prog 3 = some none) ∧ (slT Try.prog 38 = some (3, 1)) := ⟨tr7, tr28, tr42, tr110⟩
theorem cT3 : CallT Try.prog 3 = True := eq_true Try.call3
theorem cT4 : CallT Try.prog 4 = True := eq_true Try.call4
theorem cT5 : CallT Try.prog 5 = True := eq_true Try.call5
theorem cT6 : CallT Try.prog 6 = True := eq_true Try.call6
theorem cT7 : CallT Try.prog 7 = True := eq_true Try.call7
theorem cT8 : CallT Try.prog 8 = True := eq_true Try.call8
theorem cT9 : CallT Try.prog 9 = True := eq_true Try.call9
theorem cT10 : CallT Try.prog 10 = True := eq_true Try.call10
theorem cT11 : CallT Try.prog 11 = True := eq_true Try.call11
theorem cT12 : CallT Try.prog 12 = True := eq_true Try.call12
theorem cT13 : CallT Try.prog 13 = True := eq_true Try.call13
theorem cT14 : CallT Try.prog 14 = True := eq_true Try.call14
theorem cT15 : CallT Try.prog 15 = True := eq_true Try.call15
theorem cT16 : CallT Try.prog 16 = True := eq_true Try.call16
theorem cT17 : CallT Try.prog 17 = True := eq_true Try.call17
theorem cT18 : CallT Try.prog 18 = True := eq_true Try.call18
theorem cT19 : CallT Try.prog 19 = True := eq_true Try.call19
theorem cT20 : CallT Try.prog 20 = True := eq_true Try.call20
theorem cT21 : CallT Try.prog 21 = True := eq_true Try.call21
theorem cT22 : CallT Try.prog 22 = True := eq_true Try.call22
theorem cT23 : CallT Try.prog 23 = True := eq_true Try.call23
theorem cT24 : CallT Try.prog 24 = True := eq_true Try.call24
theorem cT25 : CallT Try.prog 25 = True := eq_true Try.call25
theorem cT26 : CallT Try.prog 26 = True := eq_true Try.call26
theorem cT27 : CallT Try.prog 27 = True := eq_true Try.call27
theorem cT28 : CallT Try.prog 28 = True := eq_true Try.call28
theorem cT29 : CallT Try.prog 29 = True := eq_true Try.call29
theorem cT30 : CallT Try.prog 30 = True := eq_true Try.call30
theorem cT31 : CallT Try.prog 31 = True := eq_true Try.call31
theorem cT32 : CallT Try.prog 32 = True := eq_true Try.call32
theorem cT33 : CallT Try.prog 33 = True := eq_true Try.call33
theorem cT34 : CallT Try.prog 34 = True := eq_true Try.call34
theorem cT35 : CallT Try.prog 35 = True := eq_true Try.call35
theorem cT36 : CallT Try.prog 36 = True := eq_true Try.call36
theorem cT37 : CallT Try.prog 37 = True := eq_true Try.call37
theorem cT38 : CallT Try.prog 38 = True := eq_true Try.call38
theorem cT39 : CallT Try.prog 39 = True := eq_true Try.call39
theorem cT40 : CallT Try.prog 40 = True := eq_true Try.call40
theorem cT41 : CallT Try.prog 41 = True := eq_true Try.call41
theorem cT42 : CallT Try.prog 42 = True := eq_true Try.call42
theorem cT43 : CallT Try.prog 43 = True := eq_true Try.call43
theorem cT44 : CallT Try.prog 44 = True := eq_true Try.call44
theorem cT45 : CallT Try.prog 45 = True := eq_true Try.call45
theorem cT46 : CallT Try.prog 46 = True := eq_true Try.call46
theorem cT47 : CallT Try.prog 47 = True := eq_true Try.call47
theorem cT48 : CallT Try.prog 48 = True := eq_true Try.call48
theorem cT49 : CallT Try.prog 49 = True := eq_true Try.call49
theorem cT50 : CallT Try.prog 50 = True := eq_true Try.call50
theorem cT51 : CallT Try.prog 51 = True := eq_true Try.call51
theorem cT52 : CallT Try.prog 52 = True := eq_true Try.call52
theorem cT53 : CallT Try.prog 53 = True := eq_true Try.call53
theorem cT54 : CallT Try.prog 54 = True := eq_true Try.call54
theorem cT55 : CallT Try.prog 55 = True := eq_true Try.call55
theorem cT56 : CallT Try.prog 56 = True := eq_true Try.call56
theorem cT57 : CallT Try.prog 57 = True := eq_true Try.call57
theorem cT58 : CallT Try.prog 58 = True := eq_true Try.call58
theorem cT59 : CallT Try.prog 59 = True := eq_true Try.call59
theorem cT60 : CallT Try.prog 60 = True := eq_true Try.call60
theorem cT61 : CallT Try.prog 61 = True := eq_true Try.call61
theorem cT62 : CallT Try.prog 62 = True := eq_true Try.call62
theorem cT63 : CallT Try.prog 63 = True := eq_true Try.call63
theorem cT64 : CallT Try.prog 64 = True := eq_true Try.call64
theorem cT65 : CallT Try.prog 65 = True := eq_true Try.call65
theorem cT66 : CallT Try.prog 66 = True := eq_true Try.call66
theorem cT67 : CallT Try.prog 67 = True := eq_true Try.call67
theorem cT68 : CallT Try.prog 68 = True := eq_true Try.call68
theorem cT69 : CallT Try.prog 69 = True := eq_true Try.call69
theorem cT70 : CallT Try.prog 70 = True := eq_true Try.call70
theorem cT71 : CallT Try.prog 71 = True := eq_true Try.call71
theorem cT72 : CallT Try.prog 72 = True := eq_true Try.call72
theorem cT73 : CallT Try.prog 73 = True := eq_true Try.call73
theorem cT74 : CallT Try.prog 74 = True := eq_true Try.call74
theorem cT75 : CallT Try.prog 75 = True := eq_true Try.call75
theorem cT76 : CallT Try.prog 76 = True := eq_true Try.call76
theorem cT77 : CallT Try.prog 77 = True := eq_true Try.call77
theorem cT78 : CallT Try.prog 78 = True := eq_true Try.call78
theorem cT79 : CallT Try.prog 79 = True := eq_true Try.call79
theorem cT80 : CallT Try.prog 80 = True := eq_true Try.call80
theorem cT81 : CallT Try.prog 81 = True := eq_true Try.call81
theorem cT82 : CallT Try.prog 82 = True := eq_true Try.call82
theorem cT83 : CallT Try.prog 83 = True := eq_true Try.call83
theorem cT84 : CallT Try.prog 84 = True := eq_true Try.call84
theorem cT85 : CallT Try.prog 85 = True := eq_true Try.call85
theorem cT86 : CallT Try.prog 86 = True := eq_true Try.call86
theorem cT87 : CallT Try.prog 87 = True := eq_true Try.call87
theorem cT88 : CallT Try.prog 88 = True := eq_true Try.call88
theorem cT89 : CallT Try.prog 89 = True := eq_true Try.call89
theorem cT90 : CallT Try.prog 90 = True := eq_true Try.call90
theorem cT91 : CallT Try.prog 91 = True := eq_true Try.call91
theorem cT92 : CallT Try.prog 92 = True := eq_true Try.call92
theorem cT93 : CallT Try.prog 93 = True := eq_true Try.call93
theorem cT94 : CallT Try.prog 94 = True := eq_true Try.call94
theorem cT95 : CallT Try.prog 95 = True := eq_true Try.call95
theorem cT96 : CallT Try.prog 96 = True := eq_true Try.call96
theorem cT97 : CallT Try.prog 97 = True := eq_true Try.call97
theorem cT98 : CallT Try.prog 98 = True := eq_true Try.call98
theorem cT99 : CallT Try.prog 99 = True := eq_true Try.call99
theorem res3 : Try.f3.results.toList = [.tmp 6] := by kernel_rfl
theorem res4 : Try.f4.results.toList = [.tmp 6] := by kernel_rfl
theorem res5 : Try.f5.results.toList = [.tmp 8] := by kernel_rfl
theorem res6 : Try.f6.results.toList = [.tmp 8] := by kernel_rfl
theorem res7 : Try.f7.results.toList = [.tmp 6] := by kernel_rfl
theorem res8 : Try.f8.results.toList = [.tmp 6] := by kernel_rfl
theorem res9 : Try.f9.results.toList = [.tmp 4] := by kernel_rfl
theorem res10 : Try.f10.results.toList = [.tmp 4] := by kernel_rfl
theorem res11 : Try.f11.results.toList = [.tmp 4] := by kernel_rfl
theorem res12 : Try.f12.results.toList = [.tmp 6] := by kernel_rfl
theorem res13 : Try.f13.results.toList = [.tmp 8] := by kernel_rfl
theorem res14 : Try.f14.results.toList = [.tmp 6] := by kernel_rfl
theorem res15 : Try.f15.results.toList = [.tmp 4] := by kernel_rfl
theorem res16 : Try.f16.results.toList = [.tmp 2] := by kernel_rfl
theorem res17 : Try.f17.results.toList = [.tmp 0] := by kernel_rfl
theorem res18 : Try.f18.results.toList = [.cell 2 24] := by kernel_rfl
theorem res19 : Try.f19.results.toList = [.tmp 6, .tmp 7] := by kernel_rfl
theorem res20 : Try.f20.results.toList = [.tmp 6, .tmp 7] := by kernel_rfl
theorem res21 : Try.f21.results.toList = [.tmp 2] := by kernel_rfl
theorem res22 : Try.f22.results.toList = [.tmp 2] := by kernel_rfl
theorem res23 : Try.f23.results.toList = [.tmp 4] := by kernel_rfl
theorem res24 : Try.f24.results.toList = [.tmp 6] := by kernel_rfl
theorem res25 : Try.f25.results.toList = [.tmp 2] := by kernel_rfl
theorem res26 : Try.f26.results.toList = [.tmp 8] := by kernel_rfl
theorem res27 : Try.f27.results.toList = [.tmp 8, .tmp 9, .tmp 10] := by kernel_rfl
theorem res28 : Try.f28.results.toList = [.tmp 8] := by kernel_rfl
theorem res29 : Try.f29.results.toList = [.tmp 6] := by kernel_rfl
theorem res30 : Try.f30.results.toList = [.tmp 6, .tmp 7] := by kernel_rfl
theorem res31 : Try.f31.results.toList = [.tmp 6, .tmp 7] := by kernel_rfl
theorem res32 : Try.f32.results.toList = [.tmp 8, .tmp 9] := by kernel_rfl
theorem res33 : Try.f33.results.toList = [.tmp 8, .tmp 9] := by kernel_rfl
theorem res34 : Try.f34.results.toList = [.tmp 4] := by kernel_rfl
theorem res35 : Try.f35.results.toList = [.tmp 8, .tmp 9] := by kernel_rfl
theorem res36 : Try.f36.results.toList = [.tmp 8, .tmp 9] := by kernel_rfl
theorem res37 : Try.f37.results.toList = [.tmp 8, .tmp 9, .tmp 10] := by kernel_rfl
theorem res38 : Try.f38.results.toList = [.tmp 8, .tmp 9] := by kernel_rfl
theorem res39 : Try.f39.results.toList = [.tmp 8, .tmp 9] := by kernel_rfl
theorem res40 : Try.f40.results.toList = [.cell 10 3, .cell 11 38, .cell 12 28] := by kernel_rfl
theorem res41 : Try.f41.results.toList = [.tmp 10, .tmp 11, .tmp 12] := by kernel_rfl
theorem res42 : Try.f42.results.toList = [.cell 4 24] := by kernel_rfl
theorem res43 : Try.f43.results.toList = [.tmp 4] := by kernel_rfl
theorem res44 : Try.f44.results.toList = [.tmp 6, .tmp 7] := by kernel_rfl
theorem res45 : Try.f45.results.toList = [.tmp 6, .tmp 7] := by kernel_rfl
theorem res46 : Try.f46.results.toList = [.tmp 6] := by kernel_rfl
theorem res47 : Try.f47.results.toList = [.tmp 6] := by kernel_rfl
theorem res48 : Try.f48.results.toList = [.cell 0 24, .tmp 1] := by kernel_rfl
theorem res49 : Try.f49.results.toList = [.tmp 2, .tmp 3] := by kernel_rfl
theorem res50 : Try.f50.results.toList = [.tmp 6] := by kernel_rfl
theorem res51 : Try.f51.results.toList = [.tmp 8] := by kernel_rfl
theorem res52 : Try.f52.results.toList = [.tmp 6] := by kernel_rfl
theorem res53 : Try.f53.results.toList = [.tmp 6] := by kernel_rfl
theorem res54 : Try.f54.results.toList = [.tmp 2] := by kernel_rfl
theorem res55 : Try.f55.results.toList = [.tmp 2] := by kernel_rfl
theorem res56 : Try.f56.results.toList = [.tmp 2] := by kernel_rfl
theorem res57 : Try.f57.results.toList = [.tmp 4] := by kernel_rfl
theorem res58 : Try.f58.results.toList = [.tmp 2] := by kernel_rfl
theorem res59 : Try.f59.results.toList = [.tmp 8, .tmp 9] := by kernel_rfl
theorem res60 : Try.f60.results.toList = [.tmp 4, .tmp 5, .tmp 6] := by kernel_rfl
theorem res61 : Try.f61.results.toList = [.tmp 2] := by kernel_rfl
theorem res62 : Try.f62.results.toList = [.tmp 6] := by kernel_rfl
theorem res63 : Try.f63.results.toList = [.tmp 6] := by kernel_rfl
theorem res64 : Try.f64.results.toList = [.tmp 6, .tmp 7] := by kernel_rfl
theorem res65 : Try.f65.results.toList = [.tmp 4] := by kernel_rfl
theorem res66 : Try.f66.results.toList = [.tmp 2] := by kernel_rfl
theorem res67 : Try.f67.results.toList = [.tmp 6] := by kernel_rfl
theorem res68 : Try.f68.results.toList = [.tmp 2] := by kernel_rfl
theorem res69 : Try.f69.results.toList = [.tmp 8, .tmp 9, .tmp 10] := by kernel_rfl
theorem res70 : Try.f70.results.toList = [.tmp 4] := by kernel_rfl
theorem res71 : Try.f71.results.toList = [.tmp 2] := by kernel_rfl
theorem res72 : Try.f72.results.toList = [.tmp 3] := by kernel_rfl
theorem res73 : Try.f73.results.toList = [.tmp 2] := by kernel_rfl
theorem res74 : Try.f74.results.toList = [.tmp 4] := by kernel_rfl
theorem res75 : Try.f75.results.toList = [.tmp 4] := by kernel_rfl
theorem res76 : Try.f76.results.toList = [.tmp 4] := by kernel_rfl
theorem res77 : Try.f77.results.toList = [.tmp 2] := by kernel_rfl
theorem res78 : Try.f78.results.toList = [.tmp 2] := by kernel_rfl
theorem res79 : Try.f79.results.toList = [.tmp 6] := by kernel_rfl
theorem res80 : Try.f80.results.toList = [.tmp 8, .tmp 9] := by kernel_rfl
theorem res81 : Try.f81.results.toList = [.tmp 2] := by kernel_rfl
theorem res82 : Try.f82.results.toList = [.tmp 4] := by kernel_rfl
theorem res83 : Try.f83.results.toList = [.tmp 6] := by kernel_rfl
theorem res84 : Try.f84.results.toList = [.tmp 4] := by kernel_rfl
theorem res85 : Try.f85.results.toList = [.tmp 2] := by kernel_rfl
theorem res86 : Try.f86.results.toList = [.tmp 8, .tmp 9] := by kernel_rfl
theorem res87 : Try.f87.results.toList = [.tmp 4] := by kernel_rfl
theorem res88 : Try.f88.results.toList = [.tmp 4] := by kernel_rfl
theorem res89 : Try.f89.results.toList = [.tmp 2] := by kernel_rfl
theorem res90 : Try.f90.results.toList = [.tmp 12] := by kernel_rfl
theorem res91 : Try.f91.results.toList = [.tmp 4, .tmp 5] := by kernel_rfl
theorem res92 : Try.f92.results.toList = [.tmp 8] := by kernel_rfl
theorem res93 : Try.f93.results.toList = [] := by kernel_rfl
theorem res94 : Try.f94.results.toList = [.tmp 2] := by kernel_rfl
theorem res95 : Try.f95.results.toList = [.tmp 8] := by kernel_rfl
theorem res96 : Try.f96.results.toList = [] := by kernel_rfl
theorem res97 : Try.f97.results.toList = [.tmp 4] := by kernel_rfl
theorem res98 : Try.f98.results.toList = [.tmp 6] := by kernel_rfl
theorem res99 : Try.f99.results.toList = [.tmp 4] := by kernel_rfl

noncomputable abbrev EV (w : World) (X : Nat → Prop) (re : List Nat) (ord : List (Nat × Plan)) (det : Nat → List Value → Option Value) (cuts : List Nat) : Env := { P := Try.prog, w0 := ⟨w, X⟩, re := re, ord := ord, det := det, cuts := cuts }

abbrev I (n : Int) : Value := .int .i64 n

theorem mixed_prog : Try.prog.follows .mixedOrders = true := by kernel_rfl

theorem walkC {f : Nat} {fn : Func} {c : Code} {args : List Value} {n : Nat} {rs : List ResultVar} {Post : Value → List HO → Prop} {w : World} {X : Nat → Prop} (cuts : List Nat) (re : List Nat) (ord : List (Nat × Plan)) {det : Nat → List Value → Option Value} (hD : DetFn Try.prog ⟨w, X⟩ det)
    (hf : Try.prog.funcs[f]? = some fn) (hb : fn.body = some c) (hn : fn.ntmps = n) (hr : fn.results.toList = rs) (hok : codeB ord c = true) {H0 : List HO}
    (h0 : (∀ h ∈ H0, h.ok w) ∧ (∀ h ∈ H0, ∀ b, h.fp b → X b) ∧ H0.Pairwise Apart)
    (h : W (EV w X re ord det cuts) c (retQ (EV w X re ord det cuts) rs Post) (args.map SV.v ++ List.replicate (n - args.length) (.v undef)) [] H0) : SX.Fn Try.prog f args w X Post := by
  subst hn hr
  exact SX.Fn.intro (E := EV w X re ord det cuts) hf hb trivial hD mixed_prog hok h0 h

theorem walk {f : Nat} {fn : Func} {c : Code} {args : List Value} {n : Nat} {rs : List ResultVar} {Post : Value → List HO → Prop} {w : World} {X : Nat → Prop} (re : List Nat) (ord : List (Nat × Plan)) {det : Nat → List Value → Option Value} (hD : DetFn Try.prog ⟨w, X⟩ det)
    (hf : Try.prog.funcs[f]? = some fn) (hb : fn.body = some c) (hn : fn.ntmps = n) (hr : fn.results.toList = rs) (hok : codeB ord c = true) {H0 : List HO}
    (h0 : (∀ h ∈ H0, h.ok w) ∧ (∀ h ∈ H0, ∀ b, h.fp b → X b) ∧ H0.Pairwise Apart)
    (h : W (EV w X re ord det []) c (retQ (EV w X re ord det []) rs Post) (args.map SV.v ++ List.replicate (n - args.length) (.v undef)) [] H0) : SX.Fn Try.prog f args w X Post :=
  walkC [] re ord hD hf hb hn hr hok h0 h

theorem walkIterR {gf : Nat} {fn : Func} {c : Code} {pre post : List Value} {nt n : Nat} {arg : Nat → List Value → List HO → Prop} {w : World} (Rs : Nat → Prop) (re : List Nat) (ord : List (Nat × Plan)) {det : Nat → List Value → Option Value} (hD : ∀ X, (∀ b, Rs b → ¬ X b) → DetFn Try.prog ⟨w, X⟩ det)
    (hf : Try.prog.funcs[gf]? = some fn) (hb : fn.body = some c) (hn : fn.ntmps = nt) (hr : fn.results.toList = []) (hok : codeB ord c = true)
    (h : ∀ l J C R, (∀ b, Rs b → ¬ (C b ∨ False)) → Handler Try.prog l n arg w C (fun _ => False) J → W (EV w (fun b => C b ∨ False) re ord det []) c (retQ (EV w (fun b => C b ∨ False) re ord det []) [] (iterPost n J)) ((pre ++ [Value.func (.yield l) #[] #[]] ++ post).map SV.v ++ List.replicate (nt - (pre ++ [Value.func (.yield l) #[] #[]] ++ post).length) (.v undef)) [] [consu J (some 0) C R]) :
    Iter Try.prog gf pre post n arg (fun _ => False) Rs w := by
  refine Iter.intro fun l J C R hRs hH hk => ?_
  have hRs' : ∀ b, Rs b → ¬ (C b ∨ False) := fun b hb hc => hc.elim (hRs b hb) id
  have hw := h l J C R hRs' hH
  rw [← hr] at hw
  subst hn
  exact Fn.introZ (E := EV w (fun b => C b ∨ False) re ord det []) (fun b => C b ∨ R b) hf hb trivial (hD _ hRs') mixed_prog hok ⟨fun g hg => by rw [List.mem_singleton] at hg; subst hg; exact hk, fun g hg b => by rw [List.mem_singleton] at hg; subst hg; exact ⟨id, fun x => .inl x⟩, List.pairwise_singleton _ _⟩ hw

theorem walkIter {gf : Nat} {fn : Func} {c : Code} {pre post : List Value} {nt n : Nat} {arg : Nat → List Value → List HO → Prop} {w : World} (re : List Nat) (ord : List (Nat × Plan)) {det : Nat → List Value → Option Value} (hD : ∀ X, DetFn Try.prog ⟨w, X⟩ det)
    (hf : Try.prog.funcs[gf]? = some fn) (hb : fn.body = some c) (hn : fn.ntmps = nt) (hr : fn.results.toList = []) (hok : codeB ord c = true)
    (h : ∀ l J C R, Handler Try.prog l n arg w C (fun _ => False) J → W (EV w (fun b => C b ∨ False) re ord det []) c (retQ (EV w (fun b => C b ∨ False) re ord det []) [] (iterPost n J)) ((pre ++ [Value.func (.yield l) #[] #[]] ++ post).map SV.v ++ List.replicate (nt - (pre ++ [Value.func (.yield l) #[] #[]] ++ post).length) (.v undef)) [] [consu J (some 0) C R]) :
    Iter Try.prog gf pre post n arg (fun _ => False) (fun _ => False) w :=
  walkIterR _ re ord (fun X _ => hD X) hf hb hn hr hok fun l J C R _ => h l J C R

theorem no_facts {w : World} {X : Nat → Prop} : (∀ h ∈ ([] : List HO), h.ok w) ∧ (∀ h ∈ ([] : List HO), ∀ b, h.fp b → X b) ∧ ([] : List HO).Pairwise Apart := ⟨by simp, by simp, List.Pairwise.nil⟩

theorem wrap_id {n : Int} (h : -9223372036854775808 ≤ n ∧ n ≤ 9223372036854775807) : IntKind.i64.wrap n = n := by
  rw [IntKind.wrap_i64]
  omega

end Go.Proofs.Ytlbcgkoncnablaa

