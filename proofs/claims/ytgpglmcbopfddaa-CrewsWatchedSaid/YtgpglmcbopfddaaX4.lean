/- Parts of a proof: the symbolic walk and what it shows of single functions. -/
import Derived.Test.YtgpglmcbopfddaaX3
import Derived.Test.YtgpglmcbopfddaaRows
set_option linter.all false
namespace Go.SX
open Go.RowKit
def rep (n : Nat) (v : Value) : List Value := List.replicate n v
end Go.SX

namespace Go.Proofs.Ytgpglmcbopfddaa
open Go.RowKit Go.SX
set_option maxRecDepth 4000
theorem tr0 : arT Try.prog 101 = none := by kernel_rfl
theorem tr1 : arT Try.prog 110 = none := by kernel_rfl
theorem tr2 : arT Try.prog 122 = some (900, 1, none) := by kernel_rfl
theorem tr3 : arT Try.prog 130 = some (101, 1, none) := by kernel_rfl
theorem tr4 : arT Try.prog 22 = none := by kernel_rfl
theorem tr5 : arT Try.prog 25 = none := by kernel_rfl
theorem tr6 : arT Try.prog 42 = none := by kernel_rfl
theorem tr7 : arT Try.prog 50 = none := by kernel_rfl
theorem tr8 : arT Try.prog 61 = none := by kernel_rfl
theorem tr9 : arT Try.prog 75 = none := by kernel_rfl
theorem tr10 : arT Try.prog 78 = none := by kernel_rfl
theorem tr11 : elT Try.prog 101 = some (104, 3, [.bool false, .int .i64 0, .int .i64 0], 24) := by kernel_rfl
theorem tr12 : elT Try.prog 110 = some (4, 1, [.bool false], 1) := by kernel_rfl
theorem tr13 : elT Try.prog 22 = some (44, 5, [.int .i64 0, .int .i64 0, .int .i64 0, .slice none 0 0, .int .i64 0], 56) := by kernel_rfl
theorem tr14 : elT Try.prog 25 = some (3, 1, [.int .i64 0], 8) := by kernel_rfl
theorem tr15 : elT Try.prog 42 = some (41, 2, [.int .i64 0, .int .i64 0], 16) := by kernel_rfl
theorem tr16 : elT Try.prog 50 = some (25, 1, [.slice none 0 0], 24) := by kernel_rfl
theorem tr17 : elT Try.prog 61 = some (99, 3, [.int .i64 0, .int .i64 0, .int .i64 0], 24) := by kernel_rfl
theorem tr18 : elT Try.prog 75 = some (130, 101, (rep 101 (.int .i8 0)), 101) := by kernel_rfl
theorem tr19 : elT Try.prog 78 = some (90, 1, [.pointer none], 8) := by kernel_rfl
theorem tr22 : kdT Try.prog 129 = some 0 := by kernel_rfl
theorem tr24 : kdT Try.prog 3 = some 0 := by kernel_rfl
theorem tr25 : kdT Try.prog 30 = some 0 := by kernel_rfl
theorem tr26 : kdT Try.prog 78 = some 2 := by kernel_rfl
theorem tr27 : ldT Try.prog 104 = some (some 3) := by kernel_rfl
theorem tr29 : ldT Try.prog 124 = some (some 1800) := by kernel_rfl
theorem tr30 : ldT Try.prog 129 = some none := by kernel_rfl
theorem tr31 : ldT Try.prog 22 = some none := by kernel_rfl
theorem tr32 : ldT Try.prog 24 = some (some 3) := by kernel_rfl
theorem tr33 : ldT Try.prog 25 = some none := by kernel_rfl
theorem tr35 : ldT Try.prog 3 = some none := by kernel_rfl
theorem tr37 : ldT Try.prog 4 = some none := by kernel_rfl
theorem tr38 : ldT Try.prog 41 = some (some 2) := by kernel_rfl
theorem tr39 : ldT Try.prog 42 = some none := by kernel_rfl
theorem tr40 : ldT Try.prog 44 = some (some 5) := by kernel_rfl
theorem tr41 : ldT Try.prog 50 = some none := by kernel_rfl
theorem tr42 : ldT Try.prog 55 = some (some 3) := by kernel_rfl
theorem tr44 : ldT Try.prog 74 = some none := by kernel_rfl
theorem tr45 : ldT Try.prog 75 = some none := by kernel_rfl
theorem tr46 : ldT Try.prog 78 = some none := by kernel_rfl
theorem tr47 : ldT Try.prog 90 = some none := by kernel_rfl
theorem tr48 : ldT Try.prog 99 = some (some 3) := by kernel_rfl
theorem tr49 : offT Try.prog 104 0 = some 0 := by kernel_rfl
theorem tr50 : offT Try.prog 104 2 = some 2 := by kernel_rfl
theorem tr51 : offT Try.prog 124 0 = some 0 := by kernel_rfl
theorem tr52 : offT Try.prog 124 1 = some 900 := by kernel_rfl
theorem tr53 : offT Try.prog 24 0 = some 0 := by kernel_rfl
theorem tr54 : offT Try.prog 24 1 = some 1 := by kernel_rfl
theorem tr55 : offT Try.prog 24 2 = some 2 := by kernel_rfl
theorem tr59 : offT Try.prog 41 0 = some 0 := by kernel_rfl
theorem tr60 : offT Try.prog 41 1 = some 1 := by kernel_rfl
theorem tr61 : offT Try.prog 44 0 = some 0 := by kernel_rfl
theorem tr62 : offT Try.prog 44 1 = some 1 := by kernel_rfl
theorem tr63 : offT Try.prog 44 2 = some 3 := by kernel_rfl
theorem tr64 : offT Try.prog 44 3 = some 4 := by kernel_rfl
theorem tr65 : offT Try.prog 55 0 = some 0 := by kernel_rfl
theorem tr66 : offT Try.prog 55 1 = some 1 := by kernel_rfl
theorem tr67 : offT Try.prog 55 2 = some 2 := by kernel_rfl
theorem tr68 : offT Try.prog 77 0 = some 0 := by kernel_rfl
theorem tr69 : offT Try.prog 77 1 = some 1 := by kernel_rfl
theorem tr70 : offT Try.prog 77 2 = some 2 := by kernel_rfl
theorem tr71 : offT Try.prog 77 3 = some 3 := by kernel_rfl
theorem tr72 : offT Try.prog 80 0 = some 0 := by kernel_rfl
theorem tr73 : offT Try.prog 80 1 = some 3 := by kernel_rfl
theorem tr74 : offT Try.prog 92 0 = some 0 := by kernel_rfl
theorem tr75 : offT Try.prog 92 1 = some 1 := by kernel_rfl
theorem tr76 : offT Try.prog 92 2 = some 2 := by kernel_rfl
theorem tr77 : offT Try.prog 92 3 = some 3 := by kernel_rfl
theorem tr78 : offT Try.prog 92 4 = some 4 := by kernel_rfl
theorem tr79 : offT Try.prog 99 0 = some 0 := by kernel_rfl
theorem tr80 : offT Try.prog 99 1 = some 1 := by kernel_rfl
theorem tr81 : offT Try.prog 99 2 = some 2 := by kernel_rfl
theorem tr82 : placesT Try.prog 104 = some [(0, 1), (1, 1), (2, 1)] := by kernel_rfl
theorem tr83 : placesT Try.prog 124 = some [(0, 900), (900, 900)] := by kernel_rfl
theorem tr84 : placesT Try.prog 24 = some [(0, 1), (1, 1), (2, 1)] := by kernel_rfl
theorem tr85 : placesT Try.prog 41 = some [(0, 1), (1, 1)] := by kernel_rfl
theorem tr86 : placesT Try.prog 44 = some [(0, 1), (1, 2), (3, 1), (4, 1)] := by kernel_rfl
theorem tr87 : placesT Try.prog 77 = some [(0, 1), (1, 1), (2, 1), (3, 1)] := by kernel_rfl
theorem tr88 : placesT Try.prog 80 = some [(0, 3), (3, 1)] := by kernel_rfl
theorem tr89 : placesT Try.prog 92 = some [(0, 1), (1, 1), (2, 1), (3, 1), (4, 1)] := by kernel_rfl
theorem tr90 : placesT Try.prog 99 = some [(0, 1), (1, 1), (2, 1)] := by kernel_rfl
theorem tr91 : slT Try.prog 101 = some (104, 3) := by kernel_rfl
theorem tr92 : slT Try.prog 110 = some (4, 1) := by kernel_rfl
theorem tr93 : slT Try.prog 122 = none := by kernel_rfl
theorem tr94 : slT Try.prog 130 = none := by kernel_rfl
theorem tr95 : slT Try.prog 22 = some (44, 5) := by kernel_rfl
theorem tr96 : slT Try.prog 25 = some (3, 1) := by kernel_rfl
theorem tr97 : slT Try.prog 42 = some (41, 2) := by kernel_rfl
theorem tr98 : slT Try.prog 50 = some (25, 1) := by kernel_rfl
theorem tr99 : slT Try.prog 61 = some (99, 3) := by kernel_rfl
theorem tr100 : slT Try.prog 75 = some (130, 101) := by kernel_rfl
theorem tr101 : slT Try.prog 78 = some (90, 1) := by kernel_rfl
theorem tr102 : szT Try.prog 104 = some 3 := by kernel_rfl
theorem tr104 : szT Try.prog 129 = some 1 := by kernel_rfl
theorem tr106 : szT Try.prog 24 = some 3 := by kernel_rfl
theorem tr108 : szT Try.prog 3 = some 1 := by kernel_rfl
theorem tr110 : szT Try.prog 4 = some 1 := by kernel_rfl
theorem tr111 : szT Try.prog 41 = some 2 := by kernel_rfl
theorem tr113 : szT Try.prog 44 = some 5 := by kernel_rfl
theorem tr114 : szT Try.prog 50 = some 1 := by kernel_rfl
theorem tr116 : szT Try.prog 78 = some 1 := by kernel_rfl
theorem tr117 : szT Try.prog 90 = some 1 := by kernel_rfl
theorem tr118 : szT Try.prog 99 = some 3 := by kernel_rfl
theorem tr119 : zeroT Try.prog 104 = some [.bool false, .int .i64 0, .int .i64 0] := by kernel_rfl
theorem tr121 : zeroT Try.prog 124 = some (rep 1800 (.bool false)) := by kernel_rfl
theorem tr122 : zeroT Try.prog 24 = some [.slice none 0 0, .int .i64 0, .int .i64 0] := by kernel_rfl
theorem tr124 : zeroT Try.prog 3 = some [.int .i64 0] := by kernel_rfl
theorem tr126 : zeroT Try.prog 41 = some [.int .i64 0, .int .i64 0] := by kernel_rfl
theorem tr127 : zeroT Try.prog 44 = some [.int .i64 0, .int .i64 0, .int .i64 0, .slice none 0 0, .int .i64 0] := by kernel_rfl
theorem tr129 : zeroT Try.prog 77 = some [.pointer none, .int .i64 0, .int .i64 0, .slice none 0 0] := by kernel_rfl
theorem tr130 : zeroT Try.prog 80 = some [.slice none 0 0, .int .i64 0, .int .i64 0, .slice none 0 0] := by kernel_rfl
theorem tr131 : zeroT Try.prog 92 = some [.pointer none, .slice none 0 0, .slice none 0 0, .slice none 0 0, .slice none 0 0] := by kernel_rfl
theorem tr132 : zeroT Try.prog 99 = some [.int .i64 0, .int .i64 0, .int .i64 0] := by kernel_rfl
theorem tf6 : (CallT Try.prog 10 = True) ∧ (CallT Try.prog 19 = True) ∧ (CallT Try.prog 20 = True) ∧ (CallT Try.prog 22 = True) ∧ (CallT Try.prog 23 = True) ∧ (CallT Try.prog 7 = True) ∧ (arT Try.prog 25 = none) ∧ (arT Try.prog 50 = none) ∧ (kdT Try.prog 3 = some 0) ∧ (kdT Try.prog 30 = some 0) ∧ (ldT Try.prog 24 = some (some 3)) ∧ (ldT Try.prog 25 = some none) ∧ (ldT Try.prog 3 = some none) ∧ (ldT Try.prog 42 = some none) ∧ (ldT Try.prog 50 = some none) ∧ (ldT Try.prog 55 = some (some 3)) ∧ (offT Try.prog 55 0 = some 0) ∧ (offT Try.prog 55 1 = some 1) ∧ (offT Try.prog 55 2 = some 2) ∧ (slT Try.prog 25 = some (3, 1)) ∧ (slT Try.prog 50 = some (25, 1)) := ⟨eq_true Try.call10, eq_true Try.call19, eq_true Try.call20, eq_true Try.call22, eq_true Try.call23, eq_true Try.call7, tr5, tr7, tr24, tr25, tr32, tr33, tr35, tr39, tr41, tr42, tr65, tr66, tr67, tr96, tr98⟩
theorem tf7 : (CallT Try.prog 9 = True) ∧ (arT Try.prog 22 = none) ∧ (kdT Try.prog 3 = some 0) ∧ (kdT Try.prog 30 = some 0) ∧ (ldT Try.prog 22 = some none) ∧ (ldT Try.prog 24 = some (some 3)) ∧ (ldT Try.prog 3 = some none) ∧ (ldT Try.prog 42 = some none) ∧ (offT Try.prog 24 0 = some 0) ∧ (offT Try.prog 24 1 = some 1) ∧ (offT Try.prog 44 2 = some 3) ∧ (slT Try.prog 22 = some (44, 5)) ∧ (slT Try.prog 42 = some (41, 2)) := ⟨eq_true Try.call9, tr4, tr24, tr25, tr31, tr32, tr35, tr39, tr53, tr54, tr63, tr95, tr97⟩
theorem tf9 : (CallT Try.prog 24 = True) ∧ (CallT Try.prog 25 = True) ∧ (arT Try.prog 22 = none) ∧ (kdT Try.prog 3 = some 0) ∧ (ldT Try.prog 22 = some none) ∧ (ldT Try.prog 3 = some none) ∧ (ldT Try.prog 44 = some (some 5)) ∧ (offT Try.prog 24 0 = some 0) ∧ (offT Try.prog 24 1 = some 1) ∧ (offT Try.prog 24 2 = some 2) ∧ (slT Try.prog 22 = some (44, 5)) := ⟨eq_true Try.call24, eq_true Try.call25, tr4, tr24, tr31, tr35, tr40, tr53, tr54, tr55, tr95⟩
theorem tf10 : (CallT Try.prog 14 = True) ∧ (CallT Try.prog 17 = True) ∧ (CallT Try.prog 26 = True) ∧ (CallT Try.prog 27 = True) ∧ (CallT Try.prog 28 = True) ∧ (elT Try.prog 25 = some (3, 1, [.int .i64 0], 8)) ∧ (kdT Try.prog 3 = some 0) ∧ (kdT Try.prog 30 = some 0) ∧ (ldT Try.prog 24 = some (some 3)) ∧ (szT Try.prog 24 = some 3) ∧ (zeroT Try.prog 24 = some [.slice none 0 0, .int .i64 0, .int .i64 0]) := ⟨eq_true Try.call14, eq_true Try.call17, eq_true Try.call26, eq_true Try.call27, eq_true Try.call28, tr14, tr24, tr25, tr32, tr106, tr122⟩
theorem tf14 : (arT Try.prog 25 = none) ∧ (kdT Try.prog 3 = some 0) ∧ (ldT Try.prog 3 = some none) ∧ (slT Try.prog 25 = some (3, 1)) := ⟨tr5, tr24, tr35, tr96⟩
theorem tf16 : (CallT Try.prog 24 = True) ∧ (kdT Try.prog 3 = some 0) ∧ (ldT Try.prog 22 = some none) ∧ (offT Try.prog 24 0 = some 0) ∧ (slT Try.prog 22 = some (44, 5)) := ⟨eq_true Try.call24, tr24, tr31, tr53, tr95⟩
theorem tf17 : (CallT Try.prog 32 = True) ∧ (CallT Try.prog 34 = True) ∧ (kdT Try.prog 30 = some 0) ∧ (ldT Try.prog 24 = some (some 3)) := ⟨eq_true Try.call32, eq_true Try.call34, tr25, tr32⟩
theorem tf19 : (arT Try.prog 42 = none) ∧ (kdT Try.prog 3 = some 0) ∧ (ldT Try.prog 3 = some none) ∧ (ldT Try.prog 41 = some (some 2)) ∧ (offT Try.prog 41 0 = some 0) ∧ (offT Try.prog 41 1 = some 1) ∧ (slT Try.prog 25 = some (3, 1)) ∧ (slT Try.prog 42 = some (41, 2)) ∧ (szT Try.prog 41 = some 2) ∧ (zeroT Try.prog 41 = some [.int .i64 0, .int .i64 0]) := ⟨tr6, tr24, tr35, tr38, tr59, tr60, tr96, tr97, tr111, tr126⟩
theorem tf20 : (CallT Try.prog 39 = True) ∧ (CallT Try.prog 40 = True) ∧ (CallT Try.prog 41 = True) ∧ (CallT Try.prog 42 = True) ∧ (arT Try.prog 42 = none) ∧ (elT Try.prog 25 = some (3, 1, [.int .i64 0], 8)) ∧ (elT Try.prog 50 = some (25, 1, [.slice none 0 0], 24)) ∧ (kdT Try.prog 3 = some 0) ∧ (kdT Try.prog 30 = some 0) ∧ (ldT Try.prog 24 = some (some 3)) ∧ (ldT Try.prog 3 = some none) ∧ (ldT Try.prog 41 = some (some 2)) ∧ (ldT Try.prog 50 = some none) ∧ (ldT Try.prog 78 = some none) ∧ (offT Try.prog 41 0 = some 0) ∧ (offT Try.prog 41 1 = some 1) ∧ (offT Try.prog 80 1 = some 3) ∧ (offT Try.prog 92 3 = some 3) ∧ (placesT Try.prog 92 = some [(0, 1), (1, 1), (2, 1), (3, 1), (4, 1)]) ∧ (slT Try.prog 25 = some (3, 1)) ∧ (slT Try.prog 42 = some (41, 2)) ∧ (szT Try.prog 41 = some 2) ∧ (szT Try.prog 50 = some 1) ∧ (zeroT Try.prog 41 = some [.int .i64 0, .int .i64 0]) ∧ (zeroT Try.prog 92 = some [.pointer none, .slice none 0 0, .slice none 0 0, .slice none 0 0, .slice none 0 0]) := ⟨eq_true Try.call39, eq_true Try.call40, eq_true Try.call41, eq_true Try.call42, tr6, tr14, tr16, tr24, tr25, tr32, tr35, tr38, tr41, tr46, tr59, tr60, tr73, tr77, tr89, tr96, tr97, tr111, tr114, tr126, tr131⟩
theorem tf22 : (CallT Try.prog 24 = True) ∧ (CallT Try.prog 37 = True) ∧ (CallT Try.prog 9 = True) ∧ (arT Try.prog 42 = none) ∧ (kdT Try.prog 3 = some 0) ∧ (kdT Try.prog 30 = some 0) ∧ (ldT Try.prog 24 = some (some 3)) ∧ (ldT Try.prog 3 = some none) ∧ (offT Try.prog 41 0 = some 0) ∧ (offT Try.prog 41 1 = some 1) ∧ (slT Try.prog 42 = some (41, 2)) := ⟨eq_true Try.call24, eq_true Try.call37, eq_true Try.call9, tr6, tr24, tr25, tr32, tr35, tr59, tr60, tr97⟩
theorem tf23 : (CallT Try.prog 16 = True) ∧ (CallT Try.prog 44 = True) ∧ (arT Try.prog 22 = none) ∧ (arT Try.prog 25 = none) ∧ (arT Try.prog 42 = none) ∧ (arT Try.prog 50 = none) ∧ (elT Try.prog 42 = some (41, 2, [.int .i64 0, .int .i64 0], 16)) ∧ (kdT Try.prog 3 = some 0) ∧ (ldT Try.prog 22 = some none) ∧ (ldT Try.prog 24 = some (some 3)) ∧ (ldT Try.prog 25 = some none) ∧ (ldT Try.prog 3 = some none) ∧ (ldT Try.prog 41 = some (some 2)) ∧ (ldT Try.prog 42 = some none) ∧ (offT Try.prog 24 0 = some 0) ∧ (offT Try.prog 44 0 = some 0) ∧ (offT Try.prog 55 0 = some 0) ∧ (offT Try.prog 55 1 = some 1) ∧ (slT Try.prog 22 = some (44, 5)) ∧ (slT Try.prog 25 = some (3, 1)) ∧ (slT Try.prog 42 = some (41, 2)) ∧ (slT Try.prog 50 = some (25, 1)) := ⟨eq_true Try.call16, eq_true Try.call44, tr4, tr5, tr6, tr7, tr15, tr24, tr31, tr32, tr33, tr35, tr38, tr39, tr53, tr61, tr65, tr66, tr95, tr96, tr97, tr98⟩
theorem tf24 : (kdT Try.prog 3 = some 0) := tr24
theorem tf25 : (CallT Try.prog 24 = True) ∧ (CallT Try.prog 45 = True) ∧ (arT Try.prog 42 = none) ∧ (kdT Try.prog 3 = some 0) ∧ (ldT Try.prog 3 = some none) ∧ (ldT Try.prog 42 = some none) ∧ (offT Try.prog 41 0 = some 0) ∧ (offT Try.prog 41 1 = some 1) ∧ (offT Try.prog 44 0 = some 0) ∧ (offT Try.prog 44 1 = some 1) ∧ (offT Try.prog 44 2 = some 3) ∧ (offT Try.prog 44 3 = some 4) ∧ (slT Try.prog 42 = some (41, 2)) := ⟨eq_true Try.call24, eq_true Try.call45, tr6, tr24, tr35, tr39, tr59, tr60, tr61, tr62, tr63, tr64, tr97⟩
theorem tf26 : (elT Try.prog 22 = some (44, 5, [.int .i64 0, .int .i64 0, .int .i64 0, .slice none 0 0, .int .i64 0], 56)) ∧ (elT Try.prog 42 = some (41, 2, [.int .i64 0, .int .i64 0], 16)) ∧ (elT Try.prog 61 = some (99, 3, [.int .i64 0, .int .i64 0, .int .i64 0], 24)) ∧ (ldT Try.prog 24 = some (some 3)) ∧ (placesT Try.prog 24 = some [(0, 1), (1, 1), (2, 1)]) ∧ (placesT Try.prog 41 = some [(0, 1), (1, 1)]) ∧ (placesT Try.prog 44 = some [(0, 1), (1, 2), (3, 1), (4, 1)]) ∧ (placesT Try.prog 99 = some [(0, 1), (1, 1), (2, 1)]) ∧ (szT Try.prog 24 = some 3) ∧ (zeroT Try.prog 24 = some [.slice none 0 0, .int .i64 0, .int .i64 0]) ∧ (zeroT Try.prog 41 = some [.int .i64 0, .int .i64 0]) ∧ (zeroT Try.prog 44 = some [.int .i64 0, .int .i64 0, .int .i64 0, .slice none 0 0, .int .i64 0]) ∧ (zeroT Try.prog 99 = some [.int .i64 0, .int .i64 0, .int .i64 0]) := ⟨tr13, tr15, tr17, tr32, tr84, tr85, tr86, tr90, tr106, tr122, tr126, tr127, tr132⟩
theorem tf27 : (CallT Try.prog 46 = True) ∧ (CallT Try.prog 47 = True) ∧ (arT Try.prog 101 = none) ∧ (elT Try.prog 25 = some (3, 1, [.int .i64 0], 8)) ∧ (kdT Try.prog 3 = some 0) ∧ (kdT Try.prog 30 = some 0) ∧ (ldT Try.prog 104 = some (some 3)) ∧ (ldT Try.prog 3 = some none) ∧ (offT Try.prog 104 2 = some 2) ∧ (slT Try.prog 101 = some (104, 3)) ∧ (szT Try.prog 104 = some 3) ∧ (zeroT Try.prog 104 = some [.bool false, .int .i64 0, .int .i64 0]) := ⟨eq_true Try.call46, eq_true Try.call47, tr0, tr14, tr24, tr25, tr27, tr35, tr50, tr91, tr102, tr119⟩
theorem tf28 : (CallT Try.prog 30 = True) ∧ (CallT Try.prog 39 = True) ∧ (CallT Try.prog 48 = True) ∧ (kdT Try.prog 3 = some 0) ∧ (kdT Try.prog 30 = some 0) ∧ (ldT Try.prog 22 = some none) ∧ (ldT Try.prog 24 = some (some 3)) ∧ (offT Try.prog 24 0 = some 0) ∧ (slT Try.prog 22 = some (44, 5)) := ⟨eq_true Try.call30, eq_true Try.call39, eq_true Try.call48, tr24, tr25, tr31, tr32, tr53, tr95⟩
theorem tf29 : (CallT Try.prog 30 = True) ∧ (CallT Try.prog 49 = True) ∧ (CallT Try.prog 50 = True) ∧ (arT Try.prog 22 = none) ∧ (kdT Try.prog 3 = some 0) ∧ (ldT Try.prog 22 = some none) ∧ (ldT Try.prog 3 = some none) ∧ (ldT Try.prog 42 = some none) ∧ (ldT Try.prog 44 = some (some 5)) ∧ (offT Try.prog 24 0 = some 0) ∧ (offT Try.prog 24 1 = some 1) ∧ (offT Try.prog 24 2 = some 2) ∧ (offT Try.prog 41 0 = some 0) ∧ (offT Try.prog 41 1 = some 1) ∧ (offT Try.prog 44 0 = some 0) ∧ (offT Try.prog 44 1 = some 1) ∧ (offT Try.prog 44 2 = some 3) ∧ (offT Try.prog 44 3 = some 4) ∧ (slT Try.prog 22 = some (44, 5)) ∧ (szT Try.prog 44 = some 5) ∧ (zeroT Try.prog 44 = some [.int .i64 0, .int .i64 0, .int .i64 0, .slice none 0 0, .int .i64 0]) := ⟨eq_true Try.call30, eq_true Try.call49, eq_true Try.call50, tr4, tr24, tr31, tr35, tr39, tr40, tr53, tr54, tr55, tr59, tr60, tr61, tr62, tr63, tr64, tr95, tr113, tr127⟩
theorem tf30 : (kdT Try.prog 3 = some 0) := tr24
theorem tf32 : (CallT Try.prog 30 = True) ∧ (CallT Try.prog 39 = True) ∧ (CallT Try.prog 40 = True) ∧ (elT Try.prog 75 = some (130, 101, (rep 101 (.int .i8 0)), 101)) ∧ (kdT Try.prog 30 = some 0) ∧ (ldT Try.prog 22 = some none) ∧ (ldT Try.prog 24 = some (some 3)) ∧ (offT Try.prog 24 0 = some 0) ∧ (placesT Try.prog 77 = some [(0, 1), (1, 1), (2, 1), (3, 1)]) ∧ (slT Try.prog 22 = some (44, 5)) ∧ (zeroT Try.prog 77 = some [.pointer none, .int .i64 0, .int .i64 0, .slice none 0 0]) := ⟨eq_true Try.call30, eq_true Try.call39, eq_true Try.call40, tr18, tr25, tr31, tr32, tr53, tr87, tr95, tr129⟩
theorem tf34 : (CallT Try.prog 53 = True) ∧ (CallT Try.prog 54 = True) ∧ (kdT Try.prog 3 = some 0) ∧ (ldT Try.prog 3 = some none) ∧ (offT Try.prog 77 1 = some 1) := ⟨eq_true Try.call53, eq_true Try.call54, tr24, tr35, tr69⟩
theorem tf37 : (CallT Try.prog 45 = True) ∧ (arT Try.prog 25 = none) ∧ (kdT Try.prog 3 = some 0) ∧ (ldT Try.prog 3 = some none) ∧ (slT Try.prog 25 = some (3, 1)) := ⟨eq_true Try.call45, tr5, tr24, tr35, tr96⟩
theorem tf39 : (CallT Try.prog 29 = True) ∧ (CallT Try.prog 57 = True) ∧ (arT Try.prog 22 = none) ∧ (elT Try.prog 78 = some (90, 1, [.pointer none], 8)) ∧ (kdT Try.prog 3 = some 0) ∧ (kdT Try.prog 30 = some 0) ∧ (ldT Try.prog 22 = some none) ∧ (ldT Try.prog 24 = some (some 3)) ∧ (ldT Try.prog 44 = some (some 5)) ∧ (ldT Try.prog 78 = some none) ∧ (offT Try.prog 24 0 = some 0) ∧ (offT Try.prog 80 1 = some 3) ∧ (placesT Try.prog 80 = some [(0, 3), (3, 1)]) ∧ (slT Try.prog 22 = some (44, 5)) ∧ (szT Try.prog 44 = some 5) ∧ (szT Try.prog 78 = some 1) ∧ (zeroT Try.prog 44 = some [.int .i64 0, .int .i64 0, .int .i64 0, .slice none 0 0, .int .i64 0]) ∧ (zeroT Try.prog 80 = some [.slice none 0 0, .int .i64 0, .int .i64 0, .slice none 0 0]) := ⟨eq_true Try.call29, eq_true Try.call57, tr4, tr19, tr24, tr25, tr31, tr32, tr40, tr46, tr53, tr73, tr88, tr95, tr113, tr116, tr127, tr130⟩
theorem tf40 : (CallT Try.prog 58 = True) ∧ (CallT Try.prog 59 = True) ∧ (kdT Try.prog 3 = some 0) ∧ (slT Try.prog 25 = some (3, 1)) := ⟨eq_true Try.call58, eq_true Try.call59, tr24, tr96⟩
theorem tf41 : (elT Try.prog 78 = some (90, 1, [.pointer none], 8)) ∧ (kdT Try.prog 78 = some 2) := ⟨tr19, tr26⟩
theorem tf42 : (CallT Try.prog 42 = True) ∧ (CallT Try.prog 60 = True) ∧ (CallT Try.prog 61 = True) ∧ (arT Try.prog 22 = none) ∧ (arT Try.prog 25 = none) ∧ (arT Try.prog 42 = none) ∧ (arT Try.prog 50 = none) ∧ (arT Try.prog 78 = none) ∧ (kdT Try.prog 3 = some 0) ∧ (ldT Try.prog 124 = some (some 1800)) ∧ (ldT Try.prog 22 = some none) ∧ (ldT Try.prog 25 = some none) ∧ (ldT Try.prog 3 = some none) ∧ (ldT Try.prog 41 = some (some 2)) ∧ (ldT Try.prog 42 = some none) ∧ (ldT Try.prog 44 = some (some 5)) ∧ (ldT Try.prog 50 = some none) ∧ (ldT Try.prog 74 = some none) ∧ (ldT Try.prog 78 = some none) ∧ (ldT Try.prog 90 = some none) ∧ (offT Try.prog 24 0 = some 0) ∧ (offT Try.prog 24 1 = some 1) ∧ (offT Try.prog 24 2 = some 2) ∧ (offT Try.prog 44 0 = some 0) ∧ (offT Try.prog 80 0 = some 0) ∧ (offT Try.prog 92 0 = some 0) ∧ (offT Try.prog 92 1 = some 1) ∧ (offT Try.prog 92 2 = some 2) ∧ (offT Try.prog 92 3 = some 3) ∧ (offT Try.prog 92 4 = some 4) ∧ (slT Try.prog 22 = some (44, 5)) ∧ (slT Try.prog 25 = some (3, 1)) ∧ (slT Try.prog 42 = some (41, 2)) ∧ (slT Try.prog 50 = some (25, 1)) ∧ (slT Try.prog 78 = some (90, 1)) ∧ (szT Try.prog 3 = some 1) ∧ (szT Try.prog 44 = some 5) ∧ (szT Try.prog 90 = some 1) ∧ (zeroT Try.prog 44 = some [.int .i64 0, .int .i64 0, .int .i64 0, .slice none 0 0, .int .i64 0]) := ⟨eq_true Try.call42, eq_true Try.call60, eq_true Try.call61, tr4, tr5, tr6, tr7, tr10, tr24, tr29, tr31, tr33, tr35, tr38, tr39, tr40, tr41, tr44, tr46, tr47, tr53, tr54, tr55, tr61, tr72, tr74, tr75, tr76, tr77, tr78, tr95, tr96, tr97, tr98, tr101, tr108, tr113, tr117, tr127⟩
theorem tf44 : (CallT Try.prog 63 = True) ∧ (arT Try.prog 22 = none) ∧ (arT Try.prog 42 = none) ∧ (kdT Try.prog 3 = some 0) ∧ (ldT Try.prog 22 = some none) ∧ (ldT Try.prog 3 = some none) ∧ (ldT Try.prog 42 = some none) ∧ (offT Try.prog 24 0 = some 0) ∧ (offT Try.prog 24 1 = some 1) ∧ (offT Try.prog 24 2 = some 2) ∧ (offT Try.prog 41 0 = some 0) ∧ (offT Try.prog 41 1 = some 1) ∧ (offT Try.prog 44 2 = some 3) ∧ (slT Try.prog 22 = some (44, 5)) ∧ (slT Try.prog 42 = some (41, 2)) := ⟨eq_true Try.call63, tr4, tr6, tr24, tr31, tr35, tr39, tr53, tr54, tr55, tr59, tr60, tr63, tr95, tr97⟩
theorem tf45 : (CallT Try.prog 24 = True) := eq_true Try.call24
theorem tf46 : (CallT Try.prog 30 = True) ∧ (CallT Try.prog 64 = True) ∧ (CallT Try.prog 65 = True) ∧ (arT Try.prog 61 = none) ∧ (elT Try.prog 25 = some (3, 1, [.int .i64 0], 8)) ∧ (kdT Try.prog 3 = some 0) ∧ (kdT Try.prog 30 = some 0) ∧ (ldT Try.prog 3 = some none) ∧ (ldT Try.prog 99 = some (some 3)) ∧ (offT Try.prog 99 0 = some 0) ∧ (offT Try.prog 99 1 = some 1) ∧ (offT Try.prog 99 2 = some 2) ∧ (slT Try.prog 61 = some (99, 3)) ∧ (szT Try.prog 99 = some 3) ∧ (zeroT Try.prog 99 = some [.int .i64 0, .int .i64 0, .int .i64 0]) := ⟨eq_true Try.call30, eq_true Try.call64, eq_true Try.call65, tr8, tr14, tr24, tr25, tr35, tr48, tr79, tr80, tr81, tr99, tr118, tr132⟩
theorem tf47 : (arT Try.prog 101 = none) ∧ (arT Try.prog 61 = none) ∧ (elT Try.prog 101 = some (104, 3, [.bool false, .int .i64 0, .int .i64 0], 24)) ∧ (kdT Try.prog 3 = some 0) ∧ (ldT Try.prog 3 = some none) ∧ (ldT Try.prog 4 = some none) ∧ (ldT Try.prog 99 = some (some 3)) ∧ (offT Try.prog 104 0 = some 0) ∧ (offT Try.prog 104 2 = some 2) ∧ (offT Try.prog 99 0 = some 0) ∧ (offT Try.prog 99 1 = some 1) ∧ (offT Try.prog 99 2 = some 2) ∧ (placesT Try.prog 104 = some [(0, 1), (1, 1), (2, 1)]) ∧ (slT Try.prog 101 = some (104, 3)) ∧ (slT Try.prog 61 = some (99, 3)) ∧ (szT Try.prog 104 = some 3) ∧ (szT Try.prog 3 = some 1) ∧ (szT Try.prog 99 = some 3) ∧ (zeroT Try.prog 104 = some [.bool false, .int .i64 0, .int .i64 0]) ∧ (zeroT Try.prog 99 = some [.int .i64 0, .int .i64 0, .int .i64 0]) := ⟨tr0, tr8, tr11, tr24, tr35, tr37, tr48, tr49, tr50, tr79, tr80, tr81, tr82, tr91, tr99, tr102, tr108, tr118, tr119, tr132⟩
theorem tf48 : (CallT Try.prog 60 = True) ∧ (CallT Try.prog 61 = True) ∧ (arT Try.prog 78 = none) ∧ (kdT Try.prog 3 = some 0) ∧ (ldT Try.prog 124 = some (some 1800)) ∧ (ldT Try.prog 3 = some none) ∧ (ldT Try.prog 78 = some none) ∧ (ldT Try.prog 90 = some none) ∧ (offT Try.prog 24 1 = some 1) ∧ (offT Try.prog 24 2 = some 2) ∧ (offT Try.prog 80 0 = some 0) ∧ (offT Try.prog 80 1 = some 3) ∧ (placesT Try.prog 41 = some [(0, 1), (1, 1)]) ∧ (slT Try.prog 78 = some (90, 1)) ∧ (zeroT Try.prog 41 = some [.int .i64 0, .int .i64 0]) := ⟨eq_true Try.call60, eq_true Try.call61, tr10, tr24, tr29, tr35, tr46, tr47, tr54, tr55, tr72, tr73, tr85, tr101, tr126⟩
theorem tf49 : (CallT Try.prog 30 = True) := eq_true Try.call30
theorem tf50 : (arT Try.prog 42 = none) ∧ (kdT Try.prog 3 = some 0) ∧ (ldT Try.prog 3 = some none) ∧ (ldT Try.prog 41 = some (some 2)) ∧ (offT Try.prog 41 0 = some 0) ∧ (offT Try.prog 41 1 = some 1) ∧ (slT Try.prog 42 = some (41, 2)) ∧ (szT Try.prog 41 = some 2) ∧ (zeroT Try.prog 41 = some [.int .i64 0, .int .i64 0]) := ⟨tr6, tr24, tr35, tr38, tr59, tr60, tr97, tr111, tr126⟩
theorem tf53 : (CallT Try.prog 53 = True) ∧ (CallT Try.prog 66 = True) ∧ (arT Try.prog 110 = none) ∧ (arT Try.prog 22 = none) ∧ (arT Try.prog 25 = none) ∧ (elT Try.prog 25 = some (3, 1, [.int .i64 0], 8)) ∧ (kdT Try.prog 3 = some 0) ∧ (ldT Try.prog 22 = some none) ∧ (ldT Try.prog 3 = some none) ∧ (ldT Try.prog 4 = some none) ∧ (ldT Try.prog 44 = some (some 5)) ∧ (ldT Try.prog 74 = some none) ∧ (offT Try.prog 24 0 = some 0) ∧ (offT Try.prog 44 0 = some 0) ∧ (offT Try.prog 77 0 = some 0) ∧ (offT Try.prog 80 0 = some 0) ∧ (slT Try.prog 110 = some (4, 1)) ∧ (slT Try.prog 22 = some (44, 5)) ∧ (slT Try.prog 25 = some (3, 1)) ∧ (szT Try.prog 44 = some 5) ∧ (zeroT Try.prog 44 = some [.int .i64 0, .int .i64 0, .int .i64 0, .slice none 0 0, .int .i64 0]) := ⟨eq_true Try.call53, eq_true Try.call66, tr1, tr4, tr5, tr14, tr24, tr31, tr35, tr37, tr40, tr44, tr53, tr61, tr68, tr72, tr92, tr95, tr96, tr113, tr127⟩
theorem tf54 : (CallT Try.prog 67 = True) ∧ (arT Try.prog 22 = none) ∧ (elT Try.prog 110 = some (4, 1, [.bool false], 1)) ∧ (kdT Try.prog 3 = some 0) ∧ (ldT Try.prog 22 = some none) ∧ (ldT Try.prog 3 = some none) ∧ (ldT Try.prog 44 = some (some 5)) ∧ (ldT Try.prog 74 = some none) ∧ (offT Try.prog 24 0 = some 0) ∧ (offT Try.prog 41 1 = some 1) ∧ (offT Try.prog 44 1 = some 1) ∧ (offT Try.prog 44 3 = some 4) ∧ (offT Try.prog 77 0 = some 0) ∧ (offT Try.prog 77 1 = some 1) ∧ (offT Try.prog 80 0 = some 0) ∧ (slT Try.prog 22 = some (44, 5)) ∧ (szT Try.prog 44 = some 5) ∧ (zeroT Try.prog 44 = some [.int .i64 0, .int .i64 0, .int .i64 0, .slice none 0 0, .int .i64 0]) := ⟨eq_true Try.call67, tr4, tr12, tr24, tr31, tr35, tr40, tr44, tr53, tr60, tr62, tr64, tr68, tr69, tr72, tr95, tr113, tr127⟩
theorem tf57 : (arT Try.prog 122 = some (900, 1, none)) ∧ (arT Try.prog 42 = none) ∧ (kdT Try.prog 3 = some 0) ∧ (ldT Try.prog 3 = some none) ∧ (ldT Try.prog 41 = some (some 2)) ∧ (ldT Try.prog 42 = some none) ∧ (offT Try.prog 124 0 = some 0) ∧ (offT Try.prog 41 0 = some 0) ∧ (offT Try.prog 41 1 = some 1) ∧ (offT Try.prog 44 2 = some 3) ∧ (placesT Try.prog 124 = some [(0, 900), (900, 900)]) ∧ (slT Try.prog 122 = none) ∧ (slT Try.prog 42 = some (41, 2)) ∧ (szT Try.prog 4 = some 1) ∧ (szT Try.prog 41 = some 2) ∧ (zeroT Try.prog 124 = some (rep 1800 (.bool false))) ∧ (zeroT Try.prog 41 = some [.int .i64 0, .int .i64 0]) := ⟨tr2, tr6, tr24, tr35, tr38, tr39, tr51, tr59, tr60, tr63, tr83, tr93, tr97, tr110, tr111, tr121, tr126⟩
theorem tf58 : (CallT Try.prog 69 = True) ∧ (kdT Try.prog 3 = some 0) := ⟨eq_true Try.call69, tr24⟩
theorem tf59 : (CallT Try.prog 49 = True) := eq_true Try.call49
theorem tf60 : (arT Try.prog 122 = some (900, 1, none)) ∧ (kdT Try.prog 3 = some 0) ∧ (ldT Try.prog 3 = some none) ∧ (offT Try.prog 124 0 = some 0) ∧ (offT Try.prog 124 1 = some 900) ∧ (offT Try.prog 41 0 = some 0) ∧ (offT Try.prog 41 1 = some 1) ∧ (slT Try.prog 122 = none) ∧ (szT Try.prog 4 = some 1) := ⟨tr2, tr24, tr35, tr51, tr52, tr59, tr60, tr93, tr110⟩
theorem tf61 : (CallT Try.prog 70 = True) ∧ (kdT Try.prog 3 = some 0) ∧ (ldT Try.prog 3 = some none) ∧ (szT Try.prog 3 = some 1) ∧ (zeroT Try.prog 3 = some [.int .i64 0]) := ⟨eq_true Try.call70, tr24, tr35, tr108, tr124⟩
theorem tf63 : (arT Try.prog 42 = none) ∧ (kdT Try.prog 3 = some 0) ∧ (ldT Try.prog 3 = some none) ∧ (offT Try.prog 41 0 = some 0) ∧ (offT Try.prog 41 1 = some 1) ∧ (slT Try.prog 42 = some (41, 2)) := ⟨tr6, tr24, tr35, tr59, tr60, tr97⟩
theorem tf64 : (CallT Try.prog 30 = True) ∧ (CallT Try.prog 58 = True) ∧ (CallT Try.prog 71 = True) ∧ (kdT Try.prog 3 = some 0) := ⟨eq_true Try.call30, eq_true Try.call58, eq_true Try.call71, tr24⟩
theorem tf65 : (CallT Try.prog 30 = True) := eq_true Try.call30
theorem tf66 : (CallT Try.prog 72 = True) ∧ (kdT Try.prog 3 = some 0) := ⟨eq_true Try.call72, tr24⟩
theorem tf67 : (CallT Try.prog 48 = True) ∧ (arT Try.prog 130 = some (101, 1, none)) ∧ (arT Try.prog 75 = none) ∧ (kdT Try.prog 129 = some 0) ∧ (kdT Try.prog 3 = some 0) ∧ (ldT Try.prog 129 = some none) ∧ (ldT Try.prog 3 = some none) ∧ (ldT Try.prog 74 = some none) ∧ (ldT Try.prog 75 = some none) ∧ (offT Try.prog 77 0 = some 0) ∧ (offT Try.prog 77 1 = some 1) ∧ (offT Try.prog 77 2 = some 2) ∧ (offT Try.prog 77 3 = some 3) ∧ (slT Try.prog 130 = none) ∧ (slT Try.prog 75 = some (130, 101)) ∧ (szT Try.prog 129 = some 1) := ⟨eq_true Try.call48, tr3, tr9, tr22, tr24, tr30, tr35, tr44, tr45, tr68, tr69, tr70, tr71, tr94, tr100, tr104⟩
theorem tf69 : (arT Try.prog 25 = none) ∧ (kdT Try.prog 3 = some 0) ∧ (ldT Try.prog 3 = some none) ∧ (slT Try.prog 25 = some (3, 1)) := ⟨tr5, tr24, tr35, tr96⟩
theorem tf70 : (arT Try.prog 122 = some (900, 1, none)) ∧ (kdT Try.prog 3 = some 0) ∧ (ldT Try.prog 3 = some none) ∧ (ldT Try.prog 4 = some none) ∧ (ldT Try.prog 90 = some none) ∧ (offT Try.prog 124 0 = some 0) ∧ (offT Try.prog 124 1 = some 900) ∧ (slT Try.prog 122 = none) ∧ (szT Try.prog 3 = some 1) := ⟨tr2, tr24, tr35, tr37, tr47, tr51, tr52, tr93, tr108⟩
theorem tf71 : (CallT Try.prog 65 = True) := eq_true Try.call65
theorem tf72 : (arT Try.prog 25 = none) ∧ (kdT Try.prog 3 = some 0) ∧ (ldT Try.prog 3 = some none) ∧ (slT Try.prog 25 = some (3, 1)) := ⟨tr5, tr24, tr35, tr96⟩
theorem tf73 : (kdT Try.prog 3 = some 0) ∧ (ldT Try.prog 3 = some none) ∧ (offT Try.prog 41 0 = some 0) ∧ (offT Try.prog 41 1 = some 1) := ⟨tr24, tr35, tr59, tr60⟩
theorem res6 : Try.f6.results.toList = [.tmp 4] := by kernel_rfl
theorem res7 : Try.f7.results.toList = [.tmp 2] := by kernel_rfl
theorem res9 : Try.f9.results.toList = [.tmp 2] := by kernel_rfl
theorem res10 : Try.f10.results.toList = [.tmp 0] := by kernel_rfl
theorem res14 : Try.f14.results.toList = [.tmp 4] := by kernel_rfl
theorem res16 : Try.f16.results.toList = [.tmp 4] := by kernel_rfl
theorem res17 : Try.f17.results.toList = [.tmp 8, .tmp 9, .tmp 10] := by kernel_rfl
theorem res19 : Try.f19.results.toList = [.tmp 4] := by kernel_rfl
theorem res20 : Try.f20.results.toList = [.tmp 6, .tmp 7] := by kernel_rfl
theorem res22 : Try.f22.results.toList = [.tmp 6] := by kernel_rfl
theorem res23 : Try.f23.results.toList = [.tmp 6] := by kernel_rfl
theorem res24 : Try.f24.results.toList = [.tmp 6] := by kernel_rfl
theorem res25 : Try.f25.results.toList = [.tmp 2] := by kernel_rfl
theorem res26 : Try.f26.results.toList = [.cell 0 24, .tmp 1] := by kernel_rfl
theorem res27 : Try.f27.results.toList = [.tmp 6, .tmp 7] := by kernel_rfl
theorem res28 : Try.f28.results.toList = [.tmp 6, .tmp 7] := by kernel_rfl
theorem res29 : Try.f29.results.toList = [.tmp 2] := by kernel_rfl
theorem res30 : Try.f30.results.toList = [.tmp 6] := by kernel_rfl
theorem res32 : Try.f32.results.toList = [.tmp 8, .tmp 9] := by kernel_rfl
theorem res34 : Try.f34.results.toList = [.tmp 4, .tmp 5, .tmp 6] := by kernel_rfl
theorem res37 : Try.f37.results.toList = [.tmp 2] := by kernel_rfl
theorem res39 : Try.f39.results.toList = [.tmp 2, .tmp 3] := by kernel_rfl
theorem res40 : Try.f40.results.toList = [.tmp 2] := by kernel_rfl
theorem res41 : Try.f41.results.toList = [.tmp 2] := by kernel_rfl
theorem res42 : Try.f42.results.toList = [.tmp 6] := by kernel_rfl
theorem res44 : Try.f44.results.toList = [.tmp 6] := by kernel_rfl
theorem res45 : Try.f45.results.toList = [.tmp 2] := by kernel_rfl
theorem res46 : Try.f46.results.toList = [.tmp 6] := by kernel_rfl
theorem res47 : Try.f47.results.toList = [.tmp 6] := by kernel_rfl
theorem res48 : Try.f48.results.toList = [.tmp 8] := by kernel_rfl
theorem res49 : Try.f49.results.toList = [.tmp 2] := by kernel_rfl
theorem res50 : Try.f50.results.toList = [.tmp 2] := by kernel_rfl
theorem res53 : Try.f53.results.toList = [.tmp 8, .tmp 9] := by kernel_rfl
theorem res54 : Try.f54.results.toList = [.tmp 4] := by kernel_rfl
theorem res57 : Try.f57.results.toList = [.tmp 2] := by kernel_rfl
theorem res58 : Try.f58.results.toList = [.tmp 4] := by kernel_rfl
theorem res59 : Try.f59.results.toList = [.tmp 2] := by kernel_rfl
theorem res60 : Try.f60.results.toList = [.tmp 4] := by kernel_rfl
theorem res61 : Try.f61.results.toList = [.tmp 6] := by kernel_rfl
theorem res63 : Try.f63.results.toList = [.tmp 4] := by kernel_rfl
theorem res64 : Try.f64.results.toList = [.tmp 6] := by kernel_rfl
theorem res65 : Try.f65.results.toList = [.tmp 2] := by kernel_rfl
theorem res66 : Try.f66.results.toList = [.tmp 4] := by kernel_rfl
theorem res67 : Try.f67.results.toList = [.tmp 6] := by kernel_rfl
theorem res69 : Try.f69.results.toList = [.tmp 4] := by kernel_rfl
theorem res70 : Try.f70.results.toList = [] := by kernel_rfl
theorem res71 : Try.f71.results.toList = [.tmp 2] := by kernel_rfl
theorem res72 : Try.f72.results.toList = [.tmp 4] := by kernel_rfl
theorem res73 : Try.f73.results.toList = [.tmp 4] := by kernel_rfl
noncomputable abbrev EV (w : World) (X : Nat → Prop) (re : List Nat) (ord : List (Nat × Plan)) (det : Nat → List Value → Option Value) (cuts : List Nat) : Env := { P := Try.prog, w0 := ⟨w, X⟩, re := re, ord := ord, det := det, cuts := cuts }
abbrev I (n : Int) : Value := .int .i64 n
theorem mixed_prog : Try.prog.follows .mixedOrders = true := by kernel_rfl
theorem walkC {f : Nat} {fn : Func} {c : Code} {args : List Value} {n : Nat} {rs : List ResultVar} {Post : Value → List HO → Prop} {w : World} {X : Nat → Prop} (cuts : List Nat) (re : List Nat) (ord : List (Nat × Plan)) {det : Nat → List Value → Option Value} (hD : DetFn Try.prog ⟨w, X⟩ det)
    (hf : Try.prog.funcs[f]? = some fn) (hb : fn.body = some c) (hn : fn.ntmps = n) (hr : fn.results.toList = rs) (hok : codeB ord c = true) {H0 : List HO}
    (h0 : (∀ h ∈ H0, h.ok w) ∧ (∀ h ∈ H0, ∀ b, h.fp b → X b) ∧ H0.Pairwise Apart)
    (h : W (EV w X re ord det cuts) c (retQ (EV w X re ord det cuts) rs Post) (args.map SV.v ++ List.replicate (n - args.length) (.v undef)) [] H0) : SX.Fn Try.prog f args w X Post := by
  subst hn hr
  exact SX.Fn.intro (E := EV w X re ord det cuts) hf hb trivial hD mixed_prog hok h0 h
theorem walk {f : Nat} {fn : Func} {c : Code} {args : List Value} {n : Nat} {rs : List ResultVar} {Post : Value → List HO → Prop} {w : World} {X : Nat → Prop} (re : List Nat) (ord : List (Nat × Plan)) {det : Nat → List Value → Option Value} (hD : DetFn Try.prog ⟨w, X⟩ det)
    (hf : Try.prog.funcs[f]? = some fn) (hb : fn.body = some c) (hn : fn.ntmps = n) (hr : fn.results.toList = rs) (hok : codeB ord c = true) {H0 : List HO}
    (h0 : (∀ h ∈ H0, h.ok w) ∧ (∀ h ∈ H0, ∀ b, h.fp b → X b) ∧ H0.Pairwise Apart)
    (h : W (EV w X re ord det []) c (retQ (EV w X re ord det []) rs Post) (args.map SV.v ++ List.replicate (n - args.length) (.v undef)) [] H0) : SX.Fn Try.prog f args w X Post :=
  walkC [] re ord hD hf hb hn hr hok h0 h
theorem no_facts {w : World} {X : Nat → Prop} : (∀ h ∈ ([] : List HO), h.ok w) ∧ (∀ h ∈ ([] : List HO), ∀ b, h.fp b → X b) ∧ ([] : List HO).Pairwise Apart := ⟨by simp, by simp, List.Pairwise.nil⟩
theorem wrap_id {n : Int} (h : -9223372036854775808 ≤ n ∧ n ≤ 9223372036854775807) : IntKind.i64.wrap n = n := by
  rw [IntKind.wrap_i64]
  omega
end Go.Proofs.Ytgpglmcbopfddaa

