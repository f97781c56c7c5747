/- The tables of the program, read once; what each function needs of them. Written by gen_tab.py. -/
import Derived.Test.YtpfbpelkodlljaaRows
import Derived.Test.YtpfbpelkodlljaaSxQ
set_option linter.all false
namespace Go.Proofs.Ytpfbpelkodlljaa
open Go.RowKit Go.SX
set_option maxRecDepth 4000

theorem tr0 : arT Try.prog 32 = none := by kernel_rfl
theorem tr1 : arT Try.prog 44 = none := by kernel_rfl
theorem tr2 : arT Try.prog 55 = none := by kernel_rfl
theorem tr3 : arT Try.prog 90 = none := by kernel_rfl
theorem tr4 : elT Try.prog 32 = some (43, 5, [.int .i64 0, .int .i64 0, .int .i64 0, .int .i64 0, .int .i64 0], 40) := by kernel_rfl
theorem tr5 : elT Try.prog 44 = some (3, 1, [.int .i64 0], 8) := by kernel_rfl
theorem tr6 : elT Try.prog 55 = some (23, 2, [.int .i64 0, .int .i64 0], 16) := by kernel_rfl
theorem tr7 : elT Try.prog 90 = some (4, 1, [.bool false], 1) := by kernel_rfl
theorem tr8 : kdT Try.prog 26 = some 0 := by kernel_rfl
theorem tr9 : kdT Try.prog 3 = some 0 := by kernel_rfl
theorem tr10 : ldT Try.prog 102 = some none := by kernel_rfl
theorem tr11 : ldT Try.prog 23 = some (some 2) := by kernel_rfl
theorem tr12 : ldT Try.prog 25 = some (some 6) := by kernel_rfl
theorem tr13 : ldT Try.prog 26 = some none := by kernel_rfl
theorem tr14 : ldT Try.prog 3 = some none := by kernel_rfl
theorem tr15 : ldT Try.prog 32 = some none := by kernel_rfl
theorem tr16 : ldT Try.prog 34 = some (some 1) := by kernel_rfl
theorem tr17 : ldT Try.prog 4 = some none := by kernel_rfl
theorem tr18 : ldT Try.prog 41 = some (some 3) := by kernel_rfl
theorem tr19 : ldT Try.prog 43 = some (some 5) := by kernel_rfl
theorem tr20 : ldT Try.prog 44 = some none := by kernel_rfl
theorem tr21 : ldT Try.prog 50 = some (some 5) := by kernel_rfl
theorem tr22 : ldT Try.prog 55 = some none := by kernel_rfl
theorem tr23 : ldT Try.prog 67 = some (some 7) := by kernel_rfl
theorem tr24 : ldT Try.prog 76 = some (some 4) := by kernel_rfl
theorem tr25 : ldT Try.prog 81 = some (some 1) := by kernel_rfl
theorem tr26 : offT Try.prog 23 0 = some 0 := by kernel_rfl
theorem tr27 : offT Try.prog 23 1 = some 1 := by kernel_rfl
theorem tr28 : offT Try.prog 25 0 = some 0 := by kernel_rfl
theorem tr29 : offT Try.prog 25 1 = some 1 := by kernel_rfl
theorem tr30 : offT Try.prog 25 2 = some 2 := by kernel_rfl
theorem tr31 : offT Try.prog 25 3 = some 3 := by kernel_rfl
theorem tr32 : offT Try.prog 25 4 = some 4 := by kernel_rfl
theorem tr33 : offT Try.prog 34 0 = some 0 := by kernel_rfl
theorem tr34 : offT Try.prog 36 0 = some 0 := by kernel_rfl
theorem tr35 : offT Try.prog 36 1 = some 1 := by kernel_rfl
theorem tr36 : offT Try.prog 36 2 = some 2 := by kernel_rfl
theorem tr37 : offT Try.prog 36 3 = some 3 := by kernel_rfl
theorem tr38 : offT Try.prog 36 4 = some 4 := by kernel_rfl
theorem tr39 : offT Try.prog 41 0 = some 0 := by kernel_rfl
theorem tr40 : offT Try.prog 41 1 = some 1 := by kernel_rfl
theorem tr41 : offT Try.prog 41 2 = some 2 := by kernel_rfl
theorem tr42 : offT Try.prog 43 0 = some 0 := by kernel_rfl
theorem tr43 : offT Try.prog 43 1 = some 2 := by kernel_rfl
theorem tr44 : offT Try.prog 50 0 = some 0 := by kernel_rfl
theorem tr45 : offT Try.prog 50 1 = some 1 := by kernel_rfl
theorem tr46 : offT Try.prog 50 2 = some 2 := by kernel_rfl
theorem tr47 : offT Try.prog 50 3 = some 3 := by kernel_rfl
theorem tr48 : offT Try.prog 50 4 = some 4 := by kernel_rfl
theorem tr49 : offT Try.prog 67 0 = some 0 := by kernel_rfl
theorem tr50 : offT Try.prog 67 1 = some 6 := by kernel_rfl
theorem tr51 : offT Try.prog 81 0 = some 0 := by kernel_rfl
theorem tr52 : placesT Try.prog 23 = some [(0, 1), (1, 1)] := by kernel_rfl
theorem tr53 : placesT Try.prog 25 = some [(0, 1), (1, 1), (2, 1), (3, 1), (4, 2)] := by kernel_rfl
theorem tr54 : placesT Try.prog 34 = some [(0, 1)] := by kernel_rfl
theorem tr55 : placesT Try.prog 41 = some [(0, 1), (1, 1), (2, 1)] := by kernel_rfl
theorem tr56 : placesT Try.prog 43 = some [(0, 2), (2, 3)] := by kernel_rfl
theorem tr57 : placesT Try.prog 67 = some [(0, 6), (6, 1)] := by kernel_rfl
theorem tr58 : placesT Try.prog 76 = some [(0, 1), (1, 1), (2, 1), (3, 1)] := by kernel_rfl
theorem tr59 : placesT Try.prog 81 = some [(0, 1)] := by kernel_rfl
theorem tr60 : slT Try.prog 32 = some (43, 5) := by kernel_rfl
theorem tr61 : slT Try.prog 44 = some (3, 1) := by kernel_rfl
theorem tr62 : slT Try.prog 55 = some (23, 2) := by kernel_rfl
theorem tr63 : slT Try.prog 90 = some (4, 1) := by kernel_rfl
theorem tr64 : szT Try.prog 23 = some 2 := by kernel_rfl
theorem tr65 : szT Try.prog 25 = some 6 := by kernel_rfl
theorem tr66 : szT Try.prog 26 = some 1 := by kernel_rfl
theorem tr67 : szT Try.prog 3 = some 1 := by kernel_rfl
theorem tr68 : szT Try.prog 32 = some 1 := by kernel_rfl
theorem tr69 : szT Try.prog 34 = some 1 := by kernel_rfl
theorem tr70 : szT Try.prog 4 = some 1 := by kernel_rfl
theorem tr71 : szT Try.prog 41 = some 3 := by kernel_rfl
theorem tr72 : szT Try.prog 43 = some 5 := by kernel_rfl
theorem tr73 : szT Try.prog 44 = some 1 := by kernel_rfl
theorem tr74 : szT Try.prog 50 = some 5 := by kernel_rfl
theorem tr75 : szT Try.prog 55 = some 1 := by kernel_rfl
theorem tr76 : szT Try.prog 67 = some 7 := by kernel_rfl
theorem tr77 : szT Try.prog 76 = some 4 := by kernel_rfl
theorem tr78 : zeroT Try.prog 23 = some [.int .i64 0, .int .i64 0] := by kernel_rfl
theorem tr79 : zeroT Try.prog 25 = some [.int .i64 0, .int .i64 0, .int .i64 0, .int .i64 0, .int .i64 0, .int .i64 0] := by kernel_rfl
theorem tr80 : zeroT Try.prog 26 = some [.int .i64 0] := by kernel_rfl
theorem tr81 : zeroT Try.prog 3 = some [.int .i64 0] := by kernel_rfl
theorem tr82 : zeroT Try.prog 34 = some [.slice none 0 0] := by kernel_rfl
theorem tr83 : zeroT Try.prog 4 = some [.bool false] := by kernel_rfl
theorem tr84 : zeroT Try.prog 41 = some [.int .i64 0, .int .i64 0, .int .i64 0] := by kernel_rfl
theorem tr85 : zeroT Try.prog 43 = some [.int .i64 0, .int .i64 0, .int .i64 0, .int .i64 0, .int .i64 0] := by kernel_rfl
theorem tr86 : zeroT Try.prog 44 = some [.slice none 0 0] := by kernel_rfl
theorem tr87 : zeroT Try.prog 50 = some [.int .i64 0, .int .i64 0, .int .i64 0, .int .i64 0, .int .i64 0] := by kernel_rfl
theorem tr88 : zeroT Try.prog 55 = some [.slice none 0 0] := by kernel_rfl
theorem tr89 : zeroT Try.prog 67 = some [.int .i64 0, .int .i64 0, .int .i64 0, .int .i64 0, .int .i64 0, .int .i64 0, .int .i64 0] := by kernel_rfl
theorem tr90 : zeroT Try.prog 76 = some [.int .i64 0, .int .i64 0, .int .i64 0, .int .i64 0] := by kernel_rfl
theorem tr91 : zeroT Try.prog 81 = some [.slice none 0 0] := by kernel_rfl
theorem tf3 : (CallT Try.prog 10 = True) ∧ (CallT Try.prog 11 = True) ∧ (CallT Try.prog 12 = True) ∧ (CallT Try.prog 13 = True) ∧ (CallT Try.prog 9 = True) ∧ (kdT Try.prog 26 = some 0) ∧ (kdT Try.prog 3 = some 0) ∧ (ldT Try.prog 25 = some (some 6)) := ⟨eq_true Try.call10, eq_true Try.call11, eq_true Try.call12, eq_true Try.call13, eq_true Try.call9, tr8, tr9, tr12⟩
theorem tf4 : (CallT Try.prog 13 = True) ∧ (CallT Try.prog 14 = True) ∧ (CallT Try.prog 15 = True) ∧ (CallT Try.prog 16 = True) ∧ (CallT Try.prog 17 = True) ∧ (CallT Try.prog 18 = True) ∧ (arT Try.prog 32 = none) ∧ (kdT Try.prog 26 = some 0) ∧ (kdT Try.prog 3 = some 0) ∧ (ldT Try.prog 3 = some none) ∧ (ldT Try.prog 32 = some none) ∧ (ldT Try.prog 34 = some (some 1)) ∧ (offT Try.prog 23 0 = some 0) ∧ (offT Try.prog 23 1 = some 1) ∧ (offT Try.prog 34 0 = some 0) ∧ (offT Try.prog 36 0 = some 0) ∧ (offT Try.prog 36 1 = some 1) ∧ (offT Try.prog 36 2 = some 2) ∧ (offT Try.prog 36 3 = some 3) ∧ (offT Try.prog 36 4 = some 4) ∧ (offT Try.prog 41 1 = some 1) ∧ (offT Try.prog 41 2 = some 2) ∧ (offT Try.prog 43 0 = some 0) ∧ (offT Try.prog 43 1 = some 2) ∧ (slT Try.prog 32 = some (43, 5)) ∧ (szT Try.prog 3 = some 1) ∧ (szT Try.prog 34 = some 1) ∧ (zeroT Try.prog 34 = some [.slice none 0 0]) := ⟨eq_true Try.call13, eq_true Try.call14, eq_true Try.call15, eq_true Try.call16, eq_true Try.call17, eq_true Try.call18, tr0, tr8, tr9, tr14, tr15, tr16, tr26, tr27, tr33, tr34, tr35, tr36, tr37, tr38, tr40, tr41, tr42, tr43, tr60, tr67, tr69, tr82⟩
theorem tf5 : (CallT Try.prog 11 = True) ∧ (CallT Try.prog 13 = True) ∧ (CallT Try.prog 19 = True) ∧ (CallT Try.prog 20 = True) ∧ (CallT Try.prog 21 = True) ∧ (CallT Try.prog 9 = True) ∧ (kdT Try.prog 26 = some 0) ∧ (kdT Try.prog 3 = some 0) ∧ (ldT Try.prog 25 = some (some 6)) ∧ (ldT Try.prog 3 = some none) ∧ (ldT Try.prog 50 = some (some 5)) ∧ (offT Try.prog 23 0 = some 0) ∧ (offT Try.prog 23 1 = some 1) ∧ (offT Try.prog 25 2 = some 2) ∧ (offT Try.prog 25 4 = some 4) ∧ (offT Try.prog 50 0 = some 0) ∧ (offT Try.prog 50 1 = some 1) ∧ (offT Try.prog 50 2 = some 2) ∧ (offT Try.prog 50 3 = some 3) ∧ (offT Try.prog 50 4 = some 4) ∧ (szT Try.prog 3 = some 1) ∧ (szT Try.prog 50 = some 5) ∧ (zeroT Try.prog 50 = some [.int .i64 0, .int .i64 0, .int .i64 0, .int .i64 0, .int .i64 0]) := ⟨eq_true Try.call11, eq_true Try.call13, eq_true Try.call19, eq_true Try.call20, eq_true Try.call21, eq_true Try.call9, tr8, tr9, tr12, tr14, tr21, tr26, tr27, tr30, tr32, tr44, tr45, tr46, tr47, tr48, tr67, tr74, tr87⟩
theorem tf6 : (CallT Try.prog 13 = True) ∧ (CallT Try.prog 14 = True) ∧ (CallT Try.prog 15 = True) ∧ (CallT Try.prog 16 = True) ∧ (CallT Try.prog 17 = True) ∧ (CallT Try.prog 22 = True) ∧ (CallT Try.prog 23 = True) ∧ (CallT Try.prog 24 = True) ∧ (CallT Try.prog 25 = True) ∧ (CallT Try.prog 26 = True) ∧ (arT Try.prog 55 = none) ∧ (kdT Try.prog 26 = some 0) ∧ (kdT Try.prog 3 = some 0) ∧ (ldT Try.prog 23 = some (some 2)) ∧ (ldT Try.prog 34 = some (some 1)) ∧ (slT Try.prog 55 = some (23, 2)) ∧ (szT Try.prog 34 = some 1) ∧ (zeroT Try.prog 34 = some [.slice none 0 0]) := ⟨eq_true Try.call13, eq_true Try.call14, eq_true Try.call15, eq_true Try.call16, eq_true Try.call17, eq_true Try.call22, eq_true Try.call23, eq_true Try.call24, eq_true Try.call25, eq_true Try.call26, tr2, tr8, tr9, tr11, tr16, tr62, tr69, tr82⟩
theorem tf7 : (CallT Try.prog 13 = True) ∧ (CallT Try.prog 14 = True) ∧ (CallT Try.prog 16 = True) ∧ (CallT Try.prog 26 = True) ∧ (CallT Try.prog 27 = True) ∧ (CallT Try.prog 28 = True) ∧ (CallT Try.prog 29 = True) ∧ (CallT Try.prog 30 = True) ∧ (kdT Try.prog 26 = some 0) ∧ (kdT Try.prog 3 = some 0) ∧ (ldT Try.prog 34 = some (some 1)) ∧ (szT Try.prog 34 = some 1) ∧ (zeroT Try.prog 34 = some [.slice none 0 0]) := ⟨eq_true Try.call13, eq_true Try.call14, eq_true Try.call16, eq_true Try.call26, eq_true Try.call27, eq_true Try.call28, eq_true Try.call29, eq_true Try.call30, tr8, tr9, tr16, tr69, tr82⟩
theorem tf8 : (CallT Try.prog 13 = True) ∧ (CallT Try.prog 14 = True) ∧ (CallT Try.prog 15 = True) ∧ (CallT Try.prog 22 = True) ∧ (CallT Try.prog 27 = True) ∧ (CallT Try.prog 29 = True) ∧ (CallT Try.prog 31 = True) ∧ (CallT Try.prog 32 = True) ∧ (CallT Try.prog 33 = True) ∧ (arT Try.prog 32 = none) ∧ (arT Try.prog 44 = none) ∧ (arT Try.prog 55 = none) ∧ (elT Try.prog 32 = some (43, 5, [.int .i64 0, .int .i64 0, .int .i64 0, .int .i64 0, .int .i64 0], 40)) ∧ (kdT Try.prog 26 = some 0) ∧ (kdT Try.prog 3 = some 0) ∧ (ldT Try.prog 23 = some (some 2)) ∧ (ldT Try.prog 3 = some none) ∧ (ldT Try.prog 32 = some none) ∧ (ldT Try.prog 34 = some (some 1)) ∧ (ldT Try.prog 43 = some (some 5)) ∧ (offT Try.prog 23 1 = some 1) ∧ (offT Try.prog 34 0 = some 0) ∧ (offT Try.prog 41 2 = some 2) ∧ (offT Try.prog 43 1 = some 2) ∧ (placesT Try.prog 34 = some [(0, 1)]) ∧ (slT Try.prog 32 = some (43, 5)) ∧ (slT Try.prog 44 = some (3, 1)) ∧ (slT Try.prog 55 = some (23, 2)) ∧ (szT Try.prog 32 = some 1) ∧ (szT Try.prog 34 = some 1) ∧ (zeroT Try.prog 34 = some [.slice none 0 0]) := ⟨eq_true Try.call13, eq_true Try.call14, eq_true Try.call15, eq_true Try.call22, eq_true Try.call27, eq_true Try.call29, eq_true Try.call31, eq_true Try.call32, eq_true Try.call33, tr0, tr1, tr2, tr4, tr8, tr9, tr11, tr14, tr15, tr16, tr19, tr27, tr33, tr41, tr43, tr54, tr60, tr61, tr62, tr68, tr69, tr82⟩
theorem tf9 : (CallT Try.prog 34 = True) ∧ (CallT Try.prog 35 = True) ∧ (CallT Try.prog 36 = True) ∧ (kdT Try.prog 26 = some 0) ∧ (kdT Try.prog 3 = some 0) ∧ (ldT Try.prog 25 = some (some 6)) ∧ (ldT Try.prog 26 = some none) ∧ (ldT Try.prog 3 = some none) ∧ (ldT Try.prog 67 = some (some 7)) ∧ (offT Try.prog 23 1 = some 1) ∧ (offT Try.prog 25 4 = some 4) ∧ (szT Try.prog 26 = some 1) ∧ (szT Try.prog 3 = some 1) ∧ (szT Try.prog 67 = some 7) ∧ (zeroT Try.prog 26 = some [.int .i64 0]) ∧ (zeroT Try.prog 3 = some [.int .i64 0]) ∧ (zeroT Try.prog 67 = some [.int .i64 0, .int .i64 0, .int .i64 0, .int .i64 0, .int .i64 0, .int .i64 0, .int .i64 0]) := ⟨eq_true Try.call34, eq_true Try.call35, eq_true Try.call36, tr8, tr9, tr12, tr13, tr14, tr23, tr27, tr32, tr66, tr67, tr76, tr80, tr81, tr89⟩
theorem tf10 : (CallT Try.prog 37 = True) ∧ (CallT Try.prog 38 = True) ∧ (kdT Try.prog 26 = some 0) ∧ (kdT Try.prog 3 = some 0) ∧ (ldT Try.prog 25 = some (some 6)) ∧ (ldT Try.prog 3 = some none) ∧ (offT Try.prog 23 1 = some 1) ∧ (offT Try.prog 25 2 = some 2) ∧ (offT Try.prog 25 4 = some 4) := ⟨eq_true Try.call37, eq_true Try.call38, tr8, tr9, tr12, tr14, tr27, tr30, tr32⟩
theorem tf11 : (CallT Try.prog 34 = True) ∧ (CallT Try.prog 35 = True) ∧ (CallT Try.prog 39 = True) ∧ (kdT Try.prog 26 = some 0) ∧ (kdT Try.prog 3 = some 0) ∧ (ldT Try.prog 25 = some (some 6)) ∧ (ldT Try.prog 26 = some none) ∧ (ldT Try.prog 3 = some none) ∧ (ldT Try.prog 67 = some (some 7)) ∧ (szT Try.prog 26 = some 1) ∧ (szT Try.prog 3 = some 1) ∧ (szT Try.prog 67 = some 7) ∧ (zeroT Try.prog 26 = some [.int .i64 0]) ∧ (zeroT Try.prog 3 = some [.int .i64 0]) ∧ (zeroT Try.prog 67 = some [.int .i64 0, .int .i64 0, .int .i64 0, .int .i64 0, .int .i64 0, .int .i64 0, .int .i64 0]) := ⟨eq_true Try.call34, eq_true Try.call35, eq_true Try.call39, tr8, tr9, tr12, tr13, tr14, tr23, tr66, tr67, tr76, tr80, tr81, tr89⟩
theorem tf12 : (CallT Try.prog 20 = True) ∧ (CallT Try.prog 37 = True) ∧ (CallT Try.prog 40 = True) ∧ (kdT Try.prog 26 = some 0) ∧ (kdT Try.prog 3 = some 0) ∧ (ldT Try.prog 25 = some (some 6)) := ⟨eq_true Try.call20, eq_true Try.call37, eq_true Try.call40, tr8, tr9, tr12⟩
theorem tf13 : (CallT Try.prog 11 = True) ∧ (CallT Try.prog 17 = True) ∧ (CallT Try.prog 26 = True) ∧ (CallT Try.prog 41 = True) ∧ (CallT Try.prog 9 = True) ∧ (elT Try.prog 44 = some (3, 1, [.int .i64 0], 8)) ∧ (kdT Try.prog 26 = some 0) ∧ (kdT Try.prog 3 = some 0) ∧ (ldT Try.prog 25 = some (some 6)) ∧ (ldT Try.prog 34 = some (some 1)) ∧ (szT Try.prog 25 = some 6) ∧ (szT Try.prog 34 = some 1) ∧ (szT Try.prog 76 = some 4) ∧ (zeroT Try.prog 25 = some [.int .i64 0, .int .i64 0, .int .i64 0, .int .i64 0, .int .i64 0, .int .i64 0]) ∧ (zeroT Try.prog 34 = some [.slice none 0 0]) ∧ (zeroT Try.prog 76 = some [.int .i64 0, .int .i64 0, .int .i64 0, .int .i64 0]) := ⟨eq_true Try.call11, eq_true Try.call17, eq_true Try.call26, eq_true Try.call41, eq_true Try.call9, tr5, tr8, tr9, tr12, tr16, tr65, tr69, tr77, tr79, tr82, tr90⟩
theorem tf14 : (CallT Try.prog 15 = True) ∧ (kdT Try.prog 26 = some 0) ∧ (kdT Try.prog 3 = some 0) ∧ (ldT Try.prog 32 = some none) ∧ (ldT Try.prog 34 = some (some 1)) ∧ (offT Try.prog 34 0 = some 0) ∧ (slT Try.prog 32 = some (43, 5)) := ⟨eq_true Try.call15, tr8, tr9, tr15, tr16, tr33, tr60⟩
theorem tf15 : (CallT Try.prog 40 = True) ∧ (arT Try.prog 32 = none) ∧ (kdT Try.prog 3 = some 0) ∧ (ldT Try.prog 3 = some none) ∧ (ldT Try.prog 32 = some none) ∧ (ldT Try.prog 43 = some (some 5)) ∧ (offT Try.prog 23 0 = some 0) ∧ (offT Try.prog 23 1 = some 1) ∧ (offT Try.prog 34 0 = some 0) ∧ (offT Try.prog 41 0 = some 0) ∧ (offT Try.prog 41 1 = some 1) ∧ (offT Try.prog 41 2 = some 2) ∧ (offT Try.prog 43 0 = some 0) ∧ (offT Try.prog 43 1 = some 2) ∧ (slT Try.prog 32 = some (43, 5)) ∧ (szT Try.prog 43 = some 5) ∧ (zeroT Try.prog 43 = some [.int .i64 0, .int .i64 0, .int .i64 0, .int .i64 0, .int .i64 0]) := ⟨eq_true Try.call40, tr0, tr9, tr14, tr15, tr19, tr26, tr27, tr33, tr39, tr40, tr41, tr42, tr43, tr60, tr72, tr85⟩
theorem tf16 : (elT Try.prog 32 = some (43, 5, [.int .i64 0, .int .i64 0, .int .i64 0, .int .i64 0, .int .i64 0], 40)) ∧ (ldT Try.prog 32 = some none) ∧ (ldT Try.prog 34 = some (some 1)) ∧ (offT Try.prog 34 0 = some 0) ∧ (placesT Try.prog 34 = some [(0, 1)]) ∧ (szT Try.prog 34 = some 1) ∧ (zeroT Try.prog 34 = some [.slice none 0 0]) := ⟨tr4, tr15, tr16, tr33, tr54, tr69, tr82⟩
theorem tf17 : (CallT Try.prog 24 = True) ∧ (CallT Try.prog 39 = True) ∧ (CallT Try.prog 42 = True) ∧ (elT Try.prog 44 = some (3, 1, [.int .i64 0], 8)) ∧ (kdT Try.prog 26 = some 0) ∧ (kdT Try.prog 3 = some 0) ∧ (ldT Try.prog 34 = some (some 1)) ∧ (placesT Try.prog 81 = some [(0, 1)]) ∧ (zeroT Try.prog 81 = some [.slice none 0 0]) := ⟨eq_true Try.call24, eq_true Try.call39, eq_true Try.call42, tr5, tr8, tr9, tr16, tr59, tr91⟩
theorem tf18 : (CallT Try.prog 43 = True) ∧ (arT Try.prog 44 = none) ∧ (kdT Try.prog 3 = some 0) ∧ (ldT Try.prog 3 = some none) ∧ (slT Try.prog 44 = some (3, 1)) := ⟨eq_true Try.call43, tr1, tr9, tr14, tr61⟩
theorem tf19 : (CallT Try.prog 40 = True) ∧ (kdT Try.prog 3 = some 0) ∧ (ldT Try.prog 3 = some none) ∧ (offT Try.prog 23 0 = some 0) ∧ (offT Try.prog 23 1 = some 1) ∧ (offT Try.prog 25 0 = some 0) ∧ (offT Try.prog 25 1 = some 1) ∧ (offT Try.prog 25 2 = some 2) ∧ (offT Try.prog 25 3 = some 3) ∧ (offT Try.prog 25 4 = some 4) := ⟨eq_true Try.call40, tr9, tr14, tr26, tr27, tr28, tr29, tr30, tr31, tr32⟩
theorem tf20 : (CallT Try.prog 38 = True) ∧ (kdT Try.prog 3 = some 0) ∧ (ldT Try.prog 25 = some (some 6)) ∧ (ldT Try.prog 3 = some none) ∧ (offT Try.prog 25 2 = some 2) := ⟨eq_true Try.call38, tr9, tr12, tr14, tr30⟩
theorem tf21 : (kdT Try.prog 3 = some 0) ∧ (ldT Try.prog 3 = some none) ∧ (offT Try.prog 25 0 = some 0) ∧ (offT Try.prog 25 1 = some 1) ∧ (offT Try.prog 25 2 = some 2) ∧ (offT Try.prog 25 3 = some 3) ∧ (offT Try.prog 50 0 = some 0) ∧ (offT Try.prog 50 1 = some 1) ∧ (offT Try.prog 50 2 = some 2) := ⟨tr9, tr14, tr28, tr29, tr30, tr31, tr44, tr45, tr46⟩
theorem tf22 : (CallT Try.prog 24 = True) ∧ (CallT Try.prog 39 = True) ∧ (CallT Try.prog 44 = True) ∧ (arT Try.prog 55 = none) ∧ (elT Try.prog 55 = some (23, 2, [.int .i64 0, .int .i64 0], 16)) ∧ (kdT Try.prog 26 = some 0) ∧ (kdT Try.prog 3 = some 0) ∧ (ldT Try.prog 3 = some none) ∧ (ldT Try.prog 32 = some none) ∧ (ldT Try.prog 34 = some (some 1)) ∧ (ldT Try.prog 55 = some none) ∧ (offT Try.prog 23 0 = some 0) ∧ (offT Try.prog 23 1 = some 1) ∧ (offT Try.prog 34 0 = some 0) ∧ (placesT Try.prog 23 = some [(0, 1), (1, 1)]) ∧ (placesT Try.prog 81 = some [(0, 1)]) ∧ (slT Try.prog 32 = some (43, 5)) ∧ (slT Try.prog 55 = some (23, 2)) ∧ (szT Try.prog 23 = some 2) ∧ (szT Try.prog 55 = some 1) ∧ (zeroT Try.prog 23 = some [.int .i64 0, .int .i64 0]) ∧ (zeroT Try.prog 55 = some [.slice none 0 0]) ∧ (zeroT Try.prog 81 = some [.slice none 0 0]) := ⟨eq_true Try.call24, eq_true Try.call39, eq_true Try.call44, tr2, tr6, tr8, tr9, tr14, tr15, tr16, tr22, tr26, tr27, tr33, tr52, tr59, tr60, tr62, tr64, tr75, tr78, tr88, tr91⟩
theorem tf23 : (CallT Try.prog 15 = True) ∧ (CallT Try.prog 31 = True) ∧ (CallT Try.prog 45 = True) ∧ (CallT Try.prog 46 = True) ∧ (CallT Try.prog 47 = True) ∧ (elT Try.prog 55 = some (23, 2, [.int .i64 0, .int .i64 0], 16)) ∧ (kdT Try.prog 26 = some 0) ∧ (kdT Try.prog 3 = some 0) ∧ (ldT Try.prog 32 = some none) ∧ (ldT Try.prog 34 = some (some 1)) ∧ (offT Try.prog 34 0 = some 0) ∧ (placesT Try.prog 23 = some [(0, 1), (1, 1)]) ∧ (slT Try.prog 32 = some (43, 5)) ∧ (zeroT Try.prog 23 = some [.int .i64 0, .int .i64 0]) := ⟨eq_true Try.call15, eq_true Try.call31, eq_true Try.call45, eq_true Try.call46, eq_true Try.call47, tr6, tr8, tr9, tr15, tr16, tr33, tr52, tr60, tr78⟩
theorem tf24 : (CallT Try.prog 39 = True) ∧ (CallT Try.prog 48 = True) ∧ (CallT Try.prog 49 = True) ∧ (ldT Try.prog 32 = some none) ∧ (offT Try.prog 34 0 = some 0) ∧ (slT Try.prog 32 = some (43, 5)) := ⟨eq_true Try.call39, eq_true Try.call48, eq_true Try.call49, tr15, tr33, tr60⟩
theorem tf25 : (CallT Try.prog 15 = True) ∧ (CallT Try.prog 40 = True) ∧ (CallT Try.prog 45 = True) ∧ (CallT Try.prog 46 = True) ∧ (CallT Try.prog 47 = True) ∧ (CallT Try.prog 50 = True) ∧ (CallT Try.prog 51 = True) ∧ (CallT Try.prog 52 = True) ∧ (arT Try.prog 32 = none) ∧ (arT Try.prog 90 = none) ∧ (elT Try.prog 44 = some (3, 1, [.int .i64 0], 8)) ∧ (kdT Try.prog 26 = some 0) ∧ (kdT Try.prog 3 = some 0) ∧ (ldT Try.prog 32 = some none) ∧ (ldT Try.prog 34 = some (some 1)) ∧ (ldT Try.prog 4 = some none) ∧ (ldT Try.prog 41 = some (some 3)) ∧ (offT Try.prog 34 0 = some 0) ∧ (offT Try.prog 43 1 = some 2) ∧ (slT Try.prog 32 = some (43, 5)) ∧ (slT Try.prog 90 = some (4, 1)) ∧ (szT Try.prog 41 = some 3) ∧ (zeroT Try.prog 41 = some [.int .i64 0, .int .i64 0, .int .i64 0]) := ⟨eq_true Try.call15, eq_true Try.call40, eq_true Try.call45, eq_true Try.call46, eq_true Try.call47, eq_true Try.call50, eq_true Try.call51, eq_true Try.call52, tr0, tr3, tr5, tr8, tr9, tr15, tr16, tr17, tr18, tr33, tr43, tr60, tr63, tr71, tr84⟩
theorem tf26 : (arT Try.prog 44 = none) ∧ (kdT Try.prog 3 = some 0) ∧ (ldT Try.prog 3 = some none) ∧ (slT Try.prog 44 = some (3, 1)) := ⟨tr1, tr9, tr14, tr61⟩
theorem tf27 : (CallT Try.prog 24 = True) ∧ (CallT Try.prog 44 = True) ∧ (CallT Try.prog 53 = True) ∧ (arT Try.prog 32 = none) ∧ (kdT Try.prog 26 = some 0) ∧ (kdT Try.prog 3 = some 0) ∧ (ldT Try.prog 3 = some none) ∧ (ldT Try.prog 32 = some none) ∧ (ldT Try.prog 34 = some (some 1)) ∧ (ldT Try.prog 41 = some (some 3)) ∧ (offT Try.prog 23 1 = some 1) ∧ (offT Try.prog 34 0 = some 0) ∧ (offT Try.prog 43 1 = some 2) ∧ (placesT Try.prog 81 = some [(0, 1)]) ∧ (slT Try.prog 32 = some (43, 5)) ∧ (szT Try.prog 23 = some 2) ∧ (szT Try.prog 3 = some 1) ∧ (zeroT Try.prog 23 = some [.int .i64 0, .int .i64 0]) ∧ (zeroT Try.prog 3 = some [.int .i64 0]) ∧ (zeroT Try.prog 81 = some [.slice none 0 0]) := ⟨eq_true Try.call24, eq_true Try.call44, eq_true Try.call53, tr0, tr8, tr9, tr14, tr15, tr16, tr18, tr27, tr33, tr43, tr59, tr60, tr64, tr67, tr78, tr81, tr91⟩
theorem tf28 : (CallT Try.prog 15 = True) ∧ (CallT Try.prog 54 = True) ∧ (kdT Try.prog 26 = some 0) ∧ (kdT Try.prog 3 = some 0) ∧ (ldT Try.prog 34 = some (some 1)) := ⟨eq_true Try.call15, eq_true Try.call54, tr8, tr9, tr16⟩
theorem tf29 : (CallT Try.prog 24 = True) ∧ (CallT Try.prog 55 = True) ∧ (arT Try.prog 44 = none) ∧ (elT Try.prog 44 = some (3, 1, [.int .i64 0], 8)) ∧ (kdT Try.prog 26 = some 0) ∧ (kdT Try.prog 3 = some 0) ∧ (ldT Try.prog 3 = some none) ∧ (ldT Try.prog 32 = some none) ∧ (ldT Try.prog 34 = some (some 1)) ∧ (ldT Try.prog 44 = some none) ∧ (offT Try.prog 34 0 = some 0) ∧ (slT Try.prog 32 = some (43, 5)) ∧ (slT Try.prog 44 = some (3, 1)) ∧ (szT Try.prog 3 = some 1) ∧ (szT Try.prog 44 = some 1) ∧ (zeroT Try.prog 44 = some [.slice none 0 0]) := ⟨eq_true Try.call24, eq_true Try.call55, tr1, tr5, tr8, tr9, tr14, tr15, tr16, tr20, tr33, tr60, tr61, tr67, tr73, tr86⟩
theorem tf30 : (CallT Try.prog 15 = True) ∧ (CallT Try.prog 56 = True) ∧ (kdT Try.prog 26 = some 0) ∧ (ldT Try.prog 34 = some (some 1)) := ⟨eq_true Try.call15, eq_true Try.call56, tr8, tr16⟩
theorem tf31 : (CallT Try.prog 40 = True) := eq_true Try.call40
theorem tf32 : (CallT Try.prog 43 = True) ∧ (kdT Try.prog 3 = some 0) ∧ (slT Try.prog 44 = some (3, 1)) := ⟨eq_true Try.call43, tr9, tr61⟩
theorem tf33 : (CallT Try.prog 54 = True) ∧ (arT Try.prog 32 = none) ∧ (arT Try.prog 44 = none) ∧ (elT Try.prog 32 = some (43, 5, [.int .i64 0, .int .i64 0, .int .i64 0, .int .i64 0, .int .i64 0], 40)) ∧ (kdT Try.prog 3 = some 0) ∧ (ldT Try.prog 3 = some none) ∧ (ldT Try.prog 32 = some none) ∧ (ldT Try.prog 34 = some (some 1)) ∧ (ldT Try.prog 43 = some (some 5)) ∧ (offT Try.prog 34 0 = some 0) ∧ (slT Try.prog 32 = some (43, 5)) ∧ (slT Try.prog 44 = some (3, 1)) ∧ (szT Try.prog 32 = some 1) ∧ (zeroT Try.prog 34 = some [.slice none 0 0]) := ⟨eq_true Try.call54, tr0, tr1, tr4, tr9, tr14, tr15, tr16, tr19, tr33, tr60, tr61, tr68, tr82⟩
theorem tf34 : (CallT Try.prog 39 = True) ∧ (CallT Try.prog 57 = True) ∧ (kdT Try.prog 3 = some 0) ∧ (ldT Try.prog 25 = some (some 6)) ∧ (ldT Try.prog 3 = some none) ∧ (ldT Try.prog 67 = some (some 7)) ∧ (offT Try.prog 23 0 = some 0) ∧ (offT Try.prog 23 1 = some 1) ∧ (offT Try.prog 25 0 = some 0) ∧ (offT Try.prog 25 1 = some 1) ∧ (offT Try.prog 25 2 = some 2) ∧ (offT Try.prog 25 3 = some 3) ∧ (offT Try.prog 25 4 = some 4) ∧ (placesT Try.prog 67 = some [(0, 6), (6, 1)]) ∧ (szT Try.prog 67 = some 7) ∧ (zeroT Try.prog 67 = some [.int .i64 0, .int .i64 0, .int .i64 0, .int .i64 0, .int .i64 0, .int .i64 0, .int .i64 0]) := ⟨eq_true Try.call39, eq_true Try.call57, tr9, tr12, tr14, tr23, tr26, tr27, tr28, tr29, tr30, tr31, tr32, tr57, tr76, tr89⟩
theorem tf35 : (kdT Try.prog 3 = some 0) ∧ (ldT Try.prog 3 = some none) ∧ (offT Try.prog 25 0 = some 0) ∧ (offT Try.prog 25 1 = some 1) ∧ (offT Try.prog 25 2 = some 2) ∧ (offT Try.prog 25 3 = some 3) ∧ (offT Try.prog 67 0 = some 0) ∧ (offT Try.prog 67 1 = some 6) := ⟨tr9, tr14, tr28, tr29, tr30, tr31, tr49, tr50⟩
theorem tf36 : (kdT Try.prog 3 = some 0) := tr9
theorem tf37 : (CallT Try.prog 19 = True) ∧ (CallT Try.prog 40 = True) ∧ (ldT Try.prog 25 = some (some 6)) := ⟨eq_true Try.call19, eq_true Try.call40, tr12⟩
theorem tf38 : (kdT Try.prog 3 = some 0) ∧ (ldT Try.prog 3 = some none) ∧ (offT Try.prog 25 0 = some 0) ∧ (offT Try.prog 25 1 = some 1) ∧ (offT Try.prog 25 2 = some 2) ∧ (offT Try.prog 25 3 = some 3) := ⟨tr9, tr14, tr28, tr29, tr30, tr31⟩
theorem tf39 : (kdT Try.prog 3 = some 0) := tr9
theorem tf40 : (kdT Try.prog 3 = some 0) := tr9
theorem tf41 : (elT Try.prog 32 = some (43, 5, [.int .i64 0, .int .i64 0, .int .i64 0, .int .i64 0, .int .i64 0], 40)) ∧ (ldT Try.prog 25 = some (some 6)) ∧ (ldT Try.prog 34 = some (some 1)) ∧ (ldT Try.prog 76 = some (some 4)) ∧ (placesT Try.prog 23 = some [(0, 1), (1, 1)]) ∧ (placesT Try.prog 25 = some [(0, 1), (1, 1), (2, 1), (3, 1), (4, 2)]) ∧ (placesT Try.prog 34 = some [(0, 1)]) ∧ (placesT Try.prog 41 = some [(0, 1), (1, 1), (2, 1)]) ∧ (placesT Try.prog 43 = some [(0, 2), (2, 3)]) ∧ (placesT Try.prog 76 = some [(0, 1), (1, 1), (2, 1), (3, 1)]) ∧ (szT Try.prog 25 = some 6) ∧ (szT Try.prog 34 = some 1) ∧ (szT Try.prog 76 = some 4) ∧ (zeroT Try.prog 23 = some [.int .i64 0, .int .i64 0]) ∧ (zeroT Try.prog 25 = some [.int .i64 0, .int .i64 0, .int .i64 0, .int .i64 0, .int .i64 0, .int .i64 0]) ∧ (zeroT Try.prog 34 = some [.slice none 0 0]) ∧ (zeroT Try.prog 41 = some [.int .i64 0, .int .i64 0, .int .i64 0]) ∧ (zeroT Try.prog 43 = some [.int .i64 0, .int .i64 0, .int .i64 0, .int .i64 0, .int .i64 0]) ∧ (zeroT Try.prog 76 = some [.int .i64 0, .int .i64 0, .int .i64 0, .int .i64 0]) := ⟨tr4, tr12, tr16, tr24, tr52, tr53, tr54, tr55, tr56, tr58, tr65, tr69, tr77, tr78, tr79, tr82, tr84, tr85, tr90⟩
theorem tf42 : (CallT Try.prog 44 = True) ∧ (CallT Try.prog 58 = True) ∧ (CallT Try.prog 59 = True) ∧ (arT Try.prog 32 = none) ∧ (kdT Try.prog 3 = some 0) ∧ (ldT Try.prog 3 = some none) ∧ (ldT Try.prog 32 = some none) ∧ (ldT Try.prog 4 = some none) ∧ (ldT Try.prog 41 = some (some 3)) ∧ (ldT Try.prog 81 = some (some 1)) ∧ (offT Try.prog 23 0 = some 0) ∧ (offT Try.prog 23 1 = some 1) ∧ (offT Try.prog 34 0 = some 0) ∧ (offT Try.prog 43 0 = some 0) ∧ (offT Try.prog 43 1 = some 2) ∧ (offT Try.prog 81 0 = some 0) ∧ (placesT Try.prog 23 = some [(0, 1), (1, 1)]) ∧ (slT Try.prog 32 = some (43, 5)) ∧ (szT Try.prog 23 = some 2) ∧ (szT Try.prog 4 = some 1) ∧ (szT Try.prog 43 = some 5) ∧ (zeroT Try.prog 23 = some [.int .i64 0, .int .i64 0]) ∧ (zeroT Try.prog 4 = some [.bool false]) ∧ (zeroT Try.prog 43 = some [.int .i64 0, .int .i64 0, .int .i64 0, .int .i64 0, .int .i64 0]) := ⟨eq_true Try.call44, eq_true Try.call58, eq_true Try.call59, tr0, tr9, tr14, tr15, tr17, tr18, tr25, tr26, tr27, tr33, tr42, tr43, tr51, tr52, tr60, tr64, tr70, tr72, tr78, tr83, tr85⟩
theorem tf43 : (arT Try.prog 44 = none) ∧ (kdT Try.prog 3 = some 0) ∧ (ldT Try.prog 3 = some none) ∧ (slT Try.prog 44 = some (3, 1)) := ⟨tr1, tr9, tr14, tr61⟩
theorem tf44 : (CallT Try.prog 59 = True) ∧ (kdT Try.prog 3 = some 0) ∧ (ldT Try.prog 102 = some none) ∧ (ldT Try.prog 23 = some (some 2)) ∧ (ldT Try.prog 3 = some none) ∧ (ldT Try.prog 32 = some none) ∧ (offT Try.prog 23 0 = some 0) ∧ (offT Try.prog 23 1 = some 1) ∧ (offT Try.prog 34 0 = some 0) ∧ (offT Try.prog 43 0 = some 0) ∧ (offT Try.prog 81 0 = some 0) ∧ (placesT Try.prog 23 = some [(0, 1), (1, 1)]) ∧ (szT Try.prog 23 = some 2) ∧ (szT Try.prog 43 = some 5) ∧ (zeroT Try.prog 23 = some [.int .i64 0, .int .i64 0]) ∧ (zeroT Try.prog 43 = some [.int .i64 0, .int .i64 0, .int .i64 0, .int .i64 0, .int .i64 0]) := ⟨eq_true Try.call59, tr9, tr10, tr11, tr14, tr15, tr26, tr27, tr33, tr42, tr51, tr52, tr64, tr72, tr78, tr85⟩
theorem tf45 : (arT Try.prog 44 = none) ∧ (kdT Try.prog 3 = some 0) ∧ (ldT Try.prog 3 = some none) ∧ (slT Try.prog 44 = some (3, 1)) := ⟨tr1, tr9, tr14, tr61⟩
theorem tf46 : (arT Try.prog 32 = none) ∧ (elT Try.prog 44 = some (3, 1, [.int .i64 0], 8)) ∧ (kdT Try.prog 3 = some 0) ∧ (ldT Try.prog 3 = some none) ∧ (ldT Try.prog 32 = some none) ∧ (offT Try.prog 23 0 = some 0) ∧ (offT Try.prog 34 0 = some 0) ∧ (offT Try.prog 43 0 = some 0) ∧ (slT Try.prog 32 = some (43, 5)) := ⟨tr0, tr5, tr9, tr14, tr15, tr26, tr33, tr42, tr60⟩
theorem tf47 : (arT Try.prog 32 = none) ∧ (elT Try.prog 44 = some (3, 1, [.int .i64 0], 8)) ∧ (kdT Try.prog 3 = some 0) ∧ (ldT Try.prog 3 = some none) ∧ (ldT Try.prog 32 = some none) ∧ (offT Try.prog 23 1 = some 1) ∧ (offT Try.prog 34 0 = some 0) ∧ (offT Try.prog 43 0 = some 0) ∧ (slT Try.prog 32 = some (43, 5)) := ⟨tr0, tr5, tr9, tr14, tr15, tr27, tr33, tr42, tr60⟩
theorem tf48 : (CallT Try.prog 39 = True) ∧ (kdT Try.prog 3 = some 0) ∧ (ldT Try.prog 3 = some none) ∧ (offT Try.prog 23 0 = some 0) ∧ (offT Try.prog 23 1 = some 1) ∧ (offT Try.prog 41 0 = some 0) ∧ (offT Try.prog 41 1 = some 1) ∧ (offT Try.prog 41 2 = some 2) ∧ (offT Try.prog 43 0 = some 0) ∧ (offT Try.prog 43 1 = some 2) := ⟨eq_true Try.call39, tr9, tr14, tr26, tr27, tr39, tr40, tr41, tr42, tr43⟩
theorem tf49 : (CallT Try.prog 60 = True) ∧ (kdT Try.prog 3 = some 0) := ⟨eq_true Try.call60, tr9⟩
theorem tf50 : (kdT Try.prog 3 = some 0) ∧ (ldT Try.prog 3 = some none) ∧ (offT Try.prog 41 2 = some 2) := ⟨tr9, tr14, tr41⟩
theorem tf51 : (kdT Try.prog 3 = some 0) ∧ (ldT Try.prog 3 = some none) ∧ (offT Try.prog 41 0 = some 0) ∧ (offT Try.prog 41 1 = some 1) := ⟨tr9, tr14, tr39, tr40⟩
theorem tf52 : (CallT Try.prog 50 = True) ∧ (CallT Try.prog 51 = True) ∧ (CallT Try.prog 52 = True) ∧ (arT Try.prog 32 = none) ∧ (arT Try.prog 90 = none) ∧ (elT Try.prog 90 = some (4, 1, [.bool false], 1)) ∧ (kdT Try.prog 3 = some 0) ∧ (ldT Try.prog 3 = some none) ∧ (ldT Try.prog 32 = some none) ∧ (ldT Try.prog 34 = some (some 1)) ∧ (ldT Try.prog 4 = some none) ∧ (ldT Try.prog 41 = some (some 3)) ∧ (ldT Try.prog 43 = some (some 5)) ∧ (offT Try.prog 23 0 = some 0) ∧ (offT Try.prog 23 1 = some 1) ∧ (offT Try.prog 34 0 = some 0) ∧ (offT Try.prog 43 0 = some 0) ∧ (offT Try.prog 43 1 = some 2) ∧ (slT Try.prog 32 = some (43, 5)) ∧ (slT Try.prog 90 = some (4, 1)) ∧ (szT Try.prog 4 = some 1) ∧ (szT Try.prog 43 = some 5) ∧ (zeroT Try.prog 43 = some [.int .i64 0, .int .i64 0, .int .i64 0, .int .i64 0, .int .i64 0]) := ⟨eq_true Try.call50, eq_true Try.call51, eq_true Try.call52, tr0, tr3, tr7, tr9, tr14, tr15, tr16, tr17, tr18, tr19, tr26, tr27, tr33, tr42, tr43, tr60, tr63, tr70, tr72, tr85⟩
theorem tf53 : (kdT Try.prog 3 = some 0) ∧ (ldT Try.prog 3 = some none) ∧ (offT Try.prog 41 2 = some 2) := ⟨tr9, tr14, tr41⟩
theorem tf54 : (CallT Try.prog 45 = True) ∧ (CallT Try.prog 47 = True) ∧ (CallT Try.prog 50 = True) ∧ (arT Try.prog 32 = none) ∧ (kdT Try.prog 3 = some 0) ∧ (ldT Try.prog 32 = some none) ∧ (ldT Try.prog 34 = some (some 1)) ∧ (ldT Try.prog 41 = some (some 3)) ∧ (offT Try.prog 34 0 = some 0) ∧ (offT Try.prog 43 1 = some 2) ∧ (slT Try.prog 32 = some (43, 5)) := ⟨eq_true Try.call45, eq_true Try.call47, eq_true Try.call50, tr0, tr9, tr15, tr16, tr18, tr33, tr43, tr60⟩
theorem tf55 : (CallT Try.prog 53 = True) ∧ (arT Try.prog 32 = none) ∧ (arT Try.prog 44 = none) ∧ (kdT Try.prog 3 = some 0) ∧ (ldT Try.prog 3 = some none) ∧ (ldT Try.prog 32 = some none) ∧ (ldT Try.prog 41 = some (some 3)) ∧ (ldT Try.prog 43 = some (some 5)) ∧ (ldT Try.prog 44 = some none) ∧ (offT Try.prog 23 1 = some 1) ∧ (offT Try.prog 34 0 = some 0) ∧ (offT Try.prog 43 0 = some 0) ∧ (offT Try.prog 43 1 = some 2) ∧ (slT Try.prog 32 = some (43, 5)) ∧ (slT Try.prog 44 = some (3, 1)) ∧ (szT Try.prog 43 = some 5) ∧ (zeroT Try.prog 43 = some [.int .i64 0, .int .i64 0, .int .i64 0, .int .i64 0, .int .i64 0]) := ⟨eq_true Try.call53, tr0, tr1, tr9, tr14, tr15, tr18, tr19, tr20, tr27, tr33, tr42, tr43, tr60, tr61, tr72, tr85⟩
theorem tf56 : (CallT Try.prog 33 = True) ∧ (CallT Try.prog 56 = True) ∧ (CallT Try.prog 61 = True) ∧ (elT Try.prog 44 = some (3, 1, [.int .i64 0], 8)) ∧ (kdT Try.prog 3 = some 0) ∧ (ldT Try.prog 32 = some none) ∧ (ldT Try.prog 34 = some (some 1)) ∧ (offT Try.prog 34 0 = some 0) ∧ (slT Try.prog 32 = some (43, 5)) ∧ (slT Try.prog 44 = some (3, 1)) := ⟨eq_true Try.call33, eq_true Try.call56, eq_true Try.call61, tr5, tr9, tr15, tr16, tr33, tr60, tr61⟩
theorem tf57 : (CallT Try.prog 39 = True) := eq_true Try.call39
theorem tf58 : (CallT Try.prog 36 = True) ∧ (kdT Try.prog 3 = some 0) ∧ (ldT Try.prog 23 = some (some 2)) ∧ (ldT Try.prog 3 = some none) ∧ (offT Try.prog 23 0 = some 0) ∧ (offT Try.prog 23 1 = some 1) ∧ (offT Try.prog 41 0 = some 0) ∧ (offT Try.prog 41 1 = some 1) ∧ (offT Try.prog 41 2 = some 2) ∧ (placesT Try.prog 23 = some [(0, 1), (1, 1)]) ∧ (szT Try.prog 23 = some 2) ∧ (szT Try.prog 3 = some 1) ∧ (zeroT Try.prog 23 = some [.int .i64 0, .int .i64 0]) := ⟨eq_true Try.call36, tr9, tr11, tr14, tr26, tr27, tr39, tr40, tr41, tr52, tr64, tr67, tr78⟩
theorem tf59 : (CallT Try.prog 62 = True) := eq_true Try.call62
theorem tf60 : (arT Try.prog 32 = none) ∧ (kdT Try.prog 3 = some 0) ∧ (ldT Try.prog 43 = some (some 5)) ∧ (slT Try.prog 32 = some (43, 5)) := ⟨tr0, tr9, tr19, tr60⟩
theorem tf61 : (arT Try.prog 44 = none) ∧ (kdT Try.prog 3 = some 0) ∧ (ldT Try.prog 3 = some none) ∧ (slT Try.prog 44 = some (3, 1)) := ⟨tr1, tr9, tr14, tr61⟩
theorem tf62 : (arT Try.prog 32 = none) ∧ (kdT Try.prog 3 = some 0) ∧ (ldT Try.prog 32 = some none) ∧ (ldT Try.prog 43 = some (some 5)) ∧ (slT Try.prog 32 = some (43, 5)) := ⟨tr0, tr9, tr15, tr19, tr60⟩
theorem cT3 : CallT Try.prog 3 = True := eq_true Try.call3
theorem cT4 : CallT Try.prog 4 = True := eq_true Try.call4
theorem cT5 : CallT Try.prog 5 = True := eq_true Try.call5
theorem cT6 : CallT Try.prog 6 = True := eq_true Try.call6
theorem cT7 : CallT Try.prog 7 = True := eq_true Try.call7
theorem cT8 : CallT Try.prog 8 = True := eq_true Try.call8
theorem cT9 : CallT Try.prog 9 = True := eq_true Try.call9
theorem cT10 : CallT Try.prog 10 = True := eq_true Try.call10
theorem cT11 : CallT Try.prog 11 = True := eq_true Try.call11
theorem cT12 : CallT Try.prog 12 = True := eq_true Try.call12
theorem cT13 : CallT Try.prog 13 = True := eq_true Try.call13
theorem cT14 : CallT Try.prog 14 = True := eq_true Try.call14
theorem cT15 : CallT Try.prog 15 = True := eq_true Try.call15
theorem cT16 : CallT Try.prog 16 = True := eq_true Try.call16
theorem cT17 : CallT Try.prog 17 = True := eq_true Try.call17
theorem cT18 : CallT Try.prog 18 = True := eq_true Try.call18
theorem cT19 : CallT Try.prog 19 = True := eq_true Try.call19
theorem cT20 : CallT Try.prog 20 = True := eq_true Try.call20
theorem cT21 : CallT Try.prog 21 = True := eq_true Try.call21
theorem cT22 : CallT Try.prog 22 = True := eq_true Try.call22
theorem cT23 : CallT Try.prog 23 = True := eq_true Try.call23
theorem cT24 : CallT Try.prog 24 = True := eq_true Try.call24
theorem cT25 : CallT Try.prog 25 = True := eq_true Try.call25
theorem cT26 : CallT Try.prog 26 = True := eq_true Try.call26
theorem cT27 : CallT Try.prog 27 = True := eq_true Try.call27
theorem cT28 : CallT Try.prog 28 = True := eq_true Try.call28
theorem cT29 : CallT Try.prog 29 = True := eq_true Try.call29
theorem cT30 : CallT Try.prog 30 = True := eq_true Try.call30
theorem cT31 : CallT Try.prog 31 = True := eq_true Try.call31
theorem cT32 : CallT Try.prog 32 = True := eq_true Try.call32
theorem cT33 : CallT Try.prog 33 = True := eq_true Try.call33
theorem cT34 : CallT Try.prog 34 = True := eq_true Try.call34
theorem cT35 : CallT Try.prog 35 = True := eq_true Try.call35
theorem cT36 : CallT Try.prog 36 = True := eq_true Try.call36
theorem cT37 : CallT Try.prog 37 = True := eq_true Try.call37
theorem cT38 : CallT Try.prog 38 = True := eq_true Try.call38
theorem cT39 : CallT Try.prog 39 = True := eq_true Try.call39
theorem cT40 : CallT Try.prog 40 = True := eq_true Try.call40
theorem cT41 : CallT Try.prog 41 = True := eq_true Try.call41
theorem cT42 : CallT Try.prog 42 = True := eq_true Try.call42
theorem cT43 : CallT Try.prog 43 = True := eq_true Try.call43
theorem cT44 : CallT Try.prog 44 = True := eq_true Try.call44
theorem cT45 : CallT Try.prog 45 = True := eq_true Try.call45
theorem cT46 : CallT Try.prog 46 = True := eq_true Try.call46
theorem cT47 : CallT Try.prog 47 = True := eq_true Try.call47
theorem cT48 : CallT Try.prog 48 = True := eq_true Try.call48
theorem cT49 : CallT Try.prog 49 = True := eq_true Try.call49
theorem cT50 : CallT Try.prog 50 = True := eq_true Try.call50
theorem cT51 : CallT Try.prog 51 = True := eq_true Try.call51
theorem cT52 : CallT Try.prog 52 = True := eq_true Try.call52
theorem cT53 : CallT Try.prog 53 = True := eq_true Try.call53
theorem cT54 : CallT Try.prog 54 = True := eq_true Try.call54
theorem cT55 : CallT Try.prog 55 = True := eq_true Try.call55
theorem cT56 : CallT Try.prog 56 = True := eq_true Try.call56
theorem cT57 : CallT Try.prog 57 = True := eq_true Try.call57
theorem cT58 : CallT Try.prog 58 = True := eq_true Try.call58
theorem cT59 : CallT Try.prog 59 = True := eq_true Try.call59
theorem cT60 : CallT Try.prog 60 = True := eq_true Try.call60
theorem cT61 : CallT Try.prog 61 = True := eq_true Try.call61
theorem cT62 : CallT Try.prog 62 = True := eq_true Try.call62
theorem res3 : Try.f3.results.toList = [.tmp 6] := by kernel_rfl
theorem res4 : Try.f4.results.toList = [.tmp 6] := by kernel_rfl
theorem res5 : Try.f5.results.toList = [.tmp 4] := by kernel_rfl
theorem res6 : Try.f6.results.toList = [.tmp 6] := by kernel_rfl
theorem res7 : Try.f7.results.toList = [.tmp 2] := by kernel_rfl
theorem res8 : Try.f8.results.toList = [.tmp 6] := by kernel_rfl
theorem res9 : Try.f9.results.toList = [.cell 4 3, .cell 5 26] := by kernel_rfl
theorem res10 : Try.f10.results.toList = [.tmp 4, .tmp 5] := by kernel_rfl
theorem res11 : Try.f11.results.toList = [.cell 6 3, .cell 7 26] := by kernel_rfl
theorem res12 : Try.f12.results.toList = [.tmp 6, .tmp 7] := by kernel_rfl
theorem res13 : Try.f13.results.toList = [.tmp 0] := by kernel_rfl
theorem res14 : Try.f14.results.toList = [.tmp 2] := by kernel_rfl
theorem res15 : Try.f15.results.toList = [.tmp 2] := by kernel_rfl
theorem res16 : Try.f16.results.toList = [.cell 2 34] := by kernel_rfl
theorem res17 : Try.f17.results.toList = [.tmp 4, .tmp 5, .tmp 6] := by kernel_rfl
theorem res18 : Try.f18.results.toList = [.tmp 4] := by kernel_rfl
theorem res19 : Try.f19.results.toList = [.tmp 2] := by kernel_rfl
theorem res20 : Try.f20.results.toList = [.tmp 8] := by kernel_rfl
theorem res21 : Try.f21.results.toList = [.tmp 6] := by kernel_rfl
theorem res22 : Try.f22.results.toList = [.tmp 4, .tmp 5] := by kernel_rfl
theorem res23 : Try.f23.results.toList = [.tmp 4, .tmp 5] := by kernel_rfl
theorem res24 : Try.f24.results.toList = [.tmp 2] := by kernel_rfl
theorem res25 : Try.f25.results.toList = [.tmp 4, .tmp 5, .tmp 6] := by kernel_rfl
theorem res26 : Try.f26.results.toList = [.tmp 4] := by kernel_rfl
theorem res27 : Try.f27.results.toList = [.tmp 2, .tmp 3] := by kernel_rfl
theorem res28 : Try.f28.results.toList = [.tmp 2, .tmp 3] := by kernel_rfl
theorem res29 : Try.f29.results.toList = [.tmp 2, .tmp 3] := by kernel_rfl
theorem res30 : Try.f30.results.toList = [.tmp 2, .tmp 3] := by kernel_rfl
theorem res31 : Try.f31.results.toList = [.tmp 2] := by kernel_rfl
theorem res32 : Try.f32.results.toList = [.tmp 4] := by kernel_rfl
theorem res33 : Try.f33.results.toList = [.tmp 4] := by kernel_rfl
theorem res34 : Try.f34.results.toList = [.cell 4 67, .tmp 5] := by kernel_rfl
theorem res35 : Try.f35.results.toList = [] := by kernel_rfl
theorem res36 : Try.f36.results.toList = [.tmp 4] := by kernel_rfl
theorem res37 : Try.f37.results.toList = [.tmp 4] := by kernel_rfl
theorem res38 : Try.f38.results.toList = [.tmp 6] := by kernel_rfl
theorem res39 : Try.f39.results.toList = [.tmp 6] := by kernel_rfl
theorem res40 : Try.f40.results.toList = [.tmp 6] := by kernel_rfl
theorem res41 : Try.f41.results.toList = [.cell 0 34, .cell 1 76, .cell 2 25] := by kernel_rfl
theorem res42 : Try.f42.results.toList = [.cell 6 4, .cell 7 4] := by kernel_rfl
theorem res43 : Try.f43.results.toList = [.tmp 4] := by kernel_rfl
theorem res44 : Try.f44.results.toList = [] := by kernel_rfl
theorem res45 : Try.f45.results.toList = [.tmp 6] := by kernel_rfl
theorem res46 : Try.f46.results.toList = [.tmp 2] := by kernel_rfl
theorem res47 : Try.f47.results.toList = [.tmp 2] := by kernel_rfl
theorem res48 : Try.f48.results.toList = [.tmp 2] := by kernel_rfl
theorem res49 : Try.f49.results.toList = [.tmp 4] := by kernel_rfl
theorem res50 : Try.f50.results.toList = [.tmp 4] := by kernel_rfl
theorem res51 : Try.f51.results.toList = [.tmp 6] := by kernel_rfl
theorem res52 : Try.f52.results.toList = [.tmp 8] := by kernel_rfl
theorem res53 : Try.f53.results.toList = [.tmp 4] := by kernel_rfl
theorem res54 : Try.f54.results.toList = [.tmp 4] := by kernel_rfl
theorem res55 : Try.f55.results.toList = [.tmp 6] := by kernel_rfl
theorem res56 : Try.f56.results.toList = [.tmp 4, .tmp 5] := by kernel_rfl
theorem res57 : Try.f57.results.toList = [.tmp 2] := by kernel_rfl
theorem res58 : Try.f58.results.toList = [.cell 6 23, .tmp 7] := by kernel_rfl
theorem res59 : Try.f59.results.toList = [.tmp 2] := by kernel_rfl
theorem res60 : Try.f60.results.toList = [.tmp 4] := by kernel_rfl
theorem res61 : Try.f61.results.toList = [.tmp 4] := by kernel_rfl
theorem res62 : Try.f62.results.toList = [] := by kernel_rfl

noncomputable abbrev EV (w : World) (X : Nat → Prop) (re : List Nat) (ord : List (Nat × Plan)) (det : Nat → List Value → Option Value) (cuts : List Nat) : Env := { P := Try.prog, w0 := ⟨w, X⟩, re := re, ord := ord, det := det, cuts := cuts }

abbrev I (n : Int) : Value := .int .i64 n

theorem mixed_prog : Try.prog.follows .mixedOrders = true := by kernel_rfl

theorem walkC {f : Nat} {fn : Func} {c : Code} {args : List Value} {n : Nat} {rs : List ResultVar} {Post : Value → List HO → Prop} {w : World} {X : Nat → Prop} (cuts : List Nat) (re : List Nat) (ord : List (Nat × Plan)) {det : Nat → List Value → Option Value} (hD : DetFn Try.prog ⟨w, X⟩ det)
    (hf : Try.prog.funcs[f]? = some fn) (hb : fn.body = some c) (hn : fn.ntmps = n) (hr : fn.results.toList = rs) (hok : codeB ord c = true) {H0 : List HO}
    (h0 : (∀ h ∈ H0, h.ok w) ∧ (∀ h ∈ H0, ∀ b, h.fp b → X b) ∧ H0.Pairwise Apart)
    (h : W (EV w X re ord det cuts) c (retQ (EV w X re ord det cuts) rs Post) (args.map SV.v ++ List.replicate (n - args.length) (.v undef)) [] H0) : SX.Fn Try.prog f args w X Post := by
  subst hn hr
  exact SX.Fn.intro (E := EV w X re ord det cuts) hf hb trivial hD mixed_prog hok h0 h

theorem walk {f : Nat} {fn : Func} {c : Code} {args : List Value} {n : Nat} {rs : List ResultVar} {Post : Value → List HO → Prop} {w : World} {X : Nat → Prop} (re : List Nat) (ord : List (Nat × Plan)) {det : Nat → List Value → Option Value} (hD : DetFn Try.prog ⟨w, X⟩ det)
    (hf : Try.prog.funcs[f]? = some fn) (hb : fn.body = some c) (hn : fn.ntmps = n) (hr : fn.results.toList = rs) (hok : codeB ord c = true) {H0 : List HO}
    (h0 : (∀ h ∈ H0, h.ok w) ∧ (∀ h ∈ H0, ∀ b, h.fp b → X b) ∧ H0.Pairwise Apart)
    (h : W (EV w X re ord det []) c (retQ (EV w X re ord det []) rs Post) (args.map SV.v ++ List.replicate (n - args.length) (.v undef)) [] H0) : SX.Fn Try.prog f args w X Post :=
  walkC [] re ord hD hf hb hn hr hok h0 h

theorem walkIterR {gf : Nat} {fn : Func} {c : Code} {pre post : List Value} {nt n : Nat} {arg : Nat → List Value → List HO → Prop} {w : World} (Rs : Nat → Prop) (re : List Nat) (ord : List (Nat × Plan)) {det : Nat → List Value → Option Value} (hD : ∀ X, (∀ b, Rs b → ¬ X b) → DetFn Try.prog ⟨w, X⟩ det)
    (hf : Try.prog.funcs[gf]? = some fn) (hb : fn.body = some c) (hn : fn.ntmps = nt) (hr : fn.results.toList = []) (hok : codeB ord c = true)
    (h : ∀ l J C R, (∀ b, Rs b → ¬ (C b ∨ False)) → Handler Try.prog l n arg w C (fun _ => False) J → W (EV w (fun b => C b ∨ False) re ord det []) c (retQ (EV w (fun b => C b ∨ False) re ord det []) [] (iterPost n J)) ((pre ++ [Value.func (.yield l) #[] #[]] ++ post).map SV.v ++ List.replicate (nt - (pre ++ [Value.func (.yield l) #[] #[]] ++ post).length) (.v undef)) [] [consu J (some 0) C R]) :
    Iter Try.prog gf pre post n arg (fun _ => False) Rs w := by
  refine Iter.intro fun l J C R hRs hH hk => ?_
  have hRs' : ∀ b, Rs b → ¬ (C b ∨ False) := fun b hb hc => hc.elim (hRs b hb) id
  have hw := h l J C R hRs' hH
  rw [← hr] at hw
  subst hn
  exact Fn.introZ (E := EV w (fun b => C b ∨ False) re ord det []) (fun b => C b ∨ R b) hf hb trivial (hD _ hRs') mixed_prog hok ⟨fun g hg => by rw [List.mem_singleton] at hg; subst hg; exact hk, fun g hg b => by rw [List.mem_singleton] at hg; subst hg; exact ⟨id, fun x => .inl x⟩, List.pairwise_singleton _ _⟩ hw

theorem walkIter {gf : Nat} {fn : Func} {c : Code} {pre post : List Value} {nt n : Nat} {arg : Nat → List Value → List HO → Prop} {w : World} (re : List Nat) (ord : List (Nat × Plan)) {det : Nat → List Value → Option Value} (hD : ∀ X, DetFn Try.prog ⟨w, X⟩ det)
    (hf : Try.prog.funcs[gf]? = some fn) (hb : fn.body = some c) (hn : fn.ntmps = nt) (hr : fn.results.toList = []) (hok : codeB ord c = true)
    (h : ∀ l J C R, Handler Try.prog l n arg w C (fun _ => False) J → W (EV w (fun b => C b ∨ False) re ord det []) c (retQ (EV w (fun b => C b ∨ False) re ord det []) [] (iterPost n J)) ((pre ++ [Value.func (.yield l) #[] #[]] ++ post).map SV.v ++ List.replicate (nt - (pre ++ [Value.func (.yield l) #[] #[]] ++ post).length) (.v undef)) [] [consu J (some 0) C R]) :
    Iter Try.prog gf pre post n arg (fun _ => False) (fun _ => False) w :=
  walkIterR _ re ord (fun X _ => hD X) hf hb hn hr hok fun l J C R _ => h l J C R

theorem no_facts {w : World} {X : Nat → Prop} : (∀ h ∈ ([] : List HO), h.ok w) ∧ (∀ h ∈ ([] : List HO), ∀ b, h.fp b → X b) ∧ ([] : List HO).Pairwise Apart := ⟨by simp, by simp, List.Pairwise.nil⟩

theorem wrap_id {n : Int} (h : -9223372036854775808 ≤ n ∧ n ≤ 9223372036854775807) : IntKind.i64.wrap n = n := by
  rw [IntKind.wrap_i64]
  omega

end Go.Proofs.Ytpfbpelkodlljaa
