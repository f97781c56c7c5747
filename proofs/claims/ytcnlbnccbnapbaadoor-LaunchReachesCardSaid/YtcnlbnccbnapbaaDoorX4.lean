/- Parts of a proof: the symbolic walk and what it shows of single functions. -/
import Derived.Test.YtcnlbnccbnapbaaDoorRows
import Derived.Test.YtcnlbnccbnapbaaDoorX3
set_option linter.all false
/- The tables of the program, read once; what each function needs of them. Written by gen_tab.py. -/
namespace Go.Proofs.YtcnlbnccbnapbaaDoor
open Go.RowKit Go.SX
set_option maxRecDepth 4000

theorem tr0 : arT Tryd.prog 102 = none := by kernel_rfl
theorem tr1 : arT Tryd.prog 103 = none := by kernel_rfl
theorem tr2 : arT Tryd.prog 104 = none := by kernel_rfl
theorem tr3 : arT Tryd.prog 116 = none := by kernel_rfl
theorem tr4 : arT Tryd.prog 135 = none := by kernel_rfl
theorem tr5 : arT Tryd.prog 163 = none := by kernel_rfl
theorem tr6 : arT Tryd.prog 164 = none := by kernel_rfl
theorem tr7 : arT Tryd.prog 168 = none := by kernel_rfl
theorem tr8 : arT Tryd.prog 170 = some (6, 1, none) := by kernel_rfl
theorem tr9 : arT Tryd.prog 181 = some (6, 3, some 3) := by kernel_rfl
theorem tr10 : arT Tryd.prog 22 = none := by kernel_rfl
theorem tr11 : arT Tryd.prog 23 = none := by kernel_rfl
theorem tr12 : arT Tryd.prog 65 = none := by kernel_rfl
theorem tr13 : arT Tryd.prog 70 = none := by kernel_rfl
theorem tr14 : elT Tryd.prog 102 = some (4, 1, [.bool false], 1) := by kernel_rfl
theorem tr15 : elT Tryd.prog 103 = some (102, 1, [.slice none 0 0], 24) := by kernel_rfl
theorem tr16 : elT Tryd.prog 104 = some (22, 1, [.slice none 0 0], 24) := by kernel_rfl
theorem tr17 : elT Tryd.prog 135 = some (164, 1, [.slice none 0 0], 24) := by kernel_rfl
theorem tr18 : elT Tryd.prog 163 = some (162, 3, [.int .i64 0, .int .i64 0, .int .i64 0], 24) := by kernel_rfl
theorem tr19 : elT Tryd.prog 164 = some (163, 1, [.slice none 0 0], 24) := by kernel_rfl
theorem tr20 : elT Tryd.prog 168 = some (104, 1, [.slice none 0 0], 24) := by kernel_rfl
theorem tr21 : elT Tryd.prog 22 = some (3, 1, [.int .i64 0], 8) := by kernel_rfl
theorem tr22 : elT Tryd.prog 23 = some (54, 2, [.int .i64 0, .int .i64 0], 16) := by kernel_rfl
theorem tr23 : elT Tryd.prog 65 = some (27, 7, [.int .i64 0, .int .i64 0, .int .i64 0, .int .i64 0, .int .i64 0, .int .i64 0, .int .i64 0], 56) := by kernel_rfl
theorem tr24 : elT Tryd.prog 70 = some (77, 3, [.int .i64 0, .int .i64 0, .int .i64 0], 24) := by kernel_rfl
theorem tr25 : fldT Tryd.prog 54 0 = some (0, none) := by kernel_rfl
theorem tr26 : intT Tryd.prog 182 = some .u32 := by kernel_rfl
theorem tr27 : intT Tryd.prog 185 = some .u64 := by kernel_rfl
theorem tr28 : intT Tryd.prog 3 = some .i64 := by kernel_rfl
theorem tr29 : intT Tryd.prog 68 = some .u64 := by kernel_rfl
theorem tr30 : kdT Tryd.prog 185 = some 0 := by kernel_rfl
theorem tr31 : kdT Tryd.prog 3 = some 0 := by kernel_rfl
theorem tr32 : kdT Tryd.prog 38 = some 0 := by kernel_rfl
theorem tr33 : kdT Tryd.prog 4 = some 1 := by kernel_rfl
theorem tr34 : kdT Tryd.prog 68 = some 0 := by kernel_rfl
theorem tr35 : ldT Tryd.prog 102 = some none := by kernel_rfl
theorem tr36 : ldT Tryd.prog 103 = some none := by kernel_rfl
theorem tr37 : ldT Tryd.prog 104 = some none := by kernel_rfl
theorem tr38 : ldT Tryd.prog 123 = some (some 6) := by kernel_rfl
theorem tr39 : ldT Tryd.prog 148 = some none := by kernel_rfl
theorem tr40 : ldT Tryd.prog 162 = some (some 3) := by kernel_rfl
theorem tr41 : ldT Tryd.prog 163 = some none := by kernel_rfl
theorem tr42 : ldT Tryd.prog 164 = some none := by kernel_rfl
theorem tr43 : ldT Tryd.prog 180 = some (some 3) := by kernel_rfl
theorem tr44 : ldT Tryd.prog 22 = some none := by kernel_rfl
theorem tr45 : ldT Tryd.prog 23 = some none := by kernel_rfl
theorem tr46 : ldT Tryd.prog 25 = some (some 5) := by kernel_rfl
theorem tr47 : ldT Tryd.prog 27 = some (some 7) := by kernel_rfl
theorem tr48 : ldT Tryd.prog 29 = some (some 5) := by kernel_rfl
theorem tr49 : ldT Tryd.prog 3 = some none := by kernel_rfl
theorem tr50 : ldT Tryd.prog 31 = some (some 2) := by kernel_rfl
theorem tr51 : ldT Tryd.prog 33 = some (some 9) := by kernel_rfl
theorem tr52 : ldT Tryd.prog 37 = some (some 2) := by kernel_rfl
theorem tr53 : ldT Tryd.prog 38 = some none := by kernel_rfl
theorem tr54 : ldT Tryd.prog 4 = some none := by kernel_rfl
theorem tr55 : ldT Tryd.prog 54 = some (some 2) := by kernel_rfl
theorem tr56 : ldT Tryd.prog 65 = some none := by kernel_rfl
theorem tr57 : ldT Tryd.prog 70 = some none := by kernel_rfl
theorem tr58 : ldT Tryd.prog 77 = some (some 3) := by kernel_rfl
theorem tr59 : ldT Tryd.prog 84 = some none := by kernel_rfl
theorem tr60 : ldT Tryd.prog 98 = some (some 5) := by kernel_rfl
theorem tr61 : offT Tryd.prog 106 0 = some 0 := by kernel_rfl
theorem tr62 : offT Tryd.prog 106 1 = some 5 := by kernel_rfl
theorem tr63 : offT Tryd.prog 106 2 = some 12 := by kernel_rfl
theorem tr64 : offT Tryd.prog 106 3 = some 13 := by kernel_rfl
theorem tr65 : offT Tryd.prog 106 4 = some 14 := by kernel_rfl
theorem tr66 : offT Tryd.prog 106 5 = some 15 := by kernel_rfl
theorem tr67 : offT Tryd.prog 123 0 = some 0 := by kernel_rfl
theorem tr68 : offT Tryd.prog 123 1 = some 5 := by kernel_rfl
theorem tr69 : offT Tryd.prog 155 0 = some 0 := by kernel_rfl
theorem tr70 : offT Tryd.prog 155 1 = some 1 := by kernel_rfl
theorem tr71 : offT Tryd.prog 155 2 = some 2 := by kernel_rfl
theorem tr72 : offT Tryd.prog 162 0 = some 0 := by kernel_rfl
theorem tr73 : offT Tryd.prog 162 1 = some 1 := by kernel_rfl
theorem tr74 : offT Tryd.prog 162 2 = some 2 := by kernel_rfl
theorem tr75 : offT Tryd.prog 180 0 = some 0 := by kernel_rfl
theorem tr76 : offT Tryd.prog 180 1 = some 1 := by kernel_rfl
theorem tr77 : offT Tryd.prog 180 2 = some 2 := by kernel_rfl
theorem tr78 : offT Tryd.prog 25 0 = some 0 := by kernel_rfl
theorem tr79 : offT Tryd.prog 25 1 = some 1 := by kernel_rfl
theorem tr80 : offT Tryd.prog 25 2 = some 2 := by kernel_rfl
theorem tr81 : offT Tryd.prog 25 3 = some 3 := by kernel_rfl
theorem tr82 : offT Tryd.prog 25 4 = some 4 := by kernel_rfl
theorem tr83 : offT Tryd.prog 27 0 = some 0 := by kernel_rfl
theorem tr84 : offT Tryd.prog 27 1 = some 1 := by kernel_rfl
theorem tr85 : offT Tryd.prog 27 2 = some 2 := by kernel_rfl
theorem tr86 : offT Tryd.prog 27 3 = some 3 := by kernel_rfl
theorem tr87 : offT Tryd.prog 27 4 = some 4 := by kernel_rfl
theorem tr88 : offT Tryd.prog 27 5 = some 5 := by kernel_rfl
theorem tr89 : offT Tryd.prog 27 6 = some 6 := by kernel_rfl
theorem tr90 : offT Tryd.prog 29 0 = some 0 := by kernel_rfl
theorem tr91 : offT Tryd.prog 29 1 = some 1 := by kernel_rfl
theorem tr92 : offT Tryd.prog 29 2 = some 2 := by kernel_rfl
theorem tr93 : offT Tryd.prog 29 3 = some 3 := by kernel_rfl
theorem tr94 : offT Tryd.prog 29 4 = some 4 := by kernel_rfl
theorem tr95 : offT Tryd.prog 31 0 = some 0 := by kernel_rfl
theorem tr96 : offT Tryd.prog 31 1 = some 1 := by kernel_rfl
theorem tr97 : offT Tryd.prog 33 0 = some 0 := by kernel_rfl
theorem tr98 : offT Tryd.prog 33 1 = some 5 := by kernel_rfl
theorem tr99 : offT Tryd.prog 33 2 = some 6 := by kernel_rfl
theorem tr100 : offT Tryd.prog 33 3 = some 7 := by kernel_rfl
theorem tr101 : offT Tryd.prog 37 0 = some 0 := by kernel_rfl
theorem tr102 : offT Tryd.prog 37 1 = some 1 := by kernel_rfl
theorem tr103 : offT Tryd.prog 54 0 = some 0 := by kernel_rfl
theorem tr104 : offT Tryd.prog 54 1 = some 1 := by kernel_rfl
theorem tr105 : offT Tryd.prog 58 0 = some 0 := by kernel_rfl
theorem tr106 : offT Tryd.prog 58 1 = some 1 := by kernel_rfl
theorem tr107 : offT Tryd.prog 58 2 = some 2 := by kernel_rfl
theorem tr108 : offT Tryd.prog 58 3 = some 3 := by kernel_rfl
theorem tr109 : offT Tryd.prog 77 0 = some 0 := by kernel_rfl
theorem tr110 : offT Tryd.prog 77 1 = some 2 := by kernel_rfl
theorem tr111 : offT Tryd.prog 98 0 = some 0 := by kernel_rfl
theorem tr112 : placesT Tryd.prog 106 = some [(0, 5), (5, 7), (12, 1), (13, 1), (14, 1), (15, 1)] := by kernel_rfl
theorem tr113 : placesT Tryd.prog 107 = some [(0, 1), (1, 1), (2, 1), (3, 1), (4, 1), (5, 1), (6, 1)] := by kernel_rfl
theorem tr114 : placesT Tryd.prog 123 = some [(0, 5), (5, 1)] := by kernel_rfl
theorem tr115 : placesT Tryd.prog 155 = some [(0, 1), (1, 1), (2, 1)] := by kernel_rfl
theorem tr116 : placesT Tryd.prog 162 = some [(0, 1), (1, 1), (2, 1)] := by kernel_rfl
theorem tr117 : placesT Tryd.prog 170 = some [(0, 1), (1, 1), (2, 1), (3, 1), (4, 1), (5, 1)] := by kernel_rfl
theorem tr118 : placesT Tryd.prog 25 = some [(0, 1), (1, 1), (2, 1), (3, 1), (4, 1)] := by kernel_rfl
theorem tr119 : placesT Tryd.prog 27 = some [(0, 1), (1, 1), (2, 1), (3, 1), (4, 1), (5, 1), (6, 1)] := by kernel_rfl
theorem tr120 : placesT Tryd.prog 29 = some [(0, 1), (1, 1), (2, 1), (3, 1), (4, 1)] := by kernel_rfl
theorem tr121 : placesT Tryd.prog 31 = some [(0, 1), (1, 1)] := by kernel_rfl
theorem tr122 : placesT Tryd.prog 37 = some [(0, 1), (1, 1)] := by kernel_rfl
theorem tr123 : placesT Tryd.prog 54 = some [(0, 1), (1, 1)] := by kernel_rfl
theorem tr124 : placesT Tryd.prog 98 = some [(0, 5)] := by kernel_rfl
theorem tr125 : slT Tryd.prog 102 = some (4, 1) := by kernel_rfl
theorem tr126 : slT Tryd.prog 103 = some (102, 1) := by kernel_rfl
theorem tr127 : slT Tryd.prog 104 = some (22, 1) := by kernel_rfl
theorem tr128 : slT Tryd.prog 107 = none := by kernel_rfl
theorem tr129 : slT Tryd.prog 116 = some (27, 7) := by kernel_rfl
theorem tr130 : slT Tryd.prog 135 = some (164, 1) := by kernel_rfl
theorem tr131 : slT Tryd.prog 163 = some (162, 3) := by kernel_rfl
theorem tr132 : slT Tryd.prog 164 = some (163, 1) := by kernel_rfl
theorem tr133 : slT Tryd.prog 168 = some (104, 1) := by kernel_rfl
theorem tr134 : slT Tryd.prog 170 = none := by kernel_rfl
theorem tr135 : slT Tryd.prog 181 = none := by kernel_rfl
theorem tr136 : slT Tryd.prog 22 = some (3, 1) := by kernel_rfl
theorem tr137 : slT Tryd.prog 23 = some (54, 2) := by kernel_rfl
theorem tr138 : slT Tryd.prog 65 = some (27, 7) := by kernel_rfl
theorem tr139 : slT Tryd.prog 70 = some (77, 3) := by kernel_rfl
theorem tr140 : szT Tryd.prog 102 = some 1 := by kernel_rfl
theorem tr141 : szT Tryd.prog 103 = some 1 := by kernel_rfl
theorem tr142 : szT Tryd.prog 104 = some 1 := by kernel_rfl
theorem tr143 : szT Tryd.prog 107 = some 7 := by kernel_rfl
theorem tr144 : szT Tryd.prog 123 = some 6 := by kernel_rfl
theorem tr145 : szT Tryd.prog 148 = some 1 := by kernel_rfl
theorem tr146 : szT Tryd.prog 162 = some 3 := by kernel_rfl
theorem tr147 : szT Tryd.prog 163 = some 1 := by kernel_rfl
theorem tr148 : szT Tryd.prog 170 = some 6 := by kernel_rfl
theorem tr149 : szT Tryd.prog 180 = some 3 := by kernel_rfl
theorem tr150 : szT Tryd.prog 22 = some 1 := by kernel_rfl
theorem tr151 : szT Tryd.prog 23 = some 1 := by kernel_rfl
theorem tr152 : szT Tryd.prog 25 = some 5 := by kernel_rfl
theorem tr153 : szT Tryd.prog 27 = some 7 := by kernel_rfl
theorem tr154 : szT Tryd.prog 29 = some 5 := by kernel_rfl
theorem tr155 : szT Tryd.prog 3 = some 1 := by kernel_rfl
theorem tr156 : szT Tryd.prog 33 = some 9 := by kernel_rfl
theorem tr157 : szT Tryd.prog 37 = some 2 := by kernel_rfl
theorem tr158 : szT Tryd.prog 38 = some 1 := by kernel_rfl
theorem tr159 : szT Tryd.prog 4 = some 1 := by kernel_rfl
theorem tr160 : szT Tryd.prog 54 = some 2 := by kernel_rfl
theorem tr161 : szT Tryd.prog 77 = some 3 := by kernel_rfl
theorem tr162 : szT Tryd.prog 98 = some 5 := by kernel_rfl
theorem tr163 : zeroT Tryd.prog 102 = some [.slice none 0 0] := by kernel_rfl
theorem tr164 : zeroT Tryd.prog 106 = some [.int .i64 0, .int .i64 0, .slice none 0 0, .slice none 0 0, .slice none 0 0, .int .i64 0, .int .i64 0, .int .i64 0, .int .i64 0, .int .i64 0, .int .i64 0, .int .i64 0, .int .i64 0, .slice none 0 0, .slice none 0 0, .slice none 0 0] := by kernel_rfl
theorem tr165 : zeroT Tryd.prog 107 = some [.bool false, .bool false, .bool false, .bool false, .bool false, .bool false, .bool false] := by kernel_rfl
theorem tr166 : zeroT Tryd.prog 123 = some [.int .i64 0, .int .i64 0, .slice none 0 0, .slice none 0 0, .slice none 0 0, .int .i64 0] := by kernel_rfl
theorem tr167 : zeroT Tryd.prog 148 = some [.nilFunc] := by kernel_rfl
theorem tr168 : zeroT Tryd.prog 155 = some [.slice none 0 0, .slice none 0 0, .slice none 0 0] := by kernel_rfl
theorem tr169 : zeroT Tryd.prog 162 = some [.int .i64 0, .int .i64 0, .int .i64 0] := by kernel_rfl
theorem tr170 : zeroT Tryd.prog 170 = some [.int .i64 0, .int .i64 0, .int .i64 0, .int .i64 0, .int .i64 0, .int .i64 0] := by kernel_rfl
theorem tr171 : zeroT Tryd.prog 180 = some [.int .i64 0, .int .i64 0, .int .i64 0] := by kernel_rfl
theorem tr172 : zeroT Tryd.prog 22 = some [.slice none 0 0] := by kernel_rfl
theorem tr173 : zeroT Tryd.prog 25 = some [.int .i64 0, .int .i64 0, .slice none 0 0, .slice none 0 0, .slice none 0 0] := by kernel_rfl
theorem tr174 : zeroT Tryd.prog 27 = some [.int .i64 0, .int .i64 0, .int .i64 0, .int .i64 0, .int .i64 0, .int .i64 0, .int .i64 0] := by kernel_rfl
theorem tr175 : zeroT Tryd.prog 29 = some [.int .i64 0, .int .i64 0, .int .i64 0, .int .i64 0, .int .i64 0] := by kernel_rfl
theorem tr176 : zeroT Tryd.prog 3 = some [.int .i64 0] := by kernel_rfl
theorem tr177 : zeroT Tryd.prog 31 = some [.int .i64 0, .int .i64 0] := by kernel_rfl
theorem tr178 : zeroT Tryd.prog 33 = some [.int .i64 0, .int .i64 0, .int .i64 0, .int .i64 0, .int .i64 0, .int .i64 0, .int .i64 0, .int .i64 0, .int .i64 0] := by kernel_rfl
theorem tr179 : zeroT Tryd.prog 37 = some [.slice none 0 0, .int .i64 0] := by kernel_rfl
theorem tr180 : zeroT Tryd.prog 38 = some [.int .i64 0] := by kernel_rfl
theorem tr181 : zeroT Tryd.prog 54 = some [.int .i64 0, .int .i64 0] := by kernel_rfl
theorem tr182 : zeroT Tryd.prog 77 = some [.int .i64 0, .int .i64 0, .int .i64 0] := by kernel_rfl
theorem tr183 : zeroT Tryd.prog 98 = some [.int .i64 0, .int .i64 0, .slice none 0 0, .slice none 0 0, .slice none 0 0] := by kernel_rfl
theorem tf3 : (CallT Tryd.prog 14 = True) ∧ (CallT Tryd.prog 15 = True) ∧ (CallT Tryd.prog 16 = True) ∧ (CallT Tryd.prog 17 = True) ∧ (CallT Tryd.prog 18 = True) ∧ (CallT Tryd.prog 19 = True) ∧ (kdT Tryd.prog 3 = some 0) ∧ (kdT Tryd.prog 38 = some 0) ∧ (ldT Tryd.prog 22 = some none) ∧ (ldT Tryd.prog 25 = some (some 5)) ∧ (ldT Tryd.prog 27 = some (some 7)) ∧ (ldT Tryd.prog 29 = some (some 5)) ∧ (ldT Tryd.prog 3 = some none) ∧ (ldT Tryd.prog 31 = some (some 2)) ∧ (offT Tryd.prog 33 0 = some 0) ∧ (offT Tryd.prog 33 1 = some 5) ∧ (offT Tryd.prog 33 2 = some 6) ∧ (offT Tryd.prog 33 3 = some 7) ∧ (offT Tryd.prog 37 0 = some 0) ∧ (offT Tryd.prog 37 1 = some 1) ∧ (slT Tryd.prog 22 = some (3, 1)) ∧ (szT Tryd.prog 37 = some 2) ∧ (zeroT Tryd.prog 37 = some [.slice none 0 0, .int .i64 0]) := ⟨eq_true Tryd.call14, eq_true Tryd.call15, eq_true Tryd.call16, eq_true Tryd.call17, eq_true Tryd.call18, eq_true Tryd.call19, tr31, tr32, tr44, tr46, tr47, tr48, tr49, tr50, tr97, tr98, tr99, tr100, tr101, tr102, tr136, tr157, tr179⟩
theorem tf4 : (CallT Tryd.prog 14 = True) ∧ (CallT Tryd.prog 15 = True) ∧ (CallT Tryd.prog 17 = True) ∧ (CallT Tryd.prog 20 = True) ∧ (CallT Tryd.prog 21 = True) ∧ (CallT Tryd.prog 22 = True) ∧ (CallT Tryd.prog 23 = True) ∧ (kdT Tryd.prog 3 = some 0) ∧ (kdT Tryd.prog 38 = some 0) ∧ (ldT Tryd.prog 23 = some none) ∧ (ldT Tryd.prog 25 = some (some 5)) ∧ (ldT Tryd.prog 27 = some (some 7)) ∧ (ldT Tryd.prog 29 = some (some 5)) ∧ (ldT Tryd.prog 3 = some none) ∧ (offT Tryd.prog 25 0 = some 0) ∧ (offT Tryd.prog 25 1 = some 1) ∧ (offT Tryd.prog 25 3 = some 3) ∧ (offT Tryd.prog 31 1 = some 1) ∧ (offT Tryd.prog 33 0 = some 0) ∧ (offT Tryd.prog 33 1 = some 5) ∧ (offT Tryd.prog 33 2 = some 6) ∧ (offT Tryd.prog 33 3 = some 7) ∧ (slT Tryd.prog 23 = some (54, 2)) := ⟨eq_true Tryd.call14, eq_true Tryd.call15, eq_true Tryd.call17, eq_true Tryd.call20, eq_true Tryd.call21, eq_true Tryd.call22, eq_true Tryd.call23, tr31, tr32, tr45, tr46, tr47, tr48, tr49, tr78, tr79, tr81, tr96, tr97, tr98, tr99, tr100, tr137⟩
theorem tf5 : (CallT Tryd.prog 15 = True) ∧ (CallT Tryd.prog 16 = True) ∧ (CallT Tryd.prog 19 = True) ∧ (CallT Tryd.prog 24 = True) ∧ (CallT Tryd.prog 25 = True) ∧ (CallT Tryd.prog 26 = True) ∧ (arT Tryd.prog 22 = none) ∧ (arT Tryd.prog 23 = none) ∧ (kdT Tryd.prog 3 = some 0) ∧ (kdT Tryd.prog 38 = some 0) ∧ (ldT Tryd.prog 22 = some none) ∧ (ldT Tryd.prog 23 = some none) ∧ (ldT Tryd.prog 25 = some (some 5)) ∧ (ldT Tryd.prog 27 = some (some 7)) ∧ (ldT Tryd.prog 29 = some (some 5)) ∧ (ldT Tryd.prog 3 = some none) ∧ (ldT Tryd.prog 31 = some (some 2)) ∧ (ldT Tryd.prog 33 = some (some 9)) ∧ (offT Tryd.prog 25 3 = some 3) ∧ (offT Tryd.prog 25 4 = some 4) ∧ (offT Tryd.prog 27 0 = some 0) ∧ (offT Tryd.prog 27 1 = some 1) ∧ (offT Tryd.prog 27 4 = some 4) ∧ (offT Tryd.prog 29 1 = some 1) ∧ (offT Tryd.prog 33 0 = some 0) ∧ (offT Tryd.prog 33 1 = some 5) ∧ (offT Tryd.prog 33 2 = some 6) ∧ (offT Tryd.prog 33 3 = some 7) ∧ (offT Tryd.prog 37 0 = some 0) ∧ (offT Tryd.prog 37 1 = some 1) ∧ (offT Tryd.prog 54 0 = some 0) ∧ (offT Tryd.prog 54 1 = some 1) ∧ (slT Tryd.prog 22 = some (3, 1)) ∧ (slT Tryd.prog 23 = some (54, 2)) ∧ (szT Tryd.prog 29 = some 5) ∧ (szT Tryd.prog 3 = some 1) ∧ (szT Tryd.prog 37 = some 2) ∧ (zeroT Tryd.prog 29 = some [.int .i64 0, .int .i64 0, .int .i64 0, .int .i64 0, .int .i64 0]) ∧ (zeroT Tryd.prog 37 = some [.slice none 0 0, .int .i64 0]) := ⟨eq_true Tryd.call15, eq_true Tryd.call16, eq_true Tryd.call19, eq_true Tryd.call24, eq_true Tryd.call25, eq_true Tryd.call26, tr10, tr11, tr31, tr32, tr44, tr45, tr46, tr47, tr48, tr49, tr50, tr51, tr81, tr82, tr83, tr84, tr87, tr91, tr97, tr98, tr99, tr100, tr101, tr102, tr103, tr104, tr136, tr137, tr154, tr155, tr157, tr175, tr179⟩
theorem tf6 : (CallT Tryd.prog 15 = True) ∧ (CallT Tryd.prog 16 = True) ∧ (CallT Tryd.prog 19 = True) ∧ (CallT Tryd.prog 24 = True) ∧ (kdT Tryd.prog 3 = some 0) ∧ (kdT Tryd.prog 38 = some 0) ∧ (ldT Tryd.prog 22 = some none) ∧ (ldT Tryd.prog 25 = some (some 5)) ∧ (ldT Tryd.prog 27 = some (some 7)) ∧ (ldT Tryd.prog 29 = some (some 5)) ∧ (ldT Tryd.prog 3 = some none) ∧ (ldT Tryd.prog 31 = some (some 2)) ∧ (ldT Tryd.prog 33 = some (some 9)) ∧ (offT Tryd.prog 27 4 = some 4) ∧ (offT Tryd.prog 33 0 = some 0) ∧ (offT Tryd.prog 33 1 = some 5) ∧ (offT Tryd.prog 33 2 = some 6) ∧ (offT Tryd.prog 33 3 = some 7) ∧ (offT Tryd.prog 37 0 = some 0) ∧ (offT Tryd.prog 37 1 = some 1) ∧ (slT Tryd.prog 22 = some (3, 1)) ∧ (szT Tryd.prog 37 = some 2) ∧ (zeroT Tryd.prog 37 = some [.slice none 0 0, .int .i64 0]) := ⟨eq_true Tryd.call15, eq_true Tryd.call16, eq_true Tryd.call19, eq_true Tryd.call24, tr31, tr32, tr44, tr46, tr47, tr48, tr49, tr50, tr51, tr87, tr97, tr98, tr99, tr100, tr101, tr102, tr136, tr157, tr179⟩
theorem tf7 : (CallT Tryd.prog 15 = True) ∧ (CallT Tryd.prog 16 = True) ∧ (CallT Tryd.prog 24 = True) ∧ (CallT Tryd.prog 27 = True) ∧ (kdT Tryd.prog 3 = some 0) ∧ (kdT Tryd.prog 38 = some 0) ∧ (ldT Tryd.prog 25 = some (some 5)) ∧ (ldT Tryd.prog 27 = some (some 7)) ∧ (ldT Tryd.prog 29 = some (some 5)) ∧ (ldT Tryd.prog 3 = some none) ∧ (ldT Tryd.prog 31 = some (some 2)) ∧ (ldT Tryd.prog 33 = some (some 9)) ∧ (offT Tryd.prog 27 1 = some 1) ∧ (offT Tryd.prog 27 4 = some 4) ∧ (offT Tryd.prog 31 1 = some 1) ∧ (offT Tryd.prog 33 0 = some 0) ∧ (offT Tryd.prog 33 1 = some 5) ∧ (offT Tryd.prog 33 2 = some 6) ∧ (offT Tryd.prog 33 3 = some 7) ∧ (offT Tryd.prog 37 1 = some 1) ∧ (offT Tryd.prog 58 0 = some 0) ∧ (offT Tryd.prog 58 1 = some 1) ∧ (offT Tryd.prog 58 2 = some 2) ∧ (offT Tryd.prog 58 3 = some 3) ∧ (szT Tryd.prog 27 = some 7) ∧ (szT Tryd.prog 3 = some 1) ∧ (szT Tryd.prog 33 = some 9) ∧ (szT Tryd.prog 37 = some 2) ∧ (zeroT Tryd.prog 27 = some [.int .i64 0, .int .i64 0, .int .i64 0, .int .i64 0, .int .i64 0, .int .i64 0, .int .i64 0]) ∧ (zeroT Tryd.prog 33 = some [.int .i64 0, .int .i64 0, .int .i64 0, .int .i64 0, .int .i64 0, .int .i64 0, .int .i64 0, .int .i64 0, .int .i64 0]) ∧ (zeroT Tryd.prog 37 = some [.slice none 0 0, .int .i64 0]) := ⟨eq_true Tryd.call15, eq_true Tryd.call16, eq_true Tryd.call24, eq_true Tryd.call27, tr31, tr32, tr46, tr47, tr48, tr49, tr50, tr51, tr84, tr87, tr96, tr97, tr98, tr99, tr100, tr102, tr105, tr106, tr107, tr108, tr153, tr155, tr156, tr157, tr174, tr178, tr179⟩
theorem tf8 : (CallT Tryd.prog 14 = True) ∧ (CallT Tryd.prog 15 = True) ∧ (CallT Tryd.prog 17 = True) ∧ (CallT Tryd.prog 23 = True) ∧ (CallT Tryd.prog 28 = True) ∧ (CallT Tryd.prog 29 = True) ∧ (CallT Tryd.prog 30 = True) ∧ (CallT Tryd.prog 31 = True) ∧ (CallT Tryd.prog 32 = True) ∧ (CallT Tryd.prog 33 = True) ∧ (arT Tryd.prog 23 = none) ∧ (kdT Tryd.prog 3 = some 0) ∧ (kdT Tryd.prog 38 = some 0) ∧ (ldT Tryd.prog 25 = some (some 5)) ∧ (ldT Tryd.prog 27 = some (some 7)) ∧ (ldT Tryd.prog 29 = some (some 5)) ∧ (ldT Tryd.prog 3 = some none) ∧ (ldT Tryd.prog 54 = some (some 2)) ∧ (offT Tryd.prog 33 0 = some 0) ∧ (offT Tryd.prog 33 1 = some 5) ∧ (slT Tryd.prog 23 = some (54, 2)) ∧ (szT Tryd.prog 25 = some 5) ∧ (zeroT Tryd.prog 25 = some [.int .i64 0, .int .i64 0, .slice none 0 0, .slice none 0 0, .slice none 0 0]) := ⟨eq_true Tryd.call14, eq_true Tryd.call15, eq_true Tryd.call17, eq_true Tryd.call23, eq_true Tryd.call28, eq_true Tryd.call29, eq_true Tryd.call30, eq_true Tryd.call31, eq_true Tryd.call32, eq_true Tryd.call33, tr11, tr31, tr32, tr46, tr47, tr48, tr49, tr55, tr97, tr98, tr137, tr152, tr173⟩
theorem tf9 : (CallT Tryd.prog 15 = True) ∧ (CallT Tryd.prog 23 = True) ∧ (CallT Tryd.prog 34 = True) ∧ (CallT Tryd.prog 35 = True) ∧ (elT Tryd.prog 65 = some (27, 7, [.int .i64 0, .int .i64 0, .int .i64 0, .int .i64 0, .int .i64 0, .int .i64 0, .int .i64 0], 56)) ∧ (kdT Tryd.prog 3 = some 0) ∧ (kdT Tryd.prog 38 = some 0) ∧ (slT Tryd.prog 65 = some (27, 7)) := ⟨eq_true Tryd.call15, eq_true Tryd.call23, eq_true Tryd.call34, eq_true Tryd.call35, tr23, tr31, tr32, tr138⟩
theorem tf10 : (CallT Tryd.prog 15 = True) ∧ (CallT Tryd.prog 31 = True) ∧ (CallT Tryd.prog 34 = True) ∧ (arT Tryd.prog 22 = none) ∧ (arT Tryd.prog 65 = none) ∧ (elT Tryd.prog 22 = some (3, 1, [.int .i64 0], 8)) ∧ (intT Tryd.prog 3 = some .i64) ∧ (intT Tryd.prog 68 = some .u64) ∧ (kdT Tryd.prog 3 = some 0) ∧ (kdT Tryd.prog 38 = some 0) ∧ (ldT Tryd.prog 27 = some (some 7)) ∧ (ldT Tryd.prog 3 = some none) ∧ (offT Tryd.prog 27 5 = some 5) ∧ (slT Tryd.prog 22 = some (3, 1)) ∧ (slT Tryd.prog 65 = some (27, 7)) := ⟨eq_true Tryd.call15, eq_true Tryd.call31, eq_true Tryd.call34, tr10, tr12, tr21, tr28, tr29, tr31, tr32, tr47, tr49, tr88, tr136, tr138⟩
theorem tf11 : (CallT Tryd.prog 15 = True) ∧ (CallT Tryd.prog 23 = True) ∧ (CallT Tryd.prog 36 = True) ∧ (CallT Tryd.prog 37 = True) ∧ (CallT Tryd.prog 38 = True) ∧ (CallT Tryd.prog 39 = True) ∧ (elT Tryd.prog 70 = some (77, 3, [.int .i64 0, .int .i64 0, .int .i64 0], 24)) ∧ (kdT Tryd.prog 3 = some 0) ∧ (kdT Tryd.prog 38 = some 0) ∧ (kdT Tryd.prog 4 = some 1) ∧ (ldT Tryd.prog 27 = some (some 7)) ∧ (slT Tryd.prog 70 = some (77, 3)) := ⟨eq_true Tryd.call15, eq_true Tryd.call23, eq_true Tryd.call36, eq_true Tryd.call37, eq_true Tryd.call38, eq_true Tryd.call39, tr24, tr31, tr32, tr33, tr47, tr139⟩
theorem tf12 : (CallT Tryd.prog 15 = True) ∧ (CallT Tryd.prog 36 = True) ∧ (CallT Tryd.prog 38 = True) ∧ (CallT Tryd.prog 40 = True) ∧ (arT Tryd.prog 22 = none) ∧ (arT Tryd.prog 70 = none) ∧ (elT Tryd.prog 70 = some (77, 3, [.int .i64 0, .int .i64 0, .int .i64 0], 24)) ∧ (intT Tryd.prog 3 = some .i64) ∧ (intT Tryd.prog 68 = some .u64) ∧ (kdT Tryd.prog 3 = some 0) ∧ (kdT Tryd.prog 38 = some 0) ∧ (ldT Tryd.prog 27 = some (some 7)) ∧ (ldT Tryd.prog 3 = some none) ∧ (ldT Tryd.prog 77 = some (some 3)) ∧ (offT Tryd.prog 27 6 = some 6) ∧ (offT Tryd.prog 54 0 = some 0) ∧ (offT Tryd.prog 54 1 = some 1) ∧ (offT Tryd.prog 77 0 = some 0) ∧ (offT Tryd.prog 77 1 = some 2) ∧ (slT Tryd.prog 22 = some (3, 1)) ∧ (slT Tryd.prog 70 = some (77, 3)) := ⟨eq_true Tryd.call15, eq_true Tryd.call36, eq_true Tryd.call38, eq_true Tryd.call40, tr10, tr13, tr24, tr28, tr29, tr31, tr32, tr47, tr49, tr58, tr89, tr103, tr104, tr109, tr110, tr136, tr139⟩
theorem tf13 : (CallT Tryd.prog 15 = True) ∧ (CallT Tryd.prog 16 = True) ∧ (CallT Tryd.prog 21 = True) ∧ (CallT Tryd.prog 24 = True) ∧ (CallT Tryd.prog 28 = True) ∧ (CallT Tryd.prog 32 = True) ∧ (CallT Tryd.prog 41 = True) ∧ (CallT Tryd.prog 42 = True) ∧ (arT Tryd.prog 22 = none) ∧ (arT Tryd.prog 23 = none) ∧ (kdT Tryd.prog 3 = some 0) ∧ (kdT Tryd.prog 38 = some 0) ∧ (kdT Tryd.prog 4 = some 1) ∧ (ldT Tryd.prog 23 = some none) ∧ (ldT Tryd.prog 25 = some (some 5)) ∧ (ldT Tryd.prog 27 = some (some 7)) ∧ (ldT Tryd.prog 29 = some (some 5)) ∧ (ldT Tryd.prog 3 = some none) ∧ (ldT Tryd.prog 31 = some (some 2)) ∧ (ldT Tryd.prog 33 = some (some 9)) ∧ (offT Tryd.prog 25 0 = some 0) ∧ (offT Tryd.prog 25 1 = some 1) ∧ (offT Tryd.prog 25 3 = some 3) ∧ (offT Tryd.prog 27 0 = some 0) ∧ (offT Tryd.prog 29 0 = some 0) ∧ (offT Tryd.prog 31 0 = some 0) ∧ (offT Tryd.prog 31 1 = some 1) ∧ (offT Tryd.prog 33 0 = some 0) ∧ (offT Tryd.prog 33 1 = some 5) ∧ (offT Tryd.prog 33 2 = some 6) ∧ (offT Tryd.prog 33 3 = some 7) ∧ (offT Tryd.prog 54 0 = some 0) ∧ (offT Tryd.prog 54 1 = some 1) ∧ (slT Tryd.prog 22 = some (3, 1)) ∧ (slT Tryd.prog 23 = some (54, 2)) ∧ (szT Tryd.prog 37 = some 2) ∧ (zeroT Tryd.prog 37 = some [.slice none 0 0, .int .i64 0]) := ⟨eq_true Tryd.call15, eq_true Tryd.call16, eq_true Tryd.call21, eq_true Tryd.call24, eq_true Tryd.call28, eq_true Tryd.call32, eq_true Tryd.call41, eq_true Tryd.call42, tr10, tr11, tr31, tr32, tr33, tr45, tr46, tr47, tr48, tr49, tr50, tr51, tr78, tr79, tr81, tr83, tr90, tr95, tr96, tr97, tr98, tr99, tr100, tr103, tr104, tr136, tr137, tr157, tr179⟩
theorem tf14 : (CallT Tryd.prog 20 = True) ∧ (kdT Tryd.prog 3 = some 0) ∧ (kdT Tryd.prog 38 = some 0) ∧ (ldT Tryd.prog 22 = some none) ∧ (ldT Tryd.prog 23 = some none) ∧ (ldT Tryd.prog 25 = some (some 5)) ∧ (ldT Tryd.prog 3 = some none) ∧ (offT Tryd.prog 25 0 = some 0) ∧ (offT Tryd.prog 25 1 = some 1) ∧ (offT Tryd.prog 25 2 = some 2) ∧ (offT Tryd.prog 25 3 = some 3) ∧ (offT Tryd.prog 25 4 = some 4) ∧ (slT Tryd.prog 22 = some (3, 1)) ∧ (slT Tryd.prog 23 = some (54, 2)) := ⟨eq_true Tryd.call20, tr31, tr32, tr44, tr45, tr46, tr49, tr78, tr79, tr80, tr81, tr82, tr136, tr137⟩
theorem tf15 : (CallT Tryd.prog 16 = True) ∧ (CallT Tryd.prog 21 = True) ∧ (CallT Tryd.prog 23 = True) ∧ (CallT Tryd.prog 43 = True) ∧ (CallT Tryd.prog 44 = True) ∧ (elT Tryd.prog 22 = some (3, 1, [.int .i64 0], 8)) ∧ (kdT Tryd.prog 3 = some 0) ∧ (kdT Tryd.prog 38 = some 0) ∧ (ldT Tryd.prog 22 = some none) ∧ (ldT Tryd.prog 25 = some (some 5)) ∧ (ldT Tryd.prog 27 = some (some 7)) ∧ (ldT Tryd.prog 29 = some (some 5)) ∧ (ldT Tryd.prog 3 = some none) ∧ (offT Tryd.prog 37 0 = some 0) ∧ (offT Tryd.prog 37 1 = some 1) ∧ (placesT Tryd.prog 31 = some [(0, 1), (1, 1)]) ∧ (szT Tryd.prog 25 = some 5) ∧ (szT Tryd.prog 27 = some 7) ∧ (szT Tryd.prog 29 = some 5) ∧ (szT Tryd.prog 37 = some 2) ∧ (zeroT Tryd.prog 25 = some [.int .i64 0, .int .i64 0, .slice none 0 0, .slice none 0 0, .slice none 0 0]) ∧ (zeroT Tryd.prog 27 = some [.int .i64 0, .int .i64 0, .int .i64 0, .int .i64 0, .int .i64 0, .int .i64 0, .int .i64 0]) ∧ (zeroT Tryd.prog 29 = some [.int .i64 0, .int .i64 0, .int .i64 0, .int .i64 0, .int .i64 0]) ∧ (zeroT Tryd.prog 31 = some [.int .i64 0, .int .i64 0]) ∧ (zeroT Tryd.prog 37 = some [.slice none 0 0, .int .i64 0]) := ⟨eq_true Tryd.call16, eq_true Tryd.call21, eq_true Tryd.call23, eq_true Tryd.call43, eq_true Tryd.call44, tr21, tr31, tr32, tr44, tr46, tr47, tr48, tr49, tr101, tr102, tr121, tr152, tr153, tr154, tr157, tr173, tr174, tr175, tr177, tr179⟩
theorem tf16 : (CallT Tryd.prog 45 = True) ∧ (CallT Tryd.prog 46 = True) ∧ (CallT Tryd.prog 47 = True) ∧ (kdT Tryd.prog 3 = some 0) ∧ (kdT Tryd.prog 38 = some 0) ∧ (ldT Tryd.prog 22 = some none) ∧ (ldT Tryd.prog 25 = some (some 5)) ∧ (ldT Tryd.prog 27 = some (some 7)) ∧ (ldT Tryd.prog 29 = some (some 5)) ∧ (ldT Tryd.prog 3 = some none) ∧ (ldT Tryd.prog 31 = some (some 2)) ∧ (ldT Tryd.prog 37 = some (some 2)) ∧ (offT Tryd.prog 25 2 = some 2) ∧ (offT Tryd.prog 31 0 = some 0) ∧ (offT Tryd.prog 31 1 = some 1) ∧ (slT Tryd.prog 22 = some (3, 1)) ∧ (szT Tryd.prog 37 = some 2) ∧ (zeroT Tryd.prog 37 = some [.slice none 0 0, .int .i64 0]) := ⟨eq_true Tryd.call45, eq_true Tryd.call46, eq_true Tryd.call47, tr31, tr32, tr44, tr46, tr47, tr48, tr49, tr50, tr52, tr80, tr95, tr96, tr136, tr157, tr179⟩
theorem tf17 : (elT Tryd.prog 22 = some (3, 1, [.int .i64 0], 8)) ∧ (elT Tryd.prog 23 = some (54, 2, [.int .i64 0, .int .i64 0], 16)) ∧ (ldT Tryd.prog 22 = some none) ∧ (ldT Tryd.prog 23 = some none) ∧ (ldT Tryd.prog 25 = some (some 5)) ∧ (offT Tryd.prog 25 2 = some 2) ∧ (offT Tryd.prog 25 3 = some 3) ∧ (offT Tryd.prog 25 4 = some 4) ∧ (szT Tryd.prog 22 = some 1) ∧ (szT Tryd.prog 23 = some 1) ∧ (szT Tryd.prog 25 = some 5) ∧ (zeroT Tryd.prog 25 = some [.int .i64 0, .int .i64 0, .slice none 0 0, .slice none 0 0, .slice none 0 0]) := ⟨tr21, tr22, tr44, tr45, tr46, tr80, tr81, tr82, tr150, tr151, tr152, tr173⟩
theorem tf18 : (CallT Tryd.prog 27 = True) ∧ (CallT Tryd.prog 48 = True) ∧ (kdT Tryd.prog 38 = some 0) ∧ (ldT Tryd.prog 25 = some (some 5)) ∧ (ldT Tryd.prog 27 = some (some 7)) ∧ (ldT Tryd.prog 29 = some (some 5)) ∧ (ldT Tryd.prog 31 = some (some 2)) := ⟨eq_true Tryd.call27, eq_true Tryd.call48, tr32, tr46, tr47, tr48, tr50⟩
theorem tf19 : (CallT Tryd.prog 49 = True) ∧ (CallT Tryd.prog 50 = True) ∧ (CallT Tryd.prog 51 = True) ∧ (CallT Tryd.prog 52 = True) ∧ (CallT Tryd.prog 53 = True) ∧ (arT Tryd.prog 22 = none) ∧ (kdT Tryd.prog 3 = some 0) ∧ (ldT Tryd.prog 23 = some none) ∧ (ldT Tryd.prog 25 = some (some 5)) ∧ (ldT Tryd.prog 27 = some (some 7)) ∧ (ldT Tryd.prog 29 = some (some 5)) ∧ (ldT Tryd.prog 3 = some none) ∧ (ldT Tryd.prog 31 = some (some 2)) ∧ (offT Tryd.prog 25 3 = some 3) ∧ (offT Tryd.prog 27 2 = some 2) ∧ (offT Tryd.prog 27 3 = some 3) ∧ (offT Tryd.prog 29 0 = some 0) ∧ (offT Tryd.prog 31 1 = some 1) ∧ (slT Tryd.prog 22 = some (3, 1)) ∧ (slT Tryd.prog 23 = some (54, 2)) := ⟨eq_true Tryd.call49, eq_true Tryd.call50, eq_true Tryd.call51, eq_true Tryd.call52, eq_true Tryd.call53, tr10, tr31, tr45, tr46, tr47, tr48, tr49, tr50, tr81, tr85, tr86, tr90, tr96, tr136, tr137⟩
theorem tf20 : (CallT Tryd.prog 54 = True) ∧ (arT Tryd.prog 22 = none) ∧ (arT Tryd.prog 23 = none) ∧ (kdT Tryd.prog 3 = some 0) ∧ (ldT Tryd.prog 22 = some none) ∧ (ldT Tryd.prog 23 = some none) ∧ (ldT Tryd.prog 3 = some none) ∧ (offT Tryd.prog 25 0 = some 0) ∧ (offT Tryd.prog 25 1 = some 1) ∧ (offT Tryd.prog 25 2 = some 2) ∧ (offT Tryd.prog 25 3 = some 3) ∧ (offT Tryd.prog 25 4 = some 4) ∧ (offT Tryd.prog 54 0 = some 0) ∧ (offT Tryd.prog 54 1 = some 1) ∧ (slT Tryd.prog 22 = some (3, 1)) ∧ (slT Tryd.prog 23 = some (54, 2)) := ⟨eq_true Tryd.call54, tr10, tr11, tr31, tr44, tr45, tr49, tr78, tr79, tr80, tr81, tr82, tr103, tr104, tr136, tr137⟩
theorem tf21 : (CallT Tryd.prog 45 = True) ∧ (CallT Tryd.prog 46 = True) ∧ (CallT Tryd.prog 47 = True) ∧ (arT Tryd.prog 22 = none) ∧ (elT Tryd.prog 22 = some (3, 1, [.int .i64 0], 8)) ∧ (kdT Tryd.prog 3 = some 0) ∧ (kdT Tryd.prog 38 = some 0) ∧ (ldT Tryd.prog 22 = some none) ∧ (ldT Tryd.prog 25 = some (some 5)) ∧ (ldT Tryd.prog 27 = some (some 7)) ∧ (ldT Tryd.prog 29 = some (some 5)) ∧ (offT Tryd.prog 25 2 = some 2) ∧ (placesT Tryd.prog 31 = some [(0, 1), (1, 1)]) ∧ (slT Tryd.prog 22 = some (3, 1)) ∧ (szT Tryd.prog 3 = some 1) ∧ (zeroT Tryd.prog 31 = some [.int .i64 0, .int .i64 0]) := ⟨eq_true Tryd.call45, eq_true Tryd.call46, eq_true Tryd.call47, tr10, tr21, tr31, tr32, tr44, tr46, tr47, tr48, tr80, tr121, tr136, tr155, tr177⟩
theorem tf22 : (CallT Tryd.prog 27 = True) ∧ (CallT Tryd.prog 42 = True) ∧ (CallT Tryd.prog 48 = True) ∧ (elT Tryd.prog 22 = some (3, 1, [.int .i64 0], 8)) ∧ (kdT Tryd.prog 3 = some 0) ∧ (kdT Tryd.prog 38 = some 0) ∧ (ldT Tryd.prog 25 = some (some 5)) ∧ (ldT Tryd.prog 27 = some (some 7)) ∧ (ldT Tryd.prog 29 = some (some 5)) ∧ (placesT Tryd.prog 31 = some [(0, 1), (1, 1)]) ∧ (zeroT Tryd.prog 31 = some [.int .i64 0, .int .i64 0]) := ⟨eq_true Tryd.call27, eq_true Tryd.call42, eq_true Tryd.call48, tr21, tr31, tr32, tr46, tr47, tr48, tr121, tr177⟩
theorem tf23 : (arT Tryd.prog 22 = none) ∧ (kdT Tryd.prog 3 = some 0) ∧ (ldT Tryd.prog 3 = some none) ∧ (slT Tryd.prog 22 = some (3, 1)) := ⟨tr10, tr31, tr49, tr136⟩
theorem tf24 : (CallT Tryd.prog 14 = True) ∧ (CallT Tryd.prog 27 = True) ∧ (kdT Tryd.prog 38 = some 0) ∧ (ldT Tryd.prog 25 = some (some 5)) ∧ (ldT Tryd.prog 27 = some (some 7)) ∧ (ldT Tryd.prog 29 = some (some 5)) ∧ (ldT Tryd.prog 3 = some none) ∧ (ldT Tryd.prog 31 = some (some 2)) ∧ (offT Tryd.prog 33 0 = some 0) ∧ (offT Tryd.prog 33 1 = some 5) ∧ (offT Tryd.prog 33 2 = some 6) ∧ (offT Tryd.prog 33 3 = some 7) := ⟨eq_true Tryd.call14, eq_true Tryd.call27, tr32, tr46, tr47, tr48, tr49, tr50, tr97, tr98, tr99, tr100⟩
theorem tf25 : (CallT Tryd.prog 55 = True) ∧ (CallT Tryd.prog 56 = True) ∧ (CallT Tryd.prog 57 = True) ∧ (arT Tryd.prog 22 = none) ∧ (arT Tryd.prog 23 = none) ∧ (kdT Tryd.prog 3 = some 0) ∧ (kdT Tryd.prog 38 = some 0) ∧ (ldT Tryd.prog 22 = some none) ∧ (ldT Tryd.prog 23 = some none) ∧ (ldT Tryd.prog 25 = some (some 5)) ∧ (ldT Tryd.prog 3 = some none) ∧ (ldT Tryd.prog 54 = some (some 2)) ∧ (offT Tryd.prog 25 2 = some 2) ∧ (offT Tryd.prog 25 3 = some 3) ∧ (offT Tryd.prog 25 4 = some 4) ∧ (offT Tryd.prog 29 0 = some 0) ∧ (offT Tryd.prog 29 1 = some 1) ∧ (offT Tryd.prog 29 2 = some 2) ∧ (offT Tryd.prog 29 3 = some 3) ∧ (offT Tryd.prog 29 4 = some 4) ∧ (offT Tryd.prog 54 0 = some 0) ∧ (offT Tryd.prog 54 1 = some 1) ∧ (offT Tryd.prog 98 0 = some 0) ∧ (placesT Tryd.prog 98 = some [(0, 5)]) ∧ (slT Tryd.prog 22 = some (3, 1)) ∧ (slT Tryd.prog 23 = some (54, 2)) ∧ (szT Tryd.prog 54 = some 2) ∧ (szT Tryd.prog 98 = some 5) ∧ (zeroT Tryd.prog 54 = some [.int .i64 0, .int .i64 0]) ∧ (zeroT Tryd.prog 98 = some [.int .i64 0, .int .i64 0, .slice none 0 0, .slice none 0 0, .slice none 0 0]) := ⟨eq_true Tryd.call55, eq_true Tryd.call56, eq_true Tryd.call57, tr10, tr11, tr31, tr32, tr44, tr45, tr46, tr49, tr55, tr80, tr81, tr82, tr90, tr91, tr92, tr93, tr94, tr103, tr104, tr111, tr124, tr136, tr137, tr160, tr162, tr181, tr183⟩
theorem tf26 : (arT Tryd.prog 22 = none) ∧ (kdT Tryd.prog 3 = some 0) ∧ (ldT Tryd.prog 22 = some none) ∧ (ldT Tryd.prog 3 = some none) ∧ (offT Tryd.prog 25 2 = some 2) ∧ (offT Tryd.prog 25 4 = some 4) ∧ (slT Tryd.prog 22 = some (3, 1)) := ⟨tr10, tr31, tr44, tr49, tr80, tr82, tr136⟩
theorem tf27 : (CallT Tryd.prog 58 = True) ∧ (CallT Tryd.prog 59 = True) ∧ (CallT Tryd.prog 60 = True) ∧ (CallT Tryd.prog 61 = True) ∧ (kdT Tryd.prog 38 = some 0) ∧ (ldT Tryd.prog 25 = some (some 5)) ∧ (ldT Tryd.prog 27 = some (some 7)) ∧ (ldT Tryd.prog 29 = some (some 5)) ∧ (ldT Tryd.prog 31 = some (some 2)) := ⟨eq_true Tryd.call58, eq_true Tryd.call59, eq_true Tryd.call60, eq_true Tryd.call61, tr32, tr46, tr47, tr48, tr50⟩
theorem tf28 : (CallT Tryd.prog 45 = True) ∧ (arT Tryd.prog 102 = none) ∧ (arT Tryd.prog 23 = none) ∧ (elT Tryd.prog 23 = some (54, 2, [.int .i64 0, .int .i64 0], 16)) ∧ (kdT Tryd.prog 3 = some 0) ∧ (kdT Tryd.prog 38 = some 0) ∧ (ldT Tryd.prog 102 = some none) ∧ (ldT Tryd.prog 25 = some (some 5)) ∧ (ldT Tryd.prog 27 = some (some 7)) ∧ (ldT Tryd.prog 29 = some (some 5)) ∧ (ldT Tryd.prog 3 = some none) ∧ (ldT Tryd.prog 4 = some none) ∧ (offT Tryd.prog 106 3 = some 13) ∧ (offT Tryd.prog 54 1 = some 1) ∧ (placesT Tryd.prog 54 = some [(0, 1), (1, 1)]) ∧ (slT Tryd.prog 102 = some (4, 1)) ∧ (slT Tryd.prog 23 = some (54, 2)) ∧ (szT Tryd.prog 3 = some 1) ∧ (zeroT Tryd.prog 54 = some [.int .i64 0, .int .i64 0]) := ⟨eq_true Tryd.call45, tr0, tr11, tr22, tr31, tr32, tr35, tr46, tr47, tr48, tr49, tr54, tr64, tr104, tr123, tr125, tr137, tr155, tr181⟩
theorem tf29 : (CallT Tryd.prog 49 = True) ∧ (CallT Tryd.prog 58 = True) ∧ (arT Tryd.prog 23 = none) ∧ (elT Tryd.prog 23 = some (54, 2, [.int .i64 0, .int .i64 0], 16)) ∧ (kdT Tryd.prog 3 = some 0) ∧ (kdT Tryd.prog 38 = some 0) ∧ (ldT Tryd.prog 23 = some none) ∧ (ldT Tryd.prog 25 = some (some 5)) ∧ (ldT Tryd.prog 27 = some (some 7)) ∧ (ldT Tryd.prog 29 = some (some 5)) ∧ (ldT Tryd.prog 3 = some none) ∧ (offT Tryd.prog 25 3 = some 3) ∧ (offT Tryd.prog 54 1 = some 1) ∧ (placesT Tryd.prog 54 = some [(0, 1), (1, 1)]) ∧ (slT Tryd.prog 23 = some (54, 2)) ∧ (szT Tryd.prog 3 = some 1) ∧ (zeroT Tryd.prog 54 = some [.int .i64 0, .int .i64 0]) := ⟨eq_true Tryd.call49, eq_true Tryd.call58, tr11, tr22, tr31, tr32, tr45, tr46, tr47, tr48, tr49, tr81, tr104, tr123, tr137, tr155, tr181⟩
theorem tf30 : (CallT Tryd.prog 46 = True) ∧ (CallT Tryd.prog 62 = True) ∧ (ldT Tryd.prog 3 = some none) ∧ (offT Tryd.prog 27 0 = some 0) ∧ (offT Tryd.prog 27 1 = some 1) ∧ (offT Tryd.prog 27 2 = some 2) ∧ (offT Tryd.prog 27 3 = some 3) ∧ (offT Tryd.prog 27 4 = some 4) ∧ (offT Tryd.prog 27 5 = some 5) ∧ (offT Tryd.prog 27 6 = some 6) ∧ (placesT Tryd.prog 107 = some [(0, 1), (1, 1), (2, 1), (3, 1), (4, 1), (5, 1), (6, 1)]) ∧ (slT Tryd.prog 107 = none) ∧ (szT Tryd.prog 107 = some 7) ∧ (zeroT Tryd.prog 107 = some [.bool false, .bool false, .bool false, .bool false, .bool false, .bool false, .bool false]) := ⟨eq_true Tryd.call46, eq_true Tryd.call62, tr49, tr83, tr84, tr85, tr86, tr87, tr88, tr89, tr113, tr128, tr143, tr165⟩
theorem tf31 : (CallT Tryd.prog 60 = True) ∧ (CallT Tryd.prog 63 = True) ∧ (ldT Tryd.prog 3 = some none) ∧ (offT Tryd.prog 27 0 = some 0) ∧ (offT Tryd.prog 27 1 = some 1) ∧ (offT Tryd.prog 27 2 = some 2) ∧ (offT Tryd.prog 27 3 = some 3) ∧ (offT Tryd.prog 27 4 = some 4) ∧ (offT Tryd.prog 27 5 = some 5) ∧ (offT Tryd.prog 27 6 = some 6) := ⟨eq_true Tryd.call60, eq_true Tryd.call63, tr49, tr83, tr84, tr85, tr86, tr87, tr88, tr89⟩
theorem tf32 : (CallT Tryd.prog 45 = True) ∧ (CallT Tryd.prog 64 = True) ∧ (kdT Tryd.prog 38 = some 0) ∧ (ldT Tryd.prog 25 = some (some 5)) ∧ (ldT Tryd.prog 27 = some (some 7)) ∧ (ldT Tryd.prog 29 = some (some 5)) := ⟨eq_true Tryd.call45, eq_true Tryd.call64, tr32, tr46, tr47, tr48⟩
theorem tf33 : (CallT Tryd.prog 58 = True) ∧ (CallT Tryd.prog 59 = True) ∧ (CallT Tryd.prog 65 = True) ∧ (kdT Tryd.prog 38 = some 0) ∧ (ldT Tryd.prog 25 = some (some 5)) ∧ (ldT Tryd.prog 27 = some (some 7)) ∧ (ldT Tryd.prog 29 = some (some 5)) := ⟨eq_true Tryd.call58, eq_true Tryd.call59, eq_true Tryd.call65, tr32, tr46, tr47, tr48⟩
theorem tf34 : (CallT Tryd.prog 66 = True) ∧ (CallT Tryd.prog 67 = True) ∧ (CallT Tryd.prog 68 = True) ∧ (CallT Tryd.prog 69 = True) ∧ (kdT Tryd.prog 3 = some 0) ∧ (ldT Tryd.prog 22 = some none) ∧ (ldT Tryd.prog 3 = some none) ∧ (ldT Tryd.prog 38 = some none) ∧ (ldT Tryd.prog 65 = some none) ∧ (slT Tryd.prog 65 = some (27, 7)) ∧ (szT Tryd.prog 22 = some 1) ∧ (szT Tryd.prog 38 = some 1) ∧ (zeroT Tryd.prog 22 = some [.slice none 0 0]) ∧ (zeroT Tryd.prog 38 = some [.int .i64 0]) := ⟨eq_true Tryd.call66, eq_true Tryd.call67, eq_true Tryd.call68, eq_true Tryd.call69, tr31, tr44, tr49, tr53, tr56, tr138, tr150, tr158, tr172, tr180⟩
theorem tf35 : (CallT Tryd.prog 31 = True) ∧ (CallT Tryd.prog 70 = True) ∧ (CallT Tryd.prog 71 = True) ∧ (arT Tryd.prog 22 = none) ∧ (arT Tryd.prog 65 = none) ∧ (intT Tryd.prog 3 = some .i64) ∧ (intT Tryd.prog 68 = some .u64) ∧ (kdT Tryd.prog 3 = some 0) ∧ (kdT Tryd.prog 38 = some 0) ∧ (ldT Tryd.prog 27 = some (some 7)) ∧ (ldT Tryd.prog 3 = some none) ∧ (offT Tryd.prog 27 5 = some 5) ∧ (slT Tryd.prog 22 = some (3, 1)) ∧ (slT Tryd.prog 65 = some (27, 7)) := ⟨eq_true Tryd.call31, eq_true Tryd.call70, eq_true Tryd.call71, tr10, tr12, tr28, tr29, tr31, tr32, tr47, tr49, tr88, tr136, tr138⟩
theorem tf36 : (CallT Tryd.prog 72 = True) ∧ (CallT Tryd.prog 73 = True) ∧ (kdT Tryd.prog 3 = some 0) ∧ (kdT Tryd.prog 38 = some 0) ∧ (ldT Tryd.prog 27 = some (some 7)) ∧ (ldT Tryd.prog 3 = some none) ∧ (offT Tryd.prog 27 6 = some 6) := ⟨eq_true Tryd.call72, eq_true Tryd.call73, tr31, tr32, tr47, tr49, tr89⟩
theorem tf37 : (CallT Tryd.prog 40 = True) ∧ (arT Tryd.prog 70 = none) ∧ (kdT Tryd.prog 3 = some 0) ∧ (kdT Tryd.prog 38 = some 0) ∧ (ldT Tryd.prog 27 = some (some 7)) ∧ (ldT Tryd.prog 3 = some none) ∧ (offT Tryd.prog 27 6 = some 6) ∧ (offT Tryd.prog 54 0 = some 0) ∧ (offT Tryd.prog 54 1 = some 1) ∧ (offT Tryd.prog 77 0 = some 0) ∧ (offT Tryd.prog 77 1 = some 2) ∧ (slT Tryd.prog 70 = some (77, 3)) := ⟨eq_true Tryd.call40, tr13, tr31, tr32, tr47, tr49, tr89, tr103, tr104, tr109, tr110, tr139⟩
theorem tf38 : (CallT Tryd.prog 68 = True) ∧ (CallT Tryd.prog 72 = True) ∧ (CallT Tryd.prog 73 = True) ∧ (arT Tryd.prog 22 = none) ∧ (arT Tryd.prog 70 = none) ∧ (kdT Tryd.prog 3 = some 0) ∧ (kdT Tryd.prog 38 = some 0) ∧ (ldT Tryd.prog 22 = some none) ∧ (ldT Tryd.prog 27 = some (some 7)) ∧ (ldT Tryd.prog 3 = some none) ∧ (ldT Tryd.prog 38 = some none) ∧ (ldT Tryd.prog 70 = some none) ∧ (offT Tryd.prog 27 6 = some 6) ∧ (offT Tryd.prog 54 1 = some 1) ∧ (offT Tryd.prog 77 0 = some 0) ∧ (offT Tryd.prog 77 1 = some 2) ∧ (slT Tryd.prog 22 = some (3, 1)) ∧ (slT Tryd.prog 70 = some (77, 3)) ∧ (szT Tryd.prog 22 = some 1) ∧ (szT Tryd.prog 3 = some 1) ∧ (szT Tryd.prog 38 = some 1) ∧ (zeroT Tryd.prog 22 = some [.slice none 0 0]) ∧ (zeroT Tryd.prog 3 = some [.int .i64 0]) ∧ (zeroT Tryd.prog 38 = some [.int .i64 0]) := ⟨eq_true Tryd.call68, eq_true Tryd.call72, eq_true Tryd.call73, tr10, tr13, tr31, tr32, tr44, tr47, tr49, tr53, tr57, tr89, tr104, tr109, tr110, tr136, tr139, tr150, tr155, tr158, tr172, tr176, tr180⟩
theorem tf39 : (CallT Tryd.prog 40 = True) ∧ (CallT Tryd.prog 70 = True) ∧ (CallT Tryd.prog 71 = True) ∧ (CallT Tryd.prog 74 = True) ∧ (intT Tryd.prog 3 = some .i64) ∧ (intT Tryd.prog 68 = some .u64) ∧ (kdT Tryd.prog 3 = some 0) ∧ (kdT Tryd.prog 38 = some 0) ∧ (ldT Tryd.prog 27 = some (some 7)) ∧ (ldT Tryd.prog 3 = some none) ∧ (offT Tryd.prog 27 6 = some 6) ∧ (slT Tryd.prog 70 = some (77, 3)) := ⟨eq_true Tryd.call40, eq_true Tryd.call70, eq_true Tryd.call71, eq_true Tryd.call74, tr28, tr29, tr31, tr32, tr47, tr49, tr89, tr139⟩
theorem tf40 : (CallT Tryd.prog 31 = True) ∧ (CallT Tryd.prog 60 = True) ∧ (arT Tryd.prog 70 = none) ∧ (kdT Tryd.prog 3 = some 0) ∧ (kdT Tryd.prog 38 = some 0) ∧ (ldT Tryd.prog 27 = some (some 7)) ∧ (ldT Tryd.prog 3 = some none) ∧ (offT Tryd.prog 54 0 = some 0) ∧ (offT Tryd.prog 54 1 = some 1) ∧ (offT Tryd.prog 77 0 = some 0) ∧ (offT Tryd.prog 77 1 = some 2) ∧ (slT Tryd.prog 70 = some (77, 3)) := ⟨eq_true Tryd.call31, eq_true Tryd.call60, tr13, tr31, tr32, tr47, tr49, tr103, tr104, tr109, tr110, tr139⟩
theorem tf41 : (CallT Tryd.prog 75 = True) ∧ (CallT Tryd.prog 76 = True) ∧ (CallT Tryd.prog 77 = True) ∧ (CallT Tryd.prog 78 = True) ∧ (elT Tryd.prog 22 = some (3, 1, [.int .i64 0], 8)) ∧ (kdT Tryd.prog 38 = some 0) ∧ (ldT Tryd.prog 123 = some (some 6)) ∧ (ldT Tryd.prog 22 = some none) ∧ (ldT Tryd.prog 25 = some (some 5)) ∧ (ldT Tryd.prog 98 = some (some 5)) ∧ (offT Tryd.prog 123 0 = some 0) ∧ (szT Tryd.prog 123 = some 6) ∧ (szT Tryd.prog 22 = some 1) ∧ (zeroT Tryd.prog 123 = some [.int .i64 0, .int .i64 0, .slice none 0 0, .slice none 0 0, .slice none 0 0, .int .i64 0]) ∧ (zeroT Tryd.prog 22 = some [.slice none 0 0]) := ⟨eq_true Tryd.call75, eq_true Tryd.call76, eq_true Tryd.call77, eq_true Tryd.call78, tr21, tr32, tr38, tr44, tr46, tr60, tr67, tr144, tr150, tr166, tr172⟩
theorem tf42 : (kdT Tryd.prog 3 = some 0) ∧ (ldT Tryd.prog 3 = some none) ∧ (offT Tryd.prog 25 0 = some 0) ∧ (offT Tryd.prog 25 1 = some 1) := ⟨tr31, tr49, tr78, tr79⟩
theorem tf43 : (ldT Tryd.prog 27 = some (some 7)) ∧ (ldT Tryd.prog 29 = some (some 5)) ∧ (placesT Tryd.prog 27 = some [(0, 1), (1, 1), (2, 1), (3, 1), (4, 1), (5, 1), (6, 1)]) ∧ (placesT Tryd.prog 29 = some [(0, 1), (1, 1), (2, 1), (3, 1), (4, 1)]) ∧ (szT Tryd.prog 27 = some 7) ∧ (szT Tryd.prog 29 = some 5) ∧ (zeroT Tryd.prog 27 = some [.int .i64 0, .int .i64 0, .int .i64 0, .int .i64 0, .int .i64 0, .int .i64 0, .int .i64 0]) ∧ (zeroT Tryd.prog 29 = some [.int .i64 0, .int .i64 0, .int .i64 0, .int .i64 0, .int .i64 0]) := ⟨tr47, tr48, tr119, tr120, tr153, tr154, tr174, tr175⟩
theorem tf44 : (elT Tryd.prog 22 = some (3, 1, [.int .i64 0], 8)) ∧ (elT Tryd.prog 23 = some (54, 2, [.int .i64 0, .int .i64 0], 16)) ∧ (ldT Tryd.prog 25 = some (some 5)) ∧ (placesT Tryd.prog 25 = some [(0, 1), (1, 1), (2, 1), (3, 1), (4, 1)]) ∧ (placesT Tryd.prog 54 = some [(0, 1), (1, 1)]) ∧ (szT Tryd.prog 25 = some 5) ∧ (zeroT Tryd.prog 25 = some [.int .i64 0, .int .i64 0, .slice none 0 0, .slice none 0 0, .slice none 0 0]) ∧ (zeroT Tryd.prog 54 = some [.int .i64 0, .int .i64 0]) := ⟨tr21, tr22, tr46, tr118, tr123, tr152, tr173, tr181⟩
theorem tf45 : (CallT Tryd.prog 25 = True) ∧ (CallT Tryd.prog 30 = True) ∧ (CallT Tryd.prog 46 = True) ∧ (CallT Tryd.prog 55 = True) ∧ (CallT Tryd.prog 79 = True) ∧ (CallT Tryd.prog 80 = True) ∧ (arT Tryd.prog 102 = none) ∧ (arT Tryd.prog 22 = none) ∧ (arT Tryd.prog 23 = none) ∧ (elT Tryd.prog 102 = some (4, 1, [.bool false], 1)) ∧ (elT Tryd.prog 103 = some (102, 1, [.slice none 0 0], 24)) ∧ (elT Tryd.prog 104 = some (22, 1, [.slice none 0 0], 24)) ∧ (elT Tryd.prog 22 = some (3, 1, [.int .i64 0], 8)) ∧ (kdT Tryd.prog 3 = some 0) ∧ (kdT Tryd.prog 38 = some 0) ∧ (ldT Tryd.prog 102 = some none) ∧ (ldT Tryd.prog 103 = some none) ∧ (ldT Tryd.prog 104 = some none) ∧ (ldT Tryd.prog 22 = some none) ∧ (ldT Tryd.prog 23 = some none) ∧ (ldT Tryd.prog 25 = some (some 5)) ∧ (ldT Tryd.prog 27 = some (some 7)) ∧ (ldT Tryd.prog 29 = some (some 5)) ∧ (ldT Tryd.prog 3 = some none) ∧ (ldT Tryd.prog 54 = some (some 2)) ∧ (offT Tryd.prog 106 3 = some 13) ∧ (offT Tryd.prog 106 4 = some 14) ∧ (offT Tryd.prog 106 5 = some 15) ∧ (offT Tryd.prog 25 2 = some 2) ∧ (offT Tryd.prog 25 3 = some 3) ∧ (offT Tryd.prog 25 4 = some 4) ∧ (offT Tryd.prog 27 0 = some 0) ∧ (offT Tryd.prog 27 1 = some 1) ∧ (offT Tryd.prog 29 0 = some 0) ∧ (offT Tryd.prog 29 1 = some 1) ∧ (offT Tryd.prog 54 0 = some 0) ∧ (offT Tryd.prog 54 1 = some 1) ∧ (placesT Tryd.prog 106 = some [(0, 5), (5, 7), (12, 1), (13, 1), (14, 1), (15, 1)]) ∧ (slT Tryd.prog 102 = some (4, 1)) ∧ (slT Tryd.prog 22 = some (3, 1)) ∧ (slT Tryd.prog 23 = some (54, 2)) ∧ (szT Tryd.prog 103 = some 1) ∧ (szT Tryd.prog 104 = some 1) ∧ (szT Tryd.prog 3 = some 1) ∧ (szT Tryd.prog 4 = some 1) ∧ (szT Tryd.prog 54 = some 2) ∧ (zeroT Tryd.prog 106 = some [.int .i64 0, .int .i64 0, .slice none 0 0, .slice none 0 0, .slice none 0 0, .int .i64 0, .int .i64 0, .int .i64 0, .int .i64 0, .int .i64 0, .int .i64 0, .int .i64 0, .int .i64 0, .slice none 0 0, .slice none 0 0, .slice none 0 0]) ∧ (zeroT Tryd.prog 54 = some [.int .i64 0, .int .i64 0]) := ⟨eq_true Tryd.call25, eq_true Tryd.call30, eq_true Tryd.call46, eq_true Tryd.call55, eq_true Tryd.call79, eq_true Tryd.call80, tr0, tr10, tr11, tr14, tr15, tr16, tr21, tr31, tr32, tr35, tr36, tr37, tr44, tr45, tr46, tr47, tr48, tr49, tr55, tr64, tr65, tr66, tr80, tr81, tr82, tr83, tr84, tr90, tr91, tr103, tr104, tr112, tr125, tr136, tr137, tr141, tr142, tr155, tr159, tr160, tr164, tr181⟩
theorem tf46 : (kdT Tryd.prog 3 = some 0) := tr31
theorem tf47 : (CallT Tryd.prog 64 = True) ∧ (CallT Tryd.prog 81 = True) ∧ (CallT Tryd.prog 82 = True) ∧ (arT Tryd.prog 102 = none) ∧ (arT Tryd.prog 22 = none) ∧ (kdT Tryd.prog 3 = some 0) ∧ (ldT Tryd.prog 102 = some none) ∧ (ldT Tryd.prog 3 = some none) ∧ (ldT Tryd.prog 31 = some (some 2)) ∧ (ldT Tryd.prog 37 = some (some 2)) ∧ (ldT Tryd.prog 4 = some none) ∧ (offT Tryd.prog 106 1 = some 5) ∧ (offT Tryd.prog 106 3 = some 13) ∧ (offT Tryd.prog 27 4 = some 4) ∧ (offT Tryd.prog 31 0 = some 0) ∧ (offT Tryd.prog 37 1 = some 1) ∧ (placesT Tryd.prog 37 = some [(0, 1), (1, 1)]) ∧ (slT Tryd.prog 102 = some (4, 1)) ∧ (slT Tryd.prog 22 = some (3, 1)) ∧ (szT Tryd.prog 37 = some 2) ∧ (zeroT Tryd.prog 37 = some [.slice none 0 0, .int .i64 0]) := ⟨eq_true Tryd.call64, eq_true Tryd.call81, eq_true Tryd.call82, tr0, tr10, tr31, tr35, tr49, tr50, tr52, tr54, tr62, tr64, tr87, tr95, tr102, tr122, tr125, tr136, tr157, tr179⟩
theorem tf48 : (CallT Tryd.prog 49 = True) ∧ (CallT Tryd.prog 65 = True) ∧ (CallT Tryd.prog 83 = True) ∧ (arT Tryd.prog 22 = none) ∧ (kdT Tryd.prog 3 = some 0) ∧ (ldT Tryd.prog 25 = some (some 5)) ∧ (ldT Tryd.prog 27 = some (some 7)) ∧ (ldT Tryd.prog 29 = some (some 5)) ∧ (ldT Tryd.prog 3 = some none) ∧ (ldT Tryd.prog 31 = some (some 2)) ∧ (offT Tryd.prog 27 4 = some 4) ∧ (offT Tryd.prog 31 0 = some 0) ∧ (slT Tryd.prog 22 = some (3, 1)) := ⟨eq_true Tryd.call49, eq_true Tryd.call65, eq_true Tryd.call83, tr10, tr31, tr46, tr47, tr48, tr49, tr50, tr87, tr95, tr136⟩
theorem tf49 : (CallT Tryd.prog 84 = True) ∧ (arT Tryd.prog 22 = none) ∧ (arT Tryd.prog 23 = none) ∧ (kdT Tryd.prog 3 = some 0) ∧ (ldT Tryd.prog 22 = some none) ∧ (ldT Tryd.prog 23 = some none) ∧ (ldT Tryd.prog 25 = some (some 5)) ∧ (ldT Tryd.prog 29 = some (some 5)) ∧ (ldT Tryd.prog 3 = some none) ∧ (offT Tryd.prog 25 3 = some 3) ∧ (offT Tryd.prog 25 4 = some 4) ∧ (offT Tryd.prog 27 0 = some 0) ∧ (offT Tryd.prog 27 1 = some 1) ∧ (offT Tryd.prog 29 1 = some 1) ∧ (offT Tryd.prog 54 0 = some 0) ∧ (offT Tryd.prog 54 1 = some 1) ∧ (slT Tryd.prog 22 = some (3, 1)) ∧ (slT Tryd.prog 23 = some (54, 2)) ∧ (szT Tryd.prog 3 = some 1) := ⟨eq_true Tryd.call84, tr10, tr11, tr31, tr44, tr45, tr46, tr48, tr49, tr81, tr82, tr83, tr84, tr91, tr103, tr104, tr136, tr137, tr155⟩
theorem tf50 : (CallT Tryd.prog 42 = True) ∧ (CallT Tryd.prog 54 = True) ∧ (kdT Tryd.prog 3 = some 0) ∧ (ldT Tryd.prog 25 = some (some 5)) := ⟨eq_true Tryd.call42, eq_true Tryd.call54, tr31, tr46⟩
theorem tf51 : (CallT Tryd.prog 85 = True) ∧ (arT Tryd.prog 22 = none) ∧ (kdT Tryd.prog 3 = some 0) ∧ (ldT Tryd.prog 22 = some none) ∧ (ldT Tryd.prog 25 = some (some 5)) ∧ (ldT Tryd.prog 3 = some none) ∧ (offT Tryd.prog 25 4 = some 4) ∧ (offT Tryd.prog 27 0 = some 0) ∧ (offT Tryd.prog 27 1 = some 1) ∧ (slT Tryd.prog 22 = some (3, 1)) := ⟨eq_true Tryd.call85, tr10, tr31, tr44, tr46, tr49, tr82, tr83, tr84, tr136⟩
theorem tf52 : (kdT Tryd.prog 3 = some 0) ∧ (ldT Tryd.prog 3 = some none) ∧ (offT Tryd.prog 31 0 = some 0) ∧ (offT Tryd.prog 31 1 = some 1) := ⟨tr31, tr49, tr95, tr96⟩
theorem tf53 : (CallT Tryd.prog 86 = True) ∧ (elT Tryd.prog 22 = some (3, 1, [.int .i64 0], 8)) ∧ (kdT Tryd.prog 3 = some 0) ∧ (ldT Tryd.prog 25 = some (some 5)) := ⟨eq_true Tryd.call86, tr21, tr31, tr46⟩
theorem tf54 : (kdT Tryd.prog 3 = some 0) := tr31
theorem tf55 : (CallT Tryd.prog 56 = True) ∧ (CallT Tryd.prog 87 = True) ∧ (CallT Tryd.prog 88 = True) ∧ (CallT Tryd.prog 89 = True) ∧ (CallT Tryd.prog 90 = True) ∧ (CallT Tryd.prog 91 = True) ∧ (kdT Tryd.prog 3 = some 0) ∧ (ldT Tryd.prog 22 = some none) ∧ (ldT Tryd.prog 23 = some none) ∧ (ldT Tryd.prog 3 = some none) ∧ (offT Tryd.prog 25 0 = some 0) ∧ (offT Tryd.prog 25 1 = some 1) ∧ (offT Tryd.prog 25 2 = some 2) ∧ (offT Tryd.prog 25 3 = some 3) ∧ (offT Tryd.prog 25 4 = some 4) ∧ (slT Tryd.prog 22 = some (3, 1)) ∧ (slT Tryd.prog 23 = some (54, 2)) := ⟨eq_true Tryd.call56, eq_true Tryd.call87, eq_true Tryd.call88, eq_true Tryd.call89, eq_true Tryd.call90, eq_true Tryd.call91, tr31, tr44, tr45, tr49, tr78, tr79, tr80, tr81, tr82, tr136, tr137⟩
theorem tf56 : (kdT Tryd.prog 3 = some 0) := tr31
theorem tf57 : (arT Tryd.prog 23 = none) ∧ (elT Tryd.prog 23 = some (54, 2, [.int .i64 0, .int .i64 0], 16)) ∧ (kdT Tryd.prog 3 = some 0) ∧ (ldT Tryd.prog 3 = some none) ∧ (offT Tryd.prog 54 1 = some 1) ∧ (placesT Tryd.prog 54 = some [(0, 1), (1, 1)]) ∧ (slT Tryd.prog 23 = some (54, 2)) ∧ (szT Tryd.prog 3 = some 1) ∧ (zeroT Tryd.prog 54 = some [.int .i64 0, .int .i64 0]) := ⟨tr11, tr22, tr31, tr49, tr104, tr123, tr137, tr155, tr181⟩
theorem tf58 : (CallT Tryd.prog 20 = True) ∧ (CallT Tryd.prog 31 = True) ∧ (CallT Tryd.prog 92 = True) ∧ (kdT Tryd.prog 38 = some 0) ∧ (ldT Tryd.prog 25 = some (some 5)) ∧ (ldT Tryd.prog 27 = some (some 7)) ∧ (ldT Tryd.prog 29 = some (some 5)) := ⟨eq_true Tryd.call20, eq_true Tryd.call31, eq_true Tryd.call92, tr32, tr46, tr47, tr48⟩
theorem tf59 : (CallT Tryd.prog 54 = True) ∧ (kdT Tryd.prog 3 = some 0) ∧ (ldT Tryd.prog 23 = some none) ∧ (offT Tryd.prog 25 3 = some 3) ∧ (slT Tryd.prog 23 = some (54, 2)) := ⟨eq_true Tryd.call54, tr31, tr45, tr81, tr137⟩
theorem tf60 : (kdT Tryd.prog 3 = some 0) := tr31
theorem tf61 : (CallT Tryd.prog 50 = True) ∧ (CallT Tryd.prog 60 = True) ∧ (ldT Tryd.prog 25 = some (some 5)) ∧ (ldT Tryd.prog 3 = some none) ∧ (offT Tryd.prog 31 0 = some 0) ∧ (offT Tryd.prog 31 1 = some 1) := ⟨eq_true Tryd.call50, eq_true Tryd.call60, tr46, tr49, tr95, tr96⟩
theorem tf62 : (CallT Tryd.prog 93 = True) ∧ (kdT Tryd.prog 3 = some 0) := ⟨eq_true Tryd.call93, tr31⟩
theorem tf63 : (CallT Tryd.prog 54 = True) := eq_true Tryd.call54
theorem tf64 : (CallT Tryd.prog 94 = True) ∧ (arT Tryd.prog 102 = none) ∧ (arT Tryd.prog 103 = none) ∧ (arT Tryd.prog 104 = none) ∧ (arT Tryd.prog 22 = none) ∧ (elT Tryd.prog 102 = some (4, 1, [.bool false], 1)) ∧ (elT Tryd.prog 22 = some (3, 1, [.int .i64 0], 8)) ∧ (kdT Tryd.prog 3 = some 0) ∧ (ldT Tryd.prog 102 = some none) ∧ (ldT Tryd.prog 103 = some none) ∧ (ldT Tryd.prog 104 = some none) ∧ (ldT Tryd.prog 22 = some none) ∧ (ldT Tryd.prog 23 = some none) ∧ (ldT Tryd.prog 3 = some none) ∧ (ldT Tryd.prog 4 = some none) ∧ (offT Tryd.prog 106 0 = some 0) ∧ (offT Tryd.prog 106 2 = some 12) ∧ (offT Tryd.prog 106 3 = some 13) ∧ (offT Tryd.prog 106 4 = some 14) ∧ (offT Tryd.prog 106 5 = some 15) ∧ (offT Tryd.prog 25 2 = some 2) ∧ (offT Tryd.prog 25 3 = some 3) ∧ (slT Tryd.prog 102 = some (4, 1)) ∧ (slT Tryd.prog 103 = some (102, 1)) ∧ (slT Tryd.prog 104 = some (22, 1)) ∧ (slT Tryd.prog 22 = some (3, 1)) ∧ (slT Tryd.prog 23 = some (54, 2)) ∧ (szT Tryd.prog 3 = some 1) ∧ (szT Tryd.prog 4 = some 1) := ⟨eq_true Tryd.call94, tr0, tr1, tr2, tr10, tr14, tr21, tr31, tr35, tr36, tr37, tr44, tr45, tr49, tr54, tr61, tr63, tr64, tr65, tr66, tr80, tr81, tr125, tr126, tr127, tr136, tr137, tr155, tr159⟩
theorem tf65 : (CallT Tryd.prog 42 = True) ∧ (CallT Tryd.prog 49 = True) ∧ (CallT Tryd.prog 51 = True) ∧ (CallT Tryd.prog 53 = True) ∧ (arT Tryd.prog 102 = none) ∧ (arT Tryd.prog 22 = none) ∧ (elT Tryd.prog 102 = some (4, 1, [.bool false], 1)) ∧ (elT Tryd.prog 22 = some (3, 1, [.int .i64 0], 8)) ∧ (kdT Tryd.prog 3 = some 0) ∧ (ldT Tryd.prog 23 = some none) ∧ (ldT Tryd.prog 25 = some (some 5)) ∧ (ldT Tryd.prog 27 = some (some 7)) ∧ (ldT Tryd.prog 29 = some (some 5)) ∧ (ldT Tryd.prog 3 = some none) ∧ (ldT Tryd.prog 4 = some none) ∧ (offT Tryd.prog 25 3 = some 3) ∧ (offT Tryd.prog 29 0 = some 0) ∧ (slT Tryd.prog 102 = some (4, 1)) ∧ (slT Tryd.prog 22 = some (3, 1)) ∧ (slT Tryd.prog 23 = some (54, 2)) ∧ (szT Tryd.prog 3 = some 1) ∧ (szT Tryd.prog 4 = some 1) := ⟨eq_true Tryd.call42, eq_true Tryd.call49, eq_true Tryd.call51, eq_true Tryd.call53, tr0, tr10, tr14, tr21, tr31, tr45, tr46, tr47, tr48, tr49, tr54, tr81, tr90, tr125, tr136, tr137, tr155, tr159⟩
theorem tf66 : (CallT Tryd.prog 95 = True) ∧ (kdT Tryd.prog 3 = some 0) := ⟨eq_true Tryd.call95, tr31⟩
theorem tf67 : (CallT Tryd.prog 30 = True) ∧ (kdT Tryd.prog 38 = some 0) ∧ (ldT Tryd.prog 27 = some (some 7)) := ⟨eq_true Tryd.call30, tr32, tr47⟩
theorem tf68 : (CallT Tryd.prog 96 = True) ∧ (CallT Tryd.prog 97 = True) ∧ (szT Tryd.prog 148 = some 1) ∧ (zeroT Tryd.prog 148 = some [.nilFunc]) := ⟨eq_true Tryd.call96, eq_true Tryd.call97, tr145, tr167⟩
theorem tf69 : (arT Tryd.prog 116 = none) ∧ (arT Tryd.prog 22 = none) ∧ (kdT Tryd.prog 3 = some 0) ∧ (ldT Tryd.prog 3 = some none) ∧ (offT Tryd.prog 27 5 = some 5) ∧ (slT Tryd.prog 116 = some (27, 7)) ∧ (slT Tryd.prog 22 = some (3, 1)) := ⟨tr3, tr10, tr31, tr49, tr88, tr129, tr136⟩
theorem tf70 : (elT Tryd.prog 22 = some (3, 1, [.int .i64 0], 8)) ∧ (intT Tryd.prog 3 = some .i64) ∧ (intT Tryd.prog 68 = some .u64) ∧ (kdT Tryd.prog 3 = some 0) := ⟨tr21, tr28, tr29, tr31⟩
theorem tf71 : (arT Tryd.prog 22 = none) ∧ (kdT Tryd.prog 3 = some 0) ∧ (ldT Tryd.prog 3 = some none) ∧ (slT Tryd.prog 22 = some (3, 1)) := ⟨tr10, tr31, tr49, tr136⟩
theorem tf72 : (CallT Tryd.prog 30 = True) ∧ (CallT Tryd.prog 98 = True) ∧ (CallT Tryd.prog 99 = True) ∧ (kdT Tryd.prog 3 = some 0) ∧ (kdT Tryd.prog 38 = some 0) ∧ (ldT Tryd.prog 27 = some (some 7)) ∧ (slT Tryd.prog 70 = some (77, 3)) := ⟨eq_true Tryd.call30, eq_true Tryd.call98, eq_true Tryd.call99, tr31, tr32, tr47, tr139⟩
theorem tf73 : (arT Tryd.prog 70 = none) ∧ (kdT Tryd.prog 3 = some 0) ∧ (ldT Tryd.prog 3 = some none) ∧ (ldT Tryd.prog 77 = some (some 3)) ∧ (offT Tryd.prog 54 0 = some 0) ∧ (offT Tryd.prog 54 1 = some 1) ∧ (offT Tryd.prog 77 0 = some 0) ∧ (offT Tryd.prog 77 1 = some 2) ∧ (slT Tryd.prog 70 = some (77, 3)) ∧ (szT Tryd.prog 77 = some 3) ∧ (zeroT Tryd.prog 77 = some [.int .i64 0, .int .i64 0, .int .i64 0]) := ⟨tr13, tr31, tr49, tr58, tr103, tr104, tr109, tr110, tr139, tr161, tr182⟩
theorem tf74 : (arT Tryd.prog 22 = none) ∧ (arT Tryd.prog 70 = none) ∧ (kdT Tryd.prog 3 = some 0) ∧ (ldT Tryd.prog 3 = some none) ∧ (offT Tryd.prog 54 1 = some 1) ∧ (offT Tryd.prog 77 0 = some 0) ∧ (offT Tryd.prog 77 1 = some 2) ∧ (slT Tryd.prog 22 = some (3, 1)) ∧ (slT Tryd.prog 70 = some (77, 3)) := ⟨tr10, tr13, tr31, tr49, tr104, tr109, tr110, tr136, tr139⟩
theorem tf75 : (CallT Tryd.prog 100 = True) ∧ (elT Tryd.prog 22 = some (3, 1, [.int .i64 0], 8)) ∧ (ldT Tryd.prog 123 = some (some 6)) ∧ (ldT Tryd.prog 25 = some (some 5)) ∧ (ldT Tryd.prog 98 = some (some 5)) ∧ (placesT Tryd.prog 123 = some [(0, 5), (5, 1)]) ∧ (placesT Tryd.prog 155 = some [(0, 1), (1, 1), (2, 1)]) ∧ (szT Tryd.prog 123 = some 6) ∧ (szT Tryd.prog 98 = some 5) ∧ (zeroT Tryd.prog 123 = some [.int .i64 0, .int .i64 0, .slice none 0 0, .slice none 0 0, .slice none 0 0, .int .i64 0]) ∧ (zeroT Tryd.prog 155 = some [.slice none 0 0, .slice none 0 0, .slice none 0 0]) ∧ (zeroT Tryd.prog 98 = some [.int .i64 0, .int .i64 0, .slice none 0 0, .slice none 0 0, .slice none 0 0]) := ⟨eq_true Tryd.call100, tr21, tr38, tr46, tr60, tr114, tr115, tr144, tr162, tr166, tr168, tr183⟩
theorem tf76 : (CallT Tryd.prog 94 = True) ∧ (elT Tryd.prog 22 = some (3, 1, [.int .i64 0], 8)) ∧ (ldT Tryd.prog 22 = some none) ∧ (offT Tryd.prog 25 2 = some 2) ∧ (offT Tryd.prog 98 0 = some 0) ∧ (slT Tryd.prog 22 = some (3, 1)) := ⟨eq_true Tryd.call94, tr21, tr44, tr80, tr111, tr136⟩
theorem tf77 : (CallT Tryd.prog 101 = True) := eq_true Tryd.call101
theorem tf78 : (arT Tryd.prog 102 = none) ∧ (arT Tryd.prog 22 = none) ∧ (kdT Tryd.prog 3 = some 0) ∧ (ldT Tryd.prog 3 = some none) ∧ (ldT Tryd.prog 4 = some none) ∧ (slT Tryd.prog 102 = some (4, 1)) ∧ (slT Tryd.prog 22 = some (3, 1)) ∧ (szT Tryd.prog 3 = some 1) := ⟨tr0, tr10, tr31, tr49, tr54, tr125, tr136, tr155⟩
theorem tf79 : (CallT Tryd.prog 100 = True) ∧ (CallT Tryd.prog 104 = True) ∧ (elT Tryd.prog 22 = some (3, 1, [.int .i64 0], 8)) ∧ (kdT Tryd.prog 3 = some 0) ∧ (kdT Tryd.prog 38 = some 0) ∧ (ldT Tryd.prog 25 = some (some 5)) ∧ (ldT Tryd.prog 3 = some none) ∧ (ldT Tryd.prog 98 = some (some 5)) ∧ (offT Tryd.prog 54 0 = some 0) ∧ (offT Tryd.prog 54 1 = some 1) ∧ (placesT Tryd.prog 155 = some [(0, 1), (1, 1), (2, 1)]) ∧ (szT Tryd.prog 54 = some 2) ∧ (szT Tryd.prog 98 = some 5) ∧ (zeroT Tryd.prog 155 = some [.slice none 0 0, .slice none 0 0, .slice none 0 0]) ∧ (zeroT Tryd.prog 54 = some [.int .i64 0, .int .i64 0]) ∧ (zeroT Tryd.prog 98 = some [.int .i64 0, .int .i64 0, .slice none 0 0, .slice none 0 0, .slice none 0 0]) := ⟨eq_true Tryd.call100, eq_true Tryd.call104, tr21, tr31, tr32, tr46, tr49, tr60, tr103, tr104, tr115, tr160, tr162, tr168, tr181, tr183⟩
theorem tf80 : (CallT Tryd.prog 100 = True) ∧ (CallT Tryd.prog 105 = True) ∧ (CallT Tryd.prog 56 = True) ∧ (elT Tryd.prog 22 = some (3, 1, [.int .i64 0], 8)) ∧ (kdT Tryd.prog 38 = some 0) ∧ (ldT Tryd.prog 25 = some (some 5)) ∧ (ldT Tryd.prog 98 = some (some 5)) ∧ (placesT Tryd.prog 155 = some [(0, 1), (1, 1), (2, 1)]) ∧ (szT Tryd.prog 98 = some 5) ∧ (zeroT Tryd.prog 155 = some [.slice none 0 0, .slice none 0 0, .slice none 0 0]) ∧ (zeroT Tryd.prog 98 = some [.int .i64 0, .int .i64 0, .slice none 0 0, .slice none 0 0, .slice none 0 0]) := ⟨eq_true Tryd.call100, eq_true Tryd.call105, eq_true Tryd.call56, tr21, tr32, tr46, tr60, tr115, tr162, tr168, tr183⟩
theorem tf81 : (arT Tryd.prog 102 = none) ∧ (arT Tryd.prog 135 = none) ∧ (arT Tryd.prog 163 = none) ∧ (arT Tryd.prog 164 = none) ∧ (arT Tryd.prog 22 = none) ∧ (elT Tryd.prog 22 = some (3, 1, [.int .i64 0], 8)) ∧ (kdT Tryd.prog 3 = some 0) ∧ (ldT Tryd.prog 102 = some none) ∧ (ldT Tryd.prog 162 = some (some 3)) ∧ (ldT Tryd.prog 163 = some none) ∧ (ldT Tryd.prog 164 = some none) ∧ (ldT Tryd.prog 22 = some none) ∧ (ldT Tryd.prog 3 = some none) ∧ (ldT Tryd.prog 37 = some (some 2)) ∧ (ldT Tryd.prog 4 = some none) ∧ (offT Tryd.prog 106 2 = some 12) ∧ (offT Tryd.prog 106 3 = some 13) ∧ (offT Tryd.prog 162 0 = some 0) ∧ (offT Tryd.prog 162 1 = some 1) ∧ (offT Tryd.prog 162 2 = some 2) ∧ (offT Tryd.prog 31 1 = some 1) ∧ (offT Tryd.prog 37 0 = some 0) ∧ (placesT Tryd.prog 37 = some [(0, 1), (1, 1)]) ∧ (slT Tryd.prog 102 = some (4, 1)) ∧ (slT Tryd.prog 135 = some (164, 1)) ∧ (slT Tryd.prog 163 = some (162, 3)) ∧ (slT Tryd.prog 164 = some (163, 1)) ∧ (slT Tryd.prog 22 = some (3, 1)) ∧ (szT Tryd.prog 162 = some 3) ∧ (szT Tryd.prog 3 = some 1) ∧ (szT Tryd.prog 37 = some 2) ∧ (zeroT Tryd.prog 162 = some [.int .i64 0, .int .i64 0, .int .i64 0]) ∧ (zeroT Tryd.prog 37 = some [.slice none 0 0, .int .i64 0]) := ⟨tr0, tr4, tr5, tr6, tr10, tr21, tr31, tr35, tr40, tr41, tr42, tr44, tr49, tr52, tr54, tr63, tr64, tr72, tr73, tr74, tr96, tr101, tr122, tr125, tr130, tr131, tr132, tr136, tr146, tr155, tr157, tr169, tr179⟩
theorem tf82 : (CallT Tryd.prog 106 = True) ∧ (CallT Tryd.prog 108 = True) ∧ (arT Tryd.prog 102 = none) ∧ (arT Tryd.prog 103 = none) ∧ (arT Tryd.prog 104 = none) ∧ (arT Tryd.prog 135 = none) ∧ (arT Tryd.prog 163 = none) ∧ (arT Tryd.prog 164 = none) ∧ (arT Tryd.prog 22 = none) ∧ (elT Tryd.prog 135 = some (164, 1, [.slice none 0 0], 24)) ∧ (kdT Tryd.prog 3 = some 0) ∧ (ldT Tryd.prog 102 = some none) ∧ (ldT Tryd.prog 103 = some none) ∧ (ldT Tryd.prog 104 = some none) ∧ (ldT Tryd.prog 162 = some (some 3)) ∧ (ldT Tryd.prog 163 = some none) ∧ (ldT Tryd.prog 164 = some none) ∧ (ldT Tryd.prog 22 = some none) ∧ (ldT Tryd.prog 23 = some none) ∧ (ldT Tryd.prog 3 = some none) ∧ (ldT Tryd.prog 31 = some (some 2)) ∧ (ldT Tryd.prog 4 = some none) ∧ (ldT Tryd.prog 84 = some none) ∧ (offT Tryd.prog 106 0 = some 0) ∧ (offT Tryd.prog 106 1 = some 5) ∧ (offT Tryd.prog 106 2 = some 12) ∧ (offT Tryd.prog 106 4 = some 14) ∧ (offT Tryd.prog 106 5 = some 15) ∧ (offT Tryd.prog 162 0 = some 0) ∧ (offT Tryd.prog 25 3 = some 3) ∧ (offT Tryd.prog 27 2 = some 2) ∧ (offT Tryd.prog 27 3 = some 3) ∧ (placesT Tryd.prog 162 = some [(0, 1), (1, 1), (2, 1)]) ∧ (slT Tryd.prog 102 = some (4, 1)) ∧ (slT Tryd.prog 103 = some (102, 1)) ∧ (slT Tryd.prog 104 = some (22, 1)) ∧ (slT Tryd.prog 135 = some (164, 1)) ∧ (slT Tryd.prog 163 = some (162, 3)) ∧ (slT Tryd.prog 164 = some (163, 1)) ∧ (slT Tryd.prog 22 = some (3, 1)) ∧ (slT Tryd.prog 23 = some (54, 2)) ∧ (szT Tryd.prog 162 = some 3) ∧ (szT Tryd.prog 3 = some 1) ∧ (zeroT Tryd.prog 162 = some [.int .i64 0, .int .i64 0, .int .i64 0]) := ⟨eq_true Tryd.call106, eq_true Tryd.call108, tr0, tr1, tr2, tr4, tr5, tr6, tr10, tr17, tr31, tr35, tr36, tr37, tr40, tr41, tr42, tr44, tr45, tr49, tr50, tr54, tr59, tr61, tr62, tr63, tr65, tr66, tr72, tr81, tr85, tr86, tr116, tr125, tr126, tr127, tr130, tr131, tr132, tr136, tr137, tr146, tr155, tr169⟩
theorem tf83 : (CallT Tryd.prog 109 = True) ∧ (CallT Tryd.prog 49 = True) ∧ (arT Tryd.prog 104 = none) ∧ (arT Tryd.prog 168 = none) ∧ (arT Tryd.prog 22 = none) ∧ (kdT Tryd.prog 3 = some 0) ∧ (ldT Tryd.prog 104 = some none) ∧ (ldT Tryd.prog 22 = some none) ∧ (ldT Tryd.prog 25 = some (some 5)) ∧ (ldT Tryd.prog 27 = some (some 7)) ∧ (ldT Tryd.prog 29 = some (some 5)) ∧ (ldT Tryd.prog 3 = some none) ∧ (ldT Tryd.prog 31 = some (some 2)) ∧ (offT Tryd.prog 29 0 = some 0) ∧ (offT Tryd.prog 31 1 = some 1) ∧ (slT Tryd.prog 104 = some (22, 1)) ∧ (slT Tryd.prog 168 = some (104, 1)) ∧ (slT Tryd.prog 22 = some (3, 1)) := ⟨eq_true Tryd.call109, eq_true Tryd.call49, tr2, tr7, tr10, tr31, tr37, tr44, tr46, tr47, tr48, tr49, tr50, tr90, tr96, tr127, tr133, tr136⟩
theorem tf84 : (CallT Tryd.prog 26 = True) ∧ (CallT Tryd.prog 54 = True) ∧ (arT Tryd.prog 22 = none) ∧ (kdT Tryd.prog 3 = some 0) ∧ (ldT Tryd.prog 22 = some none) ∧ (ldT Tryd.prog 25 = some (some 5)) ∧ (ldT Tryd.prog 3 = some none) ∧ (offT Tryd.prog 25 4 = some 4) ∧ (offT Tryd.prog 29 0 = some 0) ∧ (offT Tryd.prog 29 1 = some 1) ∧ (offT Tryd.prog 29 2 = some 2) ∧ (offT Tryd.prog 29 3 = some 3) ∧ (offT Tryd.prog 29 4 = some 4) ∧ (slT Tryd.prog 22 = some (3, 1)) := ⟨eq_true Tryd.call26, eq_true Tryd.call54, tr10, tr31, tr44, tr46, tr49, tr82, tr90, tr91, tr92, tr93, tr94, tr136⟩
theorem tf85 : (CallT Tryd.prog 26 = True) ∧ (arT Tryd.prog 23 = none) ∧ (kdT Tryd.prog 3 = some 0) ∧ (ldT Tryd.prog 23 = some none) ∧ (ldT Tryd.prog 25 = some (some 5)) ∧ (ldT Tryd.prog 3 = some none) ∧ (offT Tryd.prog 25 3 = some 3) ∧ (offT Tryd.prog 54 0 = some 0) ∧ (slT Tryd.prog 23 = some (54, 2)) := ⟨eq_true Tryd.call26, tr11, tr31, tr45, tr46, tr49, tr81, tr103, tr137⟩
theorem tf86 : (CallT Tryd.prog 54 = True) ∧ (arT Tryd.prog 170 = some (6, 1, none)) ∧ (kdT Tryd.prog 3 = some 0) ∧ (ldT Tryd.prog 3 = some none) ∧ (offT Tryd.prog 25 0 = some 0) ∧ (offT Tryd.prog 25 1 = some 1) ∧ (placesT Tryd.prog 170 = some [(0, 1), (1, 1), (2, 1), (3, 1), (4, 1), (5, 1)]) ∧ (slT Tryd.prog 170 = none) ∧ (szT Tryd.prog 170 = some 6) ∧ (zeroT Tryd.prog 170 = some [.int .i64 0, .int .i64 0, .int .i64 0, .int .i64 0, .int .i64 0, .int .i64 0]) := ⟨eq_true Tryd.call54, tr8, tr31, tr49, tr78, tr79, tr117, tr134, tr148, tr170⟩
theorem tf87 : (CallT Tryd.prog 56 = True) := eq_true Tryd.call56
theorem tf88 : (kdT Tryd.prog 3 = some 0) ∧ (ldT Tryd.prog 3 = some none) ∧ (offT Tryd.prog 54 0 = some 0) ∧ (offT Tryd.prog 54 1 = some 1) := ⟨tr31, tr49, tr103, tr104⟩
theorem tf89 : (CallT Tryd.prog 56 = True) := eq_true Tryd.call56
theorem tf90 : (CallT Tryd.prog 110 = True) ∧ (kdT Tryd.prog 3 = some 0) := ⟨eq_true Tryd.call110, tr31⟩
theorem tf91 : (CallT Tryd.prog 111 = True) ∧ (kdT Tryd.prog 3 = some 0) := ⟨eq_true Tryd.call111, tr31⟩
theorem tf92 : (CallT Tryd.prog 50 = True) ∧ (CallT Tryd.prog 54 = True) ∧ (CallT Tryd.prog 63 = True) ∧ (kdT Tryd.prog 3 = some 0) ∧ (ldT Tryd.prog 25 = some (some 5)) ∧ (ldT Tryd.prog 3 = some none) ∧ (offT Tryd.prog 29 0 = some 0) ∧ (offT Tryd.prog 29 1 = some 1) ∧ (offT Tryd.prog 29 2 = some 2) ∧ (offT Tryd.prog 29 3 = some 3) ∧ (offT Tryd.prog 29 4 = some 4) := ⟨eq_true Tryd.call50, eq_true Tryd.call54, eq_true Tryd.call63, tr31, tr46, tr49, tr90, tr91, tr92, tr93, tr94⟩
theorem tf93 : (arT Tryd.prog 102 = none) ∧ (kdT Tryd.prog 3 = some 0) ∧ (kdT Tryd.prog 4 = some 1) ∧ (ldT Tryd.prog 4 = some none) ∧ (slT Tryd.prog 102 = some (4, 1)) := ⟨tr0, tr31, tr33, tr54, tr125⟩
theorem tf94 : (CallT Tryd.prog 112 = True) ∧ (elT Tryd.prog 22 = some (3, 1, [.int .i64 0], 8)) ∧ (intT Tryd.prog 3 = some .i64) ∧ (intT Tryd.prog 68 = some .u64) ∧ (kdT Tryd.prog 3 = some 0) ∧ (kdT Tryd.prog 68 = some 0) ∧ (slT Tryd.prog 22 = some (3, 1)) := ⟨eq_true Tryd.call112, tr21, tr28, tr29, tr31, tr34, tr136⟩
theorem tf95 : (arT Tryd.prog 65 = none) ∧ (kdT Tryd.prog 3 = some 0) ∧ (ldT Tryd.prog 27 = some (some 7)) ∧ (slT Tryd.prog 65 = some (27, 7)) := ⟨tr12, tr31, tr47, tr138⟩
theorem tf96 : (elT Tryd.prog 22 = some (3, 1, [.int .i64 0], 8)) ∧ (kdT Tryd.prog 3 = some 0) ∧ (ldT Tryd.prog 148 = some none) ∧ (ldT Tryd.prog 3 = some none) ∧ (slT Tryd.prog 22 = some (3, 1)) := ⟨tr21, tr31, tr39, tr49, tr136⟩
theorem tf97 : (ldT Tryd.prog 148 = some none) := tr39
theorem tf98 : (CallT Tryd.prog 46 = True) ∧ (kdT Tryd.prog 3 = some 0) ∧ (ldT Tryd.prog 3 = some none) ∧ (offT Tryd.prog 54 0 = some 0) ∧ (offT Tryd.prog 54 1 = some 1) ∧ (offT Tryd.prog 77 0 = some 0) ∧ (offT Tryd.prog 77 1 = some 2) := ⟨eq_true Tryd.call46, tr31, tr49, tr103, tr104, tr109, tr110⟩
theorem tf99 : (CallT Tryd.prog 113 = True) ∧ (kdT Tryd.prog 3 = some 0) := ⟨eq_true Tryd.call113, tr31⟩
theorem tf100 : (CallT Tryd.prog 114 = True) ∧ (CallT Tryd.prog 115 = True) ∧ (CallT Tryd.prog 116 = True) ∧ (CallT Tryd.prog 55 = True) ∧ (CallT Tryd.prog 90 = True) ∧ (kdT Tryd.prog 38 = some 0) ∧ (ldT Tryd.prog 22 = some none) ∧ (ldT Tryd.prog 25 = some (some 5)) ∧ (ldT Tryd.prog 98 = some (some 5)) ∧ (offT Tryd.prog 155 0 = some 0) ∧ (offT Tryd.prog 155 1 = some 1) ∧ (offT Tryd.prog 155 2 = some 2) ∧ (placesT Tryd.prog 98 = some [(0, 5)]) ∧ (szT Tryd.prog 98 = some 5) ∧ (zeroT Tryd.prog 98 = some [.int .i64 0, .int .i64 0, .slice none 0 0, .slice none 0 0, .slice none 0 0]) := ⟨eq_true Tryd.call114, eq_true Tryd.call115, eq_true Tryd.call116, eq_true Tryd.call55, eq_true Tryd.call90, tr32, tr44, tr46, tr60, tr69, tr70, tr71, tr124, tr162, tr183⟩
theorem tf101 : (CallT Tryd.prog 102 = True) ∧ (CallT Tryd.prog 103 = True) ∧ (kdT Tryd.prog 3 = some 0) ∧ (ldT Tryd.prog 123 = some (some 6)) ∧ (ldT Tryd.prog 23 = some none) ∧ (ldT Tryd.prog 3 = some none) ∧ (offT Tryd.prog 123 0 = some 0) ∧ (offT Tryd.prog 25 3 = some 3) ∧ (offT Tryd.prog 98 0 = some 0) ∧ (slT Tryd.prog 23 = some (54, 2)) ∧ (szT Tryd.prog 3 = some 1) := ⟨eq_true Tryd.call102, eq_true Tryd.call103, tr31, tr38, tr45, tr49, tr67, tr81, tr111, tr137, tr155⟩
theorem tf102 : (CallT Tryd.prog 117 = True) ∧ (arT Tryd.prog 102 = none) ∧ (elT Tryd.prog 102 = some (4, 1, [.bool false], 1)) ∧ (ldT Tryd.prog 123 = some (some 6)) ∧ (ldT Tryd.prog 22 = some none) ∧ (offT Tryd.prog 123 0 = some 0) ∧ (offT Tryd.prog 25 2 = some 2) ∧ (offT Tryd.prog 98 0 = some 0) ∧ (slT Tryd.prog 102 = some (4, 1)) ∧ (slT Tryd.prog 22 = some (3, 1)) ∧ (szT Tryd.prog 4 = some 1) := ⟨eq_true Tryd.call117, tr0, tr14, tr38, tr44, tr67, tr80, tr111, tr125, tr136, tr159⟩
theorem tf103 : (CallT Tryd.prog 117 = True) ∧ (CallT Tryd.prog 118 = True) ∧ (arT Tryd.prog 102 = none) ∧ (elT Tryd.prog 102 = some (4, 1, [.bool false], 1)) ∧ (kdT Tryd.prog 3 = some 0) ∧ (ldT Tryd.prog 102 = some none) ∧ (ldT Tryd.prog 123 = some (some 6)) ∧ (ldT Tryd.prog 3 = some none) ∧ (ldT Tryd.prog 4 = some none) ∧ (ldT Tryd.prog 98 = some (some 5)) ∧ (offT Tryd.prog 123 0 = some 0) ∧ (slT Tryd.prog 102 = some (4, 1)) ∧ (szT Tryd.prog 102 = some 1) ∧ (szT Tryd.prog 4 = some 1) ∧ (zeroT Tryd.prog 102 = some [.slice none 0 0]) := ⟨eq_true Tryd.call117, eq_true Tryd.call118, tr0, tr14, tr31, tr35, tr38, tr49, tr54, tr60, tr67, tr125, tr140, tr159, tr163⟩
theorem tf104 : (arT Tryd.prog 22 = none) ∧ (arT Tryd.prog 23 = none) ∧ (kdT Tryd.prog 3 = some 0) ∧ (ldT Tryd.prog 22 = some none) ∧ (ldT Tryd.prog 23 = some none) ∧ (ldT Tryd.prog 3 = some none) ∧ (ldT Tryd.prog 54 = some (some 2)) ∧ (offT Tryd.prog 25 2 = some 2) ∧ (offT Tryd.prog 25 3 = some 3) ∧ (offT Tryd.prog 25 4 = some 4) ∧ (offT Tryd.prog 54 0 = some 0) ∧ (offT Tryd.prog 54 1 = some 1) ∧ (offT Tryd.prog 98 0 = some 0) ∧ (placesT Tryd.prog 54 = some [(0, 1), (1, 1)]) ∧ (slT Tryd.prog 22 = some (3, 1)) ∧ (slT Tryd.prog 23 = some (54, 2)) ∧ (szT Tryd.prog 54 = some 2) ∧ (zeroT Tryd.prog 54 = some [.int .i64 0, .int .i64 0]) := ⟨tr10, tr11, tr31, tr44, tr45, tr49, tr55, tr80, tr81, tr82, tr103, tr104, tr111, tr123, tr136, tr137, tr160, tr181⟩
theorem tf105 : (CallT Tryd.prog 56 = True) ∧ (arT Tryd.prog 181 = some (6, 3, some 3)) ∧ (kdT Tryd.prog 3 = some 0) ∧ (ldT Tryd.prog 180 = some (some 3)) ∧ (ldT Tryd.prog 3 = some none) ∧ (offT Tryd.prog 180 0 = some 0) ∧ (offT Tryd.prog 180 1 = some 1) ∧ (offT Tryd.prog 180 2 = some 2) ∧ (offT Tryd.prog 25 0 = some 0) ∧ (offT Tryd.prog 25 1 = some 1) ∧ (offT Tryd.prog 98 0 = some 0) ∧ (slT Tryd.prog 181 = none) ∧ (szT Tryd.prog 180 = some 3) ∧ (zeroT Tryd.prog 180 = some [.int .i64 0, .int .i64 0, .int .i64 0]) := ⟨eq_true Tryd.call56, tr9, tr31, tr43, tr49, tr75, tr76, tr77, tr78, tr79, tr111, tr135, tr149, tr171⟩
theorem tf106 : (CallT Tryd.prog 107 = True) ∧ (arT Tryd.prog 164 = none) ∧ (elT Tryd.prog 163 = some (162, 3, [.int .i64 0, .int .i64 0, .int .i64 0], 24)) ∧ (elT Tryd.prog 164 = some (163, 1, [.slice none 0 0], 24)) ∧ (kdT Tryd.prog 3 = some 0) ∧ (ldT Tryd.prog 22 = some none) ∧ (ldT Tryd.prog 3 = some none) ∧ (ldT Tryd.prog 84 = some none) ∧ (offT Tryd.prog 106 0 = some 0) ∧ (offT Tryd.prog 25 2 = some 2) ∧ (offT Tryd.prog 31 1 = some 1) ∧ (placesT Tryd.prog 162 = some [(0, 1), (1, 1), (2, 1)]) ∧ (slT Tryd.prog 164 = some (163, 1)) ∧ (slT Tryd.prog 22 = some (3, 1)) ∧ (szT Tryd.prog 163 = some 1) ∧ (zeroT Tryd.prog 162 = some [.int .i64 0, .int .i64 0, .int .i64 0]) := ⟨eq_true Tryd.call107, tr6, tr18, tr19, tr31, tr44, tr49, tr59, tr61, tr80, tr96, tr116, tr132, tr136, tr147, tr169⟩
theorem tf107 : (CallT Tryd.prog 112 = True) ∧ (elT Tryd.prog 163 = some (162, 3, [.int .i64 0, .int .i64 0, .int .i64 0], 24)) ∧ (intT Tryd.prog 3 = some .i64) ∧ (intT Tryd.prog 68 = some .u64) ∧ (kdT Tryd.prog 3 = some 0) ∧ (kdT Tryd.prog 68 = some 0) ∧ (slT Tryd.prog 163 = some (162, 3)) := ⟨eq_true Tryd.call112, tr18, tr28, tr29, tr31, tr34, tr131⟩
theorem tf108 : (kdT Tryd.prog 3 = some 0) ∧ (ldT Tryd.prog 3 = some none) ∧ (offT Tryd.prog 31 0 = some 0) ∧ (offT Tryd.prog 31 1 = some 1) := ⟨tr31, tr49, tr95, tr96⟩
theorem tf109 : (CallT Tryd.prog 42 = True) ∧ (CallT Tryd.prog 49 = True) ∧ (CallT Tryd.prog 51 = True) ∧ (CallT Tryd.prog 52 = True) ∧ (CallT Tryd.prog 53 = True) ∧ (arT Tryd.prog 104 = none) ∧ (arT Tryd.prog 168 = none) ∧ (arT Tryd.prog 22 = none) ∧ (elT Tryd.prog 104 = some (22, 1, [.slice none 0 0], 24)) ∧ (elT Tryd.prog 168 = some (104, 1, [.slice none 0 0], 24)) ∧ (elT Tryd.prog 22 = some (3, 1, [.int .i64 0], 8)) ∧ (kdT Tryd.prog 3 = some 0) ∧ (ldT Tryd.prog 104 = some none) ∧ (ldT Tryd.prog 22 = some none) ∧ (ldT Tryd.prog 23 = some none) ∧ (ldT Tryd.prog 25 = some (some 5)) ∧ (ldT Tryd.prog 27 = some (some 7)) ∧ (ldT Tryd.prog 29 = some (some 5)) ∧ (ldT Tryd.prog 3 = some none) ∧ (ldT Tryd.prog 31 = some (some 2)) ∧ (offT Tryd.prog 25 3 = some 3) ∧ (offT Tryd.prog 27 2 = some 2) ∧ (offT Tryd.prog 27 3 = some 3) ∧ (offT Tryd.prog 29 0 = some 0) ∧ (offT Tryd.prog 31 1 = some 1) ∧ (slT Tryd.prog 104 = some (22, 1)) ∧ (slT Tryd.prog 168 = some (104, 1)) ∧ (slT Tryd.prog 22 = some (3, 1)) ∧ (slT Tryd.prog 23 = some (54, 2)) ∧ (szT Tryd.prog 22 = some 1) ∧ (szT Tryd.prog 3 = some 1) := ⟨eq_true Tryd.call42, eq_true Tryd.call49, eq_true Tryd.call51, eq_true Tryd.call52, eq_true Tryd.call53, tr2, tr7, tr10, tr16, tr20, tr21, tr31, tr37, tr44, tr45, tr46, tr47, tr48, tr49, tr50, tr81, tr85, tr86, tr90, tr96, tr127, tr133, tr136, tr137, tr150, tr155⟩
theorem tf110 : (arT Tryd.prog 22 = none) ∧ (kdT Tryd.prog 3 = some 0) ∧ (ldT Tryd.prog 3 = some none) ∧ (slT Tryd.prog 22 = some (3, 1)) := ⟨tr10, tr31, tr49, tr136⟩
theorem tf111 : (arT Tryd.prog 23 = none) ∧ (kdT Tryd.prog 3 = some 0) ∧ (ldT Tryd.prog 54 = some (some 2)) ∧ (slT Tryd.prog 23 = some (54, 2)) := ⟨tr11, tr31, tr55, tr137⟩
theorem tf112 : (CallT Tryd.prog 119 = True) ∧ (CallT Tryd.prog 120 = True) ∧ (intT Tryd.prog 182 = some .u32) ∧ (intT Tryd.prog 68 = some .u64) := ⟨eq_true Tryd.call119, eq_true Tryd.call120, tr26, tr29⟩
theorem tf113 : (arT Tryd.prog 70 = none) ∧ (kdT Tryd.prog 3 = some 0) ∧ (ldT Tryd.prog 77 = some (some 3)) ∧ (slT Tryd.prog 70 = some (77, 3)) := ⟨tr13, tr31, tr58, tr139⟩
theorem tf114 : (CallT Tryd.prog 56 = True) ∧ (kdT Tryd.prog 3 = some 0) ∧ (ldT Tryd.prog 22 = some none) ∧ (offT Tryd.prog 25 2 = some 2) ∧ (slT Tryd.prog 22 = some (3, 1)) := ⟨eq_true Tryd.call56, tr31, tr44, tr80, tr136⟩
theorem tf115 : (CallT Tryd.prog 56 = True) ∧ (kdT Tryd.prog 3 = some 0) ∧ (ldT Tryd.prog 23 = some none) ∧ (offT Tryd.prog 25 3 = some 3) ∧ (slT Tryd.prog 23 = some (54, 2)) := ⟨eq_true Tryd.call56, tr31, tr45, tr81, tr137⟩
theorem tf116 : (CallT Tryd.prog 56 = True) := eq_true Tryd.call56
theorem tf117 : (CallT Tryd.prog 104 = True) ∧ (fldT Tryd.prog 54 0 = some (0, none)) ∧ (kdT Tryd.prog 3 = some 0) ∧ (ldT Tryd.prog 3 = some none) ∧ (ldT Tryd.prog 98 = some (some 5)) ∧ (offT Tryd.prog 123 0 = some 0) ∧ (offT Tryd.prog 123 1 = some 5) := ⟨eq_true Tryd.call104, tr25, tr31, tr49, tr60, tr67, tr68⟩
theorem tf118 : (CallT Tryd.prog 121 = True) := eq_true Tryd.call121
theorem tf119 : (intT Tryd.prog 182 = some .u32) ∧ (intT Tryd.prog 185 = some .u64) ∧ (kdT Tryd.prog 185 = some 0) := ⟨tr26, tr27, tr30⟩
theorem tf120 : (kdT Tryd.prog 185 = some 0) := tr30
theorem tf121 : (CallT Tryd.prog 105 = True) ∧ (kdT Tryd.prog 3 = some 0) ∧ (ldT Tryd.prog 3 = some none) ∧ (ldT Tryd.prog 98 = some (some 5)) := ⟨eq_true Tryd.call105, tr31, tr49, tr60⟩
theorem cT3 : CallT Tryd.prog 3 = True := eq_true Tryd.call3
theorem cT4 : CallT Tryd.prog 4 = True := eq_true Tryd.call4
theorem cT5 : CallT Tryd.prog 5 = True := eq_true Tryd.call5
theorem cT6 : CallT Tryd.prog 6 = True := eq_true Tryd.call6
theorem cT7 : CallT Tryd.prog 7 = True := eq_true Tryd.call7
theorem cT8 : CallT Tryd.prog 8 = True := eq_true Tryd.call8
theorem cT9 : CallT Tryd.prog 9 = True := eq_true Tryd.call9
theorem cT10 : CallT Tryd.prog 10 = True := eq_true Tryd.call10
theorem cT11 : CallT Tryd.prog 11 = True := eq_true Tryd.call11
theorem cT12 : CallT Tryd.prog 12 = True := eq_true Tryd.call12
theorem cT13 : CallT Tryd.prog 13 = True := eq_true Tryd.call13
theorem cT14 : CallT Tryd.prog 14 = True := eq_true Tryd.call14
theorem cT15 : CallT Tryd.prog 15 = True := eq_true Tryd.call15
theorem cT16 : CallT Tryd.prog 16 = True := eq_true Tryd.call16
theorem cT17 : CallT Tryd.prog 17 = True := eq_true Tryd.call17
theorem cT18 : CallT Tryd.prog 18 = True := eq_true Tryd.call18
theorem cT19 : CallT Tryd.prog 19 = True := eq_true Tryd.call19
theorem cT20 : CallT Tryd.prog 20 = True := eq_true Tryd.call20
theorem cT21 : CallT Tryd.prog 21 = True := eq_true Tryd.call21
theorem cT22 : CallT Tryd.prog 22 = True := eq_true Tryd.call22
theorem cT23 : CallT Tryd.prog 23 = True := eq_true Tryd.call23
theorem cT24 : CallT Tryd.prog 24 = True := eq_true Tryd.call24
theorem cT25 : CallT Tryd.prog 25 = True := eq_true Tryd.call25
theorem cT26 : CallT Tryd.prog 26 = True := eq_true Tryd.call26
theorem cT27 : CallT Tryd.prog 27 = True := eq_true Tryd.call27
theorem cT28 : CallT Tryd.prog 28 = True := eq_true Tryd.call28
theorem cT29 : CallT Tryd.prog 29 = True := eq_true Tryd.call29
theorem cT30 : CallT Tryd.prog 30 = True := eq_true Tryd.call30
theorem cT31 : CallT Tryd.prog 31 = True := eq_true Tryd.call31
theorem cT32 : CallT Tryd.prog 32 = True := eq_true Tryd.call32
theorem cT33 : CallT Tryd.prog 33 = True := eq_true Tryd.call33
theorem cT34 : CallT Tryd.prog 34 = True := eq_true Tryd.call34
theorem cT35 : CallT Tryd.prog 35 = True := eq_true Tryd.call35
theorem cT36 : CallT Tryd.prog 36 = True := eq_true Tryd.call36
theorem cT37 : CallT Tryd.prog 37 = True := eq_true Tryd.call37
theorem cT38 : CallT Tryd.prog 38 = True := eq_true Tryd.call38
theorem cT39 : CallT Tryd.prog 39 = True := eq_true Tryd.call39
theorem cT40 : CallT Tryd.prog 40 = True := eq_true Tryd.call40
theorem cT41 : CallT Tryd.prog 41 = True := eq_true Tryd.call41
theorem cT42 : CallT Tryd.prog 42 = True := eq_true Tryd.call42
theorem cT43 : CallT Tryd.prog 43 = True := eq_true Tryd.call43
theorem cT44 : CallT Tryd.prog 44 = True := eq_true Tryd.call44
theorem cT45 : CallT Tryd.prog 45 = True := eq_true Tryd.call45
theorem cT46 : CallT Tryd.prog 46 = True := eq_true Tryd.call46
theorem cT47 : CallT Tryd.prog 47 = True := eq_true Tryd.call47
theorem cT48 : CallT Tryd.prog 48 = True := eq_true Tryd.call48
theorem cT49 : CallT Tryd.prog 49 = True := eq_true Tryd.call49
theorem cT50 : CallT Tryd.prog 50 = True := eq_true Tryd.call50
theorem cT51 : CallT Tryd.prog 51 = True := eq_true Tryd.call51
theorem cT52 : CallT Tryd.prog 52 = True := eq_true Tryd.call52
theorem cT53 : CallT Tryd.prog 53 = True := eq_true Tryd.call53
theorem cT54 : CallT Tryd.prog 54 = True := eq_true Tryd.call54
theorem cT55 : CallT Tryd.prog 55 = True := eq_true Tryd.call55
theorem cT56 : CallT Tryd.prog 56 = True := eq_true Tryd.call56
theorem cT57 : CallT Tryd.prog 57 = True := eq_true Tryd.call57
theorem cT58 : CallT Tryd.prog 58 = True := eq_true Tryd.call58
theorem cT59 : CallT Tryd.prog 59 = True := eq_true Tryd.call59
theorem cT60 : CallT Tryd.prog 60 = True := eq_true Tryd.call60
theorem cT61 : CallT Tryd.prog 61 = True := eq_true Tryd.call61
theorem cT62 : CallT Tryd.prog 62 = True := eq_true Tryd.call62
theorem cT63 : CallT Tryd.prog 63 = True := eq_true Tryd.call63
theorem cT64 : CallT Tryd.prog 64 = True := eq_true Tryd.call64
theorem cT65 : CallT Tryd.prog 65 = True := eq_true Tryd.call65
theorem cT66 : CallT Tryd.prog 66 = True := eq_true Tryd.call66
theorem cT67 : CallT Tryd.prog 67 = True := eq_true Tryd.call67
theorem cT68 : CallT Tryd.prog 68 = True := eq_true Tryd.call68
theorem cT69 : CallT Tryd.prog 69 = True := eq_true Tryd.call69
theorem cT70 : CallT Tryd.prog 70 = True := eq_true Tryd.call70
theorem cT71 : CallT Tryd.prog 71 = True := eq_true Tryd.call71
theorem cT72 : CallT Tryd.prog 72 = True := eq_true Tryd.call72
theorem cT73 : CallT Tryd.prog 73 = True := eq_true Tryd.call73
theorem cT74 : CallT Tryd.prog 74 = True := eq_true Tryd.call74
theorem cT75 : CallT Tryd.prog 75 = True := eq_true Tryd.call75
theorem cT76 : CallT Tryd.prog 76 = True := eq_true Tryd.call76
theorem cT77 : CallT Tryd.prog 77 = True := eq_true Tryd.call77
theorem cT78 : CallT Tryd.prog 78 = True := eq_true Tryd.call78
theorem cT79 : CallT Tryd.prog 79 = True := eq_true Tryd.call79
theorem cT80 : CallT Tryd.prog 80 = True := eq_true Tryd.call80
theorem cT81 : CallT Tryd.prog 81 = True := eq_true Tryd.call81
theorem cT82 : CallT Tryd.prog 82 = True := eq_true Tryd.call82
theorem cT83 : CallT Tryd.prog 83 = True := eq_true Tryd.call83
theorem cT84 : CallT Tryd.prog 84 = True := eq_true Tryd.call84
theorem cT85 : CallT Tryd.prog 85 = True := eq_true Tryd.call85
theorem cT86 : CallT Tryd.prog 86 = True := eq_true Tryd.call86
theorem cT87 : CallT Tryd.prog 87 = True := eq_true Tryd.call87
theorem cT88 : CallT Tryd.prog 88 = True := eq_true Tryd.call88
theorem cT89 : CallT Tryd.prog 89 = True := eq_true Tryd.call89
theorem cT90 : CallT Tryd.prog 90 = True := eq_true Tryd.call90
theorem cT91 : CallT Tryd.prog 91 = True := eq_true Tryd.call91
theorem cT92 : CallT Tryd.prog 92 = True := eq_true Tryd.call92
theorem cT93 : CallT Tryd.prog 93 = True := eq_true Tryd.call93
theorem cT94 : CallT Tryd.prog 94 = True := eq_true Tryd.call94
theorem cT95 : CallT Tryd.prog 95 = True := eq_true Tryd.call95
theorem cT96 : CallT Tryd.prog 96 = True := eq_true Tryd.call96
theorem cT97 : CallT Tryd.prog 97 = True := eq_true Tryd.call97
theorem cT98 : CallT Tryd.prog 98 = True := eq_true Tryd.call98
theorem cT99 : CallT Tryd.prog 99 = True := eq_true Tryd.call99
theorem cT100 : CallT Tryd.prog 100 = True := eq_true Tryd.call100
theorem cT101 : CallT Tryd.prog 101 = True := eq_true Tryd.call101
theorem cT102 : CallT Tryd.prog 102 = True := eq_true Tryd.call102
theorem cT103 : CallT Tryd.prog 103 = True := eq_true Tryd.call103
theorem cT104 : CallT Tryd.prog 104 = True := eq_true Tryd.call104
theorem cT105 : CallT Tryd.prog 105 = True := eq_true Tryd.call105
theorem cT106 : CallT Tryd.prog 106 = True := eq_true Tryd.call106
theorem cT107 : CallT Tryd.prog 107 = True := eq_true Tryd.call107
theorem cT108 : CallT Tryd.prog 108 = True := eq_true Tryd.call108
theorem cT109 : CallT Tryd.prog 109 = True := eq_true Tryd.call109
theorem cT110 : CallT Tryd.prog 110 = True := eq_true Tryd.call110
theorem cT111 : CallT Tryd.prog 111 = True := eq_true Tryd.call111
theorem cT112 : CallT Tryd.prog 112 = True := eq_true Tryd.call112
theorem cT113 : CallT Tryd.prog 113 = True := eq_true Tryd.call113
theorem cT114 : CallT Tryd.prog 114 = True := eq_true Tryd.call114
theorem cT115 : CallT Tryd.prog 115 = True := eq_true Tryd.call115
theorem cT116 : CallT Tryd.prog 116 = True := eq_true Tryd.call116
theorem cT117 : CallT Tryd.prog 117 = True := eq_true Tryd.call117
theorem cT118 : CallT Tryd.prog 118 = True := eq_true Tryd.call118
theorem cT119 : CallT Tryd.prog 119 = True := eq_true Tryd.call119
theorem cT120 : CallT Tryd.prog 120 = True := eq_true Tryd.call120
theorem cT121 : CallT Tryd.prog 121 = True := eq_true Tryd.call121
theorem res3 : Tryd.f3.results.toList = [.tmp 6] := by kernel_rfl
theorem res4 : Tryd.f4.results.toList = [.tmp 6] := by kernel_rfl
theorem res5 : Tryd.f5.results.toList = [.tmp 8] := by kernel_rfl
theorem res6 : Tryd.f6.results.toList = [.tmp 8] := by kernel_rfl
theorem res7 : Tryd.f7.results.toList = [.tmp 8] := by kernel_rfl
theorem res8 : Tryd.f8.results.toList = [.tmp 6] := by kernel_rfl
theorem res9 : Tryd.f9.results.toList = [.tmp 4] := by kernel_rfl
theorem res10 : Tryd.f10.results.toList = [.tmp 6] := by kernel_rfl
theorem res11 : Tryd.f11.results.toList = [.tmp 4] := by kernel_rfl
theorem res12 : Tryd.f12.results.toList = [.tmp 8] := by kernel_rfl
theorem res13 : Tryd.f13.results.toList = [.tmp 6] := by kernel_rfl
theorem res14 : Tryd.f14.results.toList = [.tmp 2] := by kernel_rfl
theorem res15 : Tryd.f15.results.toList = [.tmp 0] := by kernel_rfl
theorem res16 : Tryd.f16.results.toList = [.tmp 12, .cell 13 37, .tmp 14] := by kernel_rfl
theorem res17 : Tryd.f17.results.toList = [.cell 2 25] := by kernel_rfl
theorem res18 : Tryd.f18.results.toList = [.tmp 12, .tmp 13, .tmp 14, .tmp 15] := by kernel_rfl
theorem res19 : Tryd.f19.results.toList = [.tmp 12, .tmp 13] := by kernel_rfl
theorem res20 : Tryd.f20.results.toList = [.tmp 2] := by kernel_rfl
theorem res21 : Tryd.f21.results.toList = [.tmp 12, .tmp 13] := by kernel_rfl
theorem res22 : Tryd.f22.results.toList = [.tmp 12, .tmp 13] := by kernel_rfl
theorem res23 : Tryd.f23.results.toList = [.tmp 4] := by kernel_rfl
theorem res24 : Tryd.f24.results.toList = [.tmp 6] := by kernel_rfl
theorem res25 : Tryd.f25.results.toList = [.tmp 4, .tmp 5, .tmp 6] := by kernel_rfl
theorem res26 : Tryd.f26.results.toList = [.tmp 8] := by kernel_rfl
theorem res27 : Tryd.f27.results.toList = [.tmp 12] := by kernel_rfl
theorem res28 : Tryd.f28.results.toList = [.tmp 6, .tmp 7] := by kernel_rfl
theorem res29 : Tryd.f29.results.toList = [.tmp 6, .tmp 7] := by kernel_rfl
theorem res30 : Tryd.f30.results.toList = [.tmp 2] := by kernel_rfl
theorem res31 : Tryd.f31.results.toList = [.tmp 2] := by kernel_rfl
theorem res32 : Tryd.f32.results.toList = [.tmp 8, .tmp 9] := by kernel_rfl
theorem res33 : Tryd.f33.results.toList = [.tmp 8, .tmp 9] := by kernel_rfl
theorem res34 : Tryd.f34.results.toList = [.cell 4 22, .cell 5 38] := by kernel_rfl
theorem res35 : Tryd.f35.results.toList = [.tmp 4, .tmp 5] := by kernel_rfl
theorem res36 : Tryd.f36.results.toList = [.tmp 4, .tmp 5, .tmp 6] := by kernel_rfl
theorem res37 : Tryd.f37.results.toList = [.tmp 4, .tmp 5, .tmp 6] := by kernel_rfl
theorem res38 : Tryd.f38.results.toList = [.cell 4 22, .cell 5 38] := by kernel_rfl
theorem res39 : Tryd.f39.results.toList = [.tmp 4, .tmp 5] := by kernel_rfl
theorem res40 : Tryd.f40.results.toList = [.tmp 4] := by kernel_rfl
theorem res41 : Tryd.f41.results.toList = [.tmp 8, .tmp 9] := by kernel_rfl
theorem res42 : Tryd.f42.results.toList = [.tmp 2] := by kernel_rfl
theorem res43 : Tryd.f43.results.toList = [.cell 0 27, .cell 1 29] := by kernel_rfl
theorem res44 : Tryd.f44.results.toList = [.cell 0 25] := by kernel_rfl
theorem res45 : Tryd.f45.results.toList = [.tmp 10, .tmp 11] := by kernel_rfl
theorem res46 : Tryd.f46.results.toList = [.tmp 6] := by kernel_rfl
theorem res47 : Tryd.f47.results.toList = [.tmp 8, .cell 9 37] := by kernel_rfl
theorem res48 : Tryd.f48.results.toList = [.tmp 12, .tmp 13, .tmp 14] := by kernel_rfl
theorem res49 : Tryd.f49.results.toList = [.tmp 8] := by kernel_rfl
theorem res50 : Tryd.f50.results.toList = [.tmp 4] := by kernel_rfl
theorem res51 : Tryd.f51.results.toList = [.tmp 8] := by kernel_rfl
theorem res52 : Tryd.f52.results.toList = [.tmp 6] := by kernel_rfl
theorem res53 : Tryd.f53.results.toList = [.tmp 4] := by kernel_rfl
theorem res54 : Tryd.f54.results.toList = [.tmp 6] := by kernel_rfl
theorem res55 : Tryd.f55.results.toList = [.tmp 2] := by kernel_rfl
theorem res56 : Tryd.f56.results.toList = [.tmp 6] := by kernel_rfl
theorem res57 : Tryd.f57.results.toList = [.tmp 4] := by kernel_rfl
theorem res58 : Tryd.f58.results.toList = [.tmp 6] := by kernel_rfl
theorem res59 : Tryd.f59.results.toList = [.tmp 4] := by kernel_rfl
theorem res60 : Tryd.f60.results.toList = [.tmp 6] := by kernel_rfl
theorem res61 : Tryd.f61.results.toList = [.tmp 4] := by kernel_rfl
theorem res62 : Tryd.f62.results.toList = [.tmp 4] := by kernel_rfl
theorem res63 : Tryd.f63.results.toList = [.tmp 2] := by kernel_rfl
theorem res64 : Tryd.f64.results.toList = [.tmp 4] := by kernel_rfl
theorem res65 : Tryd.f65.results.toList = [.tmp 8] := by kernel_rfl
theorem res66 : Tryd.f66.results.toList = [.tmp 4] := by kernel_rfl
theorem res67 : Tryd.f67.results.toList = [.tmp 2] := by kernel_rfl
theorem res68 : Tryd.f68.results.toList = [.tmp 4] := by kernel_rfl
theorem res69 : Tryd.f69.results.toList = [.tmp 4] := by kernel_rfl
theorem res70 : Tryd.f70.results.toList = [.tmp 4] := by kernel_rfl
theorem res71 : Tryd.f71.results.toList = [.tmp 4] := by kernel_rfl
theorem res72 : Tryd.f72.results.toList = [.tmp 4] := by kernel_rfl
theorem res73 : Tryd.f73.results.toList = [.tmp 2, .tmp 3] := by kernel_rfl
theorem res74 : Tryd.f74.results.toList = [.tmp 4] := by kernel_rfl
theorem res75 : Tryd.f75.results.toList = [.cell 8 123, .tmp 9] := by kernel_rfl
theorem res76 : Tryd.f76.results.toList = [.tmp 4] := by kernel_rfl
theorem res77 : Tryd.f77.results.toList = [.tmp 6] := by kernel_rfl
theorem res78 : Tryd.f78.results.toList = [] := by kernel_rfl
theorem res79 : Tryd.f79.results.toList = [.tmp 8, .tmp 9, .tmp 10] := by kernel_rfl
theorem res80 : Tryd.f80.results.toList = [.tmp 6, .tmp 7] := by kernel_rfl
theorem res81 : Tryd.f81.results.toList = [.cell 8 37, .tmp 9] := by kernel_rfl
theorem res82 : Tryd.f82.results.toList = [.tmp 6] := by kernel_rfl
theorem res83 : Tryd.f83.results.toList = [.tmp 10, .tmp 11] := by kernel_rfl
theorem res84 : Tryd.f84.results.toList = [.tmp 8] := by kernel_rfl
theorem res85 : Tryd.f85.results.toList = [.tmp 8] := by kernel_rfl
theorem res86 : Tryd.f86.results.toList = [.tmp 6, .tmp 7] := by kernel_rfl
theorem res87 : Tryd.f87.results.toList = [.tmp 2] := by kernel_rfl
theorem res88 : Tryd.f88.results.toList = [.tmp 2] := by kernel_rfl
theorem res89 : Tryd.f89.results.toList = [.tmp 2] := by kernel_rfl
theorem res90 : Tryd.f90.results.toList = [.tmp 4] := by kernel_rfl
theorem res91 : Tryd.f91.results.toList = [.tmp 4] := by kernel_rfl
theorem res92 : Tryd.f92.results.toList = [.tmp 4] := by kernel_rfl
theorem res93 : Tryd.f93.results.toList = [.tmp 4] := by kernel_rfl
theorem res94 : Tryd.f94.results.toList = [.tmp 4] := by kernel_rfl
theorem res95 : Tryd.f95.results.toList = [.tmp 4] := by kernel_rfl
theorem res96 : Tryd.f96.results.toList = [.tmp 9] := by kernel_rfl
theorem res97 : Tryd.f97.results.toList = [] := by kernel_rfl
theorem res98 : Tryd.f98.results.toList = [.tmp 2] := by kernel_rfl
theorem res99 : Tryd.f99.results.toList = [.tmp 4] := by kernel_rfl
theorem res100 : Tryd.f100.results.toList = [.cell 4 98, .tmp 5] := by kernel_rfl
theorem res101 : Tryd.f101.results.toList = [] := by kernel_rfl
theorem res102 : Tryd.f102.results.toList = [.tmp 6] := by kernel_rfl
theorem res103 : Tryd.f103.results.toList = [.tmp 6] := by kernel_rfl
theorem res104 : Tryd.f104.results.toList = [.cell 6 54] := by kernel_rfl
theorem res105 : Tryd.f105.results.toList = [.tmp 6, .tmp 7] := by kernel_rfl
theorem res106 : Tryd.f106.results.toList = [.tmp 2] := by kernel_rfl
theorem res107 : Tryd.f107.results.toList = [.tmp 4] := by kernel_rfl
theorem res108 : Tryd.f108.results.toList = [.tmp 6] := by kernel_rfl
theorem res109 : Tryd.f109.results.toList = [.tmp 10] := by kernel_rfl
theorem res110 : Tryd.f110.results.toList = [.tmp 4] := by kernel_rfl
theorem res111 : Tryd.f111.results.toList = [.tmp 4] := by kernel_rfl
theorem res112 : Tryd.f112.results.toList = [.tmp 4, .tmp 5] := by kernel_rfl
theorem res113 : Tryd.f113.results.toList = [.tmp 4] := by kernel_rfl
theorem res114 : Tryd.f114.results.toList = [.tmp 3] := by kernel_rfl
theorem res115 : Tryd.f115.results.toList = [.tmp 3] := by kernel_rfl
theorem res116 : Tryd.f116.results.toList = [.tmp 2] := by kernel_rfl
theorem res117 : Tryd.f117.results.toList = [.tmp 6] := by kernel_rfl
theorem res118 : Tryd.f118.results.toList = [.tmp 4] := by kernel_rfl
theorem res119 : Tryd.f119.results.toList = [.tmp 4, .tmp 5] := by kernel_rfl
theorem res120 : Tryd.f120.results.toList = [.tmp 4, .tmp 5] := by kernel_rfl
theorem res121 : Tryd.f121.results.toList = [] := by kernel_rfl

noncomputable abbrev EV (w : World) (X : Nat → Prop) (re : List Nat) (ord : List (Nat × Plan)) (det : Nat → List Value → Option Value) (cuts : List Nat) : Env := { P := Tryd.prog, w0 := ⟨w, X⟩, re := re, ord := ord, det := det, cuts := cuts }

abbrev I (n : Int) : Value := .int .i64 n

theorem mixed_prog : Tryd.prog.follows .mixedOrders = true := by kernel_rfl

theorem walkC {f : Nat} {fn : Func} {c : Code} {args : List Value} {n : Nat} {rs : List ResultVar} {Post : Value → List HO → Prop} {w : World} {X : Nat → Prop} (cuts : List Nat) (re : List Nat) (ord : List (Nat × Plan)) {det : Nat → List Value → Option Value} (hD : DetFn Tryd.prog ⟨w, X⟩ det)
    (hf : Tryd.prog.funcs[f]? = some fn) (hb : fn.body = some c) (hn : fn.ntmps = n) (hr : fn.results.toList = rs) (hok : codeB ord c = true) {H0 : List HO}
    (h0 : (∀ h ∈ H0, h.ok w) ∧ (∀ h ∈ H0, ∀ b, h.fp b → X b) ∧ H0.Pairwise Apart)
    (h : W (EV w X re ord det cuts) c (retQ (EV w X re ord det cuts) rs Post) (args.map SV.v ++ List.replicate (n - args.length) (.v undef)) [] H0) : SX.Fn Tryd.prog f args w X Post := by
  subst hn hr
  exact SX.Fn.intro (E := EV w X re ord det cuts) hf hb trivial hD mixed_prog hok h0 h

theorem walk {f : Nat} {fn : Func} {c : Code} {args : List Value} {n : Nat} {rs : List ResultVar} {Post : Value → List HO → Prop} {w : World} {X : Nat → Prop} (re : List Nat) (ord : List (Nat × Plan)) {det : Nat → List Value → Option Value} (hD : DetFn Tryd.prog ⟨w, X⟩ det)
    (hf : Tryd.prog.funcs[f]? = some fn) (hb : fn.body = some c) (hn : fn.ntmps = n) (hr : fn.results.toList = rs) (hok : codeB ord c = true) {H0 : List HO}
    (h0 : (∀ h ∈ H0, h.ok w) ∧ (∀ h ∈ H0, ∀ b, h.fp b → X b) ∧ H0.Pairwise Apart)
    (h : W (EV w X re ord det []) c (retQ (EV w X re ord det []) rs Post) (args.map SV.v ++ List.replicate (n - args.length) (.v undef)) [] H0) : SX.Fn Tryd.prog f args w X Post :=
  walkC [] re ord hD hf hb hn hr hok h0 h

theorem walkIterR {gf : Nat} {fn : Func} {c : Code} {pre post : List Value} {nt n : Nat} {arg : Nat → List Value → List HO → Prop} {w : World} (Rs : Nat → Prop) (re : List Nat) (ord : List (Nat × Plan)) {det : Nat → List Value → Option Value} (hD : ∀ X, (∀ b, Rs b → ¬ X b) → DetFn Tryd.prog ⟨w, X⟩ det)
    (hf : Tryd.prog.funcs[gf]? = some fn) (hb : fn.body = some c) (hn : fn.ntmps = nt) (hr : fn.results.toList = []) (hok : codeB ord c = true)
    (h : ∀ l J C R, (∀ b, Rs b → ¬ (C b ∨ False)) → Handler Tryd.prog l n arg w C (fun _ => False) J → W (EV w (fun b => C b ∨ False) re ord det []) c (retQ (EV w (fun b => C b ∨ False) re ord det []) [] (iterPost n J)) ((pre ++ [Value.func (.yield l) #[] #[]] ++ post).map SV.v ++ List.replicate (nt - (pre ++ [Value.func (.yield l) #[] #[]] ++ post).length) (.v undef)) [] [consu J (some 0) C R]) :
    Iter Tryd.prog gf pre post n arg (fun _ => False) Rs w := by
  refine Iter.intro fun l J C R hRs hH hk => ?_
  have hRs' : ∀ b, Rs b → ¬ (C b ∨ False) := fun b hb hc => hc.elim (hRs b hb) id
  have hw := h l J C R hRs' hH
  rw [← hr] at hw
  subst hn
  exact Fn.introZ (E := EV w (fun b => C b ∨ False) re ord det []) (fun b => C b ∨ R b) hf hb trivial (hD _ hRs') mixed_prog hok ⟨fun g hg => by rw [List.mem_singleton] at hg; subst hg; exact hk, fun g hg b => by rw [List.mem_singleton] at hg; subst hg; exact ⟨id, fun x => .inl x⟩, List.pairwise_singleton _ _⟩ hw

theorem walkIter {gf : Nat} {fn : Func} {c : Code} {pre post : List Value} {nt n : Nat} {arg : Nat → List Value → List HO → Prop} {w : World} (re : List Nat) (ord : List (Nat × Plan)) {det : Nat → List Value → Option Value} (hD : ∀ X, DetFn Tryd.prog ⟨w, X⟩ det)
    (hf : Tryd.prog.funcs[gf]? = some fn) (hb : fn.body = some c) (hn : fn.ntmps = nt) (hr : fn.results.toList = []) (hok : codeB ord c = true)
    (h : ∀ l J C R, Handler Tryd.prog l n arg w C (fun _ => False) J → W (EV w (fun b => C b ∨ False) re ord det []) c (retQ (EV w (fun b => C b ∨ False) re ord det []) [] (iterPost n J)) ((pre ++ [Value.func (.yield l) #[] #[]] ++ post).map SV.v ++ List.replicate (nt - (pre ++ [Value.func (.yield l) #[] #[]] ++ post).length) (.v undef)) [] [consu J (some 0) C R]) :
    Iter Tryd.prog gf pre post n arg (fun _ => False) (fun _ => False) w :=
  walkIterR _ re ord (fun X _ => hD X) hf hb hn hr hok fun l J C R _ => h l J C R

theorem no_facts {w : World} {X : Nat → Prop} : (∀ h ∈ ([] : List HO), h.ok w) ∧ (∀ h ∈ ([] : List HO), ∀ b, h.fp b → X b) ∧ ([] : List HO).Pairwise Apart := ⟨by simp, by simp, List.Pairwise.nil⟩

theorem wrap_id {n : Int} (h : -9223372036854775808 ≤ n ∧ n ≤ 9223372036854775807) : IntKind.i64.wrap n = n := by
  rw [IntKind.wrap_i64]
  omega

end Go.Proofs.YtcnlbnccbnapbaaDoor

