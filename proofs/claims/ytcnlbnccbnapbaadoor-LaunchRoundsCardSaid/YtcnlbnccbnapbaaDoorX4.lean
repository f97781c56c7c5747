/- Parts of a proof: the symbolic walk and what it shows of single functions. -/
import Derived.Test.YtcnlbnccbnapbaaDoorRows
import Derived.Test.YtcnlbnccbnapbaaDoorX3
set_option linter.all false
namespace Go.Proofs.YtcnlbnccbnapbaaDoor
open Go.RowKit Go.SX
set_option maxRecDepth 4000
theorem tr0 : arT Tryd.prog 102 = none := by kernel_rfl
theorem tr1 : arT Tryd.prog 103 = none := by kernel_rfl
theorem tr2 : arT Tryd.prog 104 = none := by kernel_rfl
theorem tr4 : arT Tryd.prog 135 = none := by kernel_rfl
theorem tr5 : arT Tryd.prog 163 = none := by kernel_rfl
theorem tr6 : arT Tryd.prog 164 = none := by kernel_rfl
theorem tr7 : arT Tryd.prog 168 = none := by kernel_rfl
theorem tr8 : arT Tryd.prog 170 = some (6, 1, none) := by kernel_rfl
theorem tr9 : arT Tryd.prog 181 = some (6, 3, some 3) := by kernel_rfl
theorem tr10 : arT Tryd.prog 22 = none := by kernel_rfl
theorem tr11 : arT Tryd.prog 23 = none := by kernel_rfl
theorem tr14 : elT Tryd.prog 102 = some (4, 1, [.bool false], 1) := by kernel_rfl
theorem tr15 : elT Tryd.prog 103 = some (102, 1, [.slice none 0 0], 24) := by kernel_rfl
theorem tr16 : elT Tryd.prog 104 = some (22, 1, [.slice none 0 0], 24) := by kernel_rfl
theorem tr17 : elT Tryd.prog 135 = some (164, 1, [.slice none 0 0], 24) := by kernel_rfl
theorem tr18 : elT Tryd.prog 163 = some (162, 3, [.int .i64 0, .int .i64 0, .int .i64 0], 24) := by kernel_rfl
theorem tr19 : elT Tryd.prog 164 = some (163, 1, [.slice none 0 0], 24) := by kernel_rfl
theorem tr20 : elT Tryd.prog 168 = some (104, 1, [.slice none 0 0], 24) := by kernel_rfl
theorem tr21 : elT Tryd.prog 22 = some (3, 1, [.int .i64 0], 8) := by kernel_rfl
theorem tr22 : elT Tryd.prog 23 = some (54, 2, [.int .i64 0, .int .i64 0], 16) := by kernel_rfl
theorem tr26 : intT Tryd.prog 182 = some .u32 := by kernel_rfl
theorem tr28 : intT Tryd.prog 3 = some .i64 := by kernel_rfl
theorem tr29 : intT Tryd.prog 68 = some .u64 := by kernel_rfl
theorem tr30 : kdT Tryd.prog 185 = some 0 := by kernel_rfl
theorem tr31 : kdT Tryd.prog 3 = some 0 := by kernel_rfl
theorem tr32 : kdT Tryd.prog 38 = some 0 := by kernel_rfl
theorem tr33 : kdT Tryd.prog 4 = some 1 := by kernel_rfl
theorem tr34 : kdT Tryd.prog 68 = some 0 := by kernel_rfl
theorem tr35 : ldT Tryd.prog 102 = some none := by kernel_rfl
theorem tr36 : ldT Tryd.prog 103 = some none := by kernel_rfl
theorem tr37 : ldT Tryd.prog 104 = some none := by kernel_rfl
theorem tr40 : ldT Tryd.prog 162 = some (some 3) := by kernel_rfl
theorem tr41 : ldT Tryd.prog 163 = some none := by kernel_rfl
theorem tr42 : ldT Tryd.prog 164 = some none := by kernel_rfl
theorem tr43 : ldT Tryd.prog 180 = some (some 3) := by kernel_rfl
theorem tr44 : ldT Tryd.prog 22 = some none := by kernel_rfl
theorem tr45 : ldT Tryd.prog 23 = some none := by kernel_rfl
theorem tr46 : ldT Tryd.prog 25 = some (some 5) := by kernel_rfl
theorem tr47 : ldT Tryd.prog 27 = some (some 7) := by kernel_rfl
theorem tr48 : ldT Tryd.prog 29 = some (some 5) := by kernel_rfl
theorem tr49 : ldT Tryd.prog 3 = some none := by kernel_rfl
theorem tr50 : ldT Tryd.prog 31 = some (some 2) := by kernel_rfl
theorem tr52 : ldT Tryd.prog 37 = some (some 2) := by kernel_rfl
theorem tr54 : ldT Tryd.prog 4 = some none := by kernel_rfl
theorem tr55 : ldT Tryd.prog 54 = some (some 2) := by kernel_rfl
theorem tr59 : ldT Tryd.prog 84 = some none := by kernel_rfl
theorem tr60 : ldT Tryd.prog 98 = some (some 5) := by kernel_rfl
theorem tr61 : offT Tryd.prog 106 0 = some 0 := by kernel_rfl
theorem tr62 : offT Tryd.prog 106 1 = some 5 := by kernel_rfl
theorem tr63 : offT Tryd.prog 106 2 = some 12 := by kernel_rfl
theorem tr64 : offT Tryd.prog 106 3 = some 13 := by kernel_rfl
theorem tr65 : offT Tryd.prog 106 4 = some 14 := by kernel_rfl
theorem tr66 : offT Tryd.prog 106 5 = some 15 := by kernel_rfl
theorem tr69 : offT Tryd.prog 155 0 = some 0 := by kernel_rfl
theorem tr70 : offT Tryd.prog 155 1 = some 1 := by kernel_rfl
theorem tr71 : offT Tryd.prog 155 2 = some 2 := by kernel_rfl
theorem tr72 : offT Tryd.prog 162 0 = some 0 := by kernel_rfl
theorem tr73 : offT Tryd.prog 162 1 = some 1 := by kernel_rfl
theorem tr74 : offT Tryd.prog 162 2 = some 2 := by kernel_rfl
theorem tr75 : offT Tryd.prog 180 0 = some 0 := by kernel_rfl
theorem tr76 : offT Tryd.prog 180 1 = some 1 := by kernel_rfl
theorem tr77 : offT Tryd.prog 180 2 = some 2 := by kernel_rfl
theorem tr78 : offT Tryd.prog 25 0 = some 0 := by kernel_rfl
theorem tr79 : offT Tryd.prog 25 1 = some 1 := by kernel_rfl
theorem tr80 : offT Tryd.prog 25 2 = some 2 := by kernel_rfl
theorem tr81 : offT Tryd.prog 25 3 = some 3 := by kernel_rfl
theorem tr82 : offT Tryd.prog 25 4 = some 4 := by kernel_rfl
theorem tr83 : offT Tryd.prog 27 0 = some 0 := by kernel_rfl
theorem tr84 : offT Tryd.prog 27 1 = some 1 := by kernel_rfl
theorem tr85 : offT Tryd.prog 27 2 = some 2 := by kernel_rfl
theorem tr86 : offT Tryd.prog 27 3 = some 3 := by kernel_rfl
theorem tr87 : offT Tryd.prog 27 4 = some 4 := by kernel_rfl
theorem tr88 : offT Tryd.prog 27 5 = some 5 := by kernel_rfl
theorem tr89 : offT Tryd.prog 27 6 = some 6 := by kernel_rfl
theorem tr90 : offT Tryd.prog 29 0 = some 0 := by kernel_rfl
theorem tr91 : offT Tryd.prog 29 1 = some 1 := by kernel_rfl
theorem tr92 : offT Tryd.prog 29 2 = some 2 := by kernel_rfl
theorem tr93 : offT Tryd.prog 29 3 = some 3 := by kernel_rfl
theorem tr94 : offT Tryd.prog 29 4 = some 4 := by kernel_rfl
theorem tr95 : offT Tryd.prog 31 0 = some 0 := by kernel_rfl
theorem tr96 : offT Tryd.prog 31 1 = some 1 := by kernel_rfl
theorem tr97 : offT Tryd.prog 33 0 = some 0 := by kernel_rfl
theorem tr98 : offT Tryd.prog 33 1 = some 5 := by kernel_rfl
theorem tr99 : offT Tryd.prog 33 2 = some 6 := by kernel_rfl
theorem tr100 : offT Tryd.prog 33 3 = some 7 := by kernel_rfl
theorem tr101 : offT Tryd.prog 37 0 = some 0 := by kernel_rfl
theorem tr102 : offT Tryd.prog 37 1 = some 1 := by kernel_rfl
theorem tr103 : offT Tryd.prog 54 0 = some 0 := by kernel_rfl
theorem tr104 : offT Tryd.prog 54 1 = some 1 := by kernel_rfl
theorem tr111 : offT Tryd.prog 98 0 = some 0 := by kernel_rfl
theorem tr112 : placesT Tryd.prog 106 = some [(0, 5), (5, 7), (12, 1), (13, 1), (14, 1), (15, 1)] := by kernel_rfl
theorem tr113 : placesT Tryd.prog 107 = some [(0, 1), (1, 1), (2, 1), (3, 1), (4, 1), (5, 1), (6, 1)] := by kernel_rfl
theorem tr115 : placesT Tryd.prog 155 = some [(0, 1), (1, 1), (2, 1)] := by kernel_rfl
theorem tr116 : placesT Tryd.prog 162 = some [(0, 1), (1, 1), (2, 1)] := by kernel_rfl
theorem tr117 : placesT Tryd.prog 170 = some [(0, 1), (1, 1), (2, 1), (3, 1), (4, 1), (5, 1)] := by kernel_rfl
theorem tr118 : placesT Tryd.prog 25 = some [(0, 1), (1, 1), (2, 1), (3, 1), (4, 1)] := by kernel_rfl
theorem tr119 : placesT Tryd.prog 27 = some [(0, 1), (1, 1), (2, 1), (3, 1), (4, 1), (5, 1), (6, 1)] := by kernel_rfl
theorem tr120 : placesT Tryd.prog 29 = some [(0, 1), (1, 1), (2, 1), (3, 1), (4, 1)] := by kernel_rfl
theorem tr121 : placesT Tryd.prog 31 = some [(0, 1), (1, 1)] := by kernel_rfl
theorem tr122 : placesT Tryd.prog 37 = some [(0, 1), (1, 1)] := by kernel_rfl
theorem tr123 : placesT Tryd.prog 54 = some [(0, 1), (1, 1)] := by kernel_rfl
theorem tr124 : placesT Tryd.prog 98 = some [(0, 5)] := by kernel_rfl
theorem tr125 : slT Tryd.prog 102 = some (4, 1) := by kernel_rfl
theorem tr126 : slT Tryd.prog 103 = some (102, 1) := by kernel_rfl
theorem tr127 : slT Tryd.prog 104 = some (22, 1) := by kernel_rfl
theorem tr128 : slT Tryd.prog 107 = none := by kernel_rfl
theorem tr130 : slT Tryd.prog 135 = some (164, 1) := by kernel_rfl
theorem tr131 : slT Tryd.prog 163 = some (162, 3) := by kernel_rfl
theorem tr132 : slT Tryd.prog 164 = some (163, 1) := by kernel_rfl
theorem tr133 : slT Tryd.prog 168 = some (104, 1) := by kernel_rfl
theorem tr134 : slT Tryd.prog 170 = none := by kernel_rfl
theorem tr135 : slT Tryd.prog 181 = none := by kernel_rfl
theorem tr136 : slT Tryd.prog 22 = some (3, 1) := by kernel_rfl
theorem tr137 : slT Tryd.prog 23 = some (54, 2) := by kernel_rfl
theorem tr141 : szT Tryd.prog 103 = some 1 := by kernel_rfl
theorem tr142 : szT Tryd.prog 104 = some 1 := by kernel_rfl
theorem tr143 : szT Tryd.prog 107 = some 7 := by kernel_rfl
theorem tr146 : szT Tryd.prog 162 = some 3 := by kernel_rfl
theorem tr147 : szT Tryd.prog 163 = some 1 := by kernel_rfl
theorem tr148 : szT Tryd.prog 170 = some 6 := by kernel_rfl
theorem tr149 : szT Tryd.prog 180 = some 3 := by kernel_rfl
theorem tr150 : szT Tryd.prog 22 = some 1 := by kernel_rfl
theorem tr151 : szT Tryd.prog 23 = some 1 := by kernel_rfl
theorem tr152 : szT Tryd.prog 25 = some 5 := by kernel_rfl
theorem tr153 : szT Tryd.prog 27 = some 7 := by kernel_rfl
theorem tr154 : szT Tryd.prog 29 = some 5 := by kernel_rfl
theorem tr155 : szT Tryd.prog 3 = some 1 := by kernel_rfl
theorem tr157 : szT Tryd.prog 37 = some 2 := by kernel_rfl
theorem tr159 : szT Tryd.prog 4 = some 1 := by kernel_rfl
theorem tr160 : szT Tryd.prog 54 = some 2 := by kernel_rfl
theorem tr162 : szT Tryd.prog 98 = some 5 := by kernel_rfl
theorem tr164 : zeroT Tryd.prog 106 = some [.int .i64 0, .int .i64 0, .slice none 0 0, .slice none 0 0, .slice none 0 0, .int .i64 0, .int .i64 0, .int .i64 0, .int .i64 0, .int .i64 0, .int .i64 0, .int .i64 0, .int .i64 0, .slice none 0 0, .slice none 0 0, .slice none 0 0] := by kernel_rfl
theorem tr165 : zeroT Tryd.prog 107 = some [.bool false, .bool false, .bool false, .bool false, .bool false, .bool false, .bool false] := by kernel_rfl
theorem tr168 : zeroT Tryd.prog 155 = some [.slice none 0 0, .slice none 0 0, .slice none 0 0] := by kernel_rfl
theorem tr169 : zeroT Tryd.prog 162 = some [.int .i64 0, .int .i64 0, .int .i64 0] := by kernel_rfl
theorem tr170 : zeroT Tryd.prog 170 = some [.int .i64 0, .int .i64 0, .int .i64 0, .int .i64 0, .int .i64 0, .int .i64 0] := by kernel_rfl
theorem tr171 : zeroT Tryd.prog 180 = some [.int .i64 0, .int .i64 0, .int .i64 0] := by kernel_rfl
theorem tr173 : zeroT Tryd.prog 25 = some [.int .i64 0, .int .i64 0, .slice none 0 0, .slice none 0 0, .slice none 0 0] := by kernel_rfl
theorem tr174 : zeroT Tryd.prog 27 = some [.int .i64 0, .int .i64 0, .int .i64 0, .int .i64 0, .int .i64 0, .int .i64 0, .int .i64 0] := by kernel_rfl
theorem tr175 : zeroT Tryd.prog 29 = some [.int .i64 0, .int .i64 0, .int .i64 0, .int .i64 0, .int .i64 0] := by kernel_rfl
theorem tr177 : zeroT Tryd.prog 31 = some [.int .i64 0, .int .i64 0] := by kernel_rfl
theorem tr179 : zeroT Tryd.prog 37 = some [.slice none 0 0, .int .i64 0] := by kernel_rfl
theorem tr181 : zeroT Tryd.prog 54 = some [.int .i64 0, .int .i64 0] := by kernel_rfl
theorem tr183 : zeroT Tryd.prog 98 = some [.int .i64 0, .int .i64 0, .slice none 0 0, .slice none 0 0, .slice none 0 0] := by kernel_rfl
theorem tf3 : (CallT Tryd.prog 14 = True) ∧ (CallT Tryd.prog 15 = True) ∧ (CallT Tryd.prog 16 = True) ∧ (CallT Tryd.prog 17 = True) ∧ (CallT Tryd.prog 18 = True) ∧ (CallT Tryd.prog 19 = True) ∧ (kdT Tryd.prog 3 = some 0) ∧ (kdT Tryd.prog 38 = some 0) ∧ (ldT Tryd.prog 22 = some none) ∧ (ldT Tryd.prog 25 = some (some 5)) ∧ (ldT Tryd.prog 27 = some (some 7)) ∧ (ldT Tryd.prog 29 = some (some 5)) ∧ (ldT Tryd.prog 3 = some none) ∧ (ldT Tryd.prog 31 = some (some 2)) ∧ (offT Tryd.prog 33 0 = some 0) ∧ (offT Tryd.prog 33 1 = some 5) ∧ (offT Tryd.prog 33 2 = some 6) ∧ (offT Tryd.prog 33 3 = some 7) ∧ (offT Tryd.prog 37 0 = some 0) ∧ (offT Tryd.prog 37 1 = some 1) ∧ (slT Tryd.prog 22 = some (3, 1)) ∧ (szT Tryd.prog 37 = some 2) ∧ (zeroT Tryd.prog 37 = some [.slice none 0 0, .int .i64 0]) := ⟨eq_true Tryd.call14, eq_true Tryd.call15, eq_true Tryd.call16, eq_true Tryd.call17, eq_true Tryd.call18, eq_true Tryd.call19, tr31, tr32, tr44, tr46, tr47, tr48, tr49, tr50, tr97, tr98, tr99, tr100, tr101, tr102, tr136, tr157, tr179⟩
theorem tf4 : (CallT Tryd.prog 14 = True) ∧ (CallT Tryd.prog 15 = True) ∧ (CallT Tryd.prog 17 = True) ∧ (CallT Tryd.prog 20 = True) ∧ (CallT Tryd.prog 21 = True) ∧ (CallT Tryd.prog 22 = True) ∧ (CallT Tryd.prog 23 = True) ∧ (kdT Tryd.prog 3 = some 0) ∧ (kdT Tryd.prog 38 = some 0) ∧ (ldT Tryd.prog 23 = some none) ∧ (ldT Tryd.prog 25 = some (some 5)) ∧ (ldT Tryd.prog 27 = some (some 7)) ∧ (ldT Tryd.prog 29 = some (some 5)) ∧ (ldT Tryd.prog 3 = some none) ∧ (offT Tryd.prog 25 0 = some 0) ∧ (offT Tryd.prog 25 1 = some 1) ∧ (offT Tryd.prog 25 3 = some 3) ∧ (offT Tryd.prog 31 1 = some 1) ∧ (offT Tryd.prog 33 0 = some 0) ∧ (offT Tryd.prog 33 1 = some 5) ∧ (offT Tryd.prog 33 2 = some 6) ∧ (offT Tryd.prog 33 3 = some 7) ∧ (slT Tryd.prog 23 = some (54, 2)) := ⟨eq_true Tryd.call14, eq_true Tryd.call15, eq_true Tryd.call17, eq_true Tryd.call20, eq_true Tryd.call21, eq_true Tryd.call22, eq_true Tryd.call23, tr31, tr32, tr45, tr46, tr47, tr48, tr49, tr78, tr79, tr81, tr96, tr97, tr98, tr99, tr100, tr137⟩
theorem tf14 : (CallT Tryd.prog 20 = True) ∧ (kdT Tryd.prog 3 = some 0) ∧ (kdT Tryd.prog 38 = some 0) ∧ (ldT Tryd.prog 22 = some none) ∧ (ldT Tryd.prog 23 = some none) ∧ (ldT Tryd.prog 25 = some (some 5)) ∧ (ldT Tryd.prog 3 = some none) ∧ (offT Tryd.prog 25 0 = some 0) ∧ (offT Tryd.prog 25 1 = some 1) ∧ (offT Tryd.prog 25 2 = some 2) ∧ (offT Tryd.prog 25 3 = some 3) ∧ (offT Tryd.prog 25 4 = some 4) ∧ (slT Tryd.prog 22 = some (3, 1)) ∧ (slT Tryd.prog 23 = some (54, 2)) := ⟨eq_true Tryd.call20, tr31, tr32, tr44, tr45, tr46, tr49, tr78, tr79, tr80, tr81, tr82, tr136, tr137⟩
theorem tf15 : (CallT Tryd.prog 16 = True) ∧ (CallT Tryd.prog 21 = True) ∧ (CallT Tryd.prog 23 = True) ∧ (CallT Tryd.prog 43 = True) ∧ (CallT Tryd.prog 44 = True) ∧ (elT Tryd.prog 22 = some (3, 1, [.int .i64 0], 8)) ∧ (kdT Tryd.prog 3 = some 0) ∧ (kdT Tryd.prog 38 = some 0) ∧ (ldT Tryd.prog 22 = some none) ∧ (ldT Tryd.prog 25 = some (some 5)) ∧ (ldT Tryd.prog 27 = some (some 7)) ∧ (ldT Tryd.prog 29 = some (some 5)) ∧ (ldT Tryd.prog 3 = some none) ∧ (offT Tryd.prog 37 0 = some 0) ∧ (offT Tryd.prog 37 1 = some 1) ∧ (placesT Tryd.prog 31 = some [(0, 1), (1, 1)]) ∧ (szT Tryd.prog 25 = some 5) ∧ (szT Tryd.prog 27 = some 7) ∧ (szT Tryd.prog 29 = some 5) ∧ (szT Tryd.prog 37 = some 2) ∧ (zeroT Tryd.prog 25 = some [.int .i64 0, .int .i64 0, .slice none 0 0, .slice none 0 0, .slice none 0 0]) ∧ (zeroT Tryd.prog 27 = some [.int .i64 0, .int .i64 0, .int .i64 0, .int .i64 0, .int .i64 0, .int .i64 0, .int .i64 0]) ∧ (zeroT Tryd.prog 29 = some [.int .i64 0, .int .i64 0, .int .i64 0, .int .i64 0, .int .i64 0]) ∧ (zeroT Tryd.prog 31 = some [.int .i64 0, .int .i64 0]) ∧ (zeroT Tryd.prog 37 = some [.slice none 0 0, .int .i64 0]) := ⟨eq_true Tryd.call16, eq_true Tryd.call21, eq_true Tryd.call23, eq_true Tryd.call43, eq_true Tryd.call44, tr21, tr31, tr32, tr44, tr46, tr47, tr48, tr49, tr101, tr102, tr121, tr152, tr153, tr154, tr157, tr173, tr174, tr175, tr177, tr179⟩
theorem tf16 : (CallT Tryd.prog 45 = True) ∧ (CallT Tryd.prog 46 = True) ∧ (CallT Tryd.prog 47 = True) ∧ (kdT Tryd.prog 3 = some 0) ∧ (kdT Tryd.prog 38 = some 0) ∧ (ldT Tryd.prog 22 = some none) ∧ (ldT Tryd.prog 25 = some (some 5)) ∧ (ldT Tryd.prog 27 = some (some 7)) ∧ (ldT Tryd.prog 29 = some (some 5)) ∧ (ldT Tryd.prog 3 = some none) ∧ (ldT Tryd.prog 31 = some (some 2)) ∧ (ldT Tryd.prog 37 = some (some 2)) ∧ (offT Tryd.prog 25 2 = some 2) ∧ (offT Tryd.prog 31 0 = some 0) ∧ (offT Tryd.prog 31 1 = some 1) ∧ (slT Tryd.prog 22 = some (3, 1)) ∧ (szT Tryd.prog 37 = some 2) ∧ (zeroT Tryd.prog 37 = some [.slice none 0 0, .int .i64 0]) := ⟨eq_true Tryd.call45, eq_true Tryd.call46, eq_true Tryd.call47, tr31, tr32, tr44, tr46, tr47, tr48, tr49, tr50, tr52, tr80, tr95, tr96, tr136, tr157, tr179⟩
theorem tf17 : (elT Tryd.prog 22 = some (3, 1, [.int .i64 0], 8)) ∧ (elT Tryd.prog 23 = some (54, 2, [.int .i64 0, .int .i64 0], 16)) ∧ (ldT Tryd.prog 22 = some none) ∧ (ldT Tryd.prog 23 = some none) ∧ (ldT Tryd.prog 25 = some (some 5)) ∧ (offT Tryd.prog 25 2 = some 2) ∧ (offT Tryd.prog 25 3 = some 3) ∧ (offT Tryd.prog 25 4 = some 4) ∧ (szT Tryd.prog 22 = some 1) ∧ (szT Tryd.prog 23 = some 1) ∧ (szT Tryd.prog 25 = some 5) ∧ (zeroT Tryd.prog 25 = some [.int .i64 0, .int .i64 0, .slice none 0 0, .slice none 0 0, .slice none 0 0]) := ⟨tr21, tr22, tr44, tr45, tr46, tr80, tr81, tr82, tr150, tr151, tr152, tr173⟩
theorem tf18 : (CallT Tryd.prog 27 = True) ∧ (CallT Tryd.prog 48 = True) ∧ (kdT Tryd.prog 38 = some 0) ∧ (ldT Tryd.prog 25 = some (some 5)) ∧ (ldT Tryd.prog 27 = some (some 7)) ∧ (ldT Tryd.prog 29 = some (some 5)) ∧ (ldT Tryd.prog 31 = some (some 2)) := ⟨eq_true Tryd.call27, eq_true Tryd.call48, tr32, tr46, tr47, tr48, tr50⟩
theorem tf19 : (CallT Tryd.prog 49 = True) ∧ (CallT Tryd.prog 50 = True) ∧ (CallT Tryd.prog 51 = True) ∧ (CallT Tryd.prog 52 = True) ∧ (CallT Tryd.prog 53 = True) ∧ (arT Tryd.prog 22 = none) ∧ (kdT Tryd.prog 3 = some 0) ∧ (ldT Tryd.prog 23 = some none) ∧ (ldT Tryd.prog 25 = some (some 5)) ∧ (ldT Tryd.prog 27 = some (some 7)) ∧ (ldT Tryd.prog 29 = some (some 5)) ∧ (ldT Tryd.prog 3 = some none) ∧ (ldT Tryd.prog 31 = some (some 2)) ∧ (offT Tryd.prog 25 3 = some 3) ∧ (offT Tryd.prog 27 2 = some 2) ∧ (offT Tryd.prog 27 3 = some 3) ∧ (offT Tryd.prog 29 0 = some 0) ∧ (offT Tryd.prog 31 1 = some 1) ∧ (slT Tryd.prog 22 = some (3, 1)) ∧ (slT Tryd.prog 23 = some (54, 2)) := ⟨eq_true Tryd.call49, eq_true Tryd.call50, eq_true Tryd.call51, eq_true Tryd.call52, eq_true Tryd.call53, tr10, tr31, tr45, tr46, tr47, tr48, tr49, tr50, tr81, tr85, tr86, tr90, tr96, tr136, tr137⟩
theorem tf20 : (CallT Tryd.prog 54 = True) ∧ (arT Tryd.prog 22 = none) ∧ (arT Tryd.prog 23 = none) ∧ (kdT Tryd.prog 3 = some 0) ∧ (ldT Tryd.prog 22 = some none) ∧ (ldT Tryd.prog 23 = some none) ∧ (ldT Tryd.prog 3 = some none) ∧ (offT Tryd.prog 25 0 = some 0) ∧ (offT Tryd.prog 25 1 = some 1) ∧ (offT Tryd.prog 25 2 = some 2) ∧ (offT Tryd.prog 25 3 = some 3) ∧ (offT Tryd.prog 25 4 = some 4) ∧ (offT Tryd.prog 54 0 = some 0) ∧ (offT Tryd.prog 54 1 = some 1) ∧ (slT Tryd.prog 22 = some (3, 1)) ∧ (slT Tryd.prog 23 = some (54, 2)) := ⟨eq_true Tryd.call54, tr10, tr11, tr31, tr44, tr45, tr49, tr78, tr79, tr80, tr81, tr82, tr103, tr104, tr136, tr137⟩
theorem tf21 : (CallT Tryd.prog 45 = True) ∧ (CallT Tryd.prog 46 = True) ∧ (CallT Tryd.prog 47 = True) ∧ (arT Tryd.prog 22 = none) ∧ (elT Tryd.prog 22 = some (3, 1, [.int .i64 0], 8)) ∧ (kdT Tryd.prog 3 = some 0) ∧ (kdT Tryd.prog 38 = some 0) ∧ (ldT Tryd.prog 22 = some none) ∧ (ldT Tryd.prog 25 = some (some 5)) ∧ (ldT Tryd.prog 27 = some (some 7)) ∧ (ldT Tryd.prog 29 = some (some 5)) ∧ (offT Tryd.prog 25 2 = some 2) ∧ (placesT Tryd.prog 31 = some [(0, 1), (1, 1)]) ∧ (slT Tryd.prog 22 = some (3, 1)) ∧ (szT Tryd.prog 3 = some 1) ∧ (zeroT Tryd.prog 31 = some [.int .i64 0, .int .i64 0]) := ⟨eq_true Tryd.call45, eq_true Tryd.call46, eq_true Tryd.call47, tr10, tr21, tr31, tr32, tr44, tr46, tr47, tr48, tr80, tr121, tr136, tr155, tr177⟩
theorem tf22 : (CallT Tryd.prog 27 = True) ∧ (CallT Tryd.prog 42 = True) ∧ (CallT Tryd.prog 48 = True) ∧ (elT Tryd.prog 22 = some (3, 1, [.int .i64 0], 8)) ∧ (kdT Tryd.prog 3 = some 0) ∧ (kdT Tryd.prog 38 = some 0) ∧ (ldT Tryd.prog 25 = some (some 5)) ∧ (ldT Tryd.prog 27 = some (some 7)) ∧ (ldT Tryd.prog 29 = some (some 5)) ∧ (placesT Tryd.prog 31 = some [(0, 1), (1, 1)]) ∧ (zeroT Tryd.prog 31 = some [.int .i64 0, .int .i64 0]) := ⟨eq_true Tryd.call27, eq_true Tryd.call42, eq_true Tryd.call48, tr21, tr31, tr32, tr46, tr47, tr48, tr121, tr177⟩
theorem tf23 : (arT Tryd.prog 22 = none) ∧ (kdT Tryd.prog 3 = some 0) ∧ (ldT Tryd.prog 3 = some none) ∧ (slT Tryd.prog 22 = some (3, 1)) := ⟨tr10, tr31, tr49, tr136⟩
theorem tf25 : (CallT Tryd.prog 55 = True) ∧ (CallT Tryd.prog 56 = True) ∧ (CallT Tryd.prog 57 = True) ∧ (arT Tryd.prog 22 = none) ∧ (arT Tryd.prog 23 = none) ∧ (kdT Tryd.prog 3 = some 0) ∧ (kdT Tryd.prog 38 = some 0) ∧ (ldT Tryd.prog 22 = some none) ∧ (ldT Tryd.prog 23 = some none) ∧ (ldT Tryd.prog 25 = some (some 5)) ∧ (ldT Tryd.prog 3 = some none) ∧ (ldT Tryd.prog 54 = some (some 2)) ∧ (offT Tryd.prog 25 2 = some 2) ∧ (offT Tryd.prog 25 3 = some 3) ∧ (offT Tryd.prog 25 4 = some 4) ∧ (offT Tryd.prog 29 0 = some 0) ∧ (offT Tryd.prog 29 1 = some 1) ∧ (offT Tryd.prog 29 2 = some 2) ∧ (offT Tryd.prog 29 3 = some 3) ∧ (offT Tryd.prog 29 4 = some 4) ∧ (offT Tryd.prog 54 0 = some 0) ∧ (offT Tryd.prog 54 1 = some 1) ∧ (offT Tryd.prog 98 0 = some 0) ∧ (placesT Tryd.prog 98 = some [(0, 5)]) ∧ (slT Tryd.prog 22 = some (3, 1)) ∧ (slT Tryd.prog 23 = some (54, 2)) ∧ (szT Tryd.prog 54 = some 2) ∧ (szT Tryd.prog 98 = some 5) ∧ (zeroT Tryd.prog 54 = some [.int .i64 0, .int .i64 0]) ∧ (zeroT Tryd.prog 98 = some [.int .i64 0, .int .i64 0, .slice none 0 0, .slice none 0 0, .slice none 0 0]) := ⟨eq_true Tryd.call55, eq_true Tryd.call56, eq_true Tryd.call57, tr10, tr11, tr31, tr32, tr44, tr45, tr46, tr49, tr55, tr80, tr81, tr82, tr90, tr91, tr92, tr93, tr94, tr103, tr104, tr111, tr124, tr136, tr137, tr160, tr162, tr181, tr183⟩
theorem tf26 : (arT Tryd.prog 22 = none) ∧ (kdT Tryd.prog 3 = some 0) ∧ (ldT Tryd.prog 22 = some none) ∧ (ldT Tryd.prog 3 = some none) ∧ (offT Tryd.prog 25 2 = some 2) ∧ (offT Tryd.prog 25 4 = some 4) ∧ (slT Tryd.prog 22 = some (3, 1)) := ⟨tr10, tr31, tr44, tr49, tr80, tr82, tr136⟩
theorem tf27 : (CallT Tryd.prog 58 = True) ∧ (CallT Tryd.prog 59 = True) ∧ (CallT Tryd.prog 60 = True) ∧ (CallT Tryd.prog 61 = True) ∧ (kdT Tryd.prog 38 = some 0) ∧ (ldT Tryd.prog 25 = some (some 5)) ∧ (ldT Tryd.prog 27 = some (some 7)) ∧ (ldT Tryd.prog 29 = some (some 5)) ∧ (ldT Tryd.prog 31 = some (some 2)) := ⟨eq_true Tryd.call58, eq_true Tryd.call59, eq_true Tryd.call60, eq_true Tryd.call61, tr32, tr46, tr47, tr48, tr50⟩
theorem tf30 : (CallT Tryd.prog 46 = True) ∧ (CallT Tryd.prog 62 = True) ∧ (ldT Tryd.prog 3 = some none) ∧ (offT Tryd.prog 27 0 = some 0) ∧ (offT Tryd.prog 27 1 = some 1) ∧ (offT Tryd.prog 27 2 = some 2) ∧ (offT Tryd.prog 27 3 = some 3) ∧ (offT Tryd.prog 27 4 = some 4) ∧ (offT Tryd.prog 27 5 = some 5) ∧ (offT Tryd.prog 27 6 = some 6) ∧ (placesT Tryd.prog 107 = some [(0, 1), (1, 1), (2, 1), (3, 1), (4, 1), (5, 1), (6, 1)]) ∧ (slT Tryd.prog 107 = none) ∧ (szT Tryd.prog 107 = some 7) ∧ (zeroT Tryd.prog 107 = some [.bool false, .bool false, .bool false, .bool false, .bool false, .bool false, .bool false]) := ⟨eq_true Tryd.call46, eq_true Tryd.call62, tr49, tr83, tr84, tr85, tr86, tr87, tr88, tr89, tr113, tr128, tr143, tr165⟩
theorem tf31 : (CallT Tryd.prog 60 = True) ∧ (CallT Tryd.prog 63 = True) ∧ (ldT Tryd.prog 3 = some none) ∧ (offT Tryd.prog 27 0 = some 0) ∧ (offT Tryd.prog 27 1 = some 1) ∧ (offT Tryd.prog 27 2 = some 2) ∧ (offT Tryd.prog 27 3 = some 3) ∧ (offT Tryd.prog 27 4 = some 4) ∧ (offT Tryd.prog 27 5 = some 5) ∧ (offT Tryd.prog 27 6 = some 6) := ⟨eq_true Tryd.call60, eq_true Tryd.call63, tr49, tr83, tr84, tr85, tr86, tr87, tr88, tr89⟩
theorem tf42 : (kdT Tryd.prog 3 = some 0) ∧ (ldT Tryd.prog 3 = some none) ∧ (offT Tryd.prog 25 0 = some 0) ∧ (offT Tryd.prog 25 1 = some 1) := ⟨tr31, tr49, tr78, tr79⟩
theorem tf43 : (ldT Tryd.prog 27 = some (some 7)) ∧ (ldT Tryd.prog 29 = some (some 5)) ∧ (placesT Tryd.prog 27 = some [(0, 1), (1, 1), (2, 1), (3, 1), (4, 1), (5, 1), (6, 1)]) ∧ (placesT Tryd.prog 29 = some [(0, 1), (1, 1), (2, 1), (3, 1), (4, 1)]) ∧ (szT Tryd.prog 27 = some 7) ∧ (szT Tryd.prog 29 = some 5) ∧ (zeroT Tryd.prog 27 = some [.int .i64 0, .int .i64 0, .int .i64 0, .int .i64 0, .int .i64 0, .int .i64 0, .int .i64 0]) ∧ (zeroT Tryd.prog 29 = some [.int .i64 0, .int .i64 0, .int .i64 0, .int .i64 0, .int .i64 0]) := ⟨tr47, tr48, tr119, tr120, tr153, tr154, tr174, tr175⟩
theorem tf44 : (elT Tryd.prog 22 = some (3, 1, [.int .i64 0], 8)) ∧ (elT Tryd.prog 23 = some (54, 2, [.int .i64 0, .int .i64 0], 16)) ∧ (ldT Tryd.prog 25 = some (some 5)) ∧ (placesT Tryd.prog 25 = some [(0, 1), (1, 1), (2, 1), (3, 1), (4, 1)]) ∧ (placesT Tryd.prog 54 = some [(0, 1), (1, 1)]) ∧ (szT Tryd.prog 25 = some 5) ∧ (zeroT Tryd.prog 25 = some [.int .i64 0, .int .i64 0, .slice none 0 0, .slice none 0 0, .slice none 0 0]) ∧ (zeroT Tryd.prog 54 = some [.int .i64 0, .int .i64 0]) := ⟨tr21, tr22, tr46, tr118, tr123, tr152, tr173, tr181⟩
theorem tf45 : (CallT Tryd.prog 25 = True) ∧ (CallT Tryd.prog 30 = True) ∧ (CallT Tryd.prog 46 = True) ∧ (CallT Tryd.prog 55 = True) ∧ (CallT Tryd.prog 79 = True) ∧ (CallT Tryd.prog 80 = True) ∧ (arT Tryd.prog 102 = none) ∧ (arT Tryd.prog 22 = none) ∧ (arT Tryd.prog 23 = none) ∧ (elT Tryd.prog 102 = some (4, 1, [.bool false], 1)) ∧ (elT Tryd.prog 103 = some (102, 1, [.slice none 0 0], 24)) ∧ (elT Tryd.prog 104 = some (22, 1, [.slice none 0 0], 24)) ∧ (elT Tryd.prog 22 = some (3, 1, [.int .i64 0], 8)) ∧ (kdT Tryd.prog 3 = some 0) ∧ (kdT Tryd.prog 38 = some 0) ∧ (ldT Tryd.prog 102 = some none) ∧ (ldT Tryd.prog 103 = some none) ∧ (ldT Tryd.prog 104 = some none) ∧ (ldT Tryd.prog 22 = some none) ∧ (ldT Tryd.prog 23 = some none) ∧ (ldT Tryd.prog 25 = some (some 5)) ∧ (ldT Tryd.prog 27 = some (some 7)) ∧ (ldT Tryd.prog 29 = some (some 5)) ∧ (ldT Tryd.prog 3 = some none) ∧ (ldT Tryd.prog 54 = some (some 2)) ∧ (offT Tryd.prog 106 3 = some 13) ∧ (offT Tryd.prog 106 4 = some 14) ∧ (offT Tryd.prog 106 5 = some 15) ∧ (offT Tryd.prog 25 2 = some 2) ∧ (offT Tryd.prog 25 3 = some 3) ∧ (offT Tryd.prog 25 4 = some 4) ∧ (offT Tryd.prog 27 0 = some 0) ∧ (offT Tryd.prog 27 1 = some 1) ∧ (offT Tryd.prog 29 0 = some 0) ∧ (offT Tryd.prog 29 1 = some 1) ∧ (offT Tryd.prog 54 0 = some 0) ∧ (offT Tryd.prog 54 1 = some 1) ∧ (placesT Tryd.prog 106 = some [(0, 5), (5, 7), (12, 1), (13, 1), (14, 1), (15, 1)]) ∧ (slT Tryd.prog 102 = some (4, 1)) ∧ (slT Tryd.prog 22 = some (3, 1)) ∧ (slT Tryd.prog 23 = some (54, 2)) ∧ (szT Tryd.prog 103 = some 1) ∧ (szT Tryd.prog 104 = some 1) ∧ (szT Tryd.prog 3 = some 1) ∧ (szT Tryd.prog 4 = some 1) ∧ (szT Tryd.prog 54 = some 2) ∧ (zeroT Tryd.prog 106 = some [.int .i64 0, .int .i64 0, .slice none 0 0, .slice none 0 0, .slice none 0 0, .int .i64 0, .int .i64 0, .int .i64 0, .int .i64 0, .int .i64 0, .int .i64 0, .int .i64 0, .int .i64 0, .slice none 0 0, .slice none 0 0, .slice none 0 0]) ∧ (zeroT Tryd.prog 54 = some [.int .i64 0, .int .i64 0]) := ⟨eq_true Tryd.call25, eq_true Tryd.call30, eq_true Tryd.call46, eq_true Tryd.call55, eq_true Tryd.call79, eq_true Tryd.call80, tr0, tr10, tr11, tr14, tr15, tr16, tr21, tr31, tr32, tr35, tr36, tr37, tr44, tr45, tr46, tr47, tr48, tr49, tr55, tr64, tr65, tr66, tr80, tr81, tr82, tr83, tr84, tr90, tr91, tr103, tr104, tr112, tr125, tr136, tr137, tr141, tr142, tr155, tr159, tr160, tr164, tr181⟩
theorem tf46 : (kdT Tryd.prog 3 = some 0) := tr31
theorem tf47 : (CallT Tryd.prog 64 = True) ∧ (CallT Tryd.prog 81 = True) ∧ (CallT Tryd.prog 82 = True) ∧ (arT Tryd.prog 102 = none) ∧ (arT Tryd.prog 22 = none) ∧ (kdT Tryd.prog 3 = some 0) ∧ (ldT Tryd.prog 102 = some none) ∧ (ldT Tryd.prog 3 = some none) ∧ (ldT Tryd.prog 31 = some (some 2)) ∧ (ldT Tryd.prog 37 = some (some 2)) ∧ (ldT Tryd.prog 4 = some none) ∧ (offT Tryd.prog 106 1 = some 5) ∧ (offT Tryd.prog 106 3 = some 13) ∧ (offT Tryd.prog 27 4 = some 4) ∧ (offT Tryd.prog 31 0 = some 0) ∧ (offT Tryd.prog 37 1 = some 1) ∧ (placesT Tryd.prog 37 = some [(0, 1), (1, 1)]) ∧ (slT Tryd.prog 102 = some (4, 1)) ∧ (slT Tryd.prog 22 = some (3, 1)) ∧ (szT Tryd.prog 37 = some 2) ∧ (zeroT Tryd.prog 37 = some [.slice none 0 0, .int .i64 0]) := ⟨eq_true Tryd.call64, eq_true Tryd.call81, eq_true Tryd.call82, tr0, tr10, tr31, tr35, tr49, tr50, tr52, tr54, tr62, tr64, tr87, tr95, tr102, tr122, tr125, tr136, tr157, tr179⟩
theorem tf48 : (CallT Tryd.prog 49 = True) ∧ (CallT Tryd.prog 65 = True) ∧ (CallT Tryd.prog 83 = True) ∧ (arT Tryd.prog 22 = none) ∧ (kdT Tryd.prog 3 = some 0) ∧ (ldT Tryd.prog 25 = some (some 5)) ∧ (ldT Tryd.prog 27 = some (some 7)) ∧ (ldT Tryd.prog 29 = some (some 5)) ∧ (ldT Tryd.prog 3 = some none) ∧ (ldT Tryd.prog 31 = some (some 2)) ∧ (offT Tryd.prog 27 4 = some 4) ∧ (offT Tryd.prog 31 0 = some 0) ∧ (slT Tryd.prog 22 = some (3, 1)) := ⟨eq_true Tryd.call49, eq_true Tryd.call65, eq_true Tryd.call83, tr10, tr31, tr46, tr47, tr48, tr49, tr50, tr87, tr95, tr136⟩
theorem tf49 : (CallT Tryd.prog 84 = True) ∧ (arT Tryd.prog 22 = none) ∧ (arT Tryd.prog 23 = none) ∧ (kdT Tryd.prog 3 = some 0) ∧ (ldT Tryd.prog 22 = some none) ∧ (ldT Tryd.prog 23 = some none) ∧ (ldT Tryd.prog 25 = some (some 5)) ∧ (ldT Tryd.prog 29 = some (some 5)) ∧ (ldT Tryd.prog 3 = some none) ∧ (offT Tryd.prog 25 3 = some 3) ∧ (offT Tryd.prog 25 4 = some 4) ∧ (offT Tryd.prog 27 0 = some 0) ∧ (offT Tryd.prog 27 1 = some 1) ∧ (offT Tryd.prog 29 1 = some 1) ∧ (offT Tryd.prog 54 0 = some 0) ∧ (offT Tryd.prog 54 1 = some 1) ∧ (slT Tryd.prog 22 = some (3, 1)) ∧ (slT Tryd.prog 23 = some (54, 2)) ∧ (szT Tryd.prog 3 = some 1) := ⟨eq_true Tryd.call84, tr10, tr11, tr31, tr44, tr45, tr46, tr48, tr49, tr81, tr82, tr83, tr84, tr91, tr103, tr104, tr136, tr137, tr155⟩
theorem tf50 : (CallT Tryd.prog 42 = True) ∧ (CallT Tryd.prog 54 = True) ∧ (kdT Tryd.prog 3 = some 0) ∧ (ldT Tryd.prog 25 = some (some 5)) := ⟨eq_true Tryd.call42, eq_true Tryd.call54, tr31, tr46⟩
theorem tf51 : (CallT Tryd.prog 85 = True) ∧ (arT Tryd.prog 22 = none) ∧ (kdT Tryd.prog 3 = some 0) ∧ (ldT Tryd.prog 22 = some none) ∧ (ldT Tryd.prog 25 = some (some 5)) ∧ (ldT Tryd.prog 3 = some none) ∧ (offT Tryd.prog 25 4 = some 4) ∧ (offT Tryd.prog 27 0 = some 0) ∧ (offT Tryd.prog 27 1 = some 1) ∧ (slT Tryd.prog 22 = some (3, 1)) := ⟨eq_true Tryd.call85, tr10, tr31, tr44, tr46, tr49, tr82, tr83, tr84, tr136⟩
theorem tf52 : (kdT Tryd.prog 3 = some 0) ∧ (ldT Tryd.prog 3 = some none) ∧ (offT Tryd.prog 31 0 = some 0) ∧ (offT Tryd.prog 31 1 = some 1) := ⟨tr31, tr49, tr95, tr96⟩
theorem tf53 : (CallT Tryd.prog 86 = True) ∧ (elT Tryd.prog 22 = some (3, 1, [.int .i64 0], 8)) ∧ (kdT Tryd.prog 3 = some 0) ∧ (ldT Tryd.prog 25 = some (some 5)) := ⟨eq_true Tryd.call86, tr21, tr31, tr46⟩
theorem tf54 : (kdT Tryd.prog 3 = some 0) := tr31
theorem tf55 : (CallT Tryd.prog 56 = True) ∧ (CallT Tryd.prog 87 = True) ∧ (CallT Tryd.prog 88 = True) ∧ (CallT Tryd.prog 89 = True) ∧ (CallT Tryd.prog 90 = True) ∧ (CallT Tryd.prog 91 = True) ∧ (kdT Tryd.prog 3 = some 0) ∧ (ldT Tryd.prog 22 = some none) ∧ (ldT Tryd.prog 23 = some none) ∧ (ldT Tryd.prog 3 = some none) ∧ (offT Tryd.prog 25 0 = some 0) ∧ (offT Tryd.prog 25 1 = some 1) ∧ (offT Tryd.prog 25 2 = some 2) ∧ (offT Tryd.prog 25 3 = some 3) ∧ (offT Tryd.prog 25 4 = some 4) ∧ (slT Tryd.prog 22 = some (3, 1)) ∧ (slT Tryd.prog 23 = some (54, 2)) := ⟨eq_true Tryd.call56, eq_true Tryd.call87, eq_true Tryd.call88, eq_true Tryd.call89, eq_true Tryd.call90, eq_true Tryd.call91, tr31, tr44, tr45, tr49, tr78, tr79, tr80, tr81, tr82, tr136, tr137⟩
theorem tf56 : (kdT Tryd.prog 3 = some 0) := tr31
theorem tf57 : (arT Tryd.prog 23 = none) ∧ (elT Tryd.prog 23 = some (54, 2, [.int .i64 0, .int .i64 0], 16)) ∧ (kdT Tryd.prog 3 = some 0) ∧ (ldT Tryd.prog 3 = some none) ∧ (offT Tryd.prog 54 1 = some 1) ∧ (placesT Tryd.prog 54 = some [(0, 1), (1, 1)]) ∧ (slT Tryd.prog 23 = some (54, 2)) ∧ (szT Tryd.prog 3 = some 1) ∧ (zeroT Tryd.prog 54 = some [.int .i64 0, .int .i64 0]) := ⟨tr11, tr22, tr31, tr49, tr104, tr123, tr137, tr155, tr181⟩
theorem tf58 : (CallT Tryd.prog 20 = True) ∧ (CallT Tryd.prog 31 = True) ∧ (CallT Tryd.prog 92 = True) ∧ (kdT Tryd.prog 38 = some 0) ∧ (ldT Tryd.prog 25 = some (some 5)) ∧ (ldT Tryd.prog 27 = some (some 7)) ∧ (ldT Tryd.prog 29 = some (some 5)) := ⟨eq_true Tryd.call20, eq_true Tryd.call31, eq_true Tryd.call92, tr32, tr46, tr47, tr48⟩
theorem tf59 : (CallT Tryd.prog 54 = True) ∧ (kdT Tryd.prog 3 = some 0) ∧ (ldT Tryd.prog 23 = some none) ∧ (offT Tryd.prog 25 3 = some 3) ∧ (slT Tryd.prog 23 = some (54, 2)) := ⟨eq_true Tryd.call54, tr31, tr45, tr81, tr137⟩
theorem tf60 : (kdT Tryd.prog 3 = some 0) := tr31
theorem tf61 : (CallT Tryd.prog 50 = True) ∧ (CallT Tryd.prog 60 = True) ∧ (ldT Tryd.prog 25 = some (some 5)) ∧ (ldT Tryd.prog 3 = some none) ∧ (offT Tryd.prog 31 0 = some 0) ∧ (offT Tryd.prog 31 1 = some 1) := ⟨eq_true Tryd.call50, eq_true Tryd.call60, tr46, tr49, tr95, tr96⟩
theorem tf62 : (CallT Tryd.prog 93 = True) ∧ (kdT Tryd.prog 3 = some 0) := ⟨eq_true Tryd.call93, tr31⟩
theorem tf63 : (CallT Tryd.prog 54 = True) := eq_true Tryd.call54
theorem tf64 : (CallT Tryd.prog 94 = True) ∧ (arT Tryd.prog 102 = none) ∧ (arT Tryd.prog 103 = none) ∧ (arT Tryd.prog 104 = none) ∧ (arT Tryd.prog 22 = none) ∧ (elT Tryd.prog 102 = some (4, 1, [.bool false], 1)) ∧ (elT Tryd.prog 22 = some (3, 1, [.int .i64 0], 8)) ∧ (kdT Tryd.prog 3 = some 0) ∧ (ldT Tryd.prog 102 = some none) ∧ (ldT Tryd.prog 103 = some none) ∧ (ldT Tryd.prog 104 = some none) ∧ (ldT Tryd.prog 22 = some none) ∧ (ldT Tryd.prog 23 = some none) ∧ (ldT Tryd.prog 3 = some none) ∧ (ldT Tryd.prog 4 = some none) ∧ (offT Tryd.prog 106 0 = some 0) ∧ (offT Tryd.prog 106 2 = some 12) ∧ (offT Tryd.prog 106 3 = some 13) ∧ (offT Tryd.prog 106 4 = some 14) ∧ (offT Tryd.prog 106 5 = some 15) ∧ (offT Tryd.prog 25 2 = some 2) ∧ (offT Tryd.prog 25 3 = some 3) ∧ (slT Tryd.prog 102 = some (4, 1)) ∧ (slT Tryd.prog 103 = some (102, 1)) ∧ (slT Tryd.prog 104 = some (22, 1)) ∧ (slT Tryd.prog 22 = some (3, 1)) ∧ (slT Tryd.prog 23 = some (54, 2)) ∧ (szT Tryd.prog 3 = some 1) ∧ (szT Tryd.prog 4 = some 1) := ⟨eq_true Tryd.call94, tr0, tr1, tr2, tr10, tr14, tr21, tr31, tr35, tr36, tr37, tr44, tr45, tr49, tr54, tr61, tr63, tr64, tr65, tr66, tr80, tr81, tr125, tr126, tr127, tr136, tr137, tr155, tr159⟩
theorem tf65 : (CallT Tryd.prog 42 = True) ∧ (CallT Tryd.prog 49 = True) ∧ (CallT Tryd.prog 51 = True) ∧ (CallT Tryd.prog 53 = True) ∧ (arT Tryd.prog 102 = none) ∧ (arT Tryd.prog 22 = none) ∧ (elT Tryd.prog 102 = some (4, 1, [.bool false], 1)) ∧ (elT Tryd.prog 22 = some (3, 1, [.int .i64 0], 8)) ∧ (kdT Tryd.prog 3 = some 0) ∧ (ldT Tryd.prog 23 = some none) ∧ (ldT Tryd.prog 25 = some (some 5)) ∧ (ldT Tryd.prog 27 = some (some 7)) ∧ (ldT Tryd.prog 29 = some (some 5)) ∧ (ldT Tryd.prog 3 = some none) ∧ (ldT Tryd.prog 4 = some none) ∧ (offT Tryd.prog 25 3 = some 3) ∧ (offT Tryd.prog 29 0 = some 0) ∧ (slT Tryd.prog 102 = some (4, 1)) ∧ (slT Tryd.prog 22 = some (3, 1)) ∧ (slT Tryd.prog 23 = some (54, 2)) ∧ (szT Tryd.prog 3 = some 1) ∧ (szT Tryd.prog 4 = some 1) := ⟨eq_true Tryd.call42, eq_true Tryd.call49, eq_true Tryd.call51, eq_true Tryd.call53, tr0, tr10, tr14, tr21, tr31, tr45, tr46, tr47, tr48, tr49, tr54, tr81, tr90, tr125, tr136, tr137, tr155, tr159⟩
theorem tf79 : (CallT Tryd.prog 100 = True) ∧ (CallT Tryd.prog 104 = True) ∧ (elT Tryd.prog 22 = some (3, 1, [.int .i64 0], 8)) ∧ (kdT Tryd.prog 3 = some 0) ∧ (kdT Tryd.prog 38 = some 0) ∧ (ldT Tryd.prog 25 = some (some 5)) ∧ (ldT Tryd.prog 3 = some none) ∧ (ldT Tryd.prog 98 = some (some 5)) ∧ (offT Tryd.prog 54 0 = some 0) ∧ (offT Tryd.prog 54 1 = some 1) ∧ (placesT Tryd.prog 155 = some [(0, 1), (1, 1), (2, 1)]) ∧ (szT Tryd.prog 54 = some 2) ∧ (szT Tryd.prog 98 = some 5) ∧ (zeroT Tryd.prog 155 = some [.slice none 0 0, .slice none 0 0, .slice none 0 0]) ∧ (zeroT Tryd.prog 54 = some [.int .i64 0, .int .i64 0]) ∧ (zeroT Tryd.prog 98 = some [.int .i64 0, .int .i64 0, .slice none 0 0, .slice none 0 0, .slice none 0 0]) := ⟨eq_true Tryd.call100, eq_true Tryd.call104, tr21, tr31, tr32, tr46, tr49, tr60, tr103, tr104, tr115, tr160, tr162, tr168, tr181, tr183⟩
theorem tf80 : (CallT Tryd.prog 100 = True) ∧ (CallT Tryd.prog 105 = True) ∧ (CallT Tryd.prog 56 = True) ∧ (elT Tryd.prog 22 = some (3, 1, [.int .i64 0], 8)) ∧ (kdT Tryd.prog 38 = some 0) ∧ (ldT Tryd.prog 25 = some (some 5)) ∧ (ldT Tryd.prog 98 = some (some 5)) ∧ (placesT Tryd.prog 155 = some [(0, 1), (1, 1), (2, 1)]) ∧ (szT Tryd.prog 98 = some 5) ∧ (zeroT Tryd.prog 155 = some [.slice none 0 0, .slice none 0 0, .slice none 0 0]) ∧ (zeroT Tryd.prog 98 = some [.int .i64 0, .int .i64 0, .slice none 0 0, .slice none 0 0, .slice none 0 0]) := ⟨eq_true Tryd.call100, eq_true Tryd.call105, eq_true Tryd.call56, tr21, tr32, tr46, tr60, tr115, tr162, tr168, tr183⟩
theorem tf81 : (arT Tryd.prog 102 = none) ∧ (arT Tryd.prog 135 = none) ∧ (arT Tryd.prog 163 = none) ∧ (arT Tryd.prog 164 = none) ∧ (arT Tryd.prog 22 = none) ∧ (elT Tryd.prog 22 = some (3, 1, [.int .i64 0], 8)) ∧ (kdT Tryd.prog 3 = some 0) ∧ (ldT Tryd.prog 102 = some none) ∧ (ldT Tryd.prog 162 = some (some 3)) ∧ (ldT Tryd.prog 163 = some none) ∧ (ldT Tryd.prog 164 = some none) ∧ (ldT Tryd.prog 22 = some none) ∧ (ldT Tryd.prog 3 = some none) ∧ (ldT Tryd.prog 37 = some (some 2)) ∧ (ldT Tryd.prog 4 = some none) ∧ (offT Tryd.prog 106 2 = some 12) ∧ (offT Tryd.prog 106 3 = some 13) ∧ (offT Tryd.prog 162 0 = some 0) ∧ (offT Tryd.prog 162 1 = some 1) ∧ (offT Tryd.prog 162 2 = some 2) ∧ (offT Tryd.prog 31 1 = some 1) ∧ (offT Tryd.prog 37 0 = some 0) ∧ (placesT Tryd.prog 37 = some [(0, 1), (1, 1)]) ∧ (slT Tryd.prog 102 = some (4, 1)) ∧ (slT Tryd.prog 135 = some (164, 1)) ∧ (slT Tryd.prog 163 = some (162, 3)) ∧ (slT Tryd.prog 164 = some (163, 1)) ∧ (slT Tryd.prog 22 = some (3, 1)) ∧ (szT Tryd.prog 162 = some 3) ∧ (szT Tryd.prog 3 = some 1) ∧ (szT Tryd.prog 37 = some 2) ∧ (zeroT Tryd.prog 162 = some [.int .i64 0, .int .i64 0, .int .i64 0]) ∧ (zeroT Tryd.prog 37 = some [.slice none 0 0, .int .i64 0]) := ⟨tr0, tr4, tr5, tr6, tr10, tr21, tr31, tr35, tr40, tr41, tr42, tr44, tr49, tr52, tr54, tr63, tr64, tr72, tr73, tr74, tr96, tr101, tr122, tr125, tr130, tr131, tr132, tr136, tr146, tr155, tr157, tr169, tr179⟩
theorem tf82 : (CallT Tryd.prog 106 = True) ∧ (CallT Tryd.prog 108 = True) ∧ (arT Tryd.prog 102 = none) ∧ (arT Tryd.prog 103 = none) ∧ (arT Tryd.prog 104 = none) ∧ (arT Tryd.prog 135 = none) ∧ (arT Tryd.prog 163 = none) ∧ (arT Tryd.prog 164 = none) ∧ (arT Tryd.prog 22 = none) ∧ (elT Tryd.prog 135 = some (164, 1, [.slice none 0 0], 24)) ∧ (kdT Tryd.prog 3 = some 0) ∧ (ldT Tryd.prog 102 = some none) ∧ (ldT Tryd.prog 103 = some none) ∧ (ldT Tryd.prog 104 = some none) ∧ (ldT Tryd.prog 162 = some (some 3)) ∧ (ldT Tryd.prog 163 = some none) ∧ (ldT Tryd.prog 164 = some none) ∧ (ldT Tryd.prog 22 = some none) ∧ (ldT Tryd.prog 23 = some none) ∧ (ldT Tryd.prog 3 = some none) ∧ (ldT Tryd.prog 31 = some (some 2)) ∧ (ldT Tryd.prog 4 = some none) ∧ (ldT Tryd.prog 84 = some none) ∧ (offT Tryd.prog 106 0 = some 0) ∧ (offT Tryd.prog 106 1 = some 5) ∧ (offT Tryd.prog 106 2 = some 12) ∧ (offT Tryd.prog 106 4 = some 14) ∧ (offT Tryd.prog 106 5 = some 15) ∧ (offT Tryd.prog 162 0 = some 0) ∧ (offT Tryd.prog 25 3 = some 3) ∧ (offT Tryd.prog 27 2 = some 2) ∧ (offT Tryd.prog 27 3 = some 3) ∧ (placesT Tryd.prog 162 = some [(0, 1), (1, 1), (2, 1)]) ∧ (slT Tryd.prog 102 = some (4, 1)) ∧ (slT Tryd.prog 103 = some (102, 1)) ∧ (slT Tryd.prog 104 = some (22, 1)) ∧ (slT Tryd.prog 135 = some (164, 1)) ∧ (slT Tryd.prog 163 = some (162, 3)) ∧ (slT Tryd.prog 164 = some (163, 1)) ∧ (slT Tryd.prog 22 = some (3, 1)) ∧ (slT Tryd.prog 23 = some (54, 2)) ∧ (szT Tryd.prog 162 = some 3) ∧ (szT Tryd.prog 3 = some 1) ∧ (zeroT Tryd.prog 162 = some [.int .i64 0, .int .i64 0, .int .i64 0]) := ⟨eq_true Tryd.call106, eq_true Tryd.call108, tr0, tr1, tr2, tr4, tr5, tr6, tr10, tr17, tr31, tr35, tr36, tr37, tr40, tr41, tr42, tr44, tr45, tr49, tr50, tr54, tr59, tr61, tr62, tr63, tr65, tr66, tr72, tr81, tr85, tr86, tr116, tr125, tr126, tr127, tr130, tr131, tr132, tr136, tr137, tr146, tr155, tr169⟩
theorem tf83 : (CallT Tryd.prog 109 = True) ∧ (CallT Tryd.prog 49 = True) ∧ (arT Tryd.prog 104 = none) ∧ (arT Tryd.prog 168 = none) ∧ (arT Tryd.prog 22 = none) ∧ (kdT Tryd.prog 3 = some 0) ∧ (ldT Tryd.prog 104 = some none) ∧ (ldT Tryd.prog 22 = some none) ∧ (ldT Tryd.prog 25 = some (some 5)) ∧ (ldT Tryd.prog 27 = some (some 7)) ∧ (ldT Tryd.prog 29 = some (some 5)) ∧ (ldT Tryd.prog 3 = some none) ∧ (ldT Tryd.prog 31 = some (some 2)) ∧ (offT Tryd.prog 29 0 = some 0) ∧ (offT Tryd.prog 31 1 = some 1) ∧ (slT Tryd.prog 104 = some (22, 1)) ∧ (slT Tryd.prog 168 = some (104, 1)) ∧ (slT Tryd.prog 22 = some (3, 1)) := ⟨eq_true Tryd.call109, eq_true Tryd.call49, tr2, tr7, tr10, tr31, tr37, tr44, tr46, tr47, tr48, tr49, tr50, tr90, tr96, tr127, tr133, tr136⟩
theorem tf84 : (CallT Tryd.prog 26 = True) ∧ (CallT Tryd.prog 54 = True) ∧ (arT Tryd.prog 22 = none) ∧ (kdT Tryd.prog 3 = some 0) ∧ (ldT Tryd.prog 22 = some none) ∧ (ldT Tryd.prog 25 = some (some 5)) ∧ (ldT Tryd.prog 3 = some none) ∧ (offT Tryd.prog 25 4 = some 4) ∧ (offT Tryd.prog 29 0 = some 0) ∧ (offT Tryd.prog 29 1 = some 1) ∧ (offT Tryd.prog 29 2 = some 2) ∧ (offT Tryd.prog 29 3 = some 3) ∧ (offT Tryd.prog 29 4 = some 4) ∧ (slT Tryd.prog 22 = some (3, 1)) := ⟨eq_true Tryd.call26, eq_true Tryd.call54, tr10, tr31, tr44, tr46, tr49, tr82, tr90, tr91, tr92, tr93, tr94, tr136⟩
theorem tf85 : (CallT Tryd.prog 26 = True) ∧ (arT Tryd.prog 23 = none) ∧ (kdT Tryd.prog 3 = some 0) ∧ (ldT Tryd.prog 23 = some none) ∧ (ldT Tryd.prog 25 = some (some 5)) ∧ (ldT Tryd.prog 3 = some none) ∧ (offT Tryd.prog 25 3 = some 3) ∧ (offT Tryd.prog 54 0 = some 0) ∧ (slT Tryd.prog 23 = some (54, 2)) := ⟨eq_true Tryd.call26, tr11, tr31, tr45, tr46, tr49, tr81, tr103, tr137⟩
theorem tf86 : (CallT Tryd.prog 54 = True) ∧ (arT Tryd.prog 170 = some (6, 1, none)) ∧ (kdT Tryd.prog 3 = some 0) ∧ (ldT Tryd.prog 3 = some none) ∧ (offT Tryd.prog 25 0 = some 0) ∧ (offT Tryd.prog 25 1 = some 1) ∧ (placesT Tryd.prog 170 = some [(0, 1), (1, 1), (2, 1), (3, 1), (4, 1), (5, 1)]) ∧ (slT Tryd.prog 170 = none) ∧ (szT Tryd.prog 170 = some 6) ∧ (zeroT Tryd.prog 170 = some [.int .i64 0, .int .i64 0, .int .i64 0, .int .i64 0, .int .i64 0, .int .i64 0]) := ⟨eq_true Tryd.call54, tr8, tr31, tr49, tr78, tr79, tr117, tr134, tr148, tr170⟩
theorem tf87 : (CallT Tryd.prog 56 = True) := eq_true Tryd.call56
theorem tf88 : (kdT Tryd.prog 3 = some 0) ∧ (ldT Tryd.prog 3 = some none) ∧ (offT Tryd.prog 54 0 = some 0) ∧ (offT Tryd.prog 54 1 = some 1) := ⟨tr31, tr49, tr103, tr104⟩
theorem tf89 : (CallT Tryd.prog 56 = True) := eq_true Tryd.call56
theorem tf90 : (CallT Tryd.prog 110 = True) ∧ (kdT Tryd.prog 3 = some 0) := ⟨eq_true Tryd.call110, tr31⟩
theorem tf91 : (CallT Tryd.prog 111 = True) ∧ (kdT Tryd.prog 3 = some 0) := ⟨eq_true Tryd.call111, tr31⟩
theorem tf92 : (CallT Tryd.prog 50 = True) ∧ (CallT Tryd.prog 54 = True) ∧ (CallT Tryd.prog 63 = True) ∧ (kdT Tryd.prog 3 = some 0) ∧ (ldT Tryd.prog 25 = some (some 5)) ∧ (ldT Tryd.prog 3 = some none) ∧ (offT Tryd.prog 29 0 = some 0) ∧ (offT Tryd.prog 29 1 = some 1) ∧ (offT Tryd.prog 29 2 = some 2) ∧ (offT Tryd.prog 29 3 = some 3) ∧ (offT Tryd.prog 29 4 = some 4) := ⟨eq_true Tryd.call50, eq_true Tryd.call54, eq_true Tryd.call63, tr31, tr46, tr49, tr90, tr91, tr92, tr93, tr94⟩
theorem tf93 : (arT Tryd.prog 102 = none) ∧ (kdT Tryd.prog 3 = some 0) ∧ (kdT Tryd.prog 4 = some 1) ∧ (ldT Tryd.prog 4 = some none) ∧ (slT Tryd.prog 102 = some (4, 1)) := ⟨tr0, tr31, tr33, tr54, tr125⟩
theorem tf94 : (CallT Tryd.prog 112 = True) ∧ (elT Tryd.prog 22 = some (3, 1, [.int .i64 0], 8)) ∧ (intT Tryd.prog 3 = some .i64) ∧ (intT Tryd.prog 68 = some .u64) ∧ (kdT Tryd.prog 3 = some 0) ∧ (kdT Tryd.prog 68 = some 0) ∧ (slT Tryd.prog 22 = some (3, 1)) := ⟨eq_true Tryd.call112, tr21, tr28, tr29, tr31, tr34, tr136⟩
theorem tf100 : (CallT Tryd.prog 114 = True) ∧ (CallT Tryd.prog 115 = True) ∧ (CallT Tryd.prog 116 = True) ∧ (CallT Tryd.prog 55 = True) ∧ (CallT Tryd.prog 90 = True) ∧ (kdT Tryd.prog 38 = some 0) ∧ (ldT Tryd.prog 22 = some none) ∧ (ldT Tryd.prog 25 = some (some 5)) ∧ (ldT Tryd.prog 98 = some (some 5)) ∧ (offT Tryd.prog 155 0 = some 0) ∧ (offT Tryd.prog 155 1 = some 1) ∧ (offT Tryd.prog 155 2 = some 2) ∧ (placesT Tryd.prog 98 = some [(0, 5)]) ∧ (szT Tryd.prog 98 = some 5) ∧ (zeroT Tryd.prog 98 = some [.int .i64 0, .int .i64 0, .slice none 0 0, .slice none 0 0, .slice none 0 0]) := ⟨eq_true Tryd.call114, eq_true Tryd.call115, eq_true Tryd.call116, eq_true Tryd.call55, eq_true Tryd.call90, tr32, tr44, tr46, tr60, tr69, tr70, tr71, tr124, tr162, tr183⟩
theorem tf104 : (arT Tryd.prog 22 = none) ∧ (arT Tryd.prog 23 = none) ∧ (kdT Tryd.prog 3 = some 0) ∧ (ldT Tryd.prog 22 = some none) ∧ (ldT Tryd.prog 23 = some none) ∧ (ldT Tryd.prog 3 = some none) ∧ (ldT Tryd.prog 54 = some (some 2)) ∧ (offT Tryd.prog 25 2 = some 2) ∧ (offT Tryd.prog 25 3 = some 3) ∧ (offT Tryd.prog 25 4 = some 4) ∧ (offT Tryd.prog 54 0 = some 0) ∧ (offT Tryd.prog 54 1 = some 1) ∧ (offT Tryd.prog 98 0 = some 0) ∧ (placesT Tryd.prog 54 = some [(0, 1), (1, 1)]) ∧ (slT Tryd.prog 22 = some (3, 1)) ∧ (slT Tryd.prog 23 = some (54, 2)) ∧ (szT Tryd.prog 54 = some 2) ∧ (zeroT Tryd.prog 54 = some [.int .i64 0, .int .i64 0]) := ⟨tr10, tr11, tr31, tr44, tr45, tr49, tr55, tr80, tr81, tr82, tr103, tr104, tr111, tr123, tr136, tr137, tr160, tr181⟩
theorem tf105 : (CallT Tryd.prog 56 = True) ∧ (arT Tryd.prog 181 = some (6, 3, some 3)) ∧ (kdT Tryd.prog 3 = some 0) ∧ (ldT Tryd.prog 180 = some (some 3)) ∧ (ldT Tryd.prog 3 = some none) ∧ (offT Tryd.prog 180 0 = some 0) ∧ (offT Tryd.prog 180 1 = some 1) ∧ (offT Tryd.prog 180 2 = some 2) ∧ (offT Tryd.prog 25 0 = some 0) ∧ (offT Tryd.prog 25 1 = some 1) ∧ (offT Tryd.prog 98 0 = some 0) ∧ (slT Tryd.prog 181 = none) ∧ (szT Tryd.prog 180 = some 3) ∧ (zeroT Tryd.prog 180 = some [.int .i64 0, .int .i64 0, .int .i64 0]) := ⟨eq_true Tryd.call56, tr9, tr31, tr43, tr49, tr75, tr76, tr77, tr78, tr79, tr111, tr135, tr149, tr171⟩
theorem tf106 : (CallT Tryd.prog 107 = True) ∧ (arT Tryd.prog 164 = none) ∧ (elT Tryd.prog 163 = some (162, 3, [.int .i64 0, .int .i64 0, .int .i64 0], 24)) ∧ (elT Tryd.prog 164 = some (163, 1, [.slice none 0 0], 24)) ∧ (kdT Tryd.prog 3 = some 0) ∧ (ldT Tryd.prog 22 = some none) ∧ (ldT Tryd.prog 3 = some none) ∧ (ldT Tryd.prog 84 = some none) ∧ (offT Tryd.prog 106 0 = some 0) ∧ (offT Tryd.prog 25 2 = some 2) ∧ (offT Tryd.prog 31 1 = some 1) ∧ (placesT Tryd.prog 162 = some [(0, 1), (1, 1), (2, 1)]) ∧ (slT Tryd.prog 164 = some (163, 1)) ∧ (slT Tryd.prog 22 = some (3, 1)) ∧ (szT Tryd.prog 163 = some 1) ∧ (zeroT Tryd.prog 162 = some [.int .i64 0, .int .i64 0, .int .i64 0]) := ⟨eq_true Tryd.call107, tr6, tr18, tr19, tr31, tr44, tr49, tr59, tr61, tr80, tr96, tr116, tr132, tr136, tr147, tr169⟩
theorem tf107 : (CallT Tryd.prog 112 = True) ∧ (elT Tryd.prog 163 = some (162, 3, [.int .i64 0, .int .i64 0, .int .i64 0], 24)) ∧ (intT Tryd.prog 3 = some .i64) ∧ (intT Tryd.prog 68 = some .u64) ∧ (kdT Tryd.prog 3 = some 0) ∧ (kdT Tryd.prog 68 = some 0) ∧ (slT Tryd.prog 163 = some (162, 3)) := ⟨eq_true Tryd.call112, tr18, tr28, tr29, tr31, tr34, tr131⟩
theorem tf108 : (kdT Tryd.prog 3 = some 0) ∧ (ldT Tryd.prog 3 = some none) ∧ (offT Tryd.prog 31 0 = some 0) ∧ (offT Tryd.prog 31 1 = some 1) := ⟨tr31, tr49, tr95, tr96⟩
theorem tf109 : (CallT Tryd.prog 42 = True) ∧ (CallT Tryd.prog 49 = True) ∧ (CallT Tryd.prog 51 = True) ∧ (CallT Tryd.prog 52 = True) ∧ (CallT Tryd.prog 53 = True) ∧ (arT Tryd.prog 104 = none) ∧ (arT Tryd.prog 168 = none) ∧ (arT Tryd.prog 22 = none) ∧ (elT Tryd.prog 104 = some (22, 1, [.slice none 0 0], 24)) ∧ (elT Tryd.prog 168 = some (104, 1, [.slice none 0 0], 24)) ∧ (elT Tryd.prog 22 = some (3, 1, [.int .i64 0], 8)) ∧ (kdT Tryd.prog 3 = some 0) ∧ (ldT Tryd.prog 104 = some none) ∧ (ldT Tryd.prog 22 = some none) ∧ (ldT Tryd.prog 23 = some none) ∧ (ldT Tryd.prog 25 = some (some 5)) ∧ (ldT Tryd.prog 27 = some (some 7)) ∧ (ldT Tryd.prog 29 = some (some 5)) ∧ (ldT Tryd.prog 3 = some none) ∧ (ldT Tryd.prog 31 = some (some 2)) ∧ (offT Tryd.prog 25 3 = some 3) ∧ (offT Tryd.prog 27 2 = some 2) ∧ (offT Tryd.prog 27 3 = some 3) ∧ (offT Tryd.prog 29 0 = some 0) ∧ (offT Tryd.prog 31 1 = some 1) ∧ (slT Tryd.prog 104 = some (22, 1)) ∧ (slT Tryd.prog 168 = some (104, 1)) ∧ (slT Tryd.prog 22 = some (3, 1)) ∧ (slT Tryd.prog 23 = some (54, 2)) ∧ (szT Tryd.prog 22 = some 1) ∧ (szT Tryd.prog 3 = some 1) := ⟨eq_true Tryd.call42, eq_true Tryd.call49, eq_true Tryd.call51, eq_true Tryd.call52, eq_true Tryd.call53, tr2, tr7, tr10, tr16, tr20, tr21, tr31, tr37, tr44, tr45, tr46, tr47, tr48, tr49, tr50, tr81, tr85, tr86, tr90, tr96, tr127, tr133, tr136, tr137, tr150, tr155⟩
theorem tf110 : (arT Tryd.prog 22 = none) ∧ (kdT Tryd.prog 3 = some 0) ∧ (ldT Tryd.prog 3 = some none) ∧ (slT Tryd.prog 22 = some (3, 1)) := ⟨tr10, tr31, tr49, tr136⟩
theorem tf111 : (arT Tryd.prog 23 = none) ∧ (kdT Tryd.prog 3 = some 0) ∧ (ldT Tryd.prog 54 = some (some 2)) ∧ (slT Tryd.prog 23 = some (54, 2)) := ⟨tr11, tr31, tr55, tr137⟩
theorem tf112 : (CallT Tryd.prog 119 = True) ∧ (CallT Tryd.prog 120 = True) ∧ (intT Tryd.prog 182 = some .u32) ∧ (intT Tryd.prog 68 = some .u64) := ⟨eq_true Tryd.call119, eq_true Tryd.call120, tr26, tr29⟩
theorem tf114 : (CallT Tryd.prog 56 = True) ∧ (kdT Tryd.prog 3 = some 0) ∧ (ldT Tryd.prog 22 = some none) ∧ (offT Tryd.prog 25 2 = some 2) ∧ (slT Tryd.prog 22 = some (3, 1)) := ⟨eq_true Tryd.call56, tr31, tr44, tr80, tr136⟩
theorem tf115 : (CallT Tryd.prog 56 = True) ∧ (kdT Tryd.prog 3 = some 0) ∧ (ldT Tryd.prog 23 = some none) ∧ (offT Tryd.prog 25 3 = some 3) ∧ (slT Tryd.prog 23 = some (54, 2)) := ⟨eq_true Tryd.call56, tr31, tr45, tr81, tr137⟩
theorem tf116 : (CallT Tryd.prog 56 = True) := eq_true Tryd.call56
theorem tf120 : (kdT Tryd.prog 185 = some 0) := tr30
theorem res3 : Tryd.f3.results.toList = [.tmp 6] := by kernel_rfl
theorem res4 : Tryd.f4.results.toList = [.tmp 6] := by kernel_rfl
theorem res14 : Tryd.f14.results.toList = [.tmp 2] := by kernel_rfl
theorem res15 : Tryd.f15.results.toList = [.tmp 0] := by kernel_rfl
theorem res16 : Tryd.f16.results.toList = [.tmp 12, .cell 13 37, .tmp 14] := by kernel_rfl
theorem res17 : Tryd.f17.results.toList = [.cell 2 25] := by kernel_rfl
theorem res18 : Tryd.f18.results.toList = [.tmp 12, .tmp 13, .tmp 14, .tmp 15] := by kernel_rfl
theorem res19 : Tryd.f19.results.toList = [.tmp 12, .tmp 13] := by kernel_rfl
theorem res20 : Tryd.f20.results.toList = [.tmp 2] := by kernel_rfl
theorem res21 : Tryd.f21.results.toList = [.tmp 12, .tmp 13] := by kernel_rfl
theorem res22 : Tryd.f22.results.toList = [.tmp 12, .tmp 13] := by kernel_rfl
theorem res23 : Tryd.f23.results.toList = [.tmp 4] := by kernel_rfl
theorem res25 : Tryd.f25.results.toList = [.tmp 4, .tmp 5, .tmp 6] := by kernel_rfl
theorem res26 : Tryd.f26.results.toList = [.tmp 8] := by kernel_rfl
theorem res27 : Tryd.f27.results.toList = [.tmp 12] := by kernel_rfl
theorem res30 : Tryd.f30.results.toList = [.tmp 2] := by kernel_rfl
theorem res31 : Tryd.f31.results.toList = [.tmp 2] := by kernel_rfl
theorem res42 : Tryd.f42.results.toList = [.tmp 2] := by kernel_rfl
theorem res43 : Tryd.f43.results.toList = [.cell 0 27, .cell 1 29] := by kernel_rfl
theorem res44 : Tryd.f44.results.toList = [.cell 0 25] := by kernel_rfl
theorem res45 : Tryd.f45.results.toList = [.tmp 10, .tmp 11] := by kernel_rfl
theorem res46 : Tryd.f46.results.toList = [.tmp 6] := by kernel_rfl
theorem res47 : Tryd.f47.results.toList = [.tmp 8, .cell 9 37] := by kernel_rfl
theorem res48 : Tryd.f48.results.toList = [.tmp 12, .tmp 13, .tmp 14] := by kernel_rfl
theorem res49 : Tryd.f49.results.toList = [.tmp 8] := by kernel_rfl
theorem res50 : Tryd.f50.results.toList = [.tmp 4] := by kernel_rfl
theorem res51 : Tryd.f51.results.toList = [.tmp 8] := by kernel_rfl
theorem res52 : Tryd.f52.results.toList = [.tmp 6] := by kernel_rfl
theorem res53 : Tryd.f53.results.toList = [.tmp 4] := by kernel_rfl
theorem res54 : Tryd.f54.results.toList = [.tmp 6] := by kernel_rfl
theorem res55 : Tryd.f55.results.toList = [.tmp 2] := by kernel_rfl
theorem res56 : Tryd.f56.results.toList = [.tmp 6] := by kernel_rfl
theorem res57 : Tryd.f57.results.toList = [.tmp 4] := by kernel_rfl
theorem res58 : Tryd.f58.results.toList = [.tmp 6] := by kernel_rfl
theorem res59 : Tryd.f59.results.toList = [.tmp 4] := by kernel_rfl
theorem res60 : Tryd.f60.results.toList = [.tmp 6] := by kernel_rfl
theorem res61 : Tryd.f61.results.toList = [.tmp 4] := by kernel_rfl
theorem res62 : Tryd.f62.results.toList = [.tmp 4] := by kernel_rfl
theorem res63 : Tryd.f63.results.toList = [.tmp 2] := by kernel_rfl
theorem res64 : Tryd.f64.results.toList = [.tmp 4] := by kernel_rfl
theorem res65 : Tryd.f65.results.toList = [.tmp 8] := by kernel_rfl
theorem res79 : Tryd.f79.results.toList = [.tmp 8, .tmp 9, .tmp 10] := by kernel_rfl
theorem res80 : Tryd.f80.results.toList = [.tmp 6, .tmp 7] := by kernel_rfl
theorem res81 : Tryd.f81.results.toList = [.cell 8 37, .tmp 9] := by kernel_rfl
theorem res82 : Tryd.f82.results.toList = [.tmp 6] := by kernel_rfl
theorem res83 : Tryd.f83.results.toList = [.tmp 10, .tmp 11] := by kernel_rfl
theorem res84 : Tryd.f84.results.toList = [.tmp 8] := by kernel_rfl
theorem res85 : Tryd.f85.results.toList = [.tmp 8] := by kernel_rfl
theorem res86 : Tryd.f86.results.toList = [.tmp 6, .tmp 7] := by kernel_rfl
theorem res87 : Tryd.f87.results.toList = [.tmp 2] := by kernel_rfl
theorem res88 : Tryd.f88.results.toList = [.tmp 2] := by kernel_rfl
theorem res89 : Tryd.f89.results.toList = [.tmp 2] := by kernel_rfl
theorem res90 : Tryd.f90.results.toList = [.tmp 4] := by kernel_rfl
theorem res91 : Tryd.f91.results.toList = [.tmp 4] := by kernel_rfl
theorem res92 : Tryd.f92.results.toList = [.tmp 4] := by kernel_rfl
theorem res93 : Tryd.f93.results.toList = [.tmp 4] := by kernel_rfl
theorem res94 : Tryd.f94.results.toList = [.tmp 4] := by kernel_rfl
theorem res100 : Tryd.f100.results.toList = [.cell 4 98, .tmp 5] := by kernel_rfl
theorem res104 : Tryd.f104.results.toList = [.cell 6 54] := by kernel_rfl
theorem res105 : Tryd.f105.results.toList = [.tmp 6, .tmp 7] := by kernel_rfl
theorem res106 : Tryd.f106.results.toList = [.tmp 2] := by kernel_rfl
theorem res107 : Tryd.f107.results.toList = [.tmp 4] := by kernel_rfl
theorem res108 : Tryd.f108.results.toList = [.tmp 6] := by kernel_rfl
theorem res109 : Tryd.f109.results.toList = [.tmp 10] := by kernel_rfl
theorem res110 : Tryd.f110.results.toList = [.tmp 4] := by kernel_rfl
theorem res111 : Tryd.f111.results.toList = [.tmp 4] := by kernel_rfl
theorem res112 : Tryd.f112.results.toList = [.tmp 4, .tmp 5] := by kernel_rfl
theorem res114 : Tryd.f114.results.toList = [.tmp 3] := by kernel_rfl
theorem res115 : Tryd.f115.results.toList = [.tmp 3] := by kernel_rfl
theorem res116 : Tryd.f116.results.toList = [.tmp 2] := by kernel_rfl
theorem res120 : Tryd.f120.results.toList = [.tmp 4, .tmp 5] := by kernel_rfl
noncomputable abbrev EV (w : World) (X : Nat → Prop) (re : List Nat) (ord : List (Nat × Plan)) (det : Nat → List Value → Option Value) (cuts : List Nat) : Env := { P := Tryd.prog, w0 := ⟨w, X⟩, re := re, ord := ord, det := det, cuts := cuts }
abbrev I (n : Int) : Value := .int .i64 n
theorem mixed_prog : Tryd.prog.follows .mixedOrders = true := by kernel_rfl
theorem walkC {f : Nat} {fn : Func} {c : Code} {args : List Value} {n : Nat} {rs : List ResultVar} {Post : Value → List HO → Prop} {w : World} {X : Nat → Prop} (cuts : List Nat) (re : List Nat) (ord : List (Nat × Plan)) {det : Nat → List Value → Option Value} (hD : DetFn Tryd.prog ⟨w, X⟩ det)
    (hf : Tryd.prog.funcs[f]? = some fn) (hb : fn.body = some c) (hn : fn.ntmps = n) (hr : fn.results.toList = rs) (hok : codeB ord c = true) {H0 : List HO}
    (h0 : (∀ h ∈ H0, h.ok w) ∧ (∀ h ∈ H0, ∀ b, h.fp b → X b) ∧ H0.Pairwise Apart)
    (h : W (EV w X re ord det cuts) c (retQ (EV w X re ord det cuts) rs Post) (args.map SV.v ++ List.replicate (n - args.length) (.v undef)) [] H0) : SX.Fn Tryd.prog f args w X Post := by
  subst hn hr
  exact SX.Fn.intro (E := EV w X re ord det cuts) hf hb trivial hD mixed_prog hok h0 h
theorem walk {f : Nat} {fn : Func} {c : Code} {args : List Value} {n : Nat} {rs : List ResultVar} {Post : Value → List HO → Prop} {w : World} {X : Nat → Prop} (re : List Nat) (ord : List (Nat × Plan)) {det : Nat → List Value → Option Value} (hD : DetFn Tryd.prog ⟨w, X⟩ det)
    (hf : Tryd.prog.funcs[f]? = some fn) (hb : fn.body = some c) (hn : fn.ntmps = n) (hr : fn.results.toList = rs) (hok : codeB ord c = true) {H0 : List HO}
    (h0 : (∀ h ∈ H0, h.ok w) ∧ (∀ h ∈ H0, ∀ b, h.fp b → X b) ∧ H0.Pairwise Apart)
    (h : W (EV w X re ord det []) c (retQ (EV w X re ord det []) rs Post) (args.map SV.v ++ List.replicate (n - args.length) (.v undef)) [] H0) : SX.Fn Tryd.prog f args w X Post :=
  walkC [] re ord hD hf hb hn hr hok h0 h
theorem no_facts {w : World} {X : Nat → Prop} : (∀ h ∈ ([] : List HO), h.ok w) ∧ (∀ h ∈ ([] : List HO), ∀ b, h.fp b → X b) ∧ ([] : List HO).Pairwise Apart := ⟨by simp, by simp, List.Pairwise.nil⟩
theorem wrap_id {n : Int} (h : -9223372036854775808 ≤ n ∧ n ≤ 9223372036854775807) : IntKind.i64.wrap n = n := by
  rw [IntKind.wrap_i64]
  omega
end Go.Proofs.YtcnlbnccbnapbaaDoor

