/- Parts of a proof: the symbolic walk and what it shows of single functions. -/
import Derived.Test.YtpmodggfogahhaaGreatDoorRows
import Derived.Test.YtpmodggfogahhaaGreatDoorX3
set_option linter.all false
namespace Go.Proofs.YtpmodggfogahhaaGreatDoor
open Go.RowKit Go.SX
set_option maxRecDepth 4000
theorem tr2 : arT Tryz.prog 163 = none := by kernel_rfl
theorem tr3 : arT Tryz.prog 166 = none := by kernel_rfl
theorem tr4 : arT Tryz.prog 189 = some (6, 3, some 3) := by kernel_rfl
theorem tr5 : arT Tryz.prog 194 = none := by kernel_rfl
theorem tr6 : arT Tryz.prog 22 = none := by kernel_rfl
theorem tr7 : arT Tryz.prog 23 = none := by kernel_rfl
theorem tr8 : arT Tryz.prog 26 = none := by kernel_rfl
theorem tr9 : arT Tryz.prog 27 = none := by kernel_rfl
theorem tr10 : arT Tryz.prog 49 = none := by kernel_rfl
theorem tr13 : elT Tryz.prog 105 = some (175, 3, [.int .i64 0, .slice none 0 0, .bool false], 40) := by kernel_rfl
theorem tr14 : elT Tryz.prog 163 = some (166, 1, [.slice none 0 0], 24) := by kernel_rfl
theorem tr15 : elT Tryz.prog 166 = some (4, 1, [.bool false], 1) := by kernel_rfl
theorem tr16 : elT Tryz.prog 194 = some (22, 1, [.slice none 0 0], 24) := by kernel_rfl
theorem tr17 : elT Tryz.prog 22 = some (3, 1, [.int .i64 0], 8) := by kernel_rfl
theorem tr18 : elT Tryz.prog 23 = some (44, 2, [.int .i64 0, .int .i64 0], 16) := by kernel_rfl
theorem tr19 : elT Tryz.prog 26 = some (27, 1, [.slice none 0 0], 24) := by kernel_rfl
theorem tr20 : elT Tryz.prog 27 = some (46, 3, [.int .i64 0, .int .i64 0, .int .i64 0], 24) := by kernel_rfl
theorem tr21 : elT Tryz.prog 49 = some (99, 9, [.int .i64 0, .int .i64 0, .int .i64 0, .int .i64 0, .int .i64 0, .int .i64 0, .int .i64 0, .bool false, .int .i64 0], 72) := by kernel_rfl
theorem tr23 : intT Tryz.prog 231 = some .u64 := by kernel_rfl
theorem tr24 : intT Tryz.prog 256 = some .u32 := by kernel_rfl
theorem tr27 : intT Tryz.prog 3 = some .i64 := by kernel_rfl
theorem tr29 : kdT Tryz.prog 194 = some 2 := by kernel_rfl
theorem tr30 : kdT Tryz.prog 22 = some 2 := by kernel_rfl
theorem tr31 : kdT Tryz.prog 231 = some 0 := by kernel_rfl
theorem tr34 : kdT Tryz.prog 258 = some 0 := by kernel_rfl
theorem tr36 : kdT Tryz.prog 3 = some 0 := by kernel_rfl
theorem tr37 : kdT Tryz.prog 33 = some 0 := by kernel_rfl
theorem tr39 : ldT Tryz.prog 104 = some (some 4) := by kernel_rfl
theorem tr40 : ldT Tryz.prog 109 = some none := by kernel_rfl
theorem tr41 : ldT Tryz.prog 116 = some (some 3) := by kernel_rfl
theorem tr42 : ldT Tryz.prog 118 = some (some 5) := by kernel_rfl
theorem tr43 : ldT Tryz.prog 134 = some none := by kernel_rfl
theorem tr48 : ldT Tryz.prog 163 = some none := by kernel_rfl
theorem tr49 : ldT Tryz.prog 166 = some none := by kernel_rfl
theorem tr51 : ldT Tryz.prog 176 = some none := by kernel_rfl
theorem tr52 : ldT Tryz.prog 177 = some none := by kernel_rfl
theorem tr53 : ldT Tryz.prog 188 = some (some 3) := by kernel_rfl
theorem tr54 : ldT Tryz.prog 194 = some none := by kernel_rfl
theorem tr57 : ldT Tryz.prog 22 = some none := by kernel_rfl
theorem tr58 : ldT Tryz.prog 23 = some none := by kernel_rfl
theorem tr59 : ldT Tryz.prog 237 = some (some 2) := by kernel_rfl
theorem tr61 : ldT Tryz.prog 25 = some (some 5) := by kernel_rfl
theorem tr62 : ldT Tryz.prog 26 = some none := by kernel_rfl
theorem tr63 : ldT Tryz.prog 263 = some (some 2) := by kernel_rfl
theorem tr65 : ldT Tryz.prog 27 = some none := by kernel_rfl
theorem tr66 : ldT Tryz.prog 29 = some (some 8) := by kernel_rfl
theorem tr67 : ldT Tryz.prog 3 = some none := by kernel_rfl
theorem tr69 : ldT Tryz.prog 4 = some none := by kernel_rfl
theorem tr70 : ldT Tryz.prog 44 = some (some 2) := by kernel_rfl
theorem tr71 : ldT Tryz.prog 46 = some (some 3) := by kernel_rfl
theorem tr72 : ldT Tryz.prog 49 = some none := by kernel_rfl
theorem tr73 : ldT Tryz.prog 51 = some (some 8) := by kernel_rfl
theorem tr79 : ldT Tryz.prog 99 = some (some 9) := by kernel_rfl
theorem tr80 : offT Tryz.prog 116 0 = some 0 := by kernel_rfl
theorem tr81 : offT Tryz.prog 116 1 = some 1 := by kernel_rfl
theorem tr82 : offT Tryz.prog 116 2 = some 2 := by kernel_rfl
theorem tr83 : offT Tryz.prog 118 0 = some 0 := by kernel_rfl
theorem tr84 : offT Tryz.prog 122 0 = some 0 := by kernel_rfl
theorem tr85 : offT Tryz.prog 122 1 = some 1 := by kernel_rfl
theorem tr86 : offT Tryz.prog 122 2 = some 2 := by kernel_rfl
theorem tr97 : offT Tryz.prog 179 0 = some 0 := by kernel_rfl
theorem tr98 : offT Tryz.prog 179 1 = some 8 := by kernel_rfl
theorem tr99 : offT Tryz.prog 179 2 = some 9 := by kernel_rfl
theorem tr100 : offT Tryz.prog 188 0 = some 0 := by kernel_rfl
theorem tr101 : offT Tryz.prog 188 1 = some 1 := by kernel_rfl
theorem tr102 : offT Tryz.prog 188 2 = some 2 := by kernel_rfl
theorem tr103 : offT Tryz.prog 199 0 = some 0 := by kernel_rfl
theorem tr104 : offT Tryz.prog 199 1 = some 8 := by kernel_rfl
theorem tr105 : offT Tryz.prog 199 2 = some 9 := by kernel_rfl
theorem tr106 : offT Tryz.prog 199 3 = some 10 := by kernel_rfl
theorem tr109 : offT Tryz.prog 226 0 = some 0 := by kernel_rfl
theorem tr110 : offT Tryz.prog 226 1 = some 1 := by kernel_rfl
theorem tr111 : offT Tryz.prog 237 0 = some 0 := by kernel_rfl
theorem tr112 : offT Tryz.prog 237 1 = some 1 := by kernel_rfl
theorem tr113 : offT Tryz.prog 25 0 = some 0 := by kernel_rfl
theorem tr114 : offT Tryz.prog 25 1 = some 1 := by kernel_rfl
theorem tr115 : offT Tryz.prog 25 2 = some 2 := by kernel_rfl
theorem tr116 : offT Tryz.prog 25 3 = some 3 := by kernel_rfl
theorem tr117 : offT Tryz.prog 25 4 = some 4 := by kernel_rfl
theorem tr118 : offT Tryz.prog 29 0 = some 0 := by kernel_rfl
theorem tr119 : offT Tryz.prog 29 1 = some 5 := by kernel_rfl
theorem tr120 : offT Tryz.prog 29 2 = some 6 := by kernel_rfl
theorem tr121 : offT Tryz.prog 29 3 = some 7 := by kernel_rfl
theorem tr125 : offT Tryz.prog 44 0 = some 0 := by kernel_rfl
theorem tr126 : offT Tryz.prog 44 1 = some 1 := by kernel_rfl
theorem tr127 : offT Tryz.prog 46 0 = some 0 := by kernel_rfl
theorem tr128 : offT Tryz.prog 46 1 = some 1 := by kernel_rfl
theorem tr129 : offT Tryz.prog 51 0 = some 0 := by kernel_rfl
theorem tr130 : offT Tryz.prog 51 1 = some 5 := by kernel_rfl
theorem tr131 : offT Tryz.prog 51 2 = some 6 := by kernel_rfl
theorem tr132 : offT Tryz.prog 51 3 = some 7 := by kernel_rfl
theorem tr133 : offT Tryz.prog 53 0 = some 0 := by kernel_rfl
theorem tr134 : offT Tryz.prog 53 1 = some 1 := by kernel_rfl
theorem tr135 : offT Tryz.prog 53 2 = some 2 := by kernel_rfl
theorem tr158 : offT Tryz.prog 99 0 = some 0 := by kernel_rfl
theorem tr159 : offT Tryz.prog 99 1 = some 1 := by kernel_rfl
theorem tr160 : offT Tryz.prog 99 2 = some 2 := by kernel_rfl
theorem tr161 : offT Tryz.prog 99 3 = some 3 := by kernel_rfl
theorem tr162 : offT Tryz.prog 99 4 = some 4 := by kernel_rfl
theorem tr163 : offT Tryz.prog 99 5 = some 5 := by kernel_rfl
theorem tr164 : offT Tryz.prog 99 6 = some 6 := by kernel_rfl
theorem tr165 : offT Tryz.prog 99 7 = some 7 := by kernel_rfl
theorem tr166 : offT Tryz.prog 99 8 = some 8 := by kernel_rfl
theorem tr167 : placesT Tryz.prog 104 = some [(0, 1), (1, 1), (2, 2)] := by kernel_rfl
theorem tr168 : placesT Tryz.prog 116 = some [(0, 1), (1, 1), (2, 1)] := by kernel_rfl
theorem tr169 : placesT Tryz.prog 118 = some [(0, 5)] := by kernel_rfl
theorem tr170 : placesT Tryz.prog 122 = some [(0, 1), (1, 1), (2, 1)] := by kernel_rfl
theorem tr174 : placesT Tryz.prog 175 = some [(0, 1), (1, 1), (2, 1)] := by kernel_rfl
theorem tr175 : placesT Tryz.prog 179 = some [(0, 8), (8, 1), (9, 1)] := by kernel_rfl
theorem tr176 : placesT Tryz.prog 199 = some [(0, 8), (8, 1), (9, 1), (10, 1)] := by kernel_rfl
theorem tr178 : placesT Tryz.prog 226 = some [(0, 1), (1, 1)] := by kernel_rfl
theorem tr179 : placesT Tryz.prog 237 = some [(0, 1), (1, 1)] := by kernel_rfl
theorem tr180 : placesT Tryz.prog 25 = some [(0, 1), (1, 1), (2, 1), (3, 1), (4, 1)] := by kernel_rfl
theorem tr181 : placesT Tryz.prog 263 = some [(0, 1), (1, 1)] := by kernel_rfl
theorem tr182 : placesT Tryz.prog 29 = some [(0, 5), (5, 1), (6, 1), (7, 1)] := by kernel_rfl
theorem tr183 : placesT Tryz.prog 44 = some [(0, 1), (1, 1)] := by kernel_rfl
theorem tr184 : placesT Tryz.prog 46 = some [(0, 1), (1, 2)] := by kernel_rfl
theorem tr185 : placesT Tryz.prog 51 = some [(0, 5), (5, 1), (6, 1), (7, 1)] := by kernel_rfl
theorem tr186 : placesT Tryz.prog 99 = some [(0, 1), (1, 1), (2, 1), (3, 1), (4, 1), (5, 1), (6, 1), (7, 1), (8, 1)] := by kernel_rfl
theorem tr189 : slT Tryz.prog 163 = some (166, 1) := by kernel_rfl
theorem tr190 : slT Tryz.prog 166 = some (4, 1) := by kernel_rfl
theorem tr191 : slT Tryz.prog 189 = none := by kernel_rfl
theorem tr192 : slT Tryz.prog 194 = some (22, 1) := by kernel_rfl
theorem tr194 : slT Tryz.prog 22 = some (3, 1) := by kernel_rfl
theorem tr195 : slT Tryz.prog 23 = some (44, 2) := by kernel_rfl
theorem tr196 : slT Tryz.prog 26 = some (27, 1) := by kernel_rfl
theorem tr197 : slT Tryz.prog 27 = some (46, 3) := by kernel_rfl
theorem tr198 : slT Tryz.prog 49 = some (99, 9) := by kernel_rfl
theorem tr201 : szT Tryz.prog 104 = some 4 := by kernel_rfl
theorem tr202 : szT Tryz.prog 118 = some 5 := by kernel_rfl
theorem tr203 : szT Tryz.prog 134 = some 1 := by kernel_rfl
theorem tr207 : szT Tryz.prog 163 = some 1 := by kernel_rfl
theorem tr209 : szT Tryz.prog 188 = some 3 := by kernel_rfl
theorem tr210 : szT Tryz.prog 194 = some 1 := by kernel_rfl
theorem tr214 : szT Tryz.prog 22 = some 1 := by kernel_rfl
theorem tr215 : szT Tryz.prog 23 = some 1 := by kernel_rfl
theorem tr216 : szT Tryz.prog 237 = some 2 := by kernel_rfl
theorem tr217 : szT Tryz.prog 25 = some 5 := by kernel_rfl
theorem tr218 : szT Tryz.prog 26 = some 1 := by kernel_rfl
theorem tr219 : szT Tryz.prog 263 = some 2 := by kernel_rfl
theorem tr221 : szT Tryz.prog 27 = some 1 := by kernel_rfl
theorem tr222 : szT Tryz.prog 29 = some 8 := by kernel_rfl
theorem tr223 : szT Tryz.prog 3 = some 1 := by kernel_rfl
theorem tr225 : szT Tryz.prog 4 = some 1 := by kernel_rfl
theorem tr226 : szT Tryz.prog 44 = some 2 := by kernel_rfl
theorem tr227 : szT Tryz.prog 46 = some 3 := by kernel_rfl
theorem tr228 : szT Tryz.prog 49 = some 1 := by kernel_rfl
theorem tr229 : szT Tryz.prog 51 = some 8 := by kernel_rfl
theorem tr230 : szT Tryz.prog 99 = some 9 := by kernel_rfl
theorem tr231 : zeroT Tryz.prog 104 = some [.int .i64 0, .slice none 0 0, .int .i64 0, .int .i64 0] := by kernel_rfl
theorem tr232 : zeroT Tryz.prog 116 = some [.int .i64 0, .int .i64 0, .int .i64 0] := by kernel_rfl
theorem tr233 : zeroT Tryz.prog 118 = some [.int .i64 0, .int .i64 0, .slice none 0 0, .slice none 0 0, .slice none 0 0] := by kernel_rfl
theorem tr234 : zeroT Tryz.prog 122 = some [.slice none 0 0, .slice none 0 0, .slice none 0 0] := by kernel_rfl
theorem tr235 : zeroT Tryz.prog 134 = some [.nilFunc] := by kernel_rfl
theorem tr242 : zeroT Tryz.prog 175 = some [.int .i64 0, .slice none 0 0, .bool false] := by kernel_rfl
theorem tr243 : zeroT Tryz.prog 179 = some [.int .i64 0, .int .i64 0, .slice none 0 0, .slice none 0 0, .slice none 0 0, .slice none 0 0, .slice none 0 0, .slice none 0 0, .map none, .map none] := by kernel_rfl
theorem tr244 : zeroT Tryz.prog 188 = some [.int .i64 0, .int .i64 0, .int .i64 0] := by kernel_rfl
theorem tr245 : zeroT Tryz.prog 199 = some [.int .i64 0, .int .i64 0, .slice none 0 0, .slice none 0 0, .slice none 0 0, .int .i64 0, .int .i64 0, .slice none 0 0, .slice none 0 0, .slice none 0 0, .slice none 0 0] := by kernel_rfl
theorem tr249 : zeroT Tryz.prog 22 = some [.slice none 0 0] := by kernel_rfl
theorem tr250 : zeroT Tryz.prog 226 = some [.int .i64 0, .int .i64 0] := by kernel_rfl
theorem tr251 : zeroT Tryz.prog 237 = some [.int .i64 0, .int .i64 0] := by kernel_rfl
theorem tr252 : zeroT Tryz.prog 25 = some [.int .i64 0, .int .i64 0, .slice none 0 0, .slice none 0 0, .slice none 0 0] := by kernel_rfl
theorem tr253 : zeroT Tryz.prog 263 = some [.int .i64 0, .int .i64 0] := by kernel_rfl
theorem tr255 : zeroT Tryz.prog 29 = some [.int .i64 0, .int .i64 0, .slice none 0 0, .slice none 0 0, .slice none 0 0, .slice none 0 0, .slice none 0 0, .slice none 0 0] := by kernel_rfl
theorem tr256 : zeroT Tryz.prog 3 = some [.int .i64 0] := by kernel_rfl
theorem tr259 : zeroT Tryz.prog 44 = some [.int .i64 0, .int .i64 0] := by kernel_rfl
theorem tr260 : zeroT Tryz.prog 46 = some [.int .i64 0, .int .i64 0, .int .i64 0] := by kernel_rfl
theorem tr261 : zeroT Tryz.prog 51 = some [.int .i64 0, .int .i64 0, .slice none 0 0, .slice none 0 0, .slice none 0 0, .int .i64 0, .int .i64 0, .slice none 0 0] := by kernel_rfl
theorem tr262 : zeroT Tryz.prog 99 = some [.int .i64 0, .int .i64 0, .int .i64 0, .int .i64 0, .int .i64 0, .int .i64 0, .int .i64 0, .bool false, .int .i64 0] := by kernel_rfl
theorem tf5 : (CallT Tryz.prog 13 = True) ∧ (CallT Tryz.prog 14 = True) ∧ (CallT Tryz.prog 16 = True) ∧ (CallT Tryz.prog 17 = True) ∧ (CallT Tryz.prog 19 = True) ∧ (CallT Tryz.prog 20 = True) ∧ (CallT Tryz.prog 21 = True) ∧ (CallT Tryz.prog 22 = True) ∧ (CallT Tryz.prog 23 = True) ∧ (arT Tryz.prog 22 = none) ∧ (kdT Tryz.prog 3 = some 0) ∧ (kdT Tryz.prog 33 = some 0) ∧ (ldT Tryz.prog 22 = some none) ∧ (ldT Tryz.prog 25 = some (some 5)) ∧ (ldT Tryz.prog 3 = some none) ∧ (ldT Tryz.prog 51 = some (some 8)) ∧ (offT Tryz.prog 25 2 = some 2) ∧ (offT Tryz.prog 51 0 = some 0) ∧ (offT Tryz.prog 51 1 = some 5) ∧ (offT Tryz.prog 51 2 = some 6) ∧ (offT Tryz.prog 53 0 = some 0) ∧ (offT Tryz.prog 53 1 = some 1) ∧ (offT Tryz.prog 53 2 = some 2) ∧ (slT Tryz.prog 22 = some (3, 1)) ∧ (szT Tryz.prog 3 = some 1) ∧ (szT Tryz.prog 51 = some 8) ∧ (zeroT Tryz.prog 51 = some [.int .i64 0, .int .i64 0, .slice none 0 0, .slice none 0 0, .slice none 0 0, .int .i64 0, .int .i64 0, .slice none 0 0]) := ⟨eq_true Tryz.call13, eq_true Tryz.call14, eq_true Tryz.call16, eq_true Tryz.call17, eq_true Tryz.call19, eq_true Tryz.call20, eq_true Tryz.call21, eq_true Tryz.call22, eq_true Tryz.call23, tr6, tr36, tr37, tr57, tr61, tr67, tr73, tr115, tr129, tr130, tr131, tr133, tr134, tr135, tr194, tr223, tr229, tr261⟩
theorem tf12 : (CallT Tryz.prog 40 = True) ∧ (CallT Tryz.prog 43 = True) ∧ (kdT Tryz.prog 3 = some 0) ∧ (ldT Tryz.prog 25 = some (some 5)) := ⟨eq_true Tryz.call40, eq_true Tryz.call43, tr36, tr61⟩
theorem tf13 : (CallT Tryz.prog 43 = True) ∧ (kdT Tryz.prog 3 = some 0) ∧ (ldT Tryz.prog 23 = some none) ∧ (offT Tryz.prog 25 3 = some 3) ∧ (slT Tryz.prog 23 = some (44, 2)) := ⟨eq_true Tryz.call43, tr36, tr58, tr116, tr195⟩
theorem tf14 : (CallT Tryz.prog 15 = True) ∧ (CallT Tryz.prog 18 = True) ∧ (CallT Tryz.prog 44 = True) ∧ (CallT Tryz.prog 45 = True) ∧ (CallT Tryz.prog 46 = True) ∧ (CallT Tryz.prog 47 = True) ∧ (elT Tryz.prog 22 = some (3, 1, [.int .i64 0], 8)) ∧ (kdT Tryz.prog 3 = some 0) ∧ (kdT Tryz.prog 33 = some 0) ∧ (ldT Tryz.prog 25 = some (some 5)) ∧ (ldT Tryz.prog 29 = some (some 8)) ∧ (ldT Tryz.prog 51 = some (some 8)) ∧ (offT Tryz.prog 51 0 = some 0) ∧ (szT Tryz.prog 104 = some 4) ∧ (szT Tryz.prog 29 = some 8) ∧ (szT Tryz.prog 51 = some 8) ∧ (szT Tryz.prog 99 = some 9) ∧ (zeroT Tryz.prog 104 = some [.int .i64 0, .slice none 0 0, .int .i64 0, .int .i64 0]) ∧ (zeroT Tryz.prog 29 = some [.int .i64 0, .int .i64 0, .slice none 0 0, .slice none 0 0, .slice none 0 0, .slice none 0 0, .slice none 0 0, .slice none 0 0]) ∧ (zeroT Tryz.prog 51 = some [.int .i64 0, .int .i64 0, .slice none 0 0, .slice none 0 0, .slice none 0 0, .int .i64 0, .int .i64 0, .slice none 0 0]) ∧ (zeroT Tryz.prog 99 = some [.int .i64 0, .int .i64 0, .int .i64 0, .int .i64 0, .int .i64 0, .int .i64 0, .int .i64 0, .bool false, .int .i64 0]) := ⟨eq_true Tryz.call15, eq_true Tryz.call18, eq_true Tryz.call44, eq_true Tryz.call45, eq_true Tryz.call46, eq_true Tryz.call47, tr17, tr36, tr37, tr61, tr66, tr73, tr129, tr201, tr222, tr229, tr230, tr231, tr255, tr261, tr262⟩
theorem tf15 : (CallT Tryz.prog 48 = True) ∧ (CallT Tryz.prog 49 = True) ∧ (CallT Tryz.prog 50 = True) ∧ (CallT Tryz.prog 51 = True) ∧ (CallT Tryz.prog 52 = True) ∧ (CallT Tryz.prog 53 = True) ∧ (kdT Tryz.prog 3 = some 0) ∧ (kdT Tryz.prog 33 = some 0) ∧ (ldT Tryz.prog 29 = some (some 8)) ∧ (placesT Tryz.prog 116 = some [(0, 1), (1, 1), (2, 1)]) ∧ (zeroT Tryz.prog 116 = some [.int .i64 0, .int .i64 0, .int .i64 0]) := ⟨eq_true Tryz.call48, eq_true Tryz.call49, eq_true Tryz.call50, eq_true Tryz.call51, eq_true Tryz.call52, eq_true Tryz.call53, tr36, tr37, tr66, tr168, tr232⟩
theorem tf16 : (CallT Tryz.prog 54 = True) ∧ (CallT Tryz.prog 55 = True) ∧ (elT Tryz.prog 22 = some (3, 1, [.int .i64 0], 8)) ∧ (kdT Tryz.prog 3 = some 0) ∧ (kdT Tryz.prog 33 = some 0) ∧ (ldT Tryz.prog 118 = some (some 5)) ∧ (ldT Tryz.prog 25 = some (some 5)) ∧ (ldT Tryz.prog 3 = some none) ∧ (offT Tryz.prog 44 0 = some 0) ∧ (offT Tryz.prog 44 1 = some 1) ∧ (placesT Tryz.prog 122 = some [(0, 1), (1, 1), (2, 1)]) ∧ (szT Tryz.prog 118 = some 5) ∧ (szT Tryz.prog 44 = some 2) ∧ (zeroT Tryz.prog 118 = some [.int .i64 0, .int .i64 0, .slice none 0 0, .slice none 0 0, .slice none 0 0]) ∧ (zeroT Tryz.prog 122 = some [.slice none 0 0, .slice none 0 0, .slice none 0 0]) ∧ (zeroT Tryz.prog 44 = some [.int .i64 0, .int .i64 0]) := ⟨eq_true Tryz.call54, eq_true Tryz.call55, tr17, tr36, tr37, tr42, tr61, tr67, tr125, tr126, tr170, tr202, tr226, tr233, tr234, tr259⟩
theorem tf17 : (arT Tryz.prog 22 = none) ∧ (kdT Tryz.prog 3 = some 0) ∧ (ldT Tryz.prog 3 = some none) ∧ (slT Tryz.prog 22 = some (3, 1)) := ⟨tr6, tr36, tr67, tr194⟩
theorem tf18 : (CallT Tryz.prog 54 = True) ∧ (CallT Tryz.prog 56 = True) ∧ (CallT Tryz.prog 57 = True) ∧ (arT Tryz.prog 22 = none) ∧ (elT Tryz.prog 22 = some (3, 1, [.int .i64 0], 8)) ∧ (kdT Tryz.prog 3 = some 0) ∧ (kdT Tryz.prog 33 = some 0) ∧ (ldT Tryz.prog 118 = some (some 5)) ∧ (ldT Tryz.prog 22 = some none) ∧ (ldT Tryz.prog 25 = some (some 5)) ∧ (ldT Tryz.prog 3 = some none) ∧ (placesT Tryz.prog 122 = some [(0, 1), (1, 1), (2, 1)]) ∧ (slT Tryz.prog 22 = some (3, 1)) ∧ (szT Tryz.prog 118 = some 5) ∧ (szT Tryz.prog 22 = some 1) ∧ (szT Tryz.prog 3 = some 1) ∧ (zeroT Tryz.prog 118 = some [.int .i64 0, .int .i64 0, .slice none 0 0, .slice none 0 0, .slice none 0 0]) ∧ (zeroT Tryz.prog 122 = some [.slice none 0 0, .slice none 0 0, .slice none 0 0]) ∧ (zeroT Tryz.prog 22 = some [.slice none 0 0]) := ⟨eq_true Tryz.call54, eq_true Tryz.call56, eq_true Tryz.call57, tr6, tr17, tr36, tr37, tr42, tr57, tr61, tr67, tr170, tr194, tr202, tr214, tr223, tr233, tr234, tr249⟩
theorem tf19 : (CallT Tryz.prog 20 = True) ∧ (CallT Tryz.prog 27 = True) ∧ (kdT Tryz.prog 3 = some 0) ∧ (kdT Tryz.prog 33 = some 0) ∧ (ldT Tryz.prog 23 = some none) ∧ (ldT Tryz.prog 25 = some (some 5)) ∧ (ldT Tryz.prog 3 = some none) ∧ (ldT Tryz.prog 49 = some none) ∧ (ldT Tryz.prog 51 = some (some 8)) ∧ (offT Tryz.prog 25 0 = some 0) ∧ (offT Tryz.prog 25 1 = some 1) ∧ (offT Tryz.prog 25 3 = some 3) ∧ (offT Tryz.prog 51 0 = some 0) ∧ (offT Tryz.prog 51 3 = some 7) ∧ (slT Tryz.prog 23 = some (44, 2)) ∧ (slT Tryz.prog 49 = some (99, 9)) := ⟨eq_true Tryz.call20, eq_true Tryz.call27, tr36, tr37, tr58, tr61, tr67, tr72, tr73, tr113, tr114, tr116, tr129, tr132, tr195, tr198⟩
theorem tf20 : (CallT Tryz.prog 28 = True) ∧ (CallT Tryz.prog 37 = True) ∧ (CallT Tryz.prog 58 = True) ∧ (CallT Tryz.prog 59 = True) ∧ (arT Tryz.prog 49 = none) ∧ (kdT Tryz.prog 3 = some 0) ∧ (kdT Tryz.prog 33 = some 0) ∧ (ldT Tryz.prog 25 = some (some 5)) ∧ (ldT Tryz.prog 3 = some none) ∧ (ldT Tryz.prog 49 = some none) ∧ (ldT Tryz.prog 51 = some (some 8)) ∧ (ldT Tryz.prog 99 = some (some 9)) ∧ (offT Tryz.prog 51 0 = some 0) ∧ (offT Tryz.prog 51 1 = some 5) ∧ (offT Tryz.prog 51 2 = some 6) ∧ (offT Tryz.prog 51 3 = some 7) ∧ (slT Tryz.prog 49 = some (99, 9)) := ⟨eq_true Tryz.call28, eq_true Tryz.call37, eq_true Tryz.call58, eq_true Tryz.call59, tr10, tr36, tr37, tr61, tr67, tr72, tr73, tr79, tr129, tr130, tr131, tr132, tr198⟩
theorem tf21 : (CallT Tryz.prog 60 = True) ∧ (elT Tryz.prog 49 = some (99, 9, [.int .i64 0, .int .i64 0, .int .i64 0, .int .i64 0, .int .i64 0, .int .i64 0, .int .i64 0, .bool false, .int .i64 0], 72)) ∧ (ldT Tryz.prog 25 = some (some 5)) ∧ (ldT Tryz.prog 49 = some none) ∧ (ldT Tryz.prog 51 = some (some 8)) ∧ (offT Tryz.prog 51 0 = some 0) ∧ (offT Tryz.prog 51 3 = some 7) ∧ (szT Tryz.prog 25 = some 5) ∧ (szT Tryz.prog 49 = some 1) ∧ (szT Tryz.prog 51 = some 8) ∧ (zeroT Tryz.prog 51 = some [.int .i64 0, .int .i64 0, .slice none 0 0, .slice none 0 0, .slice none 0 0, .int .i64 0, .int .i64 0, .slice none 0 0]) := ⟨eq_true Tryz.call60, tr21, tr61, tr72, tr73, tr129, tr132, tr217, tr228, tr229, tr261⟩
theorem tf22 : (CallT Tryz.prog 61 = True) ∧ (CallT Tryz.prog 62 = True) ∧ (CallT Tryz.prog 63 = True) ∧ (CallT Tryz.prog 64 = True) ∧ (kdT Tryz.prog 3 = some 0) ∧ (kdT Tryz.prog 33 = some 0) ∧ (ldT Tryz.prog 51 = some (some 8)) ∧ (slT Tryz.prog 22 = some (3, 1)) := ⟨eq_true Tryz.call61, eq_true Tryz.call62, eq_true Tryz.call63, eq_true Tryz.call64, tr36, tr37, tr73, tr194⟩
theorem tf23 : (CallT Tryz.prog 65 = True) ∧ (CallT Tryz.prog 66 = True) ∧ (CallT Tryz.prog 67 = True) ∧ (kdT Tryz.prog 3 = some 0) ∧ (kdT Tryz.prog 33 = some 0) ∧ (ldT Tryz.prog 51 = some (some 8)) := ⟨eq_true Tryz.call65, eq_true Tryz.call66, eq_true Tryz.call67, tr36, tr37, tr73⟩
theorem tf27 : (CallT Tryz.prog 28 = True) ∧ (kdT Tryz.prog 3 = some 0) ∧ (kdT Tryz.prog 33 = some 0) ∧ (ldT Tryz.prog 22 = some none) ∧ (ldT Tryz.prog 23 = some none) ∧ (ldT Tryz.prog 25 = some (some 5)) ∧ (ldT Tryz.prog 3 = some none) ∧ (offT Tryz.prog 25 0 = some 0) ∧ (offT Tryz.prog 25 1 = some 1) ∧ (offT Tryz.prog 25 2 = some 2) ∧ (offT Tryz.prog 25 3 = some 3) ∧ (offT Tryz.prog 25 4 = some 4) ∧ (slT Tryz.prog 22 = some (3, 1)) ∧ (slT Tryz.prog 23 = some (44, 2)) := ⟨eq_true Tryz.call28, tr36, tr37, tr57, tr58, tr61, tr67, tr113, tr114, tr115, tr116, tr117, tr194, tr195⟩
theorem tf28 : (CallT Tryz.prog 43 = True) ∧ (arT Tryz.prog 22 = none) ∧ (arT Tryz.prog 23 = none) ∧ (kdT Tryz.prog 3 = some 0) ∧ (ldT Tryz.prog 22 = some none) ∧ (ldT Tryz.prog 23 = some none) ∧ (ldT Tryz.prog 3 = some none) ∧ (offT Tryz.prog 25 0 = some 0) ∧ (offT Tryz.prog 25 1 = some 1) ∧ (offT Tryz.prog 25 2 = some 2) ∧ (offT Tryz.prog 25 3 = some 3) ∧ (offT Tryz.prog 25 4 = some 4) ∧ (offT Tryz.prog 44 0 = some 0) ∧ (offT Tryz.prog 44 1 = some 1) ∧ (slT Tryz.prog 22 = some (3, 1)) ∧ (slT Tryz.prog 23 = some (44, 2)) := ⟨eq_true Tryz.call43, tr6, tr7, tr36, tr57, tr58, tr67, tr113, tr114, tr115, tr116, tr117, tr125, tr126, tr194, tr195⟩
theorem tf31 : (arT Tryz.prog 22 = none) ∧ (kdT Tryz.prog 3 = some 0) ∧ (ldT Tryz.prog 22 = some none) ∧ (ldT Tryz.prog 3 = some none) ∧ (offT Tryz.prog 25 2 = some 2) ∧ (offT Tryz.prog 25 4 = some 4) ∧ (slT Tryz.prog 22 = some (3, 1)) := ⟨tr6, tr36, tr57, tr67, tr115, tr117, tr194⟩
theorem tf37 : (CallT Tryz.prog 43 = True) := eq_true Tryz.call43
theorem tf40 : (kdT Tryz.prog 3 = some 0) ∧ (ldT Tryz.prog 3 = some none) ∧ (offT Tryz.prog 25 0 = some 0) ∧ (offT Tryz.prog 25 1 = some 1) := ⟨tr36, tr67, tr113, tr114⟩
theorem tf43 : (kdT Tryz.prog 3 = some 0) := tr36
theorem tf44 : (CallT Tryz.prog 88 = True) ∧ (elT Tryz.prog 49 = some (99, 9, [.int .i64 0, .int .i64 0, .int .i64 0, .int .i64 0, .int .i64 0, .int .i64 0, .int .i64 0, .bool false, .int .i64 0], 72)) ∧ (ldT Tryz.prog 51 = some (some 8)) ∧ (ldT Tryz.prog 99 = some (some 9)) ∧ (placesT Tryz.prog 51 = some [(0, 5), (5, 1), (6, 1), (7, 1)]) ∧ (placesT Tryz.prog 99 = some [(0, 1), (1, 1), (2, 1), (3, 1), (4, 1), (5, 1), (6, 1), (7, 1), (8, 1)]) ∧ (szT Tryz.prog 51 = some 8) ∧ (szT Tryz.prog 99 = some 9) ∧ (zeroT Tryz.prog 51 = some [.int .i64 0, .int .i64 0, .slice none 0 0, .slice none 0 0, .slice none 0 0, .int .i64 0, .int .i64 0, .slice none 0 0]) ∧ (zeroT Tryz.prog 99 = some [.int .i64 0, .int .i64 0, .int .i64 0, .int .i64 0, .int .i64 0, .int .i64 0, .int .i64 0, .bool false, .int .i64 0]) := ⟨eq_true Tryz.call88, tr21, tr73, tr79, tr185, tr186, tr229, tr230, tr261, tr262⟩
theorem tf45 : (CallT Tryz.prog 64 = True) ∧ (CallT Tryz.prog 65 = True) ∧ (CallT Tryz.prog 66 = True) ∧ (kdT Tryz.prog 3 = some 0) ∧ (kdT Tryz.prog 33 = some 0) ∧ (ldT Tryz.prog 51 = some (some 8)) := ⟨eq_true Tryz.call64, eq_true Tryz.call65, eq_true Tryz.call66, tr36, tr37, tr73⟩
theorem tf46 : (CallT Tryz.prog 88 = True) ∧ (elT Tryz.prog 105 = some (175, 3, [.int .i64 0, .slice none 0 0, .bool false], 40)) ∧ (elT Tryz.prog 22 = some (3, 1, [.int .i64 0], 8)) ∧ (elT Tryz.prog 26 = some (27, 1, [.slice none 0 0], 24)) ∧ (elT Tryz.prog 27 = some (46, 3, [.int .i64 0, .int .i64 0, .int .i64 0], 24)) ∧ (kdT Tryz.prog 3 = some 0) ∧ (ldT Tryz.prog 104 = some (some 4)) ∧ (ldT Tryz.prog 27 = some none) ∧ (ldT Tryz.prog 29 = some (some 8)) ∧ (offT Tryz.prog 29 2 = some 6) ∧ (offT Tryz.prog 29 3 = some 7) ∧ (placesT Tryz.prog 104 = some [(0, 1), (1, 1), (2, 2)]) ∧ (placesT Tryz.prog 175 = some [(0, 1), (1, 1), (2, 1)]) ∧ (placesT Tryz.prog 29 = some [(0, 5), (5, 1), (6, 1), (7, 1)]) ∧ (placesT Tryz.prog 44 = some [(0, 1), (1, 1)]) ∧ (placesT Tryz.prog 46 = some [(0, 1), (1, 2)]) ∧ (szT Tryz.prog 104 = some 4) ∧ (szT Tryz.prog 26 = some 1) ∧ (szT Tryz.prog 27 = some 1) ∧ (szT Tryz.prog 29 = some 8) ∧ (zeroT Tryz.prog 104 = some [.int .i64 0, .slice none 0 0, .int .i64 0, .int .i64 0]) ∧ (zeroT Tryz.prog 175 = some [.int .i64 0, .slice none 0 0, .bool false]) ∧ (zeroT Tryz.prog 29 = some [.int .i64 0, .int .i64 0, .slice none 0 0, .slice none 0 0, .slice none 0 0, .slice none 0 0, .slice none 0 0, .slice none 0 0]) ∧ (zeroT Tryz.prog 44 = some [.int .i64 0, .int .i64 0]) ∧ (zeroT Tryz.prog 46 = some [.int .i64 0, .int .i64 0, .int .i64 0]) := ⟨eq_true Tryz.call88, tr13, tr17, tr19, tr20, tr36, tr39, tr65, tr66, tr120, tr121, tr167, tr174, tr182, tr183, tr184, tr201, tr218, tr221, tr222, tr231, tr242, tr255, tr259, tr260⟩
theorem tf47 : (arT Tryz.prog 22 = none) ∧ (kdT Tryz.prog 3 = some 0) ∧ (ldT Tryz.prog 3 = some none) ∧ (slT Tryz.prog 22 = some (3, 1)) := ⟨tr6, tr36, tr67, tr194⟩
theorem tf48 : (CallT Tryz.prog 50 = True) ∧ (CallT Tryz.prog 89 = True) ∧ (CallT Tryz.prog 90 = True) ∧ (CallT Tryz.prog 91 = True) ∧ (CallT Tryz.prog 92 = True) ∧ (CallT Tryz.prog 93 = True) ∧ (kdT Tryz.prog 3 = some 0) ∧ (kdT Tryz.prog 33 = some 0) ∧ (ldT Tryz.prog 22 = some none) ∧ (ldT Tryz.prog 25 = some (some 5)) ∧ (ldT Tryz.prog 26 = some none) ∧ (ldT Tryz.prog 27 = some none) ∧ (ldT Tryz.prog 29 = some (some 8)) ∧ (offT Tryz.prog 25 2 = some 2) ∧ (offT Tryz.prog 29 0 = some 0) ∧ (offT Tryz.prog 29 1 = some 5) ∧ (offT Tryz.prog 29 2 = some 6) ∧ (offT Tryz.prog 29 3 = some 7) ∧ (placesT Tryz.prog 179 = some [(0, 8), (8, 1), (9, 1)]) ∧ (slT Tryz.prog 22 = some (3, 1)) ∧ (slT Tryz.prog 26 = some (27, 1)) ∧ (zeroT Tryz.prog 179 = some [.int .i64 0, .int .i64 0, .slice none 0 0, .slice none 0 0, .slice none 0 0, .slice none 0 0, .slice none 0 0, .slice none 0 0, .map none, .map none]) := ⟨eq_true Tryz.call50, eq_true Tryz.call89, eq_true Tryz.call90, eq_true Tryz.call91, eq_true Tryz.call92, eq_true Tryz.call93, tr36, tr37, tr57, tr61, tr62, tr65, tr66, tr115, tr118, tr119, tr120, tr121, tr175, tr194, tr196, tr243⟩
theorem tf49 : (CallT Tryz.prog 50 = True) ∧ (kdT Tryz.prog 3 = some 0) ∧ (ldT Tryz.prog 22 = some none) ∧ (offT Tryz.prog 179 0 = some 0) ∧ (offT Tryz.prog 25 2 = some 2) ∧ (offT Tryz.prog 29 0 = some 0) ∧ (slT Tryz.prog 22 = some (3, 1)) := ⟨eq_true Tryz.call50, tr36, tr57, tr97, tr115, tr118, tr194⟩
theorem tf50 : (kdT Tryz.prog 3 = some 0) := tr36
theorem tf51 : (kdT Tryz.prog 3 = some 0) ∧ (ldT Tryz.prog 23 = some none) ∧ (offT Tryz.prog 179 0 = some 0) ∧ (offT Tryz.prog 25 3 = some 3) ∧ (offT Tryz.prog 29 0 = some 0) ∧ (slT Tryz.prog 23 = some (44, 2)) := ⟨tr36, tr58, tr97, tr116, tr118, tr195⟩
theorem tf52 : (elT Tryz.prog 22 = some (3, 1, [.int .i64 0], 8)) ∧ (kdT Tryz.prog 22 = some 2) := ⟨tr17, tr30⟩
theorem tf53 : (CallT Tryz.prog 100 = True) ∧ (CallT Tryz.prog 94 = True) ∧ (CallT Tryz.prog 95 = True) ∧ (CallT Tryz.prog 96 = True) ∧ (CallT Tryz.prog 97 = True) ∧ (CallT Tryz.prog 98 = True) ∧ (CallT Tryz.prog 99 = True) ∧ (arT Tryz.prog 22 = none) ∧ (arT Tryz.prog 23 = none) ∧ (arT Tryz.prog 26 = none) ∧ (arT Tryz.prog 27 = none) ∧ (elT Tryz.prog 22 = some (3, 1, [.int .i64 0], 8)) ∧ (kdT Tryz.prog 3 = some 0) ∧ (ldT Tryz.prog 109 = some none) ∧ (ldT Tryz.prog 116 = some (some 3)) ∧ (ldT Tryz.prog 134 = some none) ∧ (ldT Tryz.prog 176 = some none) ∧ (ldT Tryz.prog 22 = some none) ∧ (ldT Tryz.prog 23 = some none) ∧ (ldT Tryz.prog 26 = some none) ∧ (ldT Tryz.prog 27 = some none) ∧ (ldT Tryz.prog 3 = some none) ∧ (ldT Tryz.prog 46 = some (some 3)) ∧ (offT Tryz.prog 116 0 = some 0) ∧ (offT Tryz.prog 116 1 = some 1) ∧ (offT Tryz.prog 179 0 = some 0) ∧ (offT Tryz.prog 179 1 = some 8) ∧ (offT Tryz.prog 25 3 = some 3) ∧ (offT Tryz.prog 29 0 = some 0) ∧ (offT Tryz.prog 29 1 = some 5) ∧ (offT Tryz.prog 29 2 = some 6) ∧ (offT Tryz.prog 29 3 = some 7) ∧ (offT Tryz.prog 44 0 = some 0) ∧ (offT Tryz.prog 44 1 = some 1) ∧ (slT Tryz.prog 22 = some (3, 1)) ∧ (slT Tryz.prog 23 = some (44, 2)) ∧ (slT Tryz.prog 26 = some (27, 1)) ∧ (slT Tryz.prog 27 = some (46, 3)) ∧ (szT Tryz.prog 134 = some 1) ∧ (szT Tryz.prog 22 = some 1) ∧ (szT Tryz.prog 3 = some 1) ∧ (zeroT Tryz.prog 134 = some [.nilFunc]) ∧ (zeroT Tryz.prog 22 = some [.slice none 0 0]) ∧ (zeroT Tryz.prog 3 = some [.int .i64 0]) := ⟨eq_true Tryz.call100, eq_true Tryz.call94, eq_true Tryz.call95, eq_true Tryz.call96, eq_true Tryz.call97, eq_true Tryz.call98, eq_true Tryz.call99, tr6, tr7, tr8, tr9, tr17, tr36, tr40, tr41, tr43, tr51, tr57, tr58, tr62, tr65, tr67, tr71, tr80, tr81, tr97, tr98, tr116, tr118, tr119, tr120, tr121, tr125, tr126, tr194, tr195, tr196, tr197, tr203, tr214, tr223, tr235, tr249, tr256⟩
theorem tf54 : (CallT Tryz.prog 101 = True) ∧ (CallT Tryz.prog 103 = True) ∧ (CallT Tryz.prog 104 = True) ∧ (CallT Tryz.prog 105 = True) ∧ (CallT Tryz.prog 90 = True) ∧ (kdT Tryz.prog 33 = some 0) ∧ (ldT Tryz.prog 118 = some (some 5)) ∧ (ldT Tryz.prog 22 = some none) ∧ (ldT Tryz.prog 25 = some (some 5)) ∧ (offT Tryz.prog 122 0 = some 0) ∧ (offT Tryz.prog 122 1 = some 1) ∧ (offT Tryz.prog 122 2 = some 2) ∧ (placesT Tryz.prog 118 = some [(0, 5)]) ∧ (szT Tryz.prog 118 = some 5) ∧ (zeroT Tryz.prog 118 = some [.int .i64 0, .int .i64 0, .slice none 0 0, .slice none 0 0, .slice none 0 0]) := ⟨eq_true Tryz.call101, eq_true Tryz.call103, eq_true Tryz.call104, eq_true Tryz.call105, eq_true Tryz.call90, tr37, tr42, tr57, tr61, tr84, tr85, tr86, tr169, tr202, tr233⟩
theorem tf55 : (arT Tryz.prog 22 = none) ∧ (arT Tryz.prog 23 = none) ∧ (kdT Tryz.prog 3 = some 0) ∧ (ldT Tryz.prog 22 = some none) ∧ (ldT Tryz.prog 23 = some none) ∧ (ldT Tryz.prog 3 = some none) ∧ (ldT Tryz.prog 44 = some (some 2)) ∧ (offT Tryz.prog 118 0 = some 0) ∧ (offT Tryz.prog 25 2 = some 2) ∧ (offT Tryz.prog 25 3 = some 3) ∧ (offT Tryz.prog 25 4 = some 4) ∧ (offT Tryz.prog 44 0 = some 0) ∧ (offT Tryz.prog 44 1 = some 1) ∧ (placesT Tryz.prog 44 = some [(0, 1), (1, 1)]) ∧ (slT Tryz.prog 22 = some (3, 1)) ∧ (slT Tryz.prog 23 = some (44, 2)) ∧ (szT Tryz.prog 44 = some 2) ∧ (zeroT Tryz.prog 44 = some [.int .i64 0, .int .i64 0]) := ⟨tr6, tr7, tr36, tr57, tr58, tr67, tr70, tr83, tr115, tr116, tr117, tr125, tr126, tr183, tr194, tr195, tr226, tr259⟩
theorem tf56 : (CallT Tryz.prog 106 = True) ∧ (elT Tryz.prog 22 = some (3, 1, [.int .i64 0], 8)) ∧ (ldT Tryz.prog 22 = some none) ∧ (offT Tryz.prog 118 0 = some 0) ∧ (offT Tryz.prog 25 2 = some 2) ∧ (slT Tryz.prog 22 = some (3, 1)) := ⟨eq_true Tryz.call106, tr17, tr57, tr83, tr115, tr194⟩
theorem tf57 : (CallT Tryz.prog 107 = True) := eq_true Tryz.call107
theorem tf58 : (kdT Tryz.prog 3 = some 0) := tr36
theorem tf59 : (CallT Tryz.prog 109 = True) ∧ (CallT Tryz.prog 12 = True) ∧ (CallT Tryz.prog 13 = True) ∧ (CallT Tryz.prog 58 = True) ∧ (kdT Tryz.prog 3 = some 0) ∧ (ldT Tryz.prog 25 = some (some 5)) ∧ (ldT Tryz.prog 3 = some none) ∧ (ldT Tryz.prog 4 = some none) ∧ (ldT Tryz.prog 99 = some (some 9)) ∧ (offT Tryz.prog 51 0 = some 0) ∧ (offT Tryz.prog 99 0 = some 0) ∧ (offT Tryz.prog 99 1 = some 1) ∧ (offT Tryz.prog 99 2 = some 2) ∧ (offT Tryz.prog 99 3 = some 3) ∧ (offT Tryz.prog 99 4 = some 4) ∧ (offT Tryz.prog 99 5 = some 5) ∧ (offT Tryz.prog 99 6 = some 6) ∧ (offT Tryz.prog 99 7 = some 7) ∧ (offT Tryz.prog 99 8 = some 8) := ⟨eq_true Tryz.call109, eq_true Tryz.call12, eq_true Tryz.call13, eq_true Tryz.call58, tr36, tr61, tr67, tr69, tr79, tr129, tr158, tr159, tr160, tr161, tr162, tr163, tr164, tr165, tr166⟩
theorem tf60 : (elT Tryz.prog 22 = some (3, 1, [.int .i64 0], 8)) ∧ (elT Tryz.prog 23 = some (44, 2, [.int .i64 0, .int .i64 0], 16)) ∧ (ldT Tryz.prog 22 = some none) ∧ (ldT Tryz.prog 23 = some none) ∧ (ldT Tryz.prog 25 = some (some 5)) ∧ (offT Tryz.prog 25 2 = some 2) ∧ (offT Tryz.prog 25 3 = some 3) ∧ (offT Tryz.prog 25 4 = some 4) ∧ (szT Tryz.prog 22 = some 1) ∧ (szT Tryz.prog 23 = some 1) ∧ (szT Tryz.prog 25 = some 5) ∧ (zeroT Tryz.prog 25 = some [.int .i64 0, .int .i64 0, .slice none 0 0, .slice none 0 0, .slice none 0 0]) := ⟨tr17, tr18, tr57, tr58, tr61, tr115, tr116, tr117, tr214, tr215, tr217, tr252⟩
theorem tf61 : (CallT Tryz.prog 110 = True) ∧ (CallT Tryz.prog 65 = True) ∧ (kdT Tryz.prog 3 = some 0) ∧ (kdT Tryz.prog 33 = some 0) ∧ (ldT Tryz.prog 22 = some none) ∧ (ldT Tryz.prog 23 = some none) ∧ (ldT Tryz.prog 51 = some (some 8)) ∧ (offT Tryz.prog 25 2 = some 2) ∧ (offT Tryz.prog 25 3 = some 3) ∧ (offT Tryz.prog 51 0 = some 0) ∧ (slT Tryz.prog 22 = some (3, 1)) ∧ (slT Tryz.prog 23 = some (44, 2)) := ⟨eq_true Tryz.call110, eq_true Tryz.call65, tr36, tr37, tr57, tr58, tr73, tr115, tr116, tr129, tr194, tr195⟩
theorem tf62 : (arT Tryz.prog 22 = none) ∧ (elT Tryz.prog 22 = some (3, 1, [.int .i64 0], 8)) ∧ (kdT Tryz.prog 3 = some 0) ∧ (ldT Tryz.prog 3 = some none) ∧ (slT Tryz.prog 22 = some (3, 1)) := ⟨tr6, tr17, tr36, tr67, tr194⟩
theorem tf63 : (CallT Tryz.prog 111 = True) ∧ (CallT Tryz.prog 112 = True) ∧ (CallT Tryz.prog 113 = True) ∧ (CallT Tryz.prog 114 = True) ∧ (arT Tryz.prog 194 = none) ∧ (elT Tryz.prog 22 = some (3, 1, [.int .i64 0], 8)) ∧ (kdT Tryz.prog 3 = some 0) ∧ (ldT Tryz.prog 22 = some none) ∧ (slT Tryz.prog 194 = some (22, 1)) ∧ (slT Tryz.prog 22 = some (3, 1)) := ⟨eq_true Tryz.call111, eq_true Tryz.call112, eq_true Tryz.call113, eq_true Tryz.call114, tr5, tr17, tr36, tr57, tr192, tr194⟩
theorem tf64 : True := trivial
theorem tf65 : (CallT Tryz.prog 115 = True) ∧ (CallT Tryz.prog 116 = True) ∧ (CallT Tryz.prog 16 = True) ∧ (CallT Tryz.prog 18 = True) ∧ (arT Tryz.prog 166 = none) ∧ (arT Tryz.prog 22 = none) ∧ (arT Tryz.prog 49 = none) ∧ (elT Tryz.prog 163 = some (166, 1, [.slice none 0 0], 24)) ∧ (elT Tryz.prog 166 = some (4, 1, [.bool false], 1)) ∧ (elT Tryz.prog 194 = some (22, 1, [.slice none 0 0], 24)) ∧ (elT Tryz.prog 22 = some (3, 1, [.int .i64 0], 8)) ∧ (kdT Tryz.prog 3 = some 0) ∧ (kdT Tryz.prog 33 = some 0) ∧ (ldT Tryz.prog 163 = some none) ∧ (ldT Tryz.prog 194 = some none) ∧ (ldT Tryz.prog 22 = some none) ∧ (ldT Tryz.prog 23 = some none) ∧ (ldT Tryz.prog 25 = some (some 5)) ∧ (ldT Tryz.prog 3 = some none) ∧ (ldT Tryz.prog 49 = some none) ∧ (ldT Tryz.prog 51 = some (some 8)) ∧ (ldT Tryz.prog 99 = some (some 9)) ∧ (offT Tryz.prog 199 1 = some 8) ∧ (offT Tryz.prog 199 2 = some 9) ∧ (offT Tryz.prog 199 3 = some 10) ∧ (offT Tryz.prog 25 2 = some 2) ∧ (offT Tryz.prog 25 3 = some 3) ∧ (offT Tryz.prog 51 0 = some 0) ∧ (offT Tryz.prog 51 1 = some 5) ∧ (offT Tryz.prog 51 3 = some 7) ∧ (placesT Tryz.prog 199 = some [(0, 8), (8, 1), (9, 1), (10, 1)]) ∧ (slT Tryz.prog 166 = some (4, 1)) ∧ (slT Tryz.prog 22 = some (3, 1)) ∧ (slT Tryz.prog 23 = some (44, 2)) ∧ (slT Tryz.prog 49 = some (99, 9)) ∧ (szT Tryz.prog 163 = some 1) ∧ (szT Tryz.prog 194 = some 1) ∧ (szT Tryz.prog 3 = some 1) ∧ (szT Tryz.prog 4 = some 1) ∧ (szT Tryz.prog 99 = some 9) ∧ (zeroT Tryz.prog 199 = some [.int .i64 0, .int .i64 0, .slice none 0 0, .slice none 0 0, .slice none 0 0, .int .i64 0, .int .i64 0, .slice none 0 0, .slice none 0 0, .slice none 0 0, .slice none 0 0]) ∧ (zeroT Tryz.prog 99 = some [.int .i64 0, .int .i64 0, .int .i64 0, .int .i64 0, .int .i64 0, .int .i64 0, .int .i64 0, .bool false, .int .i64 0]) := ⟨eq_true Tryz.call115, eq_true Tryz.call116, eq_true Tryz.call16, eq_true Tryz.call18, tr3, tr6, tr10, tr14, tr15, tr16, tr17, tr36, tr37, tr48, tr54, tr57, tr58, tr61, tr67, tr72, tr73, tr79, tr104, tr105, tr106, tr115, tr116, tr129, tr130, tr132, tr176, tr190, tr194, tr195, tr198, tr207, tr210, tr223, tr225, tr230, tr245, tr262⟩
theorem tf66 : (CallT Tryz.prog 111 = True) ∧ (CallT Tryz.prog 112 = True) ∧ (CallT Tryz.prog 117 = True) ∧ (CallT Tryz.prog 118 = True) ∧ (arT Tryz.prog 194 = none) ∧ (arT Tryz.prog 22 = none) ∧ (elT Tryz.prog 22 = some (3, 1, [.int .i64 0], 8)) ∧ (kdT Tryz.prog 3 = some 0) ∧ (ldT Tryz.prog 194 = some none) ∧ (ldT Tryz.prog 22 = some none) ∧ (ldT Tryz.prog 3 = some none) ∧ (offT Tryz.prog 199 0 = some 0) ∧ (offT Tryz.prog 199 1 = some 8) ∧ (offT Tryz.prog 51 2 = some 6) ∧ (slT Tryz.prog 194 = some (22, 1)) ∧ (slT Tryz.prog 22 = some (3, 1)) := ⟨eq_true Tryz.call111, eq_true Tryz.call112, eq_true Tryz.call117, eq_true Tryz.call118, tr5, tr6, tr17, tr36, tr54, tr57, tr67, tr103, tr104, tr131, tr192, tr194⟩
theorem tf67 : (arT Tryz.prog 49 = none) ∧ (ldT Tryz.prog 3 = some none) ∧ (ldT Tryz.prog 4 = some none) ∧ (ldT Tryz.prog 49 = some none) ∧ (ldT Tryz.prog 99 = some (some 9)) ∧ (offT Tryz.prog 199 0 = some 0) ∧ (offT Tryz.prog 51 3 = some 7) ∧ (offT Tryz.prog 99 7 = some 7) ∧ (offT Tryz.prog 99 8 = some 8) ∧ (slT Tryz.prog 49 = some (99, 9)) ∧ (szT Tryz.prog 99 = some 9) ∧ (zeroT Tryz.prog 99 = some [.int .i64 0, .int .i64 0, .int .i64 0, .int .i64 0, .int .i64 0, .int .i64 0, .int .i64 0, .bool false, .int .i64 0]) := ⟨tr10, tr67, tr69, tr72, tr79, tr103, tr132, tr165, tr166, tr198, tr230, tr262⟩
theorem tf88 : (elT Tryz.prog 22 = some (3, 1, [.int .i64 0], 8)) ∧ (elT Tryz.prog 23 = some (44, 2, [.int .i64 0, .int .i64 0], 16)) ∧ (ldT Tryz.prog 25 = some (some 5)) ∧ (placesT Tryz.prog 25 = some [(0, 1), (1, 1), (2, 1), (3, 1), (4, 1)]) ∧ (placesT Tryz.prog 44 = some [(0, 1), (1, 1)]) ∧ (szT Tryz.prog 25 = some 5) ∧ (zeroT Tryz.prog 25 = some [.int .i64 0, .int .i64 0, .slice none 0 0, .slice none 0 0, .slice none 0 0]) ∧ (zeroT Tryz.prog 44 = some [.int .i64 0, .int .i64 0]) := ⟨tr17, tr18, tr61, tr180, tr183, tr217, tr252, tr259⟩
theorem tf89 : (CallT Tryz.prog 50 = True) ∧ (kdT Tryz.prog 3 = some 0) ∧ (ldT Tryz.prog 26 = some none) ∧ (offT Tryz.prog 29 2 = some 6) ∧ (slT Tryz.prog 26 = some (27, 1)) := ⟨eq_true Tryz.call50, tr36, tr62, tr120, tr196⟩
theorem tf90 : (CallT Tryz.prog 102 = True) ∧ (CallT Tryz.prog 105 = True) ∧ (CallT Tryz.prog 135 = True) ∧ (CallT Tryz.prog 136 = True) ∧ (CallT Tryz.prog 137 = True) ∧ (CallT Tryz.prog 138 = True) ∧ (kdT Tryz.prog 3 = some 0) ∧ (ldT Tryz.prog 22 = some none) ∧ (ldT Tryz.prog 23 = some none) ∧ (ldT Tryz.prog 3 = some none) ∧ (offT Tryz.prog 25 0 = some 0) ∧ (offT Tryz.prog 25 1 = some 1) ∧ (offT Tryz.prog 25 2 = some 2) ∧ (offT Tryz.prog 25 3 = some 3) ∧ (offT Tryz.prog 25 4 = some 4) ∧ (slT Tryz.prog 22 = some (3, 1)) ∧ (slT Tryz.prog 23 = some (44, 2)) := ⟨eq_true Tryz.call102, eq_true Tryz.call105, eq_true Tryz.call135, eq_true Tryz.call136, eq_true Tryz.call137, eq_true Tryz.call138, tr36, tr57, tr58, tr67, tr113, tr114, tr115, tr116, tr117, tr194, tr195⟩
theorem tf91 : (arT Tryz.prog 22 = none) ∧ (kdT Tryz.prog 3 = some 0) ∧ (ldT Tryz.prog 3 = some none) ∧ (slT Tryz.prog 22 = some (3, 1)) := ⟨tr6, tr36, tr67, tr194⟩
theorem tf92 : (arT Tryz.prog 26 = none) ∧ (kdT Tryz.prog 3 = some 0) ∧ (ldT Tryz.prog 27 = some none) ∧ (slT Tryz.prog 26 = some (27, 1)) := ⟨tr8, tr36, tr65, tr196⟩
theorem tf93 : (CallT Tryz.prog 139 = True) ∧ (CallT Tryz.prog 140 = True) ∧ (CallT Tryz.prog 51 = True) ∧ (kdT Tryz.prog 3 = some 0) ∧ (slT Tryz.prog 27 = some (46, 3)) := ⟨eq_true Tryz.call139, eq_true Tryz.call140, eq_true Tryz.call51, tr36, tr197⟩
theorem tf94 : True := trivial
theorem tf95 : (kdT Tryz.prog 3 = some 0) ∧ (ldT Tryz.prog 3 = some none) ∧ (offT Tryz.prog 116 2 = some 2) := ⟨tr36, tr67, tr82⟩
theorem tf96 : (arT Tryz.prog 22 = none) ∧ (kdT Tryz.prog 3 = some 0) ∧ (ldT Tryz.prog 22 = some none) ∧ (ldT Tryz.prog 3 = some none) ∧ (offT Tryz.prog 179 0 = some 0) ∧ (offT Tryz.prog 25 2 = some 2) ∧ (offT Tryz.prog 25 4 = some 4) ∧ (offT Tryz.prog 29 0 = some 0) ∧ (slT Tryz.prog 22 = some (3, 1)) := ⟨tr6, tr36, tr57, tr67, tr97, tr115, tr117, tr118, tr194⟩
theorem tf97 : (CallT Tryz.prog 142 = True) := eq_true Tryz.call142
theorem tf98 : (elT Tryz.prog 22 = some (3, 1, [.int .i64 0], 8)) ∧ (ldT Tryz.prog 22 = some none) ∧ (szT Tryz.prog 22 = some 1) := ⟨tr17, tr57, tr214⟩
theorem tf101 : (CallT Tryz.prog 102 = True) ∧ (kdT Tryz.prog 3 = some 0) ∧ (ldT Tryz.prog 22 = some none) ∧ (offT Tryz.prog 25 2 = some 2) ∧ (slT Tryz.prog 22 = some (3, 1)) := ⟨eq_true Tryz.call102, tr36, tr57, tr115, tr194⟩
theorem tf102 : (kdT Tryz.prog 3 = some 0) := tr36
theorem tf103 : (CallT Tryz.prog 102 = True) ∧ (kdT Tryz.prog 3 = some 0) ∧ (ldT Tryz.prog 23 = some none) ∧ (offT Tryz.prog 25 3 = some 3) ∧ (slT Tryz.prog 23 = some (44, 2)) := ⟨eq_true Tryz.call102, tr36, tr58, tr116, tr195⟩
theorem tf104 : (CallT Tryz.prog 102 = True) := eq_true Tryz.call102
theorem tf105 : (CallT Tryz.prog 146 = True) ∧ (kdT Tryz.prog 3 = some 0) := ⟨eq_true Tryz.call146, tr36⟩
theorem tf106 : (CallT Tryz.prog 147 = True) ∧ (elT Tryz.prog 22 = some (3, 1, [.int .i64 0], 8)) ∧ (intT Tryz.prog 231 = some .u64) ∧ (intT Tryz.prog 3 = some .i64) ∧ (kdT Tryz.prog 231 = some 0) ∧ (kdT Tryz.prog 3 = some 0) ∧ (slT Tryz.prog 22 = some (3, 1)) := ⟨eq_true Tryz.call147, tr17, tr23, tr27, tr31, tr36, tr194⟩
theorem tf107 : (CallT Tryz.prog 108 = True) ∧ (kdT Tryz.prog 3 = some 0) ∧ (ldT Tryz.prog 118 = some (some 5)) ∧ (ldT Tryz.prog 3 = some none) := ⟨eq_true Tryz.call108, tr36, tr42, tr67⟩
theorem tf108 : (CallT Tryz.prog 102 = True) ∧ (arT Tryz.prog 189 = some (6, 3, some 3)) ∧ (kdT Tryz.prog 3 = some 0) ∧ (ldT Tryz.prog 188 = some (some 3)) ∧ (ldT Tryz.prog 3 = some none) ∧ (offT Tryz.prog 118 0 = some 0) ∧ (offT Tryz.prog 188 0 = some 0) ∧ (offT Tryz.prog 188 1 = some 1) ∧ (offT Tryz.prog 188 2 = some 2) ∧ (offT Tryz.prog 25 0 = some 0) ∧ (offT Tryz.prog 25 1 = some 1) ∧ (slT Tryz.prog 189 = none) ∧ (szT Tryz.prog 188 = some 3) ∧ (zeroT Tryz.prog 188 = some [.int .i64 0, .int .i64 0, .int .i64 0]) := ⟨eq_true Tryz.call102, tr4, tr36, tr53, tr67, tr83, tr100, tr101, tr102, tr113, tr114, tr191, tr209, tr244⟩
theorem tf109 : (CallT Tryz.prog 148 = True) ∧ (CallT Tryz.prog 58 = True) ∧ (kdT Tryz.prog 3 = some 0) ∧ (ldT Tryz.prog 3 = some none) ∧ (offT Tryz.prog 99 3 = some 3) ∧ (offT Tryz.prog 99 4 = some 4) ∧ (offT Tryz.prog 99 5 = some 5) ∧ (offT Tryz.prog 99 6 = some 6) := ⟨eq_true Tryz.call148, eq_true Tryz.call58, tr36, tr67, tr161, tr162, tr163, tr164⟩
theorem tf110 : (kdT Tryz.prog 3 = some 0) := tr36
theorem tf111 : (CallT Tryz.prog 106 = True) ∧ (arT Tryz.prog 163 = none) ∧ (arT Tryz.prog 166 = none) ∧ (arT Tryz.prog 194 = none) ∧ (arT Tryz.prog 22 = none) ∧ (arT Tryz.prog 49 = none) ∧ (elT Tryz.prog 194 = some (22, 1, [.slice none 0 0], 24)) ∧ (elT Tryz.prog 22 = some (3, 1, [.int .i64 0], 8)) ∧ (kdT Tryz.prog 3 = some 0) ∧ (ldT Tryz.prog 163 = some none) ∧ (ldT Tryz.prog 166 = some none) ∧ (ldT Tryz.prog 22 = some none) ∧ (ldT Tryz.prog 3 = some none) ∧ (ldT Tryz.prog 4 = some none) ∧ (ldT Tryz.prog 49 = some none) ∧ (ldT Tryz.prog 99 = some (some 9)) ∧ (offT Tryz.prog 199 0 = some 0) ∧ (offT Tryz.prog 199 2 = some 9) ∧ (offT Tryz.prog 199 3 = some 10) ∧ (offT Tryz.prog 51 3 = some 7) ∧ (offT Tryz.prog 99 0 = some 0) ∧ (slT Tryz.prog 163 = some (166, 1)) ∧ (slT Tryz.prog 166 = some (4, 1)) ∧ (slT Tryz.prog 194 = some (22, 1)) ∧ (slT Tryz.prog 22 = some (3, 1)) ∧ (slT Tryz.prog 49 = some (99, 9)) ∧ (szT Tryz.prog 3 = some 1) ∧ (szT Tryz.prog 99 = some 9) ∧ (zeroT Tryz.prog 99 = some [.int .i64 0, .int .i64 0, .int .i64 0, .int .i64 0, .int .i64 0, .int .i64 0, .int .i64 0, .bool false, .int .i64 0]) := ⟨eq_true Tryz.call106, tr2, tr3, tr5, tr6, tr10, tr16, tr17, tr36, tr48, tr49, tr57, tr67, tr69, tr72, tr79, tr103, tr105, tr106, tr132, tr158, tr189, tr190, tr192, tr194, tr198, tr223, tr230, tr262⟩
theorem tf112 : (CallT Tryz.prog 113 = True) ∧ (CallT Tryz.prog 114 = True) ∧ (CallT Tryz.prog 149 = True) ∧ (arT Tryz.prog 194 = none) ∧ (kdT Tryz.prog 3 = some 0) ∧ (ldT Tryz.prog 22 = some none) ∧ (slT Tryz.prog 194 = some (22, 1)) ∧ (szT Tryz.prog 22 = some 1) := ⟨eq_true Tryz.call113, eq_true Tryz.call114, eq_true Tryz.call149, tr5, tr36, tr57, tr192, tr214⟩
theorem tf113 : (CallT Tryz.prog 106 = True) ∧ (arT Tryz.prog 194 = none) ∧ (arT Tryz.prog 22 = none) ∧ (elT Tryz.prog 22 = some (3, 1, [.int .i64 0], 8)) ∧ (kdT Tryz.prog 3 = some 0) ∧ (ldT Tryz.prog 194 = some none) ∧ (ldT Tryz.prog 22 = some none) ∧ (ldT Tryz.prog 3 = some none) ∧ (offT Tryz.prog 199 0 = some 0) ∧ (offT Tryz.prog 199 1 = some 8) ∧ (offT Tryz.prog 51 2 = some 6) ∧ (slT Tryz.prog 194 = some (22, 1)) ∧ (slT Tryz.prog 22 = some (3, 1)) ∧ (szT Tryz.prog 3 = some 1) := ⟨eq_true Tryz.call106, tr5, tr6, tr17, tr36, tr54, tr57, tr67, tr103, tr104, tr131, tr192, tr194, tr223⟩
theorem tf114 : (arT Tryz.prog 22 = none) ∧ (elT Tryz.prog 22 = some (3, 1, [.int .i64 0], 8)) ∧ (kdT Tryz.prog 3 = some 0) ∧ (ldT Tryz.prog 3 = some none) ∧ (slT Tryz.prog 22 = some (3, 1)) ∧ (szT Tryz.prog 3 = some 1) := ⟨tr6, tr17, tr36, tr67, tr194, tr223⟩
theorem tf115 : (CallT Tryz.prog 110 = True) ∧ (CallT Tryz.prog 150 = True) ∧ (CallT Tryz.prog 151 = True) ∧ (CallT Tryz.prog 90 = True) ∧ (arT Tryz.prog 49 = none) ∧ (kdT Tryz.prog 3 = some 0) ∧ (kdT Tryz.prog 33 = some 0) ∧ (ldT Tryz.prog 22 = some none) ∧ (ldT Tryz.prog 23 = some none) ∧ (ldT Tryz.prog 25 = some (some 5)) ∧ (ldT Tryz.prog 3 = some none) ∧ (ldT Tryz.prog 49 = some none) ∧ (ldT Tryz.prog 99 = some (some 9)) ∧ (offT Tryz.prog 25 2 = some 2) ∧ (offT Tryz.prog 25 3 = some 3) ∧ (offT Tryz.prog 51 0 = some 0) ∧ (offT Tryz.prog 51 1 = some 5) ∧ (offT Tryz.prog 51 2 = some 6) ∧ (offT Tryz.prog 51 3 = some 7) ∧ (offT Tryz.prog 99 0 = some 0) ∧ (offT Tryz.prog 99 2 = some 2) ∧ (slT Tryz.prog 22 = some (3, 1)) ∧ (slT Tryz.prog 23 = some (44, 2)) ∧ (slT Tryz.prog 49 = some (99, 9)) ∧ (szT Tryz.prog 99 = some 9) ∧ (zeroT Tryz.prog 99 = some [.int .i64 0, .int .i64 0, .int .i64 0, .int .i64 0, .int .i64 0, .int .i64 0, .int .i64 0, .bool false, .int .i64 0]) := ⟨eq_true Tryz.call110, eq_true Tryz.call150, eq_true Tryz.call151, eq_true Tryz.call90, tr10, tr36, tr37, tr57, tr58, tr61, tr67, tr72, tr79, tr115, tr116, tr129, tr130, tr131, tr132, tr158, tr160, tr194, tr195, tr198, tr230, tr262⟩
theorem tf116 : (CallT Tryz.prog 110 = True) ∧ (CallT Tryz.prog 152 = True) ∧ (CallT Tryz.prog 153 = True) ∧ (CallT Tryz.prog 154 = True) ∧ (CallT Tryz.prog 155 = True) ∧ (arT Tryz.prog 194 = none) ∧ (arT Tryz.prog 22 = none) ∧ (kdT Tryz.prog 3 = some 0) ∧ (ldT Tryz.prog 194 = some none) ∧ (ldT Tryz.prog 22 = some none) ∧ (ldT Tryz.prog 237 = some (some 2)) ∧ (ldT Tryz.prog 3 = some none) ∧ (ldT Tryz.prog 99 = some (some 9)) ∧ (offT Tryz.prog 199 0 = some 0) ∧ (offT Tryz.prog 199 1 = some 8) ∧ (offT Tryz.prog 237 0 = some 0) ∧ (offT Tryz.prog 237 1 = some 1) ∧ (offT Tryz.prog 25 0 = some 0) ∧ (offT Tryz.prog 51 0 = some 0) ∧ (offT Tryz.prog 99 1 = some 1) ∧ (offT Tryz.prog 99 2 = some 2) ∧ (offT Tryz.prog 99 3 = some 3) ∧ (offT Tryz.prog 99 4 = some 4) ∧ (offT Tryz.prog 99 5 = some 5) ∧ (offT Tryz.prog 99 6 = some 6) ∧ (placesT Tryz.prog 237 = some [(0, 1), (1, 1)]) ∧ (slT Tryz.prog 194 = some (22, 1)) ∧ (slT Tryz.prog 22 = some (3, 1)) ∧ (szT Tryz.prog 237 = some 2) ∧ (zeroT Tryz.prog 237 = some [.int .i64 0, .int .i64 0]) := ⟨eq_true Tryz.call110, eq_true Tryz.call152, eq_true Tryz.call153, eq_true Tryz.call154, eq_true Tryz.call155, tr5, tr6, tr36, tr54, tr57, tr59, tr67, tr79, tr103, tr104, tr111, tr112, tr113, tr129, tr159, tr160, tr161, tr162, tr163, tr164, tr179, tr192, tr194, tr216, tr251⟩
theorem tf117 : (arT Tryz.prog 22 = none) ∧ (kdT Tryz.prog 3 = some 0) ∧ (ldT Tryz.prog 3 = some none) ∧ (slT Tryz.prog 22 = some (3, 1)) := ⟨tr6, tr36, tr67, tr194⟩
theorem tf118 : (arT Tryz.prog 22 = none) ∧ (kdT Tryz.prog 3 = some 0) ∧ (ldT Tryz.prog 3 = some none) ∧ (slT Tryz.prog 22 = some (3, 1)) := ⟨tr6, tr36, tr67, tr194⟩
theorem tf135 : (CallT Tryz.prog 102 = True) := eq_true Tryz.call102
theorem tf136 : (kdT Tryz.prog 3 = some 0) ∧ (ldT Tryz.prog 3 = some none) ∧ (offT Tryz.prog 44 0 = some 0) ∧ (offT Tryz.prog 44 1 = some 1) := ⟨tr36, tr67, tr125, tr126⟩
theorem tf137 : (CallT Tryz.prog 102 = True) := eq_true Tryz.call102
theorem tf138 : (CallT Tryz.prog 161 = True) ∧ (kdT Tryz.prog 3 = some 0) := ⟨eq_true Tryz.call161, tr36⟩
theorem tf139 : (arT Tryz.prog 27 = none) ∧ (kdT Tryz.prog 3 = some 0) ∧ (ldT Tryz.prog 46 = some (some 3)) ∧ (slT Tryz.prog 27 = some (46, 3)) ∧ (szT Tryz.prog 46 = some 3) ∧ (zeroT Tryz.prog 46 = some [.int .i64 0, .int .i64 0, .int .i64 0]) := ⟨tr9, tr36, tr71, tr197, tr227, tr260⟩
theorem tf140 : (CallT Tryz.prog 141 = True) ∧ (CallT Tryz.prog 50 = True) ∧ (ldT Tryz.prog 3 = some none) ∧ (ldT Tryz.prog 44 = some (some 2)) ∧ (offT Tryz.prog 46 0 = some 0) ∧ (offT Tryz.prog 46 1 = some 1) ∧ (placesT Tryz.prog 226 = some [(0, 1), (1, 1)]) ∧ (zeroT Tryz.prog 226 = some [.int .i64 0, .int .i64 0]) := ⟨eq_true Tryz.call141, eq_true Tryz.call50, tr67, tr70, tr127, tr128, tr178, tr250⟩
theorem tf141 : (kdT Tryz.prog 3 = some 0) ∧ (ldT Tryz.prog 3 = some none) ∧ (offT Tryz.prog 226 0 = some 0) ∧ (offT Tryz.prog 226 1 = some 1) ∧ (offT Tryz.prog 44 0 = some 0) ∧ (offT Tryz.prog 44 1 = some 1) := ⟨tr36, tr67, tr109, tr110, tr125, tr126⟩
theorem tf142 : (CallT Tryz.prog 143 = True) ∧ (kdT Tryz.prog 3 = some 0) ∧ (ldT Tryz.prog 109 = some none) ∧ (ldT Tryz.prog 134 = some none) ∧ (ldT Tryz.prog 3 = some none) ∧ (offT Tryz.prog 44 0 = some 0) ∧ (offT Tryz.prog 44 1 = some 1) ∧ (offT Tryz.prog 46 0 = some 0) ∧ (offT Tryz.prog 46 1 = some 1) := ⟨eq_true Tryz.call143, tr36, tr40, tr43, tr67, tr125, tr126, tr127, tr128⟩
theorem tf143 : (CallT Tryz.prog 162 = True) ∧ (CallT Tryz.prog 96 = True) ∧ (kdT Tryz.prog 3 = some 0) := ⟨eq_true Tryz.call162, eq_true Tryz.call96, tr36⟩
theorem tf146 : (arT Tryz.prog 22 = none) ∧ (kdT Tryz.prog 3 = some 0) ∧ (ldT Tryz.prog 3 = some none) ∧ (slT Tryz.prog 22 = some (3, 1)) := ⟨tr6, tr36, tr67, tr194⟩
theorem tf147 : (CallT Tryz.prog 174 = True) ∧ (CallT Tryz.prog 175 = True) ∧ (intT Tryz.prog 231 = some .u64) ∧ (intT Tryz.prog 256 = some .u32) := ⟨eq_true Tryz.call174, eq_true Tryz.call175, tr23, tr24⟩
theorem tf148 : (kdT Tryz.prog 3 = some 0) := tr36
theorem tf149 : (elT Tryz.prog 194 = some (22, 1, [.slice none 0 0], 24)) ∧ (kdT Tryz.prog 194 = some 2) := ⟨tr16, tr29⟩
theorem tf150 : (CallT Tryz.prog 110 = True) ∧ (CallT Tryz.prog 152 = True) ∧ (CallT Tryz.prog 154 = True) ∧ (CallT Tryz.prog 155 = True) ∧ (arT Tryz.prog 22 = none) ∧ (elT Tryz.prog 22 = some (3, 1, [.int .i64 0], 8)) ∧ (kdT Tryz.prog 3 = some 0) ∧ (ldT Tryz.prog 237 = some (some 2)) ∧ (ldT Tryz.prog 3 = some none) ∧ (ldT Tryz.prog 99 = some (some 9)) ∧ (offT Tryz.prog 99 1 = some 1) ∧ (offT Tryz.prog 99 2 = some 2) ∧ (offT Tryz.prog 99 3 = some 3) ∧ (offT Tryz.prog 99 4 = some 4) ∧ (offT Tryz.prog 99 5 = some 5) ∧ (offT Tryz.prog 99 6 = some 6) ∧ (placesT Tryz.prog 237 = some [(0, 1), (1, 1)]) ∧ (slT Tryz.prog 22 = some (3, 1)) ∧ (szT Tryz.prog 237 = some 2) ∧ (zeroT Tryz.prog 237 = some [.int .i64 0, .int .i64 0]) := ⟨eq_true Tryz.call110, eq_true Tryz.call152, eq_true Tryz.call154, eq_true Tryz.call155, tr6, tr17, tr36, tr59, tr67, tr79, tr159, tr160, tr161, tr162, tr163, tr164, tr179, tr194, tr216, tr251⟩
theorem tf151 : (CallT Tryz.prog 110 = True) ∧ (kdT Tryz.prog 3 = some 0) ∧ (ldT Tryz.prog 3 = some none) ∧ (ldT Tryz.prog 4 = some none) ∧ (offT Tryz.prog 99 7 = some 7) ∧ (offT Tryz.prog 99 8 = some 8) := ⟨eq_true Tryz.call110, tr36, tr67, tr69, tr165, tr166⟩
theorem tf152 : (ldT Tryz.prog 237 = some (some 2)) ∧ (ldT Tryz.prog 3 = some none) ∧ (offT Tryz.prog 99 3 = some 3) ∧ (offT Tryz.prog 99 4 = some 4) ∧ (offT Tryz.prog 99 5 = some 5) ∧ (offT Tryz.prog 99 6 = some 6) ∧ (placesT Tryz.prog 237 = some [(0, 1), (1, 1)]) ∧ (szT Tryz.prog 237 = some 2) ∧ (zeroT Tryz.prog 237 = some [.int .i64 0, .int .i64 0]) := ⟨tr59, tr67, tr161, tr162, tr163, tr164, tr179, tr216, tr251⟩
theorem tf153 : (kdT Tryz.prog 3 = some 0) ∧ (ldT Tryz.prog 237 = some (some 2)) ∧ (ldT Tryz.prog 3 = some none) ∧ (offT Tryz.prog 199 0 = some 0) ∧ (offT Tryz.prog 25 0 = some 0) ∧ (offT Tryz.prog 51 0 = some 0) ∧ (placesT Tryz.prog 237 = some [(0, 1), (1, 1)]) ∧ (szT Tryz.prog 237 = some 2) ∧ (zeroT Tryz.prog 237 = some [.int .i64 0, .int .i64 0]) := ⟨tr36, tr59, tr67, tr103, tr113, tr129, tr179, tr216, tr251⟩
theorem tf154 : (kdT Tryz.prog 3 = some 0) ∧ (ldT Tryz.prog 3 = some none) ∧ (offT Tryz.prog 237 0 = some 0) ∧ (offT Tryz.prog 237 1 = some 1) := ⟨tr36, tr67, tr111, tr112⟩
theorem tf155 : (kdT Tryz.prog 3 = some 0) ∧ (ldT Tryz.prog 3 = some none) ∧ (offT Tryz.prog 237 0 = some 0) ∧ (offT Tryz.prog 237 1 = some 1) := ⟨tr36, tr67, tr111, tr112⟩
theorem tf161 : (arT Tryz.prog 23 = none) ∧ (kdT Tryz.prog 3 = some 0) ∧ (ldT Tryz.prog 44 = some (some 2)) ∧ (slT Tryz.prog 23 = some (44, 2)) := ⟨tr7, tr36, tr70, tr195⟩
theorem tf162 : (CallT Tryz.prog 176 = True) ∧ (kdT Tryz.prog 33 = some 0) ∧ (ldT Tryz.prog 177 = some none) ∧ (ldT Tryz.prog 25 = some (some 5)) ∧ (ldT Tryz.prog 263 = some (some 2)) ∧ (offT Tryz.prog 179 0 = some 0) ∧ (offT Tryz.prog 179 2 = some 9) ∧ (offT Tryz.prog 29 0 = some 0) ∧ (placesT Tryz.prog 263 = some [(0, 1), (1, 1)]) ∧ (szT Tryz.prog 263 = some 2) ∧ (zeroT Tryz.prog 263 = some [.int .i64 0, .int .i64 0]) := ⟨eq_true Tryz.call176, tr37, tr52, tr61, tr63, tr97, tr99, tr118, tr181, tr219, tr253⟩
theorem tf175 : (kdT Tryz.prog 258 = some 0) := tr34
theorem tf176 : (CallT Tryz.prog 102 = True) ∧ (CallT Tryz.prog 108 = True) ∧ (CallT Tryz.prog 54 = True) ∧ (elT Tryz.prog 22 = some (3, 1, [.int .i64 0], 8)) ∧ (kdT Tryz.prog 33 = some 0) ∧ (ldT Tryz.prog 118 = some (some 5)) ∧ (ldT Tryz.prog 25 = some (some 5)) ∧ (placesT Tryz.prog 122 = some [(0, 1), (1, 1), (2, 1)]) ∧ (szT Tryz.prog 118 = some 5) ∧ (zeroT Tryz.prog 118 = some [.int .i64 0, .int .i64 0, .slice none 0 0, .slice none 0 0, .slice none 0 0]) ∧ (zeroT Tryz.prog 122 = some [.slice none 0 0, .slice none 0 0, .slice none 0 0]) := ⟨eq_true Tryz.call102, eq_true Tryz.call108, eq_true Tryz.call54, tr17, tr37, tr42, tr61, tr170, tr202, tr233, tr234⟩
theorem res5 : Tryz.f5.results.toList = [.tmp 6] := by kernel_rfl
theorem res12 : Tryz.f12.results.toList = [.tmp 4] := by kernel_rfl
theorem res13 : Tryz.f13.results.toList = [.tmp 4] := by kernel_rfl
theorem res14 : Tryz.f14.results.toList = [.tmp 0] := by kernel_rfl
theorem res15 : Tryz.f15.results.toList = [.tmp 8, .tmp 9] := by kernel_rfl
theorem res16 : Tryz.f16.results.toList = [.tmp 8, .tmp 9, .tmp 10] := by kernel_rfl
theorem res17 : Tryz.f17.results.toList = [.tmp 4] := by kernel_rfl
theorem res18 : Tryz.f18.results.toList = [.tmp 6, .tmp 7] := by kernel_rfl
theorem res19 : Tryz.f19.results.toList = [.tmp 2] := by kernel_rfl
theorem res20 : Tryz.f20.results.toList = [.tmp 2] := by kernel_rfl
theorem res21 : Tryz.f21.results.toList = [.cell 2 51] := by kernel_rfl
theorem res22 : Tryz.f22.results.toList = [.tmp 4, .tmp 5] := by kernel_rfl
theorem res23 : Tryz.f23.results.toList = [.tmp 2, .tmp 3, .tmp 4] := by kernel_rfl
theorem res27 : Tryz.f27.results.toList = [.tmp 2] := by kernel_rfl
theorem res28 : Tryz.f28.results.toList = [.tmp 2] := by kernel_rfl
theorem res31 : Tryz.f31.results.toList = [.tmp 8] := by kernel_rfl
theorem res37 : Tryz.f37.results.toList = [.tmp 2] := by kernel_rfl
theorem res40 : Tryz.f40.results.toList = [.tmp 2] := by kernel_rfl
theorem res43 : Tryz.f43.results.toList = [.tmp 6] := by kernel_rfl
theorem res44 : Tryz.f44.results.toList = [.cell 0 51, .cell 1 99] := by kernel_rfl
theorem res45 : Tryz.f45.results.toList = [.tmp 2, .tmp 3] := by kernel_rfl
theorem res46 : Tryz.f46.results.toList = [.cell 0 29, .cell 1 104, .tmp 2] := by kernel_rfl
theorem res47 : Tryz.f47.results.toList = [.tmp 4] := by kernel_rfl
theorem res48 : Tryz.f48.results.toList = [.tmp 2, .tmp 3] := by kernel_rfl
theorem res49 : Tryz.f49.results.toList = [.tmp 4] := by kernel_rfl
theorem res50 : Tryz.f50.results.toList = [.tmp 6] := by kernel_rfl
theorem res51 : Tryz.f51.results.toList = [.tmp 2] := by kernel_rfl
theorem res52 : Tryz.f52.results.toList = [.tmp 2] := by kernel_rfl
theorem res53 : Tryz.f53.results.toList = [.tmp 4] := by kernel_rfl
theorem res54 : Tryz.f54.results.toList = [.cell 4 118, .tmp 5] := by kernel_rfl
theorem res55 : Tryz.f55.results.toList = [.cell 6 44] := by kernel_rfl
theorem res56 : Tryz.f56.results.toList = [.tmp 4] := by kernel_rfl
theorem res57 : Tryz.f57.results.toList = [.tmp 4] := by kernel_rfl
theorem res58 : Tryz.f58.results.toList = [.tmp 6] := by kernel_rfl
theorem res59 : Tryz.f59.results.toList = [.tmp 4] := by kernel_rfl
theorem res60 : Tryz.f60.results.toList = [.cell 2 25] := by kernel_rfl
theorem res61 : Tryz.f61.results.toList = [.tmp 6, .tmp 7] := by kernel_rfl
theorem res62 : Tryz.f62.results.toList = [.tmp 4] := by kernel_rfl
theorem res63 : Tryz.f63.results.toList = [.tmp 6] := by kernel_rfl
theorem res64 : Tryz.f64.results.toList = [.tmp 2] := by kernel_rfl
theorem res65 : Tryz.f65.results.toList = [.tmp 2, .tmp 3] := by kernel_rfl
theorem res66 : Tryz.f66.results.toList = [.tmp 4, .tmp 5] := by kernel_rfl
theorem res67 : Tryz.f67.results.toList = [.tmp 4] := by kernel_rfl
theorem res88 : Tryz.f88.results.toList = [.cell 0 25] := by kernel_rfl
theorem res89 : Tryz.f89.results.toList = [.tmp 3] := by kernel_rfl
theorem res90 : Tryz.f90.results.toList = [.tmp 2] := by kernel_rfl
theorem res91 : Tryz.f91.results.toList = [.tmp 4] := by kernel_rfl
theorem res92 : Tryz.f92.results.toList = [.tmp 4] := by kernel_rfl
theorem res93 : Tryz.f93.results.toList = [.tmp 4] := by kernel_rfl
theorem res94 : Tryz.f94.results.toList = [.tmp 2] := by kernel_rfl
theorem res95 : Tryz.f95.results.toList = [.tmp 3] := by kernel_rfl
theorem res96 : Tryz.f96.results.toList = [.tmp 8] := by kernel_rfl
theorem res97 : Tryz.f97.results.toList = [.tmp 12] := by kernel_rfl
theorem res98 : Tryz.f98.results.toList = [.tmp 4] := by kernel_rfl
theorem res101 : Tryz.f101.results.toList = [.tmp 3] := by kernel_rfl
theorem res102 : Tryz.f102.results.toList = [.tmp 6] := by kernel_rfl
theorem res103 : Tryz.f103.results.toList = [.tmp 3] := by kernel_rfl
theorem res104 : Tryz.f104.results.toList = [.tmp 2] := by kernel_rfl
theorem res105 : Tryz.f105.results.toList = [.tmp 4] := by kernel_rfl
theorem res106 : Tryz.f106.results.toList = [.tmp 4] := by kernel_rfl
theorem res107 : Tryz.f107.results.toList = [] := by kernel_rfl
theorem res108 : Tryz.f108.results.toList = [.tmp 6, .tmp 7] := by kernel_rfl
theorem res109 : Tryz.f109.results.toList = [.tmp 2] := by kernel_rfl
theorem res110 : Tryz.f110.results.toList = [.tmp 6] := by kernel_rfl
theorem res111 : Tryz.f111.results.toList = [.tmp 4] := by kernel_rfl
theorem res112 : Tryz.f112.results.toList = [.tmp 4] := by kernel_rfl
theorem res113 : Tryz.f113.results.toList = [.tmp 4] := by kernel_rfl
theorem res114 : Tryz.f114.results.toList = [.tmp 4] := by kernel_rfl
theorem res115 : Tryz.f115.results.toList = [.tmp 2] := by kernel_rfl
theorem res116 : Tryz.f116.results.toList = [.tmp 6] := by kernel_rfl
theorem res117 : Tryz.f117.results.toList = [.tmp 2] := by kernel_rfl
theorem res118 : Tryz.f118.results.toList = [.tmp 4] := by kernel_rfl
theorem res135 : Tryz.f135.results.toList = [.tmp 2] := by kernel_rfl
theorem res136 : Tryz.f136.results.toList = [.tmp 2] := by kernel_rfl
theorem res137 : Tryz.f137.results.toList = [.tmp 2] := by kernel_rfl
theorem res138 : Tryz.f138.results.toList = [.tmp 4] := by kernel_rfl
theorem res139 : Tryz.f139.results.toList = [.tmp 4] := by kernel_rfl
theorem res140 : Tryz.f140.results.toList = [.tmp 2] := by kernel_rfl
theorem res141 : Tryz.f141.results.toList = [.tmp 4] := by kernel_rfl
theorem res142 : Tryz.f142.results.toList = [] := by kernel_rfl
theorem res143 : Tryz.f143.results.toList = [.tmp 12] := by kernel_rfl
theorem res146 : Tryz.f146.results.toList = [.tmp 4] := by kernel_rfl
theorem res147 : Tryz.f147.results.toList = [.tmp 4, .tmp 5] := by kernel_rfl
theorem res148 : Tryz.f148.results.toList = [.tmp 8] := by kernel_rfl
theorem res149 : Tryz.f149.results.toList = [.tmp 2] := by kernel_rfl
theorem res150 : Tryz.f150.results.toList = [.tmp 2] := by kernel_rfl
theorem res151 : Tryz.f151.results.toList = [.tmp 2] := by kernel_rfl
theorem res152 : Tryz.f152.results.toList = [.cell 2 237, .cell 3 237] := by kernel_rfl
theorem res153 : Tryz.f153.results.toList = [.cell 4 237] := by kernel_rfl
theorem res154 : Tryz.f154.results.toList = [.tmp 4] := by kernel_rfl
theorem res155 : Tryz.f155.results.toList = [.tmp 4] := by kernel_rfl
theorem res161 : Tryz.f161.results.toList = [.tmp 4] := by kernel_rfl
theorem res162 : Tryz.f162.results.toList = [.tmp 6] := by kernel_rfl
theorem res175 : Tryz.f175.results.toList = [.tmp 4, .tmp 5] := by kernel_rfl
theorem res176 : Tryz.f176.results.toList = [.tmp 6, .tmp 7] := by kernel_rfl
noncomputable abbrev EV (w : World) (X : Nat → Prop) (re : List Nat) (ord : List (Nat × Plan)) (det : Nat → List Value → Option Value) (cuts : List Nat) : Env := { P := Tryz.prog, w0 := ⟨w, X⟩, re := re, ord := ord, det := det, cuts := cuts }
abbrev I (n : Int) : Value := .int .i64 n
theorem mixed_prog : Tryz.prog.follows .mixedOrders = true := by kernel_rfl
theorem walkC {f : Nat} {fn : Func} {c : Code} {args : List Value} {n : Nat} {rs : List ResultVar} {Post : Value → List HO → Prop} {w : World} {X : Nat → Prop} (cuts : List Nat) (re : List Nat) (ord : List (Nat × Plan)) {det : Nat → List Value → Option Value} (hD : DetFn Tryz.prog ⟨w, X⟩ det)
    (hf : Tryz.prog.funcs[f]? = some fn) (hb : fn.body = some c) (hn : fn.ntmps = n) (hr : fn.results.toList = rs) (hok : codeB ord c = true) {H0 : List HO}
    (h0 : (∀ h ∈ H0, h.ok w) ∧ (∀ h ∈ H0, ∀ b, h.fp b → X b) ∧ H0.Pairwise Apart)
    (h : W (EV w X re ord det cuts) c (retQ (EV w X re ord det cuts) rs Post) (args.map SV.v ++ List.replicate (n - args.length) (.v undef)) [] H0) : SX.Fn Tryz.prog f args w X Post := by
  subst hn hr
  exact SX.Fn.intro (E := EV w X re ord det cuts) hf hb trivial hD mixed_prog hok h0 h
theorem walk {f : Nat} {fn : Func} {c : Code} {args : List Value} {n : Nat} {rs : List ResultVar} {Post : Value → List HO → Prop} {w : World} {X : Nat → Prop} (re : List Nat) (ord : List (Nat × Plan)) {det : Nat → List Value → Option Value} (hD : DetFn Tryz.prog ⟨w, X⟩ det)
    (hf : Tryz.prog.funcs[f]? = some fn) (hb : fn.body = some c) (hn : fn.ntmps = n) (hr : fn.results.toList = rs) (hok : codeB ord c = true) {H0 : List HO}
    (h0 : (∀ h ∈ H0, h.ok w) ∧ (∀ h ∈ H0, ∀ b, h.fp b → X b) ∧ H0.Pairwise Apart)
    (h : W (EV w X re ord det []) c (retQ (EV w X re ord det []) rs Post) (args.map SV.v ++ List.replicate (n - args.length) (.v undef)) [] H0) : SX.Fn Tryz.prog f args w X Post :=
  walkC [] re ord hD hf hb hn hr hok h0 h
theorem walkIterR {gf : Nat} {fn : Func} {c : Code} {pre post : List Value} {nt n : Nat} {arg : Nat → List Value → List HO → Prop} {w : World} (Rs : Nat → Prop) (re : List Nat) (ord : List (Nat × Plan)) {det : Nat → List Value → Option Value} (hD : ∀ X, (∀ b, Rs b → ¬ X b) → DetFn Tryz.prog ⟨w, X⟩ det)
    (hf : Tryz.prog.funcs[gf]? = some fn) (hb : fn.body = some c) (hn : fn.ntmps = nt) (hr : fn.results.toList = []) (hok : codeB ord c = true)
    (h : ∀ l J C R, (∀ b, Rs b → ¬ (C b ∨ False)) → Handler Tryz.prog l n arg w C (fun _ => False) J → W (EV w (fun b => C b ∨ False) re ord det []) c (retQ (EV w (fun b => C b ∨ False) re ord det []) [] (iterPost n J)) ((pre ++ [Value.func (.yield l) #[] #[]] ++ post).map SV.v ++ List.replicate (nt - (pre ++ [Value.func (.yield l) #[] #[]] ++ post).length) (.v undef)) [] [consu J (some 0) C R]) :
    Iter Tryz.prog gf pre post n arg (fun _ => False) Rs w := by
  refine Iter.intro fun l J C R hRs hH hk => ?_
  have hRs' : ∀ b, Rs b → ¬ (C b ∨ False) := fun b hb hc => hc.elim (hRs b hb) id
  have hw := h l J C R hRs' hH
  rw [← hr] at hw
  subst hn
  exact Fn.introZ (E := EV w (fun b => C b ∨ False) re ord det []) (fun b => C b ∨ R b) hf hb trivial (hD _ hRs') mixed_prog hok ⟨fun g hg => by rw [List.mem_singleton] at hg; subst hg; exact hk, fun g hg b => by rw [List.mem_singleton] at hg; subst hg; exact ⟨id, fun x => .inl x⟩, List.pairwise_singleton _ _⟩ hw
theorem no_facts {w : World} {X : Nat → Prop} : (∀ h ∈ ([] : List HO), h.ok w) ∧ (∀ h ∈ ([] : List HO), ∀ b, h.fp b → X b) ∧ ([] : List HO).Pairwise Apart := ⟨by simp, by simp, List.Pairwise.nil⟩
theorem wrap_id {n : Int} (h : -9223372036854775808 ≤ n ∧ n ≤ 9223372036854775807) : IntKind.i64.wrap n = n := by
  rw [IntKind.wrap_i64]
  omega
end Go.Proofs.YtpmodggfogahhaaGreatDoor

