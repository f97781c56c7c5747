/- Parts of a proof: the symbolic walk and what it shows of single functions. -/
import Derived.Test.YtnbogcpnpcbjgaaGreatDoorRows
import Derived.Test.YtnbogcpnpcbjgaaGreatDoorX3
set_option linter.all false
namespace Go.Proofs.YtnbogcpnpcbjgaaGreatDoor
open Go.RowKit Go.SX
set_option maxRecDepth 4000
theorem tr0 : arT Tryz.prog 175 = none := by kernel_rfl
theorem tr1 : arT Tryz.prog 178 = none := by kernel_rfl
theorem tr2 : arT Tryz.prog 196 = some (6, 3, some 3) := by kernel_rfl
theorem tr3 : arT Tryz.prog 22 = none := by kernel_rfl
theorem tr4 : arT Tryz.prog 23 = none := by kernel_rfl
theorem tr6 : arT Tryz.prog 239 = some (64, 1, none) := by kernel_rfl
theorem tr7 : arT Tryz.prog 26 = none := by kernel_rfl
theorem tr8 : arT Tryz.prog 27 = none := by kernel_rfl
theorem tr10 : arT Tryz.prog 35 = none := by kernel_rfl
theorem tr11 : arT Tryz.prog 50 = none := by kernel_rfl
theorem tr12 : arT Tryz.prog 59 = none := by kernel_rfl
theorem tr13 : arT Tryz.prog 60 = none := by kernel_rfl
theorem tr14 : arT Tryz.prog 63 = none := by kernel_rfl
theorem tr15 : arT Tryz.prog 74 = none := by kernel_rfl
theorem tr16 : elT Tryz.prog 175 = some (178, 1, [.slice none 0 0], 24) := by kernel_rfl
theorem tr17 : elT Tryz.prog 178 = some (4, 1, [.bool false], 1) := by kernel_rfl
theorem tr18 : elT Tryz.prog 22 = some (3, 1, [.int .i64 0], 8) := by kernel_rfl
theorem tr19 : elT Tryz.prog 23 = some (31, 2, [.int .i64 0, .int .i64 0], 16) := by kernel_rfl
theorem tr20 : elT Tryz.prog 26 = some (27, 1, [.slice none 0 0], 24) := by kernel_rfl
theorem tr21 : elT Tryz.prog 27 = some (139, 3, [.int .i64 0, .int .i64 0, .int .i64 0], 24) := by kernel_rfl
theorem tr22 : elT Tryz.prog 34 = some (55, 3, [.int .i64 0, .slice none 0 0, .bool false], 40) := by kernel_rfl
theorem tr23 : elT Tryz.prog 35 = some (93, 9, [.int .i64 0, .int .i64 0, .int .i64 0, .int .i64 0, .int .i64 0, .int .i64 0, .int .i64 0, .bool false, .int .i64 0], 72) := by kernel_rfl
theorem tr24 : elT Tryz.prog 50 = some (22, 1, [.slice none 0 0], 24) := by kernel_rfl
theorem tr25 : elT Tryz.prog 59 = some (73, 3, [.int .i64 0, .int .i64 0, .int .i64 0], 24) := by kernel_rfl
theorem tr26 : elT Tryz.prog 60 = some (120, 3, [.int .i64 0, .int .i64 0, .int .i64 0], 24) := by kernel_rfl
theorem tr27 : elT Tryz.prog 63 = some (82, 4, [.int .i64 0, .int .i64 0, .int .i64 0, .int .i64 0], 32) := by kernel_rfl
theorem tr28 : intT Tryz.prog 165 = some .u64 := by kernel_rfl
theorem tr29 : intT Tryz.prog 208 = some .u32 := by kernel_rfl
theorem tr32 : intT Tryz.prog 3 = some .i64 := by kernel_rfl
theorem tr33 : intT Tryz.prog 5 = some .u8 := by kernel_rfl
theorem tr34 : kdT Tryz.prog 165 = some 0 := by kernel_rfl
theorem tr37 : kdT Tryz.prog 210 = some 0 := by kernel_rfl
theorem tr38 : kdT Tryz.prog 22 = some 2 := by kernel_rfl
theorem tr40 : kdT Tryz.prog 3 = some 0 := by kernel_rfl
theorem tr41 : kdT Tryz.prog 4 = some 1 := by kernel_rfl
theorem tr42 : kdT Tryz.prog 43 = some 0 := by kernel_rfl
theorem tr43 : kdT Tryz.prog 50 = some 2 := by kernel_rfl
theorem tr44 : ldT Tryz.prog 107 = some none := by kernel_rfl
theorem tr45 : ldT Tryz.prog 108 = some none := by kernel_rfl
theorem tr47 : ldT Tryz.prog 116 = some (some 3) := by kernel_rfl
theorem tr48 : ldT Tryz.prog 120 = some (some 3) := by kernel_rfl
theorem tr49 : ldT Tryz.prog 122 = some (some 3) := by kernel_rfl
theorem tr50 : ldT Tryz.prog 139 = some (some 3) := by kernel_rfl
theorem tr51 : ldT Tryz.prog 145 = some (some 5) := by kernel_rfl
theorem tr52 : ldT Tryz.prog 171 = some none := by kernel_rfl
theorem tr54 : ldT Tryz.prog 175 = some none := by kernel_rfl
theorem tr55 : ldT Tryz.prog 178 = some none := by kernel_rfl
theorem tr56 : ldT Tryz.prog 184 = some none := by kernel_rfl
theorem tr57 : ldT Tryz.prog 185 = some none := by kernel_rfl
theorem tr58 : ldT Tryz.prog 195 = some (some 3) := by kernel_rfl
theorem tr59 : ldT Tryz.prog 218 = some (some 2) := by kernel_rfl
theorem tr60 : ldT Tryz.prog 22 = some none := by kernel_rfl
theorem tr61 : ldT Tryz.prog 23 = some none := by kernel_rfl
theorem tr63 : ldT Tryz.prog 247 = some (some 2) := by kernel_rfl
theorem tr64 : ldT Tryz.prog 25 = some (some 5) := by kernel_rfl
theorem tr65 : ldT Tryz.prog 26 = some none := by kernel_rfl
theorem tr66 : ldT Tryz.prog 27 = some none := by kernel_rfl
theorem tr67 : ldT Tryz.prog 29 = some (some 8) := by kernel_rfl
theorem tr68 : ldT Tryz.prog 3 = some none := by kernel_rfl
theorem tr69 : ldT Tryz.prog 31 = some (some 2) := by kernel_rfl
theorem tr70 : ldT Tryz.prog 33 = some (some 4) := by kernel_rfl
theorem tr72 : ldT Tryz.prog 35 = some none := by kernel_rfl
theorem tr73 : ldT Tryz.prog 37 = some (some 8) := by kernel_rfl
theorem tr74 : ldT Tryz.prog 4 = some none := by kernel_rfl
theorem tr75 : ldT Tryz.prog 5 = some none := by kernel_rfl
theorem tr76 : ldT Tryz.prog 50 = some none := by kernel_rfl
theorem tr78 : ldT Tryz.prog 59 = some none := by kernel_rfl
theorem tr79 : ldT Tryz.prog 60 = some none := by kernel_rfl
theorem tr80 : ldT Tryz.prog 62 = some (some 2) := by kernel_rfl
theorem tr81 : ldT Tryz.prog 63 = some none := by kernel_rfl
theorem tr82 : ldT Tryz.prog 65 = some (some 3) := by kernel_rfl
theorem tr83 : ldT Tryz.prog 73 = some (some 3) := by kernel_rfl
theorem tr84 : ldT Tryz.prog 80 = some (some 3) := by kernel_rfl
theorem tr85 : ldT Tryz.prog 82 = some (some 4) := by kernel_rfl
theorem tr86 : ldT Tryz.prog 93 = some (some 9) := by kernel_rfl
theorem tr90 : offT Tryz.prog 116 0 = some 0 := by kernel_rfl
theorem tr91 : offT Tryz.prog 116 1 = some 1 := by kernel_rfl
theorem tr92 : offT Tryz.prog 116 2 = some 2 := by kernel_rfl
theorem tr93 : offT Tryz.prog 120 0 = some 0 := by kernel_rfl
theorem tr94 : offT Tryz.prog 120 1 = some 1 := by kernel_rfl
theorem tr95 : offT Tryz.prog 120 2 = some 2 := by kernel_rfl
theorem tr96 : offT Tryz.prog 122 0 = some 0 := by kernel_rfl
theorem tr97 : offT Tryz.prog 122 1 = some 1 := by kernel_rfl
theorem tr98 : offT Tryz.prog 122 2 = some 2 := by kernel_rfl
theorem tr99 : offT Tryz.prog 139 0 = some 0 := by kernel_rfl
theorem tr100 : offT Tryz.prog 139 1 = some 1 := by kernel_rfl
theorem tr101 : offT Tryz.prog 145 0 = some 0 := by kernel_rfl
theorem tr102 : offT Tryz.prog 149 0 = some 0 := by kernel_rfl
theorem tr103 : offT Tryz.prog 149 1 = some 1 := by kernel_rfl
theorem tr104 : offT Tryz.prog 149 2 = some 2 := by kernel_rfl
theorem tr105 : offT Tryz.prog 157 0 = some 0 := by kernel_rfl
theorem tr106 : offT Tryz.prog 157 1 = some 1 := by kernel_rfl
theorem tr107 : offT Tryz.prog 177 0 = some 0 := by kernel_rfl
theorem tr108 : offT Tryz.prog 177 1 = some 8 := by kernel_rfl
theorem tr109 : offT Tryz.prog 177 2 = some 9 := by kernel_rfl
theorem tr110 : offT Tryz.prog 177 3 = some 10 := by kernel_rfl
theorem tr111 : offT Tryz.prog 187 0 = some 0 := by kernel_rfl
theorem tr112 : offT Tryz.prog 187 1 = some 8 := by kernel_rfl
theorem tr113 : offT Tryz.prog 187 2 = some 9 := by kernel_rfl
theorem tr114 : offT Tryz.prog 195 0 = some 0 := by kernel_rfl
theorem tr115 : offT Tryz.prog 195 1 = some 1 := by kernel_rfl
theorem tr116 : offT Tryz.prog 195 2 = some 2 := by kernel_rfl
theorem tr117 : offT Tryz.prog 218 0 = some 0 := by kernel_rfl
theorem tr118 : offT Tryz.prog 218 1 = some 1 := by kernel_rfl
theorem tr119 : offT Tryz.prog 25 0 = some 0 := by kernel_rfl
theorem tr120 : offT Tryz.prog 25 1 = some 1 := by kernel_rfl
theorem tr121 : offT Tryz.prog 25 2 = some 2 := by kernel_rfl
theorem tr122 : offT Tryz.prog 25 3 = some 3 := by kernel_rfl
theorem tr123 : offT Tryz.prog 25 4 = some 4 := by kernel_rfl
theorem tr124 : offT Tryz.prog 29 0 = some 0 := by kernel_rfl
theorem tr125 : offT Tryz.prog 29 1 = some 5 := by kernel_rfl
theorem tr126 : offT Tryz.prog 29 2 = some 6 := by kernel_rfl
theorem tr127 : offT Tryz.prog 29 3 = some 7 := by kernel_rfl
theorem tr128 : offT Tryz.prog 31 0 = some 0 := by kernel_rfl
theorem tr129 : offT Tryz.prog 31 1 = some 1 := by kernel_rfl
theorem tr133 : offT Tryz.prog 37 0 = some 0 := by kernel_rfl
theorem tr134 : offT Tryz.prog 37 1 = some 5 := by kernel_rfl
theorem tr135 : offT Tryz.prog 37 2 = some 6 := by kernel_rfl
theorem tr136 : offT Tryz.prog 37 3 = some 7 := by kernel_rfl
theorem tr142 : offT Tryz.prog 62 0 = some 0 := by kernel_rfl
theorem tr143 : offT Tryz.prog 62 1 = some 1 := by kernel_rfl
theorem tr144 : offT Tryz.prog 65 0 = some 0 := by kernel_rfl
theorem tr145 : offT Tryz.prog 65 1 = some 1 := by kernel_rfl
theorem tr146 : offT Tryz.prog 65 2 = some 2 := by kernel_rfl
theorem tr147 : offT Tryz.prog 73 0 = some 0 := by kernel_rfl
theorem tr148 : offT Tryz.prog 73 1 = some 1 := by kernel_rfl
theorem tr149 : offT Tryz.prog 73 2 = some 2 := by kernel_rfl
theorem tr150 : offT Tryz.prog 80 0 = some 0 := by kernel_rfl
theorem tr151 : offT Tryz.prog 80 1 = some 2 := by kernel_rfl
theorem tr152 : offT Tryz.prog 82 0 = some 0 := by kernel_rfl
theorem tr153 : offT Tryz.prog 82 1 = some 2 := by kernel_rfl
theorem tr154 : offT Tryz.prog 93 0 = some 0 := by kernel_rfl
theorem tr155 : offT Tryz.prog 93 1 = some 1 := by kernel_rfl
theorem tr156 : offT Tryz.prog 93 2 = some 2 := by kernel_rfl
theorem tr157 : offT Tryz.prog 93 3 = some 3 := by kernel_rfl
theorem tr158 : offT Tryz.prog 93 4 = some 4 := by kernel_rfl
theorem tr159 : offT Tryz.prog 93 5 = some 5 := by kernel_rfl
theorem tr160 : offT Tryz.prog 93 6 = some 6 := by kernel_rfl
theorem tr161 : offT Tryz.prog 93 7 = some 7 := by kernel_rfl
theorem tr162 : offT Tryz.prog 93 8 = some 8 := by kernel_rfl
theorem tr164 : placesT Tryz.prog 116 = some [(0, 1), (1, 1), (2, 1)] := by kernel_rfl
theorem tr165 : placesT Tryz.prog 120 = some [(0, 1), (1, 1), (2, 1)] := by kernel_rfl
theorem tr166 : placesT Tryz.prog 139 = some [(0, 1), (1, 2)] := by kernel_rfl
theorem tr167 : placesT Tryz.prog 145 = some [(0, 5)] := by kernel_rfl
theorem tr168 : placesT Tryz.prog 149 = some [(0, 1), (1, 1), (2, 1)] := by kernel_rfl
theorem tr169 : placesT Tryz.prog 157 = some [(0, 1), (1, 1)] := by kernel_rfl
theorem tr170 : placesT Tryz.prog 177 = some [(0, 8), (8, 1), (9, 1), (10, 1)] := by kernel_rfl
theorem tr171 : placesT Tryz.prog 187 = some [(0, 8), (8, 1), (9, 1)] := by kernel_rfl
theorem tr172 : placesT Tryz.prog 218 = some [(0, 1), (1, 1)] := by kernel_rfl
theorem tr173 : placesT Tryz.prog 247 = some [(0, 1), (1, 1)] := by kernel_rfl
theorem tr174 : placesT Tryz.prog 25 = some [(0, 1), (1, 1), (2, 1), (3, 1), (4, 1)] := by kernel_rfl
theorem tr175 : placesT Tryz.prog 29 = some [(0, 5), (5, 1), (6, 1), (7, 1)] := by kernel_rfl
theorem tr176 : placesT Tryz.prog 31 = some [(0, 1), (1, 1)] := by kernel_rfl
theorem tr177 : placesT Tryz.prog 33 = some [(0, 1), (1, 1), (2, 2)] := by kernel_rfl
theorem tr178 : placesT Tryz.prog 37 = some [(0, 5), (5, 1), (6, 1), (7, 1)] := by kernel_rfl
theorem tr179 : placesT Tryz.prog 55 = some [(0, 1), (1, 1), (2, 1)] := by kernel_rfl
theorem tr180 : placesT Tryz.prog 62 = some [(0, 1), (1, 1)] := by kernel_rfl
theorem tr181 : placesT Tryz.prog 73 = some [(0, 1), (1, 1), (2, 1)] := by kernel_rfl
theorem tr182 : placesT Tryz.prog 82 = some [(0, 2), (2, 2)] := by kernel_rfl
theorem tr183 : placesT Tryz.prog 93 = some [(0, 1), (1, 1), (2, 1), (3, 1), (4, 1), (5, 1), (6, 1), (7, 1), (8, 1)] := by kernel_rfl
theorem tr184 : slT Tryz.prog 175 = some (178, 1) := by kernel_rfl
theorem tr185 : slT Tryz.prog 178 = some (4, 1) := by kernel_rfl
theorem tr186 : slT Tryz.prog 196 = none := by kernel_rfl
theorem tr187 : slT Tryz.prog 22 = some (3, 1) := by kernel_rfl
theorem tr188 : slT Tryz.prog 23 = some (31, 2) := by kernel_rfl
theorem tr190 : slT Tryz.prog 239 = none := by kernel_rfl
theorem tr191 : slT Tryz.prog 26 = some (27, 1) := by kernel_rfl
theorem tr192 : slT Tryz.prog 27 = some (139, 3) := by kernel_rfl
theorem tr194 : slT Tryz.prog 35 = some (93, 9) := by kernel_rfl
theorem tr195 : slT Tryz.prog 50 = some (22, 1) := by kernel_rfl
theorem tr196 : slT Tryz.prog 59 = some (73, 3) := by kernel_rfl
theorem tr197 : slT Tryz.prog 60 = some (120, 3) := by kernel_rfl
theorem tr198 : slT Tryz.prog 63 = some (82, 4) := by kernel_rfl
theorem tr199 : slT Tryz.prog 74 = some (80, 3) := by kernel_rfl
theorem tr200 : szT Tryz.prog 107 = some 1 := by kernel_rfl
theorem tr203 : szT Tryz.prog 120 = some 3 := by kernel_rfl
theorem tr204 : szT Tryz.prog 122 = some 3 := by kernel_rfl
theorem tr205 : szT Tryz.prog 139 = some 3 := by kernel_rfl
theorem tr206 : szT Tryz.prog 145 = some 5 := by kernel_rfl
theorem tr208 : szT Tryz.prog 175 = some 1 := by kernel_rfl
theorem tr209 : szT Tryz.prog 195 = some 3 := by kernel_rfl
theorem tr210 : szT Tryz.prog 218 = some 2 := by kernel_rfl
theorem tr211 : szT Tryz.prog 22 = some 1 := by kernel_rfl
theorem tr213 : szT Tryz.prog 247 = some 2 := by kernel_rfl
theorem tr214 : szT Tryz.prog 25 = some 5 := by kernel_rfl
theorem tr215 : szT Tryz.prog 26 = some 1 := by kernel_rfl
theorem tr216 : szT Tryz.prog 27 = some 1 := by kernel_rfl
theorem tr217 : szT Tryz.prog 29 = some 8 := by kernel_rfl
theorem tr218 : szT Tryz.prog 3 = some 1 := by kernel_rfl
theorem tr219 : szT Tryz.prog 31 = some 2 := by kernel_rfl
theorem tr220 : szT Tryz.prog 33 = some 4 := by kernel_rfl
theorem tr221 : szT Tryz.prog 37 = some 8 := by kernel_rfl
theorem tr222 : szT Tryz.prog 4 = some 1 := by kernel_rfl
theorem tr223 : szT Tryz.prog 50 = some 1 := by kernel_rfl
theorem tr225 : szT Tryz.prog 59 = some 1 := by kernel_rfl
theorem tr226 : szT Tryz.prog 60 = some 1 := by kernel_rfl
theorem tr227 : szT Tryz.prog 62 = some 2 := by kernel_rfl
theorem tr228 : szT Tryz.prog 63 = some 1 := by kernel_rfl
theorem tr229 : szT Tryz.prog 65 = some 3 := by kernel_rfl
theorem tr230 : szT Tryz.prog 73 = some 3 := by kernel_rfl
theorem tr231 : szT Tryz.prog 80 = some 3 := by kernel_rfl
theorem tr232 : szT Tryz.prog 82 = some 4 := by kernel_rfl
theorem tr233 : szT Tryz.prog 93 = some 9 := by kernel_rfl
theorem tr234 : zeroT Tryz.prog 107 = some [.nilFunc] := by kernel_rfl
theorem tr237 : zeroT Tryz.prog 116 = some [.int .i64 0, .int .i64 0, .int .i64 0] := by kernel_rfl
theorem tr238 : zeroT Tryz.prog 120 = some [.int .i64 0, .int .i64 0, .int .i64 0] := by kernel_rfl
theorem tr239 : zeroT Tryz.prog 122 = some [.slice none 0 0, .slice none 0 0, .slice none 0 0] := by kernel_rfl
theorem tr240 : zeroT Tryz.prog 139 = some [.int .i64 0, .int .i64 0, .int .i64 0] := by kernel_rfl
theorem tr241 : zeroT Tryz.prog 145 = some [.int .i64 0, .int .i64 0, .slice none 0 0, .slice none 0 0, .slice none 0 0] := by kernel_rfl
theorem tr242 : zeroT Tryz.prog 149 = some [.slice none 0 0, .slice none 0 0, .slice none 0 0] := by kernel_rfl
theorem tr243 : zeroT Tryz.prog 157 = some [.int .i64 0, .int .i64 0] := by kernel_rfl
theorem tr245 : zeroT Tryz.prog 177 = some [.int .i64 0, .int .i64 0, .slice none 0 0, .slice none 0 0, .slice none 0 0, .int .i64 0, .int .i64 0, .slice none 0 0, .slice none 0 0, .slice none 0 0, .slice none 0 0] := by kernel_rfl
theorem tr246 : zeroT Tryz.prog 187 = some [.int .i64 0, .int .i64 0, .slice none 0 0, .slice none 0 0, .slice none 0 0, .slice none 0 0, .slice none 0 0, .slice none 0 0, .map none, .map none] := by kernel_rfl
theorem tr247 : zeroT Tryz.prog 195 = some [.int .i64 0, .int .i64 0, .int .i64 0] := by kernel_rfl
theorem tr248 : zeroT Tryz.prog 218 = some [.int .i64 0, .int .i64 0] := by kernel_rfl
theorem tr249 : zeroT Tryz.prog 22 = some [.slice none 0 0] := by kernel_rfl
theorem tr251 : zeroT Tryz.prog 247 = some [.int .i64 0, .int .i64 0] := by kernel_rfl
theorem tr252 : zeroT Tryz.prog 25 = some [.int .i64 0, .int .i64 0, .slice none 0 0, .slice none 0 0, .slice none 0 0] := by kernel_rfl
theorem tr253 : zeroT Tryz.prog 29 = some [.int .i64 0, .int .i64 0, .slice none 0 0, .slice none 0 0, .slice none 0 0, .slice none 0 0, .slice none 0 0, .slice none 0 0] := by kernel_rfl
theorem tr254 : zeroT Tryz.prog 3 = some [.int .i64 0] := by kernel_rfl
theorem tr255 : zeroT Tryz.prog 31 = some [.int .i64 0, .int .i64 0] := by kernel_rfl
theorem tr256 : zeroT Tryz.prog 33 = some [.int .i64 0, .slice none 0 0, .int .i64 0, .int .i64 0] := by kernel_rfl
theorem tr257 : zeroT Tryz.prog 37 = some [.int .i64 0, .int .i64 0, .slice none 0 0, .slice none 0 0, .slice none 0 0, .int .i64 0, .int .i64 0, .slice none 0 0] := by kernel_rfl
theorem tr259 : zeroT Tryz.prog 55 = some [.int .i64 0, .slice none 0 0, .bool false] := by kernel_rfl
theorem tr260 : zeroT Tryz.prog 62 = some [.slice none 0 0, .slice none 0 0] := by kernel_rfl
theorem tr261 : zeroT Tryz.prog 65 = some [.int .i64 0, .int .i64 0, .slice none 0 0] := by kernel_rfl
theorem tr262 : zeroT Tryz.prog 73 = some [.int .i64 0, .int .i64 0, .int .i64 0] := by kernel_rfl
theorem tr263 : zeroT Tryz.prog 80 = some [.int .i64 0, .int .i64 0, .int .i64 0] := by kernel_rfl
theorem tr264 : zeroT Tryz.prog 82 = some [.int .i64 0, .int .i64 0, .int .i64 0, .int .i64 0] := by kernel_rfl
theorem tr265 : zeroT Tryz.prog 93 = some [.int .i64 0, .int .i64 0, .int .i64 0, .int .i64 0, .int .i64 0, .int .i64 0, .int .i64 0, .bool false, .int .i64 0] := by kernel_rfl
theorem tf4 : (CallT Tryz.prog 12 = True) ∧ (CallT Tryz.prog 18 = True) ∧ (CallT Tryz.prog 19 = True) ∧ (CallT Tryz.prog 20 = True) ∧ (CallT Tryz.prog 21 = True) ∧ (CallT Tryz.prog 22 = True) ∧ (arT Tryz.prog 22 = none) ∧ (elT Tryz.prog 59 = some (73, 3, [.int .i64 0, .int .i64 0, .int .i64 0], 24)) ∧ (kdT Tryz.prog 3 = some 0) ∧ (kdT Tryz.prog 4 = some 1) ∧ (kdT Tryz.prog 43 = some 0) ∧ (ldT Tryz.prog 3 = some none) ∧ (ldT Tryz.prog 59 = some none) ∧ (ldT Tryz.prog 62 = some (some 2)) ∧ (ldT Tryz.prog 65 = some (some 3)) ∧ (offT Tryz.prog 62 0 = some 0) ∧ (placesT Tryz.prog 73 = some [(0, 1), (1, 1), (2, 1)]) ∧ (slT Tryz.prog 22 = some (3, 1)) ∧ (szT Tryz.prog 59 = some 1) ∧ (szT Tryz.prog 62 = some 2) ∧ (szT Tryz.prog 65 = some 3) ∧ (zeroT Tryz.prog 62 = some [.slice none 0 0, .slice none 0 0]) ∧ (zeroT Tryz.prog 65 = some [.int .i64 0, .int .i64 0, .slice none 0 0]) ∧ (zeroT Tryz.prog 73 = some [.int .i64 0, .int .i64 0, .int .i64 0]) := ⟨eq_true Tryz.call12, eq_true Tryz.call18, eq_true Tryz.call19, eq_true Tryz.call20, eq_true Tryz.call21, eq_true Tryz.call22, tr3, tr25, tr40, tr41, tr42, tr68, tr78, tr80, tr82, tr142, tr181, tr187, tr225, tr227, tr229, tr260, tr261, tr262⟩
theorem tf5 : (CallT Tryz.prog 12 = True) ∧ (CallT Tryz.prog 20 = True) ∧ (CallT Tryz.prog 21 = True) ∧ (CallT Tryz.prog 23 = True) ∧ (CallT Tryz.prog 24 = True) ∧ (CallT Tryz.prog 25 = True) ∧ (arT Tryz.prog 22 = none) ∧ (arT Tryz.prog 63 = none) ∧ (arT Tryz.prog 74 = none) ∧ (elT Tryz.prog 63 = some (82, 4, [.int .i64 0, .int .i64 0, .int .i64 0, .int .i64 0], 32)) ∧ (kdT Tryz.prog 3 = some 0) ∧ (kdT Tryz.prog 43 = some 0) ∧ (ldT Tryz.prog 3 = some none) ∧ (ldT Tryz.prog 63 = some none) ∧ (ldT Tryz.prog 65 = some (some 3)) ∧ (offT Tryz.prog 31 0 = some 0) ∧ (offT Tryz.prog 31 1 = some 1) ∧ (offT Tryz.prog 65 2 = some 2) ∧ (offT Tryz.prog 80 0 = some 0) ∧ (offT Tryz.prog 82 0 = some 0) ∧ (slT Tryz.prog 22 = some (3, 1)) ∧ (slT Tryz.prog 63 = some (82, 4)) ∧ (slT Tryz.prog 74 = some (80, 3)) ∧ (szT Tryz.prog 3 = some 1) ∧ (szT Tryz.prog 63 = some 1) ∧ (szT Tryz.prog 65 = some 3) ∧ (zeroT Tryz.prog 65 = some [.int .i64 0, .int .i64 0, .slice none 0 0]) := ⟨eq_true Tryz.call12, eq_true Tryz.call20, eq_true Tryz.call21, eq_true Tryz.call23, eq_true Tryz.call24, eq_true Tryz.call25, tr3, tr14, tr15, tr27, tr40, tr42, tr68, tr81, tr82, tr128, tr129, tr146, tr150, tr152, tr187, tr198, tr199, tr218, tr228, tr229, tr261⟩
theorem tf11 : (CallT Tryz.prog 35 = True) ∧ (kdT Tryz.prog 3 = some 0) ∧ (ldT Tryz.prog 23 = some none) ∧ (offT Tryz.prog 25 3 = some 3) ∧ (slT Tryz.prog 23 = some (31, 2)) := ⟨eq_true Tryz.call35, tr40, tr61, tr122, tr188⟩
theorem tf12 : (CallT Tryz.prog 17 = True) ∧ (CallT Tryz.prog 36 = True) ∧ (CallT Tryz.prog 37 = True) ∧ (CallT Tryz.prog 38 = True) ∧ (CallT Tryz.prog 39 = True) ∧ (CallT Tryz.prog 40 = True) ∧ (elT Tryz.prog 22 = some (3, 1, [.int .i64 0], 8)) ∧ (kdT Tryz.prog 3 = some 0) ∧ (kdT Tryz.prog 43 = some 0) ∧ (ldT Tryz.prog 25 = some (some 5)) ∧ (ldT Tryz.prog 29 = some (some 8)) ∧ (ldT Tryz.prog 37 = some (some 8)) ∧ (offT Tryz.prog 37 0 = some 0) ∧ (szT Tryz.prog 29 = some 8) ∧ (szT Tryz.prog 33 = some 4) ∧ (szT Tryz.prog 37 = some 8) ∧ (szT Tryz.prog 93 = some 9) ∧ (zeroT Tryz.prog 29 = some [.int .i64 0, .int .i64 0, .slice none 0 0, .slice none 0 0, .slice none 0 0, .slice none 0 0, .slice none 0 0, .slice none 0 0]) ∧ (zeroT Tryz.prog 33 = some [.int .i64 0, .slice none 0 0, .int .i64 0, .int .i64 0]) ∧ (zeroT Tryz.prog 37 = some [.int .i64 0, .int .i64 0, .slice none 0 0, .slice none 0 0, .slice none 0 0, .int .i64 0, .int .i64 0, .slice none 0 0]) ∧ (zeroT Tryz.prog 93 = some [.int .i64 0, .int .i64 0, .int .i64 0, .int .i64 0, .int .i64 0, .int .i64 0, .int .i64 0, .bool false, .int .i64 0]) := ⟨eq_true Tryz.call17, eq_true Tryz.call36, eq_true Tryz.call37, eq_true Tryz.call38, eq_true Tryz.call39, eq_true Tryz.call40, tr18, tr40, tr42, tr64, tr67, tr73, tr133, tr217, tr220, tr221, tr233, tr253, tr256, tr257, tr265⟩
theorem tf17 : (arT Tryz.prog 22 = none) ∧ (kdT Tryz.prog 3 = some 0) ∧ (ldT Tryz.prog 3 = some none) ∧ (slT Tryz.prog 22 = some (3, 1)) := ⟨tr3, tr40, tr68, tr187⟩
theorem tf18 : (arT Tryz.prog 22 = none) ∧ (elT Tryz.prog 59 = some (73, 3, [.int .i64 0, .int .i64 0, .int .i64 0], 24)) ∧ (elT Tryz.prog 60 = some (120, 3, [.int .i64 0, .int .i64 0, .int .i64 0], 24)) ∧ (elT Tryz.prog 63 = some (82, 4, [.int .i64 0, .int .i64 0, .int .i64 0, .int .i64 0], 32)) ∧ (kdT Tryz.prog 3 = some 0) ∧ (ldT Tryz.prog 3 = some none) ∧ (ldT Tryz.prog 59 = some none) ∧ (ldT Tryz.prog 60 = some none) ∧ (ldT Tryz.prog 62 = some (some 2)) ∧ (ldT Tryz.prog 63 = some none) ∧ (ldT Tryz.prog 65 = some (some 3)) ∧ (offT Tryz.prog 62 0 = some 0) ∧ (offT Tryz.prog 62 1 = some 1) ∧ (offT Tryz.prog 65 2 = some 2) ∧ (placesT Tryz.prog 120 = some [(0, 1), (1, 1), (2, 1)]) ∧ (placesT Tryz.prog 31 = some [(0, 1), (1, 1)]) ∧ (placesT Tryz.prog 73 = some [(0, 1), (1, 1), (2, 1)]) ∧ (placesT Tryz.prog 82 = some [(0, 2), (2, 2)]) ∧ (slT Tryz.prog 22 = some (3, 1)) ∧ (szT Tryz.prog 59 = some 1) ∧ (szT Tryz.prog 60 = some 1) ∧ (szT Tryz.prog 62 = some 2) ∧ (szT Tryz.prog 63 = some 1) ∧ (szT Tryz.prog 65 = some 3) ∧ (zeroT Tryz.prog 120 = some [.int .i64 0, .int .i64 0, .int .i64 0]) ∧ (zeroT Tryz.prog 31 = some [.int .i64 0, .int .i64 0]) ∧ (zeroT Tryz.prog 62 = some [.slice none 0 0, .slice none 0 0]) ∧ (zeroT Tryz.prog 65 = some [.int .i64 0, .int .i64 0, .slice none 0 0]) ∧ (zeroT Tryz.prog 73 = some [.int .i64 0, .int .i64 0, .int .i64 0]) ∧ (zeroT Tryz.prog 82 = some [.int .i64 0, .int .i64 0, .int .i64 0, .int .i64 0]) := ⟨tr3, tr25, tr26, tr27, tr40, tr68, tr78, tr79, tr80, tr81, tr82, tr142, tr143, tr146, tr165, tr176, tr181, tr182, tr187, tr225, tr226, tr227, tr228, tr229, tr238, tr255, tr260, tr261, tr262, tr264⟩
theorem tf19 : (CallT Tryz.prog 49 = True) ∧ (CallT Tryz.prog 50 = True) ∧ (CallT Tryz.prog 51 = True) ∧ (arT Tryz.prog 22 = none) ∧ (elT Tryz.prog 22 = some (3, 1, [.int .i64 0], 8)) ∧ (elT Tryz.prog 50 = some (22, 1, [.slice none 0 0], 24)) ∧ (kdT Tryz.prog 3 = some 0) ∧ (kdT Tryz.prog 43 = some 0) ∧ (ldT Tryz.prog 122 = some (some 3)) ∧ (ldT Tryz.prog 22 = some none) ∧ (ldT Tryz.prog 3 = some none) ∧ (ldT Tryz.prog 62 = some (some 2)) ∧ (offT Tryz.prog 122 0 = some 0) ∧ (offT Tryz.prog 122 1 = some 1) ∧ (offT Tryz.prog 122 2 = some 2) ∧ (slT Tryz.prog 22 = some (3, 1)) ∧ (szT Tryz.prog 122 = some 3) ∧ (szT Tryz.prog 3 = some 1) ∧ (zeroT Tryz.prog 122 = some [.slice none 0 0, .slice none 0 0, .slice none 0 0]) := ⟨eq_true Tryz.call49, eq_true Tryz.call50, eq_true Tryz.call51, tr3, tr18, tr24, tr40, tr42, tr49, tr60, tr68, tr80, tr96, tr97, tr98, tr187, tr204, tr218, tr239⟩
theorem tf20 : (CallT Tryz.prog 52 = True) ∧ (CallT Tryz.prog 53 = True) ∧ (CallT Tryz.prog 54 = True) ∧ (CallT Tryz.prog 55 = True) ∧ (kdT Tryz.prog 43 = some 0) ∧ (ldT Tryz.prog 65 = some (some 3)) := ⟨eq_true Tryz.call52, eq_true Tryz.call53, eq_true Tryz.call54, eq_true Tryz.call55, tr42, tr82⟩
theorem tf21 : (CallT Tryz.prog 52 = True) ∧ (CallT Tryz.prog 54 = True) ∧ (CallT Tryz.prog 56 = True) ∧ (kdT Tryz.prog 3 = some 0) ∧ (kdT Tryz.prog 43 = some 0) ∧ (ldT Tryz.prog 3 = some none) ∧ (ldT Tryz.prog 65 = some (some 3)) ∧ (szT Tryz.prog 3 = some 1) ∧ (zeroT Tryz.prog 3 = some [.int .i64 0]) := ⟨eq_true Tryz.call52, eq_true Tryz.call54, eq_true Tryz.call56, tr40, tr42, tr68, tr82, tr218, tr254⟩
theorem tf22 : (elT Tryz.prog 59 = some (73, 3, [.int .i64 0, .int .i64 0, .int .i64 0], 24)) ∧ (elT Tryz.prog 60 = some (120, 3, [.int .i64 0, .int .i64 0, .int .i64 0], 24)) ∧ (ldT Tryz.prog 59 = some none) ∧ (ldT Tryz.prog 60 = some none) ∧ (ldT Tryz.prog 62 = some (some 2)) ∧ (offT Tryz.prog 62 0 = some 0) ∧ (offT Tryz.prog 62 1 = some 1) ∧ (placesT Tryz.prog 62 = some [(0, 1), (1, 1)]) ∧ (szT Tryz.prog 62 = some 2) ∧ (zeroT Tryz.prog 62 = some [.slice none 0 0, .slice none 0 0]) := ⟨tr25, tr26, tr78, tr79, tr80, tr142, tr143, tr180, tr227, tr260⟩
theorem tf23 : (CallT Tryz.prog 57 = True) ∧ (arT Tryz.prog 63 = none) ∧ (kdT Tryz.prog 3 = some 0) ∧ (ldT Tryz.prog 3 = some none) ∧ (ldT Tryz.prog 31 = some (some 2)) ∧ (ldT Tryz.prog 63 = some none) ∧ (offT Tryz.prog 31 0 = some 0) ∧ (offT Tryz.prog 31 1 = some 1) ∧ (offT Tryz.prog 65 0 = some 0) ∧ (offT Tryz.prog 65 1 = some 1) ∧ (offT Tryz.prog 65 2 = some 2) ∧ (offT Tryz.prog 82 0 = some 0) ∧ (offT Tryz.prog 82 1 = some 2) ∧ (slT Tryz.prog 63 = some (82, 4)) ∧ (szT Tryz.prog 31 = some 2) ∧ (zeroT Tryz.prog 31 = some [.int .i64 0, .int .i64 0]) := ⟨eq_true Tryz.call57, tr14, tr40, tr68, tr69, tr81, tr128, tr129, tr144, tr145, tr146, tr152, tr153, tr198, tr219, tr255⟩
theorem tf24 : (CallT Tryz.prog 57 = True) ∧ (arT Tryz.prog 74 = none) ∧ (kdT Tryz.prog 3 = some 0) ∧ (ldT Tryz.prog 3 = some none) ∧ (offT Tryz.prog 31 0 = some 0) ∧ (offT Tryz.prog 31 1 = some 1) ∧ (offT Tryz.prog 80 0 = some 0) ∧ (offT Tryz.prog 80 1 = some 2) ∧ (slT Tryz.prog 74 = some (80, 3)) := ⟨eq_true Tryz.call57, tr15, tr40, tr68, tr128, tr129, tr150, tr151, tr199⟩
theorem tf25 : (CallT Tryz.prog 58 = True) ∧ (CallT Tryz.prog 59 = True) ∧ (CallT Tryz.prog 60 = True) ∧ (arT Tryz.prog 22 = none) ∧ (arT Tryz.prog 74 = none) ∧ (kdT Tryz.prog 3 = some 0) ∧ (ldT Tryz.prog 3 = some none) ∧ (ldT Tryz.prog 80 = some (some 3)) ∧ (offT Tryz.prog 31 0 = some 0) ∧ (offT Tryz.prog 31 1 = some 1) ∧ (offT Tryz.prog 80 0 = some 0) ∧ (offT Tryz.prog 80 1 = some 2) ∧ (slT Tryz.prog 22 = some (3, 1)) ∧ (slT Tryz.prog 74 = some (80, 3)) ∧ (szT Tryz.prog 80 = some 3) ∧ (zeroT Tryz.prog 80 = some [.int .i64 0, .int .i64 0, .int .i64 0]) := ⟨eq_true Tryz.call58, eq_true Tryz.call59, eq_true Tryz.call60, tr3, tr15, tr40, tr68, tr84, tr128, tr129, tr150, tr151, tr187, tr199, tr231, tr263⟩
theorem tf27 : (kdT Tryz.prog 3 = some 0) ∧ (ldT Tryz.prog 3 = some none) ∧ (offT Tryz.prog 25 0 = some 0) ∧ (offT Tryz.prog 25 1 = some 1) := ⟨tr40, tr68, tr119, tr120⟩
theorem tf31 : (CallT Tryz.prog 35 = True) ∧ (arT Tryz.prog 22 = none) ∧ (arT Tryz.prog 23 = none) ∧ (kdT Tryz.prog 3 = some 0) ∧ (ldT Tryz.prog 22 = some none) ∧ (ldT Tryz.prog 23 = some none) ∧ (ldT Tryz.prog 3 = some none) ∧ (offT Tryz.prog 25 0 = some 0) ∧ (offT Tryz.prog 25 1 = some 1) ∧ (offT Tryz.prog 25 2 = some 2) ∧ (offT Tryz.prog 25 3 = some 3) ∧ (offT Tryz.prog 25 4 = some 4) ∧ (offT Tryz.prog 31 0 = some 0) ∧ (offT Tryz.prog 31 1 = some 1) ∧ (slT Tryz.prog 22 = some (3, 1)) ∧ (slT Tryz.prog 23 = some (31, 2)) := ⟨eq_true Tryz.call35, tr3, tr4, tr40, tr60, tr61, tr68, tr119, tr120, tr121, tr122, tr123, tr128, tr129, tr187, tr188⟩
theorem tf32 : (CallT Tryz.prog 35 = True) := eq_true Tryz.call35
theorem tf33 : (kdT Tryz.prog 3 = some 0) := tr40
theorem tf35 : (kdT Tryz.prog 3 = some 0) := tr40
theorem tf36 : (CallT Tryz.prog 64 = True) ∧ (elT Tryz.prog 35 = some (93, 9, [.int .i64 0, .int .i64 0, .int .i64 0, .int .i64 0, .int .i64 0, .int .i64 0, .int .i64 0, .bool false, .int .i64 0], 72)) ∧ (ldT Tryz.prog 37 = some (some 8)) ∧ (ldT Tryz.prog 93 = some (some 9)) ∧ (placesT Tryz.prog 37 = some [(0, 5), (5, 1), (6, 1), (7, 1)]) ∧ (placesT Tryz.prog 93 = some [(0, 1), (1, 1), (2, 1), (3, 1), (4, 1), (5, 1), (6, 1), (7, 1), (8, 1)]) ∧ (szT Tryz.prog 37 = some 8) ∧ (szT Tryz.prog 93 = some 9) ∧ (zeroT Tryz.prog 37 = some [.int .i64 0, .int .i64 0, .slice none 0 0, .slice none 0 0, .slice none 0 0, .int .i64 0, .int .i64 0, .slice none 0 0]) ∧ (zeroT Tryz.prog 93 = some [.int .i64 0, .int .i64 0, .int .i64 0, .int .i64 0, .int .i64 0, .int .i64 0, .int .i64 0, .bool false, .int .i64 0]) := ⟨eq_true Tryz.call64, tr23, tr73, tr86, tr178, tr183, tr221, tr233, tr257, tr265⟩
theorem tf37 : (CallT Tryz.prog 44 = True) ∧ (CallT Tryz.prog 65 = True) ∧ (CallT Tryz.prog 66 = True) ∧ (kdT Tryz.prog 3 = some 0) ∧ (kdT Tryz.prog 43 = some 0) ∧ (ldT Tryz.prog 37 = some (some 8)) := ⟨eq_true Tryz.call44, eq_true Tryz.call65, eq_true Tryz.call66, tr40, tr42, tr73⟩
theorem tf38 : (CallT Tryz.prog 64 = True) ∧ (elT Tryz.prog 22 = some (3, 1, [.int .i64 0], 8)) ∧ (elT Tryz.prog 26 = some (27, 1, [.slice none 0 0], 24)) ∧ (elT Tryz.prog 27 = some (139, 3, [.int .i64 0, .int .i64 0, .int .i64 0], 24)) ∧ (elT Tryz.prog 34 = some (55, 3, [.int .i64 0, .slice none 0 0, .bool false], 40)) ∧ (kdT Tryz.prog 3 = some 0) ∧ (ldT Tryz.prog 27 = some none) ∧ (ldT Tryz.prog 29 = some (some 8)) ∧ (ldT Tryz.prog 33 = some (some 4)) ∧ (offT Tryz.prog 29 2 = some 6) ∧ (offT Tryz.prog 29 3 = some 7) ∧ (placesT Tryz.prog 139 = some [(0, 1), (1, 2)]) ∧ (placesT Tryz.prog 29 = some [(0, 5), (5, 1), (6, 1), (7, 1)]) ∧ (placesT Tryz.prog 31 = some [(0, 1), (1, 1)]) ∧ (placesT Tryz.prog 33 = some [(0, 1), (1, 1), (2, 2)]) ∧ (placesT Tryz.prog 55 = some [(0, 1), (1, 1), (2, 1)]) ∧ (szT Tryz.prog 26 = some 1) ∧ (szT Tryz.prog 27 = some 1) ∧ (szT Tryz.prog 29 = some 8) ∧ (szT Tryz.prog 33 = some 4) ∧ (zeroT Tryz.prog 139 = some [.int .i64 0, .int .i64 0, .int .i64 0]) ∧ (zeroT Tryz.prog 29 = some [.int .i64 0, .int .i64 0, .slice none 0 0, .slice none 0 0, .slice none 0 0, .slice none 0 0, .slice none 0 0, .slice none 0 0]) ∧ (zeroT Tryz.prog 31 = some [.int .i64 0, .int .i64 0]) ∧ (zeroT Tryz.prog 33 = some [.int .i64 0, .slice none 0 0, .int .i64 0, .int .i64 0]) ∧ (zeroT Tryz.prog 55 = some [.int .i64 0, .slice none 0 0, .bool false]) := ⟨eq_true Tryz.call64, tr18, tr20, tr21, tr22, tr40, tr66, tr67, tr70, tr126, tr127, tr166, tr175, tr176, tr177, tr179, tr215, tr216, tr217, tr220, tr240, tr253, tr255, tr256, tr259⟩
theorem tf39 : (CallT Tryz.prog 67 = True) ∧ (CallT Tryz.prog 68 = True) ∧ (CallT Tryz.prog 69 = True) ∧ (CallT Tryz.prog 70 = True) ∧ (CallT Tryz.prog 71 = True) ∧ (CallT Tryz.prog 72 = True) ∧ (kdT Tryz.prog 3 = some 0) ∧ (kdT Tryz.prog 43 = some 0) ∧ (ldT Tryz.prog 29 = some (some 8)) ∧ (placesT Tryz.prog 116 = some [(0, 1), (1, 1), (2, 1)]) ∧ (zeroT Tryz.prog 116 = some [.int .i64 0, .int .i64 0, .int .i64 0]) := ⟨eq_true Tryz.call67, eq_true Tryz.call68, eq_true Tryz.call69, eq_true Tryz.call70, eq_true Tryz.call71, eq_true Tryz.call72, tr40, tr42, tr67, tr164, tr237⟩
theorem tf40 : (CallT Tryz.prog 73 = True) ∧ (CallT Tryz.prog 74 = True) ∧ (CallT Tryz.prog 75 = True) ∧ (arT Tryz.prog 22 = none) ∧ (elT Tryz.prog 22 = some (3, 1, [.int .i64 0], 8)) ∧ (kdT Tryz.prog 3 = some 0) ∧ (kdT Tryz.prog 43 = some 0) ∧ (ldT Tryz.prog 145 = some (some 5)) ∧ (ldT Tryz.prog 22 = some none) ∧ (ldT Tryz.prog 25 = some (some 5)) ∧ (ldT Tryz.prog 3 = some none) ∧ (placesT Tryz.prog 149 = some [(0, 1), (1, 1), (2, 1)]) ∧ (slT Tryz.prog 22 = some (3, 1)) ∧ (szT Tryz.prog 145 = some 5) ∧ (szT Tryz.prog 22 = some 1) ∧ (szT Tryz.prog 3 = some 1) ∧ (zeroT Tryz.prog 145 = some [.int .i64 0, .int .i64 0, .slice none 0 0, .slice none 0 0, .slice none 0 0]) ∧ (zeroT Tryz.prog 149 = some [.slice none 0 0, .slice none 0 0, .slice none 0 0]) ∧ (zeroT Tryz.prog 22 = some [.slice none 0 0]) := ⟨eq_true Tryz.call73, eq_true Tryz.call74, eq_true Tryz.call75, tr3, tr18, tr40, tr42, tr51, tr60, tr64, tr68, tr168, tr187, tr206, tr211, tr218, tr241, tr242, tr249⟩
theorem tf44 : True := trivial
theorem tf49 : (CallT Tryz.prog 89 = True) ∧ (arT Tryz.prog 59 = none) ∧ (arT Tryz.prog 60 = none) ∧ (elT Tryz.prog 22 = some (3, 1, [.int .i64 0], 8)) ∧ (kdT Tryz.prog 3 = some 0) ∧ (kdT Tryz.prog 43 = some 0) ∧ (ldT Tryz.prog 120 = some (some 3)) ∧ (ldT Tryz.prog 122 = some (some 3)) ∧ (ldT Tryz.prog 22 = some none) ∧ (ldT Tryz.prog 3 = some none) ∧ (ldT Tryz.prog 59 = some none) ∧ (ldT Tryz.prog 60 = some none) ∧ (ldT Tryz.prog 62 = some (some 2)) ∧ (ldT Tryz.prog 73 = some (some 3)) ∧ (offT Tryz.prog 120 0 = some 0) ∧ (offT Tryz.prog 120 1 = some 1) ∧ (offT Tryz.prog 120 2 = some 2) ∧ (offT Tryz.prog 122 0 = some 0) ∧ (offT Tryz.prog 122 1 = some 1) ∧ (offT Tryz.prog 122 2 = some 2) ∧ (offT Tryz.prog 62 0 = some 0) ∧ (offT Tryz.prog 62 1 = some 1) ∧ (offT Tryz.prog 73 0 = some 0) ∧ (offT Tryz.prog 73 1 = some 1) ∧ (offT Tryz.prog 73 2 = some 2) ∧ (slT Tryz.prog 59 = some (73, 3)) ∧ (slT Tryz.prog 60 = some (120, 3)) ∧ (szT Tryz.prog 120 = some 3) ∧ (szT Tryz.prog 122 = some 3) ∧ (szT Tryz.prog 22 = some 1) ∧ (szT Tryz.prog 73 = some 3) ∧ (zeroT Tryz.prog 120 = some [.int .i64 0, .int .i64 0, .int .i64 0]) ∧ (zeroT Tryz.prog 122 = some [.slice none 0 0, .slice none 0 0, .slice none 0 0]) ∧ (zeroT Tryz.prog 73 = some [.int .i64 0, .int .i64 0, .int .i64 0]) := ⟨eq_true Tryz.call89, tr12, tr13, tr18, tr40, tr42, tr48, tr49, tr60, tr68, tr78, tr79, tr80, tr83, tr93, tr94, tr95, tr96, tr97, tr98, tr142, tr143, tr147, tr148, tr149, tr196, tr197, tr203, tr204, tr211, tr230, tr238, tr239, tr262⟩
theorem tf50 : (CallT Tryz.prog 90 = True) ∧ (CallT Tryz.prog 91 = True) ∧ (kdT Tryz.prog 3 = some 0) ∧ (ldT Tryz.prog 122 = some (some 3)) := ⟨eq_true Tryz.call90, eq_true Tryz.call91, tr40, tr49⟩
theorem tf51 : (CallT Tryz.prog 90 = True) ∧ (CallT Tryz.prog 91 = True) ∧ (arT Tryz.prog 22 = none) ∧ (kdT Tryz.prog 3 = some 0) ∧ (ldT Tryz.prog 122 = some (some 3)) ∧ (ldT Tryz.prog 22 = some none) ∧ (ldT Tryz.prog 3 = some none) ∧ (offT Tryz.prog 122 0 = some 0) ∧ (offT Tryz.prog 122 1 = some 1) ∧ (offT Tryz.prog 122 2 = some 2) ∧ (slT Tryz.prog 22 = some (3, 1)) := ⟨eq_true Tryz.call90, eq_true Tryz.call91, tr3, tr40, tr49, tr60, tr68, tr96, tr97, tr98, tr187⟩
theorem tf52 : (CallT Tryz.prog 58 = True) ∧ (CallT Tryz.prog 92 = True) ∧ (CallT Tryz.prog 94 = True) ∧ (kdT Tryz.prog 3 = some 0) ∧ (ldT Tryz.prog 3 = some none) ∧ (ldT Tryz.prog 63 = some none) ∧ (offT Tryz.prog 65 0 = some 0) ∧ (offT Tryz.prog 65 1 = some 1) ∧ (offT Tryz.prog 65 2 = some 2) ∧ (slT Tryz.prog 63 = some (82, 4)) := ⟨eq_true Tryz.call58, eq_true Tryz.call92, eq_true Tryz.call94, tr40, tr68, tr81, tr144, tr145, tr146, tr198⟩
theorem tf53 : (CallT Tryz.prog 56 = True) ∧ (kdT Tryz.prog 3 = some 0) ∧ (ldT Tryz.prog 3 = some none) ∧ (ldT Tryz.prog 63 = some none) ∧ (ldT Tryz.prog 65 = some (some 3)) ∧ (offT Tryz.prog 65 2 = some 2) ∧ (slT Tryz.prog 63 = some (82, 4)) ∧ (szT Tryz.prog 3 = some 1) ∧ (zeroT Tryz.prog 3 = some [.int .i64 0]) := ⟨eq_true Tryz.call56, tr40, tr68, tr81, tr82, tr146, tr198, tr218, tr254⟩
theorem tf54 : (kdT Tryz.prog 3 = some 0) ∧ (ldT Tryz.prog 3 = some none) ∧ (offT Tryz.prog 31 0 = some 0) ∧ (offT Tryz.prog 31 1 = some 1) ∧ (offT Tryz.prog 82 0 = some 0) ∧ (offT Tryz.prog 82 1 = some 2) := ⟨tr40, tr68, tr128, tr129, tr152, tr153⟩
theorem tf55 : (kdT Tryz.prog 3 = some 0) ∧ (ldT Tryz.prog 3 = some none) ∧ (offT Tryz.prog 31 0 = some 0) ∧ (offT Tryz.prog 31 1 = some 1) ∧ (offT Tryz.prog 82 0 = some 0) ∧ (offT Tryz.prog 82 1 = some 2) := ⟨tr40, tr68, tr128, tr129, tr152, tr153⟩
theorem tf56 : (CallT Tryz.prog 95 = True) := eq_true Tryz.call95
theorem tf57 : (kdT Tryz.prog 3 = some 0) := tr40
theorem tf58 : (kdT Tryz.prog 3 = some 0) := tr40
theorem tf59 : (CallT Tryz.prog 96 = True) ∧ (elT Tryz.prog 22 = some (3, 1, [.int .i64 0], 8)) ∧ (intT Tryz.prog 165 = some .u64) ∧ (intT Tryz.prog 3 = some .i64) ∧ (kdT Tryz.prog 3 = some 0) := ⟨eq_true Tryz.call96, tr18, tr28, tr32, tr40⟩
theorem tf60 : (CallT Tryz.prog 97 = True) ∧ (arT Tryz.prog 22 = none) ∧ (kdT Tryz.prog 3 = some 0) ∧ (ldT Tryz.prog 3 = some none) ∧ (slT Tryz.prog 22 = some (3, 1)) := ⟨eq_true Tryz.call97, tr3, tr40, tr68, tr187⟩
theorem tf62 : (CallT Tryz.prog 27 = True) ∧ (CallT Tryz.prog 35 = True) ∧ (kdT Tryz.prog 3 = some 0) ∧ (ldT Tryz.prog 25 = some (some 5)) := ⟨eq_true Tryz.call27, eq_true Tryz.call35, tr40, tr64⟩
theorem tf63 : (CallT Tryz.prog 33 = True) ∧ (CallT Tryz.prog 99 = True) ∧ (kdT Tryz.prog 3 = some 0) ∧ (ldT Tryz.prog 3 = some none) ∧ (offT Tryz.prog 93 3 = some 3) ∧ (offT Tryz.prog 93 4 = some 4) ∧ (offT Tryz.prog 93 5 = some 5) ∧ (offT Tryz.prog 93 6 = some 6) := ⟨eq_true Tryz.call33, eq_true Tryz.call99, tr40, tr68, tr157, tr158, tr159, tr160⟩
theorem tf64 : (elT Tryz.prog 22 = some (3, 1, [.int .i64 0], 8)) ∧ (elT Tryz.prog 23 = some (31, 2, [.int .i64 0, .int .i64 0], 16)) ∧ (ldT Tryz.prog 25 = some (some 5)) ∧ (placesT Tryz.prog 25 = some [(0, 1), (1, 1), (2, 1), (3, 1), (4, 1)]) ∧ (placesT Tryz.prog 31 = some [(0, 1), (1, 1)]) ∧ (szT Tryz.prog 25 = some 5) ∧ (zeroT Tryz.prog 25 = some [.int .i64 0, .int .i64 0, .slice none 0 0, .slice none 0 0, .slice none 0 0]) ∧ (zeroT Tryz.prog 31 = some [.int .i64 0, .int .i64 0]) := ⟨tr18, tr19, tr64, tr174, tr176, tr214, tr252, tr255⟩
theorem tf65 : (CallT Tryz.prog 100 = True) ∧ (CallT Tryz.prog 101 = True) ∧ (CallT Tryz.prog 102 = True) ∧ (CallT Tryz.prog 40 = True) ∧ (arT Tryz.prog 178 = none) ∧ (arT Tryz.prog 22 = none) ∧ (arT Tryz.prog 35 = none) ∧ (elT Tryz.prog 175 = some (178, 1, [.slice none 0 0], 24)) ∧ (elT Tryz.prog 178 = some (4, 1, [.bool false], 1)) ∧ (elT Tryz.prog 22 = some (3, 1, [.int .i64 0], 8)) ∧ (elT Tryz.prog 50 = some (22, 1, [.slice none 0 0], 24)) ∧ (kdT Tryz.prog 3 = some 0) ∧ (kdT Tryz.prog 43 = some 0) ∧ (ldT Tryz.prog 175 = some none) ∧ (ldT Tryz.prog 22 = some none) ∧ (ldT Tryz.prog 23 = some none) ∧ (ldT Tryz.prog 25 = some (some 5)) ∧ (ldT Tryz.prog 3 = some none) ∧ (ldT Tryz.prog 35 = some none) ∧ (ldT Tryz.prog 37 = some (some 8)) ∧ (ldT Tryz.prog 50 = some none) ∧ (ldT Tryz.prog 93 = some (some 9)) ∧ (offT Tryz.prog 177 1 = some 8) ∧ (offT Tryz.prog 177 2 = some 9) ∧ (offT Tryz.prog 177 3 = some 10) ∧ (offT Tryz.prog 25 2 = some 2) ∧ (offT Tryz.prog 25 3 = some 3) ∧ (offT Tryz.prog 37 0 = some 0) ∧ (offT Tryz.prog 37 1 = some 5) ∧ (offT Tryz.prog 37 3 = some 7) ∧ (placesT Tryz.prog 177 = some [(0, 8), (8, 1), (9, 1), (10, 1)]) ∧ (slT Tryz.prog 178 = some (4, 1)) ∧ (slT Tryz.prog 22 = some (3, 1)) ∧ (slT Tryz.prog 23 = some (31, 2)) ∧ (slT Tryz.prog 35 = some (93, 9)) ∧ (szT Tryz.prog 175 = some 1) ∧ (szT Tryz.prog 3 = some 1) ∧ (szT Tryz.prog 4 = some 1) ∧ (szT Tryz.prog 50 = some 1) ∧ (szT Tryz.prog 93 = some 9) ∧ (zeroT Tryz.prog 177 = some [.int .i64 0, .int .i64 0, .slice none 0 0, .slice none 0 0, .slice none 0 0, .int .i64 0, .int .i64 0, .slice none 0 0, .slice none 0 0, .slice none 0 0, .slice none 0 0]) ∧ (zeroT Tryz.prog 93 = some [.int .i64 0, .int .i64 0, .int .i64 0, .int .i64 0, .int .i64 0, .int .i64 0, .int .i64 0, .bool false, .int .i64 0]) := ⟨eq_true Tryz.call100, eq_true Tryz.call101, eq_true Tryz.call102, eq_true Tryz.call40, tr1, tr3, tr10, tr16, tr17, tr18, tr24, tr40, tr42, tr54, tr60, tr61, tr64, tr68, tr72, tr73, tr76, tr86, tr108, tr109, tr110, tr121, tr122, tr133, tr134, tr136, tr170, tr185, tr187, tr188, tr194, tr208, tr218, tr222, tr223, tr233, tr245, tr265⟩
theorem tf66 : (CallT Tryz.prog 103 = True) ∧ (CallT Tryz.prog 104 = True) ∧ (CallT Tryz.prog 77 = True) ∧ (CallT Tryz.prog 78 = True) ∧ (arT Tryz.prog 22 = none) ∧ (arT Tryz.prog 50 = none) ∧ (elT Tryz.prog 22 = some (3, 1, [.int .i64 0], 8)) ∧ (kdT Tryz.prog 3 = some 0) ∧ (ldT Tryz.prog 22 = some none) ∧ (ldT Tryz.prog 3 = some none) ∧ (ldT Tryz.prog 50 = some none) ∧ (offT Tryz.prog 177 0 = some 0) ∧ (offT Tryz.prog 177 1 = some 8) ∧ (offT Tryz.prog 37 2 = some 6) ∧ (slT Tryz.prog 22 = some (3, 1)) ∧ (slT Tryz.prog 50 = some (22, 1)) := ⟨eq_true Tryz.call103, eq_true Tryz.call104, eq_true Tryz.call77, eq_true Tryz.call78, tr3, tr11, tr18, tr40, tr60, tr68, tr76, tr107, tr108, tr135, tr187, tr195⟩
theorem tf67 : (CallT Tryz.prog 105 = True) ∧ (CallT Tryz.prog 106 = True) ∧ (CallT Tryz.prog 107 = True) ∧ (CallT Tryz.prog 108 = True) ∧ (CallT Tryz.prog 109 = True) ∧ (CallT Tryz.prog 69 = True) ∧ (kdT Tryz.prog 3 = some 0) ∧ (kdT Tryz.prog 43 = some 0) ∧ (ldT Tryz.prog 22 = some none) ∧ (ldT Tryz.prog 25 = some (some 5)) ∧ (ldT Tryz.prog 26 = some none) ∧ (ldT Tryz.prog 27 = some none) ∧ (ldT Tryz.prog 29 = some (some 8)) ∧ (offT Tryz.prog 25 2 = some 2) ∧ (offT Tryz.prog 29 0 = some 0) ∧ (offT Tryz.prog 29 1 = some 5) ∧ (offT Tryz.prog 29 2 = some 6) ∧ (offT Tryz.prog 29 3 = some 7) ∧ (placesT Tryz.prog 187 = some [(0, 8), (8, 1), (9, 1)]) ∧ (slT Tryz.prog 22 = some (3, 1)) ∧ (slT Tryz.prog 26 = some (27, 1)) ∧ (zeroT Tryz.prog 187 = some [.int .i64 0, .int .i64 0, .slice none 0 0, .slice none 0 0, .slice none 0 0, .slice none 0 0, .slice none 0 0, .slice none 0 0, .map none, .map none]) := ⟨eq_true Tryz.call105, eq_true Tryz.call106, eq_true Tryz.call107, eq_true Tryz.call108, eq_true Tryz.call109, eq_true Tryz.call69, tr40, tr42, tr60, tr64, tr65, tr66, tr67, tr121, tr124, tr125, tr126, tr127, tr171, tr187, tr191, tr246⟩
theorem tf68 : (CallT Tryz.prog 69 = True) ∧ (kdT Tryz.prog 3 = some 0) ∧ (ldT Tryz.prog 22 = some none) ∧ (offT Tryz.prog 187 0 = some 0) ∧ (offT Tryz.prog 25 2 = some 2) ∧ (offT Tryz.prog 29 0 = some 0) ∧ (slT Tryz.prog 22 = some (3, 1)) := ⟨eq_true Tryz.call69, tr40, tr60, tr111, tr121, tr124, tr187⟩
theorem tf69 : (kdT Tryz.prog 3 = some 0) := tr40
theorem tf70 : (kdT Tryz.prog 3 = some 0) ∧ (ldT Tryz.prog 23 = some none) ∧ (offT Tryz.prog 187 0 = some 0) ∧ (offT Tryz.prog 25 3 = some 3) ∧ (offT Tryz.prog 29 0 = some 0) ∧ (slT Tryz.prog 23 = some (31, 2)) := ⟨tr40, tr61, tr111, tr122, tr124, tr188⟩
theorem tf71 : (elT Tryz.prog 22 = some (3, 1, [.int .i64 0], 8)) ∧ (kdT Tryz.prog 22 = some 2) := ⟨tr18, tr38⟩
theorem tf72 : (CallT Tryz.prog 110 = True) ∧ (CallT Tryz.prog 111 = True) ∧ (CallT Tryz.prog 112 = True) ∧ (CallT Tryz.prog 113 = True) ∧ (CallT Tryz.prog 114 = True) ∧ (CallT Tryz.prog 47 = True) ∧ (CallT Tryz.prog 48 = True) ∧ (arT Tryz.prog 22 = none) ∧ (arT Tryz.prog 23 = none) ∧ (arT Tryz.prog 26 = none) ∧ (arT Tryz.prog 27 = none) ∧ (elT Tryz.prog 22 = some (3, 1, [.int .i64 0], 8)) ∧ (kdT Tryz.prog 3 = some 0) ∧ (ldT Tryz.prog 107 = some none) ∧ (ldT Tryz.prog 108 = some none) ∧ (ldT Tryz.prog 116 = some (some 3)) ∧ (ldT Tryz.prog 139 = some (some 3)) ∧ (ldT Tryz.prog 184 = some none) ∧ (ldT Tryz.prog 22 = some none) ∧ (ldT Tryz.prog 23 = some none) ∧ (ldT Tryz.prog 26 = some none) ∧ (ldT Tryz.prog 27 = some none) ∧ (ldT Tryz.prog 3 = some none) ∧ (offT Tryz.prog 116 0 = some 0) ∧ (offT Tryz.prog 116 1 = some 1) ∧ (offT Tryz.prog 187 0 = some 0) ∧ (offT Tryz.prog 187 1 = some 8) ∧ (offT Tryz.prog 25 3 = some 3) ∧ (offT Tryz.prog 29 0 = some 0) ∧ (offT Tryz.prog 29 1 = some 5) ∧ (offT Tryz.prog 29 2 = some 6) ∧ (offT Tryz.prog 29 3 = some 7) ∧ (offT Tryz.prog 31 0 = some 0) ∧ (offT Tryz.prog 31 1 = some 1) ∧ (slT Tryz.prog 22 = some (3, 1)) ∧ (slT Tryz.prog 23 = some (31, 2)) ∧ (slT Tryz.prog 26 = some (27, 1)) ∧ (slT Tryz.prog 27 = some (139, 3)) ∧ (szT Tryz.prog 107 = some 1) ∧ (szT Tryz.prog 22 = some 1) ∧ (szT Tryz.prog 3 = some 1) ∧ (zeroT Tryz.prog 107 = some [.nilFunc]) ∧ (zeroT Tryz.prog 22 = some [.slice none 0 0]) ∧ (zeroT Tryz.prog 3 = some [.int .i64 0]) := ⟨eq_true Tryz.call110, eq_true Tryz.call111, eq_true Tryz.call112, eq_true Tryz.call113, eq_true Tryz.call114, eq_true Tryz.call47, eq_true Tryz.call48, tr3, tr4, tr7, tr8, tr18, tr40, tr44, tr45, tr47, tr50, tr56, tr60, tr61, tr65, tr66, tr68, tr90, tr91, tr111, tr112, tr122, tr124, tr125, tr126, tr127, tr128, tr129, tr187, tr188, tr191, tr192, tr200, tr211, tr218, tr234, tr249, tr254⟩
theorem tf73 : (CallT Tryz.prog 106 = True) ∧ (CallT Tryz.prog 115 = True) ∧ (CallT Tryz.prog 117 = True) ∧ (CallT Tryz.prog 118 = True) ∧ (CallT Tryz.prog 119 = True) ∧ (kdT Tryz.prog 43 = some 0) ∧ (ldT Tryz.prog 145 = some (some 5)) ∧ (ldT Tryz.prog 22 = some none) ∧ (ldT Tryz.prog 25 = some (some 5)) ∧ (offT Tryz.prog 149 0 = some 0) ∧ (offT Tryz.prog 149 1 = some 1) ∧ (offT Tryz.prog 149 2 = some 2) ∧ (placesT Tryz.prog 145 = some [(0, 5)]) ∧ (szT Tryz.prog 145 = some 5) ∧ (zeroT Tryz.prog 145 = some [.int .i64 0, .int .i64 0, .slice none 0 0, .slice none 0 0, .slice none 0 0]) := ⟨eq_true Tryz.call106, eq_true Tryz.call115, eq_true Tryz.call117, eq_true Tryz.call118, eq_true Tryz.call119, tr42, tr51, tr60, tr64, tr102, tr103, tr104, tr167, tr206, tr241⟩
theorem tf74 : (CallT Tryz.prog 120 = True) ∧ (elT Tryz.prog 22 = some (3, 1, [.int .i64 0], 8)) ∧ (ldT Tryz.prog 22 = some none) ∧ (offT Tryz.prog 145 0 = some 0) ∧ (offT Tryz.prog 25 2 = some 2) ∧ (slT Tryz.prog 22 = some (3, 1)) := ⟨eq_true Tryz.call120, tr18, tr60, tr101, tr121, tr187⟩
theorem tf75 : (CallT Tryz.prog 121 = True) := eq_true Tryz.call121
theorem tf76 : (kdT Tryz.prog 3 = some 0) := tr40
theorem tf77 : (CallT Tryz.prog 120 = True) ∧ (arT Tryz.prog 175 = none) ∧ (arT Tryz.prog 178 = none) ∧ (arT Tryz.prog 22 = none) ∧ (arT Tryz.prog 35 = none) ∧ (arT Tryz.prog 50 = none) ∧ (elT Tryz.prog 22 = some (3, 1, [.int .i64 0], 8)) ∧ (elT Tryz.prog 50 = some (22, 1, [.slice none 0 0], 24)) ∧ (kdT Tryz.prog 3 = some 0) ∧ (ldT Tryz.prog 175 = some none) ∧ (ldT Tryz.prog 178 = some none) ∧ (ldT Tryz.prog 22 = some none) ∧ (ldT Tryz.prog 3 = some none) ∧ (ldT Tryz.prog 35 = some none) ∧ (ldT Tryz.prog 4 = some none) ∧ (ldT Tryz.prog 93 = some (some 9)) ∧ (offT Tryz.prog 177 0 = some 0) ∧ (offT Tryz.prog 177 2 = some 9) ∧ (offT Tryz.prog 177 3 = some 10) ∧ (offT Tryz.prog 37 3 = some 7) ∧ (offT Tryz.prog 93 0 = some 0) ∧ (slT Tryz.prog 175 = some (178, 1)) ∧ (slT Tryz.prog 178 = some (4, 1)) ∧ (slT Tryz.prog 22 = some (3, 1)) ∧ (slT Tryz.prog 35 = some (93, 9)) ∧ (slT Tryz.prog 50 = some (22, 1)) ∧ (szT Tryz.prog 3 = some 1) ∧ (szT Tryz.prog 93 = some 9) ∧ (zeroT Tryz.prog 93 = some [.int .i64 0, .int .i64 0, .int .i64 0, .int .i64 0, .int .i64 0, .int .i64 0, .int .i64 0, .bool false, .int .i64 0]) := ⟨eq_true Tryz.call120, tr0, tr1, tr3, tr10, tr11, tr18, tr24, tr40, tr54, tr55, tr60, tr68, tr72, tr74, tr86, tr107, tr109, tr110, tr136, tr154, tr184, tr185, tr187, tr194, tr195, tr218, tr233, tr265⟩
theorem tf78 : (CallT Tryz.prog 123 = True) ∧ (CallT Tryz.prog 79 = True) ∧ (CallT Tryz.prog 80 = True) ∧ (arT Tryz.prog 50 = none) ∧ (kdT Tryz.prog 3 = some 0) ∧ (ldT Tryz.prog 22 = some none) ∧ (slT Tryz.prog 50 = some (22, 1)) ∧ (szT Tryz.prog 22 = some 1) := ⟨eq_true Tryz.call123, eq_true Tryz.call79, eq_true Tryz.call80, tr11, tr40, tr60, tr195, tr211⟩
theorem tf79 : (CallT Tryz.prog 120 = True) ∧ (arT Tryz.prog 22 = none) ∧ (arT Tryz.prog 50 = none) ∧ (elT Tryz.prog 22 = some (3, 1, [.int .i64 0], 8)) ∧ (kdT Tryz.prog 3 = some 0) ∧ (ldT Tryz.prog 22 = some none) ∧ (ldT Tryz.prog 3 = some none) ∧ (ldT Tryz.prog 50 = some none) ∧ (offT Tryz.prog 177 0 = some 0) ∧ (offT Tryz.prog 177 1 = some 8) ∧ (offT Tryz.prog 37 2 = some 6) ∧ (slT Tryz.prog 22 = some (3, 1)) ∧ (slT Tryz.prog 50 = some (22, 1)) ∧ (szT Tryz.prog 3 = some 1) := ⟨eq_true Tryz.call120, tr3, tr11, tr18, tr40, tr60, tr68, tr76, tr107, tr108, tr135, tr187, tr195, tr218⟩
theorem tf80 : (arT Tryz.prog 22 = none) ∧ (elT Tryz.prog 22 = some (3, 1, [.int .i64 0], 8)) ∧ (kdT Tryz.prog 3 = some 0) ∧ (ldT Tryz.prog 3 = some none) ∧ (slT Tryz.prog 22 = some (3, 1)) ∧ (szT Tryz.prog 3 = some 1) := ⟨tr3, tr18, tr40, tr68, tr187, tr218⟩
theorem tf82 : (kdT Tryz.prog 3 = some 0) ∧ (ldT Tryz.prog 3 = some none) ∧ (offT Tryz.prog 157 0 = some 0) ∧ (offT Tryz.prog 157 1 = some 1) ∧ (offT Tryz.prog 31 0 = some 0) ∧ (offT Tryz.prog 31 1 = some 1) := ⟨tr40, tr68, tr105, tr106, tr128, tr129⟩
theorem tf89 : (CallT Tryz.prog 142 = True) ∧ (CallT Tryz.prog 143 = True) ∧ (CallT Tryz.prog 144 = True) ∧ (CallT Tryz.prog 145 = True) ∧ (kdT Tryz.prog 3 = some 0) ∧ (ldT Tryz.prog 59 = some none) ∧ (ldT Tryz.prog 60 = some none) ∧ (offT Tryz.prog 62 0 = some 0) ∧ (offT Tryz.prog 62 1 = some 1) ∧ (slT Tryz.prog 59 = some (73, 3)) ∧ (slT Tryz.prog 60 = some (120, 3)) := ⟨eq_true Tryz.call142, eq_true Tryz.call143, eq_true Tryz.call144, eq_true Tryz.call145, tr40, tr78, tr79, tr142, tr143, tr196, tr197⟩
theorem tf90 : (kdT Tryz.prog 3 = some 0) ∧ (ldT Tryz.prog 22 = some none) ∧ (offT Tryz.prog 122 1 = some 1) ∧ (slT Tryz.prog 22 = some (3, 1)) := ⟨tr40, tr60, tr97, tr187⟩
theorem tf91 : (arT Tryz.prog 22 = none) ∧ (kdT Tryz.prog 3 = some 0) ∧ (ldT Tryz.prog 22 = some none) ∧ (ldT Tryz.prog 3 = some none) ∧ (offT Tryz.prog 122 0 = some 0) ∧ (offT Tryz.prog 122 1 = some 1) ∧ (offT Tryz.prog 122 2 = some 2) ∧ (slT Tryz.prog 22 = some (3, 1)) := ⟨tr3, tr40, tr60, tr68, tr96, tr97, tr98, tr187⟩
theorem tf92 : (CallT Tryz.prog 93 = True) ∧ (ldT Tryz.prog 31 = some (some 2)) ∧ (offT Tryz.prog 82 0 = some 0) ∧ (offT Tryz.prog 82 1 = some 2) := ⟨eq_true Tryz.call93, tr69, tr152, tr153⟩
theorem tf93 : (kdT Tryz.prog 3 = some 0) ∧ (ldT Tryz.prog 3 = some none) ∧ (offT Tryz.prog 31 0 = some 0) ∧ (offT Tryz.prog 31 1 = some 1) := ⟨tr40, tr68, tr128, tr129⟩
theorem tf94 : (CallT Tryz.prog 146 = True) ∧ (kdT Tryz.prog 3 = some 0) := ⟨eq_true Tryz.call146, tr40⟩
theorem tf95 : (arT Tryz.prog 63 = none) ∧ (kdT Tryz.prog 3 = some 0) ∧ (ldT Tryz.prog 171 = some none) ∧ (ldT Tryz.prog 3 = some none) ∧ (ldT Tryz.prog 63 = some none) ∧ (ldT Tryz.prog 82 = some (some 4)) ∧ (offT Tryz.prog 65 0 = some 0) ∧ (offT Tryz.prog 65 1 = some 1) ∧ (offT Tryz.prog 65 2 = some 2) ∧ (slT Tryz.prog 63 = some (82, 4)) ∧ (szT Tryz.prog 82 = some 4) ∧ (zeroT Tryz.prog 82 = some [.int .i64 0, .int .i64 0, .int .i64 0, .int .i64 0]) := ⟨tr14, tr40, tr52, tr68, tr81, tr85, tr144, tr145, tr146, tr198, tr232, tr264⟩
theorem tf96 : (CallT Tryz.prog 147 = True) ∧ (CallT Tryz.prog 148 = True) ∧ (intT Tryz.prog 165 = some .u64) ∧ (intT Tryz.prog 208 = some .u32) := ⟨eq_true Tryz.call147, eq_true Tryz.call148, tr28, tr29⟩
theorem tf97 : (CallT Tryz.prog 149 = True) ∧ (kdT Tryz.prog 3 = some 0) := ⟨eq_true Tryz.call149, tr40⟩
theorem tf99 : (kdT Tryz.prog 3 = some 0) := tr40
theorem tf100 : (CallT Tryz.prog 106 = True) ∧ (CallT Tryz.prog 150 = True) ∧ (CallT Tryz.prog 151 = True) ∧ (CallT Tryz.prog 76 = True) ∧ (arT Tryz.prog 35 = none) ∧ (kdT Tryz.prog 3 = some 0) ∧ (kdT Tryz.prog 43 = some 0) ∧ (ldT Tryz.prog 22 = some none) ∧ (ldT Tryz.prog 23 = some none) ∧ (ldT Tryz.prog 25 = some (some 5)) ∧ (ldT Tryz.prog 3 = some none) ∧ (ldT Tryz.prog 35 = some none) ∧ (ldT Tryz.prog 93 = some (some 9)) ∧ (offT Tryz.prog 25 2 = some 2) ∧ (offT Tryz.prog 25 3 = some 3) ∧ (offT Tryz.prog 37 0 = some 0) ∧ (offT Tryz.prog 37 1 = some 5) ∧ (offT Tryz.prog 37 2 = some 6) ∧ (offT Tryz.prog 37 3 = some 7) ∧ (offT Tryz.prog 93 0 = some 0) ∧ (offT Tryz.prog 93 2 = some 2) ∧ (slT Tryz.prog 22 = some (3, 1)) ∧ (slT Tryz.prog 23 = some (31, 2)) ∧ (slT Tryz.prog 35 = some (93, 9)) ∧ (szT Tryz.prog 93 = some 9) ∧ (zeroT Tryz.prog 93 = some [.int .i64 0, .int .i64 0, .int .i64 0, .int .i64 0, .int .i64 0, .int .i64 0, .int .i64 0, .bool false, .int .i64 0]) := ⟨eq_true Tryz.call106, eq_true Tryz.call150, eq_true Tryz.call151, eq_true Tryz.call76, tr10, tr40, tr42, tr60, tr61, tr64, tr68, tr72, tr86, tr121, tr122, tr133, tr134, tr135, tr136, tr154, tr156, tr187, tr188, tr194, tr233, tr265⟩
theorem tf101 : (CallT Tryz.prog 152 = True) ∧ (CallT Tryz.prog 73 = True) ∧ (elT Tryz.prog 22 = some (3, 1, [.int .i64 0], 8)) ∧ (kdT Tryz.prog 3 = some 0) ∧ (kdT Tryz.prog 43 = some 0) ∧ (ldT Tryz.prog 145 = some (some 5)) ∧ (ldT Tryz.prog 25 = some (some 5)) ∧ (ldT Tryz.prog 3 = some none) ∧ (offT Tryz.prog 31 0 = some 0) ∧ (offT Tryz.prog 31 1 = some 1) ∧ (placesT Tryz.prog 149 = some [(0, 1), (1, 1), (2, 1)]) ∧ (szT Tryz.prog 145 = some 5) ∧ (szT Tryz.prog 31 = some 2) ∧ (zeroT Tryz.prog 145 = some [.int .i64 0, .int .i64 0, .slice none 0 0, .slice none 0 0, .slice none 0 0]) ∧ (zeroT Tryz.prog 149 = some [.slice none 0 0, .slice none 0 0, .slice none 0 0]) ∧ (zeroT Tryz.prog 31 = some [.int .i64 0, .int .i64 0]) := ⟨eq_true Tryz.call152, eq_true Tryz.call73, tr18, tr40, tr42, tr51, tr64, tr68, tr128, tr129, tr168, tr206, tr219, tr241, tr242, tr255⟩
theorem tf102 : (CallT Tryz.prog 153 = True) ∧ (CallT Tryz.prog 154 = True) ∧ (CallT Tryz.prog 155 = True) ∧ (CallT Tryz.prog 156 = True) ∧ (CallT Tryz.prog 76 = True) ∧ (arT Tryz.prog 22 = none) ∧ (arT Tryz.prog 50 = none) ∧ (kdT Tryz.prog 3 = some 0) ∧ (ldT Tryz.prog 218 = some (some 2)) ∧ (ldT Tryz.prog 22 = some none) ∧ (ldT Tryz.prog 3 = some none) ∧ (ldT Tryz.prog 50 = some none) ∧ (ldT Tryz.prog 93 = some (some 9)) ∧ (offT Tryz.prog 177 0 = some 0) ∧ (offT Tryz.prog 177 1 = some 8) ∧ (offT Tryz.prog 218 0 = some 0) ∧ (offT Tryz.prog 218 1 = some 1) ∧ (offT Tryz.prog 25 0 = some 0) ∧ (offT Tryz.prog 37 0 = some 0) ∧ (offT Tryz.prog 93 1 = some 1) ∧ (offT Tryz.prog 93 2 = some 2) ∧ (offT Tryz.prog 93 3 = some 3) ∧ (offT Tryz.prog 93 4 = some 4) ∧ (offT Tryz.prog 93 5 = some 5) ∧ (offT Tryz.prog 93 6 = some 6) ∧ (placesT Tryz.prog 218 = some [(0, 1), (1, 1)]) ∧ (slT Tryz.prog 22 = some (3, 1)) ∧ (slT Tryz.prog 50 = some (22, 1)) ∧ (szT Tryz.prog 218 = some 2) ∧ (zeroT Tryz.prog 218 = some [.int .i64 0, .int .i64 0]) := ⟨eq_true Tryz.call153, eq_true Tryz.call154, eq_true Tryz.call155, eq_true Tryz.call156, eq_true Tryz.call76, tr3, tr11, tr40, tr59, tr60, tr68, tr76, tr86, tr107, tr108, tr117, tr118, tr119, tr133, tr155, tr156, tr157, tr158, tr159, tr160, tr172, tr187, tr195, tr210, tr248⟩
theorem tf103 : (arT Tryz.prog 22 = none) ∧ (kdT Tryz.prog 3 = some 0) ∧ (ldT Tryz.prog 3 = some none) ∧ (slT Tryz.prog 22 = some (3, 1)) := ⟨tr3, tr40, tr68, tr187⟩
theorem tf104 : (arT Tryz.prog 22 = none) ∧ (kdT Tryz.prog 3 = some 0) ∧ (ldT Tryz.prog 3 = some none) ∧ (slT Tryz.prog 22 = some (3, 1)) := ⟨tr3, tr40, tr68, tr187⟩
theorem tf105 : (CallT Tryz.prog 69 = True) ∧ (kdT Tryz.prog 3 = some 0) ∧ (ldT Tryz.prog 26 = some none) ∧ (offT Tryz.prog 29 2 = some 6) ∧ (slT Tryz.prog 26 = some (27, 1)) := ⟨eq_true Tryz.call69, tr40, tr65, tr126, tr191⟩
theorem tf106 : (CallT Tryz.prog 116 = True) ∧ (CallT Tryz.prog 119 = True) ∧ (CallT Tryz.prog 157 = True) ∧ (CallT Tryz.prog 158 = True) ∧ (CallT Tryz.prog 159 = True) ∧ (CallT Tryz.prog 160 = True) ∧ (kdT Tryz.prog 3 = some 0) ∧ (ldT Tryz.prog 22 = some none) ∧ (ldT Tryz.prog 23 = some none) ∧ (ldT Tryz.prog 3 = some none) ∧ (offT Tryz.prog 25 0 = some 0) ∧ (offT Tryz.prog 25 1 = some 1) ∧ (offT Tryz.prog 25 2 = some 2) ∧ (offT Tryz.prog 25 3 = some 3) ∧ (offT Tryz.prog 25 4 = some 4) ∧ (slT Tryz.prog 22 = some (3, 1)) ∧ (slT Tryz.prog 23 = some (31, 2)) := ⟨eq_true Tryz.call116, eq_true Tryz.call119, eq_true Tryz.call157, eq_true Tryz.call158, eq_true Tryz.call159, eq_true Tryz.call160, tr40, tr60, tr61, tr68, tr119, tr120, tr121, tr122, tr123, tr187, tr188⟩
theorem tf107 : (arT Tryz.prog 22 = none) ∧ (kdT Tryz.prog 3 = some 0) ∧ (ldT Tryz.prog 3 = some none) ∧ (slT Tryz.prog 22 = some (3, 1)) := ⟨tr3, tr40, tr68, tr187⟩
theorem tf108 : (arT Tryz.prog 26 = none) ∧ (kdT Tryz.prog 3 = some 0) ∧ (ldT Tryz.prog 27 = some none) ∧ (slT Tryz.prog 26 = some (27, 1)) := ⟨tr7, tr40, tr66, tr191⟩
theorem tf109 : (CallT Tryz.prog 161 = True) ∧ (CallT Tryz.prog 162 = True) ∧ (CallT Tryz.prog 70 = True) ∧ (kdT Tryz.prog 3 = some 0) ∧ (slT Tryz.prog 27 = some (139, 3)) := ⟨eq_true Tryz.call161, eq_true Tryz.call162, eq_true Tryz.call70, tr40, tr192⟩
theorem tf110 : True := trivial
theorem tf111 : (kdT Tryz.prog 3 = some 0) ∧ (ldT Tryz.prog 3 = some none) ∧ (offT Tryz.prog 116 2 = some 2) := ⟨tr40, tr68, tr92⟩
theorem tf112 : (arT Tryz.prog 22 = none) ∧ (kdT Tryz.prog 3 = some 0) ∧ (ldT Tryz.prog 22 = some none) ∧ (ldT Tryz.prog 3 = some none) ∧ (offT Tryz.prog 187 0 = some 0) ∧ (offT Tryz.prog 25 2 = some 2) ∧ (offT Tryz.prog 25 4 = some 4) ∧ (offT Tryz.prog 29 0 = some 0) ∧ (slT Tryz.prog 22 = some (3, 1)) := ⟨tr3, tr40, tr60, tr68, tr111, tr121, tr123, tr124, tr187⟩
theorem tf113 : (CallT Tryz.prog 163 = True) := eq_true Tryz.call163
theorem tf114 : (elT Tryz.prog 22 = some (3, 1, [.int .i64 0], 8)) ∧ (ldT Tryz.prog 22 = some none) ∧ (szT Tryz.prog 22 = some 1) := ⟨tr18, tr60, tr211⟩
theorem tf115 : (CallT Tryz.prog 116 = True) ∧ (kdT Tryz.prog 3 = some 0) ∧ (ldT Tryz.prog 22 = some none) ∧ (offT Tryz.prog 25 2 = some 2) ∧ (slT Tryz.prog 22 = some (3, 1)) := ⟨eq_true Tryz.call116, tr40, tr60, tr121, tr187⟩
theorem tf116 : (kdT Tryz.prog 3 = some 0) := tr40
theorem tf117 : (CallT Tryz.prog 116 = True) ∧ (kdT Tryz.prog 3 = some 0) ∧ (ldT Tryz.prog 23 = some none) ∧ (offT Tryz.prog 25 3 = some 3) ∧ (slT Tryz.prog 23 = some (31, 2)) := ⟨eq_true Tryz.call116, tr40, tr61, tr122, tr188⟩
theorem tf118 : (CallT Tryz.prog 116 = True) := eq_true Tryz.call116
theorem tf119 : (CallT Tryz.prog 165 = True) ∧ (kdT Tryz.prog 3 = some 0) := ⟨eq_true Tryz.call165, tr40⟩
theorem tf120 : (CallT Tryz.prog 166 = True) ∧ (elT Tryz.prog 22 = some (3, 1, [.int .i64 0], 8)) ∧ (intT Tryz.prog 165 = some .u64) ∧ (intT Tryz.prog 3 = some .i64) ∧ (kdT Tryz.prog 165 = some 0) ∧ (kdT Tryz.prog 3 = some 0) ∧ (slT Tryz.prog 22 = some (3, 1)) := ⟨eq_true Tryz.call166, tr18, tr28, tr32, tr34, tr40, tr187⟩
theorem tf121 : (CallT Tryz.prog 122 = True) ∧ (kdT Tryz.prog 3 = some 0) ∧ (ldT Tryz.prog 145 = some (some 5)) ∧ (ldT Tryz.prog 3 = some none) := ⟨eq_true Tryz.call122, tr40, tr51, tr68⟩
theorem tf122 : (CallT Tryz.prog 116 = True) ∧ (arT Tryz.prog 196 = some (6, 3, some 3)) ∧ (kdT Tryz.prog 3 = some 0) ∧ (ldT Tryz.prog 195 = some (some 3)) ∧ (ldT Tryz.prog 3 = some none) ∧ (offT Tryz.prog 145 0 = some 0) ∧ (offT Tryz.prog 195 0 = some 0) ∧ (offT Tryz.prog 195 1 = some 1) ∧ (offT Tryz.prog 195 2 = some 2) ∧ (offT Tryz.prog 25 0 = some 0) ∧ (offT Tryz.prog 25 1 = some 1) ∧ (slT Tryz.prog 196 = none) ∧ (szT Tryz.prog 195 = some 3) ∧ (zeroT Tryz.prog 195 = some [.int .i64 0, .int .i64 0, .int .i64 0]) := ⟨eq_true Tryz.call116, tr2, tr40, tr58, tr68, tr101, tr114, tr115, tr116, tr119, tr120, tr186, tr209, tr247⟩
theorem tf123 : (elT Tryz.prog 50 = some (22, 1, [.slice none 0 0], 24)) ∧ (kdT Tryz.prog 50 = some 2) := ⟨tr24, tr43⟩
theorem tf142 : (CallT Tryz.prog 58 = True) ∧ (ldT Tryz.prog 3 = some none) ∧ (offT Tryz.prog 73 0 = some 0) ∧ (offT Tryz.prog 73 1 = some 1) ∧ (offT Tryz.prog 73 2 = some 2) := ⟨eq_true Tryz.call58, tr68, tr147, tr148, tr149⟩
theorem tf143 : (CallT Tryz.prog 58 = True) ∧ (ldT Tryz.prog 3 = some none) ∧ (offT Tryz.prog 120 0 = some 0) ∧ (offT Tryz.prog 120 1 = some 1) ∧ (offT Tryz.prog 120 2 = some 2) := ⟨eq_true Tryz.call58, tr68, tr93, tr94, tr95⟩
theorem tf144 : (CallT Tryz.prog 173 = True) ∧ (kdT Tryz.prog 3 = some 0) := ⟨eq_true Tryz.call173, tr40⟩
theorem tf145 : (CallT Tryz.prog 174 = True) ∧ (kdT Tryz.prog 3 = some 0) := ⟨eq_true Tryz.call174, tr40⟩
theorem tf146 : (arT Tryz.prog 63 = none) ∧ (kdT Tryz.prog 3 = some 0) ∧ (ldT Tryz.prog 82 = some (some 4)) ∧ (slT Tryz.prog 63 = some (82, 4)) := ⟨tr14, tr40, tr85, tr198⟩
theorem tf148 : (arT Tryz.prog 239 = some (64, 1, none)) ∧ (intT Tryz.prog 3 = some .i64) ∧ (intT Tryz.prog 5 = some .u8) ∧ (kdT Tryz.prog 210 = some 0) ∧ (ldT Tryz.prog 5 = some none) ∧ (slT Tryz.prog 239 = none) := ⟨tr6, tr32, tr33, tr37, tr75, tr190⟩
theorem tf149 : (kdT Tryz.prog 3 = some 0) := tr40
theorem tf150 : (CallT Tryz.prog 153 = True) ∧ (CallT Tryz.prog 155 = True) ∧ (CallT Tryz.prog 156 = True) ∧ (CallT Tryz.prog 76 = True) ∧ (arT Tryz.prog 22 = none) ∧ (elT Tryz.prog 22 = some (3, 1, [.int .i64 0], 8)) ∧ (kdT Tryz.prog 3 = some 0) ∧ (ldT Tryz.prog 218 = some (some 2)) ∧ (ldT Tryz.prog 3 = some none) ∧ (ldT Tryz.prog 93 = some (some 9)) ∧ (offT Tryz.prog 93 1 = some 1) ∧ (offT Tryz.prog 93 2 = some 2) ∧ (offT Tryz.prog 93 3 = some 3) ∧ (offT Tryz.prog 93 4 = some 4) ∧ (offT Tryz.prog 93 5 = some 5) ∧ (offT Tryz.prog 93 6 = some 6) ∧ (placesT Tryz.prog 218 = some [(0, 1), (1, 1)]) ∧ (slT Tryz.prog 22 = some (3, 1)) ∧ (szT Tryz.prog 218 = some 2) ∧ (zeroT Tryz.prog 218 = some [.int .i64 0, .int .i64 0]) := ⟨eq_true Tryz.call153, eq_true Tryz.call155, eq_true Tryz.call156, eq_true Tryz.call76, tr3, tr18, tr40, tr59, tr68, tr86, tr155, tr156, tr157, tr158, tr159, tr160, tr172, tr187, tr210, tr248⟩
theorem tf151 : (CallT Tryz.prog 76 = True) ∧ (kdT Tryz.prog 3 = some 0) ∧ (ldT Tryz.prog 3 = some none) ∧ (ldT Tryz.prog 4 = some none) ∧ (offT Tryz.prog 93 7 = some 7) ∧ (offT Tryz.prog 93 8 = some 8) := ⟨eq_true Tryz.call76, tr40, tr68, tr74, tr161, tr162⟩
theorem tf152 : (arT Tryz.prog 22 = none) ∧ (arT Tryz.prog 23 = none) ∧ (kdT Tryz.prog 3 = some 0) ∧ (ldT Tryz.prog 22 = some none) ∧ (ldT Tryz.prog 23 = some none) ∧ (ldT Tryz.prog 3 = some none) ∧ (ldT Tryz.prog 31 = some (some 2)) ∧ (offT Tryz.prog 145 0 = some 0) ∧ (offT Tryz.prog 25 2 = some 2) ∧ (offT Tryz.prog 25 3 = some 3) ∧ (offT Tryz.prog 25 4 = some 4) ∧ (offT Tryz.prog 31 0 = some 0) ∧ (offT Tryz.prog 31 1 = some 1) ∧ (placesT Tryz.prog 31 = some [(0, 1), (1, 1)]) ∧ (slT Tryz.prog 22 = some (3, 1)) ∧ (slT Tryz.prog 23 = some (31, 2)) ∧ (szT Tryz.prog 31 = some 2) ∧ (zeroT Tryz.prog 31 = some [.int .i64 0, .int .i64 0]) := ⟨tr3, tr4, tr40, tr60, tr61, tr68, tr69, tr101, tr121, tr122, tr123, tr128, tr129, tr176, tr187, tr188, tr219, tr255⟩
theorem tf153 : (ldT Tryz.prog 218 = some (some 2)) ∧ (ldT Tryz.prog 3 = some none) ∧ (offT Tryz.prog 93 3 = some 3) ∧ (offT Tryz.prog 93 4 = some 4) ∧ (offT Tryz.prog 93 5 = some 5) ∧ (offT Tryz.prog 93 6 = some 6) ∧ (placesT Tryz.prog 218 = some [(0, 1), (1, 1)]) ∧ (szT Tryz.prog 218 = some 2) ∧ (zeroT Tryz.prog 218 = some [.int .i64 0, .int .i64 0]) := ⟨tr59, tr68, tr157, tr158, tr159, tr160, tr172, tr210, tr248⟩
theorem tf154 : (kdT Tryz.prog 3 = some 0) ∧ (ldT Tryz.prog 218 = some (some 2)) ∧ (ldT Tryz.prog 3 = some none) ∧ (offT Tryz.prog 177 0 = some 0) ∧ (offT Tryz.prog 25 0 = some 0) ∧ (offT Tryz.prog 37 0 = some 0) ∧ (placesT Tryz.prog 218 = some [(0, 1), (1, 1)]) ∧ (szT Tryz.prog 218 = some 2) ∧ (zeroT Tryz.prog 218 = some [.int .i64 0, .int .i64 0]) := ⟨tr40, tr59, tr68, tr107, tr119, tr133, tr172, tr210, tr248⟩
theorem tf155 : (kdT Tryz.prog 3 = some 0) ∧ (ldT Tryz.prog 3 = some none) ∧ (offT Tryz.prog 218 0 = some 0) ∧ (offT Tryz.prog 218 1 = some 1) := ⟨tr40, tr68, tr117, tr118⟩
theorem tf156 : (kdT Tryz.prog 3 = some 0) ∧ (ldT Tryz.prog 3 = some none) ∧ (offT Tryz.prog 218 0 = some 0) ∧ (offT Tryz.prog 218 1 = some 1) := ⟨tr40, tr68, tr117, tr118⟩
theorem tf157 : (CallT Tryz.prog 116 = True) := eq_true Tryz.call116
theorem tf158 : (kdT Tryz.prog 3 = some 0) ∧ (ldT Tryz.prog 3 = some none) ∧ (offT Tryz.prog 31 0 = some 0) ∧ (offT Tryz.prog 31 1 = some 1) := ⟨tr40, tr68, tr128, tr129⟩
theorem tf159 : (CallT Tryz.prog 116 = True) := eq_true Tryz.call116
theorem tf160 : (CallT Tryz.prog 175 = True) ∧ (kdT Tryz.prog 3 = some 0) := ⟨eq_true Tryz.call175, tr40⟩
theorem tf161 : (arT Tryz.prog 27 = none) ∧ (kdT Tryz.prog 3 = some 0) ∧ (ldT Tryz.prog 139 = some (some 3)) ∧ (slT Tryz.prog 27 = some (139, 3)) ∧ (szT Tryz.prog 139 = some 3) ∧ (zeroT Tryz.prog 139 = some [.int .i64 0, .int .i64 0, .int .i64 0]) := ⟨tr8, tr40, tr50, tr192, tr205, tr240⟩
theorem tf162 : (CallT Tryz.prog 69 = True) ∧ (CallT Tryz.prog 82 = True) ∧ (ldT Tryz.prog 3 = some none) ∧ (ldT Tryz.prog 31 = some (some 2)) ∧ (offT Tryz.prog 139 0 = some 0) ∧ (offT Tryz.prog 139 1 = some 1) ∧ (placesT Tryz.prog 157 = some [(0, 1), (1, 1)]) ∧ (zeroT Tryz.prog 157 = some [.int .i64 0, .int .i64 0]) := ⟨eq_true Tryz.call69, eq_true Tryz.call82, tr68, tr69, tr99, tr100, tr169, tr243⟩
theorem tf163 : (CallT Tryz.prog 164 = True) ∧ (kdT Tryz.prog 3 = some 0) ∧ (ldT Tryz.prog 107 = some none) ∧ (ldT Tryz.prog 108 = some none) ∧ (ldT Tryz.prog 3 = some none) ∧ (offT Tryz.prog 139 0 = some 0) ∧ (offT Tryz.prog 139 1 = some 1) ∧ (offT Tryz.prog 31 0 = some 0) ∧ (offT Tryz.prog 31 1 = some 1) := ⟨eq_true Tryz.call164, tr40, tr44, tr45, tr68, tr99, tr100, tr128, tr129⟩
theorem tf164 : (CallT Tryz.prog 112 = True) ∧ (CallT Tryz.prog 176 = True) ∧ (kdT Tryz.prog 3 = some 0) := ⟨eq_true Tryz.call112, eq_true Tryz.call176, tr40⟩
theorem tf165 : (arT Tryz.prog 22 = none) ∧ (kdT Tryz.prog 3 = some 0) ∧ (ldT Tryz.prog 3 = some none) ∧ (slT Tryz.prog 22 = some (3, 1)) := ⟨tr3, tr40, tr68, tr187⟩
theorem tf166 : (CallT Tryz.prog 177 = True) ∧ (CallT Tryz.prog 178 = True) ∧ (intT Tryz.prog 165 = some .u64) ∧ (intT Tryz.prog 208 = some .u32) := ⟨eq_true Tryz.call177, eq_true Tryz.call178, tr28, tr29⟩
theorem tf173 : (arT Tryz.prog 59 = none) ∧ (kdT Tryz.prog 3 = some 0) ∧ (ldT Tryz.prog 73 = some (some 3)) ∧ (slT Tryz.prog 59 = some (73, 3)) := ⟨tr12, tr40, tr83, tr196⟩
theorem tf174 : (arT Tryz.prog 60 = none) ∧ (kdT Tryz.prog 3 = some 0) ∧ (ldT Tryz.prog 120 = some (some 3)) ∧ (slT Tryz.prog 60 = some (120, 3)) := ⟨tr13, tr40, tr48, tr197⟩
theorem tf175 : (arT Tryz.prog 23 = none) ∧ (kdT Tryz.prog 3 = some 0) ∧ (ldT Tryz.prog 31 = some (some 2)) ∧ (slT Tryz.prog 23 = some (31, 2)) := ⟨tr4, tr40, tr69, tr188⟩
theorem tf176 : (CallT Tryz.prog 180 = True) ∧ (kdT Tryz.prog 43 = some 0) ∧ (ldT Tryz.prog 185 = some none) ∧ (ldT Tryz.prog 247 = some (some 2)) ∧ (ldT Tryz.prog 25 = some (some 5)) ∧ (offT Tryz.prog 187 0 = some 0) ∧ (offT Tryz.prog 187 2 = some 9) ∧ (offT Tryz.prog 29 0 = some 0) ∧ (placesT Tryz.prog 247 = some [(0, 1), (1, 1)]) ∧ (szT Tryz.prog 247 = some 2) ∧ (zeroT Tryz.prog 247 = some [.int .i64 0, .int .i64 0]) := ⟨eq_true Tryz.call180, tr42, tr57, tr63, tr64, tr111, tr113, tr124, tr173, tr213, tr251⟩
theorem tf178 : (kdT Tryz.prog 210 = some 0) := tr37
theorem tf180 : (CallT Tryz.prog 116 = True) ∧ (CallT Tryz.prog 122 = True) ∧ (CallT Tryz.prog 73 = True) ∧ (elT Tryz.prog 22 = some (3, 1, [.int .i64 0], 8)) ∧ (kdT Tryz.prog 43 = some 0) ∧ (ldT Tryz.prog 145 = some (some 5)) ∧ (ldT Tryz.prog 25 = some (some 5)) ∧ (placesT Tryz.prog 149 = some [(0, 1), (1, 1), (2, 1)]) ∧ (szT Tryz.prog 145 = some 5) ∧ (zeroT Tryz.prog 145 = some [.int .i64 0, .int .i64 0, .slice none 0 0, .slice none 0 0, .slice none 0 0]) ∧ (zeroT Tryz.prog 149 = some [.slice none 0 0, .slice none 0 0, .slice none 0 0]) := ⟨eq_true Tryz.call116, eq_true Tryz.call122, eq_true Tryz.call73, tr18, tr42, tr51, tr64, tr168, tr206, tr241, tr242⟩
theorem res4 : Tryz.f4.results.toList = [.tmp 4] := by kernel_rfl
theorem res5 : Tryz.f5.results.toList = [.tmp 6] := by kernel_rfl
theorem res11 : Tryz.f11.results.toList = [.tmp 4] := by kernel_rfl
theorem res12 : Tryz.f12.results.toList = [.tmp 0] := by kernel_rfl
theorem res17 : Tryz.f17.results.toList = [.tmp 4] := by kernel_rfl
theorem res18 : Tryz.f18.results.toList = [.cell 4 62, .cell 5 65] := by kernel_rfl
theorem res19 : Tryz.f19.results.toList = [.tmp 2, .tmp 3] := by kernel_rfl
theorem res20 : Tryz.f20.results.toList = [.tmp 2, .tmp 3, .tmp 4] := by kernel_rfl
theorem res21 : Tryz.f21.results.toList = [.cell 2 3, .cell 3 3, .tmp 4] := by kernel_rfl
theorem res22 : Tryz.f22.results.toList = [.cell 2 62] := by kernel_rfl
theorem res23 : Tryz.f23.results.toList = [.tmp 2] := by kernel_rfl
theorem res24 : Tryz.f24.results.toList = [.tmp 4] := by kernel_rfl
theorem res25 : Tryz.f25.results.toList = [.tmp 4, .tmp 5, .tmp 6] := by kernel_rfl
theorem res27 : Tryz.f27.results.toList = [.tmp 2] := by kernel_rfl
theorem res31 : Tryz.f31.results.toList = [.tmp 2] := by kernel_rfl
theorem res32 : Tryz.f32.results.toList = [.tmp 2] := by kernel_rfl
theorem res33 : Tryz.f33.results.toList = [.tmp 6] := by kernel_rfl
theorem res35 : Tryz.f35.results.toList = [.tmp 6] := by kernel_rfl
theorem res36 : Tryz.f36.results.toList = [.cell 0 37, .cell 1 93] := by kernel_rfl
theorem res37 : Tryz.f37.results.toList = [.tmp 2, .tmp 3] := by kernel_rfl
theorem res38 : Tryz.f38.results.toList = [.cell 0 29, .cell 1 33, .tmp 2] := by kernel_rfl
theorem res39 : Tryz.f39.results.toList = [.tmp 8, .tmp 9] := by kernel_rfl
theorem res40 : Tryz.f40.results.toList = [.tmp 6, .tmp 7] := by kernel_rfl
theorem res44 : Tryz.f44.results.toList = [.tmp 2] := by kernel_rfl
theorem res49 : Tryz.f49.results.toList = [.cell 2 122, .tmp 3] := by kernel_rfl
theorem res50 : Tryz.f50.results.toList = [.tmp 2] := by kernel_rfl
theorem res51 : Tryz.f51.results.toList = [.tmp 6] := by kernel_rfl
theorem res52 : Tryz.f52.results.toList = [.tmp 2] := by kernel_rfl
theorem res53 : Tryz.f53.results.toList = [.cell 4 3] := by kernel_rfl
theorem res54 : Tryz.f54.results.toList = [.tmp 2] := by kernel_rfl
theorem res55 : Tryz.f55.results.toList = [.tmp 2] := by kernel_rfl
theorem res56 : Tryz.f56.results.toList = [.tmp 4] := by kernel_rfl
theorem res57 : Tryz.f57.results.toList = [.tmp 6] := by kernel_rfl
theorem res58 : Tryz.f58.results.toList = [.tmp 6] := by kernel_rfl
theorem res59 : Tryz.f59.results.toList = [.tmp 2] := by kernel_rfl
theorem res60 : Tryz.f60.results.toList = [.tmp 4] := by kernel_rfl
theorem res62 : Tryz.f62.results.toList = [.tmp 4] := by kernel_rfl
theorem res63 : Tryz.f63.results.toList = [.tmp 2] := by kernel_rfl
theorem res64 : Tryz.f64.results.toList = [.cell 0 25] := by kernel_rfl
theorem res65 : Tryz.f65.results.toList = [.tmp 2, .tmp 3] := by kernel_rfl
theorem res66 : Tryz.f66.results.toList = [.tmp 4, .tmp 5] := by kernel_rfl
theorem res67 : Tryz.f67.results.toList = [.tmp 2, .tmp 3] := by kernel_rfl
theorem res68 : Tryz.f68.results.toList = [.tmp 4] := by kernel_rfl
theorem res69 : Tryz.f69.results.toList = [.tmp 6] := by kernel_rfl
theorem res70 : Tryz.f70.results.toList = [.tmp 2] := by kernel_rfl
theorem res71 : Tryz.f71.results.toList = [.tmp 2] := by kernel_rfl
theorem res72 : Tryz.f72.results.toList = [.tmp 4] := by kernel_rfl
theorem res73 : Tryz.f73.results.toList = [.cell 4 145, .tmp 5] := by kernel_rfl
theorem res74 : Tryz.f74.results.toList = [.tmp 4] := by kernel_rfl
theorem res75 : Tryz.f75.results.toList = [.tmp 4] := by kernel_rfl
theorem res76 : Tryz.f76.results.toList = [.tmp 6] := by kernel_rfl
theorem res77 : Tryz.f77.results.toList = [.tmp 4] := by kernel_rfl
theorem res78 : Tryz.f78.results.toList = [.tmp 4] := by kernel_rfl
theorem res79 : Tryz.f79.results.toList = [.tmp 4] := by kernel_rfl
theorem res80 : Tryz.f80.results.toList = [.tmp 4] := by kernel_rfl
theorem res82 : Tryz.f82.results.toList = [.tmp 4] := by kernel_rfl
theorem res89 : Tryz.f89.results.toList = [.tmp 2] := by kernel_rfl
theorem res90 : Tryz.f90.results.toList = [.tmp 2] := by kernel_rfl
theorem res91 : Tryz.f91.results.toList = [.tmp 4, .tmp 5] := by kernel_rfl
theorem res92 : Tryz.f92.results.toList = [.tmp 2] := by kernel_rfl
theorem res93 : Tryz.f93.results.toList = [.tmp 2] := by kernel_rfl
theorem res94 : Tryz.f94.results.toList = [.tmp 4] := by kernel_rfl
theorem res95 : Tryz.f95.results.toList = [] := by kernel_rfl
theorem res96 : Tryz.f96.results.toList = [.tmp 2] := by kernel_rfl
theorem res97 : Tryz.f97.results.toList = [.tmp 4] := by kernel_rfl
theorem res99 : Tryz.f99.results.toList = [.tmp 8] := by kernel_rfl
theorem res100 : Tryz.f100.results.toList = [.tmp 2] := by kernel_rfl
theorem res101 : Tryz.f101.results.toList = [.tmp 8, .tmp 9, .tmp 10] := by kernel_rfl
theorem res102 : Tryz.f102.results.toList = [.tmp 6] := by kernel_rfl
theorem res103 : Tryz.f103.results.toList = [.tmp 2] := by kernel_rfl
theorem res104 : Tryz.f104.results.toList = [.tmp 4] := by kernel_rfl
theorem res105 : Tryz.f105.results.toList = [.tmp 3] := by kernel_rfl
theorem res106 : Tryz.f106.results.toList = [.tmp 2] := by kernel_rfl
theorem res107 : Tryz.f107.results.toList = [.tmp 4] := by kernel_rfl
theorem res108 : Tryz.f108.results.toList = [.tmp 4] := by kernel_rfl
theorem res109 : Tryz.f109.results.toList = [.tmp 4] := by kernel_rfl
theorem res110 : Tryz.f110.results.toList = [.tmp 2] := by kernel_rfl
theorem res111 : Tryz.f111.results.toList = [.tmp 3] := by kernel_rfl
theorem res112 : Tryz.f112.results.toList = [.tmp 8] := by kernel_rfl
theorem res113 : Tryz.f113.results.toList = [.tmp 12] := by kernel_rfl
theorem res114 : Tryz.f114.results.toList = [.tmp 4] := by kernel_rfl
theorem res115 : Tryz.f115.results.toList = [.tmp 3] := by kernel_rfl
theorem res116 : Tryz.f116.results.toList = [.tmp 6] := by kernel_rfl
theorem res117 : Tryz.f117.results.toList = [.tmp 3] := by kernel_rfl
theorem res118 : Tryz.f118.results.toList = [.tmp 2] := by kernel_rfl
theorem res119 : Tryz.f119.results.toList = [.tmp 4] := by kernel_rfl
theorem res120 : Tryz.f120.results.toList = [.tmp 4] := by kernel_rfl
theorem res121 : Tryz.f121.results.toList = [] := by kernel_rfl
theorem res122 : Tryz.f122.results.toList = [.tmp 6, .tmp 7] := by kernel_rfl
theorem res123 : Tryz.f123.results.toList = [.tmp 2] := by kernel_rfl
theorem res142 : Tryz.f142.results.toList = [.tmp 2] := by kernel_rfl
theorem res143 : Tryz.f143.results.toList = [.tmp 2] := by kernel_rfl
theorem res144 : Tryz.f144.results.toList = [.tmp 4] := by kernel_rfl
theorem res145 : Tryz.f145.results.toList = [.tmp 4] := by kernel_rfl
theorem res146 : Tryz.f146.results.toList = [.tmp 4] := by kernel_rfl
theorem res148 : Tryz.f148.results.toList = [.tmp 2] := by kernel_rfl
theorem res149 : Tryz.f149.results.toList = [.tmp 2] := by kernel_rfl
theorem res150 : Tryz.f150.results.toList = [.tmp 2] := by kernel_rfl
theorem res151 : Tryz.f151.results.toList = [.tmp 2] := by kernel_rfl
theorem res152 : Tryz.f152.results.toList = [.cell 6 31] := by kernel_rfl
theorem res153 : Tryz.f153.results.toList = [.cell 2 218, .cell 3 218] := by kernel_rfl
theorem res154 : Tryz.f154.results.toList = [.cell 4 218] := by kernel_rfl
theorem res155 : Tryz.f155.results.toList = [.tmp 4] := by kernel_rfl
theorem res156 : Tryz.f156.results.toList = [.tmp 4] := by kernel_rfl
theorem res157 : Tryz.f157.results.toList = [.tmp 2] := by kernel_rfl
theorem res158 : Tryz.f158.results.toList = [.tmp 2] := by kernel_rfl
theorem res159 : Tryz.f159.results.toList = [.tmp 2] := by kernel_rfl
theorem res160 : Tryz.f160.results.toList = [.tmp 4] := by kernel_rfl
theorem res161 : Tryz.f161.results.toList = [.tmp 4] := by kernel_rfl
theorem res162 : Tryz.f162.results.toList = [.tmp 2] := by kernel_rfl
theorem res163 : Tryz.f163.results.toList = [] := by kernel_rfl
theorem res164 : Tryz.f164.results.toList = [.tmp 12] := by kernel_rfl
theorem res165 : Tryz.f165.results.toList = [.tmp 4] := by kernel_rfl
theorem res166 : Tryz.f166.results.toList = [.tmp 4, .tmp 5] := by kernel_rfl
theorem res173 : Tryz.f173.results.toList = [.tmp 4] := by kernel_rfl
theorem res174 : Tryz.f174.results.toList = [.tmp 4] := by kernel_rfl
theorem res175 : Tryz.f175.results.toList = [.tmp 4] := by kernel_rfl
theorem res176 : Tryz.f176.results.toList = [.tmp 6] := by kernel_rfl
theorem res178 : Tryz.f178.results.toList = [.tmp 4, .tmp 5] := by kernel_rfl
theorem res180 : Tryz.f180.results.toList = [.tmp 6, .tmp 7] := by kernel_rfl
noncomputable abbrev EV (w : World) (X : Nat → Prop) (re : List Nat) (ord : List (Nat × Plan)) (det : Nat → List Value → Option Value) (cuts : List Nat) : Env := { P := Tryz.prog, w0 := ⟨w, X⟩, re := re, ord := ord, det := det, cuts := cuts }
abbrev I (n : Int) : Value := .int .i64 n
theorem mixed_prog : Tryz.prog.follows .mixedOrders = true := by kernel_rfl
theorem walkC {f : Nat} {fn : Func} {c : Code} {args : List Value} {n : Nat} {rs : List ResultVar} {Post : Value → List HO → Prop} {w : World} {X : Nat → Prop} (cuts : List Nat) (re : List Nat) (ord : List (Nat × Plan)) {det : Nat → List Value → Option Value} (hD : DetFn Tryz.prog ⟨w, X⟩ det)
    (hf : Tryz.prog.funcs[f]? = some fn) (hb : fn.body = some c) (hn : fn.ntmps = n) (hr : fn.results.toList = rs) (hok : codeB ord c = true) {H0 : List HO}
    (h0 : (∀ h ∈ H0, h.ok w) ∧ (∀ h ∈ H0, ∀ b, h.fp b → X b) ∧ H0.Pairwise Apart)
    (h : W (EV w X re ord det cuts) c (retQ (EV w X re ord det cuts) rs Post) (args.map SV.v ++ List.replicate (n - args.length) (.v undef)) [] H0) : SX.Fn Tryz.prog f args w X Post := by
  subst hn hr
  exact SX.Fn.intro (E := EV w X re ord det cuts) hf hb trivial hD mixed_prog hok h0 h
theorem walk {f : Nat} {fn : Func} {c : Code} {args : List Value} {n : Nat} {rs : List ResultVar} {Post : Value → List HO → Prop} {w : World} {X : Nat → Prop} (re : List Nat) (ord : List (Nat × Plan)) {det : Nat → List Value → Option Value} (hD : DetFn Tryz.prog ⟨w, X⟩ det)
    (hf : Tryz.prog.funcs[f]? = some fn) (hb : fn.body = some c) (hn : fn.ntmps = n) (hr : fn.results.toList = rs) (hok : codeB ord c = true) {H0 : List HO}
    (h0 : (∀ h ∈ H0, h.ok w) ∧ (∀ h ∈ H0, ∀ b, h.fp b → X b) ∧ H0.Pairwise Apart)
    (h : W (EV w X re ord det []) c (retQ (EV w X re ord det []) rs Post) (args.map SV.v ++ List.replicate (n - args.length) (.v undef)) [] H0) : SX.Fn Tryz.prog f args w X Post :=
  walkC [] re ord hD hf hb hn hr hok h0 h
theorem walkIterR {gf : Nat} {fn : Func} {c : Code} {pre post : List Value} {nt n : Nat} {arg : Nat → List Value → List HO → Prop} {w : World} (Rs : Nat → Prop) (re : List Nat) (ord : List (Nat × Plan)) {det : Nat → List Value → Option Value} (hD : ∀ X, (∀ b, Rs b → ¬ X b) → DetFn Tryz.prog ⟨w, X⟩ det)
    (hf : Tryz.prog.funcs[gf]? = some fn) (hb : fn.body = some c) (hn : fn.ntmps = nt) (hr : fn.results.toList = []) (hok : codeB ord c = true)
    (h : ∀ l J C R, (∀ b, Rs b → ¬ (C b ∨ False)) → Handler Tryz.prog l n arg w C (fun _ => False) J → W (EV w (fun b => C b ∨ False) re ord det []) c (retQ (EV w (fun b => C b ∨ False) re ord det []) [] (iterPost n J)) ((pre ++ [Value.func (.yield l) #[] #[]] ++ post).map SV.v ++ List.replicate (nt - (pre ++ [Value.func (.yield l) #[] #[]] ++ post).length) (.v undef)) [] [consu J (some 0) C R]) :
    Iter Tryz.prog gf pre post n arg (fun _ => False) Rs w := by
  refine Iter.intro fun l J C R hRs hH hk => ?_
  have hRs' : ∀ b, Rs b → ¬ (C b ∨ False) := fun b hb hc => hc.elim (hRs b hb) id
  have hw := h l J C R hRs' hH
  rw [← hr] at hw
  subst hn
  exact Fn.introZ (E := EV w (fun b => C b ∨ False) re ord det []) (fun b => C b ∨ R b) hf hb trivial (hD _ hRs') mixed_prog hok ⟨fun g hg => by rw [List.mem_singleton] at hg; subst hg; exact hk, fun g hg b => by rw [List.mem_singleton] at hg; subst hg; exact ⟨id, fun x => .inl x⟩, List.pairwise_singleton _ _⟩ hw
theorem no_facts {w : World} {X : Nat → Prop} : (∀ h ∈ ([] : List HO), h.ok w) ∧ (∀ h ∈ ([] : List HO), ∀ b, h.fp b → X b) ∧ ([] : List HO).Pairwise Apart := ⟨by simp, by simp, List.Pairwise.nil⟩
theorem wrap_id {n : Int} (h : -9223372036854775808 ≤ n ∧ n ≤ 9223372036854775807) : IntKind.i64.wrap n = n := by
  rw [IntKind.wrap_i64]
  omega
end Go.Proofs.YtnbogcpnpcbjgaaGreatDoor

