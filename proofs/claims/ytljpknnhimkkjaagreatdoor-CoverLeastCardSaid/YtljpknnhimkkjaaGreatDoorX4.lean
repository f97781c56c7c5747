/- Parts of a proof: the symbolic walk and what it shows of single functions. -/
import Derived.Test.YtljpknnhimkkjaaGreatDoorX3
import Derived.Test.YtljpknnhimkkjaaGreatDoorRows
set_option linter.all false
namespace Go.SX
open Go.RowKit
def rep (n:Nat) (v:Value):List Value:=List.replicate n v
end Go.SX

namespace Go.Proofs.YtljpknnhimkkjaaGreatDoor
open Go.RowKit Go.SX
set_option maxRecDepth 4000
theorem tr0:arT Tryz.prog 138 = none:=by kernel_rfl
theorem tr1:arT Tryz.prog 141 = none:=by kernel_rfl
theorem tr2:arT Tryz.prog 185 = some (6,3,some 3):=by kernel_rfl
theorem tr3:arT Tryz.prog 194 = none:=by kernel_rfl
theorem tr4:arT Tryz.prog 196 = none:=by kernel_rfl
theorem tr6:arT Tryz.prog 22 = none:=by kernel_rfl
theorem tr7:arT Tryz.prog 23 = none:=by kernel_rfl
theorem tr10:arT Tryz.prog 247 = some (900,1,none):=by kernel_rfl
theorem tr11:arT Tryz.prog 253 = some (101,1,none):=by kernel_rfl
theorem tr12:arT Tryz.prog 26 = none:=by kernel_rfl
theorem tr13:arT Tryz.prog 27 = none:=by kernel_rfl
theorem tr14:arT Tryz.prog 272 = some (6,1,none):=by kernel_rfl
theorem tr15:arT Tryz.prog 34 = none:=by kernel_rfl
theorem tr16:arT Tryz.prog 41 = none:=by kernel_rfl
theorem tr17:arT Tryz.prog 68 = none:=by kernel_rfl
theorem tr18:arT Tryz.prog 77 = none:=by kernel_rfl
theorem tr19:elT Tryz.prog 138 = some (253,101,(rep 101 (.int .i8 0)),101):=by kernel_rfl
theorem tr20:elT Tryz.prog 141 = some (221,1,[.pointer none],8):=by kernel_rfl
theorem tr21:elT Tryz.prog 194 = some (4,1,[.bool false],1):=by kernel_rfl
theorem tr22:elT Tryz.prog 196 = some (194,1,[.slice none 0 0],24):=by kernel_rfl
theorem tr24:elT Tryz.prog 22 = some (3,1,[.int .i64 0],8):=by kernel_rfl
theorem tr25:elT Tryz.prog 23 = some (49,2,[.int .i64 0,.int .i64 0],16):=by kernel_rfl
theorem tr28:elT Tryz.prog 26 = some (45,16,[.int .i64 0,.int .i64 0,.int .i64 0,.int .i64 0,.int .i64 0,.int .i64 0,.int .i64 0,.int .i64 0,.int .i64 0,.int .i64 0,.int .i64 0,.int .i64 0,.slice none 0 0,.int .i64 0,.int .i64 0,.slice none 0 0],160):=by kernel_rfl
theorem tr29:elT Tryz.prog 27 = some (53,2,[.int .i64 0,.int .i64 0],16):=by kernel_rfl
theorem tr30:elT Tryz.prog 34 = some (22,1,[.slice none 0 0],24):=by kernel_rfl
theorem tr31:elT Tryz.prog 41 = some (61,5,[.int .i64 0,.int .i64 0,.int .i64 0,.slice none 0 0,.int .i64 0],56):=by kernel_rfl
theorem tr32:elT Tryz.prog 68 = some (92,2,[.int .i64 0,.int .i64 0],16):=by kernel_rfl
theorem tr33:elT Tryz.prog 77 = some (88,4,[.int .i64 0,.int .i64 0,.int .i64 0,.int .i64 0],32):=by kernel_rfl
theorem tr34:intT Tryz.prog 241 = some .u32:=by kernel_rfl
theorem tr36:intT Tryz.prog 3 = some .i64:=by kernel_rfl
theorem tr37:intT Tryz.prog 62 = some .u64:=by kernel_rfl
theorem tr38:kdT Tryz.prog 141 = some 2:=by kernel_rfl
theorem tr39:kdT Tryz.prog 152 = some 0:=by kernel_rfl
theorem tr40:kdT Tryz.prog 22 = some 2:=by kernel_rfl
theorem tr41:kdT Tryz.prog 244 = some 0:=by kernel_rfl
theorem tr42:kdT Tryz.prog 252 = some 0:=by kernel_rfl
theorem tr43:kdT Tryz.prog 3 = some 0:=by kernel_rfl
theorem tr44:kdT Tryz.prog 31 = some 0:=by kernel_rfl
theorem tr45:kdT Tryz.prog 4 = some 1:=by kernel_rfl
theorem tr47:kdT Tryz.prog 62 = some 0:=by kernel_rfl
theorem tr49:ldT Tryz.prog 112 = some none:=by kernel_rfl
theorem tr50:ldT Tryz.prog 115 = some none:=by kernel_rfl
theorem tr51:ldT Tryz.prog 121 = some (some 5):=by kernel_rfl
theorem tr53:ldT Tryz.prog 137 = some none:=by kernel_rfl
theorem tr54:ldT Tryz.prog 138 = some none:=by kernel_rfl
theorem tr55:ldT Tryz.prog 141 = some none:=by kernel_rfl
theorem tr57:ldT Tryz.prog 152 = some none:=by kernel_rfl
theorem tr58:ldT Tryz.prog 158 = some none:=by kernel_rfl
theorem tr59:ldT Tryz.prog 159 = some none:=by kernel_rfl
theorem tr60:ldT Tryz.prog 184 = some (some 3):=by kernel_rfl
theorem tr62:ldT Tryz.prog 192 = some none:=by kernel_rfl
theorem tr63:ldT Tryz.prog 194 = some none:=by kernel_rfl
theorem tr64:ldT Tryz.prog 196 = some none:=by kernel_rfl
theorem tr65:ldT Tryz.prog 210 = some none:=by kernel_rfl
theorem tr66:ldT Tryz.prog 22 = some none:=by kernel_rfl
theorem tr67:ldT Tryz.prog 221 = some none:=by kernel_rfl
theorem tr68:ldT Tryz.prog 23 = some none:=by kernel_rfl
theorem tr72:ldT Tryz.prog 249 = some (some 1800):=by kernel_rfl
theorem tr73:ldT Tryz.prog 25 = some (some 5):=by kernel_rfl
theorem tr74:ldT Tryz.prog 252 = some none:=by kernel_rfl
theorem tr75:ldT Tryz.prog 26 = some none:=by kernel_rfl
theorem tr76:ldT Tryz.prog 27 = some none:=by kernel_rfl
theorem tr77:ldT Tryz.prog 29 = some (some 9):=by kernel_rfl
theorem tr78:ldT Tryz.prog 3 = some none:=by kernel_rfl
theorem tr79:ldT Tryz.prog 31 = some none:=by kernel_rfl
theorem tr80:ldT Tryz.prog 34 = some none:=by kernel_rfl
theorem tr81:ldT Tryz.prog 38 = some (some 7):=by kernel_rfl
theorem tr82:ldT Tryz.prog 4 = some none:=by kernel_rfl
theorem tr83:ldT Tryz.prog 40 = some (some 5):=by kernel_rfl
theorem tr84:ldT Tryz.prog 41 = some none:=by kernel_rfl
theorem tr85:ldT Tryz.prog 43 = some (some 3):=by kernel_rfl
theorem tr86:ldT Tryz.prog 45 = some (some 16):=by kernel_rfl
theorem tr87:ldT Tryz.prog 49 = some (some 2):=by kernel_rfl
theorem tr88:ldT Tryz.prog 53 = some (some 2):=by kernel_rfl
theorem tr89:ldT Tryz.prog 61 = some (some 5):=by kernel_rfl
theorem tr90:ldT Tryz.prog 77 = some none:=by kernel_rfl
theorem tr92:ldT Tryz.prog 88 = some (some 4):=by kernel_rfl
theorem tr93:ldT Tryz.prog 92 = some (some 2):=by kernel_rfl
theorem tr97:offT Tryz.prog 117 0 = some 0:=by kernel_rfl
theorem tr98:offT Tryz.prog 117 1 = some 9:=by kernel_rfl
theorem tr99:offT Tryz.prog 121 0 = some 0:=by kernel_rfl
theorem tr100:offT Tryz.prog 126 0 = some 0:=by kernel_rfl
theorem tr101:offT Tryz.prog 126 1 = some 1:=by kernel_rfl
theorem tr102:offT Tryz.prog 126 2 = some 2:=by kernel_rfl
theorem tr103:offT Tryz.prog 140 0 = some 0:=by kernel_rfl
theorem tr104:offT Tryz.prog 140 1 = some 1:=by kernel_rfl
theorem tr105:offT Tryz.prog 140 2 = some 2:=by kernel_rfl
theorem tr106:offT Tryz.prog 140 3 = some 3:=by kernel_rfl
theorem tr107:offT Tryz.prog 143 0 = some 0:=by kernel_rfl
theorem tr108:offT Tryz.prog 143 1 = some 3:=by kernel_rfl
theorem tr109:offT Tryz.prog 161 0 = some 0:=by kernel_rfl
theorem tr110:offT Tryz.prog 161 1 = some 1:=by kernel_rfl
theorem tr111:offT Tryz.prog 161 2 = some 2:=by kernel_rfl
theorem tr112:offT Tryz.prog 161 3 = some 3:=by kernel_rfl
theorem tr113:offT Tryz.prog 161 4 = some 4:=by kernel_rfl
theorem tr114:offT Tryz.prog 184 0 = some 0:=by kernel_rfl
theorem tr115:offT Tryz.prog 184 1 = some 1:=by kernel_rfl
theorem tr116:offT Tryz.prog 184 2 = some 2:=by kernel_rfl
theorem tr117:offT Tryz.prog 198 0 = some 0:=by kernel_rfl
theorem tr119:offT Tryz.prog 198 2 = some 12:=by kernel_rfl
theorem tr120:offT Tryz.prog 198 3 = some 13:=by kernel_rfl
theorem tr121:offT Tryz.prog 198 4 = some 14:=by kernel_rfl
theorem tr122:offT Tryz.prog 198 5 = some 15:=by kernel_rfl
theorem tr126:offT Tryz.prog 249 0 = some 0:=by kernel_rfl
theorem tr127:offT Tryz.prog 249 1 = some 900:=by kernel_rfl
theorem tr128:offT Tryz.prog 25 0 = some 0:=by kernel_rfl
theorem tr129:offT Tryz.prog 25 1 = some 1:=by kernel_rfl
theorem tr130:offT Tryz.prog 25 2 = some 2:=by kernel_rfl
theorem tr131:offT Tryz.prog 25 3 = some 3:=by kernel_rfl
theorem tr132:offT Tryz.prog 25 4 = some 4:=by kernel_rfl
theorem tr133:offT Tryz.prog 258 0 = some 0:=by kernel_rfl
theorem tr134:offT Tryz.prog 258 1 = some 1:=by kernel_rfl
theorem tr135:offT Tryz.prog 258 2 = some 2:=by kernel_rfl
theorem tr136:offT Tryz.prog 258 3 = some 3:=by kernel_rfl
theorem tr137:offT Tryz.prog 258 4 = some 4:=by kernel_rfl
theorem tr138:offT Tryz.prog 29 0 = some 0:=by kernel_rfl
theorem tr139:offT Tryz.prog 29 1 = some 5:=by kernel_rfl
theorem tr140:offT Tryz.prog 29 2 = some 6:=by kernel_rfl
theorem tr141:offT Tryz.prog 29 3 = some 7:=by kernel_rfl
theorem tr142:offT Tryz.prog 29 4 = some 8:=by kernel_rfl
theorem tr143:offT Tryz.prog 38 0 = some 0:=by kernel_rfl
theorem tr144:offT Tryz.prog 38 1 = some 1:=by kernel_rfl
theorem tr145:offT Tryz.prog 38 2 = some 2:=by kernel_rfl
theorem tr146:offT Tryz.prog 38 3 = some 3:=by kernel_rfl
theorem tr147:offT Tryz.prog 38 4 = some 4:=by kernel_rfl
theorem tr148:offT Tryz.prog 38 5 = some 5:=by kernel_rfl
theorem tr149:offT Tryz.prog 38 6 = some 6:=by kernel_rfl
theorem tr150:offT Tryz.prog 40 0 = some 0:=by kernel_rfl
theorem tr151:offT Tryz.prog 40 1 = some 1:=by kernel_rfl
theorem tr152:offT Tryz.prog 40 2 = some 2:=by kernel_rfl
theorem tr153:offT Tryz.prog 40 3 = some 3:=by kernel_rfl
theorem tr154:offT Tryz.prog 40 4 = some 4:=by kernel_rfl
theorem tr155:offT Tryz.prog 43 0 = some 0:=by kernel_rfl
theorem tr156:offT Tryz.prog 43 1 = some 1:=by kernel_rfl
theorem tr157:offT Tryz.prog 43 2 = some 2:=by kernel_rfl
theorem tr158:offT Tryz.prog 45 0 = some 0:=by kernel_rfl
theorem tr159:offT Tryz.prog 45 1 = some 7:=by kernel_rfl
theorem tr160:offT Tryz.prog 45 2 = some 12:=by kernel_rfl
theorem tr161:offT Tryz.prog 45 3 = some 15:=by kernel_rfl
theorem tr162:offT Tryz.prog 49 0 = some 0:=by kernel_rfl
theorem tr163:offT Tryz.prog 49 1 = some 1:=by kernel_rfl
theorem tr164:offT Tryz.prog 53 0 = some 0:=by kernel_rfl
theorem tr165:offT Tryz.prog 53 1 = some 1:=by kernel_rfl
theorem tr170:offT Tryz.prog 61 0 = some 0:=by kernel_rfl
theorem tr171:offT Tryz.prog 61 1 = some 1:=by kernel_rfl
theorem tr172:offT Tryz.prog 61 2 = some 3:=by kernel_rfl
theorem tr173:offT Tryz.prog 61 3 = some 4:=by kernel_rfl
theorem tr176:offT Tryz.prog 67 2 = some 2:=by kernel_rfl
theorem tr177:offT Tryz.prog 67 3 = some 3:=by kernel_rfl
theorem tr183:offT Tryz.prog 88 0 = some 0:=by kernel_rfl
theorem tr184:offT Tryz.prog 88 1 = some 1:=by kernel_rfl
theorem tr185:offT Tryz.prog 88 2 = some 2:=by kernel_rfl
theorem tr186:offT Tryz.prog 88 3 = some 3:=by kernel_rfl
theorem tr190:placesT Tryz.prog 117 = some [(0,9),(9,1)]:=by kernel_rfl
theorem tr191:placesT Tryz.prog 121 = some [(0,5)]:=by kernel_rfl
theorem tr192:placesT Tryz.prog 126 = some [(0,1),(1,1),(2,1)]:=by kernel_rfl
theorem tr193:placesT Tryz.prog 140 = some [(0,1),(1,1),(2,1),(3,1)]:=by kernel_rfl
theorem tr194:placesT Tryz.prog 143 = some [(0,3),(3,1)]:=by kernel_rfl
theorem tr195:placesT Tryz.prog 161 = some [(0,1),(1,1),(2,1),(3,1),(4,1)]:=by kernel_rfl
theorem tr196:placesT Tryz.prog 198 = some [(0,5),(5,7),(12,1),(13,1),(14,1),(15,1)]:=by kernel_rfl
theorem tr197:placesT Tryz.prog 224 = some [(0,1),(1,1),(2,1),(3,1),(4,1),(5,1),(6,1)]:=by kernel_rfl
theorem tr199:placesT Tryz.prog 249 = some [(0,900),(900,900)]:=by kernel_rfl
theorem tr200:placesT Tryz.prog 25 = some [(0,1),(1,1),(2,1),(3,1),(4,1)]:=by kernel_rfl
theorem tr201:placesT Tryz.prog 258 = some [(0,1),(1,1),(2,1),(3,1),(4,1)]:=by kernel_rfl
theorem tr202:placesT Tryz.prog 272 = some [(0,1),(1,1),(2,1),(3,1),(4,1),(5,1)]:=by kernel_rfl
theorem tr203:placesT Tryz.prog 29 = some [(0,5),(5,1),(6,1),(7,1),(8,1)]:=by kernel_rfl
theorem tr204:placesT Tryz.prog 38 = some [(0,1),(1,1),(2,1),(3,1),(4,1),(5,1),(6,1)]:=by kernel_rfl
theorem tr205:placesT Tryz.prog 40 = some [(0,1),(1,1),(2,1),(3,1),(4,1)]:=by kernel_rfl
theorem tr206:placesT Tryz.prog 43 = some [(0,1),(1,1),(2,1)]:=by kernel_rfl
theorem tr207:placesT Tryz.prog 45 = some [(0,7),(7,5),(12,3),(15,1)]:=by kernel_rfl
theorem tr208:placesT Tryz.prog 49 = some [(0,1),(1,1)]:=by kernel_rfl
theorem tr209:placesT Tryz.prog 53 = some [(0,1),(1,1)]:=by kernel_rfl
theorem tr210:placesT Tryz.prog 61 = some [(0,1),(1,2),(3,1),(4,1)]:=by kernel_rfl
theorem tr211:placesT Tryz.prog 88 = some [(0,1),(1,1),(2,1),(3,1)]:=by kernel_rfl
theorem tr212:placesT Tryz.prog 92 = some [(0,1),(1,1)]:=by kernel_rfl
theorem tr214:slT Tryz.prog 138 = some (253,101):=by kernel_rfl
theorem tr215:slT Tryz.prog 141 = some (221,1):=by kernel_rfl
theorem tr216:slT Tryz.prog 185 = none:=by kernel_rfl
theorem tr217:slT Tryz.prog 194 = some (4,1):=by kernel_rfl
theorem tr218:slT Tryz.prog 196 = some (194,1):=by kernel_rfl
theorem tr220:slT Tryz.prog 22 = some (3,1):=by kernel_rfl
theorem tr221:slT Tryz.prog 224 = none:=by kernel_rfl
theorem tr222:slT Tryz.prog 23 = some (49,2):=by kernel_rfl
theorem tr225:slT Tryz.prog 247 = none:=by kernel_rfl
theorem tr226:slT Tryz.prog 253 = none:=by kernel_rfl
theorem tr227:slT Tryz.prog 26 = some (45,16):=by kernel_rfl
theorem tr228:slT Tryz.prog 27 = some (53,2):=by kernel_rfl
theorem tr229:slT Tryz.prog 272 = none:=by kernel_rfl
theorem tr230:slT Tryz.prog 34 = some (22,1):=by kernel_rfl
theorem tr231:slT Tryz.prog 41 = some (61,5):=by kernel_rfl
theorem tr232:slT Tryz.prog 68 = some (92,2):=by kernel_rfl
theorem tr233:slT Tryz.prog 77 = some (88,4):=by kernel_rfl
theorem tr234:szT Tryz.prog 112 = some 1:=by kernel_rfl
theorem tr235:szT Tryz.prog 121 = some 5:=by kernel_rfl
theorem tr237:szT Tryz.prog 141 = some 1:=by kernel_rfl
theorem tr238:szT Tryz.prog 152 = some 1:=by kernel_rfl
theorem tr239:szT Tryz.prog 184 = some 3:=by kernel_rfl
theorem tr241:szT Tryz.prog 196 = some 1:=by kernel_rfl
theorem tr242:szT Tryz.prog 210 = some 1:=by kernel_rfl
theorem tr243:szT Tryz.prog 22 = some 1:=by kernel_rfl
theorem tr244:szT Tryz.prog 221 = some 1:=by kernel_rfl
theorem tr245:szT Tryz.prog 224 = some 7:=by kernel_rfl
theorem tr249:szT Tryz.prog 25 = some 5:=by kernel_rfl
theorem tr250:szT Tryz.prog 252 = some 1:=by kernel_rfl
theorem tr251:szT Tryz.prog 26 = some 1:=by kernel_rfl
theorem tr252:szT Tryz.prog 272 = some 6:=by kernel_rfl
theorem tr253:szT Tryz.prog 29 = some 9:=by kernel_rfl
theorem tr254:szT Tryz.prog 3 = some 1:=by kernel_rfl
theorem tr255:szT Tryz.prog 31 = some 1:=by kernel_rfl
theorem tr256:szT Tryz.prog 34 = some 1:=by kernel_rfl
theorem tr257:szT Tryz.prog 38 = some 7:=by kernel_rfl
theorem tr258:szT Tryz.prog 4 = some 1:=by kernel_rfl
theorem tr262:szT Tryz.prog 45 = some 16:=by kernel_rfl
theorem tr263:szT Tryz.prog 49 = some 2:=by kernel_rfl
theorem tr264:szT Tryz.prog 53 = some 2:=by kernel_rfl
theorem tr265:szT Tryz.prog 61 = some 5:=by kernel_rfl
theorem tr267:szT Tryz.prog 88 = some 4:=by kernel_rfl
theorem tr270:zeroT Tryz.prog 112 = some [.pointer none]:=by kernel_rfl
theorem tr271:zeroT Tryz.prog 117 = some [.int .i64 0,.int .i64 0,.slice none 0 0,.slice none 0 0,.slice none 0 0,.slice none 0 0,.slice none 0 0,.int .i64 0,.int .i64 0,.map none]:=by kernel_rfl
theorem tr272:zeroT Tryz.prog 121 = some [.int .i64 0,.int .i64 0,.slice none 0 0,.slice none 0 0,.slice none 0 0]:=by kernel_rfl
theorem tr273:zeroT Tryz.prog 126 = some [.slice none 0 0,.slice none 0 0,.slice none 0 0]:=by kernel_rfl
theorem tr275:zeroT Tryz.prog 140 = some [.pointer none,.int .i64 0,.int .i64 0,.slice none 0 0]:=by kernel_rfl
theorem tr276:zeroT Tryz.prog 143 = some [.slice none 0 0,.int .i64 0,.int .i64 0,.slice none 0 0]:=by kernel_rfl
theorem tr277:zeroT Tryz.prog 152 = some [.int .u64 0]:=by kernel_rfl
theorem tr278:zeroT Tryz.prog 161 = some [.pointer none,.slice none 0 0,.int .i64 0,.int .i64 0,.map none]:=by kernel_rfl
theorem tr279:zeroT Tryz.prog 184 = some [.int .i64 0,.int .i64 0,.int .i64 0]:=by kernel_rfl
theorem tr281:zeroT Tryz.prog 198 = some [.int .i64 0,.int .i64 0,.slice none 0 0,.slice none 0 0,.slice none 0 0,.int .i64 0,.int .i64 0,.int .i64 0,.int .i64 0,.int .i64 0,.int .i64 0,.int .i64 0,.int .i64 0,.slice none 0 0,.slice none 0 0,.slice none 0 0]:=by kernel_rfl
theorem tr282:zeroT Tryz.prog 210 = some [.nilFunc]:=by kernel_rfl
theorem tr283:zeroT Tryz.prog 22 = some [.slice none 0 0]:=by kernel_rfl
theorem tr284:zeroT Tryz.prog 224 = some [.bool false,.bool false,.bool false,.bool false,.bool false,.bool false,.bool false]:=by kernel_rfl
theorem tr286:zeroT Tryz.prog 249 = some (rep 1800 (.bool false)):=by kernel_rfl
theorem tr287:zeroT Tryz.prog 25 = some [.int .i64 0,.int .i64 0,.slice none 0 0,.slice none 0 0,.slice none 0 0]:=by kernel_rfl
theorem tr288:zeroT Tryz.prog 258 = some [.pointer none,.slice none 0 0,.slice none 0 0,.slice none 0 0,.slice none 0 0]:=by kernel_rfl
theorem tr289:zeroT Tryz.prog 272 = some [.int .i64 0,.int .i64 0,.int .i64 0,.int .i64 0,.int .i64 0,.int .i64 0]:=by kernel_rfl
theorem tr290:zeroT Tryz.prog 29 = some [.int .i64 0,.int .i64 0,.slice none 0 0,.slice none 0 0,.slice none 0 0,.slice none 0 0,.slice none 0 0,.int .i64 0,.int .i64 0]:=by kernel_rfl
theorem tr291:zeroT Tryz.prog 3 = some [.int .i64 0]:=by kernel_rfl
theorem tr292:zeroT Tryz.prog 31 = some [.int .i64 0]:=by kernel_rfl
theorem tr293:zeroT Tryz.prog 38 = some [.int .i64 0,.int .i64 0,.int .i64 0,.int .i64 0,.int .i64 0,.int .i64 0,.int .i64 0]:=by kernel_rfl
theorem tr294:zeroT Tryz.prog 40 = some [.int .i64 0,.int .i64 0,.int .i64 0,.int .i64 0,.int .i64 0]:=by kernel_rfl
theorem tr295:zeroT Tryz.prog 43 = some [.slice none 0 0,.int .i64 0,.int .i64 0]:=by kernel_rfl
theorem tr296:zeroT Tryz.prog 45 = some [.int .i64 0,.int .i64 0,.int .i64 0,.int .i64 0,.int .i64 0,.int .i64 0,.int .i64 0,.int .i64 0,.int .i64 0,.int .i64 0,.int .i64 0,.int .i64 0,.slice none 0 0,.int .i64 0,.int .i64 0,.slice none 0 0]:=by kernel_rfl
theorem tr297:zeroT Tryz.prog 49 = some [.int .i64 0,.int .i64 0]:=by kernel_rfl
theorem tr298:zeroT Tryz.prog 53 = some [.int .i64 0,.int .i64 0]:=by kernel_rfl
theorem tr299:zeroT Tryz.prog 61 = some [.int .i64 0,.int .i64 0,.int .i64 0,.slice none 0 0,.int .i64 0]:=by kernel_rfl
theorem tr301:zeroT Tryz.prog 88 = some [.int .i64 0,.int .i64 0,.int .i64 0,.int .i64 0]:=by kernel_rfl
theorem tr302:zeroT Tryz.prog 92 = some [.int .i64 0,.int .i64 0]:=by kernel_rfl
theorem tf12:(CallT Tryz.prog 18 = True) ∧ (CallT Tryz.prog 24 = True) ∧ (CallT Tryz.prog 25 = True) ∧ (CallT Tryz.prog 29 = True) ∧ (CallT Tryz.prog 43 = True) ∧ (CallT Tryz.prog 44 = True) ∧ (kdT Tryz.prog 3 = some 0) ∧ (kdT Tryz.prog 31 = some 0) ∧ (ldT Tryz.prog 22 = some none) ∧ (ldT Tryz.prog 26 = some none) ∧ (ldT Tryz.prog 29 = some (some 9)) ∧ (ldT Tryz.prog 3 = some none) ∧ (offT Tryz.prog 29 1 = some 5) ∧ (offT Tryz.prog 29 4 = some 8) ∧ (offT Tryz.prog 67 2 = some 2) ∧ (offT Tryz.prog 67 3 = some 3) ∧ (slT Tryz.prog 22 = some (3,1)) ∧ (slT Tryz.prog 26 = some (45,16)) ∧ (slT Tryz.prog 34 = some (22,1)):=⟨eq_true Tryz.call18,eq_true Tryz.call24,eq_true Tryz.call25,eq_true Tryz.call29,eq_true Tryz.call43,eq_true Tryz.call44,tr43,tr44,tr66,tr75,tr77,tr78,tr139,tr142,tr176,tr177,tr220,tr227,tr230⟩
theorem tf15:(CallT Tryz.prog 49 = True) ∧ (CallT Tryz.prog 50 = True) ∧ (arT Tryz.prog 23 = none) ∧ (arT Tryz.prog 26 = none) ∧ (arT Tryz.prog 41 = none) ∧ (kdT Tryz.prog 3 = some 0) ∧ (kdT Tryz.prog 31 = some 0) ∧ (ldT Tryz.prog 22 = some none) ∧ (ldT Tryz.prog 23 = some none) ∧ (ldT Tryz.prog 25 = some (some 5)) ∧ (ldT Tryz.prog 26 = some none) ∧ (ldT Tryz.prog 27 = some none) ∧ (ldT Tryz.prog 3 = some none) ∧ (ldT Tryz.prog 41 = some none) ∧ (ldT Tryz.prog 45 = some (some 16)) ∧ (offT Tryz.prog 25 2 = some 2) ∧ (offT Tryz.prog 25 3 = some 3) ∧ (offT Tryz.prog 25 4 = some 4) ∧ (offT Tryz.prog 29 0 = some 0) ∧ (offT Tryz.prog 29 1 = some 5) ∧ (offT Tryz.prog 29 2 = some 6) ∧ (offT Tryz.prog 29 4 = some 8) ∧ (offT Tryz.prog 43 0 = some 0) ∧ (offT Tryz.prog 45 2 = some 12) ∧ (offT Tryz.prog 45 3 = some 15) ∧ (offT Tryz.prog 49 0 = some 0) ∧ (offT Tryz.prog 49 1 = some 1) ∧ (offT Tryz.prog 61 2 = some 3) ∧ (slT Tryz.prog 22 = some (3,1)) ∧ (slT Tryz.prog 23 = some (49,2)) ∧ (slT Tryz.prog 26 = some (45,16)) ∧ (slT Tryz.prog 27 = some (53,2)) ∧ (slT Tryz.prog 41 = some (61,5)) ∧ (szT Tryz.prog 45 = some 16) ∧ (zeroT Tryz.prog 45 = some [.int .i64 0,.int .i64 0,.int .i64 0,.int .i64 0,.int .i64 0,.int .i64 0,.int .i64 0,.int .i64 0,.int .i64 0,.int .i64 0,.int .i64 0,.int .i64 0,.slice none 0 0,.int .i64 0,.int .i64 0,.slice none 0 0]):=⟨eq_true Tryz.call49,eq_true Tryz.call50,tr7,tr12,tr16,tr43,tr44,tr66,tr68,tr73,tr75,tr76,tr78,tr84,tr86,tr130,tr131,tr132,tr138,tr139,tr140,tr142,tr155,tr160,tr161,tr162,tr163,tr172,tr220,tr222,tr227,tr228,tr231,tr262,tr296⟩
theorem tf16:(CallT Tryz.prog 49 = True) ∧ (CallT Tryz.prog 51 = True) ∧ (CallT Tryz.prog 52 = True) ∧ (CallT Tryz.prog 53 = True) ∧ (CallT Tryz.prog 54 = True) ∧ (arT Tryz.prog 26 = none) ∧ (arT Tryz.prog 27 = none) ∧ (kdT Tryz.prog 3 = some 0) ∧ (kdT Tryz.prog 31 = some 0) ∧ (ldT Tryz.prog 22 = some none) ∧ (ldT Tryz.prog 23 = some none) ∧ (ldT Tryz.prog 25 = some (some 5)) ∧ (ldT Tryz.prog 26 = some none) ∧ (ldT Tryz.prog 27 = some none) ∧ (ldT Tryz.prog 3 = some none) ∧ (ldT Tryz.prog 38 = some (some 7)) ∧ (ldT Tryz.prog 40 = some (some 5)) ∧ (ldT Tryz.prog 43 = some (some 3)) ∧ (ldT Tryz.prog 45 = some (some 16)) ∧ (offT Tryz.prog 25 3 = some 3) ∧ (offT Tryz.prog 29 0 = some 0) ∧ (offT Tryz.prog 29 1 = some 5) ∧ (offT Tryz.prog 29 2 = some 6) ∧ (offT Tryz.prog 29 3 = some 7) ∧ (offT Tryz.prog 29 4 = some 8) ∧ (offT Tryz.prog 45 0 = some 0) ∧ (offT Tryz.prog 45 1 = some 7) ∧ (offT Tryz.prog 45 2 = some 12) ∧ (offT Tryz.prog 45 3 = some 15) ∧ (offT Tryz.prog 53 0 = some 0) ∧ (offT Tryz.prog 53 1 = some 1) ∧ (slT Tryz.prog 23 = some (49,2)) ∧ (slT Tryz.prog 26 = some (45,16)) ∧ (slT Tryz.prog 27 = some (53,2)) ∧ (szT Tryz.prog 45 = some 16) ∧ (zeroT Tryz.prog 45 = some [.int .i64 0,.int .i64 0,.int .i64 0,.int .i64 0,.int .i64 0,.int .i64 0,.int .i64 0,.int .i64 0,.int .i64 0,.int .i64 0,.int .i64 0,.int .i64 0,.slice none 0 0,.int .i64 0,.int .i64 0,.slice none 0 0]):=⟨eq_true Tryz.call49,eq_true Tryz.call51,eq_true Tryz.call52,eq_true Tryz.call53,eq_true Tryz.call54,tr12,tr13,tr43,tr44,tr66,tr68,tr73,tr75,tr76,tr78,tr81,tr83,tr85,tr86,tr131,tr138,tr139,tr140,tr141,tr142,tr158,tr159,tr160,tr161,tr164,tr165,tr222,tr227,tr228,tr262,tr296⟩
theorem tf18:(CallT Tryz.prog 56 = True) ∧ (CallT Tryz.prog 57 = True) ∧ (CallT Tryz.prog 59 = True) ∧ (kdT Tryz.prog 31 = some 0) ∧ (ldT Tryz.prog 29 = some (some 9)) ∧ (ldT Tryz.prog 3 = some none):=⟨eq_true Tryz.call56,eq_true Tryz.call57,eq_true Tryz.call59,tr44,tr77,tr78⟩
theorem tf19:(CallT Tryz.prog 60 = True) ∧ (CallT Tryz.prog 61 = True) ∧ (CallT Tryz.prog 62 = True) ∧ (arT Tryz.prog 22 = none) ∧ (arT Tryz.prog 23 = none) ∧ (kdT Tryz.prog 3 = some 0) ∧ (kdT Tryz.prog 31 = some 0) ∧ (ldT Tryz.prog 22 = some none) ∧ (ldT Tryz.prog 23 = some none) ∧ (ldT Tryz.prog 25 = some (some 5)) ∧ (ldT Tryz.prog 3 = some none) ∧ (ldT Tryz.prog 49 = some (some 2)) ∧ (offT Tryz.prog 121 0 = some 0) ∧ (offT Tryz.prog 25 2 = some 2) ∧ (offT Tryz.prog 25 3 = some 3) ∧ (offT Tryz.prog 25 4 = some 4) ∧ (offT Tryz.prog 40 0 = some 0) ∧ (offT Tryz.prog 40 1 = some 1) ∧ (offT Tryz.prog 40 2 = some 2) ∧ (offT Tryz.prog 40 3 = some 3) ∧ (offT Tryz.prog 40 4 = some 4) ∧ (offT Tryz.prog 49 0 = some 0) ∧ (offT Tryz.prog 49 1 = some 1) ∧ (placesT Tryz.prog 121 = some [(0,5)]) ∧ (slT Tryz.prog 22 = some (3,1)) ∧ (slT Tryz.prog 23 = some (49,2)) ∧ (szT Tryz.prog 121 = some 5) ∧ (szT Tryz.prog 49 = some 2) ∧ (zeroT Tryz.prog 121 = some [.int .i64 0,.int .i64 0,.slice none 0 0,.slice none 0 0,.slice none 0 0]) ∧ (zeroT Tryz.prog 49 = some [.int .i64 0,.int .i64 0]):=⟨eq_true Tryz.call60,eq_true Tryz.call61,eq_true Tryz.call62,tr6,tr7,tr43,tr44,tr66,tr68,tr73,tr78,tr87,tr99,tr130,tr131,tr132,tr150,tr151,tr152,tr153,tr154,tr162,tr163,tr191,tr220,tr222,tr235,tr263,tr272,tr297⟩
theorem tf23:(CallT Tryz.prog 74 = True) ∧ (CallT Tryz.prog 75 = True) ∧ (kdT Tryz.prog 31 = some 0) ∧ (ldT Tryz.prog 25 = some (some 5)) ∧ (ldT Tryz.prog 38 = some (some 7)) ∧ (ldT Tryz.prog 40 = some (some 5)):=⟨eq_true Tryz.call74,eq_true Tryz.call75,tr44,tr73,tr81,tr83⟩
theorem tf24:(CallT Tryz.prog 15 = True) ∧ (CallT Tryz.prog 16 = True) ∧ (kdT Tryz.prog 31 = some 0) ∧ (ldT Tryz.prog 29 = some (some 9)):=⟨eq_true Tryz.call15,eq_true Tryz.call16,tr44,tr77⟩
theorem tf25:(CallT Tryz.prog 26 = True) ∧ (CallT Tryz.prog 33 = True) ∧ (CallT Tryz.prog 38 = True) ∧ (CallT Tryz.prog 55 = True) ∧ (CallT Tryz.prog 76 = True) ∧ (arT Tryz.prog 68 = none) ∧ (elT Tryz.prog 22 = some (3,1,[.int .i64 0],8)) ∧ (kdT Tryz.prog 3 = some 0) ∧ (kdT Tryz.prog 31 = some 0) ∧ (ldT Tryz.prog 29 = some (some 9)) ∧ (ldT Tryz.prog 92 = some (some 2)) ∧ (placesT Tryz.prog 92 = some [(0,1),(1,1)]) ∧ (slT Tryz.prog 68 = some (92,2)) ∧ (szT Tryz.prog 29 = some 9) ∧ (zeroT Tryz.prog 29 = some [.int .i64 0,.int .i64 0,.slice none 0 0,.slice none 0 0,.slice none 0 0,.slice none 0 0,.slice none 0 0,.int .i64 0,.int .i64 0]) ∧ (zeroT Tryz.prog 92 = some [.int .i64 0,.int .i64 0]):=⟨eq_true Tryz.call26,eq_true Tryz.call33,eq_true Tryz.call38,eq_true Tryz.call55,eq_true Tryz.call76,tr17,tr24,tr43,tr44,tr77,tr93,tr212,tr232,tr253,tr290,tr302⟩
theorem tf26:(CallT Tryz.prog 56 = True) ∧ (CallT Tryz.prog 77 = True) ∧ (CallT Tryz.prog 78 = True) ∧ (CallT Tryz.prog 79 = True) ∧ (elT Tryz.prog 22 = some (3,1,[.int .i64 0],8)) ∧ (elT Tryz.prog 68 = some (92,2,[.int .i64 0,.int .i64 0],16)) ∧ (kdT Tryz.prog 3 = some 0) ∧ (kdT Tryz.prog 31 = some 0) ∧ (ldT Tryz.prog 26 = some none) ∧ (ldT Tryz.prog 27 = some none) ∧ (ldT Tryz.prog 29 = some (some 9)) ∧ (ldT Tryz.prog 3 = some none) ∧ (offT Tryz.prog 117 0 = some 0) ∧ (offT Tryz.prog 29 1 = some 5) ∧ (offT Tryz.prog 29 2 = some 6) ∧ (placesT Tryz.prog 92 = some [(0,1),(1,1)]) ∧ (slT Tryz.prog 26 = some (45,16)) ∧ (slT Tryz.prog 27 = some (53,2)) ∧ (zeroT Tryz.prog 92 = some [.int .i64 0,.int .i64 0]):=⟨eq_true Tryz.call56,eq_true Tryz.call77,eq_true Tryz.call78,eq_true Tryz.call79,tr24,tr32,tr43,tr44,tr75,tr76,tr77,tr78,tr97,tr139,tr140,tr212,tr227,tr228,tr302⟩
theorem tf27:(CallT Tryz.prog 69 = True) ∧ (CallT Tryz.prog 71 = True) ∧ (kdT Tryz.prog 31 = some 0) ∧ (ldT Tryz.prog 43 = some (some 3)):=⟨eq_true Tryz.call69,eq_true Tryz.call71,tr44,tr85⟩
theorem tf29:(CallT Tryz.prog 51 = True) ∧ (arT Tryz.prog 22 = none) ∧ (kdT Tryz.prog 3 = some 0) ∧ (ldT Tryz.prog 26 = some none) ∧ (ldT Tryz.prog 3 = some none) ∧ (offT Tryz.prog 29 1 = some 5) ∧ (slT Tryz.prog 22 = some (3,1)) ∧ (slT Tryz.prog 26 = some (45,16)):=⟨eq_true Tryz.call51,tr6,tr43,tr75,tr78,tr139,tr220,tr227⟩
theorem tf30:(CallT Tryz.prog 56 = True) ∧ (CallT Tryz.prog 79 = True) ∧ (CallT Tryz.prog 80 = True) ∧ (CallT Tryz.prog 83 = True) ∧ (kdT Tryz.prog 31 = some 0) ∧ (ldT Tryz.prog 22 = some none) ∧ (ldT Tryz.prog 29 = some (some 9)):=⟨eq_true Tryz.call56,eq_true Tryz.call79,eq_true Tryz.call80,eq_true Tryz.call83,tr44,tr66,tr77⟩
theorem tf33:(CallT Tryz.prog 56 = True) ∧ (CallT Tryz.prog 85 = True) ∧ (CallT Tryz.prog 86 = True) ∧ (CallT Tryz.prog 87 = True) ∧ (kdT Tryz.prog 31 = some 0) ∧ (ldT Tryz.prog 29 = some (some 9)) ∧ (ldT Tryz.prog 3 = some none) ∧ (placesT Tryz.prog 161 = some [(0,1),(1,1),(2,1),(3,1),(4,1)]) ∧ (zeroT Tryz.prog 161 = some [.pointer none,.slice none 0 0,.int .i64 0,.int .i64 0,.map none]):=⟨eq_true Tryz.call56,eq_true Tryz.call85,eq_true Tryz.call86,eq_true Tryz.call87,tr44,tr77,tr78,tr195,tr278⟩
theorem tf38:(arT Tryz.prog 22 = none) ∧ (kdT Tryz.prog 3 = some 0) ∧ (ldT Tryz.prog 3 = some none) ∧ (slT Tryz.prog 22 = some (3,1)):=⟨tr6,tr43,tr78,tr220⟩
theorem tf43:(CallT Tryz.prog 56 = True) ∧ (CallT Tryz.prog 79 = True) ∧ (CallT Tryz.prog 95 = True) ∧ (CallT Tryz.prog 96 = True) ∧ (CallT Tryz.prog 97 = True) ∧ (kdT Tryz.prog 152 = some 0) ∧ (kdT Tryz.prog 3 = some 0) ∧ (kdT Tryz.prog 31 = some 0) ∧ (ldT Tryz.prog 112 = some none) ∧ (ldT Tryz.prog 152 = some none) ∧ (ldT Tryz.prog 22 = some none) ∧ (ldT Tryz.prog 26 = some none) ∧ (ldT Tryz.prog 29 = some (some 9)) ∧ (ldT Tryz.prog 3 = some none) ∧ (ldT Tryz.prog 31 = some none) ∧ (offT Tryz.prog 117 0 = some 0) ∧ (offT Tryz.prog 29 1 = some 5) ∧ (slT Tryz.prog 26 = some (45,16)) ∧ (szT Tryz.prog 112 = some 1) ∧ (szT Tryz.prog 152 = some 1) ∧ (szT Tryz.prog 22 = some 1) ∧ (szT Tryz.prog 31 = some 1) ∧ (zeroT Tryz.prog 112 = some [.pointer none]) ∧ (zeroT Tryz.prog 152 = some [.int .u64 0]) ∧ (zeroT Tryz.prog 22 = some [.slice none 0 0]) ∧ (zeroT Tryz.prog 31 = some [.int .i64 0]):=⟨eq_true Tryz.call56,eq_true Tryz.call79,eq_true Tryz.call95,eq_true Tryz.call96,eq_true Tryz.call97,tr39,tr43,tr44,tr49,tr57,tr66,tr75,tr77,tr78,tr79,tr97,tr139,tr227,tr234,tr238,tr243,tr255,tr270,tr277,tr283,tr292⟩
theorem tf44:(arT Tryz.prog 22 = none) ∧ (arT Tryz.prog 27 = none) ∧ (arT Tryz.prog 34 = none) ∧ (kdT Tryz.prog 3 = some 0) ∧ (ldT Tryz.prog 22 = some none) ∧ (ldT Tryz.prog 27 = some none) ∧ (ldT Tryz.prog 3 = some none) ∧ (offT Tryz.prog 29 2 = some 6) ∧ (offT Tryz.prog 53 1 = some 1) ∧ (slT Tryz.prog 22 = some (3,1)) ∧ (slT Tryz.prog 27 = some (53,2)) ∧ (slT Tryz.prog 34 = some (22,1)):=⟨tr6,tr13,tr15,tr43,tr66,tr76,tr78,tr140,tr165,tr220,tr228,tr230⟩
theorem tf49:(CallT Tryz.prog 103 = True) ∧ (arT Tryz.prog 22 = none) ∧ (arT Tryz.prog 23 = none) ∧ (kdT Tryz.prog 3 = some 0) ∧ (ldT Tryz.prog 22 = some none) ∧ (ldT Tryz.prog 23 = some none) ∧ (ldT Tryz.prog 3 = some none) ∧ (offT Tryz.prog 25 0 = some 0) ∧ (offT Tryz.prog 25 1 = some 1) ∧ (offT Tryz.prog 25 2 = some 2) ∧ (offT Tryz.prog 25 3 = some 3) ∧ (offT Tryz.prog 25 4 = some 4) ∧ (offT Tryz.prog 49 0 = some 0) ∧ (offT Tryz.prog 49 1 = some 1) ∧ (slT Tryz.prog 22 = some (3,1)) ∧ (slT Tryz.prog 23 = some (49,2)):=⟨eq_true Tryz.call103,tr6,tr7,tr43,tr66,tr68,tr78,tr128,tr129,tr130,tr131,tr132,tr162,tr163,tr220,tr222⟩
theorem tf50:(kdT Tryz.prog 3 = some 0) ∧ (ldT Tryz.prog 3 = some none) ∧ (offT Tryz.prog 25 0 = some 0) ∧ (offT Tryz.prog 25 1 = some 1):=⟨tr43,tr78,tr128,tr129⟩
theorem tf51:(kdT Tryz.prog 3 = some 0):=tr43
theorem tf52:(CallT Tryz.prog 104 = True) ∧ (CallT Tryz.prog 105 = True) ∧ (CallT Tryz.prog 49 = True) ∧ (kdT Tryz.prog 31 = some 0) ∧ (ldT Tryz.prog 25 = some (some 5)) ∧ (ldT Tryz.prog 38 = some (some 7)) ∧ (ldT Tryz.prog 40 = some (some 5)):=⟨eq_true Tryz.call104,eq_true Tryz.call105,eq_true Tryz.call49,tr44,tr73,tr81,tr83⟩
theorem tf53:(CallT Tryz.prog 106 = True) ∧ (CallT Tryz.prog 107 = True) ∧ (CallT Tryz.prog 108 = True) ∧ (kdT Tryz.prog 31 = some 0) ∧ (ldT Tryz.prog 43 = some (some 3)):=⟨eq_true Tryz.call106,eq_true Tryz.call107,eq_true Tryz.call108,tr44,tr85⟩
theorem tf54:(CallT Tryz.prog 103 = True) ∧ (CallT Tryz.prog 50 = True) ∧ (kdT Tryz.prog 3 = some 0) ∧ (ldT Tryz.prog 25 = some (some 5)):=⟨eq_true Tryz.call103,eq_true Tryz.call50,tr43,tr73⟩
theorem tf55:(CallT Tryz.prog 109 = True) ∧ (elT Tryz.prog 22 = some (3,1,[.int .i64 0],8)) ∧ (elT Tryz.prog 26 = some (45,16,[.int .i64 0,.int .i64 0,.int .i64 0,.int .i64 0,.int .i64 0,.int .i64 0,.int .i64 0,.int .i64 0,.int .i64 0,.int .i64 0,.int .i64 0,.int .i64 0,.slice none 0 0,.int .i64 0,.int .i64 0,.slice none 0 0],160)) ∧ (elT Tryz.prog 27 = some (53,2,[.int .i64 0,.int .i64 0],16)) ∧ (elT Tryz.prog 41 = some (61,5,[.int .i64 0,.int .i64 0,.int .i64 0,.slice none 0 0,.int .i64 0],56)) ∧ (elT Tryz.prog 77 = some (88,4,[.int .i64 0,.int .i64 0,.int .i64 0,.int .i64 0],32)) ∧ (kdT Tryz.prog 3 = some 0) ∧ (ldT Tryz.prog 26 = some none) ∧ (ldT Tryz.prog 29 = some (some 9)) ∧ (ldT Tryz.prog 38 = some (some 7)) ∧ (offT Tryz.prog 29 1 = some 5) ∧ (placesT Tryz.prog 29 = some [(0,5),(5,1),(6,1),(7,1),(8,1)]) ∧ (placesT Tryz.prog 38 = some [(0,1),(1,1),(2,1),(3,1),(4,1),(5,1),(6,1)]) ∧ (placesT Tryz.prog 40 = some [(0,1),(1,1),(2,1),(3,1),(4,1)]) ∧ (placesT Tryz.prog 43 = some [(0,1),(1,1),(2,1)]) ∧ (placesT Tryz.prog 45 = some [(0,7),(7,5),(12,3),(15,1)]) ∧ (placesT Tryz.prog 49 = some [(0,1),(1,1)]) ∧ (placesT Tryz.prog 53 = some [(0,1),(1,1)]) ∧ (placesT Tryz.prog 61 = some [(0,1),(1,2),(3,1),(4,1)]) ∧ (placesT Tryz.prog 88 = some [(0,1),(1,1),(2,1),(3,1)]) ∧ (szT Tryz.prog 26 = some 1) ∧ (szT Tryz.prog 29 = some 9) ∧ (szT Tryz.prog 38 = some 7) ∧ (zeroT Tryz.prog 29 = some [.int .i64 0,.int .i64 0,.slice none 0 0,.slice none 0 0,.slice none 0 0,.slice none 0 0,.slice none 0 0,.int .i64 0,.int .i64 0]) ∧ (zeroT Tryz.prog 38 = some [.int .i64 0,.int .i64 0,.int .i64 0,.int .i64 0,.int .i64 0,.int .i64 0,.int .i64 0]) ∧ (zeroT Tryz.prog 40 = some [.int .i64 0,.int .i64 0,.int .i64 0,.int .i64 0,.int .i64 0]) ∧ (zeroT Tryz.prog 43 = some [.slice none 0 0,.int .i64 0,.int .i64 0]) ∧ (zeroT Tryz.prog 45 = some [.int .i64 0,.int .i64 0,.int .i64 0,.int .i64 0,.int .i64 0,.int .i64 0,.int .i64 0,.int .i64 0,.int .i64 0,.int .i64 0,.int .i64 0,.int .i64 0,.slice none 0 0,.int .i64 0,.int .i64 0,.slice none 0 0]) ∧ (zeroT Tryz.prog 49 = some [.int .i64 0,.int .i64 0]) ∧ (zeroT Tryz.prog 53 = some [.int .i64 0,.int .i64 0]) ∧ (zeroT Tryz.prog 61 = some [.int .i64 0,.int .i64 0,.int .i64 0,.slice none 0 0,.int .i64 0]) ∧ (zeroT Tryz.prog 88 = some [.int .i64 0,.int .i64 0,.int .i64 0,.int .i64 0]):=⟨eq_true Tryz.call109,tr24,tr28,tr29,tr31,tr33,tr43,tr75,tr77,tr81,tr139,tr203,tr204,tr205,tr206,tr207,tr208,tr209,tr210,tr211,tr251,tr253,tr257,tr290,tr293,tr294,tr295,tr296,tr297,tr298,tr299,tr301⟩
theorem tf56:(CallT Tryz.prog 91 = True) ∧ (kdT Tryz.prog 31 = some 0) ∧ (ldT Tryz.prog 29 = some (some 9)):=⟨eq_true Tryz.call91,tr44,tr77⟩
theorem tf57:(CallT Tryz.prog 58 = True) ∧ (kdT Tryz.prog 3 = some 0) ∧ (ldT Tryz.prog 3 = some none) ∧ (offT Tryz.prog 117 0 = some 0) ∧ (offT Tryz.prog 29 4 = some 8):=⟨eq_true Tryz.call58,tr43,tr78,tr97,tr142⟩
theorem tf58:(kdT Tryz.prog 3 = some 0):=tr43
theorem tf59:(CallT Tryz.prog 110 = True) ∧ (arT Tryz.prog 26 = none) ∧ (elT Tryz.prog 34 = some (22,1,[.slice none 0 0],24)) ∧ (kdT Tryz.prog 3 = some 0) ∧ (ldT Tryz.prog 115 = some none) ∧ (ldT Tryz.prog 26 = some none) ∧ (ldT Tryz.prog 45 = some (some 16)) ∧ (offT Tryz.prog 117 0 = some 0) ∧ (offT Tryz.prog 117 1 = some 9) ∧ (offT Tryz.prog 29 1 = some 5) ∧ (slT Tryz.prog 26 = some (45,16)) ∧ (szT Tryz.prog 45 = some 16) ∧ (zeroT Tryz.prog 45 = some [.int .i64 0,.int .i64 0,.int .i64 0,.int .i64 0,.int .i64 0,.int .i64 0,.int .i64 0,.int .i64 0,.int .i64 0,.int .i64 0,.int .i64 0,.int .i64 0,.slice none 0 0,.int .i64 0,.int .i64 0,.slice none 0 0]):=⟨eq_true Tryz.call110,tr12,tr30,tr43,tr50,tr75,tr86,tr97,tr98,tr139,tr227,tr262,tr296⟩
theorem tf60:(CallT Tryz.prog 111 = True) ∧ (CallT Tryz.prog 112 = True) ∧ (CallT Tryz.prog 113 = True) ∧ (CallT Tryz.prog 114 = True) ∧ (CallT Tryz.prog 115 = True) ∧ (CallT Tryz.prog 61 = True) ∧ (kdT Tryz.prog 3 = some 0) ∧ (ldT Tryz.prog 22 = some none) ∧ (ldT Tryz.prog 23 = some none) ∧ (ldT Tryz.prog 3 = some none) ∧ (offT Tryz.prog 25 0 = some 0) ∧ (offT Tryz.prog 25 1 = some 1) ∧ (offT Tryz.prog 25 2 = some 2) ∧ (offT Tryz.prog 25 3 = some 3) ∧ (offT Tryz.prog 25 4 = some 4) ∧ (slT Tryz.prog 22 = some (3,1)) ∧ (slT Tryz.prog 23 = some (49,2)):=⟨eq_true Tryz.call111,eq_true Tryz.call112,eq_true Tryz.call113,eq_true Tryz.call114,eq_true Tryz.call115,eq_true Tryz.call61,tr43,tr66,tr68,tr78,tr128,tr129,tr130,tr131,tr132,tr220,tr222⟩
theorem tf61:(kdT Tryz.prog 3 = some 0):=tr43
theorem tf62:(arT Tryz.prog 23 = none) ∧ (elT Tryz.prog 23 = some (49,2,[.int .i64 0,.int .i64 0],16)) ∧ (kdT Tryz.prog 3 = some 0) ∧ (ldT Tryz.prog 3 = some none) ∧ (offT Tryz.prog 49 1 = some 1) ∧ (placesT Tryz.prog 49 = some [(0,1),(1,1)]) ∧ (slT Tryz.prog 23 = some (49,2)) ∧ (szT Tryz.prog 3 = some 1) ∧ (zeroT Tryz.prog 49 = some [.int .i64 0,.int .i64 0]):=⟨tr7,tr25,tr43,tr78,tr163,tr208,tr222,tr254,tr297⟩
theorem tf63:(CallT Tryz.prog 114 = True) ∧ (CallT Tryz.prog 116 = True) ∧ (CallT Tryz.prog 117 = True) ∧ (CallT Tryz.prog 118 = True) ∧ (CallT Tryz.prog 60 = True) ∧ (kdT Tryz.prog 31 = some 0) ∧ (ldT Tryz.prog 121 = some (some 5)) ∧ (ldT Tryz.prog 22 = some none) ∧ (ldT Tryz.prog 25 = some (some 5)) ∧ (offT Tryz.prog 126 0 = some 0) ∧ (offT Tryz.prog 126 1 = some 1) ∧ (offT Tryz.prog 126 2 = some 2) ∧ (placesT Tryz.prog 121 = some [(0,5)]) ∧ (szT Tryz.prog 121 = some 5) ∧ (zeroT Tryz.prog 121 = some [.int .i64 0,.int .i64 0,.slice none 0 0,.slice none 0 0,.slice none 0 0]):=⟨eq_true Tryz.call114,eq_true Tryz.call116,eq_true Tryz.call117,eq_true Tryz.call118,eq_true Tryz.call60,tr44,tr51,tr66,tr73,tr100,tr101,tr102,tr191,tr235,tr272⟩
theorem tf66:(CallT Tryz.prog 122 = True) ∧ (CallT Tryz.prog 123 = True) ∧ (CallT Tryz.prog 67 = True) ∧ (arT Tryz.prog 41 = none) ∧ (kdT Tryz.prog 3 = some 0) ∧ (ldT Tryz.prog 23 = some none) ∧ (ldT Tryz.prog 3 = some none) ∧ (ldT Tryz.prog 41 = some none) ∧ (ldT Tryz.prog 61 = some (some 5)) ∧ (offT Tryz.prog 43 0 = some 0) ∧ (offT Tryz.prog 43 1 = some 1) ∧ (offT Tryz.prog 43 2 = some 2) ∧ (offT Tryz.prog 49 0 = some 0) ∧ (offT Tryz.prog 49 1 = some 1) ∧ (offT Tryz.prog 61 0 = some 0) ∧ (offT Tryz.prog 61 1 = some 1) ∧ (offT Tryz.prog 61 2 = some 3) ∧ (offT Tryz.prog 61 3 = some 4) ∧ (slT Tryz.prog 41 = some (61,5)) ∧ (szT Tryz.prog 61 = some 5) ∧ (zeroT Tryz.prog 61 = some [.int .i64 0,.int .i64 0,.int .i64 0,.slice none 0 0,.int .i64 0]):=⟨eq_true Tryz.call122,eq_true Tryz.call123,eq_true Tryz.call67,tr16,tr43,tr68,tr78,tr84,tr89,tr155,tr156,tr157,tr162,tr163,tr170,tr171,tr172,tr173,tr231,tr265,tr299⟩
theorem tf67:(kdT Tryz.prog 3 = some 0):=tr43
theorem tf69:(CallT Tryz.prog 124 = True) ∧ (CallT Tryz.prog 125 = True) ∧ (CallT Tryz.prog 67 = True) ∧ (elT Tryz.prog 138 = some (253,101,(rep 101 (.int .i8 0)),101)) ∧ (kdT Tryz.prog 31 = some 0) ∧ (ldT Tryz.prog 41 = some none) ∧ (ldT Tryz.prog 43 = some (some 3)) ∧ (offT Tryz.prog 43 0 = some 0) ∧ (placesT Tryz.prog 140 = some [(0,1),(1,1),(2,1),(3,1)]) ∧ (slT Tryz.prog 41 = some (61,5)) ∧ (zeroT Tryz.prog 140 = some [.pointer none,.int .i64 0,.int .i64 0,.slice none 0 0]):=⟨eq_true Tryz.call124,eq_true Tryz.call125,eq_true Tryz.call67,tr19,tr44,tr84,tr85,tr155,tr193,tr231,tr275⟩
theorem tf71:(CallT Tryz.prog 128 = True) ∧ (CallT Tryz.prog 129 = True) ∧ (kdT Tryz.prog 3 = some 0) ∧ (ldT Tryz.prog 3 = some none) ∧ (offT Tryz.prog 140 1 = some 1):=⟨eq_true Tryz.call128,eq_true Tryz.call129,tr43,tr78,tr104⟩
theorem tf74:(CallT Tryz.prog 101 = True) ∧ (CallT Tryz.prog 130 = True) ∧ (CallT Tryz.prog 131 = True) ∧ (CallT Tryz.prog 132 = True) ∧ (CallT Tryz.prog 19 = True) ∧ (CallT Tryz.prog 60 = True) ∧ (arT Tryz.prog 194 = none) ∧ (arT Tryz.prog 22 = none) ∧ (arT Tryz.prog 23 = none) ∧ (elT Tryz.prog 194 = some (4,1,[.bool false],1)) ∧ (elT Tryz.prog 196 = some (194,1,[.slice none 0 0],24)) ∧ (elT Tryz.prog 22 = some (3,1,[.int .i64 0],8)) ∧ (elT Tryz.prog 34 = some (22,1,[.slice none 0 0],24)) ∧ (kdT Tryz.prog 3 = some 0) ∧ (kdT Tryz.prog 31 = some 0) ∧ (ldT Tryz.prog 194 = some none) ∧ (ldT Tryz.prog 196 = some none) ∧ (ldT Tryz.prog 22 = some none) ∧ (ldT Tryz.prog 23 = some none) ∧ (ldT Tryz.prog 25 = some (some 5)) ∧ (ldT Tryz.prog 3 = some none) ∧ (ldT Tryz.prog 34 = some none) ∧ (ldT Tryz.prog 38 = some (some 7)) ∧ (ldT Tryz.prog 40 = some (some 5)) ∧ (ldT Tryz.prog 49 = some (some 2)) ∧ (offT Tryz.prog 198 3 = some 13) ∧ (offT Tryz.prog 198 4 = some 14) ∧ (offT Tryz.prog 198 5 = some 15) ∧ (offT Tryz.prog 25 2 = some 2) ∧ (offT Tryz.prog 25 3 = some 3) ∧ (offT Tryz.prog 25 4 = some 4) ∧ (offT Tryz.prog 38 0 = some 0) ∧ (offT Tryz.prog 38 1 = some 1) ∧ (offT Tryz.prog 40 0 = some 0) ∧ (offT Tryz.prog 40 1 = some 1) ∧ (offT Tryz.prog 49 0 = some 0) ∧ (offT Tryz.prog 49 1 = some 1) ∧ (placesT Tryz.prog 198 = some [(0,5),(5,7),(12,1),(13,1),(14,1),(15,1)]) ∧ (slT Tryz.prog 194 = some (4,1)) ∧ (slT Tryz.prog 22 = some (3,1)) ∧ (slT Tryz.prog 23 = some (49,2)) ∧ (szT Tryz.prog 196 = some 1) ∧ (szT Tryz.prog 3 = some 1) ∧ (szT Tryz.prog 34 = some 1) ∧ (szT Tryz.prog 4 = some 1) ∧ (szT Tryz.prog 49 = some 2) ∧ (zeroT Tryz.prog 198 = some [.int .i64 0,.int .i64 0,.slice none 0 0,.slice none 0 0,.slice none 0 0,.int .i64 0,.int .i64 0,.int .i64 0,.int .i64 0,.int .i64 0,.int .i64 0,.int .i64 0,.int .i64 0,.slice none 0 0,.slice none 0 0,.slice none 0 0]) ∧ (zeroT Tryz.prog 49 = some [.int .i64 0,.int .i64 0]):=⟨eq_true Tryz.call101,eq_true Tryz.call130,eq_true Tryz.call131,eq_true Tryz.call132,eq_true Tryz.call19,eq_true Tryz.call60,tr3,tr6,tr7,tr21,tr22,tr24,tr30,tr43,tr44,tr63,tr64,tr66,tr68,tr73,tr78,tr80,tr81,tr83,tr87,tr120,tr121,tr122,tr130,tr131,tr132,tr143,tr144,tr150,tr151,tr162,tr163,tr196,tr217,tr220,tr222,tr241,tr254,tr256,tr258,tr263,tr281,tr297⟩
theorem tf75:(CallT Tryz.prog 119 = True) ∧ (arT Tryz.prog 194 = none) ∧ (arT Tryz.prog 196 = none) ∧ (arT Tryz.prog 22 = none) ∧ (arT Tryz.prog 34 = none) ∧ (elT Tryz.prog 194 = some (4,1,[.bool false],1)) ∧ (elT Tryz.prog 22 = some (3,1,[.int .i64 0],8)) ∧ (kdT Tryz.prog 3 = some 0) ∧ (ldT Tryz.prog 194 = some none) ∧ (ldT Tryz.prog 196 = some none) ∧ (ldT Tryz.prog 22 = some none) ∧ (ldT Tryz.prog 23 = some none) ∧ (ldT Tryz.prog 3 = some none) ∧ (ldT Tryz.prog 34 = some none) ∧ (ldT Tryz.prog 4 = some none) ∧ (offT Tryz.prog 198 0 = some 0) ∧ (offT Tryz.prog 198 2 = some 12) ∧ (offT Tryz.prog 198 3 = some 13) ∧ (offT Tryz.prog 198 4 = some 14) ∧ (offT Tryz.prog 198 5 = some 15) ∧ (offT Tryz.prog 25 2 = some 2) ∧ (offT Tryz.prog 25 3 = some 3) ∧ (slT Tryz.prog 194 = some (4,1)) ∧ (slT Tryz.prog 196 = some (194,1)) ∧ (slT Tryz.prog 22 = some (3,1)) ∧ (slT Tryz.prog 23 = some (49,2)) ∧ (slT Tryz.prog 34 = some (22,1)) ∧ (szT Tryz.prog 3 = some 1) ∧ (szT Tryz.prog 4 = some 1):=⟨eq_true Tryz.call119,tr3,tr4,tr6,tr15,tr21,tr24,tr43,tr63,tr64,tr66,tr68,tr78,tr80,tr82,tr117,tr119,tr120,tr121,tr122,tr130,tr131,tr217,tr218,tr220,tr222,tr230,tr254,tr258⟩
theorem tf76:(CallT Tryz.prog 30 = True) ∧ (elT Tryz.prog 22 = some (3,1,[.int .i64 0],8)) ∧ (kdT Tryz.prog 31 = some 0) ∧ (ldT Tryz.prog 29 = some (some 9)):=⟨eq_true Tryz.call30,tr24,tr44,tr77⟩
theorem tf77:(CallT Tryz.prog 58 = True) ∧ (kdT Tryz.prog 3 = some 0) ∧ (ldT Tryz.prog 3 = some none) ∧ (offT Tryz.prog 117 0 = some 0) ∧ (offT Tryz.prog 29 4 = some 8):=⟨eq_true Tryz.call58,tr43,tr78,tr97,tr142⟩
theorem tf78:(CallT Tryz.prog 133 = True) ∧ (CallT Tryz.prog 59 = True) ∧ (arT Tryz.prog 22 = none) ∧ (arT Tryz.prog 27 = none) ∧ (arT Tryz.prog 34 = none) ∧ (kdT Tryz.prog 3 = some 0) ∧ (ldT Tryz.prog 22 = some none) ∧ (ldT Tryz.prog 27 = some none) ∧ (ldT Tryz.prog 3 = some none) ∧ (offT Tryz.prog 117 0 = some 0) ∧ (offT Tryz.prog 29 2 = some 6) ∧ (offT Tryz.prog 53 1 = some 1) ∧ (slT Tryz.prog 22 = some (3,1)) ∧ (slT Tryz.prog 27 = some (53,2)) ∧ (slT Tryz.prog 34 = some (22,1)):=⟨eq_true Tryz.call133,eq_true Tryz.call59,tr6,tr13,tr15,tr43,tr66,tr76,tr78,tr97,tr140,tr165,tr220,tr228,tr230⟩
theorem tf79:(CallT Tryz.prog 134 = True) ∧ (arT Tryz.prog 22 = none) ∧ (kdT Tryz.prog 3 = some 0) ∧ (ldT Tryz.prog 3 = some none) ∧ (slT Tryz.prog 22 = some (3,1)):=⟨eq_true Tryz.call134,tr6,tr43,tr78,tr220⟩
theorem tf80:(CallT Tryz.prog 81 = True) ∧ (CallT Tryz.prog 82 = True) ∧ (ldT Tryz.prog 22 = some none) ∧ (szT Tryz.prog 3 = some 1) ∧ (zeroT Tryz.prog 3 = some [.int .i64 0]):=⟨eq_true Tryz.call81,eq_true Tryz.call82,tr66,tr254,tr291⟩
theorem tf81:(arT Tryz.prog 22 = none) ∧ (kdT Tryz.prog 3 = some 0) ∧ (ldT Tryz.prog 3 = some none) ∧ (slT Tryz.prog 22 = some (3,1)):=⟨tr6,tr43,tr78,tr220⟩
theorem tf82:(CallT Tryz.prog 58 = True) ∧ (kdT Tryz.prog 3 = some 0) ∧ (ldT Tryz.prog 112 = some none) ∧ (ldT Tryz.prog 26 = some none) ∧ (ldT Tryz.prog 3 = some none) ∧ (offT Tryz.prog 117 0 = some 0) ∧ (offT Tryz.prog 29 1 = some 5) ∧ (slT Tryz.prog 26 = some (45,16)) ∧ (szT Tryz.prog 3 = some 1):=⟨eq_true Tryz.call58,tr43,tr49,tr75,tr78,tr97,tr139,tr227,tr254⟩
theorem tf83:(CallT Tryz.prog 97 = True) ∧ (kdT Tryz.prog 3 = some 0) ∧ (ldT Tryz.prog 3 = some none) ∧ (offT Tryz.prog 117 0 = some 0) ∧ (offT Tryz.prog 29 4 = some 8):=⟨eq_true Tryz.call97,tr43,tr78,tr97,tr142⟩
theorem tf85:(CallT Tryz.prog 58 = True) ∧ (ldT Tryz.prog 3 = some none):=⟨eq_true Tryz.call58,tr78⟩
theorem tf86:(CallT Tryz.prog 135 = True) ∧ (CallT Tryz.prog 136 = True) ∧ (kdT Tryz.prog 3 = some 0) ∧ (ldT Tryz.prog 158 = some none) ∧ (ldT Tryz.prog 77 = some none) ∧ (offT Tryz.prog 161 1 = some 1) ∧ (slT Tryz.prog 77 = some (88,4)) ∧ (zeroT Tryz.prog 152 = some [.int .u64 0]):=⟨eq_true Tryz.call135,eq_true Tryz.call136,tr43,tr58,tr90,tr110,tr233,tr277⟩
theorem tf87:(CallT Tryz.prog 137 = True) ∧ (CallT Tryz.prog 138 = True) ∧ (CallT Tryz.prog 87 = True) ∧ (arT Tryz.prog 77 = none) ∧ (elT Tryz.prog 22 = some (3,1,[.int .i64 0],8)) ∧ (kdT Tryz.prog 3 = some 0) ∧ (ldT Tryz.prog 3 = some none) ∧ (ldT Tryz.prog 77 = some none) ∧ (ldT Tryz.prog 88 = some (some 4)) ∧ (offT Tryz.prog 161 1 = some 1) ∧ (offT Tryz.prog 88 1 = some 1) ∧ (offT Tryz.prog 88 2 = some 2) ∧ (offT Tryz.prog 88 3 = some 3) ∧ (slT Tryz.prog 22 = some (3,1)) ∧ (slT Tryz.prog 77 = some (88,4)) ∧ (szT Tryz.prog 88 = some 4) ∧ (zeroT Tryz.prog 88 = some [.int .i64 0,.int .i64 0,.int .i64 0,.int .i64 0]):=⟨eq_true Tryz.call137,eq_true Tryz.call138,eq_true Tryz.call87,tr18,tr24,tr43,tr78,tr90,tr92,tr110,tr184,tr185,tr186,tr220,tr233,tr267,tr301⟩
theorem tf91:(CallT Tryz.prog 140 = True) ∧ (CallT Tryz.prog 141 = True) ∧ (CallT Tryz.prog 142 = True) ∧ (CallT Tryz.prog 143 = True) ∧ (CallT Tryz.prog 58 = True) ∧ (CallT Tryz.prog 60 = True) ∧ (kdT Tryz.prog 31 = some 0) ∧ (ldT Tryz.prog 23 = some none) ∧ (ldT Tryz.prog 25 = some (some 5)) ∧ (ldT Tryz.prog 26 = some none) ∧ (ldT Tryz.prog 27 = some none) ∧ (ldT Tryz.prog 29 = some (some 9)) ∧ (ldT Tryz.prog 3 = some none) ∧ (offT Tryz.prog 25 3 = some 3) ∧ (offT Tryz.prog 29 0 = some 0) ∧ (offT Tryz.prog 29 1 = some 5) ∧ (offT Tryz.prog 29 2 = some 6) ∧ (offT Tryz.prog 29 3 = some 7) ∧ (offT Tryz.prog 29 4 = some 8) ∧ (placesT Tryz.prog 117 = some [(0,9),(9,1)]) ∧ (slT Tryz.prog 23 = some (49,2)) ∧ (slT Tryz.prog 26 = some (45,16)) ∧ (slT Tryz.prog 27 = some (53,2)) ∧ (zeroT Tryz.prog 117 = some [.int .i64 0,.int .i64 0,.slice none 0 0,.slice none 0 0,.slice none 0 0,.slice none 0 0,.slice none 0 0,.int .i64 0,.int .i64 0,.map none]):=⟨eq_true Tryz.call140,eq_true Tryz.call141,eq_true Tryz.call142,eq_true Tryz.call143,eq_true Tryz.call58,eq_true Tryz.call60,tr44,tr68,tr73,tr75,tr76,tr77,tr78,tr131,tr138,tr139,tr140,tr141,tr142,tr190,tr222,tr227,tr228,tr271⟩
theorem tf95:(CallT Tryz.prog 58 = True) ∧ (kdT Tryz.prog 3 = some 0) ∧ (ldT Tryz.prog 3 = some none) ∧ (offT Tryz.prog 117 0 = some 0) ∧ (offT Tryz.prog 29 4 = some 8):=⟨eq_true Tryz.call58,tr43,tr78,tr97,tr142⟩
theorem tf96:(CallT Tryz.prog 146 = True):=eq_true Tryz.call146
theorem tf97:(CallT Tryz.prog 78 = True) ∧ (kdT Tryz.prog 3 = some 0) ∧ (ldT Tryz.prog 27 = some none) ∧ (offT Tryz.prog 117 0 = some 0) ∧ (offT Tryz.prog 29 2 = some 6) ∧ (slT Tryz.prog 27 = some (53,2)):=⟨eq_true Tryz.call78,tr43,tr76,tr97,tr140,tr228⟩
theorem tf101:(kdT Tryz.prog 3 = some 0):=tr43
theorem tf103:(kdT Tryz.prog 3 = some 0):=tr43
theorem tf104:(CallT Tryz.prog 150 = True) ∧ (CallT Tryz.prog 151 = True) ∧ (ldT Tryz.prog 3 = some none) ∧ (offT Tryz.prog 38 0 = some 0) ∧ (offT Tryz.prog 38 1 = some 1) ∧ (offT Tryz.prog 38 2 = some 2) ∧ (offT Tryz.prog 38 3 = some 3) ∧ (offT Tryz.prog 38 4 = some 4) ∧ (offT Tryz.prog 38 5 = some 5) ∧ (offT Tryz.prog 38 6 = some 6):=⟨eq_true Tryz.call150,eq_true Tryz.call151,tr78,tr143,tr144,tr145,tr146,tr147,tr148,tr149⟩
theorem tf105:(CallT Tryz.prog 103 = True) ∧ (CallT Tryz.prog 150 = True) ∧ (CallT Tryz.prog 54 = True) ∧ (kdT Tryz.prog 3 = some 0) ∧ (ldT Tryz.prog 25 = some (some 5)) ∧ (ldT Tryz.prog 3 = some none) ∧ (offT Tryz.prog 40 0 = some 0) ∧ (offT Tryz.prog 40 1 = some 1) ∧ (offT Tryz.prog 40 2 = some 2) ∧ (offT Tryz.prog 40 3 = some 3) ∧ (offT Tryz.prog 40 4 = some 4):=⟨eq_true Tryz.call103,eq_true Tryz.call150,eq_true Tryz.call54,tr43,tr73,tr78,tr150,tr151,tr152,tr153,tr154⟩
theorem tf106:(CallT Tryz.prog 107 = True) ∧ (CallT Tryz.prog 152 = True) ∧ (arT Tryz.prog 41 = none) ∧ (kdT Tryz.prog 3 = some 0) ∧ (ldT Tryz.prog 3 = some none) ∧ (ldT Tryz.prog 41 = some none) ∧ (ldT Tryz.prog 61 = some (some 5)) ∧ (offT Tryz.prog 43 0 = some 0) ∧ (offT Tryz.prog 43 1 = some 1) ∧ (offT Tryz.prog 43 2 = some 2) ∧ (slT Tryz.prog 41 = some (61,5)):=⟨eq_true Tryz.call107,eq_true Tryz.call152,tr16,tr43,tr78,tr84,tr89,tr155,tr156,tr157,tr231⟩
theorem tf107:(kdT Tryz.prog 3 = some 0):=tr43
theorem tf108:(CallT Tryz.prog 153 = True) ∧ (arT Tryz.prog 22 = none) ∧ (kdT Tryz.prog 3 = some 0) ∧ (ldT Tryz.prog 3 = some none) ∧ (slT Tryz.prog 22 = some (3,1)):=⟨eq_true Tryz.call153,tr6,tr43,tr78,tr220⟩
theorem tf109:(elT Tryz.prog 22 = some (3,1,[.int .i64 0],8)) ∧ (elT Tryz.prog 23 = some (49,2,[.int .i64 0,.int .i64 0],16)) ∧ (ldT Tryz.prog 25 = some (some 5)) ∧ (placesT Tryz.prog 25 = some [(0,1),(1,1),(2,1),(3,1),(4,1)]) ∧ (placesT Tryz.prog 49 = some [(0,1),(1,1)]) ∧ (szT Tryz.prog 25 = some 5) ∧ (zeroT Tryz.prog 25 = some [.int .i64 0,.int .i64 0,.slice none 0 0,.slice none 0 0,.slice none 0 0]) ∧ (zeroT Tryz.prog 49 = some [.int .i64 0,.int .i64 0]):=⟨tr24,tr25,tr73,tr200,tr208,tr249,tr287,tr297⟩
theorem tf110:(CallT Tryz.prog 119 = True) ∧ (CallT Tryz.prog 154 = True) ∧ (CallT Tryz.prog 23 = True) ∧ (CallT Tryz.prog 27 = True) ∧ (arT Tryz.prog 22 = none) ∧ (arT Tryz.prog 27 = none) ∧ (elT Tryz.prog 22 = some (3,1,[.int .i64 0],8)) ∧ (kdT Tryz.prog 3 = some 0) ∧ (kdT Tryz.prog 31 = some 0) ∧ (ldT Tryz.prog 22 = some none) ∧ (ldT Tryz.prog 25 = some (some 5)) ∧ (ldT Tryz.prog 27 = some none) ∧ (ldT Tryz.prog 3 = some none) ∧ (ldT Tryz.prog 38 = some (some 7)) ∧ (ldT Tryz.prog 40 = some (some 5)) ∧ (ldT Tryz.prog 43 = some (some 3)) ∧ (ldT Tryz.prog 53 = some (some 2)) ∧ (offT Tryz.prog 117 0 = some 0) ∧ (offT Tryz.prog 29 0 = some 0) ∧ (offT Tryz.prog 29 2 = some 6) ∧ (offT Tryz.prog 29 3 = some 7) ∧ (offT Tryz.prog 45 0 = some 0) ∧ (offT Tryz.prog 45 1 = some 7) ∧ (offT Tryz.prog 45 2 = some 12) ∧ (offT Tryz.prog 45 3 = some 15) ∧ (offT Tryz.prog 53 0 = some 0) ∧ (slT Tryz.prog 22 = some (3,1)) ∧ (slT Tryz.prog 27 = some (53,2)) ∧ (szT Tryz.prog 3 = some 1) ∧ (szT Tryz.prog 53 = some 2) ∧ (zeroT Tryz.prog 53 = some [.int .i64 0,.int .i64 0]):=⟨eq_true Tryz.call119,eq_true Tryz.call154,eq_true Tryz.call23,eq_true Tryz.call27,tr6,tr13,tr24,tr43,tr44,tr66,tr73,tr76,tr78,tr81,tr83,tr85,tr88,tr97,tr138,tr140,tr141,tr158,tr159,tr160,tr161,tr164,tr220,tr228,tr254,tr264,tr298⟩
theorem tf111:(CallT Tryz.prog 61 = True):=eq_true Tryz.call61
theorem tf112:(kdT Tryz.prog 3 = some 0) ∧ (ldT Tryz.prog 3 = some none) ∧ (offT Tryz.prog 49 0 = some 0) ∧ (offT Tryz.prog 49 1 = some 1):=⟨tr43,tr78,tr162,tr163⟩
theorem tf113:(CallT Tryz.prog 61 = True):=eq_true Tryz.call61
theorem tf114:(CallT Tryz.prog 155 = True) ∧ (kdT Tryz.prog 3 = some 0):=⟨eq_true Tryz.call155,tr43⟩
theorem tf115:(CallT Tryz.prog 156 = True) ∧ (kdT Tryz.prog 3 = some 0):=⟨eq_true Tryz.call156,tr43⟩
theorem tf116:(CallT Tryz.prog 61 = True) ∧ (kdT Tryz.prog 3 = some 0) ∧ (ldT Tryz.prog 22 = some none) ∧ (offT Tryz.prog 25 2 = some 2) ∧ (slT Tryz.prog 22 = some (3,1)):=⟨eq_true Tryz.call61,tr43,tr66,tr130,tr220⟩
theorem tf117:(CallT Tryz.prog 61 = True) ∧ (kdT Tryz.prog 3 = some 0) ∧ (ldT Tryz.prog 23 = some none) ∧ (offT Tryz.prog 25 3 = some 3) ∧ (slT Tryz.prog 23 = some (49,2)):=⟨eq_true Tryz.call61,tr43,tr68,tr131,tr222⟩
theorem tf118:(CallT Tryz.prog 61 = True):=eq_true Tryz.call61
theorem tf119:(CallT Tryz.prog 157 = True) ∧ (elT Tryz.prog 22 = some (3,1,[.int .i64 0],8)) ∧ (intT Tryz.prog 3 = some .i64) ∧ (intT Tryz.prog 62 = some .u64) ∧ (kdT Tryz.prog 3 = some 0) ∧ (kdT Tryz.prog 62 = some 0) ∧ (slT Tryz.prog 22 = some (3,1)):=⟨eq_true Tryz.call157,tr24,tr36,tr37,tr43,tr47,tr220⟩
theorem tf121:(CallT Tryz.prog 61 = True) ∧ (arT Tryz.prog 185 = some (6,3,some 3)) ∧ (kdT Tryz.prog 3 = some 0) ∧ (ldT Tryz.prog 184 = some (some 3)) ∧ (ldT Tryz.prog 3 = some none) ∧ (offT Tryz.prog 121 0 = some 0) ∧ (offT Tryz.prog 184 0 = some 0) ∧ (offT Tryz.prog 184 1 = some 1) ∧ (offT Tryz.prog 184 2 = some 2) ∧ (offT Tryz.prog 25 0 = some 0) ∧ (offT Tryz.prog 25 1 = some 1) ∧ (slT Tryz.prog 185 = none) ∧ (szT Tryz.prog 184 = some 3) ∧ (zeroT Tryz.prog 184 = some [.int .i64 0,.int .i64 0,.int .i64 0]):=⟨eq_true Tryz.call61,tr2,tr43,tr60,tr78,tr99,tr114,tr115,tr116,tr128,tr129,tr216,tr239,tr279⟩
theorem tf122:(CallT Tryz.prog 67 = True):=eq_true Tryz.call67
theorem tf123:(arT Tryz.prog 23 = none) ∧ (kdT Tryz.prog 3 = some 0) ∧ (ldT Tryz.prog 3 = some none) ∧ (ldT Tryz.prog 49 = some (some 2)) ∧ (offT Tryz.prog 49 0 = some 0) ∧ (offT Tryz.prog 49 1 = some 1) ∧ (slT Tryz.prog 23 = some (49,2)) ∧ (szT Tryz.prog 49 = some 2) ∧ (zeroT Tryz.prog 49 = some [.int .i64 0,.int .i64 0]):=⟨tr7,tr43,tr78,tr87,tr162,tr163,tr222,tr263,tr297⟩
theorem tf124:(CallT Tryz.prog 158 = True) ∧ (CallT Tryz.prog 66 = True) ∧ (arT Tryz.prog 41 = none) ∧ (elT Tryz.prog 141 = some (221,1,[.pointer none],8)) ∧ (kdT Tryz.prog 3 = some 0) ∧ (kdT Tryz.prog 31 = some 0) ∧ (ldT Tryz.prog 141 = some none) ∧ (ldT Tryz.prog 41 = some none) ∧ (ldT Tryz.prog 43 = some (some 3)) ∧ (ldT Tryz.prog 61 = some (some 5)) ∧ (offT Tryz.prog 143 1 = some 3) ∧ (offT Tryz.prog 43 0 = some 0) ∧ (placesT Tryz.prog 143 = some [(0,3),(3,1)]) ∧ (slT Tryz.prog 41 = some (61,5)) ∧ (szT Tryz.prog 141 = some 1) ∧ (szT Tryz.prog 61 = some 5) ∧ (zeroT Tryz.prog 143 = some [.slice none 0 0,.int .i64 0,.int .i64 0,.slice none 0 0]) ∧ (zeroT Tryz.prog 61 = some [.int .i64 0,.int .i64 0,.int .i64 0,.slice none 0 0,.int .i64 0]):=⟨eq_true Tryz.call158,eq_true Tryz.call66,tr16,tr20,tr43,tr44,tr55,tr84,tr85,tr89,tr108,tr155,tr194,tr231,tr237,tr265,tr276,tr299⟩
theorem tf125:(CallT Tryz.prog 114 = True) ∧ (CallT Tryz.prog 159 = True) ∧ (kdT Tryz.prog 3 = some 0) ∧ (slT Tryz.prog 22 = some (3,1)):=⟨eq_true Tryz.call114,eq_true Tryz.call159,tr43,tr220⟩
theorem tf128:(CallT Tryz.prog 128 = True) ∧ (CallT Tryz.prog 160 = True) ∧ (arT Tryz.prog 194 = none) ∧ (arT Tryz.prog 22 = none) ∧ (arT Tryz.prog 41 = none) ∧ (elT Tryz.prog 22 = some (3,1,[.int .i64 0],8)) ∧ (kdT Tryz.prog 3 = some 0) ∧ (ldT Tryz.prog 137 = some none) ∧ (ldT Tryz.prog 3 = some none) ∧ (ldT Tryz.prog 4 = some none) ∧ (ldT Tryz.prog 41 = some none) ∧ (ldT Tryz.prog 61 = some (some 5)) ∧ (offT Tryz.prog 140 0 = some 0) ∧ (offT Tryz.prog 143 0 = some 0) ∧ (offT Tryz.prog 43 0 = some 0) ∧ (offT Tryz.prog 61 0 = some 0) ∧ (slT Tryz.prog 194 = some (4,1)) ∧ (slT Tryz.prog 22 = some (3,1)) ∧ (slT Tryz.prog 41 = some (61,5)) ∧ (szT Tryz.prog 61 = some 5) ∧ (zeroT Tryz.prog 61 = some [.int .i64 0,.int .i64 0,.int .i64 0,.slice none 0 0,.int .i64 0]):=⟨eq_true Tryz.call128,eq_true Tryz.call160,tr3,tr6,tr16,tr24,tr43,tr53,tr78,tr82,tr84,tr89,tr103,tr107,tr155,tr170,tr217,tr220,tr231,tr265,tr299⟩
theorem tf129:(CallT Tryz.prog 161 = True) ∧ (arT Tryz.prog 41 = none) ∧ (elT Tryz.prog 194 = some (4,1,[.bool false],1)) ∧ (kdT Tryz.prog 3 = some 0) ∧ (ldT Tryz.prog 137 = some none) ∧ (ldT Tryz.prog 3 = some none) ∧ (ldT Tryz.prog 41 = some none) ∧ (ldT Tryz.prog 61 = some (some 5)) ∧ (offT Tryz.prog 140 0 = some 0) ∧ (offT Tryz.prog 140 1 = some 1) ∧ (offT Tryz.prog 143 0 = some 0) ∧ (offT Tryz.prog 43 0 = some 0) ∧ (offT Tryz.prog 49 1 = some 1) ∧ (offT Tryz.prog 61 1 = some 1) ∧ (offT Tryz.prog 61 3 = some 4) ∧ (slT Tryz.prog 41 = some (61,5)) ∧ (szT Tryz.prog 61 = some 5) ∧ (zeroT Tryz.prog 61 = some [.int .i64 0,.int .i64 0,.int .i64 0,.slice none 0 0,.int .i64 0]):=⟨eq_true Tryz.call161,tr16,tr21,tr43,tr53,tr78,tr84,tr89,tr103,tr104,tr107,tr155,tr163,tr171,tr173,tr231,tr265,tr299⟩
theorem tf130:(CallT Tryz.prog 101 = True) ∧ (CallT Tryz.prog 162 = True) ∧ (ldT Tryz.prog 3 = some none) ∧ (offT Tryz.prog 38 0 = some 0) ∧ (offT Tryz.prog 38 1 = some 1) ∧ (offT Tryz.prog 38 2 = some 2) ∧ (offT Tryz.prog 38 3 = some 3) ∧ (offT Tryz.prog 38 4 = some 4) ∧ (offT Tryz.prog 38 5 = some 5) ∧ (offT Tryz.prog 38 6 = some 6) ∧ (placesT Tryz.prog 224 = some [(0,1),(1,1),(2,1),(3,1),(4,1),(5,1),(6,1)]) ∧ (slT Tryz.prog 224 = none) ∧ (szT Tryz.prog 224 = some 7) ∧ (zeroT Tryz.prog 224 = some [.bool false,.bool false,.bool false,.bool false,.bool false,.bool false,.bool false]):=⟨eq_true Tryz.call101,eq_true Tryz.call162,tr78,tr143,tr144,tr145,tr146,tr147,tr148,tr149,tr197,tr221,tr245,tr284⟩
theorem tf131:(CallT Tryz.prog 163 = True) ∧ (CallT Tryz.prog 63 = True) ∧ (elT Tryz.prog 22 = some (3,1,[.int .i64 0],8)) ∧ (kdT Tryz.prog 3 = some 0) ∧ (kdT Tryz.prog 31 = some 0) ∧ (ldT Tryz.prog 121 = some (some 5)) ∧ (ldT Tryz.prog 25 = some (some 5)) ∧ (ldT Tryz.prog 3 = some none) ∧ (offT Tryz.prog 49 0 = some 0) ∧ (offT Tryz.prog 49 1 = some 1) ∧ (placesT Tryz.prog 126 = some [(0,1),(1,1),(2,1)]) ∧ (szT Tryz.prog 121 = some 5) ∧ (szT Tryz.prog 49 = some 2) ∧ (zeroT Tryz.prog 121 = some [.int .i64 0,.int .i64 0,.slice none 0 0,.slice none 0 0,.slice none 0 0]) ∧ (zeroT Tryz.prog 126 = some [.slice none 0 0,.slice none 0 0,.slice none 0 0]) ∧ (zeroT Tryz.prog 49 = some [.int .i64 0,.int .i64 0]):=⟨eq_true Tryz.call163,eq_true Tryz.call63,tr24,tr43,tr44,tr51,tr73,tr78,tr162,tr163,tr192,tr235,tr263,tr272,tr273,tr297⟩
theorem tf132:(CallT Tryz.prog 121 = True) ∧ (CallT Tryz.prog 61 = True) ∧ (CallT Tryz.prog 63 = True) ∧ (elT Tryz.prog 22 = some (3,1,[.int .i64 0],8)) ∧ (kdT Tryz.prog 31 = some 0) ∧ (ldT Tryz.prog 121 = some (some 5)) ∧ (ldT Tryz.prog 25 = some (some 5)) ∧ (placesT Tryz.prog 126 = some [(0,1),(1,1),(2,1)]) ∧ (szT Tryz.prog 121 = some 5) ∧ (zeroT Tryz.prog 121 = some [.int .i64 0,.int .i64 0,.slice none 0 0,.slice none 0 0,.slice none 0 0]) ∧ (zeroT Tryz.prog 126 = some [.slice none 0 0,.slice none 0 0,.slice none 0 0]):=⟨eq_true Tryz.call121,eq_true Tryz.call61,eq_true Tryz.call63,tr24,tr44,tr51,tr73,tr192,tr235,tr272,tr273⟩
theorem tf133:(kdT Tryz.prog 152 = some 0):=tr39
theorem tf134:(kdT Tryz.prog 152 = some 0):=tr39
theorem tf135:(arT Tryz.prog 77 = none) ∧ (kdT Tryz.prog 3 = some 0) ∧ (ldT Tryz.prog 88 = some (some 4)) ∧ (slT Tryz.prog 77 = some (88,4)) ∧ (szT Tryz.prog 88 = some 4) ∧ (zeroT Tryz.prog 88 = some [.int .i64 0,.int .i64 0,.int .i64 0,.int .i64 0]):=⟨tr18,tr43,tr92,tr233,tr267,tr301⟩
theorem tf136:(CallT Tryz.prog 133 = True) ∧ (CallT Tryz.prog 134 = True) ∧ (CallT Tryz.prog 58 = True) ∧ (kdT Tryz.prog 3 = some 0) ∧ (ldT Tryz.prog 112 = some none) ∧ (ldT Tryz.prog 152 = some none) ∧ (ldT Tryz.prog 158 = some none) ∧ (ldT Tryz.prog 26 = some none) ∧ (ldT Tryz.prog 3 = some none) ∧ (offT Tryz.prog 117 0 = some 0) ∧ (offT Tryz.prog 161 0 = some 0) ∧ (offT Tryz.prog 161 3 = some 3) ∧ (offT Tryz.prog 29 1 = some 5) ∧ (offT Tryz.prog 88 0 = some 0) ∧ (offT Tryz.prog 88 1 = some 1) ∧ (offT Tryz.prog 88 2 = some 2) ∧ (offT Tryz.prog 88 3 = some 3) ∧ (slT Tryz.prog 26 = some (45,16)) ∧ (szT Tryz.prog 152 = some 1):=⟨eq_true Tryz.call133,eq_true Tryz.call134,eq_true Tryz.call58,tr43,tr49,tr57,tr58,tr75,tr78,tr97,tr109,tr112,tr139,tr183,tr184,tr185,tr186,tr227,tr238⟩
theorem tf137:(CallT Tryz.prog 164 = True) ∧ (CallT Tryz.prog 165 = True) ∧ (kdT Tryz.prog 3 = some 0) ∧ (ldT Tryz.prog 3 = some none) ∧ (offT Tryz.prog 161 2 = some 2) ∧ (offT Tryz.prog 161 3 = some 3):=⟨eq_true Tryz.call164,eq_true Tryz.call165,tr43,tr78,tr111,tr112⟩
theorem tf138:(elT Tryz.prog 22 = some (3,1,[.int .i64 0],8)) ∧ (kdT Tryz.prog 22 = some 2):=⟨tr24,tr40⟩
theorem tf140:(arT Tryz.prog 26 = none) ∧ (kdT Tryz.prog 3 = some 0) ∧ (ldT Tryz.prog 45 = some (some 16)) ∧ (slT Tryz.prog 26 = some (45,16)) ∧ (szT Tryz.prog 45 = some 16) ∧ (zeroT Tryz.prog 45 = some [.int .i64 0,.int .i64 0,.int .i64 0,.int .i64 0,.int .i64 0,.int .i64 0,.int .i64 0,.int .i64 0,.int .i64 0,.int .i64 0,.int .i64 0,.int .i64 0,.slice none 0 0,.int .i64 0,.int .i64 0,.slice none 0 0]):=⟨tr12,tr43,tr86,tr227,tr262,tr296⟩
theorem tf141:(CallT Tryz.prog 166 = True) ∧ (CallT Tryz.prog 167 = True) ∧ (kdT Tryz.prog 31 = some 0) ∧ (ldT Tryz.prog 22 = some none) ∧ (ldT Tryz.prog 25 = some (some 5)) ∧ (ldT Tryz.prog 38 = some (some 7)) ∧ (ldT Tryz.prog 40 = some (some 5)) ∧ (ldT Tryz.prog 43 = some (some 3)) ∧ (offT Tryz.prog 117 0 = some 0) ∧ (offT Tryz.prog 29 0 = some 0) ∧ (offT Tryz.prog 45 0 = some 0) ∧ (offT Tryz.prog 45 1 = some 7) ∧ (offT Tryz.prog 45 2 = some 12) ∧ (offT Tryz.prog 45 3 = some 15):=⟨eq_true Tryz.call166,eq_true Tryz.call167,tr44,tr66,tr73,tr81,tr83,tr85,tr97,tr138,tr158,tr159,tr160,tr161⟩
theorem tf142:(arT Tryz.prog 27 = none) ∧ (kdT Tryz.prog 3 = some 0) ∧ (ldT Tryz.prog 53 = some (some 2)) ∧ (slT Tryz.prog 27 = some (53,2)) ∧ (szT Tryz.prog 53 = some 2) ∧ (zeroT Tryz.prog 53 = some [.int .i64 0,.int .i64 0]):=⟨tr13,tr43,tr88,tr228,tr264,tr298⟩
theorem tf143:(CallT Tryz.prog 58 = True) ∧ (kdT Tryz.prog 3 = some 0) ∧ (ldT Tryz.prog 22 = some none) ∧ (ldT Tryz.prog 3 = some none) ∧ (offT Tryz.prog 117 0 = some 0) ∧ (offT Tryz.prog 25 2 = some 2) ∧ (offT Tryz.prog 29 0 = some 0) ∧ (offT Tryz.prog 53 0 = some 0) ∧ (offT Tryz.prog 53 1 = some 1) ∧ (slT Tryz.prog 22 = some (3,1)):=⟨eq_true Tryz.call58,tr43,tr66,tr78,tr97,tr130,tr138,tr164,tr165,tr220⟩
theorem tf146:(CallT Tryz.prog 147 = True) ∧ (ldT Tryz.prog 210 = some none) ∧ (szT Tryz.prog 210 = some 1) ∧ (zeroT Tryz.prog 210 = some [.nilFunc]):=⟨eq_true Tryz.call147,tr65,tr242,tr282⟩
theorem tf147:(elT Tryz.prog 22 = some (3,1,[.int .i64 0],8)) ∧ (kdT Tryz.prog 3 = some 0) ∧ (ldT Tryz.prog 192 = some none) ∧ (ldT Tryz.prog 210 = some none) ∧ (ldT Tryz.prog 3 = some none) ∧ (slT Tryz.prog 22 = some (3,1)):=⟨tr24,tr43,tr62,tr65,tr78,tr220⟩
theorem tf150:(CallT Tryz.prog 103 = True):=eq_true Tryz.call103
theorem tf151:(kdT Tryz.prog 3 = some 0):=tr43
theorem tf152:(CallT Tryz.prog 107 = True) ∧ (CallT Tryz.prog 153 = True) ∧ (arT Tryz.prog 23 = none) ∧ (kdT Tryz.prog 3 = some 0) ∧ (ldT Tryz.prog 23 = some none) ∧ (ldT Tryz.prog 3 = some none) ∧ (offT Tryz.prog 49 0 = some 0) ∧ (offT Tryz.prog 49 1 = some 1) ∧ (offT Tryz.prog 61 0 = some 0) ∧ (offT Tryz.prog 61 1 = some 1) ∧ (offT Tryz.prog 61 2 = some 3) ∧ (offT Tryz.prog 61 3 = some 4) ∧ (slT Tryz.prog 23 = some (49,2)):=⟨eq_true Tryz.call107,eq_true Tryz.call153,tr7,tr43,tr68,tr78,tr162,tr163,tr170,tr171,tr172,tr173,tr222⟩
theorem tf153:(CallT Tryz.prog 107 = True):=eq_true Tryz.call107
theorem tf154:(CallT Tryz.prog 58 = True) ∧ (kdT Tryz.prog 3 = some 0) ∧ (ldT Tryz.prog 23 = some none) ∧ (offT Tryz.prog 117 0 = some 0) ∧ (offT Tryz.prog 25 3 = some 3) ∧ (offT Tryz.prog 29 0 = some 0) ∧ (slT Tryz.prog 23 = some (49,2)):=⟨eq_true Tryz.call58,tr43,tr68,tr97,tr131,tr138,tr222⟩
theorem tf155:(arT Tryz.prog 22 = none) ∧ (kdT Tryz.prog 3 = some 0) ∧ (ldT Tryz.prog 3 = some none) ∧ (slT Tryz.prog 22 = some (3,1)):=⟨tr6,tr43,tr78,tr220⟩
theorem tf156:(arT Tryz.prog 23 = none) ∧ (kdT Tryz.prog 3 = some 0) ∧ (ldT Tryz.prog 49 = some (some 2)) ∧ (slT Tryz.prog 23 = some (49,2)):=⟨tr7,tr43,tr87,tr222⟩
theorem tf157:(CallT Tryz.prog 174 = True) ∧ (CallT Tryz.prog 175 = True) ∧ (intT Tryz.prog 241 = some .u32) ∧ (intT Tryz.prog 62 = some .u64):=⟨eq_true Tryz.call174,eq_true Tryz.call175,tr34,tr37⟩
theorem tf158:(arT Tryz.prog 23 = none) ∧ (arT Tryz.prog 247 = some (900,1,none)) ∧ (kdT Tryz.prog 3 = some 0) ∧ (ldT Tryz.prog 23 = some none) ∧ (ldT Tryz.prog 3 = some none) ∧ (ldT Tryz.prog 49 = some (some 2)) ∧ (offT Tryz.prog 249 0 = some 0) ∧ (offT Tryz.prog 49 0 = some 0) ∧ (offT Tryz.prog 49 1 = some 1) ∧ (offT Tryz.prog 61 2 = some 3) ∧ (placesT Tryz.prog 249 = some [(0,900),(900,900)]) ∧ (slT Tryz.prog 23 = some (49,2)) ∧ (slT Tryz.prog 247 = none) ∧ (szT Tryz.prog 4 = some 1) ∧ (szT Tryz.prog 49 = some 2) ∧ (zeroT Tryz.prog 249 = some (rep 1800 (.bool false))) ∧ (zeroT Tryz.prog 49 = some [.int .i64 0,.int .i64 0]):=⟨tr7,tr10,tr43,tr68,tr78,tr87,tr126,tr162,tr163,tr172,tr199,tr222,tr225,tr258,tr263,tr286,tr297⟩
theorem tf159:(CallT Tryz.prog 122 = True):=eq_true Tryz.call122
theorem tf160:(CallT Tryz.prog 176 = True) ∧ (kdT Tryz.prog 3 = some 0):=⟨eq_true Tryz.call176,tr43⟩
theorem tf161:(CallT Tryz.prog 177 = True) ∧ (arT Tryz.prog 138 = none) ∧ (arT Tryz.prog 253 = some (101,1,none)) ∧ (kdT Tryz.prog 252 = some 0) ∧ (kdT Tryz.prog 3 = some 0) ∧ (ldT Tryz.prog 137 = some none) ∧ (ldT Tryz.prog 138 = some none) ∧ (ldT Tryz.prog 252 = some none) ∧ (ldT Tryz.prog 3 = some none) ∧ (offT Tryz.prog 140 0 = some 0) ∧ (offT Tryz.prog 140 1 = some 1) ∧ (offT Tryz.prog 140 2 = some 2) ∧ (offT Tryz.prog 140 3 = some 3) ∧ (slT Tryz.prog 138 = some (253,101)) ∧ (slT Tryz.prog 253 = none) ∧ (szT Tryz.prog 252 = some 1):=⟨eq_true Tryz.call177,tr0,tr11,tr42,tr43,tr53,tr54,tr74,tr78,tr103,tr104,tr105,tr106,tr214,tr226,tr250⟩
theorem tf162:(CallT Tryz.prog 178 = True) ∧ (kdT Tryz.prog 3 = some 0):=⟨eq_true Tryz.call178,tr43⟩
theorem tf163:(arT Tryz.prog 22 = none) ∧ (arT Tryz.prog 23 = none) ∧ (kdT Tryz.prog 3 = some 0) ∧ (ldT Tryz.prog 22 = some none) ∧ (ldT Tryz.prog 23 = some none) ∧ (ldT Tryz.prog 3 = some none) ∧ (ldT Tryz.prog 49 = some (some 2)) ∧ (offT Tryz.prog 121 0 = some 0) ∧ (offT Tryz.prog 25 2 = some 2) ∧ (offT Tryz.prog 25 3 = some 3) ∧ (offT Tryz.prog 25 4 = some 4) ∧ (offT Tryz.prog 49 0 = some 0) ∧ (offT Tryz.prog 49 1 = some 1) ∧ (placesT Tryz.prog 49 = some [(0,1),(1,1)]) ∧ (slT Tryz.prog 22 = some (3,1)) ∧ (slT Tryz.prog 23 = some (49,2)) ∧ (szT Tryz.prog 49 = some 2) ∧ (zeroT Tryz.prog 49 = some [.int .i64 0,.int .i64 0]):=⟨tr6,tr7,tr43,tr66,tr68,tr78,tr87,tr99,tr130,tr131,tr132,tr162,tr163,tr208,tr220,tr222,tr263,tr297⟩
theorem tf164:(CallT Tryz.prog 133 = True) ∧ (CallT Tryz.prog 164 = True) ∧ (CallT Tryz.prog 79 = True) ∧ (CallT Tryz.prog 83 = True) ∧ (elT Tryz.prog 22 = some (3,1,[.int .i64 0],8)) ∧ (kdT Tryz.prog 152 = some 0) ∧ (kdT Tryz.prog 3 = some 0) ∧ (ldT Tryz.prog 112 = some none) ∧ (ldT Tryz.prog 159 = some none) ∧ (ldT Tryz.prog 26 = some none) ∧ (offT Tryz.prog 117 0 = some 0) ∧ (offT Tryz.prog 161 0 = some 0) ∧ (offT Tryz.prog 161 4 = some 4) ∧ (offT Tryz.prog 29 1 = some 5) ∧ (slT Tryz.prog 26 = some (45,16)):=⟨eq_true Tryz.call133,eq_true Tryz.call164,eq_true Tryz.call79,eq_true Tryz.call83,tr24,tr39,tr43,tr49,tr59,tr75,tr97,tr109,tr113,tr139,tr227⟩
theorem tf165:(CallT Tryz.prog 134 = True) ∧ (CallT Tryz.prog 58 = True) ∧ (arT Tryz.prog 22 = none) ∧ (arT Tryz.prog 77 = none) ∧ (kdT Tryz.prog 3 = some 0) ∧ (ldT Tryz.prog 3 = some none) ∧ (ldT Tryz.prog 77 = some none) ∧ (ldT Tryz.prog 88 = some (some 4)) ∧ (offT Tryz.prog 161 1 = some 1) ∧ (offT Tryz.prog 88 0 = some 0) ∧ (offT Tryz.prog 88 3 = some 3) ∧ (slT Tryz.prog 22 = some (3,1)) ∧ (slT Tryz.prog 77 = some (88,4)) ∧ (szT Tryz.prog 88 = some 4) ∧ (zeroT Tryz.prog 88 = some [.int .i64 0,.int .i64 0,.int .i64 0,.int .i64 0]):=⟨eq_true Tryz.call134,eq_true Tryz.call58,tr6,tr18,tr43,tr78,tr90,tr92,tr110,tr183,tr186,tr220,tr233,tr267,tr301⟩
theorem tf166:(CallT Tryz.prog 74 = True) ∧ (arT Tryz.prog 194 = none) ∧ (arT Tryz.prog 23 = none) ∧ (elT Tryz.prog 23 = some (49,2,[.int .i64 0,.int .i64 0],16)) ∧ (kdT Tryz.prog 3 = some 0) ∧ (kdT Tryz.prog 31 = some 0) ∧ (ldT Tryz.prog 194 = some none) ∧ (ldT Tryz.prog 25 = some (some 5)) ∧ (ldT Tryz.prog 3 = some none) ∧ (ldT Tryz.prog 38 = some (some 7)) ∧ (ldT Tryz.prog 4 = some none) ∧ (ldT Tryz.prog 40 = some (some 5)) ∧ (offT Tryz.prog 198 3 = some 13) ∧ (offT Tryz.prog 49 1 = some 1) ∧ (placesT Tryz.prog 49 = some [(0,1),(1,1)]) ∧ (slT Tryz.prog 194 = some (4,1)) ∧ (slT Tryz.prog 23 = some (49,2)) ∧ (szT Tryz.prog 3 = some 1) ∧ (zeroT Tryz.prog 49 = some [.int .i64 0,.int .i64 0]):=⟨eq_true Tryz.call74,tr3,tr7,tr25,tr43,tr44,tr63,tr73,tr78,tr81,tr82,tr83,tr120,tr163,tr208,tr217,tr222,tr254,tr297⟩
theorem tf167:(CallT Tryz.prog 124 = True) ∧ (CallT Tryz.prog 125 = True) ∧ (CallT Tryz.prog 179 = True) ∧ (CallT Tryz.prog 180 = True) ∧ (arT Tryz.prog 23 = none) ∧ (elT Tryz.prog 22 = some (3,1,[.int .i64 0],8)) ∧ (elT Tryz.prog 34 = some (22,1,[.slice none 0 0],24)) ∧ (kdT Tryz.prog 3 = some 0) ∧ (kdT Tryz.prog 31 = some 0) ∧ (ldT Tryz.prog 141 = some none) ∧ (ldT Tryz.prog 3 = some none) ∧ (ldT Tryz.prog 34 = some none) ∧ (ldT Tryz.prog 43 = some (some 3)) ∧ (ldT Tryz.prog 49 = some (some 2)) ∧ (offT Tryz.prog 143 1 = some 3) ∧ (offT Tryz.prog 258 3 = some 3) ∧ (offT Tryz.prog 49 0 = some 0) ∧ (offT Tryz.prog 49 1 = some 1) ∧ (placesT Tryz.prog 258 = some [(0,1),(1,1),(2,1),(3,1),(4,1)]) ∧ (slT Tryz.prog 22 = some (3,1)) ∧ (slT Tryz.prog 23 = some (49,2)) ∧ (szT Tryz.prog 34 = some 1) ∧ (szT Tryz.prog 49 = some 2) ∧ (zeroT Tryz.prog 258 = some [.pointer none,.slice none 0 0,.slice none 0 0,.slice none 0 0,.slice none 0 0]) ∧ (zeroT Tryz.prog 49 = some [.int .i64 0,.int .i64 0]):=⟨eq_true Tryz.call124,eq_true Tryz.call125,eq_true Tryz.call179,eq_true Tryz.call180,tr7,tr24,tr30,tr43,tr44,tr55,tr78,tr80,tr85,tr87,tr108,tr136,tr162,tr163,tr201,tr220,tr222,tr256,tr263,tr288,tr297⟩
theorem tf169:(CallT Tryz.prog 103 = True) ∧ (kdT Tryz.prog 3 = some 0) ∧ (ldT Tryz.prog 23 = some none) ∧ (offT Tryz.prog 25 3 = some 3) ∧ (slT Tryz.prog 23 = some (49,2)):=⟨eq_true Tryz.call103,tr43,tr68,tr131,tr222⟩
theorem tf175:(kdT Tryz.prog 244 = some 0):=tr41
theorem tf176:(arT Tryz.prog 22 = none) ∧ (kdT Tryz.prog 3 = some 0) ∧ (ldT Tryz.prog 3 = some none) ∧ (slT Tryz.prog 22 = some (3,1)):=⟨tr6,tr43,tr78,tr220⟩
theorem tf177:(CallT Tryz.prog 186 = True) ∧ (CallT Tryz.prog 187 = True) ∧ (arT Tryz.prog 141 = none) ∧ (kdT Tryz.prog 3 = some 0) ∧ (ldT Tryz.prog 141 = some none) ∧ (ldT Tryz.prog 221 = some none) ∧ (ldT Tryz.prog 249 = some (some 1800)) ∧ (ldT Tryz.prog 3 = some none) ∧ (offT Tryz.prog 143 0 = some 0) ∧ (offT Tryz.prog 143 1 = some 3) ∧ (offT Tryz.prog 43 1 = some 1) ∧ (offT Tryz.prog 43 2 = some 2) ∧ (placesT Tryz.prog 49 = some [(0,1),(1,1)]) ∧ (slT Tryz.prog 141 = some (221,1)) ∧ (zeroT Tryz.prog 49 = some [.int .i64 0,.int .i64 0]):=⟨eq_true Tryz.call186,eq_true Tryz.call187,tr1,tr43,tr55,tr67,tr72,tr78,tr107,tr108,tr156,tr157,tr208,tr215,tr297⟩
theorem tf178:(arT Tryz.prog 194 = none) ∧ (kdT Tryz.prog 3 = some 0) ∧ (kdT Tryz.prog 4 = some 1) ∧ (ldT Tryz.prog 4 = some none) ∧ (slT Tryz.prog 194 = some (4,1)):=⟨tr3,tr43,tr45,tr82,tr217⟩
theorem tf179:(elT Tryz.prog 141 = some (221,1,[.pointer none],8)) ∧ (kdT Tryz.prog 141 = some 2):=⟨tr20,tr38⟩
theorem tf180:(CallT Tryz.prog 180 = True) ∧ (CallT Tryz.prog 186 = True) ∧ (CallT Tryz.prog 187 = True) ∧ (arT Tryz.prog 141 = none) ∧ (arT Tryz.prog 22 = none) ∧ (arT Tryz.prog 23 = none) ∧ (arT Tryz.prog 34 = none) ∧ (arT Tryz.prog 41 = none) ∧ (kdT Tryz.prog 3 = some 0) ∧ (ldT Tryz.prog 137 = some none) ∧ (ldT Tryz.prog 141 = some none) ∧ (ldT Tryz.prog 22 = some none) ∧ (ldT Tryz.prog 221 = some none) ∧ (ldT Tryz.prog 23 = some none) ∧ (ldT Tryz.prog 249 = some (some 1800)) ∧ (ldT Tryz.prog 3 = some none) ∧ (ldT Tryz.prog 34 = some none) ∧ (ldT Tryz.prog 41 = some none) ∧ (ldT Tryz.prog 49 = some (some 2)) ∧ (ldT Tryz.prog 61 = some (some 5)) ∧ (offT Tryz.prog 143 0 = some 0) ∧ (offT Tryz.prog 258 0 = some 0) ∧ (offT Tryz.prog 258 1 = some 1) ∧ (offT Tryz.prog 258 2 = some 2) ∧ (offT Tryz.prog 258 3 = some 3) ∧ (offT Tryz.prog 258 4 = some 4) ∧ (offT Tryz.prog 43 0 = some 0) ∧ (offT Tryz.prog 43 1 = some 1) ∧ (offT Tryz.prog 43 2 = some 2) ∧ (offT Tryz.prog 61 0 = some 0) ∧ (slT Tryz.prog 141 = some (221,1)) ∧ (slT Tryz.prog 22 = some (3,1)) ∧ (slT Tryz.prog 23 = some (49,2)) ∧ (slT Tryz.prog 34 = some (22,1)) ∧ (slT Tryz.prog 41 = some (61,5)) ∧ (szT Tryz.prog 221 = some 1) ∧ (szT Tryz.prog 3 = some 1) ∧ (szT Tryz.prog 61 = some 5) ∧ (zeroT Tryz.prog 61 = some [.int .i64 0,.int .i64 0,.int .i64 0,.slice none 0 0,.int .i64 0]):=⟨eq_true Tryz.call180,eq_true Tryz.call186,eq_true Tryz.call187,tr1,tr6,tr7,tr15,tr16,tr43,tr53,tr55,tr66,tr67,tr68,tr72,tr78,tr80,tr84,tr87,tr89,tr107,tr133,tr134,tr135,tr136,tr137,tr155,tr156,tr157,tr170,tr215,tr220,tr222,tr230,tr231,tr244,tr254,tr265,tr299⟩
theorem tf186:(arT Tryz.prog 247 = some (900,1,none)) ∧ (kdT Tryz.prog 3 = some 0) ∧ (ldT Tryz.prog 3 = some none) ∧ (offT Tryz.prog 249 0 = some 0) ∧ (offT Tryz.prog 249 1 = some 900) ∧ (offT Tryz.prog 49 0 = some 0) ∧ (offT Tryz.prog 49 1 = some 1) ∧ (slT Tryz.prog 247 = none) ∧ (szT Tryz.prog 4 = some 1):=⟨tr10,tr43,tr78,tr126,tr127,tr162,tr163,tr225,tr258⟩
theorem tf187:(CallT Tryz.prog 193 = True) ∧ (kdT Tryz.prog 3 = some 0) ∧ (ldT Tryz.prog 3 = some none) ∧ (szT Tryz.prog 3 = some 1) ∧ (zeroT Tryz.prog 3 = some [.int .i64 0]):=⟨eq_true Tryz.call193,tr43,tr78,tr254,tr291⟩
theorem tf191:(CallT Tryz.prog 103 = True) ∧ (arT Tryz.prog 272 = some (6,1,none)) ∧ (kdT Tryz.prog 3 = some 0) ∧ (ldT Tryz.prog 3 = some none) ∧ (offT Tryz.prog 25 0 = some 0) ∧ (offT Tryz.prog 25 1 = some 1) ∧ (placesT Tryz.prog 272 = some [(0,1),(1,1),(2,1),(3,1),(4,1),(5,1)]) ∧ (slT Tryz.prog 272 = none) ∧ (szT Tryz.prog 272 = some 6) ∧ (zeroT Tryz.prog 272 = some [.int .i64 0,.int .i64 0,.int .i64 0,.int .i64 0,.int .i64 0,.int .i64 0]):=⟨eq_true Tryz.call103,tr14,tr43,tr78,tr128,tr129,tr202,tr229,tr252,tr289⟩
theorem tf193:(arT Tryz.prog 247 = some (900,1,none)) ∧ (kdT Tryz.prog 3 = some 0) ∧ (ldT Tryz.prog 221 = some none) ∧ (ldT Tryz.prog 3 = some none) ∧ (ldT Tryz.prog 4 = some none) ∧ (offT Tryz.prog 249 0 = some 0) ∧ (offT Tryz.prog 249 1 = some 900) ∧ (slT Tryz.prog 247 = none) ∧ (szT Tryz.prog 3 = some 1):=⟨tr10,tr43,tr67,tr78,tr82,tr126,tr127,tr225,tr254⟩
theorem tf194:(kdT Tryz.prog 3 = some 0) ∧ (ldT Tryz.prog 3 = some none) ∧ (offT Tryz.prog 49 0 = some 0) ∧ (offT Tryz.prog 49 1 = some 1):=⟨tr43,tr78,tr162,tr163⟩
theorem tf195:(arT Tryz.prog 22 = none) ∧ (kdT Tryz.prog 3 = some 0) ∧ (ldT Tryz.prog 22 = some none) ∧ (ldT Tryz.prog 3 = some none) ∧ (offT Tryz.prog 25 2 = some 2) ∧ (offT Tryz.prog 25 4 = some 4) ∧ (slT Tryz.prog 22 = some (3,1)):=⟨tr6,tr43,tr66,tr78,tr130,tr132,tr220⟩
theorem res12:Tryz.f12.results.toList = [.tmp 4]:=by kernel_rfl
theorem res15:Tryz.f15.results.toList = [.tmp 2]:=by kernel_rfl
theorem res16:Tryz.f16.results.toList = [.tmp 2]:=by kernel_rfl
theorem res18:Tryz.f18.results.toList = [.tmp 4,.tmp 5]:=by kernel_rfl
theorem res19:Tryz.f19.results.toList = [.tmp 4,.tmp 5,.tmp 6]:=by kernel_rfl
theorem res23:Tryz.f23.results.toList = [.tmp 8,.tmp 9]:=by kernel_rfl
theorem res24:Tryz.f24.results.toList = [.tmp 2]:=by kernel_rfl
theorem res25:Tryz.f25.results.toList = [.tmp 0]:=by kernel_rfl
theorem res26:Tryz.f26.results.toList = [.tmp 4,.tmp 5]:=by kernel_rfl
theorem res27:Tryz.f27.results.toList = [.tmp 8,.tmp 9,.tmp 10]:=by kernel_rfl
theorem res29:Tryz.f29.results.toList = [.tmp 4]:=by kernel_rfl
theorem res30:Tryz.f30.results.toList = [.tmp 4,.tmp 5]:=by kernel_rfl
theorem res33:Tryz.f33.results.toList = [.tmp 8,.tmp 9]:=by kernel_rfl
theorem res38:Tryz.f38.results.toList = [.tmp 4]:=by kernel_rfl
theorem res43:Tryz.f43.results.toList = [.cell 4 22,.cell 5 31]:=by kernel_rfl
theorem res44:Tryz.f44.results.toList = [.tmp 8]:=by kernel_rfl
theorem res49:Tryz.f49.results.toList = [.tmp 2]:=by kernel_rfl
theorem res50:Tryz.f50.results.toList = [.tmp 2]:=by kernel_rfl
theorem res51:Tryz.f51.results.toList = [.tmp 6]:=by kernel_rfl
theorem res52:Tryz.f52.results.toList = [.tmp 6]:=by kernel_rfl
theorem res53:Tryz.f53.results.toList = [.tmp 8]:=by kernel_rfl
theorem res54:Tryz.f54.results.toList = [.tmp 4]:=by kernel_rfl
theorem res55:Tryz.f55.results.toList = [.cell 0 29,.tmp 1]:=by kernel_rfl
theorem res56:Tryz.f56.results.toList = [.tmp 4,.tmp 5]:=by kernel_rfl
theorem res57:Tryz.f57.results.toList = [.tmp 3]:=by kernel_rfl
theorem res58:Tryz.f58.results.toList = [.tmp 6]:=by kernel_rfl
theorem res59:Tryz.f59.results.toList = [.tmp 4]:=by kernel_rfl
theorem res60:Tryz.f60.results.toList = [.tmp 2]:=by kernel_rfl
theorem res61:Tryz.f61.results.toList = [.tmp 6]:=by kernel_rfl
theorem res62:Tryz.f62.results.toList = [.tmp 4]:=by kernel_rfl
theorem res63:Tryz.f63.results.toList = [.cell 4 121,.tmp 5]:=by kernel_rfl
theorem res66:Tryz.f66.results.toList = [.tmp 2]:=by kernel_rfl
theorem res67:Tryz.f67.results.toList = [.tmp 6]:=by kernel_rfl
theorem res69:Tryz.f69.results.toList = [.tmp 8,.tmp 9]:=by kernel_rfl
theorem res71:Tryz.f71.results.toList = [.tmp 4,.tmp 5,.tmp 6]:=by kernel_rfl
theorem res74:Tryz.f74.results.toList = [.tmp 10,.tmp 11]:=by kernel_rfl
theorem res75:Tryz.f75.results.toList = [.tmp 4]:=by kernel_rfl
theorem res76:Tryz.f76.results.toList = [.tmp 2]:=by kernel_rfl
theorem res77:Tryz.f77.results.toList = [.tmp 3]:=by kernel_rfl
theorem res78:Tryz.f78.results.toList = [.tmp 8]:=by kernel_rfl
theorem res79:Tryz.f79.results.toList = [.tmp 2]:=by kernel_rfl
theorem res80:Tryz.f80.results.toList = [.tmp 3]:=by kernel_rfl
theorem res81:Tryz.f81.results.toList = [.tmp 4]:=by kernel_rfl
theorem res82:Tryz.f82.results.toList = [.tmp 4]:=by kernel_rfl
theorem res83:Tryz.f83.results.toList = [.tmp 4]:=by kernel_rfl
theorem res85:Tryz.f85.results.toList = [.tmp 4]:=by kernel_rfl
theorem res86:Tryz.f86.results.toList = [.tmp 2]:=by kernel_rfl
theorem res87:Tryz.f87.results.toList = [.tmp 4,.tmp 5]:=by kernel_rfl
theorem res91:Tryz.f91.results.toList = [.tmp 2,.tmp 3]:=by kernel_rfl
theorem res95:Tryz.f95.results.toList = [.tmp 3]:=by kernel_rfl
theorem res96:Tryz.f96.results.toList = [.tmp 4]:=by kernel_rfl
theorem res97:Tryz.f97.results.toList = [.tmp 6]:=by kernel_rfl
theorem res101:Tryz.f101.results.toList = [.tmp 6]:=by kernel_rfl
theorem res103:Tryz.f103.results.toList = [.tmp 6]:=by kernel_rfl
theorem res104:Tryz.f104.results.toList = [.tmp 2]:=by kernel_rfl
theorem res105:Tryz.f105.results.toList = [.tmp 4]:=by kernel_rfl
theorem res106:Tryz.f106.results.toList = [.tmp 2]:=by kernel_rfl
theorem res107:Tryz.f107.results.toList = [.tmp 6]:=by kernel_rfl
theorem res108:Tryz.f108.results.toList = [.tmp 2]:=by kernel_rfl
theorem res109:Tryz.f109.results.toList = [.cell 0 25]:=by kernel_rfl
theorem res110:Tryz.f110.results.toList = [.tmp 6]:=by kernel_rfl
theorem res111:Tryz.f111.results.toList = [.tmp 2]:=by kernel_rfl
theorem res112:Tryz.f112.results.toList = [.tmp 2]:=by kernel_rfl
theorem res113:Tryz.f113.results.toList = [.tmp 2]:=by kernel_rfl
theorem res114:Tryz.f114.results.toList = [.tmp 4]:=by kernel_rfl
theorem res115:Tryz.f115.results.toList = [.tmp 4]:=by kernel_rfl
theorem res116:Tryz.f116.results.toList = [.tmp 3]:=by kernel_rfl
theorem res117:Tryz.f117.results.toList = [.tmp 3]:=by kernel_rfl
theorem res118:Tryz.f118.results.toList = [.tmp 2]:=by kernel_rfl
theorem res119:Tryz.f119.results.toList = [.tmp 4]:=by kernel_rfl
theorem res121:Tryz.f121.results.toList = [.tmp 6,.tmp 7]:=by kernel_rfl
theorem res122:Tryz.f122.results.toList = [.tmp 2]:=by kernel_rfl
theorem res123:Tryz.f123.results.toList = [.tmp 2]:=by kernel_rfl
theorem res124:Tryz.f124.results.toList = [.tmp 2,.tmp 3]:=by kernel_rfl
theorem res125:Tryz.f125.results.toList = [.tmp 2]:=by kernel_rfl
theorem res128:Tryz.f128.results.toList = [.tmp 8,.tmp 9]:=by kernel_rfl
theorem res129:Tryz.f129.results.toList = [.tmp 4]:=by kernel_rfl
theorem res130:Tryz.f130.results.toList = [.tmp 2]:=by kernel_rfl
theorem res131:Tryz.f131.results.toList = [.tmp 8,.tmp 9,.tmp 10]:=by kernel_rfl
theorem res132:Tryz.f132.results.toList = [.tmp 6,.tmp 7]:=by kernel_rfl
theorem res133:Tryz.f133.results.toList = [.tmp 4]:=by kernel_rfl
theorem res134:Tryz.f134.results.toList = [.tmp 4]:=by kernel_rfl
theorem res135:Tryz.f135.results.toList = [.tmp 4]:=by kernel_rfl
theorem res136:Tryz.f136.results.toList = [.tmp 4]:=by kernel_rfl
theorem res137:Tryz.f137.results.toList = [.tmp 4]:=by kernel_rfl
theorem res138:Tryz.f138.results.toList = [.tmp 2]:=by kernel_rfl
theorem res140:Tryz.f140.results.toList = [.tmp 4]:=by kernel_rfl
theorem res141:Tryz.f141.results.toList = [.tmp 4]:=by kernel_rfl
theorem res142:Tryz.f142.results.toList = [.tmp 4]:=by kernel_rfl
theorem res143:Tryz.f143.results.toList = [.tmp 4]:=by kernel_rfl
theorem res146:Tryz.f146.results.toList = []:=by kernel_rfl
theorem res147:Tryz.f147.results.toList = [.tmp 8]:=by kernel_rfl
theorem res150:Tryz.f150.results.toList = [.tmp 2]:=by kernel_rfl
theorem res151:Tryz.f151.results.toList = [.tmp 6]:=by kernel_rfl
theorem res152:Tryz.f152.results.toList = [.tmp 2]:=by kernel_rfl
theorem res153:Tryz.f153.results.toList = [.tmp 2]:=by kernel_rfl
theorem res154:Tryz.f154.results.toList = [.tmp 4]:=by kernel_rfl
theorem res155:Tryz.f155.results.toList = [.tmp 4]:=by kernel_rfl
theorem res156:Tryz.f156.results.toList = [.tmp 4]:=by kernel_rfl
theorem res157:Tryz.f157.results.toList = [.tmp 4,.tmp 5]:=by kernel_rfl
theorem res158:Tryz.f158.results.toList = [.tmp 2]:=by kernel_rfl
theorem res159:Tryz.f159.results.toList = [.tmp 2]:=by kernel_rfl
theorem res160:Tryz.f160.results.toList = [.tmp 4]:=by kernel_rfl
theorem res161:Tryz.f161.results.toList = [.tmp 6]:=by kernel_rfl
theorem res162:Tryz.f162.results.toList = [.tmp 4]:=by kernel_rfl
theorem res163:Tryz.f163.results.toList = [.cell 6 49]:=by kernel_rfl
theorem res164:Tryz.f164.results.toList = [.tmp 4]:=by kernel_rfl
theorem res165:Tryz.f165.results.toList = [.tmp 6]:=by kernel_rfl
theorem res166:Tryz.f166.results.toList = [.tmp 6,.tmp 7]:=by kernel_rfl
theorem res167:Tryz.f167.results.toList = [.tmp 6,.tmp 7]:=by kernel_rfl
theorem res169:Tryz.f169.results.toList = [.tmp 4]:=by kernel_rfl
theorem res175:Tryz.f175.results.toList = [.tmp 4,.tmp 5]:=by kernel_rfl
theorem res176:Tryz.f176.results.toList = [.tmp 4]:=by kernel_rfl
theorem res177:Tryz.f177.results.toList = [.tmp 8]:=by kernel_rfl
theorem res178:Tryz.f178.results.toList = [.tmp 4]:=by kernel_rfl
theorem res179:Tryz.f179.results.toList = [.tmp 2]:=by kernel_rfl
theorem res180:Tryz.f180.results.toList = [.tmp 6]:=by kernel_rfl
theorem res186:Tryz.f186.results.toList = [.tmp 4]:=by kernel_rfl
theorem res187:Tryz.f187.results.toList = [.tmp 6]:=by kernel_rfl
theorem res191:Tryz.f191.results.toList = [.tmp 6,.tmp 7]:=by kernel_rfl
theorem res193:Tryz.f193.results.toList = []:=by kernel_rfl
theorem res194:Tryz.f194.results.toList = [.tmp 4]:=by kernel_rfl
theorem res195:Tryz.f195.results.toList = [.tmp 8]:=by kernel_rfl
noncomputable abbrev EV (w:World) (X:Nat → Prop) (re:List Nat) (ord:List (Nat × Plan)) (det:Nat → List Value → Option Value) (cuts:List Nat):Env:={ P:=Tryz.prog,w0:=⟨w,X⟩,re:=re,ord:=ord,det:=det,cuts:=cuts }
abbrev I (n:Int):Value:=.int .i64 n
theorem mixed_prog:Tryz.prog.follows .mixedOrders = true:=by kernel_rfl
theorem walkC {f:Nat} {fn:Func} {c:Code} {args:List Value} {n:Nat} {rs:List ResultVar} {Post:Value → List HO → Prop} {w:World} {X:Nat → Prop} (cuts:List Nat) (re:List Nat) (ord:List (Nat × Plan)) {det:Nat → List Value → Option Value} (hD:DetFn Tryz.prog ⟨w,X⟩ det)
  (hf:Tryz.prog.funcs[f]? = some fn) (hb:fn.body = some c) (hn:fn.ntmps = n) (hr:fn.results.toList = rs) (hok:codeB ord c = true) {H0:List HO}
  (h0:(∀ h ∈ H0,h.ok w) ∧ (∀ h ∈ H0,∀ b,h.fp b → X b) ∧ H0.Pairwise Apart)
  (h:W (EV w X re ord det cuts) c (retQ (EV w X re ord det cuts) rs Post) (args.map SV.v ++ List.replicate (n - args.length) (.v undef)) [] H0):SX.Fn Tryz.prog f args w X Post:=by
 subst hn hr
 exact SX.Fn.intro (E:=EV w X re ord det cuts) hf hb trivial hD mixed_prog hok h0 h
theorem walk {f:Nat} {fn:Func} {c:Code} {args:List Value} {n:Nat} {rs:List ResultVar} {Post:Value → List HO → Prop} {w:World} {X:Nat → Prop} (re:List Nat) (ord:List (Nat × Plan)) {det:Nat → List Value → Option Value} (hD:DetFn Tryz.prog ⟨w,X⟩ det)
  (hf:Tryz.prog.funcs[f]? = some fn) (hb:fn.body = some c) (hn:fn.ntmps = n) (hr:fn.results.toList = rs) (hok:codeB ord c = true) {H0:List HO}
  (h0:(∀ h ∈ H0,h.ok w) ∧ (∀ h ∈ H0,∀ b,h.fp b → X b) ∧ H0.Pairwise Apart)
  (h:W (EV w X re ord det []) c (retQ (EV w X re ord det []) rs Post) (args.map SV.v ++ List.replicate (n - args.length) (.v undef)) [] H0):SX.Fn Tryz.prog f args w X Post:=
 walkC [] re ord hD hf hb hn hr hok h0 h
theorem walkIterR {gf:Nat} {fn:Func} {c:Code} {pre post:List Value} {nt n:Nat} {arg:Nat → List Value → List HO → Prop} {w:World} (Rs:Nat → Prop) (re:List Nat) (ord:List (Nat × Plan)) {det:Nat → List Value → Option Value} (hD:∀ X,(∀ b,Rs b → ¬ X b) → DetFn Tryz.prog ⟨w,X⟩ det)
  (hf:Tryz.prog.funcs[gf]? = some fn) (hb:fn.body = some c) (hn:fn.ntmps = nt) (hr:fn.results.toList = []) (hok:codeB ord c = true)
  (h:∀ l J C R,(∀ b,Rs b → ¬ (C b ∨ False)) → Handler Tryz.prog l n arg w C (fun _=>False) J → W (EV w (fun b=>C b ∨ False) re ord det []) c (retQ (EV w (fun b=>C b ∨ False) re ord det []) [] (iterPost n J)) ((pre ++ [Value.func (.yield l) #[] #[]] ++ post).map SV.v ++ List.replicate (nt - (pre ++ [Value.func (.yield l) #[] #[]] ++ post).length) (.v undef)) [] [consu J (some 0) C R]):
  Iter Tryz.prog gf pre post n arg (fun _=>False) Rs w:=by
 refine Iter.intro fun l J C R hRs hH hk=>?_
 have hRs':∀ b,Rs b → ¬ (C b ∨ False):=fun b hb hc=>hc.elim (hRs b hb) id
 have hw:=h l J C R hRs' hH
 rw [← hr] at hw
 subst hn
 exact Fn.introZ (E:=EV w (fun b=>C b ∨ False) re ord det []) (fun b=>C b ∨ R b) hf hb trivial (hD _ hRs') mixed_prog hok ⟨fun g hg=>by rw [List.mem_singleton] at hg; subst hg; exact hk,fun g hg b=>by rw [List.mem_singleton] at hg; subst hg; exact ⟨id,fun x=>.inl x⟩,List.pairwise_singleton _ _⟩ hw
theorem no_facts {w:World} {X:Nat → Prop}:(∀ h ∈ ([]:List HO),h.ok w) ∧ (∀ h ∈ ([]:List HO),∀ b,h.fp b → X b) ∧ ([]:List HO).Pairwise Apart:=⟨by simp,by simp,List.Pairwise.nil⟩
theorem wrap_id {n:Int} (h:-9223372036854775808 ≤ n ∧ n ≤ 9223372036854775807):IntKind.i64.wrap n = n:=by
 rw [IntKind.wrap_i64]
 omega
end Go.Proofs.YtljpknnhimkkjaaGreatDoor

