/- Part 43 of the proof. -/
import Derived.Test.YtlhdoekgipaihaaGreatDoorProg
import Derived.Test.YtlhdoekgipaihaaGreatDoorEv35
import Derived.Test.YtlhdoekgipaihaaGreatDoorEv42
import Derived.KernelRfl
set_option linter.unusedVariables false
set_option linter.unusedSimpArgs false
set_option linter.unusedSectionVars false
set_option maxRecDepth 100000
set_option exponentiation.threshold 400
set_option maxHeartbeats 8000000
namespace Go.Proofs.YtlhdoekgipaihaaGreatDoor
open Go Go.Fw
def T:Nat→Option TD
 |2=>some ⟨1,8,[.int .i64 0],.int .i64⟩
 |3=>some ⟨1,8,[.int .i64 0],.int .i64⟩
 |4=>some ⟨1,1,[.bool false],.bool⟩
 |5=>some ⟨1,1,[.int .u8 0],.int .u8⟩
 |9=>some ⟨1,16,[.string ⟨#[]⟩],.str⟩
 |21=>some ⟨1,4,[.int .i32 0],.int .i32⟩
 |22=>some ⟨1,24,[.slice none 0 0],.slice 83⟩
 |23=>some ⟨1,24,[.slice none 0 0],.slice 44⟩
 |24=>some ⟨1,24,[.slice none 0 0],.slice 163⟩
 |26=>some ⟨4,96,[.slice none 0 0,.slice none 0 0,.slice none 0 0,.slice none 0 0],.struct [(0,22),(1,23),(2,23),(3,24)]⟩
 |27=>some ⟨1,24,[.slice none 0 0],.slice 46⟩
 |28=>some ⟨1,24,[.slice none 0 0],.slice 9⟩
 |29=>some ⟨1,24,[.slice none 0 0],.slice 95⟩
 |31=>some ⟨3,72,[.slice none 0 0,.slice none 0 0,.slice none 0 0],.struct [(0,28),(1,27),(2,29)]⟩
 |32=>some ⟨1,8,[.int .i64 0],.int .i64⟩
 |40=>some ⟨1,24,[.slice none 0 0],.slice 42⟩
 |42=>some ⟨4,64,[.string ⟨#[]⟩,.string ⟨#[]⟩,.int .i64 0,.slice none 0 0],.struct [(0,9),(1,9),(2,3),(3,40)]⟩
 |44=>some ⟨9,144,[.string ⟨#[]⟩,.string ⟨#[]⟩,.string ⟨#[]⟩,.int .i64 0,.slice none 0 0,.string ⟨#[]⟩,.string ⟨#[]⟩,.int .i64 0,.slice none 0 0],.struct [(0,9),(1,42),(5,42)]⟩
 |46=>some ⟨3,32,[.string ⟨#[]⟩,.int .i64 0,.bool false],.struct [(0,9),(1,3),(2,4)]⟩
 |48=>some ⟨1,24,[.slice none 0 0],.slice 154⟩
 |50=>some ⟨3,48,[.string ⟨#[]⟩,.bool false,.slice none 0 0],.struct [(0,9),(1,4),(2,48)]⟩
 |74=>some ⟨1,8,[.nilFunc],.func⟩
 |77=>some ⟨1,24,[.slice none 0 0],.slice 28⟩
 |81=>some ⟨1,8,[.map none],.map 9 3⟩
 |83=>some ⟨7,88,[.string ⟨#[]⟩,.int .i64 0,.int .i64 0,.string ⟨#[]⟩,.string ⟨#[]⟩,.bool false,.string ⟨#[]⟩],.struct [(0,9),(1,3),(2,3),(3,9),(4,9),(5,4),(6,9)]⟩
 |90=>some ⟨1,8,[.map none],.map 46 4⟩
 |95=>some ⟨1,24,[.slice none 0 0],.slice 3⟩
 |99=>some ⟨2,48,[.slice none 0 0,.slice none 0 0],.struct [(0,28),(1,27)]⟩
 |106=>some ⟨1,24,[.slice none 0 0],.slice 211⟩
 |116=>some ⟨1,8,[.pointer none],.ptr⟩
 |119=>some ⟨1,24,[.slice none 0 0],.slice 124⟩
 |120=>some ⟨1,24,[.slice none 0 0],.slice 329⟩
 |122=>some ⟨2,32,[.bool false,.slice none 0 0],.struct [(0,4),(1,120)]⟩
 |124=>some ⟨4,64,[.bool false,.slice none 0 0,.bool false,.slice none 0 0],.struct [(0,122),(2,122)]⟩
 |126=>some ⟨5,88,[.slice none 0 0,.bool false,.slice none 0 0,.bool false,.slice none 0 0],.struct [(0,119),(1,124)]⟩
 |129=>some ⟨1,8,[.map none],.map 9 83⟩
 |132=>some ⟨3,40,[.map none,.slice none 0 0,.pointer none],.struct [(0,129),(1,27),(2,116)]⟩
 |136=>some ⟨1,8,[.nilFunc],.func⟩
 |138=>some ⟨1,24,[.slice none 0 0],.slice 140⟩
 |140=>some ⟨3,56,[.bool false,.slice none 0 0,.slice none 0 0],.struct [(0,4),(1,95),(2,95)]⟩
 |142=>some ⟨4,80,[.slice none 0 0,.bool false,.slice none 0 0,.slice none 0 0],.struct [(0,138),(1,140)]⟩
 |150=>some ⟨1,8,[.nilFunc],.func⟩
 |154=>some ⟨4,48,[.string ⟨#[]⟩,.int .i64 0,.bool false,.string ⟨#[]⟩],.struct [(0,46),(3,9)]⟩
 |158=>some ⟨1,8,[.nilFunc],.func⟩
 |161=>some ⟨1,24,[.slice none 0 0],.slice 256⟩
 |163=>some ⟨6,104,[.string ⟨#[]⟩,.string ⟨#[]⟩,.string ⟨#[]⟩,.int .i64 0,.slice none 0 0,.slice none 0 0],.struct [(0,9),(1,42),(5,161)]⟩
 |165=>some ⟨6,72,[.bool false,.slice none 0 0,.bool false,.slice none 0 0,.bool false,.bool false],.struct [(0,124),(4,4),(5,4)]⟩
 |169=>some ⟨5,64,[.bool false,.bool false,.bool false,.slice none 0 0,.slice none 0 0],.struct [(0,4),(1,4),(2,140)]⟩
 |174=>some ⟨1,8,[.nilFunc],.func⟩
 |184=>some ⟨1,24,[.slice none 0 0],.slice 126⟩
 |186=>some ⟨1,24,[.slice none 0 0],.slice 142⟩
 |196=>some ⟨1,24,[.slice none 0 0],.slice 4⟩
 |203=>some ⟨1,24,[.slice none 0 0],.slice 3⟩
 |210=>some ⟨1,8,[.nilFunc],.func⟩
 |211=>some ⟨2,16,[.int .i64 0,.int .i64 0],.array 2 3⟩
 |221=>some ⟨9,152,[.slice none 0 0,.bool false,.slice none 0 0,.bool false,.slice none 0 0,.bool false,.slice none 0 0,.bool false,.slice none 0 0],.struct [(0,126),(5,124)]⟩
 |239=>some ⟨1,8,[.nilFunc],.func⟩
 |243=>some ⟨1,8,[.nilFunc],.func⟩
 |245=>some ⟨1,8,[.nilFunc],.func⟩
 |247=>some ⟨1,8,[.nilFunc],.func⟩
 |249=>some ⟨1,24,[.slice none 0 0],.slice 23⟩
 |251=>some ⟨1,8,[.map none],.map 9 4⟩
 |256=>some ⟨6,88,[.int .i64 0,.string ⟨#[]⟩,.string ⟨#[]⟩,.string ⟨#[]⟩,.int .i64 0,.slice none 0 0],.struct [(0,3),(1,9),(2,42)]⟩
 |258=>some ⟨1,8,[.nilFunc],.func⟩
 |259=>some ⟨1,8,[.map none],.map 9 265⟩
 |263=>some ⟨1,24,[.slice none 0 0],.slice 165⟩
 |265=>some ⟨1,8,[.nilFunc],.func⟩
 |275=>some ⟨1,8,[.pointer none],.ptr⟩
 |276=>some ⟨1,24,[.slice none 0 0],.slice 5⟩
 |278=>some ⟨2,32,[.pointer none,.slice none 0 0],.struct [(0,275),(1,276)]⟩
 |293=>some ⟨3,16,[.int .i64 0,.bool false,.bool false],.struct [(0,3),(1,4),(2,4)]⟩
 |294=>some ⟨1,8,[.map none],.map 9 293⟩
 |310=>some ⟨1,8,[.int .u64 0],.int .u64⟩
 |313=>some ⟨1,8,[.nilFunc],.func⟩
 |320=>some ⟨1,8,[.map none],.map 46 165⟩
 |322=>some ⟨6,80,[.bool false,.slice none 0 0,.bool false,.slice none 0 0,.bool false,.map none],.struct [(0,124),(4,4),(5,320)]⟩
 |325=>some ⟨1,24,[.slice none 0 0],.slice 221⟩
 |329=>some ⟨1,4,[.int .u32 0],.int .u32⟩
 |337=>some ⟨1,24,[.slice none 0 0],.slice 377⟩
 |352=>some ⟨1,8,[.pointer none],.ptr⟩
 |356=>some ⟨1,8,[.int .u64 0],.int .u64⟩
 |366=>some ⟨9,9,[.int .u8 0,.int .u8 0,.int .u8 0,.int .u8 0,.int .u8 0,.int .u8 0,.int .u8 0,.int .u8 0,.int .u8 0],.array 9 5⟩
 |373=>some ⟨1,8,[.map none],.map 9 124⟩
 |377=>some ⟨4,72,[.string ⟨#[]⟩,.bool false,.slice none 0 0,.slice none 0 0],.struct [(0,9),(1,140)]⟩
 |385=>some ⟨256,256,List.replicate 256 (.bool false),.array 256 4⟩
 |389=>some ⟨1,8,[.pointer none],.ptr⟩
 |391=>some ⟨1,8,[.nilFunc],.func⟩
 |417=>some ⟨256,256,List.replicate 256 (.int .u8 0),.array 256 5⟩
 |419=>some ⟨2,2,[.int .u8 0,.int .u8 0],.struct [(0,5),(1,5)]⟩
 |420=>some ⟨32,32,List.replicate 32 (.int .u8 0),.array 16 419⟩
 |_=>none
theorem T_2:tdOf Tryz.prog 2=T 2:=by kernel_rfl
theorem T_3:tdOf Tryz.prog 3=T 3:=by kernel_rfl
theorem T_4:tdOf Tryz.prog 4=T 4:=by kernel_rfl
theorem T_5:tdOf Tryz.prog 5=T 5:=by kernel_rfl
theorem T_9:tdOf Tryz.prog 9=T 9:=by kernel_rfl
theorem JPS:tdOf Tryz.prog 21=T 21:=by kernel_rfl
theorem JPR:tdOf Tryz.prog 22=T 22:=by kernel_rfl
theorem JPQ:tdOf Tryz.prog 23=T 23:=by kernel_rfl
theorem JPP:tdOf Tryz.prog 24=T 24:=by kernel_rfl
theorem JPO:tdOf Tryz.prog 26=T 26:=by kernel_rfl
theorem JPN:tdOf Tryz.prog 27=T 27:=by kernel_rfl
theorem JPM:tdOf Tryz.prog 28=T 28:=by kernel_rfl
theorem JPL:tdOf Tryz.prog 29=T 29:=by kernel_rfl
theorem JPK:tdOf Tryz.prog 31=T 31:=by kernel_rfl
theorem JPJ:tdOf Tryz.prog 32=T 32:=by kernel_rfl
theorem JPI:tdOf Tryz.prog 40=T 40:=by kernel_rfl
theorem JPH:tdOf Tryz.prog 42=T 42:=by kernel_rfl
theorem JPG:tdOf Tryz.prog 44=T 44:=by kernel_rfl
theorem JPF:tdOf Tryz.prog 46=T 46:=by kernel_rfl
theorem JPE:tdOf Tryz.prog 48=T 48:=by kernel_rfl
theorem JPD:tdOf Tryz.prog 50=T 50:=by kernel_rfl
theorem JPC:tdOf Tryz.prog 74=T 74:=by kernel_rfl
theorem JPB:tdOf Tryz.prog 77=T 77:=by kernel_rfl
theorem JPA:tdOf Tryz.prog 81=T 81:=by kernel_rfl
theorem JP9:tdOf Tryz.prog 83=T 83:=by kernel_rfl
theorem JP8:tdOf Tryz.prog 90=T 90:=by kernel_rfl
theorem JP7:tdOf Tryz.prog 95=T 95:=by kernel_rfl
theorem JP6:tdOf Tryz.prog 99=T 99:=by kernel_rfl
theorem JP0:tdOf Tryz.prog 106=T 106:=by kernel_rfl
theorem JOz:tdOf Tryz.prog 116=T 116:=by kernel_rfl
theorem JOy:tdOf Tryz.prog 119=T 119:=by kernel_rfl
theorem JOx:tdOf Tryz.prog 120=T 120:=by kernel_rfl
theorem JOw:tdOf Tryz.prog 122=T 122:=by kernel_rfl
theorem JOv:tdOf Tryz.prog 124=T 124:=by kernel_rfl
theorem JOu:tdOf Tryz.prog 126=T 126:=by kernel_rfl
theorem JOt:tdOf Tryz.prog 129=T 129:=by kernel_rfl
theorem JOs:tdOf Tryz.prog 132=T 132:=by kernel_rfl
theorem JOr:tdOf Tryz.prog 136=T 136:=by kernel_rfl
theorem JOq:tdOf Tryz.prog 138=T 138:=by kernel_rfl
theorem JOp:tdOf Tryz.prog 140=T 140:=by kernel_rfl
theorem JOo:tdOf Tryz.prog 142=T 142:=by kernel_rfl
theorem JOn:tdOf Tryz.prog 150=T 150:=by kernel_rfl
theorem JOm:tdOf Tryz.prog 154=T 154:=by kernel_rfl
theorem JOl:tdOf Tryz.prog 158=T 158:=by kernel_rfl
theorem JOk:tdOf Tryz.prog 161=T 161:=by kernel_rfl
theorem JOj:tdOf Tryz.prog 163=T 163:=by kernel_rfl
theorem JOi:tdOf Tryz.prog 165=T 165:=by kernel_rfl
theorem JOh:tdOf Tryz.prog 169=T 169:=by kernel_rfl
theorem JOg:tdOf Tryz.prog 174=T 174:=by kernel_rfl
theorem JOf:tdOf Tryz.prog 184=T 184:=by kernel_rfl
theorem JOe:tdOf Tryz.prog 186=T 186:=by kernel_rfl
theorem JOd:tdOf Tryz.prog 196=T 196:=by kernel_rfl
theorem JOc:tdOf Tryz.prog 203=T 203:=by kernel_rfl
theorem JOb:tdOf Tryz.prog 210=T 210:=by kernel_rfl
theorem JOa:tdOf Tryz.prog 211=T 211:=by kernel_rfl
theorem JOZ:tdOf Tryz.prog 221=T 221:=by kernel_rfl
theorem JOY:tdOf Tryz.prog 239=T 239:=by kernel_rfl
theorem JOX:tdOf Tryz.prog 243=T 243:=by kernel_rfl
theorem JOW:tdOf Tryz.prog 245=T 245:=by kernel_rfl
theorem JOV:tdOf Tryz.prog 247=T 247:=by kernel_rfl
theorem JOU:tdOf Tryz.prog 249=T 249:=by kernel_rfl
theorem JOT:tdOf Tryz.prog 251=T 251:=by kernel_rfl
theorem JOS:tdOf Tryz.prog 256=T 256:=by kernel_rfl
theorem JOR:tdOf Tryz.prog 258=T 258:=by kernel_rfl
theorem JOQ:tdOf Tryz.prog 259=T 259:=by kernel_rfl
theorem JOP:tdOf Tryz.prog 263=T 263:=by kernel_rfl
theorem JOO:tdOf Tryz.prog 265=T 265:=by kernel_rfl
theorem JON:tdOf Tryz.prog 275=T 275:=by kernel_rfl
theorem JOM:tdOf Tryz.prog 276=T 276:=by kernel_rfl
theorem JOL:tdOf Tryz.prog 278=T 278:=by kernel_rfl
theorem JOK:tdOf Tryz.prog 293=T 293:=by kernel_rfl
theorem JOJ:tdOf Tryz.prog 294=T 294:=by kernel_rfl
theorem JOI:tdOf Tryz.prog 310=T 310:=by kernel_rfl
theorem JOH:tdOf Tryz.prog 313=T 313:=by kernel_rfl
theorem JOG:tdOf Tryz.prog 320=T 320:=by kernel_rfl
theorem JOF:tdOf Tryz.prog 322=T 322:=by kernel_rfl
theorem JOE:tdOf Tryz.prog 325=T 325:=by kernel_rfl
theorem JOD:tdOf Tryz.prog 329=T 329:=by kernel_rfl
theorem JOC:tdOf Tryz.prog 337=T 337:=by kernel_rfl
theorem JOB:tdOf Tryz.prog 352=T 352:=by kernel_rfl
theorem JOA:tdOf Tryz.prog 356=T 356:=by kernel_rfl
theorem JO9:tdOf Tryz.prog 366=T 366:=by kernel_rfl
theorem JO8:tdOf Tryz.prog 373=T 373:=by kernel_rfl
theorem JO7:tdOf Tryz.prog 377=T 377:=by kernel_rfl
theorem JO6:tdOf Tryz.prog 385=T 385:=by kernel_rfl
theorem JO5:tdOf Tryz.prog 389=T 389:=by kernel_rfl
theorem JO4:tdOf Tryz.prog 391=T 391:=by kernel_rfl
theorem JO3:tdOf Tryz.prog 417=T 417:=by kernel_rfl
theorem JO2:tdOf Tryz.prog 419=T 419:=by kernel_rfl
theorem JO1:tdOf Tryz.prog 420=T 420:=by kernel_rfl
theorem J4j:TOk Tryz.prog T:=by
 intro t d h;unfold T at h;split at h
 ·cases h;exact T_2
 ·cases h;exact T_3
 ·cases h;exact T_4
 ·cases h;exact T_5
 ·cases h;exact T_9
 ·cases h;exact JPS
 ·cases h;exact JPR
 ·cases h;exact JPQ
 ·cases h;exact JPP
 ·cases h;exact JPO
 ·cases h;exact JPN
 ·cases h;exact JPM
 ·cases h;exact JPL
 ·cases h;exact JPK
 ·cases h;exact JPJ
 ·cases h;exact JPI
 ·cases h;exact JPH
 ·cases h;exact JPG
 ·cases h;exact JPF
 ·cases h;exact JPE
 ·cases h;exact JPD
 ·cases h;exact JPC
 ·cases h;exact JPB
 ·cases h;exact JPA
 ·cases h;exact JP9
 ·cases h;exact JP8
 ·cases h;exact JP7
 ·cases h;exact JP6
 ·cases h;exact JP0
 ·cases h;exact JOz
 ·cases h;exact JOy
 ·cases h;exact JOx
 ·cases h;exact JOw
 ·cases h;exact JOv
 ·cases h;exact JOu
 ·cases h;exact JOt
 ·cases h;exact JOs
 ·cases h;exact JOr
 ·cases h;exact JOq
 ·cases h;exact JOp
 ·cases h;exact JOo
 ·cases h;exact JOn
 ·cases h;exact JOm
 ·cases h;exact JOl
 ·cases h;exact JOk
 ·cases h;exact JOj
 ·cases h;exact JOi
 ·cases h;exact JOh
 ·cases h;exact JOg
 ·cases h;exact JOf
 ·cases h;exact JOe
 ·cases h;exact JOd
 ·cases h;exact JOc
 ·cases h;exact JOb
 ·cases h;exact JOa
 ·cases h;exact JOZ
 ·cases h;exact JOY
 ·cases h;exact JOX
 ·cases h;exact JOW
 ·cases h;exact JOV
 ·cases h;exact JOU
 ·cases h;exact JOT
 ·cases h;exact JOS
 ·cases h;exact JOR
 ·cases h;exact JOQ
 ·cases h;exact JOP
 ·cases h;exact JOO
 ·cases h;exact JON
 ·cases h;exact JOM
 ·cases h;exact JOL
 ·cases h;exact JOK
 ·cases h;exact JOJ
 ·cases h;exact JOI
 ·cases h;exact JOH
 ·cases h;exact JOG
 ·cases h;exact JOF
 ·cases h;exact JOE
 ·cases h;exact JOD
 ·cases h;exact JOC
 ·cases h;exact JOB
 ·cases h;exact JOA
 ·cases h;exact JO9
 ·cases h;exact JO8
 ·cases h;exact JO7
 ·cases h;exact JO6
 ·cases h;exact JO5
 ·cases h;exact JO4
 ·cases h;exact JO3
 ·cases h;exact JO2
 ·cases h;exact JO1
 ·cases h
noncomputable def E (base:Nat):En:=⟨Tryz.prog,T,base⟩
abbrev CPK (n:Nat):Prop:=J06 Tryz.prog n
theorem cKK {n:Nat}{f:Func}(h:Tryz.prog.funcs[n]?=some f)(a:(f.name == "runtime.NumGoroutine")=false:=by kernel_rfl)(b:f.body.isSome=true:=by kernel_rfl):J06 Tryz.prog n:=⟨_,h,a,b⟩
theorem c3:CPK 3:=cKK Tryz.func3
theorem c4:CPK 4:=cKK Tryz.func4
theorem c29:CPK 29:=cKK Tryz.func29
theorem c35:CPK 35:=cKK Tryz.func35
theorem c36:CPK 36:=cKK Tryz.func36
theorem c37:CPK 37:=cKK Tryz.func37
theorem c38:CPK 38:=cKK Tryz.func38
theorem c39:CPK 39:=cKK Tryz.func39
theorem c40:CPK 40:=cKK Tryz.func40
theorem c41:CPK 41:=cKK Tryz.func41
theorem c44:CPK 44:=cKK Tryz.func44
theorem c50:CPK 50:=cKK Tryz.func50
theorem c51:CPK 51:=cKK Tryz.func51
theorem c53:CPK 53:=cKK Tryz.func53
theorem c54:CPK 54:=cKK Tryz.func54
theorem c55:CPK 55:=cKK Tryz.func55
theorem c76:CPK 76:=cKK Tryz.func76
theorem c81:CPK 81:=cKK Tryz.func81
theorem c84:CPK 84:=cKK Tryz.func84
theorem c85:CPK 85:=cKK Tryz.func85
theorem c88:CPK 88:=cKK Tryz.func88
theorem c89:CPK 89:=cKK Tryz.func89
theorem c93:CPK 93:=cKK Tryz.func93
theorem c94:CPK 94:=cKK Tryz.func94
theorem c95:CPK 95:=cKK Tryz.func95
theorem c96:CPK 96:=cKK Tryz.func96
theorem c97:CPK 97:=cKK Tryz.func97
theorem c98:CPK 98:=cKK Tryz.func98
theorem c99:CPK 99:=cKK Tryz.func99
theorem c100:CPK 100:=cKK Tryz.func100
theorem c101:CPK 101:=cKK Tryz.func101
theorem c102:CPK 102:=cKK Tryz.func102
theorem c103:CPK 103:=cKK Tryz.func103
theorem c104:CPK 104:=cKK Tryz.func104
theorem c105:CPK 105:=cKK Tryz.func105
theorem c106:CPK 106:=cKK Tryz.func106
theorem c107:CPK 107:=cKK Tryz.func107
theorem c108:CPK 108:=cKK Tryz.func108
theorem c110:CPK 110:=cKK Tryz.func110
theorem c111:CPK 111:=cKK Tryz.func111
theorem c112:CPK 112:=cKK Tryz.func112
theorem c113:CPK 113:=cKK Tryz.func113
theorem c116:CPK 116:=cKK Tryz.func116
theorem c120:CPK 120:=cKK Tryz.func120
theorem c124:CPK 124:=cKK Tryz.func124
theorem c128:CPK 128:=cKK Tryz.func128
theorem c129:CPK 129:=cKK Tryz.func129
theorem c130:CPK 130:=cKK Tryz.func130
theorem c132:CPK 132:=cKK Tryz.func132
theorem c147:CPK 147:=cKK Tryz.func147
theorem c153:CPK 153:=cKK Tryz.func153
theorem c154:CPK 154:=cKK Tryz.func154
theorem c157:CPK 157:=cKK Tryz.func157
theorem c158:CPK 158:=cKK Tryz.func158
theorem c160:CPK 160:=cKK Tryz.func160
theorem c161:CPK 161:=cKK Tryz.func161
theorem c162:CPK 162:=cKK Tryz.func162
theorem c163:CPK 163:=cKK Tryz.func163
theorem c164:CPK 164:=cKK Tryz.func164
theorem c165:CPK 165:=cKK Tryz.func165
theorem c166:CPK 166:=cKK Tryz.func166
theorem c167:CPK 167:=cKK Tryz.func167
theorem c168:CPK 168:=cKK Tryz.func168
theorem c169:CPK 169:=cKK Tryz.func169
theorem c170:CPK 170:=cKK Tryz.func170
theorem c175:CPK 175:=cKK Tryz.func175
theorem c176:CPK 176:=cKK Tryz.func176
theorem c177:CPK 177:=cKK Tryz.func177
theorem c178:CPK 178:=cKK Tryz.func178
theorem c179:CPK 179:=cKK Tryz.func179
theorem c180:CPK 180:=cKK Tryz.func180
theorem c181:CPK 181:=cKK Tryz.func181
theorem c182:CPK 182:=cKK Tryz.func182
theorem c183:CPK 183:=cKK Tryz.func183
theorem c184:CPK 184:=cKK Tryz.func184
theorem c185:CPK 185:=cKK Tryz.func185
theorem c186:CPK 186:=cKK Tryz.func186
theorem c187:CPK 187:=cKK Tryz.func187
theorem c188:CPK 188:=cKK Tryz.func188
theorem c189:CPK 189:=cKK Tryz.func189
theorem c190:CPK 190:=cKK Tryz.func190
theorem c191:CPK 191:=cKK Tryz.func191
theorem c192:CPK 192:=cKK Tryz.func192
theorem c193:CPK 193:=cKK Tryz.func193
theorem c194:CPK 194:=cKK Tryz.func194
theorem c195:CPK 195:=cKK Tryz.func195
theorem c196:CPK 196:=cKK Tryz.func196
theorem c197:CPK 197:=cKK Tryz.func197
theorem c198:CPK 198:=cKK Tryz.func198
theorem c199:CPK 199:=cKK Tryz.func199
theorem c200:CPK 200:=cKK Tryz.func200
theorem c201:CPK 201:=cKK Tryz.func201
theorem c202:CPK 202:=cKK Tryz.func202
theorem c203:CPK 203:=cKK Tryz.func203
theorem c204:CPK 204:=cKK Tryz.func204
theorem c205:CPK 205:=cKK Tryz.func205
theorem c206:CPK 206:=cKK Tryz.func206
theorem c207:CPK 207:=cKK Tryz.func207
theorem c208:CPK 208:=cKK Tryz.func208
theorem c209:CPK 209:=cKK Tryz.func209
theorem c210:CPK 210:=cKK Tryz.func210
theorem c211:CPK 211:=cKK Tryz.func211
theorem c212:CPK 212:=cKK Tryz.func212
theorem c213:CPK 213:=cKK Tryz.func213
theorem c214:CPK 214:=cKK Tryz.func214
theorem c215:CPK 215:=cKK Tryz.func215
theorem c216:CPK 216:=cKK Tryz.func216
theorem c217:CPK 217:=cKK Tryz.func217
theorem c218:CPK 218:=cKK Tryz.func218
theorem c223:CPK 223:=cKK Tryz.func223
theorem c224:CPK 224:=cKK Tryz.func224
theorem c225:CPK 225:=cKK Tryz.func225
theorem c226:CPK 226:=cKK Tryz.func226
theorem c227:CPK 227:=cKK Tryz.func227
theorem c228:CPK 228:=cKK Tryz.func228
theorem c229:CPK 229:=cKK Tryz.func229
theorem c230:CPK 230:=cKK Tryz.func230
theorem c231:CPK 231:=cKK Tryz.func231
theorem c232:CPK 232:=cKK Tryz.func232
theorem c233:CPK 233:=cKK Tryz.func233
theorem c234:CPK 234:=cKK Tryz.func234
theorem c235:CPK 235:=cKK Tryz.func235
theorem c236:CPK 236:=cKK Tryz.func236
theorem c238:CPK 238:=cKK Tryz.func238
theorem c240:CPK 240:=cKK Tryz.func240
theorem c241:CPK 241:=cKK Tryz.func241
theorem c242:CPK 242:=cKK Tryz.func242
theorem c243:CPK 243:=cKK Tryz.func243
theorem c244:CPK 244:=cKK Tryz.func244
theorem c245:CPK 245:=cKK Tryz.func245
theorem c246:CPK 246:=cKK Tryz.func246
theorem c247:CPK 247:=cKK Tryz.func247
theorem c248:CPK 248:=cKK Tryz.func248
theorem c258:CPK 258:=cKK Tryz.func258
theorem c259:CPK 259:=cKK Tryz.func259
theorem c263:CPK 263:=cKK Tryz.func263
theorem c264:CPK 264:=cKK Tryz.func264
theorem c265:CPK 265:=cKK Tryz.func265
theorem c266:CPK 266:=cKK Tryz.func266
theorem c267:CPK 267:=cKK Tryz.func267
theorem c268:CPK 268:=cKK Tryz.func268
theorem c269:CPK 269:=cKK Tryz.func269
theorem c272:CPK 272:=cKK Tryz.func272
theorem c273:CPK 273:=cKK Tryz.func273
theorem c274:CPK 274:=cKK Tryz.func274
theorem c275:CPK 275:=cKK Tryz.func275
theorem c276:CPK 276:=cKK Tryz.func276
theorem c277:CPK 277:=cKK Tryz.func277
theorem c278:CPK 278:=cKK Tryz.func278
theorem c279:CPK 279:=cKK Tryz.func279
theorem c280:CPK 280:=cKK Tryz.func280
theorem c281:CPK 281:=cKK Tryz.func281
theorem c282:CPK 282:=cKK Tryz.func282
theorem c283:CPK 283:=cKK Tryz.func283
theorem c284:CPK 284:=cKK Tryz.func284
theorem c285:CPK 285:=cKK Tryz.func285
theorem c286:CPK 286:=cKK Tryz.func286
theorem c287:CPK 287:=cKK Tryz.func287
theorem c288:CPK 288:=cKK Tryz.func288
theorem c289:CPK 289:=cKK Tryz.func289
theorem c290:CPK 290:=cKK Tryz.func290
theorem c291:CPK 291:=cKK Tryz.func291
theorem c292:CPK 292:=cKK Tryz.func292
theorem c293:CPK 293:=cKK Tryz.func293
theorem c294:CPK 294:=cKK Tryz.func294
theorem c295:CPK 295:=cKK Tryz.func295
theorem c296:CPK 296:=cKK Tryz.func296
theorem c297:CPK 297:=cKK Tryz.func297
theorem c298:CPK 298:=cKK Tryz.func298
theorem c299:CPK 299:=cKK Tryz.func299
theorem c300:CPK 300:=cKK Tryz.func300
theorem c301:CPK 301:=cKK Tryz.func301
theorem c302:CPK 302:=cKK Tryz.func302
theorem c303:CPK 303:=cKK Tryz.func303
theorem c304:CPK 304:=cKK Tryz.func304
theorem c305:CPK 305:=cKK Tryz.func305
theorem c306:CPK 306:=cKK Tryz.func306
theorem c307:CPK 307:=cKK Tryz.func307
theorem c309:CPK 309:=cKK Tryz.func309
theorem c310:CPK 310:=cKK Tryz.func310
theorem c311:CPK 311:=cKK Tryz.func311
theorem c312:CPK 312:=cKK Tryz.func312
theorem c313:CPK 313:=cKK Tryz.func313
theorem c314:CPK 314:=cKK Tryz.func314
theorem c315:CPK 315:=cKK Tryz.func315
theorem c316:CPK 316:=cKK Tryz.func316
theorem c317:CPK 317:=cKK Tryz.func317
theorem c318:CPK 318:=cKK Tryz.func318
theorem c319:CPK 319:=cKK Tryz.func319
theorem c320:CPK 320:=cKK Tryz.func320
theorem c321:CPK 321:=cKK Tryz.func321
theorem c322:CPK 322:=cKK Tryz.func322
theorem c323:CPK 323:=cKK Tryz.func323
theorem c324:CPK 324:=cKK Tryz.func324
theorem c325:CPK 325:=cKK Tryz.func325
theorem c331:CPK 331:=cKK Tryz.func331
theorem c332:CPK 332:=cKK Tryz.func332
theorem c333:CPK 333:=cKK Tryz.func333
theorem c334:CPK 334:=cKK Tryz.func334
theorem c335:CPK 335:=cKK Tryz.func335
theorem c336:CPK 336:=cKK Tryz.func336
theorem c337:CPK 337:=cKK Tryz.func337
theorem c338:CPK 338:=cKK Tryz.func338
theorem c339:CPK 339:=cKK Tryz.func339
theorem c340:CPK 340:=cKK Tryz.func340
theorem c341:CPK 341:=cKK Tryz.func341
theorem c345:CPK 345:=cKK Tryz.func345
theorem c346:CPK 346:=cKK Tryz.func346
theorem c347:CPK 347:=cKK Tryz.func347
theorem c349:CPK 349:=cKK Tryz.func349
theorem c350:CPK 350:=cKK Tryz.func350
theorem c351:CPK 351:=cKK Tryz.func351
theorem c354:CPK 354:=cKK Tryz.func354
theorem c355:CPK 355:=cKK Tryz.func355
theorem c358:CPK 358:=cKK Tryz.func358
theorem c359:CPK 359:=cKK Tryz.func359
theorem c363:CPK 363:=cKK Tryz.func363
theorem c364:CPK 364:=cKK Tryz.func364
theorem c365:CPK 365:=cKK Tryz.func365
theorem c366:CPK 366:=cKK Tryz.func366
theorem c367:CPK 367:=cKK Tryz.func367
theorem c368:CPK 368:=cKK Tryz.func368
theorem c370:CPK 370:=cKK Tryz.func370
theorem c372:CPK 372:=cKK Tryz.func372
theorem c375:CPK 375:=cKK Tryz.func375
theorem c376:CPK 376:=cKK Tryz.func376
theorem c377:CPK 377:=cKK Tryz.func377
theorem c378:CPK 378:=cKK Tryz.func378
theorem c379:CPK 379:=cKK Tryz.func379
theorem c380:CPK 380:=cKK Tryz.func380
theorem c381:CPK 381:=cKK Tryz.func381
theorem c382:CPK 382:=cKK Tryz.func382
theorem c389:CPK 389:=cKK Tryz.func389
theorem c390:CPK 390:=cKK Tryz.func390
theorem c391:CPK 391:=cKK Tryz.func391
theorem c392:CPK 392:=cKK Tryz.func392
theorem c393:CPK 393:=cKK Tryz.func393
theorem c394:CPK 394:=cKK Tryz.func394
theorem c395:CPK 395:=cKK Tryz.func395
theorem c396:CPK 396:=cKK Tryz.func396
theorem c399:CPK 399:=cKK Tryz.func399
theorem JMh (b:Nat):DOk (E b) (DH (E b)):=JP4 J4j (by rfl)
end Go.Proofs.YtlhdoekgipaihaaGreatDoor
