/- Part 45 of the proof. -/
import Derived.Test.YtlblbldolhiokaaGreatDoorProg
import Derived.Test.YtlblbldolhiokaaGreatDoorType37
import Derived.Test.YtlblbldolhiokaaGreatDoorType44
import Derived.KernelRfl
set_option linter.unusedVariables false
set_option linter.unusedSimpArgs false
set_option linter.unusedSectionVars false
set_option maxRecDepth 100000
set_option exponentiation.threshold 400
set_option maxHeartbeats 8000000
namespace Go.Proofs.YtlblbldolhiokaaGreatDoor
open Go Go.Fw
def T:Nat→Option TD
 |2=>some ⟨1,8,[.int .i64 0],.int .i64⟩
 |3=>some ⟨1,8,[.int .i64 0],.int .i64⟩
 |4=>some ⟨1,1,[.bool false],.bool⟩
 |5=>some ⟨1,1,[.int .u8 0],.int .u8⟩
 |9=>some ⟨1,16,[.string ⟨#[]⟩],.str⟩
 |21=>some ⟨1,4,[.int .i32 0],.int .i32⟩
 |22=>some ⟨1,24,[.slice none 0 0],.slice 89⟩
 |23=>some ⟨1,24,[.slice none 0 0],.slice 58⟩
 |24=>some ⟨1,24,[.slice none 0 0],.slice 228⟩
 |26=>some ⟨4,96,[.slice none 0 0,.slice none 0 0,.slice none 0 0,.slice none 0 0],.struct [(0,22),(1,23),(2,23),(3,24)]⟩
 |27=>some ⟨1,24,[.slice none 0 0],.slice 29⟩
 |29=>some ⟨4,64,[.string ⟨#[]⟩,.string ⟨#[]⟩,.int .i64 0,.slice none 0 0],.struct [(0,9),(1,9),(2,3),(3,27)]⟩
 |30=>some ⟨1,24,[.slice none 0 0],.slice 54⟩
 |31=>some ⟨1,24,[.slice none 0 0],.slice 82⟩
 |33=>some ⟨3,48,[.string ⟨#[]⟩,.bool false,.slice none 0 0],.struct [(0,9),(1,4),(2,31)]⟩
 |36=>some ⟨1,8,[.int .i64 0],.int .i64⟩
 |39=>some ⟨1,24,[.slice none 0 0],.slice 9⟩
 |54=>some ⟨3,32,[.string ⟨#[]⟩,.int .i64 0,.bool false],.struct [(0,9),(1,3),(2,4)]⟩
 |58=>some ⟨9,144,[.string ⟨#[]⟩,.string ⟨#[]⟩,.string ⟨#[]⟩,.int .i64 0,.slice none 0 0,.string ⟨#[]⟩,.string ⟨#[]⟩,.int .i64 0,.slice none 0 0],.struct [(0,9),(1,29),(5,29)]⟩
 |82=>some ⟨4,48,[.string ⟨#[]⟩,.int .i64 0,.bool false,.string ⟨#[]⟩],.struct [(0,54),(3,9)]⟩
 |89=>some ⟨7,88,[.string ⟨#[]⟩,.int .i64 0,.int .i64 0,.string ⟨#[]⟩,.string ⟨#[]⟩,.bool false,.string ⟨#[]⟩],.struct [(0,9),(1,3),(2,3),(3,9),(4,9),(5,4),(6,9)]⟩
 |96=>some ⟨1,8,[.pointer none],.ptr⟩
 |99=>some ⟨1,24,[.slice none 0 0],.slice 104⟩
 |100=>some ⟨1,24,[.slice none 0 0],.slice 285⟩
 |102=>some ⟨2,32,[.bool false,.slice none 0 0],.struct [(0,4),(1,100)]⟩
 |104=>some ⟨4,64,[.bool false,.slice none 0 0,.bool false,.slice none 0 0],.struct [(0,102),(2,102)]⟩
 |106=>some ⟨5,88,[.slice none 0 0,.bool false,.slice none 0 0,.bool false,.slice none 0 0],.struct [(0,99),(1,104)]⟩
 |109=>some ⟨1,8,[.map none],.map 9 89⟩
 |112=>some ⟨3,40,[.map none,.slice none 0 0,.pointer none],.struct [(0,109),(1,30),(2,96)]⟩
 |116=>some ⟨1,8,[.nilFunc],.func⟩
 |118=>some ⟨1,24,[.slice none 0 0],.slice 121⟩
 |119=>some ⟨1,24,[.slice none 0 0],.slice 3⟩
 |121=>some ⟨3,56,[.bool false,.slice none 0 0,.slice none 0 0],.struct [(0,4),(1,119),(2,119)]⟩
 |123=>some ⟨4,80,[.slice none 0 0,.bool false,.slice none 0 0,.slice none 0 0],.struct [(0,118),(1,121)]⟩
 |131=>some ⟨1,8,[.nilFunc],.func⟩
 |136=>some ⟨1,8,[.nilFunc],.func⟩
 |142=>some ⟨1,8,[.pointer none],.ptr⟩
 |143=>some ⟨1,24,[.slice none 0 0],.slice 142⟩
 |144=>some ⟨1,8,[.map none],.map 9 3⟩
 |148=>some ⟨6,72,[.bool false,.slice none 0 0,.bool false,.slice none 0 0,.bool false,.bool false],.struct [(0,104),(4,4),(5,4)]⟩
 |153=>some ⟨1,24,[.slice none 0 0],.slice 148⟩
 |158=>some ⟨1,8,[.nilFunc],.func⟩
 |163=>some ⟨1,8,[.nilFunc],.func⟩
 |164=>some ⟨1,8,[.nilFunc],.func⟩
 |169=>some ⟨1,8,[.map none],.map 54 4⟩
 |192=>some ⟨9,152,[.slice none 0 0,.bool false,.slice none 0 0,.bool false,.slice none 0 0,.bool false,.slice none 0 0,.bool false,.slice none 0 0],.struct [(0,106),(5,104)]⟩
 |200=>some ⟨5,64,[.bool false,.bool false,.bool false,.slice none 0 0,.slice none 0 0],.struct [(0,4),(1,4),(2,121)]⟩
 |223=>some ⟨1,8,[.nilFunc],.func⟩
 |226=>some ⟨1,24,[.slice none 0 0],.slice 260⟩
 |228=>some ⟨6,104,[.string ⟨#[]⟩,.string ⟨#[]⟩,.string ⟨#[]⟩,.int .i64 0,.slice none 0 0,.slice none 0 0],.struct [(0,9),(1,29),(5,226)]⟩
 |229=>some ⟨1,8,[.nilFunc],.func⟩
 |230=>some ⟨1,8,[.map none],.map 9 235⟩
 |235=>some ⟨1,8,[.nilFunc],.func⟩
 |239=>some ⟨1,8,[.int .u64 0],.int .u64⟩
 |249=>some ⟨3,16,[.int .i64 0,.bool false,.bool false],.struct [(0,3),(1,4),(2,4)]⟩
 |250=>some ⟨1,8,[.map none],.map 9 249⟩
 |258=>some ⟨1,24,[.slice none 0 0],.slice 23⟩
 |260=>some ⟨6,88,[.int .i64 0,.string ⟨#[]⟩,.string ⟨#[]⟩,.string ⟨#[]⟩,.int .i64 0,.slice none 0 0],.struct [(0,3),(1,9),(2,29)]⟩
 |267=>some ⟨1,8,[.map none],.map 54 148⟩
 |269=>some ⟨6,80,[.bool false,.slice none 0 0,.bool false,.slice none 0 0,.bool false,.map none],.struct [(0,104),(4,4),(5,267)]⟩
 |270=>some ⟨1,24,[.slice none 0 0],.slice 192⟩
 |274=>some ⟨1,8,[.int .u64 0],.int .u64⟩
 |283=>some ⟨1,24,[.slice none 0 0],.slice 5⟩
 |285=>some ⟨1,4,[.int .u32 0],.int .u32⟩
 |292=>some ⟨1,8,[.nilFunc],.func⟩
 |295=>some ⟨1,8,[.nilFunc],.func⟩
 |297=>some ⟨1,8,[.nilFunc],.func⟩
 |299=>some ⟨1,8,[.nilFunc],.func⟩
 |302=>some ⟨1,8,[.map none],.map 9 4⟩
 |311=>some ⟨1,8,[.nilFunc],.func⟩
 |312=>some ⟨1,8,[.pointer none],.ptr⟩
 |314=>some ⟨2,32,[.pointer none,.slice none 0 0],.struct [(0,312),(1,283)]⟩
 |334=>some ⟨9,9,[.int .u8 0,.int .u8 0,.int .u8 0,.int .u8 0,.int .u8 0,.int .u8 0,.int .u8 0,.int .u8 0,.int .u8 0],.array 9 5⟩
 |348=>some ⟨1,8,[.nilFunc],.func⟩
 |350=>some ⟨1,24,[.slice none 0 0],.slice 388⟩
 |355=>some ⟨1,8,[.pointer none],.ptr⟩
 |358=>some ⟨1,8,[.int .i64 0],.int .i64⟩
 |372=>some ⟨256,256,List.replicate 256 (.bool false),.array 256 4⟩
 |376=>some ⟨1,8,[.pointer none],.ptr⟩
 |384=>some ⟨1,8,[.map none],.map 9 104⟩
 |388=>some ⟨4,72,[.string ⟨#[]⟩,.bool false,.slice none 0 0,.slice none 0 0],.struct [(0,9),(1,121)]⟩
 |393=>some ⟨1,8,[.int .u64 0],.int .u64⟩
 |397=>some ⟨1,8,[.pointer none],.ptr⟩
 |415=>some ⟨256,256,List.replicate 256 (.int .u8 0),.array 256 5⟩
 |417=>some ⟨2,2,[.int .u8 0,.int .u8 0],.struct [(0,5),(1,5)]⟩
 |418=>some ⟨32,32,List.replicate 32 (.int .u8 0),.array 16 417⟩
 |_=>none
theorem T_2:tdOf Tryz.prog 2=T 2:=by kernel_rfl
theorem T_3:tdOf Tryz.prog 3=T 3:=by kernel_rfl
theorem T_4:tdOf Tryz.prog 4=T 4:=by kernel_rfl
theorem T_5:tdOf Tryz.prog 5=T 5:=by kernel_rfl
theorem T_9:tdOf Tryz.prog 9=T 9:=by kernel_rfl
theorem JPd:tdOf Tryz.prog 21=T 21:=by kernel_rfl
theorem JPc:tdOf Tryz.prog 22=T 22:=by kernel_rfl
theorem JPb:tdOf Tryz.prog 23=T 23:=by kernel_rfl
theorem JPa:tdOf Tryz.prog 24=T 24:=by kernel_rfl
theorem JPZ:tdOf Tryz.prog 26=T 26:=by kernel_rfl
theorem JPY:tdOf Tryz.prog 27=T 27:=by kernel_rfl
theorem JPX:tdOf Tryz.prog 29=T 29:=by kernel_rfl
theorem JPW:tdOf Tryz.prog 30=T 30:=by kernel_rfl
theorem JPV:tdOf Tryz.prog 31=T 31:=by kernel_rfl
theorem JPU:tdOf Tryz.prog 33=T 33:=by kernel_rfl
theorem JPT:tdOf Tryz.prog 36=T 36:=by kernel_rfl
theorem JPS:tdOf Tryz.prog 39=T 39:=by kernel_rfl
theorem JPR:tdOf Tryz.prog 54=T 54:=by kernel_rfl
theorem JPQ:tdOf Tryz.prog 58=T 58:=by kernel_rfl
theorem JPP:tdOf Tryz.prog 82=T 82:=by kernel_rfl
theorem JPO:tdOf Tryz.prog 89=T 89:=by kernel_rfl
theorem JPN:tdOf Tryz.prog 96=T 96:=by kernel_rfl
theorem JPM:tdOf Tryz.prog 99=T 99:=by kernel_rfl
theorem JPE:tdOf Tryz.prog 100=T 100:=by kernel_rfl
theorem JPD:tdOf Tryz.prog 102=T 102:=by kernel_rfl
theorem JPC:tdOf Tryz.prog 104=T 104:=by kernel_rfl
theorem JPB:tdOf Tryz.prog 106=T 106:=by kernel_rfl
theorem JPA:tdOf Tryz.prog 109=T 109:=by kernel_rfl
theorem JP9:tdOf Tryz.prog 112=T 112:=by kernel_rfl
theorem JP8:tdOf Tryz.prog 116=T 116:=by kernel_rfl
theorem JP7:tdOf Tryz.prog 118=T 118:=by kernel_rfl
theorem JP6:tdOf Tryz.prog 119=T 119:=by kernel_rfl
theorem JP5:tdOf Tryz.prog 121=T 121:=by kernel_rfl
theorem JP4:tdOf Tryz.prog 123=T 123:=by kernel_rfl
theorem JP3:tdOf Tryz.prog 131=T 131:=by kernel_rfl
theorem JP2:tdOf Tryz.prog 136=T 136:=by kernel_rfl
theorem JP1:tdOf Tryz.prog 142=T 142:=by kernel_rfl
theorem JP0:tdOf Tryz.prog 143=T 143:=by kernel_rfl
theorem JOz:tdOf Tryz.prog 144=T 144:=by kernel_rfl
theorem JOy:tdOf Tryz.prog 148=T 148:=by kernel_rfl
theorem JOx:tdOf Tryz.prog 153=T 153:=by kernel_rfl
theorem JOw:tdOf Tryz.prog 158=T 158:=by kernel_rfl
theorem JOv:tdOf Tryz.prog 163=T 163:=by kernel_rfl
theorem JOu:tdOf Tryz.prog 164=T 164:=by kernel_rfl
theorem JOt:tdOf Tryz.prog 169=T 169:=by kernel_rfl
theorem JOs:tdOf Tryz.prog 192=T 192:=by kernel_rfl
theorem JOr:tdOf Tryz.prog 200=T 200:=by kernel_rfl
theorem JOq:tdOf Tryz.prog 223=T 223:=by kernel_rfl
theorem JOp:tdOf Tryz.prog 226=T 226:=by kernel_rfl
theorem JOo:tdOf Tryz.prog 228=T 228:=by kernel_rfl
theorem JOn:tdOf Tryz.prog 229=T 229:=by kernel_rfl
theorem JOm:tdOf Tryz.prog 230=T 230:=by kernel_rfl
theorem JOl:tdOf Tryz.prog 235=T 235:=by kernel_rfl
theorem JOk:tdOf Tryz.prog 239=T 239:=by kernel_rfl
theorem JOj:tdOf Tryz.prog 249=T 249:=by kernel_rfl
theorem JOi:tdOf Tryz.prog 250=T 250:=by kernel_rfl
theorem JOh:tdOf Tryz.prog 258=T 258:=by kernel_rfl
theorem JOg:tdOf Tryz.prog 260=T 260:=by kernel_rfl
theorem JOf:tdOf Tryz.prog 267=T 267:=by kernel_rfl
theorem JOe:tdOf Tryz.prog 269=T 269:=by kernel_rfl
theorem JOd:tdOf Tryz.prog 270=T 270:=by kernel_rfl
theorem JOc:tdOf Tryz.prog 274=T 274:=by kernel_rfl
theorem JOb:tdOf Tryz.prog 283=T 283:=by kernel_rfl
theorem JOa:tdOf Tryz.prog 285=T 285:=by kernel_rfl
theorem JOZ:tdOf Tryz.prog 292=T 292:=by kernel_rfl
theorem JOY:tdOf Tryz.prog 295=T 295:=by kernel_rfl
theorem JOX:tdOf Tryz.prog 297=T 297:=by kernel_rfl
theorem JOW:tdOf Tryz.prog 299=T 299:=by kernel_rfl
theorem JOV:tdOf Tryz.prog 302=T 302:=by kernel_rfl
theorem JOU:tdOf Tryz.prog 311=T 311:=by kernel_rfl
theorem JOT:tdOf Tryz.prog 312=T 312:=by kernel_rfl
theorem JOS:tdOf Tryz.prog 314=T 314:=by kernel_rfl
theorem JOR:tdOf Tryz.prog 334=T 334:=by kernel_rfl
theorem JOQ:tdOf Tryz.prog 348=T 348:=by kernel_rfl
theorem JOP:tdOf Tryz.prog 350=T 350:=by kernel_rfl
theorem JOO:tdOf Tryz.prog 355=T 355:=by kernel_rfl
theorem JON:tdOf Tryz.prog 358=T 358:=by kernel_rfl
theorem JOM:tdOf Tryz.prog 372=T 372:=by kernel_rfl
theorem JOL:tdOf Tryz.prog 376=T 376:=by kernel_rfl
theorem JOK:tdOf Tryz.prog 384=T 384:=by kernel_rfl
theorem JOJ:tdOf Tryz.prog 388=T 388:=by kernel_rfl
theorem JOI:tdOf Tryz.prog 393=T 393:=by kernel_rfl
theorem JOH:tdOf Tryz.prog 397=T 397:=by kernel_rfl
theorem JOG:tdOf Tryz.prog 415=T 415:=by kernel_rfl
theorem JOF:tdOf Tryz.prog 417=T 417:=by kernel_rfl
theorem JOE:tdOf Tryz.prog 418=T 418:=by kernel_rfl
theorem J5C:TOk Tryz.prog T:=by
 intro t d h;unfold T at h;split at h
 ·cases h;exact T_2
 ·cases h;exact T_3
 ·cases h;exact T_4
 ·cases h;exact T_5
 ·cases h;exact T_9
 ·cases h;exact JPd
 ·cases h;exact JPc
 ·cases h;exact JPb
 ·cases h;exact JPa
 ·cases h;exact JPZ
 ·cases h;exact JPY
 ·cases h;exact JPX
 ·cases h;exact JPW
 ·cases h;exact JPV
 ·cases h;exact JPU
 ·cases h;exact JPT
 ·cases h;exact JPS
 ·cases h;exact JPR
 ·cases h;exact JPQ
 ·cases h;exact JPP
 ·cases h;exact JPO
 ·cases h;exact JPN
 ·cases h;exact JPM
 ·cases h;exact JPE
 ·cases h;exact JPD
 ·cases h;exact JPC
 ·cases h;exact JPB
 ·cases h;exact JPA
 ·cases h;exact JP9
 ·cases h;exact JP8
 ·cases h;exact JP7
 ·cases h;exact JP6
 ·cases h;exact JP5
 ·cases h;exact JP4
 ·cases h;exact JP3
 ·cases h;exact JP2
 ·cases h;exact JP1
 ·cases h;exact JP0
 ·cases h;exact JOz
 ·cases h;exact JOy
 ·cases h;exact JOx
 ·cases h;exact JOw
 ·cases h;exact JOv
 ·cases h;exact JOu
 ·cases h;exact JOt
 ·cases h;exact JOs
 ·cases h;exact JOr
 ·cases h;exact JOq
 ·cases h;exact JOp
 ·cases h;exact JOo
 ·cases h;exact JOn
 ·cases h;exact JOm
 ·cases h;exact JOl
 ·cases h;exact JOk
 ·cases h;exact JOj
 ·cases h;exact JOi
 ·cases h;exact JOh
 ·cases h;exact JOg
 ·cases h;exact JOf
 ·cases h;exact JOe
 ·cases h;exact JOd
 ·cases h;exact JOc
 ·cases h;exact JOb
 ·cases h;exact JOa
 ·cases h;exact JOZ
 ·cases h;exact JOY
 ·cases h;exact JOX
 ·cases h;exact JOW
 ·cases h;exact JOV
 ·cases h;exact JOU
 ·cases h;exact JOT
 ·cases h;exact JOS
 ·cases h;exact JOR
 ·cases h;exact JOQ
 ·cases h;exact JOP
 ·cases h;exact JOO
 ·cases h;exact JON
 ·cases h;exact JOM
 ·cases h;exact JOL
 ·cases h;exact JOK
 ·cases h;exact JOJ
 ·cases h;exact JOI
 ·cases h;exact JOH
 ·cases h;exact JOG
 ·cases h;exact JOF
 ·cases h;exact JOE
 ·cases h
noncomputable def E (base:Nat):En:=⟨Tryz.prog,T,base⟩
abbrev CPK (n:Nat):Prop:=J05 Tryz.prog n
theorem cKK {n:Nat}{f:Func}(h:Tryz.prog.funcs[n]?=some f)(a:(f.name == "runtime.NumGoroutine")=false:=by kernel_rfl)(b:f.body.isSome=true:=by kernel_rfl):J05 Tryz.prog n:=⟨_,h,a,b⟩
theorem c3:CPK 3:=cKK Tryz.func3
theorem c4:CPK 4:=cKK Tryz.func4
theorem c22:CPK 22:=cKK Tryz.func22
theorem c36:CPK 36:=cKK Tryz.func36
theorem c38:CPK 38:=cKK Tryz.func38
theorem c40:CPK 40:=cKK Tryz.func40
theorem c46:CPK 46:=cKK Tryz.func46
theorem c48:CPK 48:=cKK Tryz.func48
theorem c49:CPK 49:=cKK Tryz.func49
theorem c50:CPK 50:=cKK Tryz.func50
theorem c51:CPK 51:=cKK Tryz.func51
theorem c52:CPK 52:=cKK Tryz.func52
theorem c67:CPK 67:=cKK Tryz.func67
theorem c76:CPK 76:=cKK Tryz.func76
theorem c79:CPK 79:=cKK Tryz.func79
theorem c80:CPK 80:=cKK Tryz.func80
theorem c81:CPK 81:=cKK Tryz.func81
theorem c83:CPK 83:=cKK Tryz.func83
theorem c84:CPK 84:=cKK Tryz.func84
theorem c87:CPK 87:=cKK Tryz.func87
theorem c89:CPK 89:=cKK Tryz.func89
theorem c90:CPK 90:=cKK Tryz.func90
theorem c93:CPK 93:=cKK Tryz.func93
theorem c94:CPK 94:=cKK Tryz.func94
theorem c99:CPK 99:=cKK Tryz.func99
theorem c100:CPK 100:=cKK Tryz.func100
theorem c101:CPK 101:=cKK Tryz.func101
theorem c102:CPK 102:=cKK Tryz.func102
theorem c103:CPK 103:=cKK Tryz.func103
theorem c111:CPK 111:=cKK Tryz.func111
theorem c112:CPK 112:=cKK Tryz.func112
theorem c116:CPK 116:=cKK Tryz.func116
theorem c118:CPK 118:=cKK Tryz.func118
theorem c119:CPK 119:=cKK Tryz.func119
theorem c120:CPK 120:=cKK Tryz.func120
theorem c121:CPK 121:=cKK Tryz.func121
theorem c122:CPK 122:=cKK Tryz.func122
theorem c123:CPK 123:=cKK Tryz.func123
theorem c124:CPK 124:=cKK Tryz.func124
theorem c125:CPK 125:=cKK Tryz.func125
theorem c126:CPK 126:=cKK Tryz.func126
theorem c127:CPK 127:=cKK Tryz.func127
theorem c128:CPK 128:=cKK Tryz.func128
theorem c129:CPK 129:=cKK Tryz.func129
theorem c131:CPK 131:=cKK Tryz.func131
theorem c132:CPK 132:=cKK Tryz.func132
theorem c133:CPK 133:=cKK Tryz.func133
theorem c134:CPK 134:=cKK Tryz.func134
theorem c141:CPK 141:=cKK Tryz.func141
theorem c142:CPK 142:=cKK Tryz.func142
theorem c145:CPK 145:=cKK Tryz.func145
theorem c146:CPK 146:=cKK Tryz.func146
theorem c147:CPK 147:=cKK Tryz.func147
theorem c149:CPK 149:=cKK Tryz.func149
theorem c150:CPK 150:=cKK Tryz.func150
theorem c151:CPK 151:=cKK Tryz.func151
theorem c152:CPK 152:=cKK Tryz.func152
theorem c153:CPK 153:=cKK Tryz.func153
theorem c158:CPK 158:=cKK Tryz.func158
theorem c159:CPK 159:=cKK Tryz.func159
theorem c160:CPK 160:=cKK Tryz.func160
theorem c165:CPK 165:=cKK Tryz.func165
theorem c166:CPK 166:=cKK Tryz.func166
theorem c167:CPK 167:=cKK Tryz.func167
theorem c168:CPK 168:=cKK Tryz.func168
theorem c169:CPK 169:=cKK Tryz.func169
theorem c170:CPK 170:=cKK Tryz.func170
theorem c171:CPK 171:=cKK Tryz.func171
theorem c174:CPK 174:=cKK Tryz.func174
theorem c175:CPK 175:=cKK Tryz.func175
theorem c176:CPK 176:=cKK Tryz.func176
theorem c177:CPK 177:=cKK Tryz.func177
theorem c178:CPK 178:=cKK Tryz.func178
theorem c179:CPK 179:=cKK Tryz.func179
theorem c180:CPK 180:=cKK Tryz.func180
theorem c181:CPK 181:=cKK Tryz.func181
theorem c182:CPK 182:=cKK Tryz.func182
theorem c183:CPK 183:=cKK Tryz.func183
theorem c184:CPK 184:=cKK Tryz.func184
theorem c185:CPK 185:=cKK Tryz.func185
theorem c186:CPK 186:=cKK Tryz.func186
theorem c187:CPK 187:=cKK Tryz.func187
theorem c188:CPK 188:=cKK Tryz.func188
theorem c189:CPK 189:=cKK Tryz.func189
theorem c190:CPK 190:=cKK Tryz.func190
theorem c191:CPK 191:=cKK Tryz.func191
theorem c193:CPK 193:=cKK Tryz.func193
theorem c194:CPK 194:=cKK Tryz.func194
theorem c195:CPK 195:=cKK Tryz.func195
theorem c198:CPK 198:=cKK Tryz.func198
theorem c199:CPK 199:=cKK Tryz.func199
theorem c200:CPK 200:=cKK Tryz.func200
theorem c201:CPK 201:=cKK Tryz.func201
theorem c202:CPK 202:=cKK Tryz.func202
theorem c203:CPK 203:=cKK Tryz.func203
theorem c204:CPK 204:=cKK Tryz.func204
theorem c205:CPK 205:=cKK Tryz.func205
theorem c206:CPK 206:=cKK Tryz.func206
theorem c207:CPK 207:=cKK Tryz.func207
theorem c208:CPK 208:=cKK Tryz.func208
theorem c209:CPK 209:=cKK Tryz.func209
theorem c210:CPK 210:=cKK Tryz.func210
theorem c211:CPK 211:=cKK Tryz.func211
theorem c212:CPK 212:=cKK Tryz.func212
theorem c213:CPK 213:=cKK Tryz.func213
theorem c214:CPK 214:=cKK Tryz.func214
theorem c215:CPK 215:=cKK Tryz.func215
theorem c216:CPK 216:=cKK Tryz.func216
theorem c217:CPK 217:=cKK Tryz.func217
theorem c218:CPK 218:=cKK Tryz.func218
theorem c219:CPK 219:=cKK Tryz.func219
theorem c222:CPK 222:=cKK Tryz.func222
theorem c223:CPK 223:=cKK Tryz.func223
theorem c224:CPK 224:=cKK Tryz.func224
theorem c225:CPK 225:=cKK Tryz.func225
theorem c231:CPK 231:=cKK Tryz.func231
theorem c234:CPK 234:=cKK Tryz.func234
theorem c235:CPK 235:=cKK Tryz.func235
theorem c236:CPK 236:=cKK Tryz.func236
theorem c239:CPK 239:=cKK Tryz.func239
theorem c240:CPK 240:=cKK Tryz.func240
theorem c241:CPK 241:=cKK Tryz.func241
theorem c242:CPK 242:=cKK Tryz.func242
theorem c243:CPK 243:=cKK Tryz.func243
theorem c246:CPK 246:=cKK Tryz.func246
theorem c247:CPK 247:=cKK Tryz.func247
theorem c248:CPK 248:=cKK Tryz.func248
theorem c249:CPK 249:=cKK Tryz.func249
theorem c250:CPK 250:=cKK Tryz.func250
theorem c251:CPK 251:=cKK Tryz.func251
theorem c252:CPK 252:=cKK Tryz.func252
theorem c253:CPK 253:=cKK Tryz.func253
theorem c254:CPK 254:=cKK Tryz.func254
theorem c255:CPK 255:=cKK Tryz.func255
theorem c256:CPK 256:=cKK Tryz.func256
theorem c257:CPK 257:=cKK Tryz.func257
theorem c258:CPK 258:=cKK Tryz.func258
theorem c259:CPK 259:=cKK Tryz.func259
theorem c260:CPK 260:=cKK Tryz.func260
theorem c261:CPK 261:=cKK Tryz.func261
theorem c262:CPK 262:=cKK Tryz.func262
theorem c263:CPK 263:=cKK Tryz.func263
theorem c264:CPK 264:=cKK Tryz.func264
theorem c265:CPK 265:=cKK Tryz.func265
theorem c266:CPK 266:=cKK Tryz.func266
theorem c267:CPK 267:=cKK Tryz.func267
theorem c268:CPK 268:=cKK Tryz.func268
theorem c269:CPK 269:=cKK Tryz.func269
theorem c270:CPK 270:=cKK Tryz.func270
theorem c271:CPK 271:=cKK Tryz.func271
theorem c272:CPK 272:=cKK Tryz.func272
theorem c273:CPK 273:=cKK Tryz.func273
theorem c274:CPK 274:=cKK Tryz.func274
theorem c275:CPK 275:=cKK Tryz.func275
theorem c276:CPK 276:=cKK Tryz.func276
theorem c277:CPK 277:=cKK Tryz.func277
theorem c278:CPK 278:=cKK Tryz.func278
theorem c279:CPK 279:=cKK Tryz.func279
theorem c280:CPK 280:=cKK Tryz.func280
theorem c281:CPK 281:=cKK Tryz.func281
theorem c282:CPK 282:=cKK Tryz.func282
theorem c283:CPK 283:=cKK Tryz.func283
theorem c284:CPK 284:=cKK Tryz.func284
theorem c285:CPK 285:=cKK Tryz.func285
theorem c286:CPK 286:=cKK Tryz.func286
theorem c287:CPK 287:=cKK Tryz.func287
theorem c288:CPK 288:=cKK Tryz.func288
theorem c289:CPK 289:=cKK Tryz.func289
theorem c293:CPK 293:=cKK Tryz.func293
theorem c294:CPK 294:=cKK Tryz.func294
theorem c295:CPK 295:=cKK Tryz.func295
theorem c296:CPK 296:=cKK Tryz.func296
theorem c297:CPK 297:=cKK Tryz.func297
theorem c301:CPK 301:=cKK Tryz.func301
theorem c302:CPK 302:=cKK Tryz.func302
theorem c303:CPK 303:=cKK Tryz.func303
theorem c304:CPK 304:=cKK Tryz.func304
theorem c305:CPK 305:=cKK Tryz.func305
theorem c308:CPK 308:=cKK Tryz.func308
theorem c309:CPK 309:=cKK Tryz.func309
theorem c311:CPK 311:=cKK Tryz.func311
theorem c312:CPK 312:=cKK Tryz.func312
theorem c313:CPK 313:=cKK Tryz.func313
theorem c314:CPK 314:=cKK Tryz.func314
theorem c315:CPK 315:=cKK Tryz.func315
theorem c316:CPK 316:=cKK Tryz.func316
theorem c317:CPK 317:=cKK Tryz.func317
theorem c318:CPK 318:=cKK Tryz.func318
theorem c319:CPK 319:=cKK Tryz.func319
theorem c320:CPK 320:=cKK Tryz.func320
theorem c321:CPK 321:=cKK Tryz.func321
theorem c322:CPK 322:=cKK Tryz.func322
theorem c323:CPK 323:=cKK Tryz.func323
theorem c326:CPK 326:=cKK Tryz.func326
theorem c327:CPK 327:=cKK Tryz.func327
theorem c328:CPK 328:=cKK Tryz.func328
theorem c329:CPK 329:=cKK Tryz.func329
theorem c330:CPK 330:=cKK Tryz.func330
theorem c332:CPK 332:=cKK Tryz.func332
theorem c333:CPK 333:=cKK Tryz.func333
theorem c334:CPK 334:=cKK Tryz.func334
theorem c350:CPK 350:=cKK Tryz.func350
theorem c351:CPK 351:=cKK Tryz.func351
theorem c352:CPK 352:=cKK Tryz.func352
theorem c354:CPK 354:=cKK Tryz.func354
theorem c355:CPK 355:=cKK Tryz.func355
theorem c356:CPK 356:=cKK Tryz.func356
theorem c360:CPK 360:=cKK Tryz.func360
theorem c361:CPK 361:=cKK Tryz.func361
theorem c362:CPK 362:=cKK Tryz.func362
theorem c363:CPK 363:=cKK Tryz.func363
theorem c364:CPK 364:=cKK Tryz.func364
theorem c365:CPK 365:=cKK Tryz.func365
theorem c366:CPK 366:=cKK Tryz.func366
theorem c367:CPK 367:=cKK Tryz.func367
theorem c376:CPK 376:=cKK Tryz.func376
theorem c379:CPK 379:=cKK Tryz.func379
theorem c380:CPK 380:=cKK Tryz.func380
theorem c382:CPK 382:=cKK Tryz.func382
theorem c387:CPK 387:=cKK Tryz.func387
theorem c388:CPK 388:=cKK Tryz.func388
theorem c389:CPK 389:=cKK Tryz.func389
theorem c390:CPK 390:=cKK Tryz.func390
theorem c391:CPK 391:=cKK Tryz.func391
theorem c392:CPK 392:=cKK Tryz.func392
theorem c393:CPK 393:=cKK Tryz.func393
theorem c394:CPK 394:=cKK Tryz.func394
theorem c396:CPK 396:=cKK Tryz.func396
theorem c397:CPK 397:=cKK Tryz.func397
theorem c398:CPK 398:=cKK Tryz.func398
theorem c399:CPK 399:=cKK Tryz.func399
theorem c400:CPK 400:=cKK Tryz.func400
theorem c401:CPK 401:=cKK Tryz.func401
theorem c402:CPK 402:=cKK Tryz.func402
theorem c403:CPK 403:=cKK Tryz.func403
theorem c406:CPK 406:=cKK Tryz.func406
theorem JLC (b:Nat):DOk (E b) (DH (E b)):=JPJ J5C (by rfl)
end Go.Proofs.YtlblbldolhiokaaGreatDoor
