/- Part 45 of the proof. -/
import Derived.Test.YtlblbldolhiokaaGreatDoorProg
import Derived.Test.YtlblbldolhiokaaGreatDoorDual37
import Derived.Test.YtlblbldolhiokaaGreatDoorDual44
import Derived.KernelRfl
set_option linter.unusedVariables false
set_option linter.unusedSimpArgs false
set_option linter.unusedSectionVars false
set_option maxRecDepth 100000
set_option exponentiation.threshold 400
set_option maxHeartbeats 8000000
namespace Go.Proofs.YtlblbldolhiokaaGreatDoor
open Go Go.Fw
def T:Nat→Option TD
 |2=>some ⟨1,8,[.int .i64 0],.int .i64⟩
 |3=>some ⟨1,8,[.int .i64 0],.int .i64⟩
 |4=>some ⟨1,1,[.bool false],.bool⟩
 |5=>some ⟨1,1,[.int .u8 0],.int .u8⟩
 |9=>some ⟨1,16,[.string ⟨#[]⟩],.str⟩
 |21=>some ⟨1,4,[.int .i32 0],.int .i32⟩
 |22=>some ⟨1,24,[.slice none 0 0],.slice 89⟩
 |23=>some ⟨1,24,[.slice none 0 0],.slice 58⟩
 |24=>some ⟨1,24,[.slice none 0 0],.slice 228⟩
 |26=>some ⟨4,96,[.slice none 0 0,.slice none 0 0,.slice none 0 0,.slice none 0 0],.struct [(0,22),(1,23),(2,23),(3,24)]⟩
 |27=>some ⟨1,24,[.slice none 0 0],.slice 29⟩
 |29=>some ⟨4,64,[.string ⟨#[]⟩,.string ⟨#[]⟩,.int .i64 0,.slice none 0 0],.struct [(0,9),(1,9),(2,3),(3,27)]⟩
 |30=>some ⟨1,24,[.slice none 0 0],.slice 54⟩
 |31=>some ⟨1,24,[.slice none 0 0],.slice 82⟩
 |33=>some ⟨3,48,[.string ⟨#[]⟩,.bool false,.slice none 0 0],.struct [(0,9),(1,4),(2,31)]⟩
 |36=>some ⟨1,8,[.int .i64 0],.int .i64⟩
 |39=>some ⟨1,24,[.slice none 0 0],.slice 9⟩
 |54=>some ⟨3,32,[.string ⟨#[]⟩,.int .i64 0,.bool false],.struct [(0,9),(1,3),(2,4)]⟩
 |58=>some ⟨9,144,[.string ⟨#[]⟩,.string ⟨#[]⟩,.string ⟨#[]⟩,.int .i64 0,.slice none 0 0,.string ⟨#[]⟩,.string ⟨#[]⟩,.int .i64 0,.slice none 0 0],.struct [(0,9),(1,29),(5,29)]⟩
 |82=>some ⟨4,48,[.string ⟨#[]⟩,.int .i64 0,.bool false,.string ⟨#[]⟩],.struct [(0,54),(3,9)]⟩
 |89=>some ⟨7,88,[.string ⟨#[]⟩,.int .i64 0,.int .i64 0,.string ⟨#[]⟩,.string ⟨#[]⟩,.bool false,.string ⟨#[]⟩],.struct [(0,9),(1,3),(2,3),(3,9),(4,9),(5,4),(6,9)]⟩
 |96=>some ⟨1,8,[.pointer none],.ptr⟩
 |99=>some ⟨1,24,[.slice none 0 0],.slice 104⟩
 |100=>some ⟨1,24,[.slice none 0 0],.slice 285⟩
 |102=>some ⟨2,32,[.bool false,.slice none 0 0],.struct [(0,4),(1,100)]⟩
 |104=>some ⟨4,64,[.bool false,.slice none 0 0,.bool false,.slice none 0 0],.struct [(0,102),(2,102)]⟩
 |106=>some ⟨5,88,[.slice none 0 0,.bool false,.slice none 0 0,.bool false,.slice none 0 0],.struct [(0,99),(1,104)]⟩
 |109=>some ⟨1,8,[.map none],.map 9 89⟩
 |112=>some ⟨3,40,[.map none,.slice none 0 0,.pointer none],.struct [(0,109),(1,30),(2,96)]⟩
 |116=>some ⟨1,8,[.nilFunc],.func⟩
 |118=>some ⟨1,24,[.slice none 0 0],.slice 121⟩
 |119=>some ⟨1,24,[.slice none 0 0],.slice 3⟩
 |121=>some ⟨3,56,[.bool false,.slice none 0 0,.slice none 0 0],.struct [(0,4),(1,119),(2,119)]⟩
 |123=>some ⟨4,80,[.slice none 0 0,.bool false,.slice none 0 0,.slice none 0 0],.struct [(0,118),(1,121)]⟩
 |131=>some ⟨1,8,[.nilFunc],.func⟩
 |136=>some ⟨1,8,[.nilFunc],.func⟩
 |142=>some ⟨1,8,[.pointer none],.ptr⟩
 |143=>some ⟨1,24,[.slice none 0 0],.slice 142⟩
 |144=>some ⟨1,8,[.map none],.map 9 3⟩
 |148=>some ⟨6,72,[.bool false,.slice none 0 0,.bool false,.slice none 0 0,.bool false,.bool false],.struct [(0,104),(4,4),(5,4)]⟩
 |153=>some ⟨1,24,[.slice none 0 0],.slice 148⟩
 |158=>some ⟨1,8,[.nilFunc],.func⟩
 |163=>some ⟨1,8,[.nilFunc],.func⟩
 |164=>some ⟨1,8,[.nilFunc],.func⟩
 |169=>some ⟨1,8,[.map none],.map 54 4⟩
 |192=>some ⟨9,152,[.slice none 0 0,.bool false,.slice none 0 0,.bool false,.slice none 0 0,.bool false,.slice none 0 0,.bool false,.slice none 0 0],.struct [(0,106),(5,104)]⟩
 |200=>some ⟨5,64,[.bool false,.bool false,.bool false,.slice none 0 0,.slice none 0 0],.struct [(0,4),(1,4),(2,121)]⟩
 |223=>some ⟨1,8,[.nilFunc],.func⟩
 |226=>some ⟨1,24,[.slice none 0 0],.slice 260⟩
 |228=>some ⟨6,104,[.string ⟨#[]⟩,.string ⟨#[]⟩,.string ⟨#[]⟩,.int .i64 0,.slice none 0 0,.slice none 0 0],.struct [(0,9),(1,29),(5,226)]⟩
 |229=>some ⟨1,8,[.nilFunc],.func⟩
 |230=>some ⟨1,8,[.map none],.map 9 235⟩
 |235=>some ⟨1,8,[.nilFunc],.func⟩
 |239=>some ⟨1,8,[.int .u64 0],.int .u64⟩
 |249=>some ⟨3,16,[.int .i64 0,.bool false,.bool false],.struct [(0,3),(1,4),(2,4)]⟩
 |250=>some ⟨1,8,[.map none],.map 9 249⟩
 |258=>some ⟨1,24,[.slice none 0 0],.slice 23⟩
 |260=>some ⟨6,88,[.int .i64 0,.string ⟨#[]⟩,.string ⟨#[]⟩,.string ⟨#[]⟩,.int .i64 0,.slice none 0 0],.struct [(0,3),(1,9),(2,29)]⟩
 |267=>some ⟨1,8,[.map none],.map 54 148⟩
 |269=>some ⟨6,80,[.bool false,.slice none 0 0,.bool false,.slice none 0 0,.bool false,.map none],.struct [(0,104),(4,4),(5,267)]⟩
 |270=>some ⟨1,24,[.slice none 0 0],.slice 192⟩
 |274=>some ⟨1,8,[.int .u64 0],.int .u64⟩
 |283=>some ⟨1,24,[.slice none 0 0],.slice 5⟩
 |285=>some ⟨1,4,[.int .u32 0],.int .u32⟩
 |292=>some ⟨1,8,[.nilFunc],.func⟩
 |295=>some ⟨1,8,[.nilFunc],.func⟩
 |297=>some ⟨1,8,[.nilFunc],.func⟩
 |299=>some ⟨1,8,[.nilFunc],.func⟩
 |302=>some ⟨1,8,[.map none],.map 9 4⟩
 |311=>some ⟨1,8,[.nilFunc],.func⟩
 |312=>some ⟨1,8,[.pointer none],.ptr⟩
 |314=>some ⟨2,32,[.pointer none,.slice none 0 0],.struct [(0,312),(1,283)]⟩
 |334=>some ⟨9,9,[.int .u8 0,.int .u8 0,.int .u8 0,.int .u8 0,.int .u8 0,.int .u8 0,.int .u8 0,.int .u8 0,.int .u8 0],.array 9 5⟩
 |348=>some ⟨1,8,[.nilFunc],.func⟩
 |350=>some ⟨1,24,[.slice none 0 0],.slice 388⟩
 |355=>some ⟨1,8,[.pointer none],.ptr⟩
 |358=>some ⟨1,8,[.int .i64 0],.int .i64⟩
 |372=>some ⟨256,256,List.replicate 256 (.bool false),.array 256 4⟩
 |376=>some ⟨1,8,[.pointer none],.ptr⟩
 |384=>some ⟨1,8,[.map none],.map 9 104⟩
 |388=>some ⟨4,72,[.string ⟨#[]⟩,.bool false,.slice none 0 0,.slice none 0 0],.struct [(0,9),(1,121)]⟩
 |393=>some ⟨1,8,[.int .u64 0],.int .u64⟩
 |397=>some ⟨1,8,[.pointer none],.ptr⟩
 |415=>some ⟨256,256,List.replicate 256 (.int .u8 0),.array 256 5⟩
 |417=>some ⟨2,2,[.int .u8 0,.int .u8 0],.struct [(0,5),(1,5)]⟩
 |418=>some ⟨32,32,List.replicate 32 (.int .u8 0),.array 16 417⟩
 |_=>none
theorem T_2:tdOf Tryz.prog 2=T 2:=by kernel_rfl
theorem T_3:tdOf Tryz.prog 3=T 3:=by kernel_rfl
theorem T_4:tdOf Tryz.prog 4=T 4:=by kernel_rfl
theorem T_5:tdOf Tryz.prog 5=T 5:=by kernel_rfl
theorem T_9:tdOf Tryz.prog 9=T 9:=by kernel_rfl
theorem JMh:tdOf Tryz.prog 21=T 21:=by kernel_rfl
theorem JMg:tdOf Tryz.prog 22=T 22:=by kernel_rfl
theorem JMf:tdOf Tryz.prog 23=T 23:=by kernel_rfl
theorem JMe:tdOf Tryz.prog 24=T 24:=by kernel_rfl
theorem JMd:tdOf Tryz.prog 26=T 26:=by kernel_rfl
theorem JMc:tdOf Tryz.prog 27=T 27:=by kernel_rfl
theorem JMb:tdOf Tryz.prog 29=T 29:=by kernel_rfl
theorem JMa:tdOf Tryz.prog 30=T 30:=by kernel_rfl
theorem JMZ:tdOf Tryz.prog 31=T 31:=by kernel_rfl
theorem JMY:tdOf Tryz.prog 33=T 33:=by kernel_rfl
theorem JMX:tdOf Tryz.prog 36=T 36:=by kernel_rfl
theorem JMW:tdOf Tryz.prog 39=T 39:=by kernel_rfl
theorem JMV:tdOf Tryz.prog 54=T 54:=by kernel_rfl
theorem JMU:tdOf Tryz.prog 58=T 58:=by kernel_rfl
theorem JMT:tdOf Tryz.prog 82=T 82:=by kernel_rfl
theorem JMS:tdOf Tryz.prog 89=T 89:=by kernel_rfl
theorem JMR:tdOf Tryz.prog 96=T 96:=by kernel_rfl
theorem JMQ:tdOf Tryz.prog 99=T 99:=by kernel_rfl
theorem JMG:tdOf Tryz.prog 100=T 100:=by kernel_rfl
theorem JMF:tdOf Tryz.prog 102=T 102:=by kernel_rfl
theorem JME:tdOf Tryz.prog 104=T 104:=by kernel_rfl
theorem JMD:tdOf Tryz.prog 106=T 106:=by kernel_rfl
theorem JMC:tdOf Tryz.prog 109=T 109:=by kernel_rfl
theorem JMB:tdOf Tryz.prog 112=T 112:=by kernel_rfl
theorem JMA:tdOf Tryz.prog 116=T 116:=by kernel_rfl
theorem JM9:tdOf Tryz.prog 118=T 118:=by kernel_rfl
theorem JM8:tdOf Tryz.prog 119=T 119:=by kernel_rfl
theorem JM7:tdOf Tryz.prog 121=T 121:=by kernel_rfl
theorem JM6:tdOf Tryz.prog 123=T 123:=by kernel_rfl
theorem JM5:tdOf Tryz.prog 131=T 131:=by kernel_rfl
theorem JM4:tdOf Tryz.prog 136=T 136:=by kernel_rfl
theorem JM3:tdOf Tryz.prog 142=T 142:=by kernel_rfl
theorem JM2:tdOf Tryz.prog 143=T 143:=by kernel_rfl
theorem JM1:tdOf Tryz.prog 144=T 144:=by kernel_rfl
theorem JM0:tdOf Tryz.prog 148=T 148:=by kernel_rfl
theorem JLz:tdOf Tryz.prog 153=T 153:=by kernel_rfl
theorem JLy:tdOf Tryz.prog 158=T 158:=by kernel_rfl
theorem JLx:tdOf Tryz.prog 163=T 163:=by kernel_rfl
theorem JLw:tdOf Tryz.prog 164=T 164:=by kernel_rfl
theorem JLv:tdOf Tryz.prog 169=T 169:=by kernel_rfl
theorem JLu:tdOf Tryz.prog 192=T 192:=by kernel_rfl
theorem JLt:tdOf Tryz.prog 200=T 200:=by kernel_rfl
theorem JLs:tdOf Tryz.prog 223=T 223:=by kernel_rfl
theorem JLr:tdOf Tryz.prog 226=T 226:=by kernel_rfl
theorem JLq:tdOf Tryz.prog 228=T 228:=by kernel_rfl
theorem JLp:tdOf Tryz.prog 229=T 229:=by kernel_rfl
theorem JLo:tdOf Tryz.prog 230=T 230:=by kernel_rfl
theorem JLn:tdOf Tryz.prog 235=T 235:=by kernel_rfl
theorem JLm:tdOf Tryz.prog 239=T 239:=by kernel_rfl
theorem JLl:tdOf Tryz.prog 249=T 249:=by kernel_rfl
theorem JLk:tdOf Tryz.prog 250=T 250:=by kernel_rfl
theorem JLj:tdOf Tryz.prog 258=T 258:=by kernel_rfl
theorem JLi:tdOf Tryz.prog 260=T 260:=by kernel_rfl
theorem JLh:tdOf Tryz.prog 267=T 267:=by kernel_rfl
theorem JLg:tdOf Tryz.prog 269=T 269:=by kernel_rfl
theorem JLf:tdOf Tryz.prog 270=T 270:=by kernel_rfl
theorem JLe:tdOf Tryz.prog 274=T 274:=by kernel_rfl
theorem JLd:tdOf Tryz.prog 283=T 283:=by kernel_rfl
theorem JLc:tdOf Tryz.prog 285=T 285:=by kernel_rfl
theorem JLb:tdOf Tryz.prog 292=T 292:=by kernel_rfl
theorem JLa:tdOf Tryz.prog 295=T 295:=by kernel_rfl
theorem JLZ:tdOf Tryz.prog 297=T 297:=by kernel_rfl
theorem JLY:tdOf Tryz.prog 299=T 299:=by kernel_rfl
theorem JLX:tdOf Tryz.prog 302=T 302:=by kernel_rfl
theorem JLW:tdOf Tryz.prog 311=T 311:=by kernel_rfl
theorem JLV:tdOf Tryz.prog 312=T 312:=by kernel_rfl
theorem JLU:tdOf Tryz.prog 314=T 314:=by kernel_rfl
theorem JLT:tdOf Tryz.prog 334=T 334:=by kernel_rfl
theorem JLS:tdOf Tryz.prog 348=T 348:=by kernel_rfl
theorem JLR:tdOf Tryz.prog 350=T 350:=by kernel_rfl
theorem JLQ:tdOf Tryz.prog 355=T 355:=by kernel_rfl
theorem JLP:tdOf Tryz.prog 358=T 358:=by kernel_rfl
theorem JLO:tdOf Tryz.prog 372=T 372:=by kernel_rfl
theorem JLN:tdOf Tryz.prog 376=T 376:=by kernel_rfl
theorem JLM:tdOf Tryz.prog 384=T 384:=by kernel_rfl
theorem JLL:tdOf Tryz.prog 388=T 388:=by kernel_rfl
theorem JLK:tdOf Tryz.prog 393=T 393:=by kernel_rfl
theorem JLJ:tdOf Tryz.prog 397=T 397:=by kernel_rfl
theorem JLI:tdOf Tryz.prog 415=T 415:=by kernel_rfl
theorem JLH:tdOf Tryz.prog 417=T 417:=by kernel_rfl
theorem JLG:tdOf Tryz.prog 418=T 418:=by kernel_rfl
theorem J4L:TOk Tryz.prog T:=by
 intro t d h;unfold T at h;split at h
 ·cases h;exact T_2
 ·cases h;exact T_3
 ·cases h;exact T_4
 ·cases h;exact T_5
 ·cases h;exact T_9
 ·cases h;exact JMh
 ·cases h;exact JMg
 ·cases h;exact JMf
 ·cases h;exact JMe
 ·cases h;exact JMd
 ·cases h;exact JMc
 ·cases h;exact JMb
 ·cases h;exact JMa
 ·cases h;exact JMZ
 ·cases h;exact JMY
 ·cases h;exact JMX
 ·cases h;exact JMW
 ·cases h;exact JMV
 ·cases h;exact JMU
 ·cases h;exact JMT
 ·cases h;exact JMS
 ·cases h;exact JMR
 ·cases h;exact JMQ
 ·cases h;exact JMG
 ·cases h;exact JMF
 ·cases h;exact JME
 ·cases h;exact JMD
 ·cases h;exact JMC
 ·cases h;exact JMB
 ·cases h;exact JMA
 ·cases h;exact JM9
 ·cases h;exact JM8
 ·cases h;exact JM7
 ·cases h;exact JM6
 ·cases h;exact JM5
 ·cases h;exact JM4
 ·cases h;exact JM3
 ·cases h;exact JM2
 ·cases h;exact JM1
 ·cases h;exact JM0
 ·cases h;exact JLz
 ·cases h;exact JLy
 ·cases h;exact JLx
 ·cases h;exact JLw
 ·cases h;exact JLv
 ·cases h;exact JLu
 ·cases h;exact JLt
 ·cases h;exact JLs
 ·cases h;exact JLr
 ·cases h;exact JLq
 ·cases h;exact JLp
 ·cases h;exact JLo
 ·cases h;exact JLn
 ·cases h;exact JLm
 ·cases h;exact JLl
 ·cases h;exact JLk
 ·cases h;exact JLj
 ·cases h;exact JLi
 ·cases h;exact JLh
 ·cases h;exact JLg
 ·cases h;exact JLf
 ·cases h;exact JLe
 ·cases h;exact JLd
 ·cases h;exact JLc
 ·cases h;exact JLb
 ·cases h;exact JLa
 ·cases h;exact JLZ
 ·cases h;exact JLY
 ·cases h;exact JLX
 ·cases h;exact JLW
 ·cases h;exact JLV
 ·cases h;exact JLU
 ·cases h;exact JLT
 ·cases h;exact JLS
 ·cases h;exact JLR
 ·cases h;exact JLQ
 ·cases h;exact JLP
 ·cases h;exact JLO
 ·cases h;exact JLN
 ·cases h;exact JLM
 ·cases h;exact JLL
 ·cases h;exact JLK
 ·cases h;exact JLJ
 ·cases h;exact JLI
 ·cases h;exact JLH
 ·cases h;exact JLG
 ·cases h
noncomputable def E (base:Nat):En:=⟨Tryz.prog,T,base⟩
abbrev CPK (n:Nat):Prop:=J03 Tryz.prog n
theorem cKK {n:Nat}{f:Func}(h:Tryz.prog.funcs[n]?=some f)(a:(f.name == "runtime.NumGoroutine")=false:=by kernel_rfl)(b:f.body.isSome=true:=by kernel_rfl):J03 Tryz.prog n:=⟨_,h,a,b⟩
theorem c3:CPK 3:=cKK Tryz.func3
theorem c4:CPK 4:=cKK Tryz.func4
theorem c15:CPK 15:=cKK Tryz.func15
theorem c16:CPK 16:=cKK Tryz.func16
theorem c17:CPK 17:=cKK Tryz.func17
theorem c19:CPK 19:=cKK Tryz.func19
theorem c21:CPK 21:=cKK Tryz.func21
theorem c22:CPK 22:=cKK Tryz.func22
theorem c23:CPK 23:=cKK Tryz.func23
theorem c24:CPK 24:=cKK Tryz.func24
theorem c25:CPK 25:=cKK Tryz.func25
theorem c26:CPK 26:=cKK Tryz.func26
theorem c27:CPK 27:=cKK Tryz.func27
theorem c37:CPK 37:=cKK Tryz.func37
theorem c38:CPK 38:=cKK Tryz.func38
theorem c48:CPK 48:=cKK Tryz.func48
theorem c60:CPK 60:=cKK Tryz.func60
theorem c61:CPK 61:=cKK Tryz.func61
theorem c62:CPK 62:=cKK Tryz.func62
theorem c63:CPK 63:=cKK Tryz.func63
theorem c67:CPK 67:=cKK Tryz.func67
theorem c68:CPK 68:=cKK Tryz.func68
theorem c77:CPK 77:=cKK Tryz.func77
theorem c78:CPK 78:=cKK Tryz.func78
theorem c79:CPK 79:=cKK Tryz.func79
theorem c80:CPK 80:=cKK Tryz.func80
theorem c81:CPK 81:=cKK Tryz.func81
theorem c83:CPK 83:=cKK Tryz.func83
theorem c84:CPK 84:=cKK Tryz.func84
theorem c89:CPK 89:=cKK Tryz.func89
theorem c90:CPK 90:=cKK Tryz.func90
theorem c92:CPK 92:=cKK Tryz.func92
theorem c97:CPK 97:=cKK Tryz.func97
theorem c98:CPK 98:=cKK Tryz.func98
theorem c99:CPK 99:=cKK Tryz.func99
theorem c100:CPK 100:=cKK Tryz.func100
theorem c101:CPK 101:=cKK Tryz.func101
theorem c102:CPK 102:=cKK Tryz.func102
theorem c111:CPK 111:=cKK Tryz.func111
theorem c112:CPK 112:=cKK Tryz.func112
theorem c116:CPK 116:=cKK Tryz.func116
theorem c123:CPK 123:=cKK Tryz.func123
theorem c124:CPK 124:=cKK Tryz.func124
theorem c128:CPK 128:=cKK Tryz.func128
theorem c132:CPK 132:=cKK Tryz.func132
theorem c134:CPK 134:=cKK Tryz.func134
theorem c135:CPK 135:=cKK Tryz.func135
theorem c141:CPK 141:=cKK Tryz.func141
theorem c142:CPK 142:=cKK Tryz.func142
theorem c145:CPK 145:=cKK Tryz.func145
theorem c146:CPK 146:=cKK Tryz.func146
theorem c147:CPK 147:=cKK Tryz.func147
theorem c149:CPK 149:=cKK Tryz.func149
theorem c150:CPK 150:=cKK Tryz.func150
theorem c151:CPK 151:=cKK Tryz.func151
theorem c161:CPK 161:=cKK Tryz.func161
theorem c162:CPK 162:=cKK Tryz.func162
theorem c163:CPK 163:=cKK Tryz.func163
theorem c164:CPK 164:=cKK Tryz.func164
theorem c165:CPK 165:=cKK Tryz.func165
theorem c166:CPK 166:=cKK Tryz.func166
theorem c167:CPK 167:=cKK Tryz.func167
theorem c168:CPK 168:=cKK Tryz.func168
theorem c169:CPK 169:=cKK Tryz.func169
theorem c174:CPK 174:=cKK Tryz.func174
theorem c175:CPK 175:=cKK Tryz.func175
theorem c176:CPK 176:=cKK Tryz.func176
theorem c177:CPK 177:=cKK Tryz.func177
theorem c186:CPK 186:=cKK Tryz.func186
theorem c187:CPK 187:=cKK Tryz.func187
theorem c188:CPK 188:=cKK Tryz.func188
theorem c189:CPK 189:=cKK Tryz.func189
theorem c190:CPK 190:=cKK Tryz.func190
theorem c193:CPK 193:=cKK Tryz.func193
theorem c194:CPK 194:=cKK Tryz.func194
theorem c195:CPK 195:=cKK Tryz.func195
theorem c199:CPK 199:=cKK Tryz.func199
theorem c200:CPK 200:=cKK Tryz.func200
theorem c201:CPK 201:=cKK Tryz.func201
theorem c202:CPK 202:=cKK Tryz.func202
theorem c203:CPK 203:=cKK Tryz.func203
theorem c204:CPK 204:=cKK Tryz.func204
theorem c205:CPK 205:=cKK Tryz.func205
theorem c211:CPK 211:=cKK Tryz.func211
theorem c212:CPK 212:=cKK Tryz.func212
theorem c214:CPK 214:=cKK Tryz.func214
theorem c215:CPK 215:=cKK Tryz.func215
theorem c216:CPK 216:=cKK Tryz.func216
theorem c217:CPK 217:=cKK Tryz.func217
theorem c218:CPK 218:=cKK Tryz.func218
theorem c219:CPK 219:=cKK Tryz.func219
theorem c222:CPK 222:=cKK Tryz.func222
theorem c223:CPK 223:=cKK Tryz.func223
theorem c237:CPK 237:=cKK Tryz.func237
theorem c238:CPK 238:=cKK Tryz.func238
theorem c239:CPK 239:=cKK Tryz.func239
theorem c240:CPK 240:=cKK Tryz.func240
theorem c241:CPK 241:=cKK Tryz.func241
theorem c242:CPK 242:=cKK Tryz.func242
theorem c243:CPK 243:=cKK Tryz.func243
theorem c246:CPK 246:=cKK Tryz.func246
theorem c247:CPK 247:=cKK Tryz.func247
theorem c248:CPK 248:=cKK Tryz.func248
theorem c249:CPK 249:=cKK Tryz.func249
theorem c250:CPK 250:=cKK Tryz.func250
theorem c251:CPK 251:=cKK Tryz.func251
theorem c252:CPK 252:=cKK Tryz.func252
theorem c253:CPK 253:=cKK Tryz.func253
theorem c254:CPK 254:=cKK Tryz.func254
theorem c255:CPK 255:=cKK Tryz.func255
theorem c256:CPK 256:=cKK Tryz.func256
theorem c257:CPK 257:=cKK Tryz.func257
theorem c258:CPK 258:=cKK Tryz.func258
theorem c259:CPK 259:=cKK Tryz.func259
theorem c260:CPK 260:=cKK Tryz.func260
theorem c264:CPK 264:=cKK Tryz.func264
theorem c265:CPK 265:=cKK Tryz.func265
theorem c266:CPK 266:=cKK Tryz.func266
theorem c267:CPK 267:=cKK Tryz.func267
theorem c268:CPK 268:=cKK Tryz.func268
theorem c269:CPK 269:=cKK Tryz.func269
theorem c270:CPK 270:=cKK Tryz.func270
theorem c271:CPK 271:=cKK Tryz.func271
theorem c272:CPK 272:=cKK Tryz.func272
theorem c273:CPK 273:=cKK Tryz.func273
theorem c274:CPK 274:=cKK Tryz.func274
theorem c275:CPK 275:=cKK Tryz.func275
theorem c276:CPK 276:=cKK Tryz.func276
theorem c277:CPK 277:=cKK Tryz.func277
theorem c278:CPK 278:=cKK Tryz.func278
theorem c279:CPK 279:=cKK Tryz.func279
theorem c280:CPK 280:=cKK Tryz.func280
theorem c281:CPK 281:=cKK Tryz.func281
theorem c282:CPK 282:=cKK Tryz.func282
theorem c283:CPK 283:=cKK Tryz.func283
theorem c285:CPK 285:=cKK Tryz.func285
theorem c288:CPK 288:=cKK Tryz.func288
theorem c289:CPK 289:=cKK Tryz.func289
theorem c293:CPK 293:=cKK Tryz.func293
theorem c294:CPK 294:=cKK Tryz.func294
theorem c301:CPK 301:=cKK Tryz.func301
theorem c302:CPK 302:=cKK Tryz.func302
theorem c303:CPK 303:=cKK Tryz.func303
theorem c304:CPK 304:=cKK Tryz.func304
theorem c305:CPK 305:=cKK Tryz.func305
theorem c314:CPK 314:=cKK Tryz.func314
theorem c315:CPK 315:=cKK Tryz.func315
theorem c316:CPK 316:=cKK Tryz.func316
theorem c317:CPK 317:=cKK Tryz.func317
theorem c318:CPK 318:=cKK Tryz.func318
theorem c319:CPK 319:=cKK Tryz.func319
theorem c320:CPK 320:=cKK Tryz.func320
theorem c321:CPK 321:=cKK Tryz.func321
theorem c322:CPK 322:=cKK Tryz.func322
theorem c323:CPK 323:=cKK Tryz.func323
theorem c327:CPK 327:=cKK Tryz.func327
theorem c328:CPK 328:=cKK Tryz.func328
theorem c329:CPK 329:=cKK Tryz.func329
theorem c330:CPK 330:=cKK Tryz.func330
theorem c350:CPK 350:=cKK Tryz.func350
theorem c351:CPK 351:=cKK Tryz.func351
theorem c352:CPK 352:=cKK Tryz.func352
theorem c354:CPK 354:=cKK Tryz.func354
theorem c355:CPK 355:=cKK Tryz.func355
theorem c356:CPK 356:=cKK Tryz.func356
theorem c362:CPK 362:=cKK Tryz.func362
theorem c363:CPK 363:=cKK Tryz.func363
theorem c364:CPK 364:=cKK Tryz.func364
theorem c365:CPK 365:=cKK Tryz.func365
theorem c366:CPK 366:=cKK Tryz.func366
theorem c376:CPK 376:=cKK Tryz.func376
theorem c379:CPK 379:=cKK Tryz.func379
theorem c380:CPK 380:=cKK Tryz.func380
theorem c387:CPK 387:=cKK Tryz.func387
theorem c388:CPK 388:=cKK Tryz.func388
theorem c389:CPK 389:=cKK Tryz.func389
theorem c390:CPK 390:=cKK Tryz.func390
theorem c391:CPK 391:=cKK Tryz.func391
theorem c392:CPK 392:=cKK Tryz.func392
theorem c393:CPK 393:=cKK Tryz.func393
theorem c396:CPK 396:=cKK Tryz.func396
theorem c397:CPK 397:=cKK Tryz.func397
theorem c398:CPK 398:=cKK Tryz.func398
theorem c399:CPK 399:=cKK Tryz.func399
theorem c400:CPK 400:=cKK Tryz.func400
theorem c401:CPK 401:=cKK Tryz.func401
theorem c402:CPK 402:=cKK Tryz.func402
theorem c403:CPK 403:=cKK Tryz.func403
theorem c406:CPK 406:=cKK Tryz.func406
theorem JKl (b:Nat):DOk (E b) (DH (E b)):=JMK J4L (by rfl)
end Go.Proofs.YtlblbldolhiokaaGreatDoor
