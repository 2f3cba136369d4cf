/- Part 45 of a proof. -/
import Derived.Test.YtlblbldolhiokaaGreatDoorProg
import Derived.Test.YtlblbldolhiokaaGreatDoorRs37
import Derived.Test.YtlblbldolhiokaaGreatDoorRs44
set_option linter.all false
set_option maxRecDepth 99999
set_option maxHeartbeats 0
namespace Go.Proofs.YtlblbldolhiokaaGreatDoor
open Go Go.Fw
def T:Nat→Option TD
 |2=>some ⟨1,8,[.int .i64 0],.int .i64⟩
 |3=>some ⟨1,8,[.int .i64 0],.int .i64⟩
 |4=>some ⟨1,1,[.bool false],.bool⟩
 |5=>some ⟨1,1,[.int .u8 0],.int .u8⟩
 |9=>some ⟨1,16,[.string ⟨#[]⟩],.str⟩
 |21=>some ⟨1,4,[.int .i32 0],.int .i32⟩
 |22=>some ⟨1,24,[.slice none 0 0],.slice 89⟩
 |23=>some ⟨1,24,[.slice none 0 0],.slice 58⟩
 |24=>some ⟨1,24,[.slice none 0 0],.slice 228⟩
 |26=>some ⟨4,96,[.slice none 0 0,.slice none 0 0,.slice none 0 0,.slice none 0 0],.struct [(0,22),(1,23),(2,23),(3,24)]⟩
 |27=>some ⟨1,24,[.slice none 0 0],.slice 29⟩
 |29=>some ⟨4,64,[.string ⟨#[]⟩,.string ⟨#[]⟩,.int .i64 0,.slice none 0 0],.struct [(0,9),(1,9),(2,3),(3,27)]⟩
 |30=>some ⟨1,24,[.slice none 0 0],.slice 54⟩
 |31=>some ⟨1,24,[.slice none 0 0],.slice 82⟩
 |33=>some ⟨3,48,[.string ⟨#[]⟩,.bool false,.slice none 0 0],.struct [(0,9),(1,4),(2,31)]⟩
 |36=>some ⟨1,8,[.int .i64 0],.int .i64⟩
 |39=>some ⟨1,24,[.slice none 0 0],.slice 9⟩
 |54=>some ⟨3,32,[.string ⟨#[]⟩,.int .i64 0,.bool false],.struct [(0,9),(1,3),(2,4)]⟩
 |58=>some ⟨9,144,[.string ⟨#[]⟩,.string ⟨#[]⟩,.string ⟨#[]⟩,.int .i64 0,.slice none 0 0,.string ⟨#[]⟩,.string ⟨#[]⟩,.int .i64 0,.slice none 0 0],.struct [(0,9),(1,29),(5,29)]⟩
 |82=>some ⟨4,48,[.string ⟨#[]⟩,.int .i64 0,.bool false,.string ⟨#[]⟩],.struct [(0,54),(3,9)]⟩
 |89=>some ⟨7,88,[.string ⟨#[]⟩,.int .i64 0,.int .i64 0,.string ⟨#[]⟩,.string ⟨#[]⟩,.bool false,.string ⟨#[]⟩],.struct [(0,9),(1,3),(2,3),(3,9),(4,9),(5,4),(6,9)]⟩
 |96=>some ⟨1,8,[.pointer none],.ptr⟩
 |99=>some ⟨1,24,[.slice none 0 0],.slice 104⟩
 |100=>some ⟨1,24,[.slice none 0 0],.slice 285⟩
 |102=>some ⟨2,32,[.bool false,.slice none 0 0],.struct [(0,4),(1,100)]⟩
 |104=>some ⟨4,64,[.bool false,.slice none 0 0,.bool false,.slice none 0 0],.struct [(0,102),(2,102)]⟩
 |106=>some ⟨5,88,[.slice none 0 0,.bool false,.slice none 0 0,.bool false,.slice none 0 0],.struct [(0,99),(1,104)]⟩
 |109=>some ⟨1,8,[.map none],.map 9 89⟩
 |112=>some ⟨3,40,[.map none,.slice none 0 0,.pointer none],.struct [(0,109),(1,30),(2,96)]⟩
 |116=>some ⟨1,8,[.nilFunc],.func⟩
 |118=>some ⟨1,24,[.slice none 0 0],.slice 121⟩
 |119=>some ⟨1,24,[.slice none 0 0],.slice 3⟩
 |121=>some ⟨3,56,[.bool false,.slice none 0 0,.slice none 0 0],.struct [(0,4),(1,119),(2,119)]⟩
 |123=>some ⟨4,80,[.slice none 0 0,.bool false,.slice none 0 0,.slice none 0 0],.struct [(0,118),(1,121)]⟩
 |131=>some ⟨1,8,[.nilFunc],.func⟩
 |136=>some ⟨1,8,[.nilFunc],.func⟩
 |142=>some ⟨1,8,[.pointer none],.ptr⟩
 |143=>some ⟨1,24,[.slice none 0 0],.slice 142⟩
 |144=>some ⟨1,8,[.map none],.map 9 3⟩
 |148=>some ⟨6,72,[.bool false,.slice none 0 0,.bool false,.slice none 0 0,.bool false,.bool false],.struct [(0,104),(4,4),(5,4)]⟩
 |153=>some ⟨1,24,[.slice none 0 0],.slice 148⟩
 |158=>some ⟨1,8,[.nilFunc],.func⟩
 |163=>some ⟨1,8,[.nilFunc],.func⟩
 |164=>some ⟨1,8,[.nilFunc],.func⟩
 |169=>some ⟨1,8,[.map none],.map 54 4⟩
 |192=>some ⟨9,152,[.slice none 0 0,.bool false,.slice none 0 0,.bool false,.slice none 0 0,.bool false,.slice none 0 0,.bool false,.slice none 0 0],.struct [(0,106),(5,104)]⟩
 |200=>some ⟨5,64,[.bool false,.bool false,.bool false,.slice none 0 0,.slice none 0 0],.struct [(0,4),(1,4),(2,121)]⟩
 |223=>some ⟨1,8,[.nilFunc],.func⟩
 |226=>some ⟨1,24,[.slice none 0 0],.slice 260⟩
 |228=>some ⟨6,104,[.string ⟨#[]⟩,.string ⟨#[]⟩,.string ⟨#[]⟩,.int .i64 0,.slice none 0 0,.slice none 0 0],.struct [(0,9),(1,29),(5,226)]⟩
 |229=>some ⟨1,8,[.nilFunc],.func⟩
 |230=>some ⟨1,8,[.map none],.map 9 235⟩
 |235=>some ⟨1,8,[.nilFunc],.func⟩
 |239=>some ⟨1,8,[.int .u64 0],.int .u64⟩
 |249=>some ⟨3,16,[.int .i64 0,.bool false,.bool false],.struct [(0,3),(1,4),(2,4)]⟩
 |250=>some ⟨1,8,[.map none],.map 9 249⟩
 |258=>some ⟨1,24,[.slice none 0 0],.slice 23⟩
 |260=>some ⟨6,88,[.int .i64 0,.string ⟨#[]⟩,.string ⟨#[]⟩,.string ⟨#[]⟩,.int .i64 0,.slice none 0 0],.struct [(0,3),(1,9),(2,29)]⟩
 |267=>some ⟨1,8,[.map none],.map 54 148⟩
 |269=>some ⟨6,80,[.bool false,.slice none 0 0,.bool false,.slice none 0 0,.bool false,.map none],.struct [(0,104),(4,4),(5,267)]⟩
 |270=>some ⟨1,24,[.slice none 0 0],.slice 192⟩
 |274=>some ⟨1,8,[.int .u64 0],.int .u64⟩
 |283=>some ⟨1,24,[.slice none 0 0],.slice 5⟩
 |285=>some ⟨1,4,[.int .u32 0],.int .u32⟩
 |292=>some ⟨1,8,[.nilFunc],.func⟩
 |295=>some ⟨1,8,[.nilFunc],.func⟩
 |297=>some ⟨1,8,[.nilFunc],.func⟩
 |299=>some ⟨1,8,[.nilFunc],.func⟩
 |302=>some ⟨1,8,[.map none],.map 9 4⟩
 |311=>some ⟨1,8,[.nilFunc],.func⟩
 |312=>some ⟨1,8,[.pointer none],.ptr⟩
 |314=>some ⟨2,32,[.pointer none,.slice none 0 0],.struct [(0,312),(1,283)]⟩
 |334=>some ⟨9,9,[.int .u8 0,.int .u8 0,.int .u8 0,.int .u8 0,.int .u8 0,.int .u8 0,.int .u8 0,.int .u8 0,.int .u8 0],.array 9 5⟩
 |348=>some ⟨1,8,[.nilFunc],.func⟩
 |350=>some ⟨1,24,[.slice none 0 0],.slice 388⟩
 |355=>some ⟨1,8,[.pointer none],.ptr⟩
 |358=>some ⟨1,8,[.int .i64 0],.int .i64⟩
 |372=>some ⟨256,256,List.replicate 256 (.bool false),.array 256 4⟩
 |376=>some ⟨1,8,[.pointer none],.ptr⟩
 |384=>some ⟨1,8,[.map none],.map 9 104⟩
 |388=>some ⟨4,72,[.string ⟨#[]⟩,.bool false,.slice none 0 0,.slice none 0 0],.struct [(0,9),(1,121)]⟩
 |393=>some ⟨1,8,[.int .u64 0],.int .u64⟩
 |397=>some ⟨1,8,[.pointer none],.ptr⟩
 |415=>some ⟨256,256,List.replicate 256 (.int .u8 0),.array 256 5⟩
 |417=>some ⟨2,2,[.int .u8 0,.int .u8 0],.struct [(0,5),(1,5)]⟩
 |418=>some ⟨32,32,List.replicate 32 (.int .u8 0),.array 16 417⟩
 |_=>none
def T_2:tdOf Tryz.prog 2=T 2:=by kernel_rfl
def T_3:tdOf Tryz.prog 3=T 3:=by kernel_rfl
def T_4:tdOf Tryz.prog 4=T 4:=by kernel_rfl
def T_5:tdOf Tryz.prog 5=T 5:=by kernel_rfl
def T_9:tdOf Tryz.prog 9=T 9:=by kernel_rfl
def JR8:tdOf Tryz.prog 21=T 21:=by kernel_rfl
def JR7:tdOf Tryz.prog 22=T 22:=by kernel_rfl
def JR6:tdOf Tryz.prog 23=T 23:=by kernel_rfl
def JR5:tdOf Tryz.prog 24=T 24:=by kernel_rfl
def JR4:tdOf Tryz.prog 26=T 26:=by kernel_rfl
def JR3:tdOf Tryz.prog 27=T 27:=by kernel_rfl
def JR2:tdOf Tryz.prog 29=T 29:=by kernel_rfl
def JR1:tdOf Tryz.prog 30=T 30:=by kernel_rfl
def JR0:tdOf Tryz.prog 31=T 31:=by kernel_rfl
def JQz:tdOf Tryz.prog 33=T 33:=by kernel_rfl
def JQy:tdOf Tryz.prog 36=T 36:=by kernel_rfl
def JQx:tdOf Tryz.prog 39=T 39:=by kernel_rfl
def JQw:tdOf Tryz.prog 54=T 54:=by kernel_rfl
def JQv:tdOf Tryz.prog 58=T 58:=by kernel_rfl
def JQu:tdOf Tryz.prog 82=T 82:=by kernel_rfl
def JQt:tdOf Tryz.prog 89=T 89:=by kernel_rfl
def JQs:tdOf Tryz.prog 96=T 96:=by kernel_rfl
def JQr:tdOf Tryz.prog 99=T 99:=by kernel_rfl
def JQk:tdOf Tryz.prog 100=T 100:=by kernel_rfl
def JQj:tdOf Tryz.prog 102=T 102:=by kernel_rfl
def JQi:tdOf Tryz.prog 104=T 104:=by kernel_rfl
def JQh:tdOf Tryz.prog 106=T 106:=by kernel_rfl
def JQg:tdOf Tryz.prog 109=T 109:=by kernel_rfl
def JQf:tdOf Tryz.prog 112=T 112:=by kernel_rfl
def JQe:tdOf Tryz.prog 116=T 116:=by kernel_rfl
def JQd:tdOf Tryz.prog 118=T 118:=by kernel_rfl
def JQc:tdOf Tryz.prog 119=T 119:=by kernel_rfl
def JQb:tdOf Tryz.prog 121=T 121:=by kernel_rfl
def JQa:tdOf Tryz.prog 123=T 123:=by kernel_rfl
def JQZ:tdOf Tryz.prog 131=T 131:=by kernel_rfl
def JQY:tdOf Tryz.prog 136=T 136:=by kernel_rfl
def JQX:tdOf Tryz.prog 142=T 142:=by kernel_rfl
def JQW:tdOf Tryz.prog 143=T 143:=by kernel_rfl
def JQV:tdOf Tryz.prog 144=T 144:=by kernel_rfl
def JQU:tdOf Tryz.prog 148=T 148:=by kernel_rfl
def JQT:tdOf Tryz.prog 153=T 153:=by kernel_rfl
def JQS:tdOf Tryz.prog 158=T 158:=by kernel_rfl
def JQR:tdOf Tryz.prog 163=T 163:=by kernel_rfl
def JQQ:tdOf Tryz.prog 164=T 164:=by kernel_rfl
def JQP:tdOf Tryz.prog 169=T 169:=by kernel_rfl
def JQO:tdOf Tryz.prog 192=T 192:=by kernel_rfl
def JQN:tdOf Tryz.prog 200=T 200:=by kernel_rfl
def JQM:tdOf Tryz.prog 223=T 223:=by kernel_rfl
def JQL:tdOf Tryz.prog 226=T 226:=by kernel_rfl
def JQK:tdOf Tryz.prog 228=T 228:=by kernel_rfl
def JQJ:tdOf Tryz.prog 229=T 229:=by kernel_rfl
def JQI:tdOf Tryz.prog 230=T 230:=by kernel_rfl
def JQH:tdOf Tryz.prog 235=T 235:=by kernel_rfl
def JQG:tdOf Tryz.prog 239=T 239:=by kernel_rfl
def JQF:tdOf Tryz.prog 249=T 249:=by kernel_rfl
def JQE:tdOf Tryz.prog 250=T 250:=by kernel_rfl
def JQD:tdOf Tryz.prog 258=T 258:=by kernel_rfl
def JQC:tdOf Tryz.prog 260=T 260:=by kernel_rfl
def JQB:tdOf Tryz.prog 267=T 267:=by kernel_rfl
def JQA:tdOf Tryz.prog 269=T 269:=by kernel_rfl
def JQ9:tdOf Tryz.prog 270=T 270:=by kernel_rfl
def JQ8:tdOf Tryz.prog 274=T 274:=by kernel_rfl
def JQ7:tdOf Tryz.prog 283=T 283:=by kernel_rfl
def JQ6:tdOf Tryz.prog 285=T 285:=by kernel_rfl
def JQ5:tdOf Tryz.prog 292=T 292:=by kernel_rfl
def JQ4:tdOf Tryz.prog 295=T 295:=by kernel_rfl
def JQ3:tdOf Tryz.prog 297=T 297:=by kernel_rfl
def JQ2:tdOf Tryz.prog 299=T 299:=by kernel_rfl
def JQ1:tdOf Tryz.prog 302=T 302:=by kernel_rfl
def JQ0:tdOf Tryz.prog 311=T 311:=by kernel_rfl
def JPz:tdOf Tryz.prog 312=T 312:=by kernel_rfl
def JPy:tdOf Tryz.prog 314=T 314:=by kernel_rfl
def JPx:tdOf Tryz.prog 334=T 334:=by kernel_rfl
def JPw:tdOf Tryz.prog 348=T 348:=by kernel_rfl
def JPv:tdOf Tryz.prog 350=T 350:=by kernel_rfl
def JPu:tdOf Tryz.prog 355=T 355:=by kernel_rfl
def JPt:tdOf Tryz.prog 358=T 358:=by kernel_rfl
def JPs:tdOf Tryz.prog 372=T 372:=by kernel_rfl
def JPr:tdOf Tryz.prog 376=T 376:=by kernel_rfl
def JPq:tdOf Tryz.prog 384=T 384:=by kernel_rfl
def JPp:tdOf Tryz.prog 388=T 388:=by kernel_rfl
def JPo:tdOf Tryz.prog 393=T 393:=by kernel_rfl
def JPn:tdOf Tryz.prog 397=T 397:=by kernel_rfl
def JPm:tdOf Tryz.prog 415=T 415:=by kernel_rfl
def JPl:tdOf Tryz.prog 417=T 417:=by kernel_rfl
def JPk:tdOf Tryz.prog 418=T 418:=by kernel_rfl
def J3x:TOk Tryz.prog T:=by
 intro t d h;unfold T at h;split at h
 ·cases h;exact T_2
 ·cases h;exact T_3
 ·cases h;exact T_4
 ·cases h;exact T_5
 ·cases h;exact T_9
 ·cases h;exact JR8
 ·cases h;exact JR7
 ·cases h;exact JR6
 ·cases h;exact JR5
 ·cases h;exact JR4
 ·cases h;exact JR3
 ·cases h;exact JR2
 ·cases h;exact JR1
 ·cases h;exact JR0
 ·cases h;exact JQz
 ·cases h;exact JQy
 ·cases h;exact JQx
 ·cases h;exact JQw
 ·cases h;exact JQv
 ·cases h;exact JQu
 ·cases h;exact JQt
 ·cases h;exact JQs
 ·cases h;exact JQr
 ·cases h;exact JQk
 ·cases h;exact JQj
 ·cases h;exact JQi
 ·cases h;exact JQh
 ·cases h;exact JQg
 ·cases h;exact JQf
 ·cases h;exact JQe
 ·cases h;exact JQd
 ·cases h;exact JQc
 ·cases h;exact JQb
 ·cases h;exact JQa
 ·cases h;exact JQZ
 ·cases h;exact JQY
 ·cases h;exact JQX
 ·cases h;exact JQW
 ·cases h;exact JQV
 ·cases h;exact JQU
 ·cases h;exact JQT
 ·cases h;exact JQS
 ·cases h;exact JQR
 ·cases h;exact JQQ
 ·cases h;exact JQP
 ·cases h;exact JQO
 ·cases h;exact JQN
 ·cases h;exact JQM
 ·cases h;exact JQL
 ·cases h;exact JQK
 ·cases h;exact JQJ
 ·cases h;exact JQI
 ·cases h;exact JQH
 ·cases h;exact JQG
 ·cases h;exact JQF
 ·cases h;exact JQE
 ·cases h;exact JQD
 ·cases h;exact JQC
 ·cases h;exact JQB
 ·cases h;exact JQA
 ·cases h;exact JQ9
 ·cases h;exact JQ8
 ·cases h;exact JQ7
 ·cases h;exact JQ6
 ·cases h;exact JQ5
 ·cases h;exact JQ4
 ·cases h;exact JQ3
 ·cases h;exact JQ2
 ·cases h;exact JQ1
 ·cases h;exact JQ0
 ·cases h;exact JPz
 ·cases h;exact JPy
 ·cases h;exact JPx
 ·cases h;exact JPw
 ·cases h;exact JPv
 ·cases h;exact JPu
 ·cases h;exact JPt
 ·cases h;exact JPs
 ·cases h;exact JPr
 ·cases h;exact JPq
 ·cases h;exact JPp
 ·cases h;exact JPo
 ·cases h;exact JPn
 ·cases h;exact JPm
 ·cases h;exact JPl
 ·cases h;exact JPk
 cases h
noncomputable def E (base:Nat):En:=⟨Tryz.prog,T,base⟩
abbrev CPK (n:Nat):Prop:=J05 Tryz.prog n
def cKK {n:Nat}{f:Func}(h:Tryz.prog.funcs[n]?=some f)(a:(f.name == "runtime.NumGoroutine")=false:=by kernel_rfl)(b:f.body.isSome=true:=by kernel_rfl):J05 Tryz.prog n:=⟨_,h,a,b⟩
def c3:CPK 3:=cKK Tryz.func3
def c4:CPK 4:=cKK Tryz.func4
def c22:CPK 22:=cKK Tryz.func22
def c36:CPK 36:=cKK Tryz.func36
def c38:CPK 38:=cKK Tryz.func38
def c39:CPK 39:=cKK Tryz.func39
def c40:CPK 40:=cKK Tryz.func40
def c41:CPK 41:=cKK Tryz.func41
def c42:CPK 42:=cKK Tryz.func42
def c45:CPK 45:=cKK Tryz.func45
def c48:CPK 48:=cKK Tryz.func48
def c53:CPK 53:=cKK Tryz.func53
def c54:CPK 54:=cKK Tryz.func54
def c55:CPK 55:=cKK Tryz.func55
def c56:CPK 56:=cKK Tryz.func56
def c57:CPK 57:=cKK Tryz.func57
def c58:CPK 58:=cKK Tryz.func58
def c59:CPK 59:=cKK Tryz.func59
def c67:CPK 67:=cKK Tryz.func67
def c72:CPK 72:=cKK Tryz.func72
def c75:CPK 75:=cKK Tryz.func75
def c76:CPK 76:=cKK Tryz.func76
def c79:CPK 79:=cKK Tryz.func79
def c80:CPK 80:=cKK Tryz.func80
def c81:CPK 81:=cKK Tryz.func81
def c83:CPK 83:=cKK Tryz.func83
def c84:CPK 84:=cKK Tryz.func84
def c85:CPK 85:=cKK Tryz.func85
def c87:CPK 87:=cKK Tryz.func87
def c89:CPK 89:=cKK Tryz.func89
def c90:CPK 90:=cKK Tryz.func90
def c93:CPK 93:=cKK Tryz.func93
def c94:CPK 94:=cKK Tryz.func94
def c99:CPK 99:=cKK Tryz.func99
def c100:CPK 100:=cKK Tryz.func100
def c101:CPK 101:=cKK Tryz.func101
def c102:CPK 102:=cKK Tryz.func102
def c103:CPK 103:=cKK Tryz.func103
def c108:CPK 108:=cKK Tryz.func108
def c109:CPK 109:=cKK Tryz.func109
def c110:CPK 110:=cKK Tryz.func110
def c111:CPK 111:=cKK Tryz.func111
def c112:CPK 112:=cKK Tryz.func112
def c116:CPK 116:=cKK Tryz.func116
def c118:CPK 118:=cKK Tryz.func118
def c119:CPK 119:=cKK Tryz.func119
def c121:CPK 121:=cKK Tryz.func121
def c122:CPK 122:=cKK Tryz.func122
def c123:CPK 123:=cKK Tryz.func123
def c124:CPK 124:=cKK Tryz.func124
def c125:CPK 125:=cKK Tryz.func125
def c126:CPK 126:=cKK Tryz.func126
def c127:CPK 127:=cKK Tryz.func127
def c128:CPK 128:=cKK Tryz.func128
def c130:CPK 130:=cKK Tryz.func130
def c131:CPK 131:=cKK Tryz.func131
def c132:CPK 132:=cKK Tryz.func132
def c133:CPK 133:=cKK Tryz.func133
def c134:CPK 134:=cKK Tryz.func134
def c141:CPK 141:=cKK Tryz.func141
def c142:CPK 142:=cKK Tryz.func142
def c145:CPK 145:=cKK Tryz.func145
def c146:CPK 146:=cKK Tryz.func146
def c147:CPK 147:=cKK Tryz.func147
def c149:CPK 149:=cKK Tryz.func149
def c150:CPK 150:=cKK Tryz.func150
def c151:CPK 151:=cKK Tryz.func151
def c152:CPK 152:=cKK Tryz.func152
def c153:CPK 153:=cKK Tryz.func153
def c154:CPK 154:=cKK Tryz.func154
def c157:CPK 157:=cKK Tryz.func157
def c158:CPK 158:=cKK Tryz.func158
def c159:CPK 159:=cKK Tryz.func159
def c160:CPK 160:=cKK Tryz.func160
def c165:CPK 165:=cKK Tryz.func165
def c166:CPK 166:=cKK Tryz.func166
def c167:CPK 167:=cKK Tryz.func167
def c168:CPK 168:=cKK Tryz.func168
def c169:CPK 169:=cKK Tryz.func169
def c170:CPK 170:=cKK Tryz.func170
def c171:CPK 171:=cKK Tryz.func171
def c174:CPK 174:=cKK Tryz.func174
def c175:CPK 175:=cKK Tryz.func175
def c176:CPK 176:=cKK Tryz.func176
def c177:CPK 177:=cKK Tryz.func177
def c178:CPK 178:=cKK Tryz.func178
def c179:CPK 179:=cKK Tryz.func179
def c180:CPK 180:=cKK Tryz.func180
def c181:CPK 181:=cKK Tryz.func181
def c182:CPK 182:=cKK Tryz.func182
def c183:CPK 183:=cKK Tryz.func183
def c184:CPK 184:=cKK Tryz.func184
def c185:CPK 185:=cKK Tryz.func185
def c186:CPK 186:=cKK Tryz.func186
def c187:CPK 187:=cKK Tryz.func187
def c188:CPK 188:=cKK Tryz.func188
def c189:CPK 189:=cKK Tryz.func189
def c190:CPK 190:=cKK Tryz.func190
def c191:CPK 191:=cKK Tryz.func191
def c192:CPK 192:=cKK Tryz.func192
def c193:CPK 193:=cKK Tryz.func193
def c194:CPK 194:=cKK Tryz.func194
def c195:CPK 195:=cKK Tryz.func195
def c198:CPK 198:=cKK Tryz.func198
def c199:CPK 199:=cKK Tryz.func199
def c200:CPK 200:=cKK Tryz.func200
def c201:CPK 201:=cKK Tryz.func201
def c202:CPK 202:=cKK Tryz.func202
def c203:CPK 203:=cKK Tryz.func203
def c204:CPK 204:=cKK Tryz.func204
def c205:CPK 205:=cKK Tryz.func205
def c206:CPK 206:=cKK Tryz.func206
def c207:CPK 207:=cKK Tryz.func207
def c208:CPK 208:=cKK Tryz.func208
def c209:CPK 209:=cKK Tryz.func209
def c210:CPK 210:=cKK Tryz.func210
def c211:CPK 211:=cKK Tryz.func211
def c212:CPK 212:=cKK Tryz.func212
def c213:CPK 213:=cKK Tryz.func213
def c214:CPK 214:=cKK Tryz.func214
def c215:CPK 215:=cKK Tryz.func215
def c216:CPK 216:=cKK Tryz.func216
def c217:CPK 217:=cKK Tryz.func217
def c218:CPK 218:=cKK Tryz.func218
def c219:CPK 219:=cKK Tryz.func219
def c222:CPK 222:=cKK Tryz.func222
def c223:CPK 223:=cKK Tryz.func223
def c224:CPK 224:=cKK Tryz.func224
def c225:CPK 225:=cKK Tryz.func225
def c226:CPK 226:=cKK Tryz.func226
def c227:CPK 227:=cKK Tryz.func227
def c228:CPK 228:=cKK Tryz.func228
def c229:CPK 229:=cKK Tryz.func229
def c230:CPK 230:=cKK Tryz.func230
def c231:CPK 231:=cKK Tryz.func231
def c232:CPK 232:=cKK Tryz.func232
def c233:CPK 233:=cKK Tryz.func233
def c234:CPK 234:=cKK Tryz.func234
def c235:CPK 235:=cKK Tryz.func235
def c236:CPK 236:=cKK Tryz.func236
def c239:CPK 239:=cKK Tryz.func239
def c240:CPK 240:=cKK Tryz.func240
def c241:CPK 241:=cKK Tryz.func241
def c242:CPK 242:=cKK Tryz.func242
def c243:CPK 243:=cKK Tryz.func243
def c246:CPK 246:=cKK Tryz.func246
def c247:CPK 247:=cKK Tryz.func247
def c248:CPK 248:=cKK Tryz.func248
def c249:CPK 249:=cKK Tryz.func249
def c250:CPK 250:=cKK Tryz.func250
def c251:CPK 251:=cKK Tryz.func251
def c252:CPK 252:=cKK Tryz.func252
def c253:CPK 253:=cKK Tryz.func253
def c254:CPK 254:=cKK Tryz.func254
def c255:CPK 255:=cKK Tryz.func255
def c256:CPK 256:=cKK Tryz.func256
def c257:CPK 257:=cKK Tryz.func257
def c258:CPK 258:=cKK Tryz.func258
def c259:CPK 259:=cKK Tryz.func259
def c260:CPK 260:=cKK Tryz.func260
def c261:CPK 261:=cKK Tryz.func261
def c262:CPK 262:=cKK Tryz.func262
def c263:CPK 263:=cKK Tryz.func263
def c264:CPK 264:=cKK Tryz.func264
def c265:CPK 265:=cKK Tryz.func265
def c266:CPK 266:=cKK Tryz.func266
def c267:CPK 267:=cKK Tryz.func267
def c268:CPK 268:=cKK Tryz.func268
def c269:CPK 269:=cKK Tryz.func269
def c270:CPK 270:=cKK Tryz.func270
def c271:CPK 271:=cKK Tryz.func271
def c272:CPK 272:=cKK Tryz.func272
def c273:CPK 273:=cKK Tryz.func273
def c274:CPK 274:=cKK Tryz.func274
def c275:CPK 275:=cKK Tryz.func275
def c276:CPK 276:=cKK Tryz.func276
def c277:CPK 277:=cKK Tryz.func277
def c278:CPK 278:=cKK Tryz.func278
def c279:CPK 279:=cKK Tryz.func279
def c280:CPK 280:=cKK Tryz.func280
def c281:CPK 281:=cKK Tryz.func281
def c282:CPK 282:=cKK Tryz.func282
def c283:CPK 283:=cKK Tryz.func283
def c284:CPK 284:=cKK Tryz.func284
def c285:CPK 285:=cKK Tryz.func285
def c286:CPK 286:=cKK Tryz.func286
def c287:CPK 287:=cKK Tryz.func287
def c288:CPK 288:=cKK Tryz.func288
def c289:CPK 289:=cKK Tryz.func289
def c293:CPK 293:=cKK Tryz.func293
def c294:CPK 294:=cKK Tryz.func294
def c295:CPK 295:=cKK Tryz.func295
def c296:CPK 296:=cKK Tryz.func296
def c297:CPK 297:=cKK Tryz.func297
def c301:CPK 301:=cKK Tryz.func301
def c302:CPK 302:=cKK Tryz.func302
def c303:CPK 303:=cKK Tryz.func303
def c304:CPK 304:=cKK Tryz.func304
def c305:CPK 305:=cKK Tryz.func305
def c308:CPK 308:=cKK Tryz.func308
def c309:CPK 309:=cKK Tryz.func309
def c310:CPK 310:=cKK Tryz.func310
def c311:CPK 311:=cKK Tryz.func311
def c312:CPK 312:=cKK Tryz.func312
def c313:CPK 313:=cKK Tryz.func313
def c314:CPK 314:=cKK Tryz.func314
def c315:CPK 315:=cKK Tryz.func315
def c316:CPK 316:=cKK Tryz.func316
def c317:CPK 317:=cKK Tryz.func317
def c318:CPK 318:=cKK Tryz.func318
def c319:CPK 319:=cKK Tryz.func319
def c320:CPK 320:=cKK Tryz.func320
def c321:CPK 321:=cKK Tryz.func321
def c322:CPK 322:=cKK Tryz.func322
def c323:CPK 323:=cKK Tryz.func323
def c326:CPK 326:=cKK Tryz.func326
def c327:CPK 327:=cKK Tryz.func327
def c328:CPK 328:=cKK Tryz.func328
def c329:CPK 329:=cKK Tryz.func329
def c330:CPK 330:=cKK Tryz.func330
def c332:CPK 332:=cKK Tryz.func332
def c333:CPK 333:=cKK Tryz.func333
def c334:CPK 334:=cKK Tryz.func334
def c350:CPK 350:=cKK Tryz.func350
def c351:CPK 351:=cKK Tryz.func351
def c352:CPK 352:=cKK Tryz.func352
def c354:CPK 354:=cKK Tryz.func354
def c355:CPK 355:=cKK Tryz.func355
def c356:CPK 356:=cKK Tryz.func356
def c360:CPK 360:=cKK Tryz.func360
def c361:CPK 361:=cKK Tryz.func361
def c362:CPK 362:=cKK Tryz.func362
def c363:CPK 363:=cKK Tryz.func363
def c364:CPK 364:=cKK Tryz.func364
def c365:CPK 365:=cKK Tryz.func365
def c366:CPK 366:=cKK Tryz.func366
def c367:CPK 367:=cKK Tryz.func367
def c376:CPK 376:=cKK Tryz.func376
def c379:CPK 379:=cKK Tryz.func379
def c380:CPK 380:=cKK Tryz.func380
def c382:CPK 382:=cKK Tryz.func382
def c387:CPK 387:=cKK Tryz.func387
def c388:CPK 388:=cKK Tryz.func388
def c389:CPK 389:=cKK Tryz.func389
def c390:CPK 390:=cKK Tryz.func390
def c391:CPK 391:=cKK Tryz.func391
def c392:CPK 392:=cKK Tryz.func392
def c393:CPK 393:=cKK Tryz.func393
def c394:CPK 394:=cKK Tryz.func394
def c396:CPK 396:=cKK Tryz.func396
def c397:CPK 397:=cKK Tryz.func397
def c398:CPK 398:=cKK Tryz.func398
def c399:CPK 399:=cKK Tryz.func399
def c400:CPK 400:=cKK Tryz.func400
def c401:CPK 401:=cKK Tryz.func401
def c402:CPK 402:=cKK Tryz.func402
def c403:CPK 403:=cKK Tryz.func403
def c406:CPK 406:=cKK Tryz.func406
def JMY (b:Nat):DOk (E b) (DH (E b)):=JQo J3x (by rfl)
end Go.Proofs.YtlblbldolhiokaaGreatDoor
