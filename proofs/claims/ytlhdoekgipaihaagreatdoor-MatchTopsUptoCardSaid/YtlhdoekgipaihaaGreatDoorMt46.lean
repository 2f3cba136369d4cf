/- Part 46 of the proof: abstract values and their rules; walks of the functions; plain lemmas. -/
import Derived.Test.YtlhdoekgipaihaaGreatDoorProg
import Derived.Test.YtlhdoekgipaihaaGreatDoorMt38
import Derived.Test.YtlhdoekgipaihaaGreatDoorMt45
import Derived.KernelRfl
set_option linter.unusedVariables false
set_option linter.unusedSimpArgs false
set_option linter.unusedSectionVars false
set_option maxRecDepth 100000
set_option exponentiation.threshold 400
namespace Go.Proofs.YtlhdoekgipaihaaGreatDoor
open Go Go.Fw
def T:Nat→Option TD
 | 2=>some ⟨1,8,[.int .i64 0],.int .i64⟩
 | 3=>some ⟨1,8,[.int .i64 0],.int .i64⟩
 | 4=>some ⟨1,1,[.bool false],.bool⟩
 | 5=>some ⟨1,1,[.int .u8 0],.int .u8⟩
 | 9=>some ⟨1,16,[.string ⟨#[]⟩],.str⟩
 | 21=>some ⟨1,4,[.int .i32 0],.int .i32⟩
 | 22=>some ⟨1,24,[.slice none 0 0],.slice 83⟩
 | 23=>some ⟨1,24,[.slice none 0 0],.slice 44⟩
 | 24=>some ⟨1,24,[.slice none 0 0],.slice 163⟩
 | 26=>some ⟨4,96,[.slice none 0 0,.slice none 0 0,.slice none 0 0,.slice none 0 0],.struct [(0,22),(1,23),(2,23),(3,24)]⟩
 | 27=>some ⟨1,24,[.slice none 0 0],.slice 46⟩
 | 28=>some ⟨1,24,[.slice none 0 0],.slice 9⟩
 | 29=>some ⟨1,24,[.slice none 0 0],.slice 95⟩
 | 31=>some ⟨3,72,[.slice none 0 0,.slice none 0 0,.slice none 0 0],.struct [(0,28),(1,27),(2,29)]⟩
 | 32=>some ⟨1,8,[.int .i64 0],.int .i64⟩
 | 40=>some ⟨1,24,[.slice none 0 0],.slice 42⟩
 | 42=>some ⟨4,64,[.string ⟨#[]⟩,.string ⟨#[]⟩,.int .i64 0,.slice none 0 0],.struct [(0,9),(1,9),(2,3),(3,40)]⟩
 | 44=>some ⟨9,144,[.string ⟨#[]⟩,.string ⟨#[]⟩,.string ⟨#[]⟩,.int .i64 0,.slice none 0 0,.string ⟨#[]⟩,.string ⟨#[]⟩,.int .i64 0,.slice none 0 0],.struct [(0,9),(1,42),(5,42)]⟩
 | 46=>some ⟨3,32,[.string ⟨#[]⟩,.int .i64 0,.bool false],.struct [(0,9),(1,3),(2,4)]⟩
 | 48=>some ⟨1,24,[.slice none 0 0],.slice 154⟩
 | 50=>some ⟨3,48,[.string ⟨#[]⟩,.bool false,.slice none 0 0],.struct [(0,9),(1,4),(2,48)]⟩
 | 74=>some ⟨1,8,[.nilFunc],.func⟩
 | 77=>some ⟨1,24,[.slice none 0 0],.slice 28⟩
 | 81=>some ⟨1,8,[.map none],.map 9 3⟩
 | 83=>some ⟨7,88,[.string ⟨#[]⟩,.int .i64 0,.int .i64 0,.string ⟨#[]⟩,.string ⟨#[]⟩,.bool false,.string ⟨#[]⟩],.struct [(0,9),(1,3),(2,3),(3,9),(4,9),(5,4),(6,9)]⟩
 | 90=>some ⟨1,8,[.map none],.map 46 4⟩
 | 95=>some ⟨1,24,[.slice none 0 0],.slice 3⟩
 | 99=>some ⟨2,48,[.slice none 0 0,.slice none 0 0],.struct [(0,28),(1,27)]⟩
 | 106=>some ⟨1,24,[.slice none 0 0],.slice 211⟩
 | 116=>some ⟨1,8,[.pointer none],.ptr⟩
 | 119=>some ⟨1,24,[.slice none 0 0],.slice 124⟩
 | 120=>some ⟨1,24,[.slice none 0 0],.slice 329⟩
 | 122=>some ⟨2,32,[.bool false,.slice none 0 0],.struct [(0,4),(1,120)]⟩
 | 124=>some ⟨4,64,[.bool false,.slice none 0 0,.bool false,.slice none 0 0],.struct [(0,122),(2,122)]⟩
 | 126=>some ⟨5,88,[.slice none 0 0,.bool false,.slice none 0 0,.bool false,.slice none 0 0],.struct [(0,119),(1,124)]⟩
 | 129=>some ⟨1,8,[.map none],.map 9 83⟩
 | 132=>some ⟨3,40,[.map none,.slice none 0 0,.pointer none],.struct [(0,129),(1,27),(2,116)]⟩
 | 136=>some ⟨1,8,[.nilFunc],.func⟩
 | 138=>some ⟨1,24,[.slice none 0 0],.slice 140⟩
 | 140=>some ⟨3,56,[.bool false,.slice none 0 0,.slice none 0 0],.struct [(0,4),(1,95),(2,95)]⟩
 | 142=>some ⟨4,80,[.slice none 0 0,.bool false,.slice none 0 0,.slice none 0 0],.struct [(0,138),(1,140)]⟩
 | 150=>some ⟨1,8,[.nilFunc],.func⟩
 | 154=>some ⟨4,48,[.string ⟨#[]⟩,.int .i64 0,.bool false,.string ⟨#[]⟩],.struct [(0,46),(3,9)]⟩
 | 158=>some ⟨1,8,[.nilFunc],.func⟩
 | 161=>some ⟨1,24,[.slice none 0 0],.slice 256⟩
 | 163=>some ⟨6,104,[.string ⟨#[]⟩,.string ⟨#[]⟩,.string ⟨#[]⟩,.int .i64 0,.slice none 0 0,.slice none 0 0],.struct [(0,9),(1,42),(5,161)]⟩
 | 165=>some ⟨6,72,[.bool false,.slice none 0 0,.bool false,.slice none 0 0,.bool false,.bool false],.struct [(0,124),(4,4),(5,4)]⟩
 | 169=>some ⟨5,64,[.bool false,.bool false,.bool false,.slice none 0 0,.slice none 0 0],.struct [(0,4),(1,4),(2,140)]⟩
 | 174=>some ⟨1,8,[.nilFunc],.func⟩
 | 184=>some ⟨1,24,[.slice none 0 0],.slice 126⟩
 | 186=>some ⟨1,24,[.slice none 0 0],.slice 142⟩
 | 196=>some ⟨1,24,[.slice none 0 0],.slice 4⟩
 | 203=>some ⟨1,24,[.slice none 0 0],.slice 3⟩
 | 210=>some ⟨1,8,[.nilFunc],.func⟩
 | 211=>some ⟨2,16,[.int .i64 0,.int .i64 0],.array 2 3⟩
 | 221=>some ⟨9,152,[.slice none 0 0,.bool false,.slice none 0 0,.bool false,.slice none 0 0,.bool false,.slice none 0 0,.bool false,.slice none 0 0],.struct [(0,126),(5,124)]⟩
 | 239=>some ⟨1,8,[.nilFunc],.func⟩
 | 243=>some ⟨1,8,[.nilFunc],.func⟩
 | 245=>some ⟨1,8,[.nilFunc],.func⟩
 | 247=>some ⟨1,8,[.nilFunc],.func⟩
 | 249=>some ⟨1,24,[.slice none 0 0],.slice 23⟩
 | 251=>some ⟨1,8,[.map none],.map 9 4⟩
 | 256=>some ⟨6,88,[.int .i64 0,.string ⟨#[]⟩,.string ⟨#[]⟩,.string ⟨#[]⟩,.int .i64 0,.slice none 0 0],.struct [(0,3),(1,9),(2,42)]⟩
 | 258=>some ⟨1,8,[.nilFunc],.func⟩
 | 259=>some ⟨1,8,[.map none],.map 9 265⟩
 | 263=>some ⟨1,24,[.slice none 0 0],.slice 165⟩
 | 265=>some ⟨1,8,[.nilFunc],.func⟩
 | 275=>some ⟨1,8,[.pointer none],.ptr⟩
 | 276=>some ⟨1,24,[.slice none 0 0],.slice 5⟩
 | 278=>some ⟨2,32,[.pointer none,.slice none 0 0],.struct [(0,275),(1,276)]⟩
 | 293=>some ⟨3,16,[.int .i64 0,.bool false,.bool false],.struct [(0,3),(1,4),(2,4)]⟩
 | 294=>some ⟨1,8,[.map none],.map 9 293⟩
 | 310=>some ⟨1,8,[.int .u64 0],.int .u64⟩
 | 313=>some ⟨1,8,[.nilFunc],.func⟩
 | 320=>some ⟨1,8,[.map none],.map 46 165⟩
 | 322=>some ⟨6,80,[.bool false,.slice none 0 0,.bool false,.slice none 0 0,.bool false,.map none],.struct [(0,124),(4,4),(5,320)]⟩
 | 325=>some ⟨1,24,[.slice none 0 0],.slice 221⟩
 | 329=>some ⟨1,4,[.int .u32 0],.int .u32⟩
 | 337=>some ⟨1,24,[.slice none 0 0],.slice 377⟩
 | 352=>some ⟨1,8,[.pointer none],.ptr⟩
 | 356=>some ⟨1,8,[.int .u64 0],.int .u64⟩
 | 366=>some ⟨9,9,[.int .u8 0,.int .u8 0,.int .u8 0,.int .u8 0,.int .u8 0,.int .u8 0,.int .u8 0,.int .u8 0,.int .u8 0],.array 9 5⟩
 | 373=>some ⟨1,8,[.map none],.map 9 124⟩
 | 377=>some ⟨4,72,[.string ⟨#[]⟩,.bool false,.slice none 0 0,.slice none 0 0],.struct [(0,9),(1,140)]⟩
 | 385=>some ⟨256,256,[.bool false,.bool false,.bool false,.bool false,.bool false,.bool false,.bool false,.bool false,.bool false,.bool false,.bool false,.bool false,.bool false,.bool false,.bool false,.bool false,.bool false,.bool false,.bool false,.bool false,.bool false,.bool false,.bool false,.bool false,.bool false,.bool false,.bool false,.bool false,.bool false,.bool false,.bool false,.bool false,.bool false,.bool false,.bool false,.bool false,.bool false,.bool false,.bool false,.bool false,.bool false,.bool false,.bool false,.bool false,.bool false,.bool false,.bool false,.bool false,.bool false,.bool false,.bool false,.bool false,.bool false,.bool false,.bool false,.bool false,.bool false,.bool false,.bool false,.bool false,.bool false,.bool false,.bool false,.bool false,.bool false,.bool false,.bool false,.bool false,.bool false,.bool false,.bool false,.bool false,.bool false,.bool false,.bool false,.bool false,.bool false,.bool false,.bool false,.bool false,.bool false,.bool false,.bool false,.bool false,.bool false,.bool false,.bool false,.bool false,.bool false,.bool false,.bool false,.bool false,.bool false,.bool false,.bool false,.bool false,.bool false,.bool false,.bool false,.bool false,.bool false,.bool false,.bool false,.bool false,.bool false,.bool false,.bool false,.bool false,.bool false,.bool false,.bool false,.bool false,.bool false,.bool false,.bool false,.bool false,.bool false,.bool false,.bool false,.bool false,.bool false,.bool false,.bool false,.bool false,.bool false,.bool false,.bool false,.bool false,.bool false,.bool false,.bool false,.bool false,.bool false,.bool false,.bool false,.bool false,.bool false,.bool false,.bool false,.bool false,.bool false,.bool false,.bool false,.bool false,.bool false,.bool false,.bool false,.bool false,.bool false,.bool false,.bool false,.bool false,.bool false,.bool false,.bool false,.bool false,.bool false,.bool false,.bool false,.bool false,.bool false,.bool false,.bool false,.bool false,.bool false,.bool false,.bool false,.bool false,.bool false,.bool false,.bool false,.bool false,.bool false,.bool false,.bool false,.bool false,.bool false,.bool false,.bool false,.bool false,.bool false,.bool false,.bool false,.bool false,.bool false,.bool false,.bool false,.bool false,.bool false,.bool false,.bool false,.bool false,.bool false,.bool false,.bool false,.bool false,.bool false,.bool false,.bool false,.bool false,.bool false,.bool false,.bool false,.bool false,.bool false,.bool false,.bool false,.bool false,.bool false,.bool false,.bool false,.bool false,.bool false,.bool false,.bool false,.bool false,.bool false,.bool false,.bool false,.bool false,.bool false,.bool false,.bool false,.bool false,.bool false,.bool false,.bool false,.bool false,.bool false,.bool false,.bool false,.bool false,.bool false,.bool false,.bool false,.bool false,.bool false,.bool false,.bool false,.bool false,.bool false,.bool false,.bool false,.bool false,.bool false,.bool false,.bool false,.bool false,.bool false,.bool false,.bool false,.bool false,.bool false,.bool false,.bool false,.bool false],.array 256 4⟩
 | 389=>some ⟨1,8,[.pointer none],.ptr⟩
 | 391=>some ⟨1,8,[.nilFunc],.func⟩
 | 417=>some ⟨256,256,[.int .u8 0,.int .u8 0,.int .u8 0,.int .u8 0,.int .u8 0,.int .u8 0,.int .u8 0,.int .u8 0,.int .u8 0,.int .u8 0,.int .u8 0,.int .u8 0,.int .u8 0,.int .u8 0,.int .u8 0,.int .u8 0,.int .u8 0,.int .u8 0,.int .u8 0,.int .u8 0,.int .u8 0,.int .u8 0,.int .u8 0,.int .u8 0,.int .u8 0,.int .u8 0,.int .u8 0,.int .u8 0,.int .u8 0,.int .u8 0,.int .u8 0,.int .u8 0,.int .u8 0,.int .u8 0,.int .u8 0,.int .u8 0,.int .u8 0,.int .u8 0,.int .u8 0,.int .u8 0,.int .u8 0,.int .u8 0,.int .u8 0,.int .u8 0,.int .u8 0,.int .u8 0,.int .u8 0,.int .u8 0,.int .u8 0,.int .u8 0,.int .u8 0,.int .u8 0,.int .u8 0,.int .u8 0,.int .u8 0,.int .u8 0,.int .u8 0,.int .u8 0,.int .u8 0,.int .u8 0,.int .u8 0,.int .u8 0,.int .u8 0,.int .u8 0,.int .u8 0,.int .u8 0,.int .u8 0,.int .u8 0,.int .u8 0,.int .u8 0,.int .u8 0,.int .u8 0,.int .u8 0,.int .u8 0,.int .u8 0,.int .u8 0,.int .u8 0,.int .u8 0,.int .u8 0,.int .u8 0,.int .u8 0,.int .u8 0,.int .u8 0,.int .u8 0,.int .u8 0,.int .u8 0,.int .u8 0,.int .u8 0,.int .u8 0,.int .u8 0,.int .u8 0,.int .u8 0,.int .u8 0,.int .u8 0,.int .u8 0,.int .u8 0,.int .u8 0,.int .u8 0,.int .u8 0,.int .u8 0,.int .u8 0,.int .u8 0,.int .u8 0,.int .u8 0,.int .u8 0,.int .u8 0,.int .u8 0,.int .u8 0,.int .u8 0,.int .u8 0,.int .u8 0,.int .u8 0,.int .u8 0,.int .u8 0,.int .u8 0,.int .u8 0,.int .u8 0,.int .u8 0,.int .u8 0,.int .u8 0,.int .u8 0,.int .u8 0,.int .u8 0,.int .u8 0,.int .u8 0,.int .u8 0,.int .u8 0,.int .u8 0,.int .u8 0,.int .u8 0,.int .u8 0,.int .u8 0,.int .u8 0,.int .u8 0,.int .u8 0,.int .u8 0,.int .u8 0,.int .u8 0,.int .u8 0,.int .u8 0,.int .u8 0,.int .u8 0,.int .u8 0,.int .u8 0,.int .u8 0,.int .u8 0,.int .u8 0,.int .u8 0,.int .u8 0,.int .u8 0,.int .u8 0,.int .u8 0,.int .u8 0,.int .u8 0,.int .u8 0,.int .u8 0,.int .u8 0,.int .u8 0,.int .u8 0,.int .u8 0,.int .u8 0,.int .u8 0,.int .u8 0,.int .u8 0,.int .u8 0,.int .u8 0,.int .u8 0,.int .u8 0,.int .u8 0,.int .u8 0,.int .u8 0,.int .u8 0,.int .u8 0,.int .u8 0,.int .u8 0,.int .u8 0,.int .u8 0,.int .u8 0,.int .u8 0,.int .u8 0,.int .u8 0,.int .u8 0,.int .u8 0,.int .u8 0,.int .u8 0,.int .u8 0,.int .u8 0,.int .u8 0,.int .u8 0,.int .u8 0,.int .u8 0,.int .u8 0,.int .u8 0,.int .u8 0,.int .u8 0,.int .u8 0,.int .u8 0,.int .u8 0,.int .u8 0,.int .u8 0,.int .u8 0,.int .u8 0,.int .u8 0,.int .u8 0,.int .u8 0,.int .u8 0,.int .u8 0,.int .u8 0,.int .u8 0,.int .u8 0,.int .u8 0,.int .u8 0,.int .u8 0,.int .u8 0,.int .u8 0,.int .u8 0,.int .u8 0,.int .u8 0,.int .u8 0,.int .u8 0,.int .u8 0,.int .u8 0,.int .u8 0,.int .u8 0,.int .u8 0,.int .u8 0,.int .u8 0,.int .u8 0,.int .u8 0,.int .u8 0,.int .u8 0,.int .u8 0,.int .u8 0,.int .u8 0,.int .u8 0,.int .u8 0,.int .u8 0,.int .u8 0,.int .u8 0,.int .u8 0,.int .u8 0,.int .u8 0,.int .u8 0,.int .u8 0,.int .u8 0,.int .u8 0,.int .u8 0,.int .u8 0,.int .u8 0,.int .u8 0,.int .u8 0,.int .u8 0,.int .u8 0,.int .u8 0,.int .u8 0,.int .u8 0],.array 256 5⟩
 | 419=>some ⟨2,2,[.int .u8 0,.int .u8 0],.struct [(0,5),(1,5)]⟩
 | 420=>some ⟨32,32,[.int .u8 0,.int .u8 0,.int .u8 0,.int .u8 0,.int .u8 0,.int .u8 0,.int .u8 0,.int .u8 0,.int .u8 0,.int .u8 0,.int .u8 0,.int .u8 0,.int .u8 0,.int .u8 0,.int .u8 0,.int .u8 0,.int .u8 0,.int .u8 0,.int .u8 0,.int .u8 0,.int .u8 0,.int .u8 0,.int .u8 0,.int .u8 0,.int .u8 0,.int .u8 0,.int .u8 0,.int .u8 0,.int .u8 0,.int .u8 0,.int .u8 0,.int .u8 0],.array 16 419⟩
 | _=>none
theorem T_2:tdOf Tryz.prog 2=some ⟨1,8,[.int .i64 0],.int .i64⟩:=by kernel_rfl
theorem T_3:tdOf Tryz.prog 3=some ⟨1,8,[.int .i64 0],.int .i64⟩:=by kernel_rfl
theorem T_4:tdOf Tryz.prog 4=some ⟨1,1,[.bool false],.bool⟩:=by kernel_rfl
theorem T_5:tdOf Tryz.prog 5=some ⟨1,1,[.int .u8 0],.int .u8⟩:=by kernel_rfl
theorem T_9:tdOf Tryz.prog 9=some ⟨1,16,[.string ⟨#[]⟩],.str⟩:=by kernel_rfl
theorem T_21:tdOf Tryz.prog 21=some ⟨1,4,[.int .i32 0],.int .i32⟩:=by kernel_rfl
theorem T_22:tdOf Tryz.prog 22=some ⟨1,24,[.slice none 0 0],.slice 83⟩:=by kernel_rfl
theorem T_23:tdOf Tryz.prog 23=some ⟨1,24,[.slice none 0 0],.slice 44⟩:=by kernel_rfl
theorem T_24:tdOf Tryz.prog 24=some ⟨1,24,[.slice none 0 0],.slice 163⟩:=by kernel_rfl
theorem T_26:tdOf Tryz.prog 26=some ⟨4,96,[.slice none 0 0,.slice none 0 0,.slice none 0 0,.slice none 0 0],.struct [(0,22),(1,23),(2,23),(3,24)]⟩:=by kernel_rfl
theorem T_27:tdOf Tryz.prog 27=some ⟨1,24,[.slice none 0 0],.slice 46⟩:=by kernel_rfl
theorem T_28:tdOf Tryz.prog 28=some ⟨1,24,[.slice none 0 0],.slice 9⟩:=by kernel_rfl
theorem T_29:tdOf Tryz.prog 29=some ⟨1,24,[.slice none 0 0],.slice 95⟩:=by kernel_rfl
theorem T_31:tdOf Tryz.prog 31=some ⟨3,72,[.slice none 0 0,.slice none 0 0,.slice none 0 0],.struct [(0,28),(1,27),(2,29)]⟩:=by kernel_rfl
theorem T_32:tdOf Tryz.prog 32=some ⟨1,8,[.int .i64 0],.int .i64⟩:=by kernel_rfl
theorem T_40:tdOf Tryz.prog 40=some ⟨1,24,[.slice none 0 0],.slice 42⟩:=by kernel_rfl
theorem T_42:tdOf Tryz.prog 42=some ⟨4,64,[.string ⟨#[]⟩,.string ⟨#[]⟩,.int .i64 0,.slice none 0 0],.struct [(0,9),(1,9),(2,3),(3,40)]⟩:=by kernel_rfl
theorem T_44:tdOf Tryz.prog 44=some ⟨9,144,[.string ⟨#[]⟩,.string ⟨#[]⟩,.string ⟨#[]⟩,.int .i64 0,.slice none 0 0,.string ⟨#[]⟩,.string ⟨#[]⟩,.int .i64 0,.slice none 0 0],.struct [(0,9),(1,42),(5,42)]⟩:=by kernel_rfl
theorem T_46:tdOf Tryz.prog 46=some ⟨3,32,[.string ⟨#[]⟩,.int .i64 0,.bool false],.struct [(0,9),(1,3),(2,4)]⟩:=by kernel_rfl
theorem T_48:tdOf Tryz.prog 48=some ⟨1,24,[.slice none 0 0],.slice 154⟩:=by kernel_rfl
theorem T_50:tdOf Tryz.prog 50=some ⟨3,48,[.string ⟨#[]⟩,.bool false,.slice none 0 0],.struct [(0,9),(1,4),(2,48)]⟩:=by kernel_rfl
theorem T_74:tdOf Tryz.prog 74=some ⟨1,8,[.nilFunc],.func⟩:=by kernel_rfl
theorem T_77:tdOf Tryz.prog 77=some ⟨1,24,[.slice none 0 0],.slice 28⟩:=by kernel_rfl
theorem T_81:tdOf Tryz.prog 81=some ⟨1,8,[.map none],.map 9 3⟩:=by kernel_rfl
theorem T_83:tdOf Tryz.prog 83=some ⟨7,88,[.string ⟨#[]⟩,.int .i64 0,.int .i64 0,.string ⟨#[]⟩,.string ⟨#[]⟩,.bool false,.string ⟨#[]⟩],.struct [(0,9),(1,3),(2,3),(3,9),(4,9),(5,4),(6,9)]⟩:=by kernel_rfl
theorem T_90:tdOf Tryz.prog 90=some ⟨1,8,[.map none],.map 46 4⟩:=by kernel_rfl
theorem T_95:tdOf Tryz.prog 95=some ⟨1,24,[.slice none 0 0],.slice 3⟩:=by kernel_rfl
theorem T_99:tdOf Tryz.prog 99=some ⟨2,48,[.slice none 0 0,.slice none 0 0],.struct [(0,28),(1,27)]⟩:=by kernel_rfl
theorem T_106:tdOf Tryz.prog 106=some ⟨1,24,[.slice none 0 0],.slice 211⟩:=by kernel_rfl
theorem T_116:tdOf Tryz.prog 116=some ⟨1,8,[.pointer none],.ptr⟩:=by kernel_rfl
theorem T_119:tdOf Tryz.prog 119=some ⟨1,24,[.slice none 0 0],.slice 124⟩:=by kernel_rfl
theorem T_120:tdOf Tryz.prog 120=some ⟨1,24,[.slice none 0 0],.slice 329⟩:=by kernel_rfl
theorem T_122:tdOf Tryz.prog 122=some ⟨2,32,[.bool false,.slice none 0 0],.struct [(0,4),(1,120)]⟩:=by kernel_rfl
theorem T_124:tdOf Tryz.prog 124=some ⟨4,64,[.bool false,.slice none 0 0,.bool false,.slice none 0 0],.struct [(0,122),(2,122)]⟩:=by kernel_rfl
theorem T_126:tdOf Tryz.prog 126=some ⟨5,88,[.slice none 0 0,.bool false,.slice none 0 0,.bool false,.slice none 0 0],.struct [(0,119),(1,124)]⟩:=by kernel_rfl
theorem T_129:tdOf Tryz.prog 129=some ⟨1,8,[.map none],.map 9 83⟩:=by kernel_rfl
theorem T_132:tdOf Tryz.prog 132=some ⟨3,40,[.map none,.slice none 0 0,.pointer none],.struct [(0,129),(1,27),(2,116)]⟩:=by kernel_rfl
theorem T_136:tdOf Tryz.prog 136=some ⟨1,8,[.nilFunc],.func⟩:=by kernel_rfl
theorem T_138:tdOf Tryz.prog 138=some ⟨1,24,[.slice none 0 0],.slice 140⟩:=by kernel_rfl
theorem T_140:tdOf Tryz.prog 140=some ⟨3,56,[.bool false,.slice none 0 0,.slice none 0 0],.struct [(0,4),(1,95),(2,95)]⟩:=by kernel_rfl
theorem T_142:tdOf Tryz.prog 142=some ⟨4,80,[.slice none 0 0,.bool false,.slice none 0 0,.slice none 0 0],.struct [(0,138),(1,140)]⟩:=by kernel_rfl
theorem T_150:tdOf Tryz.prog 150=some ⟨1,8,[.nilFunc],.func⟩:=by kernel_rfl
theorem T_154:tdOf Tryz.prog 154=some ⟨4,48,[.string ⟨#[]⟩,.int .i64 0,.bool false,.string ⟨#[]⟩],.struct [(0,46),(3,9)]⟩:=by kernel_rfl
theorem T_158:tdOf Tryz.prog 158=some ⟨1,8,[.nilFunc],.func⟩:=by kernel_rfl
theorem T_161:tdOf Tryz.prog 161=some ⟨1,24,[.slice none 0 0],.slice 256⟩:=by kernel_rfl
theorem T_163:tdOf Tryz.prog 163=some ⟨6,104,[.string ⟨#[]⟩,.string ⟨#[]⟩,.string ⟨#[]⟩,.int .i64 0,.slice none 0 0,.slice none 0 0],.struct [(0,9),(1,42),(5,161)]⟩:=by kernel_rfl
theorem T_165:tdOf Tryz.prog 165=some ⟨6,72,[.bool false,.slice none 0 0,.bool false,.slice none 0 0,.bool false,.bool false],.struct [(0,124),(4,4),(5,4)]⟩:=by kernel_rfl
theorem T_169:tdOf Tryz.prog 169=some ⟨5,64,[.bool false,.bool false,.bool false,.slice none 0 0,.slice none 0 0],.struct [(0,4),(1,4),(2,140)]⟩:=by kernel_rfl
theorem T_174:tdOf Tryz.prog 174=some ⟨1,8,[.nilFunc],.func⟩:=by kernel_rfl
theorem T_184:tdOf Tryz.prog 184=some ⟨1,24,[.slice none 0 0],.slice 126⟩:=by kernel_rfl
theorem T_186:tdOf Tryz.prog 186=some ⟨1,24,[.slice none 0 0],.slice 142⟩:=by kernel_rfl
theorem T_196:tdOf Tryz.prog 196=some ⟨1,24,[.slice none 0 0],.slice 4⟩:=by kernel_rfl
theorem T_203:tdOf Tryz.prog 203=some ⟨1,24,[.slice none 0 0],.slice 3⟩:=by kernel_rfl
theorem T_210:tdOf Tryz.prog 210=some ⟨1,8,[.nilFunc],.func⟩:=by kernel_rfl
theorem T_211:tdOf Tryz.prog 211=some ⟨2,16,[.int .i64 0,.int .i64 0],.array 2 3⟩:=by kernel_rfl
theorem T_221:tdOf Tryz.prog 221=some ⟨9,152,[.slice none 0 0,.bool false,.slice none 0 0,.bool false,.slice none 0 0,.bool false,.slice none 0 0,.bool false,.slice none 0 0],.struct [(0,126),(5,124)]⟩:=by kernel_rfl
theorem T_239:tdOf Tryz.prog 239=some ⟨1,8,[.nilFunc],.func⟩:=by kernel_rfl
theorem T_243:tdOf Tryz.prog 243=some ⟨1,8,[.nilFunc],.func⟩:=by kernel_rfl
theorem T_245:tdOf Tryz.prog 245=some ⟨1,8,[.nilFunc],.func⟩:=by kernel_rfl
theorem T_247:tdOf Tryz.prog 247=some ⟨1,8,[.nilFunc],.func⟩:=by kernel_rfl
theorem T_249:tdOf Tryz.prog 249=some ⟨1,24,[.slice none 0 0],.slice 23⟩:=by kernel_rfl
theorem T_251:tdOf Tryz.prog 251=some ⟨1,8,[.map none],.map 9 4⟩:=by kernel_rfl
theorem T_256:tdOf Tryz.prog 256=some ⟨6,88,[.int .i64 0,.string ⟨#[]⟩,.string ⟨#[]⟩,.string ⟨#[]⟩,.int .i64 0,.slice none 0 0],.struct [(0,3),(1,9),(2,42)]⟩:=by kernel_rfl
theorem T_258:tdOf Tryz.prog 258=some ⟨1,8,[.nilFunc],.func⟩:=by kernel_rfl
theorem T_259:tdOf Tryz.prog 259=some ⟨1,8,[.map none],.map 9 265⟩:=by kernel_rfl
theorem T_263:tdOf Tryz.prog 263=some ⟨1,24,[.slice none 0 0],.slice 165⟩:=by kernel_rfl
theorem T_265:tdOf Tryz.prog 265=some ⟨1,8,[.nilFunc],.func⟩:=by kernel_rfl
theorem T_275:tdOf Tryz.prog 275=some ⟨1,8,[.pointer none],.ptr⟩:=by kernel_rfl
theorem T_276:tdOf Tryz.prog 276=some ⟨1,24,[.slice none 0 0],.slice 5⟩:=by kernel_rfl
theorem T_278:tdOf Tryz.prog 278=some ⟨2,32,[.pointer none,.slice none 0 0],.struct [(0,275),(1,276)]⟩:=by kernel_rfl
theorem T_293:tdOf Tryz.prog 293=some ⟨3,16,[.int .i64 0,.bool false,.bool false],.struct [(0,3),(1,4),(2,4)]⟩:=by kernel_rfl
theorem T_294:tdOf Tryz.prog 294=some ⟨1,8,[.map none],.map 9 293⟩:=by kernel_rfl
theorem T_310:tdOf Tryz.prog 310=some ⟨1,8,[.int .u64 0],.int .u64⟩:=by kernel_rfl
theorem T_313:tdOf Tryz.prog 313=some ⟨1,8,[.nilFunc],.func⟩:=by kernel_rfl
theorem T_320:tdOf Tryz.prog 320=some ⟨1,8,[.map none],.map 46 165⟩:=by kernel_rfl
theorem T_322:tdOf Tryz.prog 322=some ⟨6,80,[.bool false,.slice none 0 0,.bool false,.slice none 0 0,.bool false,.map none],.struct [(0,124),(4,4),(5,320)]⟩:=by kernel_rfl
theorem T_325:tdOf Tryz.prog 325=some ⟨1,24,[.slice none 0 0],.slice 221⟩:=by kernel_rfl
theorem T_329:tdOf Tryz.prog 329=some ⟨1,4,[.int .u32 0],.int .u32⟩:=by kernel_rfl
theorem T_337:tdOf Tryz.prog 337=some ⟨1,24,[.slice none 0 0],.slice 377⟩:=by kernel_rfl
theorem T_352:tdOf Tryz.prog 352=some ⟨1,8,[.pointer none],.ptr⟩:=by kernel_rfl
theorem T_356:tdOf Tryz.prog 356=some ⟨1,8,[.int .u64 0],.int .u64⟩:=by kernel_rfl
theorem T_366:tdOf Tryz.prog 366=some ⟨9,9,[.int .u8 0,.int .u8 0,.int .u8 0,.int .u8 0,.int .u8 0,.int .u8 0,.int .u8 0,.int .u8 0,.int .u8 0],.array 9 5⟩:=by kernel_rfl
theorem T_373:tdOf Tryz.prog 373=some ⟨1,8,[.map none],.map 9 124⟩:=by kernel_rfl
theorem T_377:tdOf Tryz.prog 377=some ⟨4,72,[.string ⟨#[]⟩,.bool false,.slice none 0 0,.slice none 0 0],.struct [(0,9),(1,140)]⟩:=by kernel_rfl
theorem T_385:tdOf Tryz.prog 385=some ⟨256,256,[.bool false,.bool false,.bool false,.bool false,.bool false,.bool false,.bool false,.bool false,.bool false,.bool false,.bool false,.bool false,.bool false,.bool false,.bool false,.bool false,.bool false,.bool false,.bool false,.bool false,.bool false,.bool false,.bool false,.bool false,.bool false,.bool false,.bool false,.bool false,.bool false,.bool false,.bool false,.bool false,.bool false,.bool false,.bool false,.bool false,.bool false,.bool false,.bool false,.bool false,.bool false,.bool false,.bool false,.bool false,.bool false,.bool false,.bool false,.bool false,.bool false,.bool false,.bool false,.bool false,.bool false,.bool false,.bool false,.bool false,.bool false,.bool false,.bool false,.bool false,.bool false,.bool false,.bool false,.bool false,.bool false,.bool false,.bool false,.bool false,.bool false,.bool false,.bool false,.bool false,.bool false,.bool false,.bool false,.bool false,.bool false,.bool false,.bool false,.bool false,.bool false,.bool false,.bool false,.bool false,.bool false,.bool false,.bool false,.bool false,.bool false,.bool false,.bool false,.bool false,.bool false,.bool false,.bool false,.bool false,.bool false,.bool false,.bool false,.bool false,.bool false,.bool false,.bool false,.bool false,.bool false,.bool false,.bool false,.bool false,.bool false,.bool false,.bool false,.bool false,.bool false,.bool false,.bool false,.bool false,.bool false,.bool false,.bool false,.bool false,.bool false,.bool false,.bool false,.bool false,.bool false,.bool false,.bool false,.bool false,.bool false,.bool false,.bool false,.bool false,.bool false,.bool false,.bool false,.bool false,.bool false,.bool false,.bool false,.bool false,.bool false,.bool false,.bool false,.bool false,.bool false,.bool false,.bool false,.bool false,.bool false,.bool false,.bool false,.bool false,.bool false,.bool false,.bool false,.bool false,.bool false,.bool false,.bool false,.bool false,.bool false,.bool false,.bool false,.bool false,.bool false,.bool false,.bool false,.bool false,.bool false,.bool false,.bool false,.bool false,.bool false,.bool false,.bool false,.bool false,.bool false,.bool false,.bool false,.bool false,.bool false,.bool false,.bool false,.bool false,.bool false,.bool false,.bool false,.bool false,.bool false,.bool false,.bool false,.bool false,.bool false,.bool false,.bool false,.bool false,.bool false,.bool false,.bool false,.bool false,.bool false,.bool false,.bool false,.bool false,.bool false,.bool false,.bool false,.bool false,.bool false,.bool false,.bool false,.bool false,.bool false,.bool false,.bool false,.bool false,.bool false,.bool false,.bool false,.bool false,.bool false,.bool false,.bool false,.bool false,.bool false,.bool false,.bool false,.bool false,.bool false,.bool false,.bool false,.bool false,.bool false,.bool false,.bool false,.bool false,.bool false,.bool false,.bool false,.bool false,.bool false,.bool false,.bool false,.bool false,.bool false,.bool false,.bool false,.bool false,.bool false,.bool false,.bool false,.bool false,.bool false,.bool false,.bool false,.bool false],.array 256 4⟩:=by kernel_rfl
theorem T_389:tdOf Tryz.prog 389=some ⟨1,8,[.pointer none],.ptr⟩:=by kernel_rfl
theorem T_391:tdOf Tryz.prog 391=some ⟨1,8,[.nilFunc],.func⟩:=by kernel_rfl
theorem T_417:tdOf Tryz.prog 417=some ⟨256,256,[.int .u8 0,.int .u8 0,.int .u8 0,.int .u8 0,.int .u8 0,.int .u8 0,.int .u8 0,.int .u8 0,.int .u8 0,.int .u8 0,.int .u8 0,.int .u8 0,.int .u8 0,.int .u8 0,.int .u8 0,.int .u8 0,.int .u8 0,.int .u8 0,.int .u8 0,.int .u8 0,.int .u8 0,.int .u8 0,.int .u8 0,.int .u8 0,.int .u8 0,.int .u8 0,.int .u8 0,.int .u8 0,.int .u8 0,.int .u8 0,.int .u8 0,.int .u8 0,.int .u8 0,.int .u8 0,.int .u8 0,.int .u8 0,.int .u8 0,.int .u8 0,.int .u8 0,.int .u8 0,.int .u8 0,.int .u8 0,.int .u8 0,.int .u8 0,.int .u8 0,.int .u8 0,.int .u8 0,.int .u8 0,.int .u8 0,.int .u8 0,.int .u8 0,.int .u8 0,.int .u8 0,.int .u8 0,.int .u8 0,.int .u8 0,.int .u8 0,.int .u8 0,.int .u8 0,.int .u8 0,.int .u8 0,.int .u8 0,.int .u8 0,.int .u8 0,.int .u8 0,.int .u8 0,.int .u8 0,.int .u8 0,.int .u8 0,.int .u8 0,.int .u8 0,.int .u8 0,.int .u8 0,.int .u8 0,.int .u8 0,.int .u8 0,.int .u8 0,.int .u8 0,.int .u8 0,.int .u8 0,.int .u8 0,.int .u8 0,.int .u8 0,.int .u8 0,.int .u8 0,.int .u8 0,.int .u8 0,.int .u8 0,.int .u8 0,.int .u8 0,.int .u8 0,.int .u8 0,.int .u8 0,.int .u8 0,.int .u8 0,.int .u8 0,.int .u8 0,.int .u8 0,.int .u8 0,.int .u8 0,.int .u8 0,.int .u8 0,.int .u8 0,.int .u8 0,.int .u8 0,.int .u8 0,.int .u8 0,.int .u8 0,.int .u8 0,.int .u8 0,.int .u8 0,.int .u8 0,.int .u8 0,.int .u8 0,.int .u8 0,.int .u8 0,.int .u8 0,.int .u8 0,.int .u8 0,.int .u8 0,.int .u8 0,.int .u8 0,.int .u8 0,.int .u8 0,.int .u8 0,.int .u8 0,.int .u8 0,.int .u8 0,.int .u8 0,.int .u8 0,.int .u8 0,.int .u8 0,.int .u8 0,.int .u8 0,.int .u8 0,.int .u8 0,.int .u8 0,.int .u8 0,.int .u8 0,.int .u8 0,.int .u8 0,.int .u8 0,.int .u8 0,.int .u8 0,.int .u8 0,.int .u8 0,.int .u8 0,.int .u8 0,.int .u8 0,.int .u8 0,.int .u8 0,.int .u8 0,.int .u8 0,.int .u8 0,.int .u8 0,.int .u8 0,.int .u8 0,.int .u8 0,.int .u8 0,.int .u8 0,.int .u8 0,.int .u8 0,.int .u8 0,.int .u8 0,.int .u8 0,.int .u8 0,.int .u8 0,.int .u8 0,.int .u8 0,.int .u8 0,.int .u8 0,.int .u8 0,.int .u8 0,.int .u8 0,.int .u8 0,.int .u8 0,.int .u8 0,.int .u8 0,.int .u8 0,.int .u8 0,.int .u8 0,.int .u8 0,.int .u8 0,.int .u8 0,.int .u8 0,.int .u8 0,.int .u8 0,.int .u8 0,.int .u8 0,.int .u8 0,.int .u8 0,.int .u8 0,.int .u8 0,.int .u8 0,.int .u8 0,.int .u8 0,.int .u8 0,.int .u8 0,.int .u8 0,.int .u8 0,.int .u8 0,.int .u8 0,.int .u8 0,.int .u8 0,.int .u8 0,.int .u8 0,.int .u8 0,.int .u8 0,.int .u8 0,.int .u8 0,.int .u8 0,.int .u8 0,.int .u8 0,.int .u8 0,.int .u8 0,.int .u8 0,.int .u8 0,.int .u8 0,.int .u8 0,.int .u8 0,.int .u8 0,.int .u8 0,.int .u8 0,.int .u8 0,.int .u8 0,.int .u8 0,.int .u8 0,.int .u8 0,.int .u8 0,.int .u8 0,.int .u8 0,.int .u8 0,.int .u8 0,.int .u8 0,.int .u8 0,.int .u8 0,.int .u8 0,.int .u8 0,.int .u8 0,.int .u8 0,.int .u8 0,.int .u8 0,.int .u8 0,.int .u8 0,.int .u8 0,.int .u8 0,.int .u8 0,.int .u8 0,.int .u8 0,.int .u8 0,.int .u8 0,.int .u8 0,.int .u8 0,.int .u8 0,.int .u8 0,.int .u8 0],.array 256 5⟩:=by kernel_rfl
theorem T_419:tdOf Tryz.prog 419=some ⟨2,2,[.int .u8 0,.int .u8 0],.struct [(0,5),(1,5)]⟩:=by kernel_rfl
theorem T_420:tdOf Tryz.prog 420=some ⟨32,32,[.int .u8 0,.int .u8 0,.int .u8 0,.int .u8 0,.int .u8 0,.int .u8 0,.int .u8 0,.int .u8 0,.int .u8 0,.int .u8 0,.int .u8 0,.int .u8 0,.int .u8 0,.int .u8 0,.int .u8 0,.int .u8 0,.int .u8 0,.int .u8 0,.int .u8 0,.int .u8 0,.int .u8 0,.int .u8 0,.int .u8 0,.int .u8 0,.int .u8 0,.int .u8 0,.int .u8 0,.int .u8 0,.int .u8 0,.int .u8 0,.int .u8 0,.int .u8 0],.array 16 419⟩:=by kernel_rfl
theorem T_ok:TOk Tryz.prog T:=by
 intro t d h
 unfold T at h
 split at h
 ·cases h;exact T_2
 ·cases h;exact T_3
 ·cases h;exact T_4
 ·cases h;exact T_5
 ·cases h;exact T_9
 ·cases h;exact T_21
 ·cases h;exact T_22
 ·cases h;exact T_23
 ·cases h;exact T_24
 ·cases h;exact T_26
 ·cases h;exact T_27
 ·cases h;exact T_28
 ·cases h;exact T_29
 ·cases h;exact T_31
 ·cases h;exact T_32
 ·cases h;exact T_40
 ·cases h;exact T_42
 ·cases h;exact T_44
 ·cases h;exact T_46
 ·cases h;exact T_48
 ·cases h;exact T_50
 ·cases h;exact T_74
 ·cases h;exact T_77
 ·cases h;exact T_81
 ·cases h;exact T_83
 ·cases h;exact T_90
 ·cases h;exact T_95
 ·cases h;exact T_99
 ·cases h;exact T_106
 ·cases h;exact T_116
 ·cases h;exact T_119
 ·cases h;exact T_120
 ·cases h;exact T_122
 ·cases h;exact T_124
 ·cases h;exact T_126
 ·cases h;exact T_129
 ·cases h;exact T_132
 ·cases h;exact T_136
 ·cases h;exact T_138
 ·cases h;exact T_140
 ·cases h;exact T_142
 ·cases h;exact T_150
 ·cases h;exact T_154
 ·cases h;exact T_158
 ·cases h;exact T_161
 ·cases h;exact T_163
 ·cases h;exact T_165
 ·cases h;exact T_169
 ·cases h;exact T_174
 ·cases h;exact T_184
 ·cases h;exact T_186
 ·cases h;exact T_196
 ·cases h;exact T_203
 ·cases h;exact T_210
 ·cases h;exact T_211
 ·cases h;exact T_221
 ·cases h;exact T_239
 ·cases h;exact T_243
 ·cases h;exact T_245
 ·cases h;exact T_247
 ·cases h;exact T_249
 ·cases h;exact T_251
 ·cases h;exact T_256
 ·cases h;exact T_258
 ·cases h;exact T_259
 ·cases h;exact T_263
 ·cases h;exact T_265
 ·cases h;exact T_275
 ·cases h;exact T_276
 ·cases h;exact T_278
 ·cases h;exact T_293
 ·cases h;exact T_294
 ·cases h;exact T_310
 ·cases h;exact T_313
 ·cases h;exact T_320
 ·cases h;exact T_322
 ·cases h;exact T_325
 ·cases h;exact T_329
 ·cases h;exact T_337
 ·cases h;exact T_352
 ·cases h;exact T_356
 ·cases h;exact T_366
 ·cases h;exact T_373
 ·cases h;exact T_377
 ·cases h;exact T_385
 ·cases h;exact T_389
 ·cases h;exact T_391
 ·cases h;exact T_417
 ·cases h;exact T_419
 ·cases h;exact T_420
 ·cases h
noncomputable def E (base:Nat):En:=⟨Tryz.prog,T,base⟩
theorem c3:Callable Tryz.prog 3:=⟨_,Tryz.func3,by kernel_rfl,by kernel_rfl⟩
theorem c15:Callable Tryz.prog 15:=⟨_,Tryz.func15,by kernel_rfl,by kernel_rfl⟩
theorem c17:Callable Tryz.prog 17:=⟨_,Tryz.func17,by kernel_rfl,by kernel_rfl⟩
theorem c19:Callable Tryz.prog 19:=⟨_,Tryz.func19,by kernel_rfl,by kernel_rfl⟩
theorem c20:Callable Tryz.prog 20:=⟨_,Tryz.func20,by kernel_rfl,by kernel_rfl⟩
theorem c21:Callable Tryz.prog 21:=⟨_,Tryz.func21,by kernel_rfl,by kernel_rfl⟩
theorem c36:Callable Tryz.prog 36:=⟨_,Tryz.func36,by kernel_rfl,by kernel_rfl⟩
theorem c50:Callable Tryz.prog 50:=⟨_,Tryz.func50,by kernel_rfl,by kernel_rfl⟩
theorem c51:Callable Tryz.prog 51:=⟨_,Tryz.func51,by kernel_rfl,by kernel_rfl⟩
theorem c52:Callable Tryz.prog 52:=⟨_,Tryz.func52,by kernel_rfl,by kernel_rfl⟩
theorem c55:Callable Tryz.prog 55:=⟨_,Tryz.func55,by kernel_rfl,by kernel_rfl⟩
theorem c57:Callable Tryz.prog 57:=⟨_,Tryz.func57,by kernel_rfl,by kernel_rfl⟩
theorem c58:Callable Tryz.prog 58:=⟨_,Tryz.func58,by kernel_rfl,by kernel_rfl⟩
theorem c59:Callable Tryz.prog 59:=⟨_,Tryz.func59,by kernel_rfl,by kernel_rfl⟩
theorem c60:Callable Tryz.prog 60:=⟨_,Tryz.func60,by kernel_rfl,by kernel_rfl⟩
theorem c61:Callable Tryz.prog 61:=⟨_,Tryz.func61,by kernel_rfl,by kernel_rfl⟩
theorem c62:Callable Tryz.prog 62:=⟨_,Tryz.func62,by kernel_rfl,by kernel_rfl⟩
theorem c63:Callable Tryz.prog 63:=⟨_,Tryz.func63,by kernel_rfl,by kernel_rfl⟩
theorem c64:Callable Tryz.prog 64:=⟨_,Tryz.func64,by kernel_rfl,by kernel_rfl⟩
theorem c65:Callable Tryz.prog 65:=⟨_,Tryz.func65,by kernel_rfl,by kernel_rfl⟩
theorem c66:Callable Tryz.prog 66:=⟨_,Tryz.func66,by kernel_rfl,by kernel_rfl⟩
theorem c67:Callable Tryz.prog 67:=⟨_,Tryz.func67,by kernel_rfl,by kernel_rfl⟩
theorem c68:Callable Tryz.prog 68:=⟨_,Tryz.func68,by kernel_rfl,by kernel_rfl⟩
theorem c69:Callable Tryz.prog 69:=⟨_,Tryz.func69,by kernel_rfl,by kernel_rfl⟩
theorem c93:Callable Tryz.prog 93:=⟨_,Tryz.func93,by kernel_rfl,by kernel_rfl⟩
theorem c94:Callable Tryz.prog 94:=⟨_,Tryz.func94,by kernel_rfl,by kernel_rfl⟩
theorem c101:Callable Tryz.prog 101:=⟨_,Tryz.func101,by kernel_rfl,by kernel_rfl⟩
theorem c110:Callable Tryz.prog 110:=⟨_,Tryz.func110,by kernel_rfl,by kernel_rfl⟩
theorem c111:Callable Tryz.prog 111:=⟨_,Tryz.func111,by kernel_rfl,by kernel_rfl⟩
theorem c112:Callable Tryz.prog 112:=⟨_,Tryz.func112,by kernel_rfl,by kernel_rfl⟩
theorem c113:Callable Tryz.prog 113:=⟨_,Tryz.func113,by kernel_rfl,by kernel_rfl⟩
theorem c116:Callable Tryz.prog 116:=⟨_,Tryz.func116,by kernel_rfl,by kernel_rfl⟩
theorem c120:Callable Tryz.prog 120:=⟨_,Tryz.func120,by kernel_rfl,by kernel_rfl⟩
theorem c124:Callable Tryz.prog 124:=⟨_,Tryz.func124,by kernel_rfl,by kernel_rfl⟩
theorem c130:Callable Tryz.prog 130:=⟨_,Tryz.func130,by kernel_rfl,by kernel_rfl⟩
theorem c131:Callable Tryz.prog 131:=⟨_,Tryz.func131,by kernel_rfl,by kernel_rfl⟩
theorem c132:Callable Tryz.prog 132:=⟨_,Tryz.func132,by kernel_rfl,by kernel_rfl⟩
theorem c143:Callable Tryz.prog 143:=⟨_,Tryz.func143,by kernel_rfl,by kernel_rfl⟩
theorem c145:Callable Tryz.prog 145:=⟨_,Tryz.func145,by kernel_rfl,by kernel_rfl⟩
theorem c147:Callable Tryz.prog 147:=⟨_,Tryz.func147,by kernel_rfl,by kernel_rfl⟩
theorem c148:Callable Tryz.prog 148:=⟨_,Tryz.func148,by kernel_rfl,by kernel_rfl⟩
theorem c154:Callable Tryz.prog 154:=⟨_,Tryz.func154,by kernel_rfl,by kernel_rfl⟩
theorem c160:Callable Tryz.prog 160:=⟨_,Tryz.func160,by kernel_rfl,by kernel_rfl⟩
theorem c162:Callable Tryz.prog 162:=⟨_,Tryz.func162,by kernel_rfl,by kernel_rfl⟩
theorem c163:Callable Tryz.prog 163:=⟨_,Tryz.func163,by kernel_rfl,by kernel_rfl⟩
theorem c164:Callable Tryz.prog 164:=⟨_,Tryz.func164,by kernel_rfl,by kernel_rfl⟩
theorem c175:Callable Tryz.prog 175:=⟨_,Tryz.func175,by kernel_rfl,by kernel_rfl⟩
theorem c176:Callable Tryz.prog 176:=⟨_,Tryz.func176,by kernel_rfl,by kernel_rfl⟩
theorem c178:Callable Tryz.prog 178:=⟨_,Tryz.func178,by kernel_rfl,by kernel_rfl⟩
theorem c179:Callable Tryz.prog 179:=⟨_,Tryz.func179,by kernel_rfl,by kernel_rfl⟩
theorem c180:Callable Tryz.prog 180:=⟨_,Tryz.func180,by kernel_rfl,by kernel_rfl⟩
theorem c181:Callable Tryz.prog 181:=⟨_,Tryz.func181,by kernel_rfl,by kernel_rfl⟩
theorem c182:Callable Tryz.prog 182:=⟨_,Tryz.func182,by kernel_rfl,by kernel_rfl⟩
theorem c183:Callable Tryz.prog 183:=⟨_,Tryz.func183,by kernel_rfl,by kernel_rfl⟩
theorem c184:Callable Tryz.prog 184:=⟨_,Tryz.func184,by kernel_rfl,by kernel_rfl⟩
theorem c185:Callable Tryz.prog 185:=⟨_,Tryz.func185,by kernel_rfl,by kernel_rfl⟩
theorem c186:Callable Tryz.prog 186:=⟨_,Tryz.func186,by kernel_rfl,by kernel_rfl⟩
theorem c187:Callable Tryz.prog 187:=⟨_,Tryz.func187,by kernel_rfl,by kernel_rfl⟩
theorem c188:Callable Tryz.prog 188:=⟨_,Tryz.func188,by kernel_rfl,by kernel_rfl⟩
theorem c189:Callable Tryz.prog 189:=⟨_,Tryz.func189,by kernel_rfl,by kernel_rfl⟩
theorem c190:Callable Tryz.prog 190:=⟨_,Tryz.func190,by kernel_rfl,by kernel_rfl⟩
theorem c191:Callable Tryz.prog 191:=⟨_,Tryz.func191,by kernel_rfl,by kernel_rfl⟩
theorem c192:Callable Tryz.prog 192:=⟨_,Tryz.func192,by kernel_rfl,by kernel_rfl⟩
theorem c193:Callable Tryz.prog 193:=⟨_,Tryz.func193,by kernel_rfl,by kernel_rfl⟩
theorem c195:Callable Tryz.prog 195:=⟨_,Tryz.func195,by kernel_rfl,by kernel_rfl⟩
theorem c201:Callable Tryz.prog 201:=⟨_,Tryz.func201,by kernel_rfl,by kernel_rfl⟩
theorem c204:Callable Tryz.prog 204:=⟨_,Tryz.func204,by kernel_rfl,by kernel_rfl⟩
theorem c223:Callable Tryz.prog 223:=⟨_,Tryz.func223,by kernel_rfl,by kernel_rfl⟩
theorem c224:Callable Tryz.prog 224:=⟨_,Tryz.func224,by kernel_rfl,by kernel_rfl⟩
theorem c225:Callable Tryz.prog 225:=⟨_,Tryz.func225,by kernel_rfl,by kernel_rfl⟩
theorem c226:Callable Tryz.prog 226:=⟨_,Tryz.func226,by kernel_rfl,by kernel_rfl⟩
theorem c227:Callable Tryz.prog 227:=⟨_,Tryz.func227,by kernel_rfl,by kernel_rfl⟩
theorem c228:Callable Tryz.prog 228:=⟨_,Tryz.func228,by kernel_rfl,by kernel_rfl⟩
theorem c229:Callable Tryz.prog 229:=⟨_,Tryz.func229,by kernel_rfl,by kernel_rfl⟩
theorem c230:Callable Tryz.prog 230:=⟨_,Tryz.func230,by kernel_rfl,by kernel_rfl⟩
theorem c231:Callable Tryz.prog 231:=⟨_,Tryz.func231,by kernel_rfl,by kernel_rfl⟩
theorem c232:Callable Tryz.prog 232:=⟨_,Tryz.func232,by kernel_rfl,by kernel_rfl⟩
theorem c233:Callable Tryz.prog 233:=⟨_,Tryz.func233,by kernel_rfl,by kernel_rfl⟩
theorem c234:Callable Tryz.prog 234:=⟨_,Tryz.func234,by kernel_rfl,by kernel_rfl⟩
theorem c235:Callable Tryz.prog 235:=⟨_,Tryz.func235,by kernel_rfl,by kernel_rfl⟩
theorem c236:Callable Tryz.prog 236:=⟨_,Tryz.func236,by kernel_rfl,by kernel_rfl⟩
theorem c238:Callable Tryz.prog 238:=⟨_,Tryz.func238,by kernel_rfl,by kernel_rfl⟩
theorem c240:Callable Tryz.prog 240:=⟨_,Tryz.func240,by kernel_rfl,by kernel_rfl⟩
theorem c241:Callable Tryz.prog 241:=⟨_,Tryz.func241,by kernel_rfl,by kernel_rfl⟩
theorem c242:Callable Tryz.prog 242:=⟨_,Tryz.func242,by kernel_rfl,by kernel_rfl⟩
theorem c243:Callable Tryz.prog 243:=⟨_,Tryz.func243,by kernel_rfl,by kernel_rfl⟩
theorem c247:Callable Tryz.prog 247:=⟨_,Tryz.func247,by kernel_rfl,by kernel_rfl⟩
theorem c248:Callable Tryz.prog 248:=⟨_,Tryz.func248,by kernel_rfl,by kernel_rfl⟩
theorem c256:Callable Tryz.prog 256:=⟨_,Tryz.func256,by kernel_rfl,by kernel_rfl⟩
theorem c258:Callable Tryz.prog 258:=⟨_,Tryz.func258,by kernel_rfl,by kernel_rfl⟩
theorem c259:Callable Tryz.prog 259:=⟨_,Tryz.func259,by kernel_rfl,by kernel_rfl⟩
theorem c260:Callable Tryz.prog 260:=⟨_,Tryz.func260,by kernel_rfl,by kernel_rfl⟩
theorem c263:Callable Tryz.prog 263:=⟨_,Tryz.func263,by kernel_rfl,by kernel_rfl⟩
theorem c265:Callable Tryz.prog 265:=⟨_,Tryz.func265,by kernel_rfl,by kernel_rfl⟩
theorem c266:Callable Tryz.prog 266:=⟨_,Tryz.func266,by kernel_rfl,by kernel_rfl⟩
theorem c267:Callable Tryz.prog 267:=⟨_,Tryz.func267,by kernel_rfl,by kernel_rfl⟩
theorem c268:Callable Tryz.prog 268:=⟨_,Tryz.func268,by kernel_rfl,by kernel_rfl⟩
theorem c269:Callable Tryz.prog 269:=⟨_,Tryz.func269,by kernel_rfl,by kernel_rfl⟩
theorem c272:Callable Tryz.prog 272:=⟨_,Tryz.func272,by kernel_rfl,by kernel_rfl⟩
theorem c273:Callable Tryz.prog 273:=⟨_,Tryz.func273,by kernel_rfl,by kernel_rfl⟩
theorem c274:Callable Tryz.prog 274:=⟨_,Tryz.func274,by kernel_rfl,by kernel_rfl⟩
theorem c275:Callable Tryz.prog 275:=⟨_,Tryz.func275,by kernel_rfl,by kernel_rfl⟩
theorem c276:Callable Tryz.prog 276:=⟨_,Tryz.func276,by kernel_rfl,by kernel_rfl⟩
theorem c277:Callable Tryz.prog 277:=⟨_,Tryz.func277,by kernel_rfl,by kernel_rfl⟩
theorem c278:Callable Tryz.prog 278:=⟨_,Tryz.func278,by kernel_rfl,by kernel_rfl⟩
theorem c279:Callable Tryz.prog 279:=⟨_,Tryz.func279,by kernel_rfl,by kernel_rfl⟩
theorem c280:Callable Tryz.prog 280:=⟨_,Tryz.func280,by kernel_rfl,by kernel_rfl⟩
theorem c284:Callable Tryz.prog 284:=⟨_,Tryz.func284,by kernel_rfl,by kernel_rfl⟩
theorem c301:Callable Tryz.prog 301:=⟨_,Tryz.func301,by kernel_rfl,by kernel_rfl⟩
theorem c303:Callable Tryz.prog 303:=⟨_,Tryz.func303,by kernel_rfl,by kernel_rfl⟩
theorem c304:Callable Tryz.prog 304:=⟨_,Tryz.func304,by kernel_rfl,by kernel_rfl⟩
theorem c305:Callable Tryz.prog 305:=⟨_,Tryz.func305,by kernel_rfl,by kernel_rfl⟩
theorem c314:Callable Tryz.prog 314:=⟨_,Tryz.func314,by kernel_rfl,by kernel_rfl⟩
theorem c315:Callable Tryz.prog 315:=⟨_,Tryz.func315,by kernel_rfl,by kernel_rfl⟩
theorem c316:Callable Tryz.prog 316:=⟨_,Tryz.func316,by kernel_rfl,by kernel_rfl⟩
theorem c317:Callable Tryz.prog 317:=⟨_,Tryz.func317,by kernel_rfl,by kernel_rfl⟩
theorem c318:Callable Tryz.prog 318:=⟨_,Tryz.func318,by kernel_rfl,by kernel_rfl⟩
theorem c319:Callable Tryz.prog 319:=⟨_,Tryz.func319,by kernel_rfl,by kernel_rfl⟩
theorem c320:Callable Tryz.prog 320:=⟨_,Tryz.func320,by kernel_rfl,by kernel_rfl⟩
theorem c321:Callable Tryz.prog 321:=⟨_,Tryz.func321,by kernel_rfl,by kernel_rfl⟩
theorem c322:Callable Tryz.prog 322:=⟨_,Tryz.func322,by kernel_rfl,by kernel_rfl⟩
theorem c324:Callable Tryz.prog 324:=⟨_,Tryz.func324,by kernel_rfl,by kernel_rfl⟩
theorem c325:Callable Tryz.prog 325:=⟨_,Tryz.func325,by kernel_rfl,by kernel_rfl⟩
theorem c331:Callable Tryz.prog 331:=⟨_,Tryz.func331,by kernel_rfl,by kernel_rfl⟩
theorem c332:Callable Tryz.prog 332:=⟨_,Tryz.func332,by kernel_rfl,by kernel_rfl⟩
theorem c333:Callable Tryz.prog 333:=⟨_,Tryz.func333,by kernel_rfl,by kernel_rfl⟩
theorem c334:Callable Tryz.prog 334:=⟨_,Tryz.func334,by kernel_rfl,by kernel_rfl⟩
theorem c335:Callable Tryz.prog 335:=⟨_,Tryz.func335,by kernel_rfl,by kernel_rfl⟩
theorem c336:Callable Tryz.prog 336:=⟨_,Tryz.func336,by kernel_rfl,by kernel_rfl⟩
theorem c338:Callable Tryz.prog 338:=⟨_,Tryz.func338,by kernel_rfl,by kernel_rfl⟩
theorem c345:Callable Tryz.prog 345:=⟨_,Tryz.func345,by kernel_rfl,by kernel_rfl⟩
theorem c346:Callable Tryz.prog 346:=⟨_,Tryz.func346,by kernel_rfl,by kernel_rfl⟩
theorem c347:Callable Tryz.prog 347:=⟨_,Tryz.func347,by kernel_rfl,by kernel_rfl⟩
theorem c349:Callable Tryz.prog 349:=⟨_,Tryz.func349,by kernel_rfl,by kernel_rfl⟩
theorem c350:Callable Tryz.prog 350:=⟨_,Tryz.func350,by kernel_rfl,by kernel_rfl⟩
theorem c351:Callable Tryz.prog 351:=⟨_,Tryz.func351,by kernel_rfl,by kernel_rfl⟩
theorem c354:Callable Tryz.prog 354:=⟨_,Tryz.func354,by kernel_rfl,by kernel_rfl⟩
theorem c355:Callable Tryz.prog 355:=⟨_,Tryz.func355,by kernel_rfl,by kernel_rfl⟩
theorem c358:Callable Tryz.prog 358:=⟨_,Tryz.func358,by kernel_rfl,by kernel_rfl⟩
theorem c359:Callable Tryz.prog 359:=⟨_,Tryz.func359,by kernel_rfl,by kernel_rfl⟩
theorem c363:Callable Tryz.prog 363:=⟨_,Tryz.func363,by kernel_rfl,by kernel_rfl⟩
theorem c364:Callable Tryz.prog 364:=⟨_,Tryz.func364,by kernel_rfl,by kernel_rfl⟩
theorem c365:Callable Tryz.prog 365:=⟨_,Tryz.func365,by kernel_rfl,by kernel_rfl⟩
theorem c366:Callable Tryz.prog 366:=⟨_,Tryz.func366,by kernel_rfl,by kernel_rfl⟩
theorem c367:Callable Tryz.prog 367:=⟨_,Tryz.func367,by kernel_rfl,by kernel_rfl⟩
theorem c370:Callable Tryz.prog 370:=⟨_,Tryz.func370,by kernel_rfl,by kernel_rfl⟩
theorem c372:Callable Tryz.prog 372:=⟨_,Tryz.func372,by kernel_rfl,by kernel_rfl⟩
theorem c375:Callable Tryz.prog 375:=⟨_,Tryz.func375,by kernel_rfl,by kernel_rfl⟩
theorem c376:Callable Tryz.prog 376:=⟨_,Tryz.func376,by kernel_rfl,by kernel_rfl⟩
theorem c377:Callable Tryz.prog 377:=⟨_,Tryz.func377,by kernel_rfl,by kernel_rfl⟩
theorem c378:Callable Tryz.prog 378:=⟨_,Tryz.func378,by kernel_rfl,by kernel_rfl⟩
theorem c379:Callable Tryz.prog 379:=⟨_,Tryz.func379,by kernel_rfl,by kernel_rfl⟩
theorem c380:Callable Tryz.prog 380:=⟨_,Tryz.func380,by kernel_rfl,by kernel_rfl⟩
theorem c381:Callable Tryz.prog 381:=⟨_,Tryz.func381,by kernel_rfl,by kernel_rfl⟩
theorem c389:Callable Tryz.prog 389:=⟨_,Tryz.func389,by kernel_rfl,by kernel_rfl⟩
theorem c390:Callable Tryz.prog 390:=⟨_,Tryz.func390,by kernel_rfl,by kernel_rfl⟩
theorem c391:Callable Tryz.prog 391:=⟨_,Tryz.func391,by kernel_rfl,by kernel_rfl⟩
theorem c392:Callable Tryz.prog 392:=⟨_,Tryz.func392,by kernel_rfl,by kernel_rfl⟩
theorem c393:Callable Tryz.prog 393:=⟨_,Tryz.func393,by kernel_rfl,by kernel_rfl⟩
theorem c394:Callable Tryz.prog 394:=⟨_,Tryz.func394,by kernel_rfl,by kernel_rfl⟩
theorem c395:Callable Tryz.prog 395:=⟨_,Tryz.func395,by kernel_rfl,by kernel_rfl⟩
theorem c396:Callable Tryz.prog 396:=⟨_,Tryz.func396,by kernel_rfl,by kernel_rfl⟩
theorem c399:Callable Tryz.prog 399:=⟨_,Tryz.func399,by kernel_rfl,by kernel_rfl⟩
theorem D_ok (b:Nat):DOk (E b) (DH (E b)):=DH_ok T_ok (by rfl)
end Go.Proofs.YtlhdoekgipaihaaGreatDoor
