/- A verified evaluator for the program, part Shelf of this claim. -/
import Derived.Shelf.Strings.Fields
import Derived.Test.YtdcnobhlknjnoaaGreatDoorProg
set_option linter.unusedSimpArgs false
set_option linter.unusedVariables false
namespace Go.Proofs.YtdcnobhlknjnoaaGreatDoor.Ra
open Go Go.Shelf
def Vp:Go.Shelf.Ren:=⟨fun | 157=>155 | 229=>181 | 199=>182 | 261=>201 | 311=>204 | 312=>205 | n=>n,fun | 9=>9 | 31=>31 | 3=>3 | 5=>5 | 4=>4 | 119=>211 | 0=>0 | 40=>213 | 152=>222 | 21=>21 | 154=>224 | 51=>205 | 141=>226 | 196=>234 | 193=>231 | 198=>237 | 49=>235 | 194=>232 | 201=>240 | 226=>242 | 46=>208 | 227=>243 | n=>n,fun | 0=>2 | 6=>3 | n=>n⟩
theorem lays157:Go.Proofs.Lays.n157 Tryz.prog Vp:={
 mixed:=by kernel_rfl
 f157:=Tryz.func155.trans (congrArg some (by kernel_rfl))
 f199:=Tryz.func182.trans (congrArg some (by kernel_rfl))
 f229:=Tryz.func181.trans (congrArg some (by kernel_rfl))
 f261:=Tryz.func201.trans (congrArg some (by kernel_rfl))
 f311:=Tryz.func204.trans (congrArg some (by kernel_rfl))
 f312:=Tryz.func205.trans (congrArg some (by kernel_rfl))
 t0:=Tryz.underlying0
 a0:=Tryz.isAgg0
 z0:=Tryz.sizeOf0
 v0:=Tryz.zeroValue0
 t3:=Tryz.underlying3
 a3:=Tryz.isAgg3
 z3:=Tryz.sizeOf3
 v3:=Tryz.zeroValue3
 t4:=Tryz.underlying4
 a4:=Tryz.isAgg4
 z4:=Tryz.sizeOf4
 v4:=Tryz.zeroValue4
 t5:=Tryz.underlying5
 a5:=Tryz.isAgg5
 z5:=Tryz.sizeOf5
 v5:=Tryz.zeroValue5
 t9:=Tryz.underlying9
 a9:=Tryz.isAgg9
 z9:=Tryz.sizeOf9
 v9:=Tryz.zeroValue9
 t21:=Tryz.underlying21
 a21:=Tryz.isAgg21
 z21:=Tryz.sizeOf21
 v21:=Tryz.zeroValue21
 t31:=Tryz.underlying31
 a31:=Tryz.isAgg31
 z31:=Tryz.sizeOf31
 v31:=Tryz.zeroValue31
 t40:=Tryz.underlying213
 a40:=Tryz.isAgg213
 z40:=Tryz.sizeOf213
 v40:=Tryz.zeroValue213
 t46:=Tryz.underlying208
 a46:=Tryz.isAgg208
 z46:=Tryz.sizeOf208
 v46:=Tryz.zeroValue208
 t49:=Tryz.underlying235
 a49:=Tryz.isAgg235
 z49:=Tryz.sizeOf235
 v49:=Tryz.zeroValue235
 t51:=Tryz.underlying205
 a51:=Tryz.isAgg205
 z51:=Tryz.sizeOf205
 v51:=Tryz.zeroValue205
 t119:=Tryz.underlying211
 a119:=Tryz.isAgg211
 z119:=Tryz.sizeOf211
 t141:=Tryz.underlying226
 a141:=Tryz.isAgg226
 z141:=Tryz.sizeOf226
 v141:=Tryz.zeroValue226
 t152:=Tryz.underlying222
 a152:=Tryz.isAgg222
 z152:=Tryz.sizeOf222
 v152:=Tryz.zeroValue222
 t154:=Tryz.underlying224
 a154:=Tryz.isAgg224
 z154:=Tryz.sizeOf224
 v154:=Tryz.zeroValue224
 t193:=Tryz.underlying231
 a193:=Tryz.isAgg231
 z193:=Tryz.sizeOf231
 v193:=Tryz.zeroValue231
 t194:=Tryz.underlying232
 a194:=Tryz.isAgg232
 z194:=Tryz.sizeOf232
 v194:=Tryz.zeroValue232
 t196:=Tryz.underlying234
 a196:=Tryz.isAgg234
 z196:=Tryz.sizeOf234
 v196:=Tryz.zeroValue234
 t198:=Tryz.underlying237
 a198:=Tryz.isAgg237
 z198:=Tryz.sizeOf237
 v198:=Tryz.zeroValue237
 t201:=Tryz.underlying240
 a201:=Tryz.isAgg240
 z201:=Tryz.sizeOf240
 v201:=Tryz.zeroValue240
 t226:=Tryz.underlying242
 a226:=Tryz.isAgg242
 z226:=Tryz.sizeOf242
 v226:=Tryz.zeroValue242
 t227:=Tryz.underlying243
 a227:=Tryz.isAgg243
 z227:=Tryz.sizeOf243
 v227:=Tryz.zeroValue243
 g0:=by kernel_rfl
 g6:=by kernel_rfl }
theorem hi157:(Tryz.prog.info? (Vp.t 9)).map (fun i=>(i.zero,i.size,i.bytes))=some (some (.string ByteArray.empty),1,16):=by kernel_rfl
end Go.Proofs.YtdcnobhlknjnoaaGreatDoor.Ra
