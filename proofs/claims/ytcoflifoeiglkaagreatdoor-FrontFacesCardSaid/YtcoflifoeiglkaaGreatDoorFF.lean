/- Part FF of the proof. What is proved by the whole: the statement that the claim names, with no condition. -/
import Derived.Test.YtcoflifoeiglkaaGreatDoorFE
import Derived.Shelf.Strings.Fields
import Derived.Shelf.Strconv.ParseIntPublic10
import Derived.Test.YtcoflifoeiglkaaGreatDoorChecked
import Derived.Shelf.Strconv.Itoa0
import Derived.Shelf.Strconv.Itoa1
import Derived.Shelf.LaysM
import Derived.Shelf.Strconv.Itoa2
import Derived.Shelf.Strconv.Itoa3
set_option linter.all false
section
/-
 DERIVED:THE SHELF's CONTRACTS AT THIS DUMP,IN PLAIN WORDS (tools/lay-plain.mjs out of 'TryzShelf.lean',which tools/lay-shelf.mjs wrote):THE SAME DECLARATIONS UNDER THE SAME NAMES:'import','namespace','open','def','theorem' AND NOTHING ELSE:no command of the shelf's:FOR A HAND-IN. Each laying:the table of numbers ('.._ren') and one theorem,a field a fact of the dump's own or the kernel's comparison;each contract:ONE APPLICATION.
-/
namespace Go.Proofs
open Go.Shelf
def Tryz.laysC174_ren:Go.Shelf.Ren:=⟨fun|174=>141|247=>181|245=>182|287=>215|279=>216|280=>217|281=>218|282=>219|321=>253|322=>254|316=>255|171=>17|205=>256|243=>36|246=>73|283=>121|284=>122|285=>123|286=>124|129=>170|317=>169|318=>171|319=>172|320=>173|337=>210|338=>211|n=>n,fun|9=>9|3=>3|2=>2|75=>83|85=>202|4=>4|167=>265|5=>5|53=>106|175=>266|46=>231|168=>268|37=>107|0=>0|210=>310|21=>21|127=>343|145=>346|143=>344|171=>191|173=>194|212=>228|51=>229|20=>20|213=>230|232=>304|233=>305|80=>361|n=>n,fun|15=>7|16=>8|17=>1|18=>5|19=>6|n=>n⟩
theorem Tryz.laysC174:Go.Proofs.LaysC.n174 Tryz.prog Tryz.laysC174_ren:= {
 mixed:=by kernel_rfl
 f129:=Tryz.func170.trans (congrArg some (by kernel_rfl))
 f171:=Tryz.func17.trans (congrArg some (by kernel_rfl))
 f174:=Tryz.func141.trans (congrArg some (by kernel_rfl))
 f205:=Tryz.func256.trans (congrArg some (by kernel_rfl))
 f243:=Tryz.func36.trans (congrArg some (by kernel_rfl))
 f245:=Tryz.func182.trans (congrArg some (by kernel_rfl))
 f246:=Tryz.func73.trans (congrArg some (by kernel_rfl))
 f247:=Tryz.func181.trans (congrArg some (by kernel_rfl))
 f279:=Tryz.func216.trans (congrArg some (by kernel_rfl))
 f280:=Tryz.func217.trans (congrArg some (by kernel_rfl))
 f281:=Tryz.func218.trans (congrArg some (by kernel_rfl))
 f282:=Tryz.func219.trans (congrArg some (by kernel_rfl))
 f283:=Tryz.func121.trans (congrArg some (by kernel_rfl))
 f284:=Tryz.func122.trans (congrArg some (by kernel_rfl))
 f285:=Tryz.func123.trans (congrArg some (by kernel_rfl))
 f286:=Tryz.func124.trans (congrArg some (by kernel_rfl))
 f287:=Tryz.func215.trans (congrArg some (by kernel_rfl))
 f316:=Tryz.func255.trans (congrArg some (by kernel_rfl))
 f317:=Tryz.func169.trans (congrArg some (by kernel_rfl))
 f318:=Tryz.func171.trans (congrArg some (by kernel_rfl))
 f319:=Tryz.func172.trans (congrArg some (by kernel_rfl))
 f320:=Tryz.func173.trans (congrArg some (by kernel_rfl))
 f321:=Tryz.func253.trans (congrArg some (by kernel_rfl))
 f322:=Tryz.func254.trans (congrArg some (by kernel_rfl))
 f337:=Tryz.func210.trans (congrArg some (by kernel_rfl))
 f338:=Tryz.func211.trans (congrArg some (by kernel_rfl))
 t0:=Tryz.underlying0
 a0:=Tryz.isAgg0
 z0:=Tryz.sizeOf0
 v0:=Tryz.zeroValue0
 t2:=Tryz.underlying2
 a2:=Tryz.isAgg2
 z2:=Tryz.sizeOf2
 v2:=Tryz.zeroValue2
 t3:=Tryz.underlying3
 a3:=Tryz.isAgg3
 z3:=Tryz.sizeOf3
 v3:=Tryz.zeroValue3
 t4:=Tryz.underlying4
 a4:=Tryz.isAgg4
 z4:=Tryz.sizeOf4
 v4:=Tryz.zeroValue4
 t5:=Tryz.underlying5
 a5:=Tryz.isAgg5
 z5:=Tryz.sizeOf5
 v5:=Tryz.zeroValue5
 t9:=Tryz.underlying9
 a9:=Tryz.isAgg9
 z9:=Tryz.sizeOf9
 v9:=Tryz.zeroValue9
 t20:=Tryz.underlying20
 a20:=Tryz.isAgg20
 z20:=Tryz.sizeOf20
 v20:=Tryz.zeroValue20
 t21:=Tryz.underlying21
 a21:=Tryz.isAgg21
 z21:=Tryz.sizeOf21
 v21:=Tryz.zeroValue21
 t37:=Tryz.underlying107
 a37:=Tryz.isAgg107
 z37:=Tryz.sizeOf107
 v37:=Tryz.zeroValue107
 t46:=Tryz.underlying231
 a46:=Tryz.isAgg231
 z46:=Tryz.sizeOf231
 v46:=Tryz.zeroValue231
 t51:=Tryz.underlying229
 a51:=Tryz.isAgg229
 z51:=Tryz.sizeOf229
 v51:=Tryz.zeroValue229
 t53:=Tryz.underlying106
 a53:=Tryz.isAgg106
 z53:=Tryz.sizeOf106
 v53:=Tryz.zeroValue106
 t75:=Tryz.underlying83
 a75:=Tryz.isAgg83
 z75:=Tryz.sizeOf83
 v75:=Tryz.zeroValue83
 t85:=Tryz.underlying202
 a85:=Tryz.isAgg202
 z85:=Tryz.sizeOf202
 v85:=Tryz.zeroValue202
 t127:=Tryz.underlying343
 a127:=Tryz.isAgg343
 z127:=Tryz.sizeOf343
 v127:=Tryz.zeroValue343
 t143:=Tryz.underlying344
 a143:=Tryz.isAgg344
 z143:=Tryz.sizeOf344
 v143:=Tryz.zeroValue344
 t145:=Tryz.underlying346
 a145:=Tryz.isAgg346
 z145:=Tryz.sizeOf346
 v145:=Tryz.zeroValue346
 t167:=Tryz.underlying265
 a167:=Tryz.isAgg265
 z167:=Tryz.sizeOf265
 v167:=Tryz.zeroValue265
 t168:=Tryz.underlying268
 a168:=Tryz.isAgg268
 z168:=Tryz.sizeOf268
 v168:=Tryz.zeroValue268
 t171:=Tryz.underlying191
 a171:=Tryz.isAgg191
 z171:=Tryz.sizeOf191
 v171:=Tryz.zeroValue191
 t173:=Tryz.underlying194
 a173:=Tryz.isAgg194
 z173:=Tryz.sizeOf194
 v173:=Tryz.zeroValue194
 t175:=Tryz.underlying266
 a175:=Tryz.isAgg266
 z175:=Tryz.sizeOf266
 v175:=Tryz.zeroValue266
 t210:=Tryz.underlying310
 a210:=Tryz.isAgg310
 z210:=Tryz.sizeOf310
 v210:=Tryz.zeroValue310
 t212:=Tryz.underlying228
 a212:=Tryz.isAgg228
 z212:=Tryz.sizeOf228
 v212:=Tryz.zeroValue228
 t213:=Tryz.underlying230
 a213:=Tryz.isAgg230
 z213:=Tryz.sizeOf230
 t232:=Tryz.underlying304
 a232:=Tryz.isAgg304
 z232:=Tryz.sizeOf304
 v232:=Tryz.zeroValue304
 t233:=Tryz.underlying305
 a233:=Tryz.isAgg305
 z233:=Tryz.sizeOf305
 v233:=Tryz.zeroValue305
 g15:=by kernel_rfl
 g16:=by kernel_rfl
 g17:=by kernel_rfl
 g18:=by kernel_rfl
 g19:=by kernel_rfl
 t80:=Tryz.underlying361
 a80:=Tryz.isAgg361
 z80:=Tryz.sizeOf361
 v80:=Tryz.zeroValue361
 i0:=by kernel_rfl
 i2:=by kernel_rfl
 i3:=by kernel_rfl
 i4:=by kernel_rfl
 i5:=by kernel_rfl
 i9:=by kernel_rfl
 i20:=by kernel_rfl
 i21:=by kernel_rfl
 i37:=by kernel_rfl
 i46:=by kernel_rfl
 i51:=by kernel_rfl
 i53:=by kernel_rfl
 i75:=by kernel_rfl
 i80:=by kernel_rfl
 i85:=by kernel_rfl
 i127:=by kernel_rfl
 i143:=by kernel_rfl
 i145:=by kernel_rfl
 i167:=by kernel_rfl
 i168:=by kernel_rfl
 i171:=by kernel_rfl
 i173:=by kernel_rfl
 i175:=by kernel_rfl
 i210:=by kernel_rfl
 i212:=by kernel_rfl
 i232:=by kernel_rfl
 i233:=by kernel_rfl
 m15:=by kernel_rfl
 m16:=by kernel_rfl
 m17:=by kernel_rfl
 m18:=by kernel_rfl
 m19:=by kernel_rfl
 c0:=by kernel_rfl
 c2:=by kernel_rfl
 c3:=by kernel_rfl
 c4:=by kernel_rfl
 c5:=by kernel_rfl
 c9:=by kernel_rfl
 c20:=by kernel_rfl
 c21:=by kernel_rfl
 c37:=by kernel_rfl
 c46:=by kernel_rfl
 c51:=by kernel_rfl
 c53:=by kernel_rfl
 c75:=by kernel_rfl
 c80:=by kernel_rfl
 c85:=by kernel_rfl
 c127:=by kernel_rfl
 c143:=by kernel_rfl
 c145:=by kernel_rfl
 c167:=by kernel_rfl
 c168:=by kernel_rfl
 c171:=by kernel_rfl
 c173:=by kernel_rfl
 c175:=by kernel_rfl
 c210:=by kernel_rfl
 c212:=by kernel_rfl
 c213:=by kernel_rfl
 c232:=by kernel_rfl
 c233:=by kernel_rfl }
open Go.RowKit in
theorem Tryz.strconv_ParseInt_10_at64_ok (s:ByteArray)(hmax:s.size≤9223372036854775806)(v:Int)(h:Lib.parseIntB 64 s.data.toList= .ok v)(w:World):
  Calls Tryz.prog 141 #[.string s, .int .i64 10, .int .i64 64] w fun e w'=>e= .returned (.tuple #[.int .i64 v, .nilIface])∧(w'=w∨ ∃t,w'=Lib.bytesWorld w 5 t):=Any.strconv_ParseInt_10_at64_ok Tryz.laysC174 s hmax v h w
open Go.RowKit in
theorem Tryz.strconv_ParseInt_10_at64_range (s:ByteArray)(hlim:s.size≤281474976710656)(h:Lib.parseIntB 64 s.data.toList= .range)(ev:Value)(w:World)(hv:w.cell? ⟨8,0,none⟩=some ev)(hev:ev= .nilIface∨ ∃te pe,ev= .iface te pe):
  Calls Tryz.prog 141 #[.string s, .int .i64 10, .int .i64 64] w fun e w'=> ∃N,e= .returned (.tuple #[.int .i64 (Lib.intSat 64 s.data.toList), .iface 268 (.pointer (some ⟨N,0,none⟩))])∧w.heap.size≤N∧w'.heap[N]? =some (.cells #[.string ⟨#[80,97,114,115,101,73,110,116]⟩, .string s,ev] 310 (0,0))∧Below w.heap.size w w':=Any.strconv_ParseInt_10_at64_range Tryz.laysC174 s hlim h ev w hv hev
def Tryz.lays157_ren:Go.Shelf.Ren:=⟨fun|157=>144|229=>186|199=>187|261=>226|311=>261|312=>262|n=>n,fun|9=>9|31=>47|3=>3|5=>5|4=>4|119=>239|0=>0|40=>212|152=>274|21=>21|154=>276|51=>229|141=>278|196=>318|193=>315|198=>321|49=>319|194=>316|201=>324|226=>349|46=>231|227=>350|n=>n,fun|0=>2|6=>4|n=>n⟩
theorem Tryz.lays157:Go.Proofs.Lays.n157 Tryz.prog Tryz.lays157_ren:= {
 mixed:=by kernel_rfl
 f157:=Tryz.func144.trans (congrArg some (by kernel_rfl))
 f199:=Tryz.func187.trans (congrArg some (by kernel_rfl))
 f229:=Tryz.func186.trans (congrArg some (by kernel_rfl))
 f261:=Tryz.func226.trans (congrArg some (by kernel_rfl))
 f311:=Tryz.func261.trans (congrArg some (by kernel_rfl))
 f312:=Tryz.func262.trans (congrArg some (by kernel_rfl))
 t0:=Tryz.underlying0
 a0:=Tryz.isAgg0
 z0:=Tryz.sizeOf0
 v0:=Tryz.zeroValue0
 t3:=Tryz.underlying3
 a3:=Tryz.isAgg3
 z3:=Tryz.sizeOf3
 v3:=Tryz.zeroValue3
 t4:=Tryz.underlying4
 a4:=Tryz.isAgg4
 z4:=Tryz.sizeOf4
 v4:=Tryz.zeroValue4
 t5:=Tryz.underlying5
 a5:=Tryz.isAgg5
 z5:=Tryz.sizeOf5
 v5:=Tryz.zeroValue5
 t9:=Tryz.underlying9
 a9:=Tryz.isAgg9
 z9:=Tryz.sizeOf9
 v9:=Tryz.zeroValue9
 t21:=Tryz.underlying21
 a21:=Tryz.isAgg21
 z21:=Tryz.sizeOf21
 v21:=Tryz.zeroValue21
 t31:=Tryz.underlying47
 a31:=Tryz.isAgg47
 z31:=Tryz.sizeOf47
 v31:=Tryz.zeroValue47
 t40:=Tryz.underlying212
 a40:=Tryz.isAgg212
 z40:=Tryz.sizeOf212
 v40:=Tryz.zeroValue212
 t46:=Tryz.underlying231
 a46:=Tryz.isAgg231
 z46:=Tryz.sizeOf231
 v46:=Tryz.zeroValue231
 t49:=Tryz.underlying319
 a49:=Tryz.isAgg319
 z49:=Tryz.sizeOf319
 v49:=Tryz.zeroValue319
 t51:=Tryz.underlying229
 a51:=Tryz.isAgg229
 z51:=Tryz.sizeOf229
 v51:=Tryz.zeroValue229
 t119:=Tryz.underlying239
 a119:=Tryz.isAgg239
 z119:=Tryz.sizeOf239
 t141:=Tryz.underlying278
 a141:=Tryz.isAgg278
 z141:=Tryz.sizeOf278
 v141:=Tryz.zeroValue278
 t152:=Tryz.underlying274
 a152:=Tryz.isAgg274
 z152:=Tryz.sizeOf274
 v152:=Tryz.zeroValue274
 t154:=Tryz.underlying276
 a154:=Tryz.isAgg276
 z154:=Tryz.sizeOf276
 v154:=Tryz.zeroValue276
 t193:=Tryz.underlying315
 a193:=Tryz.isAgg315
 z193:=Tryz.sizeOf315
 v193:=Tryz.zeroValue315
 t194:=Tryz.underlying316
 a194:=Tryz.isAgg316
 z194:=Tryz.sizeOf316
 v194:=Tryz.zeroValue316
 t196:=Tryz.underlying318
 a196:=Tryz.isAgg318
 z196:=Tryz.sizeOf318
 v196:=Tryz.zeroValue318
 t198:=Tryz.underlying321
 a198:=Tryz.isAgg321
 z198:=Tryz.sizeOf321
 v198:=Tryz.zeroValue321
 t201:=Tryz.underlying324
 a201:=Tryz.isAgg324
 z201:=Tryz.sizeOf324
 v201:=Tryz.zeroValue324
 t226:=Tryz.underlying349
 a226:=Tryz.isAgg349
 z226:=Tryz.sizeOf349
 v226:=Tryz.zeroValue349
 t227:=Tryz.underlying350
 a227:=Tryz.isAgg350
 z227:=Tryz.sizeOf350
 v227:=Tryz.zeroValue350
 g0:=by kernel_rfl
 g6:=by kernel_rfl }
end Go.Proofs
end
section
namespace Go.Proofs
open Go.Shelf
def Tryz.laysM246_ren:Go.Shelf.Ren:=⟨fun|246=>73|283=>121|284=>122|285=>123|286=>124|129=>170|317=>169|318=>171|319=>172|320=>173|337=>210|338=>211|n=>n,fun|2=>2|3=>3|9=>9|4=>4|171=>191|0=>0|53=>106|37=>107|5=>5|173=>194|212=>228|51=>229|20=>20|213=>230|46=>231|232=>304|233=>305|n=>n,fun|17=>1|18=>5|19=>6|n=>n⟩
theorem Tryz.laysM246:Go.Proofs.LaysM.n246 Tryz.prog Tryz.laysM246_ren:= {
 mixed:=by kernel_rfl
 f129:=Tryz.func170.trans (congrArg some (by kernel_rfl))
 f246:=Tryz.func73.trans (congrArg some (by kernel_rfl))
 f283:=Tryz.func121.trans (congrArg some (by kernel_rfl))
 f284:=Tryz.func122.trans (congrArg some (by kernel_rfl))
 f285:=Tryz.func123.trans (congrArg some (by kernel_rfl))
 f286:=Tryz.func124.trans (congrArg some (by kernel_rfl))
 f317:=Tryz.func169.trans (congrArg some (by kernel_rfl))
 f318:=Tryz.func171.trans (congrArg some (by kernel_rfl))
 f319:=Tryz.func172.trans (congrArg some (by kernel_rfl))
 f320:=Tryz.func173.trans (congrArg some (by kernel_rfl))
 f337:=Tryz.func210.trans (congrArg some (by kernel_rfl))
 f338:=Tryz.func211.trans (congrArg some (by kernel_rfl))
 t0:=Tryz.underlying0
 a0:=Tryz.isAgg0
 z0:=Tryz.sizeOf0
 v0:=Tryz.zeroValue0
 t2:=Tryz.underlying2
 a2:=Tryz.isAgg2
 z2:=Tryz.sizeOf2
 v2:=Tryz.zeroValue2
 t3:=Tryz.underlying3
 a3:=Tryz.isAgg3
 z3:=Tryz.sizeOf3
 v3:=Tryz.zeroValue3
 t4:=Tryz.underlying4
 a4:=Tryz.isAgg4
 z4:=Tryz.sizeOf4
 v4:=Tryz.zeroValue4
 t5:=Tryz.underlying5
 a5:=Tryz.isAgg5
 z5:=Tryz.sizeOf5
 v5:=Tryz.zeroValue5
 t9:=Tryz.underlying9
 a9:=Tryz.isAgg9
 z9:=Tryz.sizeOf9
 v9:=Tryz.zeroValue9
 t20:=Tryz.underlying20
 a20:=Tryz.isAgg20
 z20:=Tryz.sizeOf20
 v20:=Tryz.zeroValue20
 t37:=Tryz.underlying107
 a37:=Tryz.isAgg107
 z37:=Tryz.sizeOf107
 v37:=Tryz.zeroValue107
 t46:=Tryz.underlying231
 a46:=Tryz.isAgg231
 z46:=Tryz.sizeOf231
 v46:=Tryz.zeroValue231
 t51:=Tryz.underlying229
 a51:=Tryz.isAgg229
 z51:=Tryz.sizeOf229
 v51:=Tryz.zeroValue229
 t53:=Tryz.underlying106
 a53:=Tryz.isAgg106
 z53:=Tryz.sizeOf106
 v53:=Tryz.zeroValue106
 t171:=Tryz.underlying191
 a171:=Tryz.isAgg191
 z171:=Tryz.sizeOf191
 v171:=Tryz.zeroValue191
 t173:=Tryz.underlying194
 a173:=Tryz.isAgg194
 z173:=Tryz.sizeOf194
 v173:=Tryz.zeroValue194
 t212:=Tryz.underlying228
 a212:=Tryz.isAgg228
 z212:=Tryz.sizeOf228
 v212:=Tryz.zeroValue228
 t213:=Tryz.underlying230
 a213:=Tryz.isAgg230
 z213:=Tryz.sizeOf230
 t232:=Tryz.underlying304
 a232:=Tryz.isAgg304
 z232:=Tryz.sizeOf304
 v232:=Tryz.zeroValue304
 t233:=Tryz.underlying305
 a233:=Tryz.isAgg305
 z233:=Tryz.sizeOf305
 v233:=Tryz.zeroValue305
 g17:=by kernel_rfl
 g18:=by kernel_rfl
 g19:=by kernel_rfl
 i0:=by kernel_rfl
 i2:=by kernel_rfl
 i3:=by kernel_rfl
 i4:=by kernel_rfl
 i5:=by kernel_rfl
 i9:=by kernel_rfl
 i20:=by kernel_rfl
 i37:=by kernel_rfl
 i46:=by kernel_rfl
 i51:=by kernel_rfl
 i53:=by kernel_rfl
 i171:=by kernel_rfl
 i173:=by kernel_rfl
 i212:=by kernel_rfl
 i232:=by kernel_rfl
 i233:=by kernel_rfl
 m17:=by kernel_rfl
 m18:=by kernel_rfl
 m19:=by kernel_rfl }
open Go.RowKit Go.Sort Go.Lib in
theorem Tryz.internal_strconv_FormatInt_10 (n:Int)(h0: -9223372036854775808≤n)(h1:n≤9223372036854775807)(w:World)(htab:Lib.TabIs Tryz.prog w "internal/strconv.uint64pow10" .u64 Lib.pow10Tab):
  Calls Tryz.prog 73 #[.int .i64 n, .int .i64 10] w fun e w'=>e= .returned (.string ⟨(Lib.itoa n).toArray⟩)∧ ∃k os,w'=grow (w.drewN k) os:=Any.internal_strconv_FormatInt_10 Tryz.laysM246 n h0 h1 w htab
end Go.Proofs
end
section
namespace Go.Vm
open Go.Proofs Go.RowKit Go.Shelf
def twoL:List UInt8:=[58,61,32,45,62,32,60,61,32,62,61,32,60,62]
def twoF:List (List D):=[[.str (bs [58,61])],[.str (bs [45,62])],[.str (bs [60,61])],[.str (bs [62,61])],[.str (bs [60,62])]]
def srow (s:ByteArray):List D:=[.str s]
def srows (l:List ByteArray):List (List D):=l.map srow
def knF:List V→Option PRes
 | [.d (.str s)]=>match decide (s.data.toList=twoL)with
   |true=>some (.val [.sl 1 twoF])
   |false=>none
 |_=>none
def knG:List V→Option PRes
 | [.nils, .d (.int .i64 n)]=>match decide (0≤n∧n≤1000000)with
   |true=>some (.own 70 6 [])
   |false=>none
 |_=>none
def knA:List V→Option PRes
 | [.d (.int .i64 0), .d (.int .i64 2), .ifo 89 b [.int .i64 a, .int .i64 w], .ifp 91 0 0, .fn 89 [.d (.int .i64 0), .d (.int .i64 0)]]=>some (match b with
   |true=> .val [.bool false, .int .i64 0, .int .i64 0]
   |false=> .val [.bool true, .int .i64 a, .int .i64 w])
 |_=>none
def knI:List V→Option PRes
 | [.d (.int .i64 n), .d (.int .i64 b)]=>match decide (b=10∧ -9223372036854775808≤n∧n≤9223372036854775807)with
   |true=>some (.val [.str ⟨(Lib.itoa n).toArray⟩])
   |false=>none
 |_=>none
def kn:FuncId→List V→Option PRes:=fun f args=>match Nat.beq f 144 with
 |true=>knF args
 |false=>match Nat.beq f 194 with
  |true=>knG args
  |false=>match Nat.beq f 73 with
   |true=>knI args
   |false=>match Nat.beq f 1000032 with
    |true=>knA args
    |false=>none
theorem fields_two:Lib.fields twoL= [[58,61],[45,62],[60,61],[62,61],[60,62]]:=by decide+kernel
theorem tab_cell {Z:Nat→Nat→Prop}{w:World}(h:TabOK Z w)(c:Nat)(hc:c < 256):w.cell? ⟨2,c,none⟩=some (.int .u8 (if Lib.isSp (UInt8.ofNat c)then 1 else 0)):=by
 have h1:=(h.2 (2,Lib.asciiSpaceTab.map fun n=>Value.int .u8 n) (by simp [gV]) c).2
 have h2:(Lib.asciiSpaceTab.map fun n=>Value.int .u8 n)[c]? =some (.int .u8 (Lib.asciiSpaceTab.getD c 0)):=by
  rw[List.getElem?_map,List.getD_eq_getElem?_getD]
  have:c < Lib.asciiSpaceTab.length:=by rw[Lib.asciiSpaceTab_length];exact hc
  simp [this]
 have h1:=h1.trans h2
 rwa [Lib.asciiSpaceTab_at c hc]at h1
theorem fr_of_below {w w':World}(h:Below w.heap.size w w'):Fr (fun _=>False) w w':=⟨h.os,h.tape,h.output,h.size,fun k hk _=>h.block k hk⟩
theorem kv_good:KV Tryz.prog:=by
 intro s hs g w us hsim hu
 obtain⟨h1,h2⟩:=hu
 match us,h1 with
 | [u0,u1,u2],_=>
   have e0:=rep_str_inv (h2 0 u0 _ rfl rfl)
   have e1:=rep_int_inv (h2 1 u1 _ rfl rfl)
   have e2:=rep_int_inv (h2 2 u2 _ rfl rfl)
   subst e0;subst e1;subst e2
   have fin: ∀(v:Value) (n:Int) (b:Bool) (w':World),Below w.heap.size w w'→(∀(g':Gh),Rep w' g' v (.ifn b))→ ∃u g',Ending.returned (.tuple #[.int .i64 n,v])= .returned u∧Rep w' g' u (.tup [.d (.int .i64 n), .ifn b])∧Keep [] g [] w g' [] w':=by
    intro v n b w' hb hv
    refine⟨_,g,rfl, .tup _ _ rfl fun i u c hu hc=> ?_,Keep.of_fr hsim (fr_of_below hb)⟩
    match i with
    |0=>simp at hu hc;subst hu;subst hc;exact .d (.int _ _)
    |1=>simp at hu hc;subst hu;subst hc;exact hv g
    |i+2=>simp at hc
   show Calls Tryz.prog 141 #[.string s, .int .i64 10, .int .i64 64] w _
   unfold pnumI pokB
   cases hp:Lib.parseIntB 64 s.data.toList with
   |ok v=>
    refine(Tryz.strconv_ParseInt_10_at64_ok s (by omega) v hp w).mono ?_
    rintro e w' ⟨rfl,hw⟩
    refine fin _ _ _ _ ?_ fun _=> .ifn0
    rcases hw with rfl|⟨t,rfl⟩
    ·exact Below.refl _ _
    ·exact Lib.bytesWorld_below _ _ _
   |range=>
    obtain⟨_,te,pe,hc⟩:=hsim.tab.1 8 (by simp [gI])
    refine(Tryz.strconv_ParseInt_10_at64_range s (by omega) hp _ w hc (.inr ⟨_,_,rfl⟩)).mono ?_
    rintro e w' ⟨N,rfl,_,_,hb⟩
    exact fin _ _ _ _ hb fun _=> .ifn1 _ _
   |_=>
    obtain⟨_,te,pe,hc⟩:=hsim.tab.1 7 (by simp [gI])
    have q:Calls Tryz.prog 141 #[.string s, .int .i64 10, .int .i64 64] w fun e w'=> ∃N,e= .returned (.tuple #[.int .i64 (0), .iface 268 (.pointer (some ⟨N,0,none⟩))])∧w.heap.size≤N∧w'.heap[N]? =some (.cells #[.string ⟨#[80,97,114,115,101,73,110,116]⟩, .string s, .iface te pe] 310 (0,0))∧Below w.heap.size w w':=Any.strconv_ParseInt_10_at64_syntax Tryz.laysC174 s (by omega) hp _ w hc (.inr ⟨_,_,rfl⟩)
    refine q.mono ?_
    rintro e w' ⟨N,rfl,_,_,hb⟩
    exact fin _ _ _ _ hb fun _=> .ifn1 _ _
theorem fields_call (s:ByteArray)(hd:s.data.toList=twoL):PGood Tryz.prog 144 [.d (.str s)] (.val [.sl 1 twoF]):=by
 refine⟨[47],[.sl 1], .d (.sl 1 twoF),by kernel_rfl,by kernel_rfl,rfl,by kernel_rfl,fun g w us hsim hu=> ?_⟩
 obtain⟨h1,h2⟩:=hu
 match us,h1 with
 | [u0],_=>
   have e0:=rep_str_inv (h2 0 u0 _ rfl rfl)
   subst e0
   have hsz:s.size=14:=by
    have:s.data.toList.length=twoL.length:=by rw[hd]
    simpa [twoL]using this
   have L:=Any.strings_Fields_core Tryz.lays157 (by kernel_rfl) s w (by omega) (fun j b hb=>by
    rw[hd]at hb
    have:=List.mem_of_getElem? hb
    have hall: ∀b∈twoL,b.toNat < 128:=by decide
    exact hall b this) (fun c hc=>tab_cell hsim.tab c hc)
   refine L.mono ?_
   rintro e w' ⟨rfl,rfl⟩
   rw[hd,fields_two]
   refine⟨_,_,rfl,?_,Keep.newZ hsim _ _⟩
   have hcell: ∀(i:Nat) (v:Value),(([[58,61],[45,62],[60,61],[62,61],[60,62]]:List (List UInt8)).map fun l=>Value.string ⟨l.toArray⟩).toArray[i]? =some v→(w.alloc (.cells (([[58,61],[45,62],[60,61],[62,61],[60,62]]:List (List UInt8)).map fun l=>Value.string ⟨l.toArray⟩).toArray 9)).cell? ⟨w.heap.size,i,none⟩=some v:=by
    intro i v hv
    simp only [World.cell?,World.alloc,Array.getElem?_push,if_true]
    simpa using hv
   refine .d (.sl _ 0 5 5 1 twoF (fun i j=> .string (match twoF[i]? with
    |some [.str s]=>s
    |_=>default)) rfl (Nat.le_refl _) ?_ ?_ ?_ ?_)
   ·intro i r hr
    match i with
    |0|1|2|3|4=>simp [twoF]at hr;subst hr;rfl
    |i+5=>simp [twoF]at hr
   ·intro i r j c hr hc;exact .inr rfl
   ·intro i r j c hr hc
    match i,j with
    |0,0|1,0|2,0|3,0|4,0=>exact hcell _ _ rfl
    |0,j+1|1,j+1|2,j+1|3,j+1|4,j+1=>simp [twoF]at hr;subst hr;simp at hc
    |i+5,j=>simp [twoF]at hr
   ·intro i r j c hr hc
    match i,j with
    |0,0|1,0|2,0|3,0|4,0=>simp [twoF]at hr;subst hr;simp at hc;subst hc;exact .str _
    |0,j+1|1,j+1|2,j+1|3,j+1|4,j+1=>simp [twoF]at hr;subst hr;simp at hc
    |i+5,j=>simp [twoF]at hr
theorem itoa_call (n:Int)(h0: -9223372036854775808≤n)(h1:n≤9223372036854775807):PCall Tryz.prog 73 [.d (.int .i64 n), .d (.int .i64 10)] (.d (.str ⟨(Lib.itoa n).toArray⟩)):=by
 intro g w us hsim hu
 obtain⟨hl,h2⟩:=hu
 match us,hl with
 | [u0,u1],_=>
   have e0:=rep_int_inv (h2 0 u0 _ rfl rfl)
   have e1:=rep_int_inv (h2 1 u1 _ rfl rfl)
   subst e0;subst e1
   have htab:Lib.TabIs Tryz.prog w "internal/strconv.uint64pow10" .u64 Lib.pow10Tab:=by
    have ht:=hsim.tab.2 (1,Lib.pow10Tab.map fun n=>Value.int .u64 n) (by simp [gV])
    have hz:(Lib.pow10Tab.map fun n=>Value.int .u64 n)[0]? =some (.int .u64 1):=by kernel_rfl
    have hc:=(ht 0).2.trans hz
    unfold Lib.TabIs World.var?
    rw[show Tryz.prog.globalNamed "internal/strconv.uint64pow10" =some 1 by kernel_rfl]
    simp only [Option.bind_some]
    have key: ∃cs t s,w.heap[1]? =some (.cells cs t s):=by
     unfold World.cell? at hc
     split at hc
     ·rename_i hw;exact⟨_,_,_,hw⟩
     ·cases hc
    obtain⟨cs,t,s,hw⟩:=key
    rw[hw]
    simp only [Option.some.injEq]
    refine Array.ext_getElem? fun i=> ?_
    have hi:=(ht i).2
    simp only [World.cell?,hw]at hi
    rw[List.getElem?_toArray]
    simpa using hi
   refine(Tryz.internal_strconv_FormatInt_10 n h0 h1 w htab).mono ?_
   rintro e w' ⟨rfl,k,os,rfl⟩
   refine⟨_,g,rfl, .d (.str _),Keep.of_fr hsim ⟨rfl,rfl,rfl,by simp [Go.Sort.grow],fun i hi _=> ?_⟩⟩
   show(w.heap++os)[i]? =_
   rw[Array.getElem?_append,if_pos hi]
theorem beq_far {k n:Nat}(h:n < k):Nat.beq k n=false:=by
 cases h2:Nat.beq k n with
 |false=>rfl
 |true=>have:=Nat.eq_of_beq_eq_true h2;omega
end Go.Vm
end
section
namespace Go.Vm
open Go.Proofs
noncomputable def cF (f:FuncId) (args:List V):Option PRes:=callF Tryz.prog cs kn f args
noncomputable def eF:Env:=envF (callF Tryz.prog cs kn)
theorem eF_call (f:FuncId)(args:List V):eF.call f args=cF f args:=rfl
theorem eF_lp {α:Type}(b:List D→Option (List D ⊕ α))(ds:List D):eF.lp b ds=loopF b ds:=rfl
theorem cOf {f:FuncId}{args:List V}{p:PRes}(hg:goodF Tryz.prog f=true)(hk:kn f args=none)(h:(funT sy Tryz.prog cs f args).run eF=some p):cF f args=some p:=callF_of hg hk h
theorem cOfP {f:FuncId}{args:List V}{Q:PRes→Prop}(hg:goodF Tryz.prog f=true)(hk:kn f args=none)(h: ∃p,(funT sy Tryz.prog cs f args).run eF=some p∧Q p): ∃p,cF f args=some p∧Q p:=h.imp fun _ h=>⟨callF_of hg hk h.1,h.2⟩
theorem decT {p:Prop} [Decidable p] (h:p):decide p=true:=decide_eq_true h
theorem decF {p:Prop} [Decidable p] (h: ¬p):decide p=false:=decide_eq_false h
theorem inr_at {i n:Nat}(h:i < n):decide (0≤(i:Int)∧(i:Int) < (n:Int))=true:=decide_eq_true ⟨by omega,by omega⟩
theorem ilt_at {i n:Nat}(h:i < n):decide ((i:Int) < (n:Int))=true:=decide_eq_true (by omega)
theorem ilt_self (n:Nat):decide ((n:Int) < (n:Int))=false:=decide_eq_false (by omega)
theorem wrap_succ {i n:Nat}(h:i < n)(hn:n≤1000000000000):IntKind.i64.wrap ((i:Int)+1)=(i:Int)+1:=wrap_id (by omega) (by omega)
theorem mixedOrders:Tryz.prog.follows .mixedOrders=true:=by kernel_rfl
end Go.Vm
end
section
set_option maxRecDepth 10000
namespace Go.Vm
theorem bs1 {α β:Type}(a:α)(f:α→Option β):(some a).bind f=f a:=rfl
theorem ct1 {α:Type}(a b:α):cond true a b=a:=rfl
theorem cf1 {α:Type}(a b:α):cond false a b=b:=rfl
theorem es1 {α:Type}(a:α):(a=a)=True:=eq_self a
theorem go1:type_of% (And.intro @bs1 (And.intro @ct1 (And.intro @cf1 (And.intro @es1 (And.intro @sy_wrap (And.intro @sy_add (And.intro @sy_sub (And.intro @sy_mul (And.intro @sy_ieq (And.intro @sy_ilt (And.intro @sy_ile (And.intro @sy_seq (And.intro @sy_beq (And.intro @sy_bor (And.intro @sy_bnot (And.intro @sy_imax (And.intro @sy_imin (And.intro @sy_rlen (And.intro @sy_slen (And.intro @sy_sapp (And.intro @sy_inr (And.intro @sy_nat (And.intro @sy_cell0 (And.intro @sy_cellS (And.intro @sy_skip0 (And.intro @sy_inrn (And.intro @sy_rapp (And.intro @sy_fits (And.intro @sy_cutok (And.intro @sy_cut (And.intro @sy_scut (And.intro @sy_sbyte (And.intro @sy_mkok (And.intro @sy_mkok0 (And.intro @sy_mkz (And.intro @sy_rep (And.intro @sy_head (And.intro @sy_deq (And.intro @eqDs_int (And.intro @eqDs_nil (And.intro @opI_int (And.intro @opB_bool (And.intro @opS_str (And.intro @opL_sl (And.intro @opM_own (And.intro @leaves_val (And.intro @leaves_own (And.intro @cutO_bool (And.intro @bif_bool (And.intro @cutO_inl (And.intro @cutO_inr (And.intro @eF_call (And.intro @eF_lp (And.intro @Nat.zero_add (And.intro @Bool.cond_false_right (And.intro @Bool.cond_true_left (And.intro @Bool.cond_false_left (And.intro @Bool.cond_true_right (And.intro @Bool.not_true (And.intro @Bool.not_false (And.intro @Bool.not_not (And.intro @decide_true (And.intro @decide_false (And.intro @Bool.true_and (And.intro @Bool.and_true (And.intro @Bool.false_and (And.intro @Bool.and_false (And.intro @Bool.or_false (And.intro @Bool.false_or (And.intro @Bool.true_or (And.intro @Bool.or_true (And.intro @true_and (@and_true))))))))))))))))))))))))))))))))))))))))))))))))))))))))))))))))))))))))):=And.intro @bs1 (And.intro @ct1 (And.intro @cf1 (And.intro @es1 (And.intro @sy_wrap (And.intro @sy_add (And.intro @sy_sub (And.intro @sy_mul (And.intro @sy_ieq (And.intro @sy_ilt (And.intro @sy_ile (And.intro @sy_seq (And.intro @sy_beq (And.intro @sy_bor (And.intro @sy_bnot (And.intro @sy_imax (And.intro @sy_imin (And.intro @sy_rlen (And.intro @sy_slen (And.intro @sy_sapp (And.intro @sy_inr (And.intro @sy_nat (And.intro @sy_cell0 (And.intro @sy_cellS (And.intro @sy_skip0 (And.intro @sy_inrn (And.intro @sy_rapp (And.intro @sy_fits (And.intro @sy_cutok (And.intro @sy_cut (And.intro @sy_scut (And.intro @sy_sbyte (And.intro @sy_mkok (And.intro @sy_mkok0 (And.intro @sy_mkz (And.intro @sy_rep (And.intro @sy_head (And.intro @sy_deq (And.intro @eqDs_int (And.intro @eqDs_nil (And.intro @opI_int (And.intro @opB_bool (And.intro @opS_str (And.intro @opL_sl (And.intro @opM_own (And.intro @leaves_val (And.intro @leaves_own (And.intro @cutO_bool (And.intro @bif_bool (And.intro @cutO_inl (And.intro @cutO_inr (And.intro @eF_call (And.intro @eF_lp (And.intro @Nat.zero_add (And.intro @Bool.cond_false_right (And.intro @Bool.cond_true_left (And.intro @Bool.cond_false_left (And.intro @Bool.cond_true_right (And.intro @Bool.not_true (And.intro @Bool.not_false (And.intro @Bool.not_not (And.intro @decide_true (And.intro @decide_false (And.intro @Bool.true_and (And.intro @Bool.and_true (And.intro @Bool.false_and (And.intro @Bool.and_false (And.intro @Bool.or_false (And.intro @Bool.false_or (And.intro @Bool.true_or (And.intro @Bool.or_true (And.intro @true_and (@and_true))))))))))))))))))))))))))))))))))))))))))))))))))))))))))))))))))))))))
end Go.Vm
end
section
namespace Go.Vm
section
variable {α β : Type}
theorem st_bind {v:Option α}{f:α→Option β}{n:α}{p:β}(h:v=some n)(k:f n=some p):v.bind f=some p:=by rw[h];exact k
theorem st_cut {X:Option (List D ⊕ α)}{K:List D→Option α}{ds:List D}{p:α}(h:X=some (.inl ds))(k:K ds=some p):cutO X K=some p:=by rw[h];exact k
theorem st_t {c:Bool}{a b:Option α}{p:α}(h:c=true)(k:a=some p):(bif c then a else b)=some p:=by rw[h];exact k
theorem st_f {c:Bool}{a b:Option α}{p:α}(h:c=false)(k:b=some p):(bif c then a else b)=some p:=by rw[h];exact k
theorem st_opI {v:Option D}{k:IntKind}{n:Int}(h:v=some (.int k n)):opI v k=some n:=by rw[h];simp [opI]
theorem st_opB {v:Option D}{n:Bool}(h:v=some (.bool n)):opB v=some n:=by rw[h];rfl
theorem st_opL {v:Option D}{sz:Nat}{n:List (List D)}(h:v=some (.sl sz n)):opL v sz=some n:=by rw[h];simp [opL]
noncomputable def lpK (b:List D→Option (List D ⊕ α)):List D ⊕ α→Option α
 | .inl ds=>eF.lp b ds
 | .inr a=>some a
theorem st_lp {b:List D→Option (List D ⊕ α)}{ds:List D}{r:List D ⊕ α}{p:α}(h:b ds=some r)(k:lpK b r=some p):eF.lp b ds=some p:=by
 show loopF b ds=some p
 rw[loopF_eq,h]
 cases r with
 |inl d=>exact k
 |inr a=>exact k
theorem st_inl {b:List D→Option (List D ⊕ α)}{ds:List D}{p:α}(k:eF.lp b ds=some p):lpK b (.inl ds)=some p:=k
theorem st_inr {b:List D→Option (List D ⊕ α)}{a:α}:lpK b (.inr a)=some a:=rfl
theorem st_some {a:α}:some a=some a:=rfl
end
def kP (pn:Int)(l:List (List D))(i:Int):List V:=[.d (.int .i64 pn), .d (.int .i64 1), .ptr 0 0, .fn 328 [.d (.sl 4 l), .d (.int .i64 i)]]
def kS (pn:Int)(s:ByteArray)(l:List (List D))(i:Int):List V:=[.d (.int .i64 pn), .d (.int .i64 2), .ptr 0 0, .d (.str s), .fn 328 [.d (.sl 4 l), .d (.int .i64 i)]]
def kO (a b:Int)(l:List (List D))(i:Int):List V:=[.d (.int .i64 0), .d (.int .i64 3), .ptr 0 0, .d (.int .i64 a), .d (.int .i64 b), .fn 328 [.d (.sl 4 l), .d (.int .i64 i)]]
def kN (w l:List (List D))(i:Int):List V:=[.d (.int .i64 352), .d (.int .i64 2), .ptr 0 0, .own 1, .fn 328 [.d (.sl 4 l), .d (.int .i64 i)], .tup [.d (.int .i64 9), .d (.sl 1 w)]]
def rP (l:List (List D))(i:Int)(b:Bool):List V:=[.d (.int .i64 0), .d (.int .i64 1), .ptr 0 0, .fn 900061 [.d (.sl 4 l), .d (.int .i64 i), .d (.bool b)]]
def rS (s:ByteArray)(l:List (List D))(i:Int)(b:Bool):List V:=[.d (.int .i64 0), .d (.int .i64 2), .ptr 0 0, .d (.str s), .fn 900061 [.d (.sl 4 l), .d (.int .i64 i), .d (.bool b)]]
def rO (a w l:List (List D))(i:Int)(b:Bool):List V:=[.d (.int .i64 0), .d (.int .i64 3), .ptr 0 0, .own 1, .own 2, .fn 900061 [.d (.sl 4 l), .d (.int .i64 i), .d (.bool b)], .tup [.d (.int .i64 3), .d (.sl 1 a)], .tup [.d (.int .i64 9), .d (.sl 1 w)]]
abbrev kE (a b:Int)(c:ByteArray)(d:Int)(e f:List (List D)):V:= .agg [.d (.int .i64 a), .d (.int .i64 b), .d (.str c), .d (.int .i64 d), .d (.sl 1 e), .d (.sl 6 f)]
noncomputable def rec0 (f:Nat):RecI:=recOf Go.Proofs.Tryz.prog f
section
variable {α : Type} (A : Sy) (ds : List D) (j : Nat)
def oE (K:Int→Int→ByteArray→Int→List (List D)→List (List D)→Option α):Option α:=
 (opI (A.cell ds j) .i64).bind fun a=>(opI (A.cell ds (j+1)) .i64).bind fun b=>(opS (A.cell ds (j+2))).bind fun c=>(opI (A.cell ds (j+3)) .i64).bind fun d=>(opL (A.cell ds (j+4)) 1).bind fun e=>(opL (A.cell ds (j+5)) 6).bind fun f=>K a b c d e f
def oP (K:List (List D)→Int→Option α):Option α:=(opL (A.cell ds j) 4).bind fun a=>(opI (A.cell ds (j+1)) .i64).bind fun b=>K a b
def oR (K:List (List D)→Int→Bool→Option α):Option α:=(opL (A.cell ds j) 4).bind fun a=>(opI (A.cell ds (j+1)) .i64).bind fun b=>(opB (A.cell ds (j+2))).bind fun c=>K a b c
def oT (K:Int→ByteArray→Int→Int→Option α):Option α:=(opI (A.cell ds j) .i64).bind fun a=>(opS (A.cell ds (j+1))).bind fun b=>(opI (A.cell ds (j+2)) .i64).bind fun c=>(opI (A.cell ds (j+3)) .i64).bind fun d=>K a b c d
def oQ (K:Bool→Bool→Bool→Int→Int→Int→Option α):Option α:=(opB (A.cell ds j)).bind fun a=>(opB (A.cell ds (j+1))).bind fun b=>(opB (A.cell ds (j+2))).bind fun c=>(opI (A.cell ds (j+3)) .i64).bind fun d=>(opI (A.cell ds (j+4)) .i64).bind fun e=>(opI (A.cell ds (j+5)) .i64).bind fun f=>K a b c d e f
end
abbrev rbV (o:Nat)(l:List (List D))(i:Int)(b:Bool)(a w:Int):V:= .fn 85 [.d (.sl 4 l), .d (.int .i64 i), .own o, .ifo 89 b [.int .i64 a, .int .i64 w]]
abbrev enV (en:List (List D)):V:= .tup [.d (.int .i64 49), .d (.sl 2 en)]
def kR (l:List (List D))(i:Int)(en:List (List D))(b:Bool)(a w:Int):List V:=[.d (.int .i64 0), .d (.int .i64 1), .ptr 0 0,rbV 1 l i b a w,enV en]
def kRS (s:ByteArray)(l:List (List D))(i:Int)(en:List (List D))(b:Bool)(a w:Int):List V:=[.d (.int .i64 0), .d (.int .i64 2), .ptr 0 0, .d (.str s),rbV 1 l i b a w,enV en]
def kRI (k:Int)(l:List (List D))(i:Int)(en:List (List D))(b:Bool)(a w:Int):List V:=[.d (.int .i64 0), .d (.int .i64 2), .ptr 0 0, .d (.int .i64 k),rbV 1 l i b a w,enV en]
def kRB (k:Bool)(l:List (List D))(i:Int)(en:List (List D))(b:Bool)(a w:Int):List V:=[.d (.int .i64 0), .d (.int .i64 2), .ptr 0 0, .d (.bool k),rbV 1 l i b a w,enV en]
def kRF (p c:Int)(l:List (List D))(i:Int)(en:List (List D))(b:Bool)(a w:Int):List V:=[.d (.int .i64 0), .d (.int .i64 3), .ptr 0 0, .d (.int .i64 p), .d (.int .i64 c),rbV 1 l i b a w,enV en]
def kRN (ws l:List (List D))(i:Int)(en:List (List D))(b:Bool)(a w:Int):List V:=[.d (.int .i64 0), .d (.int .i64 2), .ptr 0 0, .own 1,rbV 2 l i b a w, .tup [.d (.int .i64 9), .d (.sl 1 ws)],enV en]
def qR (l:List (List D))(i:Int)(b:Bool)(en:List (List D))(e:Int):List V:= .d (.int .i64 0):: .d (.int .i64 1):: .ptr 0 0:: .fn 900063 [.ptr 1 0, .own 2, .d (.int .i64 e)]:: .fn 900061 [.d (.sl 4 l), .d (.int .i64 i), .d (.bool b)]::[enV en]
def qRB (k:Bool)(l:List (List D))(i:Int)(b:Bool)(en:List (List D))(e:Int):List V:= .d (.int .i64 0):: .d (.int .i64 2):: .ptr 0 0:: .d (.bool k):: .fn 900063 [.ptr 1 0, .own 2, .d (.int .i64 e)]:: .fn 900061 [.d (.sl 4 l), .d (.int .i64 i), .d (.bool b)]::[enV en]
def kAs (b:Bool)(a w:Int):List V:=[.d (.int .i64 0), .d (.int .i64 2), .ifo 89 b [.int .i64 a, .int .i64 w], .ifp 91 0 0, .fn 89 [.d (.int .i64 0), .d (.int .i64 0)]]
section
variable {α : Type} (A : Sy) (ds : List D) (j : Nat)
def oV (K:List (List D)→Int→Bool→Int→Int→List (List D)→Option α):Option α:=
 (opL (A.cell ds j) 4).bind fun l=>(opI (A.cell ds (j+1)) .i64).bind fun i=>(opB (A.cell ds (j+2))).bind fun b=>(opI (A.cell ds (j+3)) .i64).bind fun a=>(opI (A.cell ds (j+4)) .i64).bind fun w=>(opL (A.cell ds (j+5)) 2).bind fun en=>K l i b a w en
def oW (K:Int→List (List D)→Int→Bool→List (List D)→Option α):Option α:=
 (opI (A.cell ds j) .i64).bind fun e=>(opL (A.cell ds (j+1)) 4).bind fun l=>(opI (A.cell ds (j+2)) .i64).bind fun i=>(opB (A.cell ds (j+3))).bind fun b=>(opL (A.cell ds (j+4)) 2).bind fun en=>K e l i b en
def oD (K:ByteArray→Int→Int→Int→ByteArray→ByteArray→Option α):Option α:=
 (opS (A.cell ds j)).bind fun n=>(opI (A.cell ds (j+1)) .i64).bind fun k=>(opI (A.cell ds (j+2)) .i64).bind fun e=>(opI (A.cell ds (j+3)) .i64).bind fun c=>(opS (A.cell ds (j+4))).bind fun o=>(opS (A.cell ds (j+5))).bind fun q=>K n k e c o q
end
end Go.Vm
end
section
set_option maxRecDepth 1000000
set_option maxHeartbeats 0
namespace Go.Vm
open Go.Proofs
noncomputable section
def b51 (A:Sy)(E:Env)(toks:List (List D))(at_:Int)(en_:List (List D))(b_:Bool)(a_ w_:Int)(s_:ByteArray):Option PRes:=bif (A.bnot b_)then some (.val [(.bool false),(.sl 4 toks),(.int .i64 at_),(.bool b_),(.int .i64 a_),(.int .i64 w_),(.sl 2 en_)]) else bif (A.ile (A.rlen toks) (A.wrap .i64 (A.add at_ 0)))then bif (A.bnot false)then some (.val [(.bool false),(.sl 4 toks),(.int .i64 at_),(.bool b_),(.int .i64 a_),(.int .i64 w_),(.sl 2 en_)]) else some (.val [(.bool true),(.sl 4 toks),(.int .i64 (A.wrap .i64 (A.add at_ 1))),(.bool b_),(.int .i64 a_),(.int .i64 w_),(.sl 2 en_)]) else bif (A.inr (A.wrap .i64 (A.add at_ 0)) (A.rlen toks))then (opI (A.cell (A.row toks (A.wrap .i64 (A.add at_ 0))) 0) .i64).bind fun n1=>(opS (A.cell (A.row toks (A.wrap .i64 (A.add at_ 0))) 1)).bind fun s2=>(opI (A.cell (A.row toks (A.wrap .i64 (A.add at_ 0))) 2) .i64).bind fun n3=>(opI (A.cell (A.row toks (A.wrap .i64 (A.add at_ 0))) 3) .i64).bind fun n4=>cutO (bif (A.seq s2 s_)then bif (A.ieq n1 1)then some (.inl [(.bool true)]) else some (.inl [(.bool (A.ieq n1 5))]) else some (.inl [(.bool false)])) fun ds5=>(opB (A.cell ds5 0)).bind fun b6=>bif (A.bnot b6)then some (.val [(.bool false),(.sl 4 toks),(.int .i64 at_),(.bool b_),(.int .i64 a_),(.int .i64 w_),(.sl 2 en_)]) else some (.val [(.bool true),(.sl 4 toks),(.int .i64 (A.wrap .i64 (A.add at_ 1))),(.bool b_),(.int .i64 a_),(.int .i64 w_),(.sl 2 en_)]) else none
theorem b51_eq (A:Sy)(E:Env)(toks:List (List D))(at_:Int)(en_:List (List D))(b_:Bool)(a_ w_:Int)(s_:ByteArray):(funB A Tryz.prog cs 51 0 [.ptr 0 0, .d (.str s_)] [.cells (.ty 85) [.d (.sl 4 toks), .d (.int .i64 at_), .own 1, .ifo 89 b_ [.int .i64 a_, .int .i64 w_]], .arr 49 2 en_]).run E=b51 A E toks at_ en_ b_ a_ w_ s_:=by kernel_rfl
def b56 (A:Sy)(E:Env)(toks:List (List D))(at_:Int)(en_:List (List D))(b_:Bool)(a_ w_ p_ c_:Int):Option PRes:=bif b_ then bif (A.inr p_ (A.rlen toks))then (opI (A.cell (A.skip 3 (A.row toks p_)) 0) .i64).bind fun n1=>some (.val [(.sl 4 toks),(.int .i64 at_),(.bool false),(.int .i64 n1),(.int .i64 c_),(.sl 2 en_)]) else none else some (.val [(.sl 4 toks),(.int .i64 at_),(.bool b_),(.int .i64 a_),(.int .i64 w_),(.sl 2 en_)])
theorem b56_eq (A:Sy)(E:Env)(toks:List (List D))(at_:Int)(en_:List (List D))(b_:Bool)(a_ w_ p_ c_:Int):(funB A Tryz.prog cs 56 0 [.ptr 0 0, .d (.int .i64 p_), .d (.int .i64 c_)] [.cells (.ty 85) [.d (.sl 4 toks), .d (.int .i64 at_), .own 1, .ifo 89 b_ [.int .i64 a_, .int .i64 w_]], .arr 49 2 en_]).run E=b56 A E toks at_ en_ b_ a_ w_ p_ c_:=by kernel_rfl
def b94 (A:Sy)(E:Env)(toks:List (List D))(at_:Int)(en_:List (List D))(b_:Bool)(a_ w_ k_:Int):Option PRes:=bif (A.inr at_ (A.rlen toks))then oT A (A.row toks at_) 0 fun n1 s2 n3 n4=>cutO (bif (A.bnot b_)then some (.inl [(.bool true)]) else some (.inl [(.bool (A.bnot (A.ieq n1 k_)))])) fun ds5=>(opB (A.cell ds5 0)).bind fun b6=>cutO (bif b6 then some (.inl [(.bool true)]) else bif (A.ieq k_ 1)then (E.call 140 [(.d (.str s2))]).bind fun p7=>(opB (A.cell p7.leaves 0)).bind fun b9=>some (.inl [(.bool b9)]) else some (.inl [(.bool false)])) fun ds10=>(opB (A.cell ds10 0)).bind fun b11=>bif b11 then (E.call 1000056 (kRF at_ 2 toks at_ en_ b_ a_ w_)).bind fun p12=>oV A p12.leaves 0 fun l14 n15 b16 n17 n18 l19=>some (.val [(.int .i64 0),(.str (bs [])),(.int .i64 0),(.int .i64 0),(.sl 4 l14),(.int .i64 n15),(.bool b16),(.int .i64 n17),(.int .i64 n18),(.sl 2 l19)]) else some (.val [(.int .i64 n1),(.str s2),(.int .i64 n3),(.int .i64 n4),(.sl 4 toks),(.int .i64 (A.wrap .i64 (A.add at_ 1))),(.bool b_),(.int .i64 a_),(.int .i64 w_),(.sl 2 en_)]) else none
theorem b94_eq (A:Sy)(E:Env)(toks:List (List D))(at_:Int)(en_:List (List D))(b_:Bool)(a_ w_ k_:Int):(funB A Tryz.prog cs 94 0 [.ptr 0 0, .d (.int .i64 k_)] [.cells (.ty 85) [.d (.sl 4 toks), .d (.int .i64 at_), .own 1, .ifo 89 b_ [.int .i64 a_, .int .i64 w_]], .arr 49 2 en_]).run E=b94 A E toks at_ en_ b_ a_ w_ k_:=by kernel_rfl
def b96 (A:Sy)(E:Env)(toks:List (List D))(at_:Int)(en_:List (List D))(b_:Bool)(a_ w_ k_:Int):Option PRes:=(E.call 1000094 (kRI k_ toks at_ en_ b_ a_ w_)).bind fun p1=>oT A p1.leaves 0 fun n3 s4 n5 n6=>oV A p1.leaves 4 fun l7 n8 b9 n10 n11 l12=>E.lp (fun ds13=>(opI (A.cell ds13 0) .i64).bind fun n14=>oV A ds13 1 fun l15 n16 b17 n18 n19 l20=>(opL (A.cell ds13 7) 1).bind fun l21=>(E.call 1000051 (kRS (bs [44]) l15 n16 l20 b17 n18 n19)).bind fun p22=>(opB (A.cell p22.leaves 0)).bind fun b24=>oV A p22.leaves 1 fun l25 n26 b27 n28 n29 l30=>bif b24 then (E.call 1000094 (kRI n14 l25 n26 l30 b27 n28 n29)).bind fun p31=>oT A p31.leaves 0 fun n33 s34 n35 n36=>oV A p31.leaves 4 fun l37 n38 b39 n40 n41 l42=>bif (A.fits l21 [[(.str s34)]] 16)then some (.inl [(.int .i64 n14),(.sl 4 l37),(.int .i64 n38),(.bool b39),(.int .i64 n40),(.int .i64 n41),(.sl 2 l42),(.sl 1 (A.rapp l21 [[(.str s34)]]))]) else none else some (.inr (.val [(.sl 1 l21),(.sl 4 l25),(.int .i64 n26),(.bool b27),(.int .i64 n28),(.int .i64 n29),(.sl 2 l30)]))) [(.int .i64 k_),(.sl 4 l7),(.int .i64 n8),(.bool b9),(.int .i64 n10),(.int .i64 n11),(.sl 2 l12),(.sl 1 [[(.str s4)]])]
theorem b96_eq (A:Sy)(E:Env)(toks:List (List D))(at_:Int)(en_:List (List D))(b_:Bool)(a_ w_ k_:Int):(funB A Tryz.prog cs 96 0 [.ptr 0 0, .d (.int .i64 k_)] [.cells (.ty 85) [.d (.sl 4 toks), .d (.int .i64 at_), .own 1, .ifo 89 b_ [.int .i64 a_, .int .i64 w_]], .arr 49 2 en_]).run E=b96 A E toks at_ en_ b_ a_ w_ k_:=by kernel_rfl
def b52 (A:Sy)(E:Env)(toks:List (List D))(at_:Int)(en_:List (List D))(b_:Bool)(a_ w_:Int):Option PRes:=(E.call 1000094 (kRI 1 toks at_ en_ b_ a_ w_)).bind fun p1=>oT A p1.leaves 0 fun n3 s4 n5 n6=>oV A p1.leaves 4 fun l7 n8 b9 n10 n11 l12=>(E.call 1000095 (kRN [[(.str (bs [123]))]] l7 n8 l12 b9 n10 n11)).bind fun p13=>oR A p13.leaves 0 fun l15 n16 b17=>(opI (A.cell p13.leaves 3) .i64).bind fun n18=>(opI (A.cell p13.leaves 4) .i64).bind fun n19=>(opL (A.cell p13.leaves 5) 1).bind fun l20=>(opL (A.cell p13.leaves 6) 2).bind fun l21=>(E.call 1000096 (kRI 2 l15 n16 l21 b17 n18 n19)).bind fun p22=>(opL (A.cell p22.leaves 0) 1).bind fun l24=>oV A p22.leaves 1 fun l25 n26 b27 n28 n29 l30=>(E.call 1000095 (kRN [[(.str (bs [125]))],[(.str (bs [59]))]] l25 n26 l30 b27 n28 n29)).bind fun p31=>oR A p31.leaves 0 fun l33 n34 b35=>(opI (A.cell p31.leaves 3) .i64).bind fun n36=>(opI (A.cell p31.leaves 4) .i64).bind fun n37=>(opL (A.cell p31.leaves 5) 1).bind fun l38=>(opL (A.cell p31.leaves 6) 2).bind fun l39=>some (.val [(.str s4),(.sl 1 l24),(.sl 4 l33),(.int .i64 n34),(.bool b35),(.int .i64 n36),(.int .i64 n37),(.sl 2 l39)])
theorem b52_eq (A:Sy)(E:Env)(toks:List (List D))(at_:Int)(en_:List (List D))(b_:Bool)(a_ w_:Int):(funB A Tryz.prog cs 52 0 [.ptr 0 0] [.cells (.ty 85) [.d (.sl 4 toks), .d (.int .i64 at_), .own 1, .ifo 89 b_ [.int .i64 a_, .int .i64 w_]], .arr 49 2 en_]).run E=b52 A E toks at_ en_ b_ a_ w_:=by kernel_rfl
def b228 (A:Sy)(E:Env)(toks:List (List D))(at_:Int)(en_:List (List D))(b_:Bool)(a_ w_:Int):Option PRes:=(E.call 1000051 (kRS (bs [105,110,116]) toks at_ en_ b_ a_ w_)).bind fun p1=>(opB (A.cell p1.leaves 0)).bind fun b3=>oV A p1.leaves 1 fun l4 n5 b6 n7 n8 l9=>bif b3 then some (.val [(.int .i64 1),(.int .i64 0),(.int .i64 0),(.sl 4 l4),(.int .i64 n5),(.bool b6),(.int .i64 n7),(.int .i64 n8),(.sl 2 l9)]) else (E.call 1000051 (kRS (bs [98,111,111,108]) l4 n5 l9 b6 n7 n8)).bind fun p10=>(opB (A.cell p10.leaves 0)).bind fun b12=>oV A p10.leaves 1 fun l13 n14 b15 n16 n17 l18=>bif b12 then some (.val [(.int .i64 2),(.int .i64 0),(.int .i64 0),(.sl 4 l13),(.int .i64 n14),(.bool b15),(.int .i64 n16),(.int .i64 n17),(.sl 2 l18)]) else (E.call 1000094 (kRI 1 l13 n14 l18 b15 n16 n17)).bind fun p19=>oT A p19.leaves 0 fun n21 s22 n23 n24=>oV A p19.leaves 4 fun l25 n26 b27 n28 n29 l30=>E.lp (fun ds31=>(opI (A.cell ds31 0) .i64).bind fun n32=>(opI (A.cell ds31 1) .i64).bind fun n33=>oV A ds31 2 fun l34 n35 b36 n37 n38 l39=>(opI (A.cell ds31 8) .i64).bind fun n40=>(opI (A.cell ds31 9) .i64).bind fun n41=>(opI (A.cell ds31 10) .i64).bind fun n42=>(opS (A.cell ds31 11)).bind fun s43=>bif (A.ilt n33 n32)then bif (A.inr n33 (A.rlen l39))then bif (A.inrn (A.nat n33) l39)then (opS (A.cell (A.rown l39 (A.nat n33)) 0)).bind fun s44=>(opL (A.cell (A.rown l39 (A.nat n33)) 1) 1).bind fun l45=>bif (A.seq s44 s43)then bif (A.ilt n33 0)then (E.call 1000056 (kRF n14 2 l34 n35 l39 b36 n37 n38)).bind fun p46=>oV A p46.leaves 0 fun l48 n49 b50 n51 n52 l53=>some (.inr (.val [(.int .i64 0),(.int .i64 0),(.int .i64 0),(.sl 4 l48),(.int .i64 n49),(.bool b50),(.int .i64 n51),(.int .i64 n52),(.sl 2 l53)])) else some (.inr (.val [(.int .i64 3),(.int .i64 n33),(.int .i64 0),(.sl 4 l34),(.int .i64 n35),(.bool b36),(.int .i64 n37),(.int .i64 n38),(.sl 2 l39)])) else some (.inl [(.int .i64 n32),(.int .i64 (A.wrap .i64 (A.add n33 1))),(.sl 4 l34),(.int .i64 n35),(.bool b36),(.int .i64 n37),(.int .i64 n38),(.sl 2 l39),(.int .i64 n40),(.int .i64 n41),(.int .i64 n42),(.str s43)]) else none else none else bif (A.ilt (-1) 0)then (E.call 1000056 (kRF n14 2 l34 n35 l39 b36 n37 n38)).bind fun p54=>oV A p54.leaves 0 fun l56 n57 b58 n59 n60 l61=>some (.inr (.val [(.int .i64 0),(.int .i64 0),(.int .i64 0),(.sl 4 l56),(.int .i64 n57),(.bool b58),(.int .i64 n59),(.int .i64 n60),(.sl 2 l61)])) else some (.inr (.val [(.int .i64 3),(.int .i64 (-1)),(.int .i64 0),(.sl 4 l34),(.int .i64 n35),(.bool b36),(.int .i64 n37),(.int .i64 n38),(.sl 2 l39)]))) [(.int .i64 (A.rlen l30)),(.int .i64 0),(.sl 4 l25),(.int .i64 n26),(.bool b27),(.int .i64 n28),(.int .i64 n29),(.sl 2 l30),(.int .i64 0),(.int .i64 0),(.int .i64 0),(.str s22)]
theorem b228_eq (A:Sy)(E:Env)(toks:List (List D))(at_:Int)(en_:List (List D))(b_:Bool)(a_ w_:Int):(funB A Tryz.prog cs 228 0 [.ptr 0 0] [.cells (.ty 85) [.d (.sl 4 toks), .d (.int .i64 at_), .own 1, .ifo 89 b_ [.int .i64 a_, .int .i64 w_]], .arr 49 2 en_]).run E=b228 A E toks at_ en_ b_ a_ w_:=by kernel_rfl
def b189 (A:Sy)(E:Env)(toks:List (List D))(at_:Int)(en_:List (List D))(b_:Bool)(a_ w_:Int):Option PRes:=(E.call 1000228 (kR toks at_ en_ b_ a_ w_)).bind fun p1=>(opI (A.cell p1.leaves 0) .i64).bind fun n3=>(opI (A.cell p1.leaves 1) .i64).bind fun n4=>(opI (A.cell p1.leaves 2) .i64).bind fun n5=>oV A p1.leaves 3 fun l6 n7 b8 n9 n10 l11=>(E.call 1000051 (kRS (bs [91]) l6 n7 l11 b8 n9 n10)).bind fun p12=>(opB (A.cell p12.leaves 0)).bind fun b14=>oV A p12.leaves 1 fun l15 n16 b17 n18 n19 l20=>bif (A.bnot b14)then some (.val [(.int .i64 n3),(.int .i64 n4),(.int .i64 n5),(.sl 4 l15),(.int .i64 n16),(.bool b17),(.int .i64 n18),(.int .i64 n19),(.sl 2 l20)]) else (E.call 1000094 (kRI 3 l15 n16 l20 b17 n18 n19)).bind fun p21=>oT A p21.leaves 0 fun n23 s24 n25 n26=>oV A p21.leaves 4 fun l27 n28 b29 n30 n31 l32=>cutO (bif (A.ilt n25 1)then some (.inl [(.bool true)]) else some (.inl [(.bool (A.ilt 8 n25))])) fun ds33=>(opB (A.cell ds33 0)).bind fun b34=>bif b34 then (E.call 1000056 (kRF n16 2 l27 n28 l32 b29 n30 n31)).bind fun p35=>oV A p35.leaves 0 fun l37 n38 b39 n40 n41 l42=>some (.val [(.int .i64 n3),(.int .i64 n4),(.int .i64 n5),(.sl 4 l37),(.int .i64 n38),(.bool b39),(.int .i64 n40),(.int .i64 n41),(.sl 2 l42)]) else (E.call 1000095 (kRN [[(.str (bs [93]))]] l27 n28 l32 b29 n30 n31)).bind fun p43=>oR A p43.leaves 0 fun l45 n46 b47=>(opI (A.cell p43.leaves 3) .i64).bind fun n48=>(opI (A.cell p43.leaves 4) .i64).bind fun n49=>(opL (A.cell p43.leaves 5) 1).bind fun l50=>(opL (A.cell p43.leaves 6) 2).bind fun l51=>some (.val [(.int .i64 n3),(.int .i64 n4),(.int .i64 n25),(.sl 4 l45),(.int .i64 n46),(.bool b47),(.int .i64 n48),(.int .i64 n49),(.sl 2 l51)])
theorem b189_eq (A:Sy)(E:Env)(toks:List (List D))(at_:Int)(en_:List (List D))(b_:Bool)(a_ w_:Int):(funB A Tryz.prog cs 189 0 [.ptr 0 0] [.cells (.ty 85) [.d (.sl 4 toks), .d (.int .i64 at_), .own 1, .ifo 89 b_ [.int .i64 a_, .int .i64 w_]], .arr 49 2 en_]).run E=b189 A E toks at_ en_ b_ a_ w_:=by kernel_rfl
def b190 (A:Sy)(E:Env)(toks:List (List D))(at_:Int)(en_:List (List D))(b_:Bool)(a_ w_:Int):Option PRes:=(E.call 229 [(.d (.sl 4 toks)),(.d (.int .i64 at_))]).bind fun p1=>(opS (A.cell p1.leaves 0)).bind fun s3=>(opS (A.cell p1.leaves 1)).bind fun s4=>(opI (A.cell p1.leaves 2) .i64).bind fun n5=>(opB (A.cell p1.leaves 3)).bind fun b6=>bif (A.bnot b6)then (E.call 1000056 (kRF n5 2 toks at_ en_ b_ a_ w_)).bind fun p7=>oV A p7.leaves 0 fun l9 n10 b11 n12 n13 l14=>some (.val [(.str (bs [])),(.str (bs [])),(.sl 4 l9),(.int .i64 n10),(.bool b11),(.int .i64 n12),(.int .i64 n13),(.sl 2 l14)]) else some (.val [(.str s3),(.str s4),(.sl 4 toks),(.int .i64 n5),(.bool b_),(.int .i64 a_),(.int .i64 w_),(.sl 2 en_)])
theorem b190_eq (A:Sy)(E:Env)(toks:List (List D))(at_:Int)(en_:List (List D))(b_:Bool)(a_ w_:Int):(funB A Tryz.prog cs 190 0 [.ptr 0 0] [.cells (.ty 85) [.d (.sl 4 toks), .d (.int .i64 at_), .own 1, .ifo 89 b_ [.int .i64 a_, .int .i64 w_]], .arr 49 2 en_]).run E=b190 A E toks at_ en_ b_ a_ w_:=by kernel_rfl
def b146 (A:Sy)(E:Env)(toks:List (List D))(at_:Int)(en_:List (List D))(b_:Bool)(a_ w_:Int):Option PRes:=(E.call 1000094 (kRI 1 toks at_ en_ b_ a_ w_)).bind fun p1=>oT A p1.leaves 0 fun n3 s4 n5 n6=>oV A p1.leaves 4 fun l7 n8 b9 n10 n11 l12=>(E.call 1000095 (kRN [[(.str (bs [58]))]] l7 n8 l12 b9 n10 n11)).bind fun p13=>oR A p13.leaves 0 fun l15 n16 b17=>(opI (A.cell p13.leaves 3) .i64).bind fun n18=>(opI (A.cell p13.leaves 4) .i64).bind fun n19=>(opL (A.cell p13.leaves 5) 1).bind fun l20=>(opL (A.cell p13.leaves 6) 2).bind fun l21=>(E.call 1000189 (kR l15 n16 l21 b17 n18 n19)).bind fun p22=>(opI (A.cell p22.leaves 0) .i64).bind fun n24=>(opI (A.cell p22.leaves 1) .i64).bind fun n25=>(opI (A.cell p22.leaves 2) .i64).bind fun n26=>oV A p22.leaves 3 fun l27 n28 b29 n30 n31 l32=>(E.call 1000051 (kRS (bs [119,104,101,110]) l27 n28 l32 b29 n30 n31)).bind fun p33=>(opB (A.cell p33.leaves 0)).bind fun b35=>oV A p33.leaves 1 fun l36 n37 b38 n39 n40 l41=>bif b35 then (E.call 1000190 (kR l36 n37 l41 b38 n39 n40)).bind fun p42=>(opS (A.cell p42.leaves 0)).bind fun s44=>(opS (A.cell p42.leaves 1)).bind fun s45=>oV A p42.leaves 2 fun l46 n47 b48 n49 n50 l51=>some (.val [(.str s4),(.int .i64 n24),(.int .i64 n25),(.int .i64 n26),(.str s44),(.str s45),(.sl 4 l46),(.int .i64 n47),(.bool b48),(.int .i64 n49),(.int .i64 n50),(.sl 2 l51)]) else some (.val [(.str s4),(.int .i64 n24),(.int .i64 n25),(.int .i64 n26),(.str (bs [])),(.str (bs [])),(.sl 4 l36),(.int .i64 n37),(.bool b38),(.int .i64 n39),(.int .i64 n40),(.sl 2 l41)])
theorem b146_eq (A:Sy)(E:Env)(toks:List (List D))(at_:Int)(en_:List (List D))(b_:Bool)(a_ w_:Int):(funB A Tryz.prog cs 146 0 [.ptr 0 0] [.cells (.ty 85) [.d (.sl 4 toks), .d (.int .i64 at_), .own 1, .ifo 89 b_ [.int .i64 a_, .int .i64 w_]], .arr 49 2 en_]).run E=b146 A E toks at_ en_ b_ a_ w_:=by kernel_rfl
def b97 (A:Sy)(E:Env)(toks:List (List D))(at_:Int)(en_:List (List D))(b_:Bool)(a_ w_:Int)(f_:Bool):Option PRes:=(E.call 1000146 (kR toks at_ en_ b_ a_ w_)).bind fun p1=>oD A p1.leaves 0 fun s3 n4 n5 n6 s7 s8=>oV A p1.leaves 6 fun l9 n10 b11 n12 n13 l14=>E.lp (fun ds15=>(opB (A.cell ds15 0)).bind fun b16=>oV A ds15 1 fun l17 n18 b19 n20 n21 l22=>(opL (A.cell ds15 7) 6).bind fun l23=>bif b19 then bif (A.ile (A.rlen l17) (A.wrap .i64 (A.add n18 0)))then some (.inr (.val [(.sl 6 l23),(.sl 4 l17),(.int .i64 n18),(.bool b19),(.int .i64 n20),(.int .i64 n21),(.sl 2 l22)])) else bif (A.inr (A.wrap .i64 (A.add n18 0)) (A.rlen l17))then (opI (A.cell (A.row l17 (A.wrap .i64 (A.add n18 0))) 0) .i64).bind fun n24=>(opS (A.cell (A.row l17 (A.wrap .i64 (A.add n18 0))) 1)).bind fun s25=>(opI (A.cell (A.row l17 (A.wrap .i64 (A.add n18 0))) 2) .i64).bind fun n26=>(opI (A.cell (A.row l17 (A.wrap .i64 (A.add n18 0))) 3) .i64).bind fun n27=>cutO (bif (A.seq s25 (bs [59]))then bif (A.ieq n24 1)then some (.inl [(.bool true)]) else some (.inl [(.bool (A.ieq n24 5))]) else some (.inl [(.bool false)])) fun ds28=>(opB (A.cell ds28 0)).bind fun b29=>bif b29 then bif b16 then bif (A.ile (A.rlen l17) (A.wrap .i64 (A.add n18 1)))then bif (A.bnot false)then (E.call 1000095 (kRN [[(.str (bs [59]))]] l17 n18 l22 b19 n20 n21)).bind fun p30=>oR A p30.leaves 0 fun l32 n33 b34=>(opI (A.cell p30.leaves 3) .i64).bind fun n35=>(opI (A.cell p30.leaves 4) .i64).bind fun n36=>(opL (A.cell p30.leaves 5) 1).bind fun l37=>(opL (A.cell p30.leaves 6) 2).bind fun l38=>(E.call 1000146 (kR l32 n33 l38 b34 n35 n36)).bind fun p39=>oD A p39.leaves 0 fun s41 n42 n43 n44 s45 s46=>oV A p39.leaves 6 fun l47 n48 b49 n50 n51 l52=>bif (A.fits l23 [[(.str s41),(.int .i64 n42),(.int .i64 n43),(.int .i64 n44),(.str s45),(.str s46)]] 72)then some (.inl [(.bool b16),(.sl 4 l47),(.int .i64 n48),(.bool b49),(.int .i64 n50),(.int .i64 n51),(.sl 2 l52),(.sl 6 (A.rapp l23 [[(.str s41),(.int .i64 n42),(.int .i64 n43),(.int .i64 n44),(.str s45),(.str s46)]]))]) else none else some (.inr (.val [(.sl 6 l23),(.sl 4 l17),(.int .i64 n18),(.bool b19),(.int .i64 n20),(.int .i64 n21),(.sl 2 l22)])) else bif (A.inr (A.wrap .i64 (A.add n18 1)) (A.rlen l17))then (opI (A.cell (A.row l17 (A.wrap .i64 (A.add n18 1))) 0) .i64).bind fun n53=>(opS (A.cell (A.row l17 (A.wrap .i64 (A.add n18 1))) 1)).bind fun s54=>(opI (A.cell (A.row l17 (A.wrap .i64 (A.add n18 1))) 2) .i64).bind fun n55=>(opI (A.cell (A.row l17 (A.wrap .i64 (A.add n18 1))) 3) .i64).bind fun n56=>cutO (bif (A.seq s54 (bs [108,101,116]))then bif (A.ieq n53 1)then some (.inl [(.bool true)]) else some (.inl [(.bool (A.ieq n53 5))]) else some (.inl [(.bool false)])) fun ds57=>(opB (A.cell ds57 0)).bind fun b58=>bif (A.bnot b58)then (E.call 1000095 (kRN [[(.str (bs [59]))]] l17 n18 l22 b19 n20 n21)).bind fun p59=>oR A p59.leaves 0 fun l61 n62 b63=>(opI (A.cell p59.leaves 3) .i64).bind fun n64=>(opI (A.cell p59.leaves 4) .i64).bind fun n65=>(opL (A.cell p59.leaves 5) 1).bind fun l66=>(opL (A.cell p59.leaves 6) 2).bind fun l67=>(E.call 1000146 (kR l61 n62 l67 b63 n64 n65)).bind fun p68=>oD A p68.leaves 0 fun s70 n71 n72 n73 s74 s75=>oV A p68.leaves 6 fun l76 n77 b78 n79 n80 l81=>bif (A.fits l23 [[(.str s70),(.int .i64 n71),(.int .i64 n72),(.int .i64 n73),(.str s74),(.str s75)]] 72)then some (.inl [(.bool b16),(.sl 4 l76),(.int .i64 n77),(.bool b78),(.int .i64 n79),(.int .i64 n80),(.sl 2 l81),(.sl 6 (A.rapp l23 [[(.str s70),(.int .i64 n71),(.int .i64 n72),(.int .i64 n73),(.str s74),(.str s75)]]))]) else none else some (.inr (.val [(.sl 6 l23),(.sl 4 l17),(.int .i64 n18),(.bool b19),(.int .i64 n20),(.int .i64 n21),(.sl 2 l22)])) else none else bif (A.bnot false)then (E.call 1000095 (kRN [[(.str (bs [59]))]] l17 n18 l22 b19 n20 n21)).bind fun p82=>oR A p82.leaves 0 fun l84 n85 b86=>(opI (A.cell p82.leaves 3) .i64).bind fun n87=>(opI (A.cell p82.leaves 4) .i64).bind fun n88=>(opL (A.cell p82.leaves 5) 1).bind fun l89=>(opL (A.cell p82.leaves 6) 2).bind fun l90=>(E.call 1000146 (kR l84 n85 l90 b86 n87 n88)).bind fun p91=>
 oD A p91.leaves 0 fun s93 n94 n95 n96 s97 s98=>oV A p91.leaves 6 fun l99 n100 b101 n102 n103 l104=>bif (A.fits l23 [[(.str s93),(.int .i64 n94),(.int .i64 n95),(.int .i64 n96),(.str s97),(.str s98)]] 72)then some (.inl [(.bool b16),(.sl 4 l99),(.int .i64 n100),(.bool b101),(.int .i64 n102),(.int .i64 n103),(.sl 2 l104),(.sl 6 (A.rapp l23 [[(.str s93),(.int .i64 n94),(.int .i64 n95),(.int .i64 n96),(.str s97),(.str s98)]]))]) else none else some (.inr (.val [(.sl 6 l23),(.sl 4 l17),(.int .i64 n18),(.bool b19),(.int .i64 n20),(.int .i64 n21),(.sl 2 l22)])) else some (.inr (.val [(.sl 6 l23),(.sl 4 l17),(.int .i64 n18),(.bool b19),(.int .i64 n20),(.int .i64 n21),(.sl 2 l22)])) else none else some (.inr (.val [(.sl 6 l23),(.sl 4 l17),(.int .i64 n18),(.bool b19),(.int .i64 n20),(.int .i64 n21),(.sl 2 l22)]))) [(.bool f_),(.sl 4 l9),(.int .i64 n10),(.bool b11),(.int .i64 n12),(.int .i64 n13),(.sl 2 l14),(.sl 6 [[(.str s3),(.int .i64 n4),(.int .i64 n5),(.int .i64 n6),(.str s7),(.str s8)]])]
theorem b97_eq (A:Sy)(E:Env)(toks:List (List D))(at_:Int)(en_:List (List D))(b_:Bool)(a_ w_:Int)(f_:Bool):(funB A Tryz.prog cs 97 0 [.ptr 0 0, .d (.bool f_)] [.cells (.ty 85) [.d (.sl 4 toks), .d (.int .i64 at_), .own 1, .ifo 89 b_ [.int .i64 a_, .int .i64 w_]], .arr 49 2 en_]).run E=b97 A E toks at_ en_ b_ a_ w_ f_:=by kernel_rfl
def b147 (A:Sy)(E:Env)(toks:List (List D))(at_:Int)(en_:List (List D))(b_:Bool)(a_ w_:Int):Option PRes:=bif (A.bnot b_)then some (.val [(.int .i64 0),(.int .i64 0),(.str (bs [])),(.int .i64 0),(.sl 1 []),(.sl 6 []),(.sl 4 toks),(.int .i64 at_),(.bool b_),(.int .i64 a_),(.int .i64 w_),(.sl 2 en_)]) else (E.call 191 [(.d (.sl 4 toks)),(.d (.int .i64 at_))]).bind fun p1=>oE A p1.leaves 0 fun n3 n4 s5 n6 l7 l8=>(opI (A.cell p1.leaves 6) .i64).bind fun n9=>(opI (A.cell p1.leaves 7) .i64).bind fun n10=>bif (A.bnot (A.ieq n10 0))then (E.call 1000056 (kRF n9 n10 toks at_ en_ b_ a_ w_)).bind fun p11=>oV A p11.leaves 0 fun l13 n14 b15 n16 n17 l18=>some (.val [(.int .i64 0),(.int .i64 0),(.str (bs [])),(.int .i64 0),(.sl 1 []),(.sl 6 []),(.sl 4 l13),(.int .i64 n14),(.bool b15),(.int .i64 n16),(.int .i64 n17),(.sl 2 l18)]) else some (.val [(.int .i64 n3),(.int .i64 n4),(.str s5),(.int .i64 n6),(.sl 1 l7),(.sl 6 l8),(.sl 4 toks),(.int .i64 n9),(.bool b_),(.int .i64 a_),(.int .i64 w_),(.sl 2 en_)])
theorem b147_eq (A:Sy)(E:Env)(toks:List (List D))(at_:Int)(en_:List (List D))(b_:Bool)(a_ w_:Int):(funB A Tryz.prog cs 147 0 [.ptr 0 0] [.cells (.ty 85) [.d (.sl 4 toks), .d (.int .i64 at_), .own 1, .ifo 89 b_ [.int .i64 a_, .int .i64 w_]], .arr 49 2 en_]).run E=b147 A E toks at_ en_ b_ a_ w_:=by kernel_rfl
def b98 (A:Sy)(E:Env)(toks:List (List D))(at_:Int)(en_:List (List D))(b_:Bool)(a_ w_:Int):Option PRes:=(E.call 1000096 (kRI 1 toks at_ en_ b_ a_ w_)).bind fun p1=>(opL (A.cell p1.leaves 0) 1).bind fun l3=>oV A p1.leaves 1 fun l4 n5 b6 n7 n8 l9=>(E.call 1000095 (kRN [[(.str (bs [61]))]] l4 n5 l9 b6 n7 n8)).bind fun p10=>oR A p10.leaves 0 fun l12 n13 b14=>(opI (A.cell p10.leaves 3) .i64).bind fun n15=>(opI (A.cell p10.leaves 4) .i64).bind fun n16=>(opL (A.cell p10.leaves 5) 1).bind fun l17=>(opL (A.cell p10.leaves 6) 2).bind fun l18=>(E.call 1000147 (kR l12 n13 l18 b14 n15 n16)).bind fun p19=>oE A p19.leaves 0 fun n21 n22 s23 n24 l25 l26=>oV A p19.leaves 6 fun l27 n28 b29 n30 n31 l32=>(E.call 1000095 (kRN [[(.str (bs [59]))]] l27 n28 l32 b29 n30 n31)).bind fun p33=>oR A p33.leaves 0 fun l35 n36 b37=>(opI (A.cell p33.leaves 3) .i64).bind fun n38=>(opI (A.cell p33.leaves 4) .i64).bind fun n39=>(opL (A.cell p33.leaves 5) 1).bind fun l40=>(opL (A.cell p33.leaves 6) 2).bind fun l41=>some (.val [(.sl 1 l3),(.int .i64 n21),(.int .i64 n22),(.str s23),(.int .i64 n24),(.sl 1 l25),(.sl 6 l26),(.sl 4 l35),(.int .i64 n36),(.bool b37),(.int .i64 n38),(.int .i64 n39),(.sl 2 l41)])
theorem b98_eq (A:Sy)(E:Env)(toks:List (List D))(at_:Int)(en_:List (List D))(b_:Bool)(a_ w_:Int):(funB A Tryz.prog cs 98 0 [.ptr 0 0] [.cells (.ty 85) [.d (.sl 4 toks), .d (.int .i64 at_), .own 1, .ifo 89 b_ [.int .i64 a_, .int .i64 w_]], .arr 49 2 en_]).run E=b98 A E toks at_ en_ b_ a_ w_:=by kernel_rfl
def b53 (A:Sy)(E:Env)(toks:List (List D))(at_:Int)(en_:List (List D))(b_:Bool)(a_ w_:Int):Option PRes:=(E.call 1000094 (kRI 1 toks at_ en_ b_ a_ w_)).bind fun p1=>oT A p1.leaves 0 fun n3 s4 n5 n6=>oV A p1.leaves 4 fun l7 n8 b9 n10 n11 l12=>(E.call 1000095 (kRN [[(.str (bs [40]))]] l7 n8 l12 b9 n10 n11)).bind fun p13=>oR A p13.leaves 0 fun l15 n16 b17=>(opI (A.cell p13.leaves 3) .i64).bind fun n18=>(opI (A.cell p13.leaves 4) .i64).bind fun n19=>(opL (A.cell p13.leaves 5) 1).bind fun l20=>(opL (A.cell p13.leaves 6) 2).bind fun l21=>cutO ((E.call 1000051 (kRS (bs [41]) l15 n16 l21 b17 n18 n19)).bind fun p22=>(opB (A.cell p22.leaves 0)).bind fun b24=>oV A p22.leaves 1 fun l25 n26 b27 n28 n29 l30=>bif (A.bnot b24)then (E.call 1000097 (kRB false l25 n26 l30 b27 n28 n29)).bind fun p31=>(opL (A.cell p31.leaves 0) 6).bind fun l33=>oV A p31.leaves 1 fun l34 n35 b36 n37 n38 l39=>(E.call 1000095 (kRN [[(.str (bs [41]))]] l34 n35 l39 b36 n37 n38)).bind fun p40=>oR A p40.leaves 0 fun l42 n43 b44=>(opI (A.cell p40.leaves 3) .i64).bind fun n45=>(opI (A.cell p40.leaves 4) .i64).bind fun n46=>(opL (A.cell p40.leaves 5) 1).bind fun l47=>(opL (A.cell p40.leaves 6) 2).bind fun l48=>some (.inl [(.sl 4 l42),(.int .i64 n43),(.bool b44),(.int .i64 n45),(.int .i64 n46),(.sl 2 l48),(.str (bs [])),(.str s4),(.sl 6 l33)]) else some (.inl [(.sl 4 l25),(.int .i64 n26),(.bool b27),(.int .i64 n28),(.int .i64 n29),(.sl 2 l30),(.str (bs [])),(.str s4),(.sl 6 [])])) fun ds49=>oV A ds49 0 fun l50 n51 b52 n53 n54 l55=>(opS (A.cell ds49 6)).bind fun s56=>(opS (A.cell ds49 7)).bind fun s57=>(opL (A.cell ds49 8) 6).bind fun l58=>(E.call 1000095 (kRN [[(.str (bs [114,101,116,117,114,110,115]))],[(.str (bs [40]))]] l50 n51 l55 b52 n53 n54)).bind fun p59=>oR A p59.leaves 0 fun l61 n62 b63=>(opI (A.cell p59.leaves 3) .i64).bind fun n64=>(opI (A.cell p59.leaves 4) .i64).bind fun n65=>(opL (A.cell p59.leaves 5) 1).bind fun l66=>(opL (A.cell p59.leaves 6) 2).bind fun l67=>(E.call 1000097 (kRB false l61 n62 l67 b63 n64 n65)).bind fun p68=>(opL (A.cell p68.leaves 0) 6).bind fun l70=>oV A p68.leaves 1 fun l71 n72 b73 n74 n75 l76=>(E.call 1000095 (kRN [[(.str (bs [41]))]] l71 n72 l76 b73 n74 n75)).bind fun p77=>oR A p77.leaves 0 fun l79 n80 b81=>(opI (A.cell p77.leaves 3) .i64).bind fun n82=>(opI (A.cell p77.leaves 4) .i64).bind fun n83=>(opL (A.cell p77.leaves 5) 1).bind fun l84=>(opL (A.cell p77.leaves 6) 2).bind fun l85=>cutO ((E.call 1000051 (kRS (bs [118,97,114]) l79 n80 l85 b81 n82 n83)).bind fun p86=>(opB (A.cell p86.leaves 0)).bind fun b88=>oV A p86.leaves 1 fun l89 n90 b91 n92 n93 l94=>bif b88 then (E.call 1000097 (kRB true l89 n90 l94 b91 n92 n93)).bind fun p95=>(opL (A.cell p95.leaves 0) 6).bind fun l97=>oV A p95.leaves 1 fun l98 n99 b100 n101 n102 l103=>(E.call 1000095 (kRN [[(.str (bs [59]))]] l98 n99 l103 b100 n101 n102)).bind fun p104=>oR A p104.leaves 0 fun l106 n107 b108=>(opI (A.cell p104.leaves 3) .i64).bind fun n109=>(opI (A.cell p104.leaves 4) .i64).bind fun n110=>(opL (A.cell p104.leaves 5) 1).bind fun l111=>(opL (A.cell p104.leaves 6) 2).bind fun l112=>some (.inl [(.sl 4 l106),(.int .i64 n107),(.bool b108),(.int .i64 n109),(.int .i64 n110),(.sl 2 l112),(.str s56),(.str s57),(.sl 6 l58),(.sl 6 l70),(.sl 6 l97)]) else some (.inl [(.sl 4 l89),(.int .i64 n90),(.bool b91),(.int .i64 n92),(.int .i64 n93),(.sl 2 l94),(.str s56),(.str s57),(.sl 6 l58),(.sl 6 l70),(.sl 6 [])])) fun ds113=>oV A ds113 0 fun l114 n115 b116 n117 n118 l119=>(opS (A.cell ds113 6)).bind fun s120=>(opS (A.cell ds113 7)).bind fun s121=>(opL (A.cell ds113 8) 6).bind fun l122=>(opL (A.cell ds113 9) 6).bind fun l123=>(opL (A.cell ds113 10) 6).bind fun l124=>(E.call 1000095 (kRN [[(.str (bs [108,101,116]))]] l114 n115 l119 b116 n117 n118)).bind fun p125=>oR A p125.leaves 0 fun l127 n128 b129=>(opI (A.cell p125.leaves 3) .i64).bind fun n130=>(opI (A.cell p125.leaves 4) .i64).bind fun n131=>(opL (A.cell p125.leaves 5) 1).bind fun l132=>(opL (A.cell p125.leaves 6) 2).bind fun l133=>E.lp (fun ds134=>
 oV A ds134 0 fun l135 n136 b137 n138 n139 l140=>(opS (A.cell ds134 6)).bind fun s141=>(opS (A.cell ds134 7)).bind fun s142=>(opL (A.cell ds134 8) 6).bind fun l143=>(opL (A.cell ds134 9) 6).bind fun l144=>(opL (A.cell ds134 10) 6).bind fun l145=>(opL (A.cell ds134 11) 7).bind fun l146=>bif b137 then (E.call 1000051 (kRS (bs [116,101,108]) l135 n136 l140 b137 n138 n139)).bind fun p147=>(opB (A.cell p147.leaves 0)).bind fun b149=>oV A p147.leaves 1 fun l150 n151 b152 n153 n154 l155=>bif (A.bnot b149)then (E.call 1000098 (kR l150 n151 l155 b152 n153 n154)).bind fun p156=>(opL (A.cell p156.leaves 0) 1).bind fun l158=>oE A p156.leaves 1 fun n159 n160 s161 n162 l163 l164=>oV A p156.leaves 7 fun l165 n166 b167 n168 n169 l170=>bif (A.fits l146 [[(.sl 1 l158),(.int .i64 n159),(.int .i64 n160),(.str s161),(.int .i64 n162),(.sl 1 l163),(.sl 6 l164)]] 112)then some (.inl [(.sl 4 l165),(.int .i64 n166),(.bool b167),(.int .i64 n168),(.int .i64 n169),(.sl 2 l170),(.str s141),(.str s142),(.sl 6 l143),(.sl 6 l144),(.sl 6 l145),(.sl 7 (A.rapp l146 [[(.sl 1 l158),(.int .i64 n159),(.int .i64 n160),(.str s161),(.int .i64 n162),(.sl 1 l163),(.sl 6 l164)]]))]) else none else some (.inr (.val [(.str s142),(.sl 6 l143),(.sl 6 l144),(.sl 6 l145),(.sl 7 l146),(.sl 4 l150),(.int .i64 n151),(.bool b152),(.int .i64 n153),(.int .i64 n154),(.sl 2 l155)])) else some (.inr (.val [(.str s142),(.sl 6 l143),(.sl 6 l144),(.sl 6 l145),(.sl 7 l146),(.sl 4 l135),(.int .i64 n136),(.bool b137),(.int .i64 n138),(.int .i64 n139),(.sl 2 l140)]))) [(.sl 4 l127),(.int .i64 n128),(.bool b129),(.int .i64 n130),(.int .i64 n131),(.sl 2 l133),(.str s120),(.str s121),(.sl 6 l122),(.sl 6 l123),(.sl 6 l124),(.sl 7 [])]
theorem b53_eq (A:Sy)(E:Env)(toks:List (List D))(at_:Int)(en_:List (List D))(b_:Bool)(a_ w_:Int):(funB A Tryz.prog cs 53 0 [.ptr 0 0] [.cells (.ty 85) [.d (.sl 4 toks), .d (.int .i64 at_), .own 1, .ifo 89 b_ [.int .i64 a_, .int .i64 w_]], .arr 49 2 en_]).run E=b53 A E toks at_ en_ b_ a_ w_:=by kernel_rfl
def b95 (A:Sy)(E:Env)(toks:List (List D))(at_:Int)(en_:List (List D))(b_:Bool)(a_ w_:Int)(rows:List (List D)):Option PRes:=E.lp (fun ds1=>(opI (A.cell ds1 0) .i64).bind fun n2=>(opI (A.cell ds1 1) .i64).bind fun n3=>oR A ds1 2 fun l4 n5 b6=>(opI (A.cell ds1 5) .i64).bind fun n7=>(opI (A.cell ds1 6) .i64).bind fun n8=>(opL (A.cell ds1 7) 1).bind fun l9=>(opL (A.cell ds1 8) 2).bind fun l10=>bif (A.ilt n3 n2)then bif (A.inr n3 (A.rlen l9))then (opS (A.cell (A.rown l9 (A.nat n3)) 0)).bind fun s11=>(E.call 1000051 (kRS s11 l4 n5 l10 b6 n7 n8)).bind fun p12=>(opB (A.cell p12.leaves 0)).bind fun b14=>oV A p12.leaves 1 fun l15 n16 b17 n18 n19 l20=>bif (A.bnot b14)then (E.call 1000056 (kRF n16 2 l15 n16 l20 b17 n18 n19)).bind fun p21=>oV A p21.leaves 0 fun l23 n24 b25 n26 n27 l28=>some (.inl [(.int .i64 n2),(.int .i64 (A.wrap .i64 (A.add n3 1))),(.sl 4 l23),(.int .i64 n24),(.bool b25),(.int .i64 n26),(.int .i64 n27),(.sl 1 l9),(.sl 2 l28)]) else some (.inl [(.int .i64 n2),(.int .i64 (A.wrap .i64 (A.add n3 1))),(.sl 4 l15),(.int .i64 n16),(.bool b17),(.int .i64 n18),(.int .i64 n19),(.sl 1 l9),(.sl 2 l20)]) else none else some (.inr (.val [(.sl 4 l4),(.int .i64 n5),(.bool b6),(.int .i64 n7),(.int .i64 n8),(.sl 1 l9),(.sl 2 l10)]))) [(.int .i64 (A.rlen rows)),(.int .i64 0),(.sl 4 toks),(.int .i64 at_),(.bool b_),(.int .i64 a_),(.int .i64 w_),(.sl 1 rows),(.sl 2 en_)]
theorem b95_eq (A:Sy)(E:Env)(toks:List (List D))(at_:Int)(en_:List (List D))(b_:Bool)(a_ w_:Int)(rows:List (List D)):(funB A Tryz.prog cs 95 0 [.ptr 0 0, .own 1] [.cells (.ty 85) [.d (.sl 4 toks), .d (.int .i64 at_), .own 2, .ifo 89 b_ [.int .i64 a_, .int .i64 w_]], .arr 9 1 rows, .arr 49 2 en_]).run E=b95 A E toks at_ en_ b_ a_ w_ rows:=by kernel_rfl
def g15 (A:Sy)(E:Env)(s_:ByteArray):Option PRes:=(E.call 30 [(.d (.str s_)),(.d (.int .i64 6000))]).bind fun p1=>oP A p1.leaves 0 fun l3 n4=>(opI (A.cell p1.leaves 2) .i64).bind fun n5=>bif (A.bnot (A.ieq n5 0))then some (.val [(.sl 2 []),(.sl 5 []),(.int .i64 n4),(.int .i64 n5)]) else E.lp (fun ds6=>oV A ds6 0 fun l7 n8 b9 n10 n11 l12=>(opL (A.cell ds6 6) 5).bind fun l13=>(E.call 1000051 (kRS (bs [101,110,117,109]) l7 n8 l12 b9 n10 n11)).bind fun p14=>(opB (A.cell p14.leaves 0)).bind fun b16=>oV A p14.leaves 1 fun l17 n18 b19 n20 n21 l22=>bif b16 then (E.call 1000052 (kR l17 n18 l22 b19 n20 n21)).bind fun p23=>(opS (A.cell p23.leaves 0)).bind fun s25=>(opL (A.cell p23.leaves 1) 1).bind fun l26=>oV A p23.leaves 2 fun l27 n28 b29 n30 n31 l32=>bif (A.fits l32 [[(.str s25),(.sl 1 l26)]] 40)then some (.inl [(.sl 4 l27),(.int .i64 n28),(.bool b29),(.int .i64 n30),(.int .i64 n31),(.sl 2 (A.rapp l32 [[(.str s25),(.sl 1 l26)]])),(.sl 5 l13)]) else none else E.lp (fun ds33=>oV A ds33 0 fun l34 n35 b36 n37 n38 l39=>(opL (A.cell ds33 6) 5).bind fun l40=>(E.call 1000051 (kRS (bs [110,111,100,101]) l34 n35 l39 b36 n37 n38)).bind fun p41=>(opB (A.cell p41.leaves 0)).bind fun b43=>oV A p41.leaves 1 fun l44 n45 b46 n47 n48 l49=>bif b43 then (E.call 1000053 (kR l44 n45 l49 b46 n47 n48)).bind fun p50=>(opS (A.cell p50.leaves 0)).bind fun s52=>(opL (A.cell p50.leaves 1) 6).bind fun l53=>(opL (A.cell p50.leaves 2) 6).bind fun l54=>(opL (A.cell p50.leaves 3) 6).bind fun l55=>(opL (A.cell p50.leaves 4) 7).bind fun l56=>oV A p50.leaves 5 fun l57 n58 b59 n60 n61 l62=>bif (A.fits l40 [[(.str s52),(.sl 6 l53),(.sl 6 l54),(.sl 6 l55),(.sl 7 l56)]] 112)then some (.inl [(.sl 4 l57),(.int .i64 n58),(.bool b59),(.int .i64 n60),(.int .i64 n61),(.sl 2 l62),(.sl 5 (A.rapp l40 [[(.str s52),(.sl 6 l53),(.sl 6 l54),(.sl 6 l55),(.sl 7 l56)]]))]) else none else bif b46 then bif (A.inr n45 (A.rlen l44))then oT A (A.row l44 n45) 0 fun n63 s64 n65 n66=>bif (A.bnot (A.ieq n63 6))then (E.call 1000056 (kRF n45 2 l44 n45 l49 b46 n47 n48)).bind fun p67=>oV A p67.leaves 0 fun l69 n70 b71 n72 n73 l74=>(E.call 1000032 (kAs b71 n72 n73)).bind fun p75=>(opB (A.cell p75.leaves 0)).bind fun b77=>(opI (A.cell p75.leaves 1) .i64).bind fun n78=>(opI (A.cell p75.leaves 2) .i64).bind fun n79=>bif b77 then some (.inr (.inr (.val [(.sl 2 []),(.sl 5 []),(.int .i64 n78),(.int .i64 n79)]))) else (E.call 33 [(.agg [(.d (.sl 2 l74)),(.d (.sl 5 l40))])]).bind fun p80=>(opI (A.cell p80.leaves 0) .i64).bind fun n82=>bif (A.bnot (A.ieq n82 0))then some (.inr (.inr (.val [(.sl 2 []),(.sl 5 []),(.int .i64 (A.slen s_)),(.int .i64 n82)]))) else some (.inr (.inr (.val [(.sl 2 l74),(.sl 5 l40),(.int .i64 (A.slen s_)),(.int .i64 0)]))) else (E.call 1000032 (kAs b46 n47 n48)).bind fun p83=>(opB (A.cell p83.leaves 0)).bind fun b85=>(opI (A.cell p83.leaves 1) .i64).bind fun n86=>(opI (A.cell p83.leaves 2) .i64).bind fun n87=>bif b85 then some (.inr (.inr (.val [(.sl 2 []),(.sl 5 []),(.int .i64 n86),(.int .i64 n87)]))) else (E.call 33 [(.agg [(.d (.sl 2 l49)),(.d (.sl 5 l40))])]).bind fun p88=>(opI (A.cell p88.leaves 0) .i64).bind fun n90=>bif (A.bnot (A.ieq n90 0))then some (.inr (.inr (.val [(.sl 2 []),(.sl 5 []),(.int .i64 (A.slen s_)),(.int .i64 n90)]))) else some (.inr (.inr (.val [(.sl 2 l49),(.sl 5 l40),(.int .i64 (A.slen s_)),(.int .i64 0)]))) else none else (E.call 1000032 (kAs b46 n47 n48)).bind fun p91=>(opB (A.cell p91.leaves 0)).bind fun b93=>(opI (A.cell p91.leaves 1) .i64).bind fun n94=>(opI (A.cell p91.leaves 2) .i64).bind fun n95=>bif b93 then some (.inr (.inr (.val [(.sl 2 []),(.sl 5 []),(.int .i64 n94),(.int .i64 n95)]))) else (E.call 33 [(.agg [(.d (.sl 2 l49)),(.d (.sl 5 l40))])]).bind fun p96=>(opI (A.cell p96.leaves 0) .i64).bind fun n98=>bif (A.bnot (A.ieq n98 0))then some (.inr (.inr (.val [(.sl 2 []),(.sl 5 []),(.int .i64 (A.slen s_)),(.int .i64 n98)]))) else some (.inr (.inr (.val [(.sl 2 l49),(.sl 5 l40),(.int .i64 (A.slen s_)),(.int .i64 0)])))) [(.sl 4 l17),(.int .i64 n18),(.bool b19),(.int .i64 n20),(.int .i64 n21),(.sl 2 l22),(.sl 5 l13)]
 ) [(.sl 4 l3),(.int .i64 0),(.bool true),(.int .i64 0),(.int .i64 0),(.sl 2 []),(.sl 5 [])]
theorem g15_eq (A:Sy)(E:Env)(s_:ByteArray):(funT A Tryz.prog cs 15 [.d (.str s_)]).run E=g15 A E s_:=by kernel_rfl
end
noncomputable section
def g325 (A:Sy)(E:Env)(op_:Int):Option PRes:=bif (A.ieq op_ 1)then some (.val [(.str (bs [45]))]) else bif (A.ieq op_ 4)then some (.val [(.str (bs [45]))]) else bif (A.ieq op_ 2)then some (.val [(.str (bs [110,111,116]))]) else bif (A.ieq op_ 3)then some (.val [(.str (bs [43]))]) else bif (A.ieq op_ 5)then some (.val [(.str (bs [42]))]) else bif (A.ieq op_ 6)then some (.val [(.str (bs [47]))]) else bif (A.ieq op_ 7)then some (.val [(.str (bs [109,111,100]))]) else bif (A.ieq op_ 8)then some (.val [(.str (bs [97,110,100]))]) else bif (A.ieq op_ 9)then some (.val [(.str (bs [111,114]))]) else bif (A.ieq op_ 10)then some (.val [(.str (bs [120,111,114]))]) else (E.call 327 [(.d (.int .i64 op_))]).bind fun p1=>(opS (A.cell p1.leaves 0)).bind fun s3=>some (.val [(.str s3)])
theorem g325_eq (A:Sy)(E:Env)(op_:Int):(funT A Tryz.prog cs 325 [.d (.int .i64 op_)]).run E=g325 A E op_:=by kernel_rfl
def g327 (A:Sy)(E:Env)(op_:Int):Option PRes:=bif (A.ieq op_ 11)then some (.val [(.str (bs [61]))]) else bif (A.ieq op_ 12)then some (.val [(.str (bs [60,62]))]) else bif (A.ieq op_ 13)then some (.val [(.str (bs [60]))]) else bif (A.ieq op_ 14)then some (.val [(.str (bs [60,61]))]) else bif (A.ieq op_ 15)then some (.val [(.str (bs [62]))]) else bif (A.ieq op_ 16)then some (.val [(.str (bs [62,61]))]) else some (.val [(.str (bs []))])
theorem g327_eq (A:Sy)(E:Env)(op_:Int):(funT A Tryz.prog cs 327 [.d (.int .i64 op_)]).run E=g327 A E op_:=by kernel_rfl
def g322 (A:Sy)(E:Env)(op_ a_0 a_1:Int)(a_2:ByteArray)(a_3:Int)(a_4 a_5:List (List D))(b_0 b_1:Int)(b_2:ByteArray)(b_3:Int)(b_4 b_5:List (List D)):Option PRes:=some (.val [(.int .i64 6),(.int .i64 0),(.str (bs [])),(.int .i64 op_),(.sl 1 []),(.sl 6 [[(.int .i64 a_0),(.int .i64 a_1),(.str a_2),(.int .i64 a_3),(.sl 1 a_4),(.sl 6 a_5)],[(.int .i64 b_0),(.int .i64 b_1),(.str b_2),(.int .i64 b_3),(.sl 1 b_4),(.sl 6 b_5)]])])
theorem g322_eq (A:Sy)(E:Env)(op_ a_0 a_1:Int)(a_2:ByteArray)(a_3:Int)(a_4 a_5:List (List D))(b_0 b_1:Int)(b_2:ByteArray)(b_3:Int)(b_4 b_5:List (List D)):(funT A Tryz.prog cs 322 [.d (.int .i64 op_),V.agg [.d (.int .i64 a_0),V.d (.int .i64 a_1),V.d (.str a_2),V.d (.int .i64 a_3),V.d (.sl 1 a_4),V.d (.sl 6 a_5)],V.agg [.d (.int .i64 b_0),V.d (.int .i64 b_1),V.d (.str b_2),V.d (.int .i64 b_3),V.d (.sl 1 b_4),V.d (.sl 6 b_5)]]).run E=g322 A E op_ a_0 a_1 a_2 a_3 a_4 a_5 b_0 b_1 b_2 b_3 b_4 b_5:=by kernel_rfl
end
noncomputable section
def g230 (A:Sy)(E:Env)(l_:List (List D))(at_:Int):Option PRes:=cutO (bif (A.ile 0 at_)then some (.inl [(.bool (A.ilt at_ (A.rlen l_)))]) else some (.inl [(.bool false)])) fun ds1=>(opB (A.cell ds1 0)).bind fun b2=>cutO (bif b2 then bif (A.inr (A.wrap .i64 (A.sub (A.rlen l_) 1)) (A.rlen l_))then (opI (A.cell (A.row l_ (A.wrap .i64 (A.sub (A.rlen l_) 1))) 0) .i64).bind fun n3=>some (.inl [(.bool (A.ieq n3 6))]) else none else some (.inl [(.bool false)])) fun ds4=>(opB (A.cell ds4 0)).bind fun b5=>some (.val [(.bool b5)])
theorem g230_eq (A:Sy)(E:Env)(l_:List (List D))(at_:Int):(funT A Tryz.prog cs 230 [.d (.sl 4 l_),V.d (.int .i64 at_)]).run E=g230 A E l_ at_:=by kernel_rfl
def g191 (A:Sy)(E:Env)(l_:List (List D))(at_:Int):Option PRes:=(E.call 230 [(.d (.sl 4 l_)),(.d (.int .i64 at_))]).bind fun p1=>(opB (A.cell p1.leaves 0)).bind fun b3=>bif (A.bnot b3)then some (.val [(.int .i64 0),(.int .i64 0),(.str (bs [])),(.int .i64 0),(.sl 1 []),(.sl 6 []),(.int .i64 0),(.int .i64 1)]) else (E.call 231 [(.d (.sl 4 l_)),(.d (.int .i64 at_))]).bind fun p4=>oE A p4.leaves 0 fun n6 n7 s8 n9 l10 l11=>(opI (A.cell p4.leaves 6) .i64).bind fun n12=>(opB (A.cell p4.leaves 7)).bind fun b13=>bif (A.bnot b13)then some (.val [(.int .i64 0),(.int .i64 0),(.str (bs [])),(.int .i64 0),(.sl 1 []),(.sl 6 []),(.int .i64 n12),(.int .i64 2)]) else (E.call 196 [(kE n6 n7 s8 n9 l10 l11)]).bind fun p14=>(opI (A.cell p14.leaves 0) .i64).bind fun n16=>cutO (bif (A.ilt 12 n16)then some (.inl [(.bool true)]) else (E.call 195 [(kE n6 n7 s8 n9 l10 l11)]).bind fun p17=>(opI (A.cell p17.leaves 0) .i64).bind fun n19=>some (.inl [(.bool (A.ilt 60 n19))])) fun ds20=>(opB (A.cell ds20 0)).bind fun b21=>bif b21 then some (.val [(.int .i64 0),(.int .i64 0),(.str (bs [])),(.int .i64 0),(.sl 1 []),(.sl 6 []),(.int .i64 at_),(.int .i64 3)]) else (E.call 160 [(kE n6 n7 s8 n9 l10 l11)]).bind fun p22=>(opB (A.cell p22.leaves 0)).bind fun b24=>bif (A.bnot b24)then some (.val [(.int .i64 0),(.int .i64 0),(.str (bs [])),(.int .i64 0),(.sl 1 []),(.sl 6 []),(.int .i64 at_),(.int .i64 1)]) else some (.val [(.int .i64 n6),(.int .i64 n7),(.str s8),(.int .i64 n9),(.sl 1 l10),(.sl 6 l11),(.int .i64 n12),(.int .i64 0)])
theorem g191_eq (A:Sy)(E:Env)(l_:List (List D))(at_:Int):(funT A Tryz.prog cs 191 [.d (.sl 4 l_),V.d (.int .i64 at_)]).run E=g191 A E l_ at_:=by kernel_rfl
def g196 (A:Sy)(E:Env)(e_0 e_1:Int)(e_2:ByteArray)(e_3:Int)(e_4 e_5:List (List D)):Option PRes:=E.lp (fun ds1=>(opI (A.cell ds1 0) .i64).bind fun n2=>(opL (A.cell ds1 1) 6).bind fun l3=>(opI (A.cell ds1 2) .i64).bind fun n4=>(opI (A.cell ds1 3) .i64).bind fun n5=>bif (A.ilt n5 n4)then bif (A.inr n5 (A.rlen l3))then oE A (A.row l3 n5) 0 fun n6 n7 s8 n9 l10 l11=>(E.call 196 [(kE n6 n7 s8 n9 l10 l11)]).bind fun p12=>(opI (A.cell p12.leaves 0) .i64).bind fun n14=>some (.inl [(.int .i64 (A.imax n2 n14)),(.sl 6 l3),(.int .i64 n4),(.int .i64 (A.wrap .i64 (A.add n5 1)))]) else none else some (.inr (.val [(.int .i64 (A.wrap .i64 (A.add n2 1)))]))) [(.int .i64 0),(.sl 6 e_5),(.int .i64 (A.rlen e_5)),(.int .i64 0)]
theorem g196_eq (A:Sy)(E:Env)(e_0 e_1:Int)(e_2:ByteArray)(e_3:Int)(e_4 e_5:List (List D)):(funT A Tryz.prog cs 196 [.agg [.d (.int .i64 e_0),V.d (.int .i64 e_1),V.d (.str e_2),V.d (.int .i64 e_3),V.d (.sl 1 e_4),V.d (.sl 6 e_5)]]).run E=g196 A E e_0 e_1 e_2 e_3 e_4 e_5:=by kernel_rfl
def g234 (A:Sy)(E:Env)(e_0 e_1:Int)(e_2:ByteArray)(e_3:Int)(e_4 e_5:List (List D)):Option PRes:=bif (A.ieq e_0 1)then (E.call 267 [(kE e_0 e_1 e_2 e_3 e_4 e_5)]).bind fun p1=>oQ A p1.leaves 0 fun b3 b4 b5 n6 n7 n8=>some (.val [(.bool b3),(.bool b4),(.bool b5),(.int .i64 n6),(.int .i64 n7),(.int .i64 n8),(.bool true)]) else bif (A.ieq e_0 2)then (E.call 267 [(kE e_0 e_1 e_2 e_3 e_4 e_5)]).bind fun p9=>oQ A p9.leaves 0 fun b11 b12 b13 n14 n15 n16=>some (.val [(.bool b11),(.bool b12),(.bool b13),(.int .i64 n14),(.int .i64 n15),(.int .i64 n16),(.bool true)]) else bif (A.ieq e_0 3)then (E.call 267 [(kE e_0 e_1 e_2 e_3 e_4 e_5)]).bind fun p17=>oQ A p17.leaves 0 fun b19 b20 b21 n22 n23 n24=>some (.val [(.bool b19),(.bool b20),(.bool b21),(.int .i64 n22),(.int .i64 n23),(.int .i64 n24),(.bool true)]) else bif (A.ieq e_0 4)then (E.call 267 [(kE e_0 e_1 e_2 e_3 e_4 e_5)]).bind fun p25=>oQ A p25.leaves 0 fun b27 b28 b29 n30 n31 n32=>some (.val [(.bool b27),(.bool b28),(.bool b29),(.int .i64 n30),(.int .i64 n31),(.int .i64 n32),(.bool true)]) else bif (A.ieq e_0 17)then (E.call 267 [(kE e_0 e_1 e_2 e_3 e_4 e_5)]).bind fun p33=>oQ A p33.leaves 0 fun b35 b36 b37 n38 n39 n40=>some (.val [(.bool b35),(.bool b36),(.bool b37),(.int .i64 n38),(.int .i64 n39),(.int .i64 n40),(.bool true)]) else bif (A.ieq e_0 5)then (E.call 268 [(kE e_0 e_1 e_2 e_3 e_4 e_5),(.d (.int .i64 1))]).bind fun p41=>oQ A p41.leaves 0 fun b43 b44 b45 n46 n47 n48=>cutO (bif (A.ieq e_3 1)then some (.inl [(.bool true)]) else some (.inl [(.bool (A.ieq e_3 2))])) fun ds49=>(opB (A.cell ds49 0)).bind fun b50=>some (.val [(.bool b43),(.bool b44),(.bool b50),(.int .i64 n46),(.int .i64 n47),(.int .i64 n48),(.bool true)]) else bif (A.ieq e_0 6)then (E.call 268 [(kE e_0 e_1 e_2 e_3 e_4 e_5),(.d (.int .i64 2))]).bind fun p51=>oQ A p51.leaves 0 fun b53 b54 b55 n56 n57 n58=>cutO (bif (A.ile 3 e_3)then some (.inl [(.bool (A.ile e_3 16))]) else some (.inl [(.bool false)])) fun ds59=>(opB (A.cell ds59 0)).bind fun b60=>some (.val [(.bool b53),(.bool b54),(.bool b60),(.int .i64 n56),(.int .i64 n57),(.int .i64 n58),(.bool true)]) else bif (A.ieq e_0 7)then (E.call 268 [(kE e_0 e_1 e_2 e_3 e_4 e_5),(.d (.int .i64 3))]).bind fun p61=>oQ A p61.leaves 0 fun b63 b64 b65 n66 n67 n68=>some (.val [(.bool b63),(.bool b64),(.bool b65),(.int .i64 n66),(.int .i64 n67),(.int .i64 n68),(.bool true)]) else bif (A.ieq e_0 16)then (E.call 268 [(kE e_0 e_1 e_2 e_3 e_4 e_5),(.d (.int .i64 3))]).bind fun p69=>oQ A p69.leaves 0 fun b71 b72 b73 n74 n75 n76=>some (.val [(.bool b71),(.bool b72),(.bool b73),(.int .i64 n74),(.int .i64 n75),(.int .i64 n76),(.bool true)]) else bif (A.ieq e_0 8)then (E.call 268 [(kE e_0 e_1 e_2 e_3 e_4 e_5),(.d (.int .i64 2))]).bind fun p77=>oQ A p77.leaves 0 fun b79 b80 b81 n82 n83 n84=>some (.val [(.bool b79),(.bool b80),(.bool b81),(.int .i64 n82),(.int .i64 n83),(.int .i64 n84),(.bool true)]) else bif (A.ieq e_0 9)then (E.call 268 [(kE e_0 e_1 e_2 e_3 e_4 e_5),(.d (.int .i64 2))]).bind fun p85=>oQ A p85.leaves 0 fun b87 b88 b89 n90 n91 n92=>some (.val [(.bool b87),(.bool b88),(.bool b89),(.int .i64 n90),(.int .i64 n91),(.int .i64 n92),(.bool true)]) else bif (A.ieq e_0 15)then (E.call 268 [(kE e_0 e_1 e_2 e_3 e_4 e_5),(.d (.int .i64 2))]).bind fun p93=>oQ A p93.leaves 0 fun b95 b96 b97 n98 n99 n100=>some (.val [(.bool b95),(.bool b96),(.bool b97),(.int .i64 n98),(.int .i64 n99),(.int .i64 n100),(.bool true)]) else bif (A.ieq e_0 10)then (E.call 268 [(kE e_0 e_1 e_2 e_3 e_4 e_5),(.d (.int .i64 1))]).bind fun p101=>oQ A p101.leaves 0 fun b103 b104 b105 n106 n107 n108=>some (.val [(.bool b103),(.bool b104),(.bool b105),(.int .i64 n106),(.int .i64 n107),(.int .i64 n108),(.bool true)]) else bif (A.ieq e_0 11)then (E.call 268 [(kE e_0 e_1 e_2 e_3 e_4 e_5),(.d (.int .i64 1))]).bind fun p109=>oQ A p109.leaves 0 fun b111 b112 b113 n114 n115 n116=>(E.call 103 [(.d (.str e_2))]).bind fun p117=>(opB (A.cell p117.leaves 0)).bind fun b119=>some (.val [(.bool b111),(.bool b119),(.bool b113),(.int .i64 n114),(.int .i64 n115),(.int .i64 1),(.bool true)])
 else bif (A.ieq e_0 12)then (E.call 268 [(kE e_0 e_1 e_2 e_3 e_4 e_5),(.d (.int .i64 (A.rlen e_4)))]).bind fun p120=>oQ A p120.leaves 0 fun b122 b123 b124 n125 n126 n127=>(E.call 103 [(.d (.str e_2))]).bind fun p128=>(opB (A.cell p128.leaves 0)).bind fun b130=>some (.val [(.bool b122),(.bool b130),(.bool b124),(.int .i64 n125),(.int .i64 n126),(.int .i64 6),(.bool true)]) else bif (A.ieq e_0 13)then bif (A.ieq e_1 0)then (E.call 103 [(.d (.str e_2))]).bind fun p131=>(opB (A.cell p131.leaves 0)).bind fun b133=>bif (A.ieq e_1 0)then some (.val [(.bool true),(.bool b133),(.bool (A.ieq e_3 0)),(.int .i64 e_1),(.int .i64 6),(.int .i64 0),(.bool true)]) else some (.val [(.bool true),(.bool b133),(.bool (A.ieq e_3 0)),(.int .i64 e_1),(.int .i64 7),(.int .i64 0),(.bool true)]) else (E.call 103 [(.d (.str e_2))]).bind fun p134=>(opB (A.cell p134.leaves 0)).bind fun b136=>bif (A.ieq e_1 0)then some (.val [(.bool (A.ieq e_1 1)),(.bool b136),(.bool (A.ieq e_3 0)),(.int .i64 e_1),(.int .i64 6),(.int .i64 0),(.bool true)]) else some (.val [(.bool (A.ieq e_1 1)),(.bool b136),(.bool (A.ieq e_3 0)),(.int .i64 e_1),(.int .i64 7),(.int .i64 0),(.bool true)]) else bif (A.ieq e_0 14)then (E.call 268 [(kE e_0 e_1 e_2 e_3 e_4 e_5),(.d (.int .i64 1))]).bind fun p137=>oQ A p137.leaves 0 fun b139 b140 b141 n142 n143 n144=>some (.val [(.bool b139),(.bool b140),(.bool b141),(.int .i64 n142),(.int .i64 8),(.int .i64 n144),(.bool true)]) else some (.val [(.bool false),(.bool false),(.bool false),(.int .i64 0),(.int .i64 0),(.int .i64 0),(.bool false)])
theorem g234_eq (A:Sy)(E:Env)(e_0 e_1:Int)(e_2:ByteArray)(e_3:Int)(e_4 e_5:List (List D)):(funT A Tryz.prog cs 234 [.agg [.d (.int .i64 e_0),V.d (.int .i64 e_1),V.d (.str e_2),V.d (.int .i64 e_3),V.d (.sl 1 e_4),V.d (.sl 6 e_5)]]).run E=g234 A E e_0 e_1 e_2 e_3 e_4 e_5:=by kernel_rfl
def g267 (A:Sy)(E:Env)(e_0 e_1:Int)(e_2:ByteArray)(e_3:Int)(e_4 e_5:List (List D)):Option PRes:=(E.call 268 [(kE e_0 e_1 e_2 e_3 e_4 e_5),(.d (.int .i64 0))]).bind fun p1=>oQ A p1.leaves 0 fun b3 b4 b5 n6 n7 n8=>bif (A.ieq e_0 1)then some (.val [(.bool (A.ile 0 e_1)),(.bool b4),(.bool b5),(.int .i64 n6),(.int .i64 n7),(.int .i64 n8)]) else bif (A.ieq e_0 2)then cutO (bif (A.ieq e_1 0)then some (.inl [(.bool true)]) else some (.inl [(.bool (A.ieq e_1 1))])) fun ds9=>(opB (A.cell ds9 0)).bind fun b10=>some (.val [(.bool b10),(.bool b4),(.bool b5),(.int .i64 n6),(.int .i64 n7),(.int .i64 n8)]) else bif (A.ieq e_0 3)then (E.call 103 [(.d (.str e_2))]).bind fun p11=>(opB (A.cell p11.leaves 0)).bind fun b13=>some (.val [(.bool b3),(.bool b13),(.bool b5),(.int .i64 n6),(.int .i64 n7),(.int .i64 n8)]) else bif (A.ieq e_0 4)then (E.call 105 [(.d (.str e_2))]).bind fun p14=>(opB (A.cell p14.leaves 0)).bind fun b16=>some (.val [(.bool b3),(.bool b16),(.bool b5),(.int .i64 n6),(.int .i64 n7),(.int .i64 n8)]) else bif (A.ieq e_0 17)then (E.call 143 [(.d (.str e_2))]).bind fun p17=>(opB (A.cell p17.leaves 0)).bind fun b19=>some (.val [(.bool b3),(.bool b19),(.bool b5),(.int .i64 n6),(.int .i64 n7),(.int .i64 n8)]) else some (.val [(.bool b3),(.bool b4),(.bool b5),(.int .i64 n6),(.int .i64 n7),(.int .i64 n8)])
theorem g267_eq (A:Sy)(E:Env)(e_0 e_1:Int)(e_2:ByteArray)(e_3:Int)(e_4 e_5:List (List D)):(funT A Tryz.prog cs 267 [.agg [.d (.int .i64 e_0),V.d (.int .i64 e_1),V.d (.str e_2),V.d (.int .i64 e_3),V.d (.sl 1 e_4),V.d (.sl 6 e_5)]]).run E=g267 A E e_0 e_1 e_2 e_3 e_4 e_5:=by kernel_rfl
def g268 (A:Sy)(E:Env)(e_0 e_1:Int)(e_2:ByteArray)(e_3:Int)(e_4 e_5:List (List D))(n_:Int):Option PRes:=some (.val [(.bool (A.ieq e_1 0)),(.bool (A.seq e_2 (bs []))),(.bool (A.ieq e_3 0)),(.int .i64 n_),(.int .i64 n_),(.int .i64 0)])
theorem g268_eq (A:Sy)(E:Env)(e_0 e_1:Int)(e_2:ByteArray)(e_3:Int)(e_4 e_5:List (List D))(n_:Int):(funT A Tryz.prog cs 268 [.agg [.d (.int .i64 e_0),V.d (.int .i64 e_1),V.d (.str e_2),V.d (.int .i64 e_3),V.d (.sl 1 e_4),V.d (.sl 6 e_5)],V.d (.int .i64 n_)]).run E=g268 A E e_0 e_1 e_2 e_3 e_4 e_5 n_:=by kernel_rfl
def g236 (A:Sy)(E:Env)(s_:ByteArray):Option PRes:=(E.call 105 [(.d (.str s_))]).bind fun p1=>(opB (A.cell p1.leaves 0)).bind fun b3=>cutO (bif b3 then some (.inl [(.bool true)]) else some (.inl [(.bool (A.seq s_ (bs [116,114,117,101])))])) fun ds4=>(opB (A.cell ds4 0)).bind fun b5=>cutO (bif b5 then some (.inl [(.bool true)]) else some (.inl [(.bool (A.seq s_ (bs [102,97,108,115,101])))])) fun ds6=>(opB (A.cell ds6 0)).bind fun b7=>some (.val [(.bool b7)])
theorem g236_eq (A:Sy)(E:Env)(s_:ByteArray):(funT A Tryz.prog cs 236 [.d (.str s_)]).run E=g236 A E s_:=by kernel_rfl
def g269 (A:Sy)(E:Env)(e_0 e_1:Int)(e_2:ByteArray)(e_3:Int)(e_4 e_5:List (List D)):Option PRes:=bif (A.ieq e_0 1)then some (.val [(.bool true)]) else bif (A.ieq e_0 2)then some (.val [(.bool true)]) else bif (A.ieq e_0 4)then some (.val [(.bool true)]) else bif (A.ieq e_0 5)then cutO (bif (A.ieq e_3 1)then some (.inl [(.bool (A.ieq (A.rlen e_5) 1))]) else some (.inl [(.bool false)])) fun ds1=>(opB (A.cell ds1 0)).bind fun b2=>cutO (bif b2 then bif (A.inr 0 (A.rlen e_5))then (opI (A.cell (A.row e_5 0) 0) .i64).bind fun n3=>some (.inl [(.bool (A.ieq n3 1))]) else none else some (.inl [(.bool false)])) fun ds4=>(opB (A.cell ds4 0)).bind fun b5=>some (.val [(.bool b5)]) else some (.val [(.bool false)])
theorem g269_eq (A:Sy)(E:Env)(e_0 e_1:Int)(e_2:ByteArray)(e_3:Int)(e_4 e_5:List (List D)):(funT A Tryz.prog cs 269 [.agg [.d (.int .i64 e_0),V.d (.int .i64 e_1),V.d (.str e_2),V.d (.int .i64 e_3),V.d (.sl 1 e_4),V.d (.sl 6 e_5)]]).run E=g269 A E e_0 e_1 e_2 e_3 e_4 e_5:=by kernel_rfl
def g81 (A:Sy)(E:Env)(e_0 e_1:Int)(e_2:ByteArray)(e_3:Int)(e_4 e_5:List (List D)):Option PRes:=E.lp (fun ds1=>(opI (A.cell ds1 0) .i64).bind fun n2=>oE A ds1 1 fun n3 n4 s5 n6 l7 l8=>(opL (A.cell ds1 7) 6).bind fun l9=>bif (A.ilt n2 (A.rlen l8))then bif (A.inr n2 (A.rlen l8))then oE A (A.row l8 n2) 0 fun n10 n11 s12 n13 l14 l15=>(E.call 81 [(kE n10 n11 s12 n13 l14 l15)]).bind fun p16=>(opL (A.cell p16.leaves 0) 6).bind fun l18=>bif (A.fits l9 l18 88)then some (.inl [(.int .i64 (A.wrap .i64 (A.add n2 1))),(.int .i64 n3),(.int .i64 n4),(.str s5),(.int .i64 n6),(.sl 1 l7),(.sl 6 l8),(.sl 6 (A.rapp l9 l18))]) else none else none else some (.inr (.own 62 6 l9))) [(.int .i64 0),(.int .i64 e_0),(.int .i64 e_1),(.str e_2),(.int .i64 e_3),(.sl 1 e_4),(.sl 6 e_5),(.sl 6 [[(.int .i64 e_0),(.int .i64 e_1),(.str e_2),(.int .i64 e_3),(.sl 1 e_4),(.sl 6 e_5)]])]
theorem g81_eq (A:Sy)(E:Env)(e_0 e_1:Int)(e_2:ByteArray)(e_3:Int)(e_4 e_5:List (List D)):(funT A Tryz.prog cs 81 [.agg [.d (.int .i64 e_0),V.d (.int .i64 e_1),V.d (.str e_2),V.d (.int .i64 e_3),V.d (.sl 1 e_4),V.d (.sl 6 e_5)]]).run E=g81 A E e_0 e_1 e_2 e_3 e_4 e_5:=by kernel_rfl
def g198 (A:Sy)(E:Env)(e_0 e_1:Int)(e_2:ByteArray)(e_3:Int)(e_4 e_5:List (List D)):Option PRes:=(E.call 234 [(kE e_0 e_1 e_2 e_3 e_4 e_5)]).bind fun p1=>oQ A p1.leaves 0 fun b3 b4 b5 n6 n7 n8=>(opB (A.cell p1.leaves 6)).bind fun b9=>cutO (bif (A.bnot b9)then some (.inl [(.bool true)]) else some (.inl [(.bool (A.bnot b3))])) fun ds10=>(opB (A.cell ds10 0)).bind fun b11=>cutO (bif b11 then some (.inl [(.bool true)]) else some (.inl [(.bool (A.bnot b4))])) fun ds12=>(opB (A.cell ds12 0)).bind fun b13=>cutO (bif b13 then some (.inl [(.bool true)]) else some (.inl [(.bool (A.bnot b5))])) fun ds14=>(opB (A.cell ds14 0)).bind fun b15=>cutO (bif b15 then some (.inl [(.bool true)]) else some (.inl [(.bool (A.ilt (A.rlen e_5) n6))])) fun ds16=>(opB (A.cell ds16 0)).bind fun b17=>cutO (bif b17 then some (.inl [(.bool true)]) else some (.inl [(.bool (A.ilt n7 (A.rlen e_5)))])) fun ds18=>(opB (A.cell ds18 0)).bind fun b19=>bif b19 then some (.val [(.bool false)]) else cutO (bif (A.ilt n8 (A.rlen e_4))then some (.inl [(.bool true)]) else bif (A.ilt 0 n8)then some (.inl [(.bool (A.ieq (A.rlen e_4) 0))]) else some (.inl [(.bool false)])) fun ds20=>(opB (A.cell ds20 0)).bind fun b21=>cutO (bif b21 then some (.inl [(.bool true)]) else (E.call 68 [(.d (.sl 1 e_4))]).bind fun p22=>(opB (A.cell p22.leaves 0)).bind fun b24=>some (.inl [(.bool (A.bnot b24))])) fun ds25=>(opB (A.cell ds25 0)).bind fun b26=>bif b26 then some (.val [(.bool false)]) else (E.call 161 [(.d (.sl 1 e_4)),(.fn 235 [])]).bind fun p27=>(opB (A.cell p27.leaves 0)).bind fun b29=>bif b29 then some (.val [(.bool false)]) else cutO (bif (A.bnot (A.ieq e_0 8))then some (.inl [(.bool true)]) else bif (A.inr 0 (A.rlen e_5))then oE A (A.row e_5 0) 0 fun n30 n31 s32 n33 l34 l35=>(E.call 237 [(kE n30 n31 s32 n33 l34 l35)]).bind fun p36=>(opB (A.cell p36.leaves 0)).bind fun b38=>some (.inl [(.bool b38)]) else none) fun ds39=>(opB (A.cell ds39 0)).bind fun b40=>some (.val [(.bool b40)])
theorem g198_eq (A:Sy)(E:Env)(e_0 e_1:Int)(e_2:ByteArray)(e_3:Int)(e_4 e_5:List (List D)):(funT A Tryz.prog cs 198 [.agg [.d (.int .i64 e_0),V.d (.int .i64 e_1),V.d (.str e_2),V.d (.int .i64 e_3),V.d (.sl 1 e_4),V.d (.sl 6 e_5)]]).run E=g198 A E e_0 e_1 e_2 e_3 e_4 e_5:=by kernel_rfl
def g237 (A:Sy)(E:Env)(e_0 e_1:Int)(e_2:ByteArray)(e_3:Int)(e_4 e_5:List (List D)):Option PRes:=bif (A.bnot (A.ieq e_0 14))then (E.call 269 [(kE e_0 e_1 e_2 e_3 e_4 e_5)]).bind fun p1=>(opB (A.cell p1.leaves 0)).bind fun b3=>some (.val [(.bool b3)]) else (E.call 250 [(.d (.sl 6 e_5)),(.fn 270 [])]).bind fun p4=>(opB (A.cell p4.leaves 0)).bind fun b6=>some (.val [(.bool (A.bnot b6))])
theorem g237_eq (A:Sy)(E:Env)(e_0 e_1:Int)(e_2:ByteArray)(e_3:Int)(e_4 e_5:List (List D)):(funT A Tryz.prog cs 237 [.agg [.d (.int .i64 e_0),V.d (.int .i64 e_1),V.d (.str e_2),V.d (.int .i64 e_3),V.d (.sl 1 e_4),V.d (.sl 6 e_5)]]).run E=g237 A E e_0 e_1 e_2 e_3 e_4 e_5:=by kernel_rfl
def g68 (A:Sy)(E:Env)(l_:List (List D)):Option PRes:=E.lp (fun ds1=>(opL (A.cell ds1 0) 1).bind fun l2=>(opI (A.cell ds1 1) .i64).bind fun n3=>(opI (A.cell ds1 2) .i64).bind fun n4=>(opL (A.cell ds1 3) 2).bind fun l5=>bif (A.ilt n4 n3)then bif (A.inr n4 (A.rlen l2))then (opS (A.cell (A.row l2 n4) 0)).bind fun s6=>(opI (some (A.mval (.int .i64 0) (.str s6) l5)) .i64).bind fun n7=>bif (A.ilt 0 n7)then some (.inr (.val [(.bool false)])) else (opI (some (A.mval (.int .i64 0) (.str s6) l5)) .i64).bind fun n8=>some (.inl [(.sl 1 l2),(.int .i64 n3),(.int .i64 (A.wrap .i64 (A.add n4 1))),(.sl 2 (A.mput (.str s6) (.int .i64 (A.wrap .i64 (A.add n8 1))) l5))]) else none else some (.inr (.val [(.bool true)]))) [(.sl 1 l_),(.int .i64 (A.rlen l_)),(.int .i64 0),(.sl 2 [])]
theorem g68_eq (A:Sy)(E:Env)(l_:List (List D)):(funT A Tryz.prog cs 68 [.d (.sl 1 l_)]).run E=g68 A E l_:=by kernel_rfl
def g195 (A:Sy)(E:Env)(e_0 e_1:Int)(e_2:ByteArray)(e_3:Int)(e_4 e_5:List (List D)):Option PRes:=(E.call 1000233 [(.d (.int .i64 0)),(.d (.int .i64 2)),(kE e_0 e_1 e_2 e_3 e_4 e_5),(.yld 0 (rec0 195)),(.agg [.any, .any, .any,(.ptr 1 0), .any, .any, .any, .any, .any, .any]),(.fn 3 [(.d (.int .i64 0))])]).bind fun p1=>(opB (A.cell p1.leaves 0)).bind fun b3=>bif b3 then (opB (A.cell p1.leaves 1)).bind fun b4=>(opI (A.cell p1.leaves 2) .i64).bind fun n5=>(opI (A.cell p1.leaves 3) .i64).bind fun n6=>some (.val [(.int .i64 n5)]) else (opB (A.cell p1.leaves 1)).bind fun b7=>(opI (A.cell p1.leaves 2) .i64).bind fun n8=>some (.val [(.int .i64 n8)])
theorem g195_eq (A:Sy)(E:Env)(e_0 e_1:Int)(e_2:ByteArray)(e_3:Int)(e_4 e_5:List (List D)):(funT A Tryz.prog cs 195 [.agg [.d (.int .i64 e_0),V.d (.int .i64 e_1),V.d (.str e_2),V.d (.int .i64 e_3),V.d (.sl 1 e_4),V.d (.sl 6 e_5)]]).run E=g195 A E e_0 e_1 e_2 e_3 e_4 e_5:=by kernel_rfl
def g160 (A:Sy)(E:Env)(e_0 e_1:Int)(e_2:ByteArray)(e_3:Int)(e_4 e_5:List (List D)):Option PRes:=(E.call 195 [(kE e_0 e_1 e_2 e_3 e_4 e_5)]).bind fun p1=>(opI (A.cell p1.leaves 0) .i64).bind fun n3=>cutO (bif (A.ilt 60 n3)then some (.inl [(.bool true)]) else (E.call 196 [(kE e_0 e_1 e_2 e_3 e_4 e_5)]).bind fun p4=>(opI (A.cell p4.leaves 0) .i64).bind fun n6=>some (.inl [(.bool (A.ilt 12 n6))])) fun ds7=>(opB (A.cell ds7 0)).bind fun b8=>bif b8 then some (.val [(.bool false)]) else (E.call 1000233 [(.d (.int .i64 0)),(.d (.int .i64 2)),(kE e_0 e_1 e_2 e_3 e_4 e_5),(.yld 0 (rec0 160)),(.agg [.any, .any,(.ptr 1 0), .any, .any, .any, .any, .any, .any, .any, .any, .any, .any, .any, .any, .any, .any, .any]),(.fn 4 [(.d (.bool false))])]).bind fun p9=>(opB (A.cell p9.leaves 0)).bind fun b11=>bif b11 then (opB (A.cell p9.leaves 1)).bind fun b12=>(opB (A.cell p9.leaves 2)).bind fun b13=>some (.val [(.bool b13)]) else (opB (A.cell p9.leaves 1)).bind fun b14=>(opB (A.cell p9.leaves 2)).bind fun b15=>some (.val [(.bool true)])
theorem g160_eq (A:Sy)(E:Env)(e_0 e_1:Int)(e_2:ByteArray)(e_3:Int)(e_4 e_5:List (List D)):(funT A Tryz.prog cs 160 [.agg [.d (.int .i64 e_0),V.d (.int .i64 e_1),V.d (.str e_2),V.d (.int .i64 e_3),V.d (.sl 1 e_4),V.d (.sl 6 e_5)]]).run E=g160 A E e_0 e_1 e_2 e_3 e_4 e_5:=by kernel_rfl
def b233_195 (A:Sy)(E:Env)(k_ n_:Int)(s_:ByteArray)(o_:Int)(ar_ su_:List (List D))(m_:Int):Option PRes:=bif (A.bnot true)then some (.val [(.bool false),(.bool false),(.int .i64 (A.wrap .i64 (A.add m_ 1)))]) else E.lp (fun ds1=>(opL (A.cell ds1 0) 6).bind fun l2=>(opI (A.cell ds1 1) .i64).bind fun n3=>(opI (A.cell ds1 2) .i64).bind fun n4=>(opI (A.cell ds1 3) .i64).bind fun n5=>bif (A.ilt n4 n3)then bif (A.inr n4 (A.rlen l2))then oE A (A.row l2 n4) 0 fun n6 n7 s8 n9 l10 l11=>(E.call 1000233 [(.d (.int .i64 0)),(.d (.int .i64 2)),(kE n6 n7 s8 n9 l10 l11),(.yld 0 (rec0 195)),(.agg [.any, .any, .any,(.ptr 1 0), .any, .any, .any, .any, .any, .any]),(.fn 3 [(.d (.int .i64 n5))])]).bind fun p12=>(opB (A.cell p12.leaves 0)).bind fun b14=>bif b14 then (opB (A.cell p12.leaves 1)).bind fun b15=>(opI (A.cell p12.leaves 2) .i64).bind fun n16=>(opI (A.cell p12.leaves 3) .i64).bind fun n17=>bif (A.bnot b15)then some (.inr (.val [(.bool true),(.bool false),(.int .i64 n16),(.int .i64 n17)])) else none else (opB (A.cell p12.leaves 1)).bind fun b18=>(opI (A.cell p12.leaves 2) .i64).bind fun n19=>bif (A.bnot b18)then some (.inr (.val [(.bool false),(.bool false),(.int .i64 n19)])) else some (.inl [(.sl 6 l2),(.int .i64 n3),(.int .i64 (A.wrap .i64 (A.add n4 1))),(.int .i64 n19)]) else none else some (.inr (.val [(.bool false),(.bool true),(.int .i64 n5)]))) [(.sl 6 su_),(.int .i64 (A.rlen su_)),(.int .i64 0),(.int .i64 (A.wrap .i64 (A.add m_ 1)))]
theorem b233_195_eq (A:Sy)(E:Env)(k_ n_:Int)(s_:ByteArray)(o_:Int)(ar_ su_:List (List D))(m_:Int):(funB A Tryz.prog cs 233 0 [.agg [.d (.int .i64 k_), .d (.int .i64 n_), .d (.str s_), .d (.int .i64 o_), .d (.sl 1 ar_), .d (.sl 6 su_)], .yld 0 (rec0 195)] [.cells (.rcd .ready) [.any, .any, .any, .ptr 1 0, .any, .any, .any, .any, .any, .any], .cells (.ty 3) [.d (.int .i64 m_)]]).run E=b233_195 A E k_ n_ s_ o_ ar_ su_ m_:=by kernel_rfl
def b233_160 (A:Sy)(E:Env)(k_ n_:Int)(s_:ByteArray)(o_:Int)(ar_ su_:List (List D))(b_:Bool):Option PRes:=(E.call 198 [(kE k_ n_ s_ o_ ar_ su_)]).bind fun p1=>(opB (A.cell p1.leaves 0)).bind fun b3=>bif (A.bnot b3)then bif (A.bnot false)then some (.val [(.bool true),(.bool false),(.bool false)]) else E.lp (fun ds4=>(opL (A.cell ds4 0) 6).bind fun l5=>(opI (A.cell ds4 1) .i64).bind fun n6=>(opI (A.cell ds4 2) .i64).bind fun n7=>(opB (A.cell ds4 3)).bind fun b8=>bif (A.ilt n7 n6)then bif (A.inr n7 (A.rlen l5))then oE A (A.row l5 n7) 0 fun n9 n10 s11 n12 l13 l14=>none else none else some (.inr (.val [(.bool true),(.bool true),(.bool b8)]))) [(.sl 6 su_),(.int .i64 (A.rlen su_)),(.int .i64 0),(.bool false)] else bif (A.bnot true)then some (.val [(.bool false),(.bool false),(.bool b_)]) else E.lp (fun ds15=>(opL (A.cell ds15 0) 6).bind fun l16=>(opI (A.cell ds15 1) .i64).bind fun n17=>(opI (A.cell ds15 2) .i64).bind fun n18=>(opB (A.cell ds15 3)).bind fun b19=>bif (A.ilt n18 n17)then bif (A.inr n18 (A.rlen l16))then oE A (A.row l16 n18) 0 fun n20 n21 s22 n23 l24 l25=>(E.call 1000233 [(.d (.int .i64 0)),(.d (.int .i64 2)),(kE n20 n21 s22 n23 l24 l25),(.yld 0 (rec0 160)),(.agg [.any, .any,(.ptr 1 0), .any, .any, .any, .any, .any, .any, .any, .any, .any, .any, .any, .any, .any, .any, .any]),(.fn 4 [(.d (.bool b19))])]).bind fun p26=>(opB (A.cell p26.leaves 0)).bind fun b28=>bif b28 then (opB (A.cell p26.leaves 1)).bind fun b29=>(opB (A.cell p26.leaves 2)).bind fun b30=>bif (A.bnot b29)then some (.inr (.val [(.bool true),(.bool false),(.bool b30)])) else none else (opB (A.cell p26.leaves 1)).bind fun b31=>(opB (A.cell p26.leaves 2)).bind fun b32=>bif (A.bnot b31)then some (.inr (.val [(.bool false),(.bool false),(.bool b32)])) else some (.inl [(.sl 6 l16),(.int .i64 n17),(.int .i64 (A.wrap .i64 (A.add n18 1))),(.bool b32)]) else none else some (.inr (.val [(.bool false),(.bool true),(.bool b19)]))) [(.sl 6 su_),(.int .i64 (A.rlen su_)),(.int .i64 0),(.bool b_)]
theorem b233_160_eq (A:Sy)(E:Env)(k_ n_:Int)(s_:ByteArray)(o_:Int)(ar_ su_:List (List D))(b_:Bool):(funB A Tryz.prog cs 233 0 [.agg [.d (.int .i64 k_), .d (.int .i64 n_), .d (.str s_), .d (.int .i64 o_), .d (.sl 1 ar_), .d (.sl 6 su_)], .yld 0 (rec0 160)] [.cells (.rcd .ready) [.any, .any, .ptr 1 0, .any, .any, .any, .any, .any, .any, .any, .any, .any, .any, .any, .any, .any, .any, .any], .cells (.ty 4) [.d (.bool b_)]]).run E=b233_160 A E k_ n_ s_ o_ ar_ su_ b_:=by kernel_rfl
def g231 (A:Sy)(E:Env)(l_:List (List D))(from_:Int):Option PRes:=(E.call 1000266 (kP 352 l_ from_)).bind fun p1=>(opB (A.cell p1.leaves 0)).bind fun b3=>bif b3 then (opI (A.cell p1.leaves 1) .i64).bind fun n4=>oP A p1.leaves 2 fun l5 n6=>some (.val [(.int .i64 0),(.int .i64 0),(.str (bs [])),(.int .i64 0),(.sl 1 []),(.sl 6 []),(.int .i64 n4),(.bool false)]) else oE A p1.leaves 1 fun n7 n8 s9 n10 l11 l12=>oP A p1.leaves 7 fun l13 n14=>some (.val [(.int .i64 n7),(.int .i64 n8),(.str s9),(.int .i64 n10),(.sl 1 l11),(.sl 6 l12),(.int .i64 n14),(.bool true)])
theorem g231_eq (A:Sy)(E:Env)(l_:List (List D))(from_:Int):(funT A Tryz.prog cs 231 [.d (.sl 4 l_),V.d (.int .i64 from_)]).run E=g231 A E l_ from_:=by kernel_rfl
def g161_235 (A:Sy)(E:Env)(s:List (List D)):Option PRes:=E.lp (fun ds1=>(opL (A.cell ds1 0) 1).bind fun l2=>(opI (A.cell ds1 1) .i64).bind fun n3=>(opI (A.cell ds1 2) .i64).bind fun n4=>bif (A.ilt n4 n3)then bif (A.inr n4 (A.rlen l2))then (opS (A.cell (A.row l2 n4) 0)).bind fun s5=>(E.call 235 [(.d (.str s5))]).bind fun p6=>(opB (A.cell p6.leaves 0)).bind fun b8=>bif b8 then some (.inr (.val [(.bool (A.ile 0 n4))])) else some (.inl [(.sl 1 l2),(.int .i64 n3),(.int .i64 (A.wrap .i64 (A.add n4 1)))]) else none else some (.inr (.val [(.bool (A.ile 0 (-1)))]))) [(.sl 1 s),(.int .i64 (A.rlen s)),(.int .i64 0)]
theorem g161_235_eq (A:Sy)(E:Env)(s:List (List D)):(funT A Tryz.prog cs 161 [.d (.sl 1 s), .fn 235 []]).run E=g161_235 A E s:=by kernel_rfl
def g235 (A:Sy)(E:Env)(s_:ByteArray):Option PRes:=(E.call 236 [(.d (.str s_))]).bind fun p1=>(opB (A.cell p1.leaves 0)).bind fun b3=>some (.val [(.bool (A.bnot b3))])
theorem g235_eq (A:Sy)(E:Env)(s_:ByteArray):(funT A Tryz.prog cs 235 [.d (.str s_)]).run E=g235 A E s_:=by kernel_rfl
def g250_270 (A:Sy)(E:Env)(s:List (List D)):Option PRes:=E.lp (fun ds1=>(opL (A.cell ds1 0) 6).bind fun l2=>(opI (A.cell ds1 1) .i64).bind fun n3=>(opI (A.cell ds1 2) .i64).bind fun n4=>bif (A.ilt n4 n3)then bif (A.inr n4 (A.rlen l2))then oE A (A.row l2 n4) 0 fun n5 n6 s7 n8 l9 l10=>(E.call 270 [(kE n5 n6 s7 n8 l9 l10)]).bind fun p11=>(opB (A.cell p11.leaves 0)).bind fun b13=>bif b13 then some (.inr (.val [(.bool (A.ile 0 n4))])) else some (.inl [(.sl 6 l2),(.int .i64 n3),(.int .i64 (A.wrap .i64 (A.add n4 1)))]) else none else some (.inr (.val [(.bool (A.ile 0 (-1)))]))) [(.sl 6 s),(.int .i64 (A.rlen s)),(.int .i64 0)]
theorem g250_270_eq (A:Sy)(E:Env)(s:List (List D)):(funT A Tryz.prog cs 250 [.d (.sl 6 s), .fn 270 []]).run E=g250_270 A E s:=by kernel_rfl
def g270 (A:Sy)(E:Env)(x_0 x_1:Int)(x_2:ByteArray)(x_3:Int)(x_4 x_5:List (List D)):Option PRes:=(E.call 269 [(kE x_0 x_1 x_2 x_3 x_4 x_5)]).bind fun p1=>(opB (A.cell p1.leaves 0)).bind fun b3=>some (.val [(.bool (A.bnot b3))])
theorem g270_eq (A:Sy)(E:Env)(x_0 x_1:Int)(x_2:ByteArray)(x_3:Int)(x_4 x_5:List (List D)):(funT A Tryz.prog cs 270 [.agg [.d (.int .i64 x_0),V.d (.int .i64 x_1),V.d (.str x_2),V.d (.int .i64 x_3),V.d (.sl 1 x_4),V.d (.sl 6 x_5)]]).run E=g270 A E x_0 x_1 x_2 x_3 x_4 x_5:=by kernel_rfl
def g229 (A:Sy)(E:Env)(l_:List (List D))(at_:Int):Option PRes:=(E.call 230 [(.d (.sl 4 l_)),(.d (.int .i64 at_))]).bind fun p1=>(opB (A.cell p1.leaves 0)).bind fun b3=>bif (A.bnot b3)then some (.val [(.str (bs [])),(.str (bs [])),(.int .i64 0),(.bool false)]) else (E.call 264 [(.d (.sl 4 l_)),(.d (.int .i64 at_))]).bind fun p4=>(opS (A.cell p4.leaves 0)).bind fun s6=>(opS (A.cell p4.leaves 1)).bind fun s7=>(opI (A.cell p4.leaves 2) .i64).bind fun n8=>(opB (A.cell p4.leaves 3)).bind fun b9=>bif (A.bnot b9)then some (.val [(.str (bs [])),(.str (bs [])),(.int .i64 n8),(.bool false)]) else some (.val [(.str s6),(.str s7),(.int .i64 n8),(.bool true)])
theorem g229_eq (A:Sy)(E:Env)(l_:List (List D))(at_:Int):(funT A Tryz.prog cs 229 [.d (.sl 4 l_),V.d (.int .i64 at_)]).run E=g229 A E l_ at_:=by kernel_rfl
def g264 (A:Sy)(E:Env)(l_:List (List D))(from_:Int):Option PRes:=(E.call 1000284 (kP 352 l_ from_)).bind fun p1=>(opB (A.cell p1.leaves 0)).bind fun b3=>bif b3 then (opI (A.cell p1.leaves 1) .i64).bind fun n4=>oP A p1.leaves 2 fun l5 n6=>some (.val [(.str (bs [])),(.str (bs [])),(.int .i64 n4),(.bool false)]) else (opS (A.cell p1.leaves 1)).bind fun s7=>(opS (A.cell p1.leaves 2)).bind fun s8=>oP A p1.leaves 3 fun l9 n10=>some (.val [(.str s7),(.str s8),(.int .i64 n10),(.bool true)])
theorem g264_eq (A:Sy)(E:Env)(l_:List (List D))(from_:Int):(funT A Tryz.prog cs 264 [.d (.sl 4 l_),V.d (.int .i64 from_)]).run E=g264 A E l_ from_:=by kernel_rfl
end
end Go.Vm
end
