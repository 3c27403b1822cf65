/-
  Part UF of the proof. What is proved by the whole: the statement that the claim names, with no condition. This part: lemmas.
-/
import Derived.Test.YtdckoceiokaelaaGreatDoorTE
import Derived.Shelf.Strings.Fields
import Derived.Shelf.Strconv.ParseIntPublic10
import Derived.Test.YtdckoceiokaelaaGreatDoorChecked
import Derived.Shelf.Strings.OnBuilder
import Derived.Shelf.Strconv.Itoa0
import Derived.Shelf.Strconv.Itoa1
import Derived.Shelf.LaysM
import Derived.Shelf.Strconv.Itoa2
import Derived.Shelf.Strconv.Itoa3
import Derived.Shelf.LaysC
set_option linter.unusedSimpArgs false
set_option linter.unusedVariables false

section
/-
 DERIVED:THE SHELF's CONTRACTS AT THIS DUMP,IN PLAIN WORDS (tools/lay-plain.mjs out of 'TryzShelf.lean',which tools/lay-shelf.mjs wrote):THE SAME DECLARATIONS UNDER THE SAME NAMES:'import','namespace','open','def','theorem' AND NOTHING ELSE:no command of the shelf's:FOR A HAND-IN. Each laying:the table of numbers ('.._ren') and one theorem,a field a fact of the dump's own or the kernel's comparison;each contract:ONE APPLICATION.
-/
namespace Go.Proofs
open Go.Shelf
def Tryz.laysC174_ren:Go.Shelf.Ren:=⟨fun|174=>126|247=>160|245=>161|287=>177|279=>178|280=>179|281=>180|282=>181|321=>195|322=>196|316=>197|171=>199|205=>198|243=>212|246=>175|283=>191|284=>192|285=>193|286=>194|129=>208|317=>207|318=>209|319=>210|320=>211|337=>217|338=>218|n=>n,fun|9=>9|3=>3|2=>2|75=>92|85=>128|4=>4|167=>166|5=>5|53=>139|175=>167|46=>169|168=>170|37=>87|0=>0|210=>187|21=>21|127=>122|145=>214|143=>212|171=>180|173=>183|212=>208|51=>177|20=>20|213=>209|232=>220|233=>221|80=>95|n=>n,fun|15=>3|16=>4|17=>7|18=>8|19=>9|n=>n⟩
theorem Tryz.laysC174:Go.Proofs.LaysC.n174 Tryz.prog Tryz.laysC174_ren:= {
 mixed:=by kernel_rfl
 f129:=Tryz.func208.trans (congrArg some (by kernel_rfl))
 f171:=Tryz.func199.trans (congrArg some (by kernel_rfl))
 f174:=Tryz.func126.trans (congrArg some (by kernel_rfl))
 f205:=Tryz.func198.trans (congrArg some (by kernel_rfl))
 f243:=Tryz.func212.trans (congrArg some (by kernel_rfl))
 f245:=Tryz.func161.trans (congrArg some (by kernel_rfl))
 f246:=Tryz.func175.trans (congrArg some (by kernel_rfl))
 f247:=Tryz.func160.trans (congrArg some (by kernel_rfl))
 f279:=Tryz.func178.trans (congrArg some (by kernel_rfl))
 f280:=Tryz.func179.trans (congrArg some (by kernel_rfl))
 f281:=Tryz.func180.trans (congrArg some (by kernel_rfl))
 f282:=Tryz.func181.trans (congrArg some (by kernel_rfl))
 f283:=Tryz.func191.trans (congrArg some (by kernel_rfl))
 f284:=Tryz.func192.trans (congrArg some (by kernel_rfl))
 f285:=Tryz.func193.trans (congrArg some (by kernel_rfl))
 f286:=Tryz.func194.trans (congrArg some (by kernel_rfl))
 f287:=Tryz.func177.trans (congrArg some (by kernel_rfl))
 f316:=Tryz.func197.trans (congrArg some (by kernel_rfl))
 f317:=Tryz.func207.trans (congrArg some (by kernel_rfl))
 f318:=Tryz.func209.trans (congrArg some (by kernel_rfl))
 f319:=Tryz.func210.trans (congrArg some (by kernel_rfl))
 f320:=Tryz.func211.trans (congrArg some (by kernel_rfl))
 f321:=Tryz.func195.trans (congrArg some (by kernel_rfl))
 f322:=Tryz.func196.trans (congrArg some (by kernel_rfl))
 f337:=Tryz.func217.trans (congrArg some (by kernel_rfl))
 f338:=Tryz.func218.trans (congrArg some (by kernel_rfl))
 t0:=Tryz.underlying0
 a0:=Tryz.isAgg0
 z0:=Tryz.sizeOf0
 v0:=Tryz.zeroValue0
 t2:=Tryz.underlying2
 a2:=Tryz.isAgg2
 z2:=Tryz.sizeOf2
 v2:=Tryz.zeroValue2
 t3:=Tryz.underlying3
 a3:=Tryz.isAgg3
 z3:=Tryz.sizeOf3
 v3:=Tryz.zeroValue3
 t4:=Tryz.underlying4
 a4:=Tryz.isAgg4
 z4:=Tryz.sizeOf4
 v4:=Tryz.zeroValue4
 t5:=Tryz.underlying5
 a5:=Tryz.isAgg5
 z5:=Tryz.sizeOf5
 v5:=Tryz.zeroValue5
 t9:=Tryz.underlying9
 a9:=Tryz.isAgg9
 z9:=Tryz.sizeOf9
 v9:=Tryz.zeroValue9
 t20:=Tryz.underlying20
 a20:=Tryz.isAgg20
 z20:=Tryz.sizeOf20
 v20:=Tryz.zeroValue20
 t21:=Tryz.underlying21
 a21:=Tryz.isAgg21
 z21:=Tryz.sizeOf21
 v21:=Tryz.zeroValue21
 t37:=Tryz.underlying87
 a37:=Tryz.isAgg87
 z37:=Tryz.sizeOf87
 v37:=Tryz.zeroValue87
 t46:=Tryz.underlying169
 a46:=Tryz.isAgg169
 z46:=Tryz.sizeOf169
 v46:=Tryz.zeroValue169
 t51:=Tryz.underlying177
 a51:=Tryz.isAgg177
 z51:=Tryz.sizeOf177
 v51:=Tryz.zeroValue177
 t53:=Tryz.underlying139
 a53:=Tryz.isAgg139
 z53:=Tryz.sizeOf139
 v53:=Tryz.zeroValue139
 t75:=Tryz.underlying92
 a75:=Tryz.isAgg92
 z75:=Tryz.sizeOf92
 v75:=Tryz.zeroValue92
 t85:=Tryz.underlying128
 a85:=Tryz.isAgg128
 z85:=Tryz.sizeOf128
 v85:=Tryz.zeroValue128
 t127:=Tryz.underlying122
 a127:=Tryz.isAgg122
 z127:=Tryz.sizeOf122
 v127:=Tryz.zeroValue122
 t143:=Tryz.underlying212
 a143:=Tryz.isAgg212
 z143:=Tryz.sizeOf212
 v143:=Tryz.zeroValue212
 t145:=Tryz.underlying214
 a145:=Tryz.isAgg214
 z145:=Tryz.sizeOf214
 v145:=Tryz.zeroValue214
 t167:=Tryz.underlying166
 a167:=Tryz.isAgg166
 z167:=Tryz.sizeOf166
 v167:=Tryz.zeroValue166
 t168:=Tryz.underlying170
 a168:=Tryz.isAgg170
 z168:=Tryz.sizeOf170
 v168:=Tryz.zeroValue170
 t171:=Tryz.underlying180
 a171:=Tryz.isAgg180
 z171:=Tryz.sizeOf180
 v171:=Tryz.zeroValue180
 t173:=Tryz.underlying183
 a173:=Tryz.isAgg183
 z173:=Tryz.sizeOf183
 v173:=Tryz.zeroValue183
 t175:=Tryz.underlying167
 a175:=Tryz.isAgg167
 z175:=Tryz.sizeOf167
 v175:=Tryz.zeroValue167
 t210:=Tryz.underlying187
 a210:=Tryz.isAgg187
 z210:=Tryz.sizeOf187
 v210:=Tryz.zeroValue187
 t212:=Tryz.underlying208
 a212:=Tryz.isAgg208
 z212:=Tryz.sizeOf208
 v212:=Tryz.zeroValue208
 t213:=Tryz.underlying209
 a213:=Tryz.isAgg209
 z213:=Tryz.sizeOf209
 t232:=Tryz.underlying220
 a232:=Tryz.isAgg220
 z232:=Tryz.sizeOf220
 v232:=Tryz.zeroValue220
 t233:=Tryz.underlying221
 a233:=Tryz.isAgg221
 z233:=Tryz.sizeOf221
 v233:=Tryz.zeroValue221
 g15:=by kernel_rfl
 g16:=by kernel_rfl
 g17:=by kernel_rfl
 g18:=by kernel_rfl
 g19:=by kernel_rfl
 t80:=Tryz.underlying95
 a80:=Tryz.isAgg95
 z80:=Tryz.sizeOf95
 v80:=Tryz.zeroValue95
 i0:=by kernel_rfl
 i2:=by kernel_rfl
 i3:=by kernel_rfl
 i4:=by kernel_rfl
 i5:=by kernel_rfl
 i9:=by kernel_rfl
 i20:=by kernel_rfl
 i21:=by kernel_rfl
 i37:=by kernel_rfl
 i46:=by kernel_rfl
 i51:=by kernel_rfl
 i53:=by kernel_rfl
 i75:=by kernel_rfl
 i80:=by kernel_rfl
 i85:=by kernel_rfl
 i127:=by kernel_rfl
 i143:=by kernel_rfl
 i145:=by kernel_rfl
 i167:=by kernel_rfl
 i168:=by kernel_rfl
 i171:=by kernel_rfl
 i173:=by kernel_rfl
 i175:=by kernel_rfl
 i210:=by kernel_rfl
 i212:=by kernel_rfl
 i232:=by kernel_rfl
 i233:=by kernel_rfl
 m15:=by kernel_rfl
 m16:=by kernel_rfl
 m17:=by kernel_rfl
 m18:=by kernel_rfl
 m19:=by kernel_rfl
 c0:=by kernel_rfl
 c2:=by kernel_rfl
 c3:=by kernel_rfl
 c4:=by kernel_rfl
 c5:=by kernel_rfl
 c9:=by kernel_rfl
 c20:=by kernel_rfl
 c21:=by kernel_rfl
 c37:=by kernel_rfl
 c46:=by kernel_rfl
 c51:=by kernel_rfl
 c53:=by kernel_rfl
 c75:=by kernel_rfl
 c80:=by kernel_rfl
 c85:=by kernel_rfl
 c127:=by kernel_rfl
 c143:=by kernel_rfl
 c145:=by kernel_rfl
 c167:=by kernel_rfl
 c168:=by kernel_rfl
 c171:=by kernel_rfl
 c173:=by kernel_rfl
 c175:=by kernel_rfl
 c210:=by kernel_rfl
 c212:=by kernel_rfl
 c213:=by kernel_rfl
 c232:=by kernel_rfl
 c233:=by kernel_rfl }
open Go.RowKit in
theorem Tryz.strconv_ParseInt_10_at64_ok (s:ByteArray)(hmax:s.size≤9223372036854775806)(v:Int)(h:Lib.parseIntB 64 s.data.toList= .ok v)(w:World):
  Calls Tryz.prog 126 #[.string s, .int .i64 10, .int .i64 64] w fun e w'=>e= .returned (.tuple #[.int .i64 v, .nilIface])∧(w'=w∨ ∃t,w'=Lib.bytesWorld w 5 t):=Any.strconv_ParseInt_10_at64_ok Tryz.laysC174 s hmax v h w
open Go.RowKit in
theorem Tryz.strconv_ParseInt_10_at64_range (s:ByteArray)(hlim:s.size≤281474976710656)(h:Lib.parseIntB 64 s.data.toList= .range)(ev:Value)(w:World)(hv:w.cell? ⟨4,0,none⟩=some ev)(hev:ev= .nilIface∨ ∃te pe,ev= .iface te pe):
  Calls Tryz.prog 126 #[.string s, .int .i64 10, .int .i64 64] w fun e w'=> ∃N,e= .returned (.tuple #[.int .i64 (Lib.intSat 64 s.data.toList), .iface 170 (.pointer (some ⟨N,0,none⟩))])∧w.heap.size≤N∧w'.heap[N]? =some (.cells #[.string ⟨#[80,97,114,115,101,73,110,116]⟩, .string s,ev] 187 (0,0))∧Below w.heap.size w w':=Any.strconv_ParseInt_10_at64_range Tryz.laysC174 s hlim h ev w hv hev
def Tryz.lays157_ren:Go.Shelf.Ren:=⟨fun|157=>128|229=>163|199=>164|261=>185|311=>201|312=>202|n=>n,fun|9=>9|31=>35|3=>3|5=>5|4=>4|119=>156|0=>0|40=>143|152=>174|21=>21|154=>176|51=>177|141=>179|196=>194|193=>191|198=>197|49=>195|194=>192|201=>200|226=>215|46=>169|227=>216|n=>n,fun|0=>0|6=>2|n=>n⟩
theorem Tryz.lays157:Go.Proofs.Lays.n157 Tryz.prog Tryz.lays157_ren:= {
 mixed:=by kernel_rfl
 f157:=Tryz.func128.trans (congrArg some (by kernel_rfl))
 f199:=Tryz.func164.trans (congrArg some (by kernel_rfl))
 f229:=Tryz.func163.trans (congrArg some (by kernel_rfl))
 f261:=Tryz.func185.trans (congrArg some (by kernel_rfl))
 f311:=Tryz.func201.trans (congrArg some (by kernel_rfl))
 f312:=Tryz.func202.trans (congrArg some (by kernel_rfl))
 t0:=Tryz.underlying0
 a0:=Tryz.isAgg0
 z0:=Tryz.sizeOf0
 v0:=Tryz.zeroValue0
 t3:=Tryz.underlying3
 a3:=Tryz.isAgg3
 z3:=Tryz.sizeOf3
 v3:=Tryz.zeroValue3
 t4:=Tryz.underlying4
 a4:=Tryz.isAgg4
 z4:=Tryz.sizeOf4
 v4:=Tryz.zeroValue4
 t5:=Tryz.underlying5
 a5:=Tryz.isAgg5
 z5:=Tryz.sizeOf5
 v5:=Tryz.zeroValue5
 t9:=Tryz.underlying9
 a9:=Tryz.isAgg9
 z9:=Tryz.sizeOf9
 v9:=Tryz.zeroValue9
 t21:=Tryz.underlying21
 a21:=Tryz.isAgg21
 z21:=Tryz.sizeOf21
 v21:=Tryz.zeroValue21
 t31:=Tryz.underlying35
 a31:=Tryz.isAgg35
 z31:=Tryz.sizeOf35
 v31:=Tryz.zeroValue35
 t40:=Tryz.underlying143
 a40:=Tryz.isAgg143
 z40:=Tryz.sizeOf143
 v40:=Tryz.zeroValue143
 t46:=Tryz.underlying169
 a46:=Tryz.isAgg169
 z46:=Tryz.sizeOf169
 v46:=Tryz.zeroValue169
 t49:=Tryz.underlying195
 a49:=Tryz.isAgg195
 z49:=Tryz.sizeOf195
 v49:=Tryz.zeroValue195
 t51:=Tryz.underlying177
 a51:=Tryz.isAgg177
 z51:=Tryz.sizeOf177
 v51:=Tryz.zeroValue177
 t119:=Tryz.underlying156
 a119:=Tryz.isAgg156
 z119:=Tryz.sizeOf156
 t141:=Tryz.underlying179
 a141:=Tryz.isAgg179
 z141:=Tryz.sizeOf179
 v141:=Tryz.zeroValue179
 t152:=Tryz.underlying174
 a152:=Tryz.isAgg174
 z152:=Tryz.sizeOf174
 v152:=Tryz.zeroValue174
 t154:=Tryz.underlying176
 a154:=Tryz.isAgg176
 z154:=Tryz.sizeOf176
 v154:=Tryz.zeroValue176
 t193:=Tryz.underlying191
 a193:=Tryz.isAgg191
 z193:=Tryz.sizeOf191
 v193:=Tryz.zeroValue191
 t194:=Tryz.underlying192
 a194:=Tryz.isAgg192
 z194:=Tryz.sizeOf192
 v194:=Tryz.zeroValue192
 t196:=Tryz.underlying194
 a196:=Tryz.isAgg194
 z196:=Tryz.sizeOf194
 v196:=Tryz.zeroValue194
 t198:=Tryz.underlying197
 a198:=Tryz.isAgg197
 z198:=Tryz.sizeOf197
 v198:=Tryz.zeroValue197
 t201:=Tryz.underlying200
 a201:=Tryz.isAgg200
 z201:=Tryz.sizeOf200
 v201:=Tryz.zeroValue200
 t226:=Tryz.underlying215
 a226:=Tryz.isAgg215
 z226:=Tryz.sizeOf215
 v226:=Tryz.zeroValue215
 t227:=Tryz.underlying216
 a227:=Tryz.isAgg216
 z227:=Tryz.sizeOf216
 v227:=Tryz.zeroValue216
 g0:=by kernel_rfl
 g6:=by kernel_rfl }
end Go.Proofs
end

section
/-
 DERIVED:THE SHELF's CONTRACTS AT THIS DUMP,IN PLAIN WORDS (tools/lay-plain.mjs out of 'TrimShelf.lean',which tools/lay-shelf.mjs wrote):THE SAME DECLARATIONS UNDER THE SAME NAMES:'import','namespace','open','def','theorem' AND NOTHING ELSE:no command of the shelf's:FOR A HAND-IN. Each laying:the table of numbers ('.._ren') and one theorem,a field a fact of the dump's own or the kernel's comparison;each contract:ONE APPLICATION.
-/
namespace Go.Proofs
open Go.Shelf
def Tryz.lays156_ren:Go.Shelf.Ren:=⟨fun|156=>29|165=>58|166=>59|169=>60|240=>109|241=>110|276=>153|277=>154|n=>n,fun|31=>35|9=>9|3=>3|4=>4|0=>0|20=>20|72=>89|76=>93|70=>86|37=>87|75=>92|127=>122|164=>150|5=>5|80=>95|n=>n,fun|n=>n⟩
theorem Tryz.lays156:Go.Proofs.Lays.n156 Tryz.prog Tryz.lays156_ren:= {
 mixed:=by kernel_rfl
 f156:=Tryz.func29.trans (congrArg some (by kernel_rfl))
 f165:=Tryz.func58.trans (congrArg some (by kernel_rfl))
 f166:=Tryz.func59.trans (congrArg some (by kernel_rfl))
 f169:=Tryz.func60.trans (congrArg some (by kernel_rfl))
 f240:=Tryz.func109.trans (congrArg some (by kernel_rfl))
 f241:=Tryz.func110.trans (congrArg some (by kernel_rfl))
 f276:=Tryz.func153.trans (congrArg some (by kernel_rfl))
 f277:=Tryz.func154.trans (congrArg some (by kernel_rfl))
 t0:=Tryz.underlying0
 a0:=Tryz.isAgg0
 z0:=Tryz.sizeOf0
 v0:=Tryz.zeroValue0
 t3:=Tryz.underlying3
 a3:=Tryz.isAgg3
 z3:=Tryz.sizeOf3
 v3:=Tryz.zeroValue3
 t4:=Tryz.underlying4
 a4:=Tryz.isAgg4
 z4:=Tryz.sizeOf4
 v4:=Tryz.zeroValue4
 t9:=Tryz.underlying9
 a9:=Tryz.isAgg9
 z9:=Tryz.sizeOf9
 v9:=Tryz.zeroValue9
 t20:=Tryz.underlying20
 a20:=Tryz.isAgg20
 z20:=Tryz.sizeOf20
 v20:=Tryz.zeroValue20
 t31:=Tryz.underlying35
 a31:=Tryz.isAgg35
 z31:=Tryz.sizeOf35
 v31:=Tryz.zeroValue35
 t37:=Tryz.underlying87
 a37:=Tryz.isAgg87
 z37:=Tryz.sizeOf87
 v37:=Tryz.zeroValue87
 t70:=Tryz.underlying86
 a70:=Tryz.isAgg86
 z70:=Tryz.sizeOf86
 v70:=Tryz.zeroValue86
 t72:=Tryz.underlying89
 a72:=Tryz.isAgg89
 z72:=Tryz.sizeOf89
 v72:=Tryz.zeroValue89
 t75:=Tryz.underlying92
 a75:=Tryz.isAgg92
 z75:=Tryz.sizeOf92
 v75:=Tryz.zeroValue92
 t76:=Tryz.underlying93
 a76:=Tryz.isAgg93
 z76:=Tryz.sizeOf93
 v76:=Tryz.zeroValue93
 t127:=Tryz.underlying122
 a127:=Tryz.isAgg122
 z127:=Tryz.sizeOf122
 v127:=Tryz.zeroValue122
 t164:=Tryz.underlying150
 a164:=Tryz.isAgg150
 z164:=Tryz.sizeOf150
 v164:=Tryz.zeroValue150 }
theorem Tryz.Builder_Extra_156:Builder.Extra Tryz.prog Tryz.lays156_ren:= {
 sizeBuilder:=by kernel_rfl
 liesBuilder:=by kernel_rfl
 t5:=Tryz.underlying5
 a5:=Tryz.isAgg5
 z5:=Tryz.sizeOf5
 v5:=Tryz.zeroValue5
 infoByte:=by kernel_rfl
 cellsByte:=by kernel_rfl
 sizeByte:=by kernel_rfl
 neB5:=by decide }
open Go.RowKit in
theorem Tryz.strings_Join_none (a:Option Addr)(c:Nat)(sep:ByteArray)(w:World):
  Calls Tryz.prog 29 #[.slice a 0 c, .string sep] w fun e w'=>e= .returned (.string ⟨#[]⟩)∧w'=w:=Any.strings_Join_none Tryz.lays156 Tryz.Builder_Extra_156 a c sep w
open Go.RowKit in
theorem Tryz.strings_Join (bk o c:Nat)(xs:List ByteArray)(sep:ByteArray)(w:World)(hcells: ∀(j:Nat) x,xs[j]? =some x→w.cell? ⟨bk,o+j,none⟩=some (.string x))(hbk:bk < w.heap.size)(hN:xs.length≤140737488355328)(hcap:xs.length≤c)(hlen:(Lib.join (xs.map (·.data.toList)) sep.data.toList).length≤140737488355328):
  Calls Tryz.prog 29 #[.slice (some ⟨bk,o,none⟩) xs.length c, .string sep] w fun e w'=>e= .returned (.string ⟨(Lib.join (xs.map (·.data.toList)) sep.data.toList).toArray⟩)∧Below w.heap.size w w':=Any.strings_Join Tryz.lays156 Tryz.Builder_Extra_156 bk o c xs sep w hcells hbk hN hcap hlen
def Tryz.laysM246_ren:Go.Shelf.Ren:=⟨fun|246=>175|283=>191|284=>192|285=>193|286=>194|129=>208|317=>207|318=>209|319=>210|320=>211|337=>217|338=>218|n=>n,fun|2=>2|3=>3|9=>9|4=>4|171=>180|0=>0|53=>139|37=>87|5=>5|173=>183|212=>208|51=>177|20=>20|213=>209|46=>169|232=>220|233=>221|n=>n,fun|17=>7|18=>8|19=>9|n=>n⟩
theorem Tryz.laysM246:Go.Proofs.LaysM.n246 Tryz.prog Tryz.laysM246_ren:= {
 mixed:=by kernel_rfl
 f129:=Tryz.func208.trans (congrArg some (by kernel_rfl))
 f246:=Tryz.func175.trans (congrArg some (by kernel_rfl))
 f283:=Tryz.func191.trans (congrArg some (by kernel_rfl))
 f284:=Tryz.func192.trans (congrArg some (by kernel_rfl))
 f285:=Tryz.func193.trans (congrArg some (by kernel_rfl))
 f286:=Tryz.func194.trans (congrArg some (by kernel_rfl))
 f317:=Tryz.func207.trans (congrArg some (by kernel_rfl))
 f318:=Tryz.func209.trans (congrArg some (by kernel_rfl))
 f319:=Tryz.func210.trans (congrArg some (by kernel_rfl))
 f320:=Tryz.func211.trans (congrArg some (by kernel_rfl))
 f337:=Tryz.func217.trans (congrArg some (by kernel_rfl))
 f338:=Tryz.func218.trans (congrArg some (by kernel_rfl))
 t0:=Tryz.underlying0
 a0:=Tryz.isAgg0
 z0:=Tryz.sizeOf0
 v0:=Tryz.zeroValue0
 t2:=Tryz.underlying2
 a2:=Tryz.isAgg2
 z2:=Tryz.sizeOf2
 v2:=Tryz.zeroValue2
 t3:=Tryz.underlying3
 a3:=Tryz.isAgg3
 z3:=Tryz.sizeOf3
 v3:=Tryz.zeroValue3
 t4:=Tryz.underlying4
 a4:=Tryz.isAgg4
 z4:=Tryz.sizeOf4
 v4:=Tryz.zeroValue4
 t5:=Tryz.underlying5
 a5:=Tryz.isAgg5
 z5:=Tryz.sizeOf5
 v5:=Tryz.zeroValue5
 t9:=Tryz.underlying9
 a9:=Tryz.isAgg9
 z9:=Tryz.sizeOf9
 v9:=Tryz.zeroValue9
 t20:=Tryz.underlying20
 a20:=Tryz.isAgg20
 z20:=Tryz.sizeOf20
 v20:=Tryz.zeroValue20
 t37:=Tryz.underlying87
 a37:=Tryz.isAgg87
 z37:=Tryz.sizeOf87
 v37:=Tryz.zeroValue87
 t46:=Tryz.underlying169
 a46:=Tryz.isAgg169
 z46:=Tryz.sizeOf169
 v46:=Tryz.zeroValue169
 t51:=Tryz.underlying177
 a51:=Tryz.isAgg177
 z51:=Tryz.sizeOf177
 v51:=Tryz.zeroValue177
 t53:=Tryz.underlying139
 a53:=Tryz.isAgg139
 z53:=Tryz.sizeOf139
 v53:=Tryz.zeroValue139
 t171:=Tryz.underlying180
 a171:=Tryz.isAgg180
 z171:=Tryz.sizeOf180
 v171:=Tryz.zeroValue180
 t173:=Tryz.underlying183
 a173:=Tryz.isAgg183
 z173:=Tryz.sizeOf183
 v173:=Tryz.zeroValue183
 t212:=Tryz.underlying208
 a212:=Tryz.isAgg208
 z212:=Tryz.sizeOf208
 v212:=Tryz.zeroValue208
 t213:=Tryz.underlying209
 a213:=Tryz.isAgg209
 z213:=Tryz.sizeOf209
 t232:=Tryz.underlying220
 a232:=Tryz.isAgg220
 z232:=Tryz.sizeOf220
 v232:=Tryz.zeroValue220
 t233:=Tryz.underlying221
 a233:=Tryz.isAgg221
 z233:=Tryz.sizeOf221
 v233:=Tryz.zeroValue221
 g17:=by kernel_rfl
 g18:=by kernel_rfl
 g19:=by kernel_rfl
 i0:=by kernel_rfl
 i2:=by kernel_rfl
 i3:=by kernel_rfl
 i4:=by kernel_rfl
 i5:=by kernel_rfl
 i9:=by kernel_rfl
 i20:=by kernel_rfl
 i37:=by kernel_rfl
 i46:=by kernel_rfl
 i51:=by kernel_rfl
 i53:=by kernel_rfl
 i171:=by kernel_rfl
 i173:=by kernel_rfl
 i212:=by kernel_rfl
 i232:=by kernel_rfl
 i233:=by kernel_rfl
 m17:=by kernel_rfl
 m18:=by kernel_rfl
 m19:=by kernel_rfl }
open Go.RowKit Go.Sort Go.Lib in
theorem Tryz.internal_strconv_FormatInt_10 (n:Int)(h0: -9223372036854775808≤n)(h1:n≤9223372036854775807)(w:World)(htab:Lib.TabIs Tryz.prog w "internal/strconv.uint64pow10" .u64 Lib.pow10Tab):
  Calls Tryz.prog 175 #[.int .i64 n, .int .i64 10] w fun e w'=>e= .returned (.string ⟨(Lib.itoa n).toArray⟩)∧ ∃k os,w'=grow (w.drewN k) os:=Any.internal_strconv_FormatInt_10 Tryz.laysM246 n h0 h1 w htab
end Go.Proofs
end

section
namespace Go.Vm
open Go.Proofs Go.RowKit Go.Shelf
def twoL:List UInt8:=[58,61,32,45,62,32,60,61,32,62,61,32,60,62]
def twoF:List (List D):=[[.str (bs [58,61])],[.str (bs [45,62])],[.str (bs [60,61])],[.str (bs [62,61])],[.str (bs [60,62])]]
def srow (s:ByteArray):List D:=[.str s]
def srows (l:List ByteArray):List (List D):=l.map srow
def unSr:List (List D)→Option (List ByteArray)
 | []=>some []
 | [.str s]::r=>match unSr r with
   |some l=>some (s::l)
   |none=>none
 |_=>none
def joinB (l:List ByteArray)(sep:ByteArray):ByteArray:=⟨(Lib.join (l.map (·.data.toList)) sep.data.toList).toArray⟩
def knF:List V→Option PRes
 | [.d (.str s)]=>match decide (s.data.toList=twoL)with
   |true=>some (.val [.sl 1 twoF])
   |false=>none
 |_=>none
def knJ:List V→Option PRes
 | [.d (.sl 1 rows), .d (.str sep)]=>match unSr rows with
   |some l=>match decide (l.length≤140737488355328∧(Lib.join (l.map (·.data.toList)) sep.data.toList).length≤140737488355328)with
    |true=>some (.val [.str (joinB l sep)])
    |false=>none
   |none=>none
 |_=>none
def knI:List V→Option PRes
 | [.d (.int .i64 n), .d (.int .i64 b)]=>match decide (b=10∧ -9223372036854775808≤n∧n≤9223372036854775807)with
   |true=>some (.val [.str ⟨(Lib.itoa n).toArray⟩])
   |false=>none
 |_=>none
def kn:FuncId→List V→Option PRes:=fun f args=>match Nat.beq f 128 with
 |true=>knF args
 |false=>match Nat.beq f 29 with
  |true=>knJ args
  |false=>match Nat.beq f 175 with
   |true=>knI args
   |false=>none
theorem fields_two:Lib.fields twoL= [[58,61],[45,62],[60,61],[62,61],[60,62]]:=by decide+kernel
theorem tab_cell {Z:Nat→Nat→Prop}{w:World}(h:TabOK Z w)(c:Nat)(hc:c < 256):w.cell? ⟨0,c,none⟩=some (.int .u8 (if Lib.isSp (UInt8.ofNat c)then 1 else 0)):=by
 have h1:=(h.2 (0,Lib.asciiSpaceTab.map fun n=>Value.int .u8 n) (by simp [gV]) c).2
 have h2:(Lib.asciiSpaceTab.map fun n=>Value.int .u8 n)[c]? =some (.int .u8 (Lib.asciiSpaceTab.getD c 0)):=by
  rw[List.getElem?_map,List.getD_eq_getElem?_getD]
  have:c < Lib.asciiSpaceTab.length:=by rw[Lib.asciiSpaceTab_length];exact hc
  simp [this]
 have h1:=h1.trans h2
 rwa [Lib.asciiSpaceTab_at c hc]at h1
theorem fr_of_below {w w':World}(h:Below w.heap.size w w'):Fr (fun _=>False) w w':=⟨h.os,h.tape,h.output,h.size,fun k hk _=>h.block k hk⟩
theorem kv_good:KV Tryz.prog:=by
 intro s hs g w us hsim hu
 obtain⟨h1,h2⟩:=hu
 match us,h1 with
 | [u0,u1,u2],_=>
   have e0:=rep_str_inv (h2 0 u0 _ rfl rfl)
   have e1:=rep_int_inv (h2 1 u1 _ rfl rfl)
   have e2:=rep_int_inv (h2 2 u2 _ rfl rfl)
   subst e0;subst e1;subst e2
   have fin: ∀(v:Value) (n:Int) (b:Bool) (w':World),Below w.heap.size w w'→(∀(g':Gh),Rep w' g' v (.ifn b))→ ∃u g',Ending.returned (.tuple #[.int .i64 n,v])= .returned u∧Rep w' g' u (.tup [.d (.int .i64 n), .ifn b])∧Keep [] g [] w g' [] w':=by
    intro v n b w' hb hv
    refine⟨_,g,rfl, .tup _ _ rfl fun i u c hu hc=> ?_,Keep.of_fr hsim (fr_of_below hb)⟩
    match i with
    |0=>simp at hu hc;subst hu;subst hc;exact .d (.int _ _)
    |1=>simp at hu hc;subst hu;subst hc;exact hv g
    |i+2=>simp at hc
   show Calls Tryz.prog 126 #[.string s, .int .i64 10, .int .i64 64] w _
   unfold pnumI pokB
   cases hp:Lib.parseIntB 64 s.data.toList with
   |ok v=>
    refine(Tryz.strconv_ParseInt_10_at64_ok s (by omega) v hp w).mono ?_
    rintro e w' ⟨rfl,hw⟩
    refine fin _ _ _ _ ?_ fun _=> .ifn0
    rcases hw with rfl|⟨t,rfl⟩
    ·exact Below.refl _ _
    ·exact Lib.bytesWorld_below _ _ _
   |range=>
    obtain⟨_,te,pe,hc⟩:=hsim.tab.1 4 (by simp [gI])
    refine(Tryz.strconv_ParseInt_10_at64_range s (by omega) hp _ w hc (.inr ⟨_,_,rfl⟩)).mono ?_
    rintro e w' ⟨N,rfl,_,_,hb⟩
    exact fin _ _ _ _ hb fun _=> .ifn1 _ _
   |_=>
    obtain⟨_,te,pe,hc⟩:=hsim.tab.1 3 (by simp [gI])
    have q:Calls Tryz.prog 126 #[.string s, .int .i64 10, .int .i64 64] w fun e w'=> ∃N,e= .returned (.tuple #[.int .i64 (0), .iface 170 (.pointer (some ⟨N,0,none⟩))])∧w.heap.size≤N∧w'.heap[N]? =some (.cells #[.string ⟨#[80,97,114,115,101,73,110,116]⟩, .string s, .iface te pe] 187 (0,0))∧Below w.heap.size w w':=Any.strconv_ParseInt_10_at64_syntax Tryz.laysC174 s (by omega) hp _ w hc (.inr ⟨_,_,rfl⟩)
    refine q.mono ?_
    rintro e w' ⟨N,rfl,_,_,hb⟩
    exact fin _ _ _ _ hb fun _=> .ifn1 _ _
theorem unSr_srows: ∀l:List ByteArray,unSr (srows l)=some l
 | []=>rfl
 |s::l=>by
  show(match unSr (srows l)with
   |some l=>some (s::l)
   |none=>none)=some (s::l)
  rw[unSr_srows l]
theorem unSr_some: ∀ {r:List (List D)} {l:List ByteArray},unSr r=some l→r=srows l
 | [],l,h=>by cases h;rfl
 | [.str s]::r,l,h=>by
   unfold unSr at h
   split at h
   ·rename_i l' hl
    cases h
    rw[unSr_some hl];rfl
   ·cases h
theorem kn_slen (l:List ByteArray):(srows l).length=l.length:=by simp [srows]
theorem join_call (l:List ByteArray)(sep:ByteArray)(hN:l.length≤140737488355328)(hl:(Lib.join (l.map (·.data.toList)) sep.data.toList).length≤140737488355328):PCall Tryz.prog 29 [.d (.sl 1 (srows l)), .d (.str sep)] (.d (.str (joinB l sep))):=by
 intro g w us hsim hu
 obtain⟨h1,h2⟩:=hu
 match us,h1 with
 | [u0,u1],_=>
   have e1:=rep_str_inv (h2 1 u1 _ rfl rfl)
   subst e1
   have h0:=rep_d_inv (h2 0 u0 _ rfl rfl)
   have fin: ∀(r:ByteArray) (w':World),Below w.heap.size w w'→ ∃u g',Ending.returned (.string r)= .returned u∧Rep w' g' u (.d (.str r))∧Keep [] g [] w g' [] w':=fun r w' hb=>⟨_,g,rfl, .d (.str _),Keep.of_fr hsim (fr_of_below hb)⟩
   have e0:joinB [] sep=⟨#[]⟩:=rfl
   generalize hrows:srows l=rows at h0
   have hlen:rows.length=l.length:=by rw[←hrows,kn_slen]
   have none_: ∀(a:Option Addr) (c:Nat),l= []→Calls Tryz.prog 29 #[.slice a 0 c, .string sep] w fun e w'=> ∃u g',e= .returned u∧Rep w' g' u (.d (.str (joinB l sep)))∧Keep [] g [] w g' [] w':=by
    rintro a c rfl
    refine(Tryz.strings_Join_none a c sep w).mono ?_
    rintro e w' ⟨rfl,rfl⟩
    rw[e0]
    exact fin _ _ (Below.refl _ _)
   cases h0 with
   |slnil=>exact none_ _ _ (List.length_eq_zero_iff.1 hlen.symm)
   |slemp a cap=>exact none_ _ _ (List.length_eq_zero_iff.1 hlen.symm)
   |sl blk off n cap _ _ U hn hcap hl1 hZ hc hr=>
    subst hrows
    by_cases h0:l= []
    ·have:n=0:=by rw[←hn,hlen,h0];rfl
     subst this
     exact none_ _ _ h0
    ·have hx: ∀(j:Nat) x,l[j]? =some x→(srows l)[j]? =some [.str x]:=fun j x hj=>by simp [srows,srow,hj]
     have hcell: ∀(j:Nat) x,l[j]? =some x→w.cell? ⟨blk,off+j,none⟩=some (.string x):=fun j x hj=>by
      have h3:=hc j _ 0 (.str x) (hx j x hj) rfl
      have h4:=hr j _ 0 (.str x) (hx j x hj) rfl
      have:U j 0= .string x:=by generalize U j 0=u at h4;cases h4;rfl
      rw[this]at h3
      simpa using h3
     have hbk:blk < w.heap.size:=by
      obtain⟨x,hj⟩: ∃x,l[0]? =some x:=by
       match l,h0 with
       |x::l,_=>exact⟨x,rfl⟩
      have:=hcell 0 x hj
      unfold World.cell? at this
      split at this
      ·rename_i hw
       exact(Array.getElem?_eq_some_iff.1 hw).1
      ·cases this
     have hn':n=l.length:=by rw[←hn,hlen]
     subst hn'
     refine(Tryz.strings_Join blk off cap l sep w hcell hbk hN hcap hl).mono ?_
     rintro e w' ⟨rfl,hb⟩
     exact fin _ _ hb
theorem fields_call (s:ByteArray)(hd:s.data.toList=twoL):PGood Tryz.prog 128 [.d (.str s)] (.val [.sl 1 twoF]):=by
 refine⟨[35],[.sl 1], .d (.sl 1 twoF),by kernel_rfl,by kernel_rfl,rfl,by kernel_rfl,fun g w us hsim hu=> ?_⟩
 obtain⟨h1,h2⟩:=hu
 match us,h1 with
 | [u0],_=>
   have e0:=rep_str_inv (h2 0 u0 _ rfl rfl)
   subst e0
   have hsz:s.size=14:=by
    have:s.data.toList.length=twoL.length:=by rw[hd]
    simpa [twoL]using this
   have L:=Any.strings_Fields_core Tryz.lays157 (by kernel_rfl) s w (by omega) (fun j b hb=>by
    rw[hd]at hb
    have:=List.mem_of_getElem? hb
    have hall: ∀b∈twoL,b.toNat < 128:=by decide
    exact hall b this) (fun c hc=>tab_cell hsim.tab c hc)
   refine L.mono ?_
   rintro e w' ⟨rfl,rfl⟩
   rw[hd,fields_two]
   refine⟨_,_,rfl,?_,Keep.newZ hsim _ _⟩
   have hcell: ∀(i:Nat) (v:Value),(([[58,61],[45,62],[60,61],[62,61],[60,62]]:List (List UInt8)).map fun l=>Value.string ⟨l.toArray⟩).toArray[i]? =some v→(w.alloc (.cells (([[58,61],[45,62],[60,61],[62,61],[60,62]]:List (List UInt8)).map fun l=>Value.string ⟨l.toArray⟩).toArray 9)).cell? ⟨w.heap.size,i,none⟩=some v:=by
    intro i v hv
    simp only [World.cell?,World.alloc,Array.getElem?_push,if_true]
    simpa using hv
   refine .d (.sl _ 0 5 5 1 twoF (fun i j=> .string (match twoF[i]? with
    |some [.str s]=>s
    |_=>default)) rfl (Nat.le_refl _) ?_ ?_ ?_ ?_)
   ·intro i r hr
    match i with
    |0|1|2|3|4=>simp [twoF]at hr;subst hr;rfl
    |i+5=>simp [twoF]at hr
   ·intro i r j c hr hc;exact .inr rfl
   ·intro i r j c hr hc
    match i,j with
    |0,0|1,0|2,0|3,0|4,0=>exact hcell _ _ rfl
    |0,j+1|1,j+1|2,j+1|3,j+1|4,j+1=>simp [twoF]at hr;subst hr;simp at hc
    |i+5,j=>simp [twoF]at hr
   ·intro i r j c hr hc
    match i,j with
    |0,0|1,0|2,0|3,0|4,0=>simp [twoF]at hr;subst hr;simp at hc;subst hc;exact .str _
    |0,j+1|1,j+1|2,j+1|3,j+1|4,j+1=>simp [twoF]at hr;subst hr;simp at hc
    |i+5,j=>simp [twoF]at hr
theorem itoa_call (n:Int)(h0: -9223372036854775808≤n)(h1:n≤9223372036854775807):PCall Tryz.prog 175 [.d (.int .i64 n), .d (.int .i64 10)] (.d (.str ⟨(Lib.itoa n).toArray⟩)):=by
 intro g w us hsim hu
 obtain⟨hl,h2⟩:=hu
 match us,hl with
 | [u0,u1],_=>
   have e0:=rep_int_inv (h2 0 u0 _ rfl rfl)
   have e1:=rep_int_inv (h2 1 u1 _ rfl rfl)
   subst e0;subst e1
   have htab:Lib.TabIs Tryz.prog w "internal/strconv.uint64pow10" .u64 Lib.pow10Tab:=by
    have ht:=hsim.tab.2 (7,Lib.pow10Tab.map fun n=>Value.int .u64 n) (by simp [gV])
    have hz:(Lib.pow10Tab.map fun n=>Value.int .u64 n)[0]? =some (.int .u64 1):=by kernel_rfl
    have hc:=(ht 0).2.trans hz
    unfold Lib.TabIs World.var?
    rw[show Tryz.prog.globalNamed "internal/strconv.uint64pow10" =some 7 by kernel_rfl]
    simp only [Option.bind_some]
    have key: ∃cs t s,w.heap[7]? =some (.cells cs t s):=by
     unfold World.cell? at hc
     split at hc
     ·rename_i hw;exact⟨_,_,_,hw⟩
     ·cases hc
    obtain⟨cs,t,s,hw⟩:=key
    rw[hw]
    simp only [Option.some.injEq]
    refine Array.ext_getElem? fun i=> ?_
    have hi:=(ht i).2
    simp only [World.cell?,hw]at hi
    rw[List.getElem?_toArray]
    simpa using hi
   refine(Tryz.internal_strconv_FormatInt_10 n h0 h1 w htab).mono ?_
   rintro e w' ⟨rfl,k,os,rfl⟩
   refine⟨_,g,rfl, .d (.str _),Keep.of_fr hsim ⟨rfl,rfl,rfl,by simp [Go.Sort.grow],fun i hi _=> ?_⟩⟩
   show(w.heap++os)[i]? =_
   rw[Array.getElem?_append,if_pos hi]
theorem beq_far {k n:Nat}(h:n < k):Nat.beq k n=false:=by
 cases h2:Nat.beq k n with
 |false=>rfl
 |true=>have:=Nat.eq_of_beq_eq_true h2;omega
theorem kn_key {k:Nat}(h:1000000≤k)(key:List V):kn k key=none:=by
 unfold kn
 rw[beq_far (show 128 < k by omega),beq_far (show 29 < k by omega),beq_far (show 175 < k by omega)]
theorem kn_good:KGood Tryz.prog kn:=by
 refine⟨kv_good,fun f args p _ ha h=> ?_,fun f key pn as' hs p _ hd h=> ?_⟩
 rotate_left
 ·rw[kn_key (of_decide_eq_true (bkey_le f)) key]at h
  cases h
 unfold kn at h
 split at h
 ·rename_i hf
  have hf:=Nat.eq_of_beq_eq_true hf
  subst hf
  unfold knF at h
  split at h
  ·rename_i s
   split at h
   ·rename_i hd
    cases h
    exact fields_call s (of_decide_eq_true hd)
   ·cases h
  ·cases h
 ·split at h
  ·rename_i hf
   have hf:=Nat.eq_of_beq_eq_true hf
   subst hf
   unfold knJ at h
   split at h
   ·rename_i rows sep
    split at h
    ·rename_i l hl
     split at h
     ·rename_i hd
      have hd:=of_decide_eq_true hd
      cases h
      rw[unSr_some hl]
      exact⟨[9],[.str], .d (.str (joinB l sep)),by kernel_rfl,by kernel_rfl,rfl,by kernel_rfl,join_call l sep hd.1 hd.2⟩
     ·cases h
    ·cases h
   ·cases h
  ·split at h
   ·rename_i hf
    have hf:=Nat.eq_of_beq_eq_true hf
    subst hf
    unfold knI at h
    split at h
    ·rename_i n b
     split at h
     ·rename_i hd
      obtain⟨rfl,h0,h1⟩:=of_decide_eq_true hd
      cases h
      exact⟨[9],[.str], .d (.str ⟨(Lib.itoa n).toArray⟩),by kernel_rfl,by kernel_rfl,rfl,by kernel_rfl,itoa_call n h0 h1⟩
     ·cases h
    ·cases h
   ·cases h
end Go.Vm
end

section
namespace Go.Vm
open Go.Proofs
noncomputable def cF (f:FuncId) (args:List V):Option PRes:=callF Tryz.prog cs kn f args
noncomputable def eF:Env:=envF (callF Tryz.prog cs kn)
theorem eF_call (f:FuncId)(args:List V):eF.call f args=cF f args:=rfl
theorem eF_lp {α:Type}(b:List D→Option (List D ⊕ α))(ds:List D):eF.lp b ds=loopF b ds:=rfl
theorem cOf {f:FuncId}{args:List V}{p:PRes}(hg:goodF Tryz.prog f=true)(hk:kn f args=none)(h:(funT sy Tryz.prog cs f args).run eF=some p):cF f args=some p:=callF_of hg hk h
theorem cOfP {f:FuncId}{args:List V}{Q:PRes→Prop}(hg:goodF Tryz.prog f=true)(hk:kn f args=none)(h: ∃p,(funT sy Tryz.prog cs f args).run eF=some p∧Q p): ∃p,cF f args=some p∧Q p:=h.imp fun _ h=>⟨callF_of hg hk h.1,h.2⟩
theorem decT {p:Prop} [Decidable p] (h:p):decide p=true:=decide_eq_true h
theorem decF {p:Prop} [Decidable p] (h: ¬p):decide p=false:=decide_eq_false h
theorem inr_at {i n:Nat}(h:i < n):decide (0≤(i:Int)∧(i:Int) < (n:Int))=true:=decide_eq_true ⟨by omega,by omega⟩
theorem ilt_at {i n:Nat}(h:i < n):decide ((i:Int) < (n:Int))=true:=decide_eq_true (by omega)
theorem ilt_self (n:Nat):decide ((n:Int) < (n:Int))=false:=decide_eq_false (by omega)
theorem wrap_succ {i n:Nat}(h:i < n)(hn:n≤1000000000000):IntKind.i64.wrap ((i:Int)+1)=(i:Int)+1:=wrap_id (by omega) (by omega)
theorem mixedOrders:Tryz.prog.follows .mixedOrders=true:=by kernel_rfl
end Go.Vm
end

section
set_option maxRecDepth 10000
namespace Go.Vm
theorem bs1 {α β:Type}(a:α)(f:α→Option β):(some a).bind f=f a:=rfl
theorem ct1 {α:Type}(a b:α):cond true a b=a:=rfl
theorem cf1 {α:Type}(a b:α):cond false a b=b:=rfl
theorem es1 {α:Type}(a:α):(a=a)=True:=eq_self a
theorem go1:type_of% (And.intro @bs1 (And.intro @ct1 (And.intro @cf1 (And.intro @es1 (And.intro @sy_wrap (And.intro @sy_add (And.intro @sy_sub (And.intro @sy_mul (And.intro @sy_ieq (And.intro @sy_ilt (And.intro @sy_ile (And.intro @sy_seq (And.intro @sy_beq (And.intro @sy_bor (And.intro @sy_bnot (And.intro @sy_imax (And.intro @sy_imin (And.intro @sy_rlen (And.intro @sy_slen (And.intro @sy_sapp (And.intro @sy_inr (And.intro @sy_nat (And.intro @sy_cell0 (And.intro @sy_cellS (And.intro @sy_skip0 (And.intro @sy_inrn (And.intro @sy_rapp (And.intro @sy_fits (And.intro @sy_cutok (And.intro @sy_cut (And.intro @sy_scut (And.intro @sy_sbyte (And.intro @sy_mkok (And.intro @sy_mkok0 (And.intro @sy_mkz (And.intro @sy_rep (And.intro @sy_head (And.intro @sy_deq (And.intro @eqDs_int (And.intro @eqDs_nil (And.intro @opI_int (And.intro @opB_bool (And.intro @opS_str (And.intro @opL_sl (And.intro @opM_own (And.intro @leaves_val (And.intro @leaves_own (And.intro @cutO_bool (And.intro @bif_bool (And.intro @cutO_inl (And.intro @cutO_inr (And.intro @eF_call (And.intro @eF_lp (And.intro @Nat.zero_add (And.intro @Bool.cond_false_right (And.intro @Bool.cond_true_left (And.intro @Bool.cond_false_left (And.intro @Bool.cond_true_right (And.intro @Bool.not_true (And.intro @Bool.not_false (And.intro @Bool.not_not (And.intro @decide_true (And.intro @decide_false (And.intro @Bool.true_and (And.intro @Bool.and_true (And.intro @Bool.false_and (And.intro @Bool.and_false (And.intro @Bool.or_false (And.intro @Bool.false_or (And.intro @Bool.true_or (And.intro @Bool.or_true (And.intro @true_and (@and_true))))))))))))))))))))))))))))))))))))))))))))))))))))))))))))))))))))))))):=And.intro @bs1 (And.intro @ct1 (And.intro @cf1 (And.intro @es1 (And.intro @sy_wrap (And.intro @sy_add (And.intro @sy_sub (And.intro @sy_mul (And.intro @sy_ieq (And.intro @sy_ilt (And.intro @sy_ile (And.intro @sy_seq (And.intro @sy_beq (And.intro @sy_bor (And.intro @sy_bnot (And.intro @sy_imax (And.intro @sy_imin (And.intro @sy_rlen (And.intro @sy_slen (And.intro @sy_sapp (And.intro @sy_inr (And.intro @sy_nat (And.intro @sy_cell0 (And.intro @sy_cellS (And.intro @sy_skip0 (And.intro @sy_inrn (And.intro @sy_rapp (And.intro @sy_fits (And.intro @sy_cutok (And.intro @sy_cut (And.intro @sy_scut (And.intro @sy_sbyte (And.intro @sy_mkok (And.intro @sy_mkok0 (And.intro @sy_mkz (And.intro @sy_rep (And.intro @sy_head (And.intro @sy_deq (And.intro @eqDs_int (And.intro @eqDs_nil (And.intro @opI_int (And.intro @opB_bool (And.intro @opS_str (And.intro @opL_sl (And.intro @opM_own (And.intro @leaves_val (And.intro @leaves_own (And.intro @cutO_bool (And.intro @bif_bool (And.intro @cutO_inl (And.intro @cutO_inr (And.intro @eF_call (And.intro @eF_lp (And.intro @Nat.zero_add (And.intro @Bool.cond_false_right (And.intro @Bool.cond_true_left (And.intro @Bool.cond_false_left (And.intro @Bool.cond_true_right (And.intro @Bool.not_true (And.intro @Bool.not_false (And.intro @Bool.not_not (And.intro @decide_true (And.intro @decide_false (And.intro @Bool.true_and (And.intro @Bool.and_true (And.intro @Bool.false_and (And.intro @Bool.and_false (And.intro @Bool.or_false (And.intro @Bool.false_or (And.intro @Bool.true_or (And.intro @Bool.or_true (And.intro @true_and (@and_true))))))))))))))))))))))))))))))))))))))))))))))))))))))))))))))))))))))))
end Go.Vm
end

section
namespace Go.Vm
section
variable {α β : Type}
theorem st_bind {v:Option α}{f:α→Option β}{n:α}{p:β}(h:v=some n)(k:f n=some p):v.bind f=some p:=by rw[h];exact k
theorem st_cut {X:Option (List D ⊕ α)}{K:List D→Option α}{ds:List D}{p:α}(h:X=some (.inl ds))(k:K ds=some p):cutO X K=some p:=by rw[h];exact k
theorem st_t {c:Bool}{a b:Option α}{p:α}(h:c=true)(k:a=some p):(bif c then a else b)=some p:=by rw[h];exact k
theorem st_f {c:Bool}{a b:Option α}{p:α}(h:c=false)(k:b=some p):(bif c then a else b)=some p:=by rw[h];exact k
theorem st_opI {v:Option D}{k:IntKind}{n:Int}(h:v=some (.int k n)):opI v k=some n:=by rw[h];simp [opI]
theorem st_opB {v:Option D}{n:Bool}(h:v=some (.bool n)):opB v=some n:=by rw[h];rfl
theorem st_opL {v:Option D}{sz:Nat}{n:List (List D)}(h:v=some (.sl sz n)):opL v sz=some n:=by rw[h];simp [opL]
noncomputable def lpK (b:List D→Option (List D ⊕ α)):List D ⊕ α→Option α
 | .inl ds=>eF.lp b ds
 | .inr a=>some a
theorem st_lp {b:List D→Option (List D ⊕ α)}{ds:List D}{r:List D ⊕ α}{p:α}(h:b ds=some r)(k:lpK b r=some p):eF.lp b ds=some p:=by
 show loopF b ds=some p
 rw[loopF_eq,h]
 cases r with
 |inl d=>exact k
 |inr a=>exact k
theorem st_inl {b:List D→Option (List D ⊕ α)}{ds:List D}{p:α}(k:eF.lp b ds=some p):lpK b (.inl ds)=some p:=k
theorem st_inr {b:List D→Option (List D ⊕ α)}{a:α}:lpK b (.inr a)=some a:=rfl
theorem st_some {a:α}:some a=some a:=rfl
end
end Go.Vm
end

section
namespace Go.Vm
def kP (pn:Int)(l:List (List D))(i:Int):List V:=[.d (.int .i64 pn), .d (.int .i64 1), .ptr 0 0, .fn 135 [.d (.sl 4 l), .d (.int .i64 i)]]
def kS (pn:Int)(s:ByteArray)(l:List (List D))(i:Int):List V:=[.d (.int .i64 pn), .d (.int .i64 2), .ptr 0 0, .d (.str s), .fn 135 [.d (.sl 4 l), .d (.int .i64 i)]]
def kO (a b:Int)(l:List (List D))(i:Int):List V:=[.d (.int .i64 0), .d (.int .i64 3), .ptr 0 0, .d (.int .i64 a), .d (.int .i64 b), .fn 135 [.d (.sl 4 l), .d (.int .i64 i)]]
def kN (w l:List (List D))(i:Int):List V:=[.d (.int .i64 159), .d (.int .i64 2), .ptr 0 0, .own 1, .fn 135 [.d (.sl 4 l), .d (.int .i64 i)], .tup [.d (.int .i64 9), .d (.sl 1 w)]]
def rP (l:List (List D))(i:Int)(b:Bool):List V:=[.d (.int .i64 0), .d (.int .i64 1), .ptr 0 0, .fn 76 [.d (.sl 4 l), .d (.int .i64 i), .d (.bool b)]]
def rS (s:ByteArray)(l:List (List D))(i:Int)(b:Bool):List V:=[.d (.int .i64 0), .d (.int .i64 2), .ptr 0 0, .d (.str s), .fn 76 [.d (.sl 4 l), .d (.int .i64 i), .d (.bool b)]]
def rO (a w l:List (List D))(i:Int)(b:Bool):List V:=[.d (.int .i64 0), .d (.int .i64 3), .ptr 0 0, .own 1, .own 2, .fn 76 [.d (.sl 4 l), .d (.int .i64 i), .d (.bool b)], .tup [.d (.int .i64 3), .d (.sl 1 a)], .tup [.d (.int .i64 9), .d (.sl 1 w)]]
abbrev kE (a b:Int)(c:ByteArray)(d:Int)(e f:List (List D)):V:= .agg [.d (.int .i64 a), .d (.int .i64 b), .d (.str c), .d (.int .i64 d), .d (.sl 1 e), .d (.sl 6 f)]
noncomputable def rec0 (f:Nat):RecI:=recOf Go.Proofs.Tryz.prog f
section
variable {α : Type} (A : Sy) (ds : List D) (j : Nat)
def oE (K:Int→Int→ByteArray→Int→List (List D)→List (List D)→Option α):Option α:=
 (opI (A.cell ds j) .i64).bind fun a=>(opI (A.cell ds (j+1)) .i64).bind fun b=>(opS (A.cell ds (j+2))).bind fun c=>(opI (A.cell ds (j+3)) .i64).bind fun d=>(opL (A.cell ds (j+4)) 1).bind fun e=>(opL (A.cell ds (j+5)) 6).bind fun f=>K a b c d e f
def oP (K:List (List D)→Int→Option α):Option α:=(opL (A.cell ds j) 4).bind fun a=>(opI (A.cell ds (j+1)) .i64).bind fun b=>K a b
def oR (K:List (List D)→Int→Bool→Option α):Option α:=(opL (A.cell ds j) 4).bind fun a=>(opI (A.cell ds (j+1)) .i64).bind fun b=>(opB (A.cell ds (j+2))).bind fun c=>K a b c
def oT (K:Int→ByteArray→Int→Int→Option α):Option α:=(opI (A.cell ds j) .i64).bind fun a=>(opS (A.cell ds (j+1))).bind fun b=>(opI (A.cell ds (j+2)) .i64).bind fun c=>(opI (A.cell ds (j+3)) .i64).bind fun d=>K a b c d
def oQ (K:Bool→Bool→Bool→Int→Int→Int→Option α):Option α:=(opB (A.cell ds j)).bind fun a=>(opB (A.cell ds (j+1))).bind fun b=>(opB (A.cell ds (j+2))).bind fun c=>(opI (A.cell ds (j+3)) .i64).bind fun d=>(opI (A.cell ds (j+4)) .i64).bind fun e=>(opI (A.cell ds (j+5)) .i64).bind fun f=>K a b c d e f
end
end Go.Vm
end

section
set_option maxRecDepth 1000000
set_option maxHeartbeats 0
namespace Go.Vm
open Go.Proofs
noncomputable section
def g106 (A:Sy)(E:Env)(op_:Int):Option PRes:=
 bif (A.ieq op_ 1)then
  some (.val [(.str (bs [45]))])
 else
  bif (A.ieq op_ 4)then
   some (.val [(.str (bs [45]))])
  else
   bif (A.ieq op_ 2)then
    some (.val [(.str (bs [110,111,116]))])
   else
    bif (A.ieq op_ 3)then
     some (.val [(.str (bs [43]))])
    else
     bif (A.ieq op_ 5)then
      some (.val [(.str (bs [42]))])
     else
      bif (A.ieq op_ 6)then
       some (.val [(.str (bs [47]))])
      else
       bif (A.ieq op_ 7)then
        some (.val [(.str (bs [109,111,100]))])
       else
        bif (A.ieq op_ 8)then
         some (.val [(.str (bs [97,110,100]))])
        else
         bif (A.ieq op_ 9)then
          some (.val [(.str (bs [111,114]))])
         else
          bif (A.ieq op_ 10)then
           some (.val [(.str (bs [120,111,114]))])
          else
           (E.call 147 [(.d (.int .i64 op_))]).bind fun p1=>
           (opS (A.cell p1.leaves 0)).bind fun s3=>
           some (.val [(.str s3)])
theorem g106_eq (A:Sy)(E:Env)(op_:Int):(funT A Tryz.prog cs 106 [.d (.int .i64 op_)]).run E=g106 A E op_:=by kernel_rfl
def g147 (A:Sy)(E:Env)(op_:Int):Option PRes:=
 bif (A.ieq op_ 11)then
  some (.val [(.str (bs [61]))])
 else
  bif (A.ieq op_ 12)then
   some (.val [(.str (bs [60,62]))])
  else
   bif (A.ieq op_ 13)then
    some (.val [(.str (bs [60]))])
   else
    bif (A.ieq op_ 14)then
     some (.val [(.str (bs [60,61]))])
    else
     bif (A.ieq op_ 15)then
      some (.val [(.str (bs [62]))])
     else
      bif (A.ieq op_ 16)then
       some (.val [(.str (bs [62,61]))])
      else
       some (.val [(.str (bs []))])
theorem g147_eq (A:Sy)(E:Env)(op_:Int):(funT A Tryz.prog cs 147 [.d (.int .i64 op_)]).run E=g147 A E op_:=by kernel_rfl
def g214 (A:Sy)(E:Env)(op_:Int)(a_0:Int)(a_1:Int)(a_2:ByteArray)(a_3:Int)(a_4:List (List D))(a_5:List (List D))(b_0:Int)(b_1:Int)(b_2:ByteArray)(b_3:Int)(b_4:List (List D))(b_5:List (List D)):Option PRes:=
 some (.val [(.int .i64 6),(.int .i64 0),(.str (bs [])),(.int .i64 op_),(.sl 1 []),(.sl 6 [[(.int .i64 a_0),(.int .i64 a_1),(.str a_2),(.int .i64 a_3),(.sl 1 a_4),(.sl 6 a_5)],[(.int .i64 b_0),(.int .i64 b_1),(.str b_2),(.int .i64 b_3),(.sl 1 b_4),(.sl 6 b_5)]])])
theorem g214_eq (A:Sy)(E:Env)(op_:Int)(a_0:Int)(a_1:Int)(a_2:ByteArray)(a_3:Int)(a_4:List (List D))(a_5:List (List D))(b_0:Int)(b_1:Int)(b_2:ByteArray)(b_3:Int)(b_4:List (List D))(b_5:List (List D)):(funT A Tryz.prog cs 214 [.d (.int .i64 op_),V.agg [.d (.int .i64 a_0),V.d (.int .i64 a_1),V.d (.str a_2),V.d (.int .i64 a_3),V.d (.sl 1 a_4),V.d (.sl 6 a_5)],V.agg [.d (.int .i64 b_0),V.d (.int .i64 b_1),V.d (.str b_2),V.d (.int .i64 b_3),V.d (.sl 1 b_4),V.d (.sl 6 b_5)]]).run E=g214 A E op_ a_0 a_1 a_2 a_3 a_4 a_5 b_0 b_1 b_2 b_3 b_4 b_5:=by kernel_rfl
end
end Go.Vm
end

section
set_option maxRecDepth 1000000
set_option maxHeartbeats 0
namespace Go.Vm
open Go.Proofs
noncomputable section
def g82 (A:Sy)(E:Env)(l_:List (List D))(at_:Int):Option PRes:=
 cutO (
  bif (A.ile 0 at_)then
   some (.inl [(.bool (A.ilt at_ (A.rlen l_)))])
  else
   some (.inl [(.bool false)])
 ) fun ds1=>
 (opB (A.cell ds1 0)).bind fun b2=>
 cutO (
  bif b2 then
   bif (A.inr (A.wrap .i64 (A.sub (A.rlen l_) 1)) (A.rlen l_))then
    (opI (A.cell (A.row l_ (A.wrap .i64 (A.sub (A.rlen l_) 1))) 0) .i64).bind fun n3=>
    some (.inl [(.bool (A.ieq n3 6))])
   else
    none
  else
   some (.inl [(.bool false)])
 ) fun ds4=>
 (opB (A.cell ds4 0)).bind fun b5=>
 some (.val [(.bool b5)])
theorem g82_eq (A:Sy)(E:Env)(l_:List (List D))(at_:Int):(funT A Tryz.prog cs 82 [.d (.sl 4 l_),V.d (.int .i64 at_)]).run E=g82 A E l_ at_:=by kernel_rfl
def g42 (A:Sy)(E:Env)(l_:List (List D))(at_:Int):Option PRes:=
 (E.call 82 [(.d (.sl 4 l_)),(.d (.int .i64 at_))]).bind fun p1=>
 (opB (A.cell p1.leaves 0)).bind fun b3=>
 bif (A.bnot b3)then
  some (.val [(.int .i64 0),(.int .i64 0),(.str (bs [])),(.int .i64 0),(.sl 1 []),(.sl 6 []),(.int .i64 0),(.int .i64 1)])
 else
  (E.call 83 [(.d (.sl 4 l_)),(.d (.int .i64 at_))]).bind fun p4=>
  oE A p4.leaves 0 fun n6 n7 s8 n9 l10 l11=>
  (opI (A.cell p4.leaves 6) .i64).bind fun n12=>
  (opB (A.cell p4.leaves 7)).bind fun b13=>
  bif (A.bnot b13)then
   some (.val [(.int .i64 0),(.int .i64 0),(.str (bs [])),(.int .i64 0),(.sl 1 []),(.sl 6 []),(.int .i64 n12),(.int .i64 2)])
  else
   (E.call 54 [(kE n6 n7 s8 n9 l10 l11)]).bind fun p14=>
   (opI (A.cell p14.leaves 0) .i64).bind fun n16=>
   cutO (
    bif (A.ilt 12 n16)then
     some (.inl [(.bool true)])
    else
     (E.call 53 [(kE n6 n7 s8 n9 l10 l11)]).bind fun p17=>
     (opI (A.cell p17.leaves 0) .i64).bind fun n19=>
     some (.inl [(.bool (A.ilt 60 n19))])
   ) fun ds20=>
   (opB (A.cell ds20 0)).bind fun b21=>
   bif b21 then
    some (.val [(.int .i64 0),(.int .i64 0),(.str (bs [])),(.int .i64 0),(.sl 1 []),(.sl 6 []),(.int .i64 at_),(.int .i64 3)])
   else
    (E.call 25 [(kE n6 n7 s8 n9 l10 l11)]).bind fun p22=>
    (opB (A.cell p22.leaves 0)).bind fun b24=>
    bif (A.bnot b24)then
     some (.val [(.int .i64 0),(.int .i64 0),(.str (bs [])),(.int .i64 0),(.sl 1 []),(.sl 6 []),(.int .i64 at_),(.int .i64 1)])
    else
     some (.val [(.int .i64 n6),(.int .i64 n7),(.str s8),(.int .i64 n9),(.sl 1 l10),(.sl 6 l11),(.int .i64 n12),(.int .i64 0)])
theorem g42_eq (A:Sy)(E:Env)(l_:List (List D))(at_:Int):(funT A Tryz.prog cs 42 [.d (.sl 4 l_),V.d (.int .i64 at_)]).run E=g42 A E l_ at_:=by kernel_rfl
def g54 (A:Sy)(E:Env)(e_0:Int)(e_1:Int)(e_2:ByteArray)(e_3:Int)(e_4:List (List D))(e_5:List (List D)):Option PRes:=
 E.lp (fun ds1=>
  (opI (A.cell ds1 0) .i64).bind fun n2=>
  (opL (A.cell ds1 1) 6).bind fun l3=>
  (opI (A.cell ds1 2) .i64).bind fun n4=>
  (opI (A.cell ds1 3) .i64).bind fun n5=>
  bif (A.ilt n5 n4)then
   bif (A.inr n5 (A.rlen l3))then
    oE A (A.row l3 n5) 0 fun n6 n7 s8 n9 l10 l11=>
    (E.call 54 [(kE n6 n7 s8 n9 l10 l11)]).bind fun p12=>
    (opI (A.cell p12.leaves 0) .i64).bind fun n14=>
    some (.inl [(.int .i64 (A.imax n2 n14)),(.sl 6 l3),(.int .i64 n4),(.int .i64 (A.wrap .i64 (A.add n5 1)))])
   else
    none
  else
   some (.inr (.val [(.int .i64 (A.wrap .i64 (A.add n2 1)))]))
 ) [(.int .i64 0),(.sl 6 e_5),(.int .i64 (A.rlen e_5)),(.int .i64 0)]
theorem g54_eq (A:Sy)(E:Env)(e_0:Int)(e_1:Int)(e_2:ByteArray)(e_3:Int)(e_4:List (List D))(e_5:List (List D)):(funT A Tryz.prog cs 54 [.agg [.d (.int .i64 e_0),V.d (.int .i64 e_1),V.d (.str e_2),V.d (.int .i64 e_3),V.d (.sl 1 e_4),V.d (.sl 6 e_5)]]).run E=g54 A E e_0 e_1 e_2 e_3 e_4 e_5:=by kernel_rfl
def g99 (A:Sy)(E:Env)(e_0:Int)(e_1:Int)(e_2:ByteArray)(e_3:Int)(e_4:List (List D))(e_5:List (List D)):Option PRes:=
 bif (A.ieq e_0 1)then
  (E.call 141 [(kE e_0 e_1 e_2 e_3 e_4 e_5)]).bind fun p1=>
  oQ A p1.leaves 0 fun b3 b4 b5 n6 n7 n8=>
  some (.val [(.bool b3),(.bool b4),(.bool b5),(.int .i64 n6),(.int .i64 n7),(.int .i64 n8),(.bool true)])
 else
  bif (A.ieq e_0 2)then
   (E.call 141 [(kE e_0 e_1 e_2 e_3 e_4 e_5)]).bind fun p9=>
   oQ A p9.leaves 0 fun b11 b12 b13 n14 n15 n16=>
   some (.val [(.bool b11),(.bool b12),(.bool b13),(.int .i64 n14),(.int .i64 n15),(.int .i64 n16),(.bool true)])
  else
   bif (A.ieq e_0 3)then
    (E.call 141 [(kE e_0 e_1 e_2 e_3 e_4 e_5)]).bind fun p17=>
    oQ A p17.leaves 0 fun b19 b20 b21 n22 n23 n24=>
    some (.val [(.bool b19),(.bool b20),(.bool b21),(.int .i64 n22),(.int .i64 n23),(.int .i64 n24),(.bool true)])
   else
    bif (A.ieq e_0 4)then
     (E.call 141 [(kE e_0 e_1 e_2 e_3 e_4 e_5)]).bind fun p25=>
     oQ A p25.leaves 0 fun b27 b28 b29 n30 n31 n32=>
     some (.val [(.bool b27),(.bool b28),(.bool b29),(.int .i64 n30),(.int .i64 n31),(.int .i64 n32),(.bool true)])
    else
     bif (A.ieq e_0 17)then
      (E.call 141 [(kE e_0 e_1 e_2 e_3 e_4 e_5)]).bind fun p33=>
      oQ A p33.leaves 0 fun b35 b36 b37 n38 n39 n40=>
      some (.val [(.bool b35),(.bool b36),(.bool b37),(.int .i64 n38),(.int .i64 n39),(.int .i64 n40),(.bool true)])
     else
      bif (A.ieq e_0 5)then
       (E.call 142 [(kE e_0 e_1 e_2 e_3 e_4 e_5),(.d (.int .i64 1))]).bind fun p41=>
       oQ A p41.leaves 0 fun b43 b44 b45 n46 n47 n48=>
       cutO (
        bif (A.ieq e_3 1)then
         some (.inl [(.bool true)])
        else
         some (.inl [(.bool (A.ieq e_3 2))])
       ) fun ds49=>
       (opB (A.cell ds49 0)).bind fun b50=>
       some (.val [(.bool b43),(.bool b44),(.bool b50),(.int .i64 n46),(.int .i64 n47),(.int .i64 n48),(.bool true)])
      else
       bif (A.ieq e_0 6)then
        (E.call 142 [(kE e_0 e_1 e_2 e_3 e_4 e_5),(.d (.int .i64 2))]).bind fun p51=>
        oQ A p51.leaves 0 fun b53 b54 b55 n56 n57 n58=>
        cutO (
         bif (A.ile 3 e_3)then
          some (.inl [(.bool (A.ile e_3 16))])
         else
          some (.inl [(.bool false)])
        ) fun ds59=>
        (opB (A.cell ds59 0)).bind fun b60=>
        some (.val [(.bool b53),(.bool b54),(.bool b60),(.int .i64 n56),(.int .i64 n57),(.int .i64 n58),(.bool true)])
       else
        bif (A.ieq e_0 7)then
         (E.call 142 [(kE e_0 e_1 e_2 e_3 e_4 e_5),(.d (.int .i64 3))]).bind fun p61=>
         oQ A p61.leaves 0 fun b63 b64 b65 n66 n67 n68=>
         some (.val [(.bool b63),(.bool b64),(.bool b65),(.int .i64 n66),(.int .i64 n67),(.int .i64 n68),(.bool true)])
        else
         bif (A.ieq e_0 16)then
          (E.call 142 [(kE e_0 e_1 e_2 e_3 e_4 e_5),(.d (.int .i64 3))]).bind fun p69=>
          oQ A p69.leaves 0 fun b71 b72 b73 n74 n75 n76=>
          some (.val [(.bool b71),(.bool b72),(.bool b73),(.int .i64 n74),(.int .i64 n75),(.int .i64 n76),(.bool true)])
         else
          bif (A.ieq e_0 8)then
           (E.call 142 [(kE e_0 e_1 e_2 e_3 e_4 e_5),(.d (.int .i64 2))]).bind fun p77=>
           oQ A p77.leaves 0 fun b79 b80 b81 n82 n83 n84=>
           some (.val [(.bool b79),(.bool b80),(.bool b81),(.int .i64 n82),(.int .i64 n83),(.int .i64 n84),(.bool true)])
          else
           bif (A.ieq e_0 9)then
            (E.call 142 [(kE e_0 e_1 e_2 e_3 e_4 e_5),(.d (.int .i64 2))]).bind fun p85=>
            oQ A p85.leaves 0 fun b87 b88 b89 n90 n91 n92=>
            some (.val [(.bool b87),(.bool b88),(.bool b89),(.int .i64 n90),(.int .i64 n91),(.int .i64 n92),(.bool true)])
           else
            bif (A.ieq e_0 15)then
             (E.call 142 [(kE e_0 e_1 e_2 e_3 e_4 e_5),(.d (.int .i64 2))]).bind fun p93=>
             oQ A p93.leaves 0 fun b95 b96 b97 n98 n99 n100=>
             some (.val [(.bool b95),(.bool b96),(.bool b97),(.int .i64 n98),(.int .i64 n99),(.int .i64 n100),(.bool true)])
            else
             bif (A.ieq e_0 10)then
              (E.call 142 [(kE e_0 e_1 e_2 e_3 e_4 e_5),(.d (.int .i64 1))]).bind fun p101=>
              oQ A p101.leaves 0 fun b103 b104 b105 n106 n107 n108=>
              some (.val [(.bool b103),(.bool b104),(.bool b105),(.int .i64 n106),(.int .i64 n107),(.int .i64 n108),(.bool true)])
             else
              bif (A.ieq e_0 11)then
               (E.call 142 [(kE e_0 e_1 e_2 e_3 e_4 e_5),(.d (.int .i64 1))]).bind fun p109=>
               oQ A p109.leaves 0 fun b111 b112 b113 n114 n115 n116=>
               (E.call 95 [(.d (.str e_2))]).bind fun p117=>
               (opB (A.cell p117.leaves 0)).bind fun b119=>
               some (.val [(.bool b111),(.bool b119),(.bool b113),(.int .i64 n114),(.int .i64 n115),(.int .i64 1),(.bool true)])
              else
               bif (A.ieq e_0 12)then
                (E.call 142 [(kE e_0 e_1 e_2 e_3 e_4 e_5),(.d (.int .i64 (A.rlen e_4)))]).bind fun p120=>
                oQ A p120.leaves 0 fun b122 b123 b124 n125 n126 n127=>
                (E.call 95 [(.d (.str e_2))]).bind fun p128=>
                (opB (A.cell p128.leaves 0)).bind fun b130=>
                some (.val [(.bool b122),(.bool b130),(.bool b124),(.int .i64 n125),(.int .i64 n126),(.int .i64 6),(.bool true)])
               else
                bif (A.ieq e_0 13)then
                 bif (A.ieq e_1 0)then
                  (E.call 95 [(.d (.str e_2))]).bind fun p131=>
                  (opB (A.cell p131.leaves 0)).bind fun b133=>
                  bif (A.ieq e_1 0)then
                   some (.val [(.bool true),(.bool b133),(.bool (A.ieq e_3 0)),(.int .i64 e_1),(.int .i64 6),(.int .i64 0),(.bool true)])
                  else
                   some (.val [(.bool true),(.bool b133),(.bool (A.ieq e_3 0)),(.int .i64 e_1),(.int .i64 7),(.int .i64 0),(.bool true)])
                 else
                  (E.call 95 [(.d (.str e_2))]).bind fun p134=>
                  (opB (A.cell p134.leaves 0)).bind fun b136=>
                  bif (A.ieq e_1 0)then
                   some (.val [(.bool (A.ieq e_1 1)),(.bool b136),(.bool (A.ieq e_3 0)),(.int .i64 e_1),(.int .i64 6),(.int .i64 0),(.bool true)])
                  else
                   some (.val [(.bool (A.ieq e_1 1)),(.bool b136),(.bool (A.ieq e_3 0)),(.int .i64 e_1),(.int .i64 7),(.int .i64 0),(.bool true)])
                else
                 bif (A.ieq e_0 14)then
                  (E.call 142 [(kE e_0 e_1 e_2 e_3 e_4 e_5),(.d (.int .i64 1))]).bind fun p137=>
                  oQ A p137.leaves 0 fun b139 b140 b141 n142 n143 n144=>
                  some (.val [(.bool b139),(.bool b140),(.bool b141),(.int .i64 n142),(.int .i64 8),(.int .i64 n144),(.bool true)])
                 else
                  some (.val [(.bool false),(.bool false),(.bool false),(.int .i64 0),(.int .i64 0),(.int .i64 0),(.bool false)])
theorem g99_eq (A:Sy)(E:Env)(e_0:Int)(e_1:Int)(e_2:ByteArray)(e_3:Int)(e_4:List (List D))(e_5:List (List D)):(funT A Tryz.prog cs 99 [.agg [.d (.int .i64 e_0),V.d (.int .i64 e_1),V.d (.str e_2),V.d (.int .i64 e_3),V.d (.sl 1 e_4),V.d (.sl 6 e_5)]]).run E=g99 A E e_0 e_1 e_2 e_3 e_4 e_5:=by kernel_rfl
def g141 (A:Sy)(E:Env)(e_0:Int)(e_1:Int)(e_2:ByteArray)(e_3:Int)(e_4:List (List D))(e_5:List (List D)):Option PRes:=
 (E.call 142 [(kE e_0 e_1 e_2 e_3 e_4 e_5),(.d (.int .i64 0))]).bind fun p1=>
 oQ A p1.leaves 0 fun b3 b4 b5 n6 n7 n8=>
 bif (A.ieq e_0 1)then
  some (.val [(.bool (A.ile 0 e_1)),(.bool b4),(.bool b5),(.int .i64 n6),(.int .i64 n7),(.int .i64 n8)])
 else
  bif (A.ieq e_0 2)then
   cutO (
    bif (A.ieq e_1 0)then
     some (.inl [(.bool true)])
    else
     some (.inl [(.bool (A.ieq e_1 1))])
   ) fun ds9=>
   (opB (A.cell ds9 0)).bind fun b10=>
   some (.val [(.bool b10),(.bool b4),(.bool b5),(.int .i64 n6),(.int .i64 n7),(.int .i64 n8)])
  else
   bif (A.ieq e_0 3)then
    (E.call 95 [(.d (.str e_2))]).bind fun p11=>
    (opB (A.cell p11.leaves 0)).bind fun b13=>
    some (.val [(.bool b3),(.bool b13),(.bool b5),(.int .i64 n6),(.int .i64 n7),(.int .i64 n8)])
   else
    bif (A.ieq e_0 4)then
     (E.call 124 [(.d (.str e_2))]).bind fun p14=>
     (opB (A.cell p14.leaves 0)).bind fun b16=>
     some (.val [(.bool b3),(.bool b16),(.bool b5),(.int .i64 n6),(.int .i64 n7),(.int .i64 n8)])
    else
     bif (A.ieq e_0 17)then
      (E.call 24 [(.d (.str e_2))]).bind fun p17=>
      (opB (A.cell p17.leaves 0)).bind fun b19=>
      some (.val [(.bool b3),(.bool b19),(.bool b5),(.int .i64 n6),(.int .i64 n7),(.int .i64 n8)])
     else
      some (.val [(.bool b3),(.bool b4),(.bool b5),(.int .i64 n6),(.int .i64 n7),(.int .i64 n8)])
theorem g141_eq (A:Sy)(E:Env)(e_0:Int)(e_1:Int)(e_2:ByteArray)(e_3:Int)(e_4:List (List D))(e_5:List (List D)):(funT A Tryz.prog cs 141 [.agg [.d (.int .i64 e_0),V.d (.int .i64 e_1),V.d (.str e_2),V.d (.int .i64 e_3),V.d (.sl 1 e_4),V.d (.sl 6 e_5)]]).run E=g141 A E e_0 e_1 e_2 e_3 e_4 e_5:=by kernel_rfl
def g142 (A:Sy)(E:Env)(e_0:Int)(e_1:Int)(e_2:ByteArray)(e_3:Int)(e_4:List (List D))(e_5:List (List D))(n_:Int):Option PRes:=
 some (.val [(.bool (A.ieq e_1 0)),(.bool (A.seq e_2 (bs []))),(.bool (A.ieq e_3 0)),(.int .i64 n_),(.int .i64 n_),(.int .i64 0)])
theorem g142_eq (A:Sy)(E:Env)(e_0:Int)(e_1:Int)(e_2:ByteArray)(e_3:Int)(e_4:List (List D))(e_5:List (List D))(n_:Int):(funT A Tryz.prog cs 142 [.agg [.d (.int .i64 e_0),V.d (.int .i64 e_1),V.d (.str e_2),V.d (.int .i64 e_3),V.d (.sl 1 e_4),V.d (.sl 6 e_5)],V.d (.int .i64 n_)]).run E=g142 A E e_0 e_1 e_2 e_3 e_4 e_5 n_:=by kernel_rfl
def g102 (A:Sy)(E:Env)(s_:ByteArray):Option PRes:=
 (E.call 124 [(.d (.str s_))]).bind fun p1=>
 (opB (A.cell p1.leaves 0)).bind fun b3=>
 cutO (
  bif b3 then
   some (.inl [(.bool true)])
  else
   some (.inl [(.bool (A.seq s_ (bs [116,114,117,101])))])
 ) fun ds4=>
 (opB (A.cell ds4 0)).bind fun b5=>
 cutO (
  bif b5 then
   some (.inl [(.bool true)])
  else
   some (.inl [(.bool (A.seq s_ (bs [102,97,108,115,101])))])
 ) fun ds6=>
 (opB (A.cell ds6 0)).bind fun b7=>
 some (.val [(.bool b7)])
theorem g102_eq (A:Sy)(E:Env)(s_:ByteArray):(funT A Tryz.prog cs 102 [.d (.str s_)]).run E=g102 A E s_:=by kernel_rfl
def g144 (A:Sy)(E:Env)(e_0:Int)(e_1:Int)(e_2:ByteArray)(e_3:Int)(e_4:List (List D))(e_5:List (List D)):Option PRes:=
 bif (A.ieq e_0 1)then
  some (.val [(.bool true)])
 else
  bif (A.ieq e_0 2)then
   some (.val [(.bool true)])
  else
   bif (A.ieq e_0 4)then
    some (.val [(.bool true)])
   else
    bif (A.ieq e_0 5)then
     cutO (
      bif (A.ieq e_3 1)then
       some (.inl [(.bool (A.ieq (A.rlen e_5) 1))])
      else
       some (.inl [(.bool false)])
     ) fun ds1=>
     (opB (A.cell ds1 0)).bind fun b2=>
     cutO (
      bif b2 then
       bif (A.inr 0 (A.rlen e_5))then
        (opI (A.cell (A.row e_5 0) 0) .i64).bind fun n3=>
        some (.inl [(.bool (A.ieq n3 1))])
       else
        none
      else
       some (.inl [(.bool false)])
     ) fun ds4=>
     (opB (A.cell ds4 0)).bind fun b5=>
     some (.val [(.bool b5)])
    else
     some (.val [(.bool false)])
theorem g144_eq (A:Sy)(E:Env)(e_0:Int)(e_1:Int)(e_2:ByteArray)(e_3:Int)(e_4:List (List D))(e_5:List (List D)):(funT A Tryz.prog cs 144 [.agg [.d (.int .i64 e_0),V.d (.int .i64 e_1),V.d (.str e_2),V.d (.int .i64 e_3),V.d (.sl 1 e_4),V.d (.sl 6 e_5)]]).run E=g144 A E e_0 e_1 e_2 e_3 e_4 e_5:=by kernel_rfl
def g64 (A:Sy)(E:Env)(e_0:Int)(e_1:Int)(e_2:ByteArray)(e_3:Int)(e_4:List (List D))(e_5:List (List D)):Option PRes:=
 E.lp (fun ds1=>
  (opI (A.cell ds1 0) .i64).bind fun n2=>
  oE A ds1 1 fun n3 n4 s5 n6 l7 l8=>
  (opL (A.cell ds1 7) 6).bind fun l9=>
  bif (A.ilt n2 (A.rlen l8))then
   bif (A.inr n2 (A.rlen l8))then
    oE A (A.row l8 n2) 0 fun n10 n11 s12 n13 l14 l15=>
    (E.call 64 [(kE n10 n11 s12 n13 l14 l15)]).bind fun p16=>
    (opL (A.cell p16.leaves 0) 6).bind fun l18=>
    bif (A.fits l9 l18 88)then
     some (.inl [(.int .i64 (A.wrap .i64 (A.add n2 1))),(.int .i64 n3),(.int .i64 n4),(.str s5),(.int .i64 n6),(.sl 1 l7),(.sl 6 l8),(.sl 6 (A.rapp l9 l18))])
    else
     none
   else
    none
  else
   some (.inr (.own 38 6 l9))
 ) [(.int .i64 0),(.int .i64 e_0),(.int .i64 e_1),(.str e_2),(.int .i64 e_3),(.sl 1 e_4),(.sl 6 e_5),(.sl 6 [[(.int .i64 e_0),(.int .i64 e_1),(.str e_2),(.int .i64 e_3),(.sl 1 e_4),(.sl 6 e_5)]])]
theorem g64_eq (A:Sy)(E:Env)(e_0:Int)(e_1:Int)(e_2:ByteArray)(e_3:Int)(e_4:List (List D))(e_5:List (List D)):(funT A Tryz.prog cs 64 [.agg [.d (.int .i64 e_0),V.d (.int .i64 e_1),V.d (.str e_2),V.d (.int .i64 e_3),V.d (.sl 1 e_4),V.d (.sl 6 e_5)]]).run E=g64 A E e_0 e_1 e_2 e_3 e_4 e_5:=by kernel_rfl
def g22 (A:Sy)(E:Env)(a_0:Int)(a_1:Int)(a_2:ByteArray)(a_3:Int)(a_4:List (List D))(a_5:List (List D))(b_0:Int)(b_1:Int)(b_2:ByteArray)(b_3:Int)(b_4:List (List D))(b_5:List (List D)):Option PRes:=
 cutO (
  bif (A.bnot (A.ieq a_0 b_0))then
   some (.inl [(.bool true)])
  else
   some (.inl [(.bool (A.bnot (A.ieq a_1 b_1)))])
 ) fun ds1=>
 (opB (A.cell ds1 0)).bind fun b2=>
 cutO (
  bif b2 then
   some (.inl [(.bool true)])
  else
   some (.inl [(.bool (A.bnot (A.seq a_2 b_2)))])
 ) fun ds3=>
 (opB (A.cell ds3 0)).bind fun b4=>
 cutO (
  bif b4 then
   some (.inl [(.bool true)])
  else
   some (.inl [(.bool (A.bnot (A.ieq a_3 b_3)))])
 ) fun ds5=>
 (opB (A.cell ds5 0)).bind fun b6=>
 cutO (
  bif b6 then
   some (.inl [(.bool true)])
  else
   (E.call 48 [(.d (.sl 1 a_4)),(.d (.sl 1 b_4))]).bind fun p7=>
   (opB (A.cell p7.leaves 0)).bind fun b9=>
   some (.inl [(.bool (A.bnot b9))])
 ) fun ds10=>
 (opB (A.cell ds10 0)).bind fun b11=>
 cutO (
  bif b11 then
   some (.inl [(.bool true)])
  else
   some (.inl [(.bool (A.bnot (A.ieq (A.rlen a_5) (A.rlen b_5))))])
 ) fun ds12=>
 (opB (A.cell ds12 0)).bind fun b13=>
 bif b13 then
  some (.val [(.bool false)])
 else
  E.lp (fun ds14=>
   (opI (A.cell ds14 0) .i64).bind fun n15=>
   oE A ds14 1 fun n16 n17 s18 n19 l20 l21=>
   oE A ds14 7 fun n22 n23 s24 n25 l26 l27=>
   bif (A.ilt n15 (A.rlen l21))then
    bif (A.inr n15 (A.rlen l21))then
     oE A (A.row l21 n15) 0 fun n28 n29 s30 n31 l32 l33=>
     bif (A.inr n15 (A.rlen l27))then
      oE A (A.row l27 n15) 0 fun n34 n35 s36 n37 l38 l39=>
      (E.call 22 [(kE n28 n29 s30 n31 l32 l33),(kE n34 n35 s36 n37 l38 l39)]).bind fun p40=>
      (opB (A.cell p40.leaves 0)).bind fun b42=>
      bif (A.bnot b42)then
       some (.inr (.val [(.bool false)]))
      else
       some (.inl [(.int .i64 (A.wrap .i64 (A.add n15 1))),(.int .i64 n16),(.int .i64 n17),(.str s18),(.int .i64 n19),(.sl 1 l20),(.sl 6 l21),(.int .i64 n22),(.int .i64 n23),(.str s24),(.int .i64 n25),(.sl 1 l26),(.sl 6 l27)])
     else
      none
    else
     none
   else
    some (.inr (.val [(.bool true)]))
  ) [(.int .i64 0),(.int .i64 a_0),(.int .i64 a_1),(.str a_2),(.int .i64 a_3),(.sl 1 a_4),(.sl 6 a_5),(.int .i64 b_0),(.int .i64 b_1),(.str b_2),(.int .i64 b_3),(.sl 1 b_4),(.sl 6 b_5)]
theorem g22_eq (A:Sy)(E:Env)(a_0:Int)(a_1:Int)(a_2:ByteArray)(a_3:Int)(a_4:List (List D))(a_5:List (List D))(b_0:Int)(b_1:Int)(b_2:ByteArray)(b_3:Int)(b_4:List (List D))(b_5:List (List D)):(funT A Tryz.prog cs 22 [.agg [.d (.int .i64 a_0),V.d (.int .i64 a_1),V.d (.str a_2),V.d (.int .i64 a_3),V.d (.sl 1 a_4),V.d (.sl 6 a_5)],V.agg [.d (.int .i64 b_0),V.d (.int .i64 b_1),V.d (.str b_2),V.d (.int .i64 b_3),V.d (.sl 1 b_4),V.d (.sl 6 b_5)]]).run E=g22 A E a_0 a_1 a_2 a_3 a_4 a_5 b_0 b_1 b_2 b_3 b_4 b_5:=by kernel_rfl
def g48 (A:Sy)(E:Env)(a_:List (List D))(b_:List (List D)):Option PRes:=
 bif (A.bnot (A.ieq (A.rlen a_) (A.rlen b_)))then
  some (.val [(.bool false)])
 else
  E.lp (fun ds1=>
   (opL (A.cell ds1 0) 1).bind fun l2=>
   (opL (A.cell ds1 1) 1).bind fun l3=>
   (opI (A.cell ds1 2) .i64).bind fun n4=>
   bif (A.ilt n4 (A.rlen l2))then
    bif (A.inr n4 (A.rlen l2))then
     (opS (A.cell (A.row l2 n4) 0)).bind fun s5=>
     bif (A.inr n4 (A.rlen l3))then
      (opS (A.cell (A.row l3 n4) 0)).bind fun s6=>
      bif (A.bnot (A.seq s5 s6))then
       some (.inr (.val [(.bool false)]))
      else
       some (.inl [(.sl 1 l2),(.sl 1 l3),(.int .i64 (A.wrap .i64 (A.add n4 1)))])
     else
      none
    else
     none
   else
    some (.inr (.val [(.bool true)]))
  ) [(.sl 1 a_),(.sl 1 b_),(.int .i64 0)]
theorem g48_eq (A:Sy)(E:Env)(a_:List (List D))(b_:List (List D)):(funT A Tryz.prog cs 48 [.d (.sl 1 a_),V.d (.sl 1 b_)]).run E=g48 A E a_ b_:=by kernel_rfl
def g56 (A:Sy)(E:Env)(e_0:Int)(e_1:Int)(e_2:ByteArray)(e_3:Int)(e_4:List (List D))(e_5:List (List D)):Option PRes:=
 (E.call 99 [(kE e_0 e_1 e_2 e_3 e_4 e_5)]).bind fun p1=>
 oQ A p1.leaves 0 fun b3 b4 b5 n6 n7 n8=>
 (opB (A.cell p1.leaves 6)).bind fun b9=>
 cutO (
  bif (A.bnot b9)then
   some (.inl [(.bool true)])
  else
   some (.inl [(.bool (A.bnot b3))])
 ) fun ds10=>
 (opB (A.cell ds10 0)).bind fun b11=>
 cutO (
  bif b11 then
   some (.inl [(.bool true)])
  else
   some (.inl [(.bool (A.bnot b4))])
 ) fun ds12=>
 (opB (A.cell ds12 0)).bind fun b13=>
 cutO (
  bif b13 then
   some (.inl [(.bool true)])
  else
   some (.inl [(.bool (A.bnot b5))])
 ) fun ds14=>
 (opB (A.cell ds14 0)).bind fun b15=>
 cutO (
  bif b15 then
   some (.inl [(.bool true)])
  else
   some (.inl [(.bool (A.ilt (A.rlen e_5) n6))])
 ) fun ds16=>
 (opB (A.cell ds16 0)).bind fun b17=>
 cutO (
  bif b17 then
   some (.inl [(.bool true)])
  else
   some (.inl [(.bool (A.ilt n7 (A.rlen e_5)))])
 ) fun ds18=>
 (opB (A.cell ds18 0)).bind fun b19=>
 bif b19 then
  some (.val [(.bool false)])
 else
  cutO (
   bif (A.ilt n8 (A.rlen e_4))then
    some (.inl [(.bool true)])
   else
    bif (A.ilt 0 n8)then
     some (.inl [(.bool (A.ieq (A.rlen e_4) 0))])
    else
     some (.inl [(.bool false)])
  ) fun ds20=>
  (opB (A.cell ds20 0)).bind fun b21=>
  cutO (
   bif b21 then
    some (.inl [(.bool true)])
   else
    (E.call 28 [(.d (.sl 1 e_4))]).bind fun p22=>
    (opB (A.cell p22.leaves 0)).bind fun b24=>
    some (.inl [(.bool (A.bnot b24))])
  ) fun ds25=>
  (opB (A.cell ds25 0)).bind fun b26=>
  bif b26 then
   some (.val [(.bool false)])
  else
   (E.call 100 [(.d (.sl 1 e_4)),(.fn 101 [])]).bind fun p27=>
   (opB (A.cell p27.leaves 0)).bind fun b29=>
   bif b29 then
    some (.val [(.bool false)])
   else
    cutO (
     bif (A.bnot (A.ieq e_0 8))then
      some (.inl [(.bool true)])
     else
      bif (A.inr 0 (A.rlen e_5))then
       oE A (A.row e_5 0) 0 fun n30 n31 s32 n33 l34 l35=>
       (E.call 103 [(kE n30 n31 s32 n33 l34 l35)]).bind fun p36=>
       (opB (A.cell p36.leaves 0)).bind fun b38=>
       some (.inl [(.bool b38)])
      else
       none
    ) fun ds39=>
    (opB (A.cell ds39 0)).bind fun b40=>
    some (.val [(.bool b40)])
theorem g56_eq (A:Sy)(E:Env)(e_0:Int)(e_1:Int)(e_2:ByteArray)(e_3:Int)(e_4:List (List D))(e_5:List (List D)):(funT A Tryz.prog cs 56 [.agg [.d (.int .i64 e_0),V.d (.int .i64 e_1),V.d (.str e_2),V.d (.int .i64 e_3),V.d (.sl 1 e_4),V.d (.sl 6 e_5)]]).run E=g56 A E e_0 e_1 e_2 e_3 e_4 e_5:=by kernel_rfl
def g103 (A:Sy)(E:Env)(e_0:Int)(e_1:Int)(e_2:ByteArray)(e_3:Int)(e_4:List (List D))(e_5:List (List D)):Option PRes:=
 bif (A.bnot (A.ieq e_0 14))then
  (E.call 144 [(kE e_0 e_1 e_2 e_3 e_4 e_5)]).bind fun p1=>
  (opB (A.cell p1.leaves 0)).bind fun b3=>
  some (.val [(.bool b3)])
 else
  (E.call 145 [(.d (.sl 6 e_5)),(.fn 146 [])]).bind fun p4=>
  (opB (A.cell p4.leaves 0)).bind fun b6=>
  some (.val [(.bool (A.bnot b6))])
theorem g103_eq (A:Sy)(E:Env)(e_0:Int)(e_1:Int)(e_2:ByteArray)(e_3:Int)(e_4:List (List D))(e_5:List (List D)):(funT A Tryz.prog cs 103 [.agg [.d (.int .i64 e_0),V.d (.int .i64 e_1),V.d (.str e_2),V.d (.int .i64 e_3),V.d (.sl 1 e_4),V.d (.sl 6 e_5)]]).run E=g103 A E e_0 e_1 e_2 e_3 e_4 e_5:=by kernel_rfl
def g28 (A:Sy)(E:Env)(l_:List (List D)):Option PRes:=
 E.lp (fun ds1=>
  (opL (A.cell ds1 0) 1).bind fun l2=>
  (opI (A.cell ds1 1) .i64).bind fun n3=>
  (opI (A.cell ds1 2) .i64).bind fun n4=>
  (opL (A.cell ds1 3) 2).bind fun l5=>
  bif (A.ilt n4 n3)then
   bif (A.inr n4 (A.rlen l2))then
    (opS (A.cell (A.row l2 n4) 0)).bind fun s6=>
    (opI (some (A.mval (.int .i64 0) (.str s6) l5)) .i64).bind fun n7=>
    bif (A.ilt 0 n7)then
     some (.inr (.val [(.bool false)]))
    else
     (opI (some (A.mval (.int .i64 0) (.str s6) l5)) .i64).bind fun n8=>
     some (.inl [(.sl 1 l2),(.int .i64 n3),(.int .i64 (A.wrap .i64 (A.add n4 1))),(.sl 2 (A.mput (.str s6) (.int .i64 (A.wrap .i64 (A.add n8 1))) l5))])
   else
    none
  else
   some (.inr (.val [(.bool true)]))
 ) [(.sl 1 l_),(.int .i64 (A.rlen l_)),(.int .i64 0),(.sl 2 [])]
theorem g28_eq (A:Sy)(E:Env)(l_:List (List D)):(funT A Tryz.prog cs 28 [.d (.sl 1 l_)]).run E=g28 A E l_:=by kernel_rfl
def g53 (A:Sy)(E:Env)(e_0:Int)(e_1:Int)(e_2:ByteArray)(e_3:Int)(e_4:List (List D))(e_5:List (List D)):Option PRes:=
 (E.call 1000098 [(.d (.int .i64 0)),(.d (.int .i64 2)),(kE e_0 e_1 e_2 e_3 e_4 e_5),(.yld 0 (rec0 53)),(.agg [.any, .any, .any,(.ptr 1 0), .any, .any, .any, .any, .any, .any]),(.fn 3 [(.d (.int .i64 0))])]).bind fun p1=>
 (opB (A.cell p1.leaves 0)).bind fun b3=>
 bif b3 then
  (opB (A.cell p1.leaves 1)).bind fun b4=>
  (opI (A.cell p1.leaves 2) .i64).bind fun n5=>
  (opI (A.cell p1.leaves 3) .i64).bind fun n6=>
  some (.val [(.int .i64 n5)])
 else
  (opB (A.cell p1.leaves 1)).bind fun b7=>
  (opI (A.cell p1.leaves 2) .i64).bind fun n8=>
  some (.val [(.int .i64 n8)])
theorem g53_eq (A:Sy)(E:Env)(e_0:Int)(e_1:Int)(e_2:ByteArray)(e_3:Int)(e_4:List (List D))(e_5:List (List D)):(funT A Tryz.prog cs 53 [.agg [.d (.int .i64 e_0),V.d (.int .i64 e_1),V.d (.str e_2),V.d (.int .i64 e_3),V.d (.sl 1 e_4),V.d (.sl 6 e_5)]]).run E=g53 A E e_0 e_1 e_2 e_3 e_4 e_5:=by kernel_rfl
def g25 (A:Sy)(E:Env)(e_0:Int)(e_1:Int)(e_2:ByteArray)(e_3:Int)(e_4:List (List D))(e_5:List (List D)):Option PRes:=
 (E.call 53 [(kE e_0 e_1 e_2 e_3 e_4 e_5)]).bind fun p1=>
 (opI (A.cell p1.leaves 0) .i64).bind fun n3=>
 cutO (
  bif (A.ilt 60 n3)then
   some (.inl [(.bool true)])
  else
   (E.call 54 [(kE e_0 e_1 e_2 e_3 e_4 e_5)]).bind fun p4=>
   (opI (A.cell p4.leaves 0) .i64).bind fun n6=>
   some (.inl [(.bool (A.ilt 12 n6))])
 ) fun ds7=>
 (opB (A.cell ds7 0)).bind fun b8=>
 bif b8 then
  some (.val [(.bool false)])
 else
  (E.call 1000098 [(.d (.int .i64 0)),(.d (.int .i64 2)),(kE e_0 e_1 e_2 e_3 e_4 e_5),(.yld 0 (rec0 25)),(.agg [.any, .any,(.ptr 1 0), .any, .any, .any, .any, .any, .any, .any, .any, .any, .any, .any, .any, .any, .any, .any]),(.fn 4 [(.d (.bool false))])]).bind fun p9=>
  (opB (A.cell p9.leaves 0)).bind fun b11=>
  bif b11 then
   (opB (A.cell p9.leaves 1)).bind fun b12=>
   (opB (A.cell p9.leaves 2)).bind fun b13=>
   some (.val [(.bool b13)])
  else
   (opB (A.cell p9.leaves 1)).bind fun b14=>
   (opB (A.cell p9.leaves 2)).bind fun b15=>
   some (.val [(.bool true)])
theorem g25_eq (A:Sy)(E:Env)(e_0:Int)(e_1:Int)(e_2:ByteArray)(e_3:Int)(e_4:List (List D))(e_5:List (List D)):(funT A Tryz.prog cs 25 [.agg [.d (.int .i64 e_0),V.d (.int .i64 e_1),V.d (.str e_2),V.d (.int .i64 e_3),V.d (.sl 1 e_4),V.d (.sl 6 e_5)]]).run E=g25 A E e_0 e_1 e_2 e_3 e_4 e_5:=by kernel_rfl
def b98_53 (A:Sy)(E:Env)(k_ n_:Int)(s_:ByteArray)(o_:Int)(ar_ su_:List (List D))(m_:Int):Option PRes:=
 bif (A.bnot true)then
  some (.val [(.bool false),(.bool false),(.int .i64 (A.wrap .i64 (A.add m_ 1)))])
 else
  E.lp (fun ds1=>
   (opL (A.cell ds1 0) 6).bind fun l2=>
   (opI (A.cell ds1 1) .i64).bind fun n3=>
   (opI (A.cell ds1 2) .i64).bind fun n4=>
   (opI (A.cell ds1 3) .i64).bind fun n5=>
   bif (A.ilt n4 n3)then
    bif (A.inr n4 (A.rlen l2))then
     oE A (A.row l2 n4) 0 fun n6 n7 s8 n9 l10 l11=>
     (E.call 1000098 [(.d (.int .i64 0)),(.d (.int .i64 2)),(kE n6 n7 s8 n9 l10 l11),(.yld 0 (rec0 53)),(.agg [.any, .any, .any,(.ptr 1 0), .any, .any, .any, .any, .any, .any]),(.fn 3 [(.d (.int .i64 n5))])]).bind fun p12=>
     (opB (A.cell p12.leaves 0)).bind fun b14=>
     bif b14 then
      (opB (A.cell p12.leaves 1)).bind fun b15=>
      (opI (A.cell p12.leaves 2) .i64).bind fun n16=>
      (opI (A.cell p12.leaves 3) .i64).bind fun n17=>
      bif (A.bnot b15)then
       some (.inr (.val [(.bool true),(.bool false),(.int .i64 n16),(.int .i64 n17)]))
      else
       none
     else
      (opB (A.cell p12.leaves 1)).bind fun b18=>
      (opI (A.cell p12.leaves 2) .i64).bind fun n19=>
      bif (A.bnot b18)then
       some (.inr (.val [(.bool false),(.bool false),(.int .i64 n19)]))
      else
       some (.inl [(.sl 6 l2),(.int .i64 n3),(.int .i64 (A.wrap .i64 (A.add n4 1))),(.int .i64 n19)])
    else
     none
   else
    some (.inr (.val [(.bool false),(.bool true),(.int .i64 n5)]))
  ) [(.sl 6 su_),(.int .i64 (A.rlen su_)),(.int .i64 0),(.int .i64 (A.wrap .i64 (A.add m_ 1)))]
theorem b98_53_eq (A:Sy)(E:Env)(k_ n_:Int)(s_:ByteArray)(o_:Int)(ar_ su_:List (List D))(m_:Int):(funB A Tryz.prog cs 98 0 [.agg [.d (.int .i64 k_), .d (.int .i64 n_), .d (.str s_), .d (.int .i64 o_), .d (.sl 1 ar_), .d (.sl 6 su_)], .yld 0 (rec0 53)] [.cells (.rcd .ready) [.any, .any, .any, .ptr 1 0, .any, .any, .any, .any, .any, .any], .cells (.ty 3) [.d (.int .i64 m_)]]).run E=b98_53 A E k_ n_ s_ o_ ar_ su_ m_:=by kernel_rfl
def b98_25 (A:Sy)(E:Env)(k_ n_:Int)(s_:ByteArray)(o_:Int)(ar_ su_:List (List D))(b_:Bool):Option PRes:=
 (E.call 56 [(kE k_ n_ s_ o_ ar_ su_)]).bind fun p1=>
 (opB (A.cell p1.leaves 0)).bind fun b3=>
 bif (A.bnot b3)then
  bif (A.bnot false)then
   some (.val [(.bool true),(.bool false),(.bool false)])
  else
   E.lp (fun ds4=>
    (opL (A.cell ds4 0) 6).bind fun l5=>
    (opI (A.cell ds4 1) .i64).bind fun n6=>
    (opI (A.cell ds4 2) .i64).bind fun n7=>
    (opB (A.cell ds4 3)).bind fun b8=>
    bif (A.ilt n7 n6)then
     bif (A.inr n7 (A.rlen l5))then
      oE A (A.row l5 n7) 0 fun n9 n10 s11 n12 l13 l14=>
      none
     else
      none
    else
     some (.inr (.val [(.bool true),(.bool true),(.bool b8)]))
   ) [(.sl 6 su_),(.int .i64 (A.rlen su_)),(.int .i64 0),(.bool false)]
 else
  bif (A.bnot true)then
   some (.val [(.bool false),(.bool false),(.bool b_)])
  else
   E.lp (fun ds15=>
    (opL (A.cell ds15 0) 6).bind fun l16=>
    (opI (A.cell ds15 1) .i64).bind fun n17=>
    (opI (A.cell ds15 2) .i64).bind fun n18=>
    (opB (A.cell ds15 3)).bind fun b19=>
    bif (A.ilt n18 n17)then
     bif (A.inr n18 (A.rlen l16))then
      oE A (A.row l16 n18) 0 fun n20 n21 s22 n23 l24 l25=>
      (E.call 1000098 [(.d (.int .i64 0)),(.d (.int .i64 2)),(kE n20 n21 s22 n23 l24 l25),(.yld 0 (rec0 25)),(.agg [.any, .any,(.ptr 1 0), .any, .any, .any, .any, .any, .any, .any, .any, .any, .any, .any, .any, .any, .any, .any]),(.fn 4 [(.d (.bool b19))])]).bind fun p26=>
      (opB (A.cell p26.leaves 0)).bind fun b28=>
      bif b28 then
       (opB (A.cell p26.leaves 1)).bind fun b29=>
       (opB (A.cell p26.leaves 2)).bind fun b30=>
       bif (A.bnot b29)then
        some (.inr (.val [(.bool true),(.bool false),(.bool b30)]))
       else
        none
      else
       (opB (A.cell p26.leaves 1)).bind fun b31=>
       (opB (A.cell p26.leaves 2)).bind fun b32=>
       bif (A.bnot b31)then
        some (.inr (.val [(.bool false),(.bool false),(.bool b32)]))
       else
        some (.inl [(.sl 6 l16),(.int .i64 n17),(.int .i64 (A.wrap .i64 (A.add n18 1))),(.bool b32)])
     else
      none
    else
     some (.inr (.val [(.bool false),(.bool true),(.bool b19)]))
   ) [(.sl 6 su_),(.int .i64 (A.rlen su_)),(.int .i64 0),(.bool b_)]
theorem b98_25_eq (A:Sy)(E:Env)(k_ n_:Int)(s_:ByteArray)(o_:Int)(ar_ su_:List (List D))(b_:Bool):(funB A Tryz.prog cs 98 0 [.agg [.d (.int .i64 k_), .d (.int .i64 n_), .d (.str s_), .d (.int .i64 o_), .d (.sl 1 ar_), .d (.sl 6 su_)], .yld 0 (rec0 25)] [.cells (.rcd .ready) [.any, .any, .ptr 1 0, .any, .any, .any, .any, .any, .any, .any, .any, .any, .any, .any, .any, .any, .any, .any], .cells (.ty 4) [.d (.bool b_)]]).run E=b98_25 A E k_ n_ s_ o_ ar_ su_ b_:=by kernel_rfl
def g83 (A:Sy)(E:Env)(l_:List (List D))(from_:Int):Option PRes:=
 (E.call 1000131 (kP 159 l_ from_)).bind fun p1=>
 (opB (A.cell p1.leaves 0)).bind fun b3=>
 bif b3 then
  (opI (A.cell p1.leaves 1) .i64).bind fun n4=>
  oP A p1.leaves 2 fun l5 n6=>
  some (.val [(.int .i64 0),(.int .i64 0),(.str (bs [])),(.int .i64 0),(.sl 1 []),(.sl 6 []),(.int .i64 n4),(.bool false)])
 else
  oE A p1.leaves 1 fun n7 n8 s9 n10 l11 l12=>
  oP A p1.leaves 7 fun l13 n14=>
  some (.val [(.int .i64 n7),(.int .i64 n8),(.str s9),(.int .i64 n10),(.sl 1 l11),(.sl 6 l12),(.int .i64 n14),(.bool true)])
theorem g83_eq (A:Sy)(E:Env)(l_:List (List D))(from_:Int):(funT A Tryz.prog cs 83 [.d (.sl 4 l_),V.d (.int .i64 from_)]).run E=g83 A E l_ from_:=by kernel_rfl
def g100_101 (A:Sy)(E:Env)(s:List (List D)):Option PRes:=
 (E.call 143 [(.d (.sl 1 s)),(.fn 101 [])]).bind fun p1=>
 (opI (A.cell p1.leaves 0) .i64).bind fun n3=>
 some (.val [(.bool (A.ile 0 n3))])
theorem g100_101_eq (A:Sy)(E:Env)(s:List (List D)):(funT A Tryz.prog cs 100 [.d (.sl 1 s), .fn 101 []]).run E=g100_101 A E s:=by kernel_rfl
def g143_101 (A:Sy)(E:Env)(s:List (List D)):Option PRes:=
 E.lp (fun ds1=>
  (opL (A.cell ds1 0) 1).bind fun l2=>
  (opI (A.cell ds1 1) .i64).bind fun n3=>
  (opI (A.cell ds1 2) .i64).bind fun n4=>
  bif (A.ilt n4 n3)then
   bif (A.inr n4 (A.rlen l2))then
    (opS (A.cell (A.row l2 n4) 0)).bind fun s5=>
    (E.call 101 [(.d (.str s5))]).bind fun p6=>
    (opB (A.cell p6.leaves 0)).bind fun b8=>
    bif b8 then
     some (.inr (.val [(.int .i64 n4)]))
    else
     some (.inl [(.sl 1 l2),(.int .i64 n3),(.int .i64 (A.wrap .i64 (A.add n4 1)))])
   else
    none
  else
   some (.inr (.val [(.int .i64 (-1))]))
 ) [(.sl 1 s),(.int .i64 (A.rlen s)),(.int .i64 0)]
theorem g143_101_eq (A:Sy)(E:Env)(s:List (List D)):(funT A Tryz.prog cs 143 [.d (.sl 1 s), .fn 101 []]).run E=g143_101 A E s:=by kernel_rfl
def g101 (A:Sy)(E:Env)(s_:ByteArray):Option PRes:=
 (E.call 102 [(.d (.str s_))]).bind fun p1=>
 (opB (A.cell p1.leaves 0)).bind fun b3=>
 some (.val [(.bool (A.bnot b3))])
theorem g101_eq (A:Sy)(E:Env)(s_:ByteArray):(funT A Tryz.prog cs 101 [.d (.str s_)]).run E=g101 A E s_:=by kernel_rfl
def g145_146 (A:Sy)(E:Env)(s:List (List D)):Option PRes:=
 (E.call 174 [(.d (.sl 6 s)),(.fn 146 [])]).bind fun p1=>
 (opI (A.cell p1.leaves 0) .i64).bind fun n3=>
 some (.val [(.bool (A.ile 0 n3))])
theorem g145_146_eq (A:Sy)(E:Env)(s:List (List D)):(funT A Tryz.prog cs 145 [.d (.sl 6 s), .fn 146 []]).run E=g145_146 A E s:=by kernel_rfl
def g174_146 (A:Sy)(E:Env)(s:List (List D)):Option PRes:=
 E.lp (fun ds1=>
  (opL (A.cell ds1 0) 6).bind fun l2=>
  (opI (A.cell ds1 1) .i64).bind fun n3=>
  (opI (A.cell ds1 2) .i64).bind fun n4=>
  bif (A.ilt n4 n3)then
   bif (A.inr n4 (A.rlen l2))then
    oE A (A.row l2 n4) 0 fun n5 n6 s7 n8 l9 l10=>
    (E.call 146 [(kE n5 n6 s7 n8 l9 l10)]).bind fun p11=>
    (opB (A.cell p11.leaves 0)).bind fun b13=>
    bif b13 then
     some (.inr (.val [(.int .i64 n4)]))
    else
     some (.inl [(.sl 6 l2),(.int .i64 n3),(.int .i64 (A.wrap .i64 (A.add n4 1)))])
   else
    none
  else
   some (.inr (.val [(.int .i64 (-1))]))
 ) [(.sl 6 s),(.int .i64 (A.rlen s)),(.int .i64 0)]
theorem g174_146_eq (A:Sy)(E:Env)(s:List (List D)):(funT A Tryz.prog cs 174 [.d (.sl 6 s), .fn 146 []]).run E=g174_146 A E s:=by kernel_rfl
def g146 (A:Sy)(E:Env)(x_0:Int)(x_1:Int)(x_2:ByteArray)(x_3:Int)(x_4:List (List D))(x_5:List (List D)):Option PRes:=
 (E.call 144 [(kE x_0 x_1 x_2 x_3 x_4 x_5)]).bind fun p1=>
 (opB (A.cell p1.leaves 0)).bind fun b3=>
 some (.val [(.bool (A.bnot b3))])
theorem g146_eq (A:Sy)(E:Env)(x_0:Int)(x_1:Int)(x_2:ByteArray)(x_3:Int)(x_4:List (List D))(x_5:List (List D)):(funT A Tryz.prog cs 146 [.agg [.d (.int .i64 x_0),V.d (.int .i64 x_1),V.d (.str x_2),V.d (.int .i64 x_3),V.d (.sl 1 x_4),V.d (.sl 6 x_5)]]).run E=g146 A E x_0 x_1 x_2 x_3 x_4 x_5:=by kernel_rfl
def g41 (A:Sy)(E:Env)(t_0:Int)(t_1:ByteArray)(t_2:Int)(t_3:Int)(s_:ByteArray):Option PRes:=
 cutO (
  bif (A.ieq t_0 5)then
   some (.inl [(.bool (A.seq t_1 s_))])
  else
   some (.inl [(.bool false)])
 ) fun ds1=>
 (opB (A.cell ds1 0)).bind fun b2=>
 some (.val [(.bool b2)])
theorem g41_eq (A:Sy)(E:Env)(t_0:Int)(t_1:ByteArray)(t_2:Int)(t_3:Int)(s_:ByteArray):(funT A Tryz.prog cs 41 [.agg [.d (.int .i64 t_0),V.d (.str t_1),V.d (.int .i64 t_2),V.d (.int .i64 t_3)],V.d (.str s_)]).run E=g41 A E t_0 t_1 t_2 t_3 s_:=by kernel_rfl
def g16 (A:Sy)(E:Env)(t_0:Int)(t_1:ByteArray)(t_2:Int)(t_3:Int)(l_:List (List D)):Option PRes:=
 bif (A.bnot (A.ieq t_0 4))then
  some (.val [(.int .i64 2)])
 else
  E.lp (fun ds1=>
   (opL (A.cell ds1 0) 7).bind fun l2=>
   (opI (A.cell ds1 1) .i64).bind fun n3=>
   (opI (A.cell ds1 2) .i64).bind fun n4=>
   oT A ds1 3 fun n5 s6 n7 n8=>
   (opS (A.cell ds1 7)).bind fun s9=>
   bif (A.ilt n4 n3)then
    bif (A.inr n4 (A.rlen l2))then
     (opS (A.cell (A.row l2 n4) 0)).bind fun s10=>
     oE A (A.row l2 n4) 1 fun n11 n12 s13 n14 l15 l16=>
     bif (A.seq s10 s9)then
      bif (A.ile 0 n4)then
       some (.inr (.val [(.int .i64 6)]))
      else
       bif (A.ieq (A.rlen l_) 40)then
        some (.inr (.val [(.int .i64 4)]))
       else
        some (.inr (.val [(.int .i64 0)]))
     else
      some (.inl [(.sl 7 l2),(.int .i64 n3),(.int .i64 (A.wrap .i64 (A.add n4 1))),(.int .i64 n5),(.str s6),(.int .i64 n7),(.int .i64 n8),(.str s9)])
    else
     none
   else
    bif (A.ile 0 (-1))then
     some (.inr (.val [(.int .i64 6)]))
    else
     bif (A.ieq (A.rlen l_) 40)then
      some (.inr (.val [(.int .i64 4)]))
     else
      some (.inr (.val [(.int .i64 0)]))
  ) [(.sl 7 l_),(.int .i64 (A.rlen l_)),(.int .i64 0),(.int .i64 t_0),(.str t_1),(.int .i64 t_2),(.int .i64 t_3),(.str t_1)]
theorem g16_eq (A:Sy)(E:Env)(t_0:Int)(t_1:ByteArray)(t_2:Int)(t_3:Int)(l_:List (List D)):(funT A Tryz.prog cs 16 [.agg [.d (.int .i64 t_0),V.d (.str t_1),V.d (.int .i64 t_2),V.d (.int .i64 t_3)],V.d (.sl 7 l_)]).run E=g16 A E t_0 t_1 t_2 t_3 l_:=by kernel_rfl
def g17 (A:Sy)(E:Env)(l_:List (List D))(at_:Int):Option PRes:=
 bif (A.inr at_ (A.rlen l_))then
  oT A (A.row l_ at_) 0 fun n1 s2 n3 n4=>
  (E.call 41 [(.agg [(.d (.int .i64 n1)),(.d (.str s2)),(.d (.int .i64 n3)),(.d (.int .i64 n4))]),(.d (.str (bs [58,61])))]).bind fun p5=>
  (opB (A.cell p5.leaves 0)).bind fun b7=>
  bif (A.bnot b7)then
   some (.val [(.int .i64 0),(.int .i64 0),(.str (bs [])),(.int .i64 0),(.sl 1 []),(.sl 6 []),(.int .i64 at_),(.int .i64 2)])
  else
   (E.call 42 [(.d (.sl 4 l_)),(.d (.int .i64 (A.wrap .i64 (A.add at_ 1))))]).bind fun p8=>
   oE A p8.leaves 0 fun n10 n11 s12 n13 l14 l15=>
   (opI (A.cell p8.leaves 6) .i64).bind fun n16=>
   (opI (A.cell p8.leaves 7) .i64).bind fun n17=>
   bif (A.bnot (A.ieq n17 0))then
    some (.val [(.int .i64 0),(.int .i64 0),(.str (bs [])),(.int .i64 0),(.sl 1 []),(.sl 6 []),(.int .i64 n16),(.int .i64 n17)])
   else
    bif (A.inr n16 (A.rlen l_))then
     oT A (A.row l_ n16) 0 fun n18 s19 n20 n21=>
     (E.call 41 [(.agg [(.d (.int .i64 n18)),(.d (.str s19)),(.d (.int .i64 n20)),(.d (.int .i64 n21))]),(.d (.str (bs [59])))]).bind fun p22=>
     (opB (A.cell p22.leaves 0)).bind fun b24=>
     bif (A.bnot b24)then
      some (.val [(.int .i64 0),(.int .i64 0),(.str (bs [])),(.int .i64 0),(.sl 1 []),(.sl 6 []),(.int .i64 n16),(.int .i64 2)])
     else
      some (.val [(.int .i64 n10),(.int .i64 n11),(.str s12),(.int .i64 n13),(.sl 1 l14),(.sl 6 l15),(.int .i64 (A.wrap .i64 (A.add n16 1))),(.int .i64 0)])
    else
     none
 else
  none
theorem g17_eq (A:Sy)(E:Env)(l_:List (List D))(at_:Int):(funT A Tryz.prog cs 17 [.d (.sl 4 l_),V.d (.int .i64 at_)]).run E=g17 A E l_ at_:=by kernel_rfl
def g7 (A:Sy)(E:Env)(s_:ByteArray):Option PRes:=
 (E.call 15 [(.d (.str s_)),(.d (.int .i64 6000))]).bind fun p1=>
 oP A p1.leaves 0 fun l3 n4=>
 (opI (A.cell p1.leaves 2) .i64).bind fun n5=>
 bif (A.bnot (A.ieq n5 0))then
  some (.val [(.sl 7 []),(.int .i64 n4),(.int .i64 n5)])
 else
  E.lp (fun ds6=>
   (opS (A.cell ds6 0)).bind fun s7=>
   oP A ds6 1 fun l8 n9=>
   (opL (A.cell ds6 3) 7).bind fun l10=>
   bif (A.inr n9 (A.rlen l8))then
    oT A (A.row l8 n9) 0 fun n11 s12 n13 n14=>
    bif (A.ieq n11 6)then
     some (.inr (.val [(.sl 7 l10),(.int .i64 (A.slen s7)),(.int .i64 0)]))
    else
     (E.call 16 [(.agg [(.d (.int .i64 n11)),(.d (.str s12)),(.d (.int .i64 n13)),(.d (.int .i64 n14))]),(.d (.sl 7 l10))]).bind fun p15=>
     (opI (A.cell p15.leaves 0) .i64).bind fun n17=>
     bif (A.bnot (A.ieq n17 0))then
      some (.inr (.val [(.sl 7 []),(.int .i64 n14),(.int .i64 n17)]))
     else
      (E.call 17 [(.d (.sl 4 l8)),(.d (.int .i64 (A.wrap .i64 (A.add n9 1))))]).bind fun p18=>
      oE A p18.leaves 0 fun n20 n21 s22 n23 l24 l25=>
      (opI (A.cell p18.leaves 6) .i64).bind fun n26=>
      (opI (A.cell p18.leaves 7) .i64).bind fun n27=>
      bif (A.bnot (A.ieq n27 0))then
       bif (A.inr n26 (A.rlen l8))then
        (opI (A.cell (A.skip 3 (A.row l8 n26)) 0) .i64).bind fun n28=>
        some (.inr (.val [(.sl 7 []),(.int .i64 n28),(.int .i64 n27)]))
       else
        none
      else
       bif (A.fits l10 [[(.str s12),(.int .i64 n20),(.int .i64 n21),(.str s22),(.int .i64 n23),(.sl 1 l24),(.sl 6 l25)]] 104)then
        some (.inl [(.str s7),(.sl 4 l8),(.int .i64 n26),(.sl 7 (A.rapp l10 [[(.str s12),(.int .i64 n20),(.int .i64 n21),(.str s22),(.int .i64 n23),(.sl 1 l24),(.sl 6 l25)]]))])
       else
        none
   else
    none
  ) [(.str s_),(.sl 4 l3),(.int .i64 0),(.sl 7 [])]
theorem g7_eq (A:Sy)(E:Env)(s_:ByteArray):(funT A Tryz.prog cs 7 [.d (.str s_)]).run E=g7 A E s_:=by kernel_rfl
def g19 (A:Sy)(E:Env)(l_:List (List D))(path_:ByteArray):Option PRes:=
 E.lp (fun ds1=>
  (opL (A.cell ds1 0) 7).bind fun l2=>
  (opS (A.cell ds1 1)).bind fun s3=>
  (opI (A.cell ds1 2) .i64).bind fun n4=>
  bif (A.ilt n4 (A.rlen l2))then
   bif (A.inr n4 (A.rlen l2))then
    (opS (A.cell (A.row l2 n4) 0)).bind fun s5=>
    bif (A.seq s5 s3)then
     some (.inr (.val [(.bool true)]))
    else
     some (.inl [(.sl 7 l2),(.str s3),(.int .i64 (A.wrap .i64 (A.add n4 1)))])
   else
    none
  else
   some (.inr (.val [(.bool false)]))
 ) [(.sl 7 l_),(.str path_),(.int .i64 0)]
def g9 (A:Sy)(E:Env)(a_:List (List D))(b_:List (List D)):Option PRes:=
 bif (A.bnot (A.ieq (A.rlen a_) (A.rlen b_)))then
  some (.val [(.bool false)])
 else
  E.lp (fun ds1=>
   (opL (A.cell ds1 0) 7).bind fun l2=>
   (opL (A.cell ds1 1) 7).bind fun l3=>
   (opI (A.cell ds1 2) .i64).bind fun n4=>
   bif (A.ilt n4 (A.rlen l2))then
    bif (A.inr n4 (A.rlen l2))then
     (opS (A.cell (A.row l2 n4) 0)).bind fun s5=>
     bif (A.inr n4 (A.rlen l3))then
      (opS (A.cell (A.row l3 n4) 0)).bind fun s6=>
      bif (A.bnot (A.seq s5 s6))then
       some (.inr (.val [(.bool false)]))
      else
       bif (A.inr n4 (A.rlen l2))then
        oE A (A.skip 1 (A.row l2 n4)) 0 fun n7 n8 s9 n10 l11 l12=>
        bif (A.inr n4 (A.rlen l3))then
         oE A (A.skip 1 (A.row l3 n4)) 0 fun n13 n14 s15 n16 l17 l18=>
         (E.call 22 [(kE n7 n8 s9 n10 l11 l12),(kE n13 n14 s15 n16 l17 l18)]).bind fun p19=>
         (opB (A.cell p19.leaves 0)).bind fun b21=>
         bif (A.bnot b21)then
          some (.inr (.val [(.bool false)]))
         else
          some (.inl [(.sl 7 l2),(.sl 7 l3),(.int .i64 (A.wrap .i64 (A.add n4 1)))])
        else
         none
       else
        none
     else
      none
    else
     none
   else
    some (.inr (.val [(.bool true)]))
  ) [(.sl 7 a_),(.sl 7 b_),(.int .i64 0)]
theorem g9_eq (A:Sy)(E:Env)(a_:List (List D))(b_:List (List D)):(funT A Tryz.prog cs 9 [.d (.sl 7 a_),V.d (.sl 7 b_)]).run E=g9 A E a_ b_:=by kernel_rfl
def g3 (A:Sy)(E:Env)(s_:ByteArray):Option PRes:=
 bif (A.ilt 1500 (A.slen s_))then
  (E.call 6 []).bind fun p1=>
  (opB (A.cell p1.leaves 0)).bind fun b3=>
  some (.val [(.bool b3)])
 else
  (E.call 7 [(.d (.str s_))]).bind fun p4=>
  (opL (A.cell p4.leaves 0) 7).bind fun l6=>
  (opI (A.cell p4.leaves 1) .i64).bind fun n7=>
  (opI (A.cell p4.leaves 2) .i64).bind fun n8=>
  (E.call 8 [(.d (.str s_))]).bind fun p9=>
  (opL (A.cell p9.leaves 0) 7).bind fun l11=>
  (opI (A.cell p9.leaves 1) .i64).bind fun n12=>
  (opI (A.cell p9.leaves 2) .i64).bind fun n13=>
  (E.call 9 [(.d (.sl 7 l6)),(.d (.sl 7 l11))]).bind fun p14=>
  (opB (A.cell p14.leaves 0)).bind fun b16=>
  cutO (
   bif b16 then
    some (.inl [(.bool (A.ieq n7 n12))])
   else
    some (.inl [(.bool false)])
  ) fun ds17=>
  (opB (A.cell ds17 0)).bind fun b18=>
  cutO (
   bif b18 then
    (E.call 10 [(.d (.int .i64 n8))]).bind fun p19=>
    (opI (A.cell p19.leaves 0) .i64).bind fun n21=>
    some (.inl [(.bool (A.ieq n21 n13))])
   else
    some (.inl [(.bool false)])
  ) fun ds22=>
  (opB (A.cell ds22 0)).bind fun b23=>
  cutO (
   bif b23 then
    (E.call 6 []).bind fun p24=>
    (opB (A.cell p24.leaves 0)).bind fun b26=>
    some (.inl [(.bool b26)])
   else
    some (.inl [(.bool false)])
  ) fun ds27=>
  (opB (A.cell ds27 0)).bind fun b28=>
  some (.val [(.bool b28)])
def g6 (A:Sy)(E:Env):Option PRes:=
 (E.call 7 [(.d (.str (bs [39,97,47,110,39,32,58,61,32,39,110,39,32,43,32,49,59])))]).bind fun p1=>
 (opL (A.cell p1.leaves 0) 7).bind fun l3=>
 (opI (A.cell p1.leaves 1) .i64).bind fun n4=>
 (opI (A.cell p1.leaves 2) .i64).bind fun n5=>
 (E.call 10 [(.d (.int .i64 n5))]).bind fun p6=>
 (opI (A.cell p6.leaves 0) .i64).bind fun n8=>
 cutO (
  bif (A.ieq n8 0)then
   some (.inl [(.bool (A.ieq n4 17))])
  else
   some (.inl [(.bool false)])
 ) fun ds9=>
 (opB (A.cell ds9 0)).bind fun b10=>
 cutO (
  bif b10 then
   some (.inl [(.bool (A.ieq (A.rlen l3) 1))])
  else
   some (.inl [(.bool false)])
 ) fun ds11=>
 (opB (A.cell ds11 0)).bind fun b12=>
 cutO (
  bif b12 then
   bif (A.inr 0 (A.rlen l3))then
    (opS (A.cell (A.row l3 0) 0)).bind fun s13=>
    some (.inl [(.bool (A.seq s13 (bs [97,47,110])))])
   else
    none
  else
   some (.inl [(.bool false)])
 ) fun ds14=>
 (opB (A.cell ds14 0)).bind fun b15=>
 some (.val [(.bool b15)])
theorem g6_eq (A:Sy)(E:Env):(funT A Tryz.prog cs 6 []).run E=g6 A E:=by kernel_rfl
def g10 (A:Sy)(E:Env)(e_:Int):Option PRes:=
 some (.val [(.int .i64 e_)])
theorem g10_eq (A:Sy)(E:Env)(e_:Int):(funT A Tryz.prog cs 10 [.d (.int .i64 e_)]).run E=g10 A E e_:=by kernel_rfl
end
end Go.Vm
end

section
set_option maxRecDepth 1000000
set_option maxHeartbeats 0
namespace Go.Vm
open Go.Proofs
end Go.Vm
end

section
set_option maxRecDepth 1000000
set_option maxHeartbeats 0
namespace Go.Vm
open Go.Proofs
noncomputable section
def b167 (A:Sy)(E:Env)(toks:List (List D))(at_:Int)(s_:ByteArray):Option PRes:=
 bif (A.inr at_ (A.rlen toks))then
  oT A (A.row toks at_) 0 fun n1 s2 n3 n4=>
  cutO (
   bif (A.seq s2 s_)then
    bif (A.ieq n1 1)then
     some (.inl [(.bool true)])
    else
     some (.inl [(.bool (A.ieq n1 5))])
   else
    some (.inl [(.bool false)])
  ) fun ds5=>
  (opB (A.cell ds5 0)).bind fun b6=>
  bif (A.bnot b6)then
   some (.val [(.bool false),(.sl 4 toks),(.int .i64 at_)])
  else
   some (.val [(.bool true),(.sl 4 toks),(.int .i64 (A.wrap .i64 (A.add at_ 1)))])
 else
  none
theorem b167_eq (A:Sy)(E:Env)(toks:List (List D))(at_:Int)(s_:ByteArray):(funB A Tryz.prog cs 167 0 [.ptr 0 0, .d (.str s_)] [.cells (.ty 135) [.d (.sl 4 toks), .d (.int .i64 at_)]]).run E=b167 A E toks at_ s_:=by kernel_rfl
def b241 (A:Sy)(E:Env)(toks:List (List D))(at_:Int):Option PRes:=
 bif (A.inr at_ (A.rlen toks))then
  oT A (A.row toks at_) 0 fun n1 s2 n3 n4=>
  bif (A.ieq n1 2)then
   some (.val [(.bool true),(.sl 4 toks),(.int .i64 at_)])
  else
   bif (A.inr at_ (A.rlen toks))then
    oT A (A.row toks at_) 0 fun n5 s6 n7 n8=>
    cutO (
     bif (A.seq s6 (bs [116,114,117,101]))then
      bif (A.ieq n5 1)then
       some (.inl [(.bool true)])
      else
       some (.inl [(.bool (A.ieq n5 5))])
     else
      some (.inl [(.bool false)])
    ) fun ds9=>
    (opB (A.cell ds9 0)).bind fun b10=>
    bif b10 then
     some (.val [(.bool true),(.sl 4 toks),(.int .i64 at_)])
    else
     bif (A.inr at_ (A.rlen toks))then
      oT A (A.row toks at_) 0 fun n11 s12 n13 n14=>
      cutO (
       bif (A.seq s12 (bs [102,97,108,115,101]))then
        bif (A.ieq n11 1)then
         some (.inl [(.bool true)])
        else
         some (.inl [(.bool (A.ieq n11 5))])
       else
        some (.inl [(.bool false)])
      ) fun ds15=>
      (opB (A.cell ds15 0)).bind fun b16=>
      some (.val [(.bool b16),(.sl 4 toks),(.int .i64 at_)])
     else
      none
   else
    none
 else
  none
theorem b241_eq (A:Sy)(E:Env)(toks:List (List D))(at_:Int):(funB A Tryz.prog cs 241 0 [.ptr 0 0] [.cells (.ty 135) [.d (.sl 4 toks), .d (.int .i64 at_)]]).run E=b241 A E toks at_:=by kernel_rfl
def b213 (A:Sy)(E:Env)(toks:List (List D))(at_:Int)(from_ to_:Int):Option PRes:=
 E.lp (fun ds1=>
  (opI (A.cell ds1 0) .i64).bind fun n2=>
  (opI (A.cell ds1 1) .i64).bind fun n3=>
  oP A ds1 2 fun l4 n5=>
  bif (A.ile n3 n2)then
   (E.call 106 [(.d (.int .i64 n3))]).bind fun p6=>
   (opS (A.cell p6.leaves 0)).bind fun s8=>
   (E.call 1000167 (kS 0 s8 l4 n5)).bind fun p9=>
   (opB (A.cell p9.leaves 0)).bind fun b11=>
   oP A p9.leaves 1 fun l12 n13=>
   bif b11 then
    some (.inr (.val [(.int .i64 n3),(.bool true),(.sl 4 l12),(.int .i64 n13)]))
   else
    some (.inl [(.int .i64 n2),(.int .i64 (A.wrap .i64 (A.add n3 1))),(.sl 4 l12),(.int .i64 n13)])
  else
   some (.inr (.val [(.int .i64 0),(.bool false),(.sl 4 l4),(.int .i64 n5)]))
 ) [(.int .i64 to_),(.int .i64 from_),(.sl 4 toks),(.int .i64 at_)]
theorem b213_eq (A:Sy)(E:Env)(toks:List (List D))(at_:Int)(from_ to_:Int):(funB A Tryz.prog cs 213 0 [.ptr 0 0, .d (.int .i64 from_), .d (.int .i64 to_)] [.cells (.ty 135) [.d (.sl 4 toks), .d (.int .i64 at_)]]).run E=b213 A E toks at_ from_ to_:=by kernel_rfl
def b131 (A:Sy)(E:Env)(toks:List (List D))(at_:Int):Option PRes:=
 (E.call 1000166 (kP 159 toks at_)).bind fun p1=>
 (opB (A.cell p1.leaves 0)).bind fun b3=>
 bif b3 then
  (opI (A.cell p1.leaves 1) .i64).bind fun n4=>
  oP A p1.leaves 2 fun l5 n6=>
  some (.val [(.bool true),(.int .i64 n4),(.sl 4 l5),(.int .i64 n6)])
 else
  oE A p1.leaves 1 fun n7 n8 s9 n10 l11 l12=>
  oP A p1.leaves 7 fun l13 n14=>
  (E.call 1000167 (kS 0 (bs [45,62]) l13 n14)).bind fun p15=>
  (opB (A.cell p15.leaves 0)).bind fun b17=>
  oP A p15.leaves 1 fun l18 n19=>
  bif b17 then
   (E.call 1000131 (kP 159 l18 n19)).bind fun p20=>
   (opB (A.cell p20.leaves 0)).bind fun b22=>
   bif b22 then
    (opI (A.cell p20.leaves 1) .i64).bind fun n23=>
    oP A p20.leaves 2 fun l24 n25=>
    some (.val [(.bool true),(.int .i64 n23),(.sl 4 l24),(.int .i64 n25)])
   else
    oE A p20.leaves 1 fun n26 n27 s28 n29 l30 l31=>
    oP A p20.leaves 7 fun l32 n33=>
    some (.val [(.bool false),(.int .i64 9),(.int .i64 0),(.str (bs [])),(.int .i64 0),(.sl 1 []),(.sl 6 [[(.int .i64 n7),(.int .i64 n8),(.str s9),(.int .i64 n10),(.sl 1 l11),(.sl 6 l12)],[(.int .i64 n26),(.int .i64 n27),(.str s28),(.int .i64 n29),(.sl 1 l30),(.sl 6 l31)]]),(.sl 4 l32),(.int .i64 n33)])
  else
   some (.val [(.bool false),(.int .i64 n7),(.int .i64 n8),(.str s9),(.int .i64 n10),(.sl 1 l11),(.sl 6 l12),(.sl 4 l18),(.int .i64 n19)])
theorem b131_eq (A:Sy)(E:Env)(toks:List (List D))(at_:Int):(funB A Tryz.prog cs 131 159 [.ptr 0 0] [.cells (.ty 135) [.d (.sl 4 toks), .d (.int .i64 at_)]]).run E=b131 A E toks at_:=by kernel_rfl
def b237 (A:Sy)(E:Env)(toks:List (List D))(at_:Int):Option PRes:=
 (E.call 1000167 (kS 0 (bs [110,111,116]) toks at_)).bind fun p1=>
 (opB (A.cell p1.leaves 0)).bind fun b3=>
 oP A p1.leaves 1 fun l4 n5=>
 bif b3 then
  (E.call 1000240 (kP 159 l4 n5)).bind fun p6=>
  (opB (A.cell p6.leaves 0)).bind fun b8=>
  bif b8 then
   (opI (A.cell p6.leaves 1) .i64).bind fun n9=>
   oP A p6.leaves 2 fun l10 n11=>
   some (.val [(.bool true),(.int .i64 n9),(.sl 4 l10),(.int .i64 n11)])
  else
   (opS (A.cell p6.leaves 1)).bind fun s12=>
   oP A p6.leaves 2 fun l13 n14=>
   some (.val [(.bool false),(.str s12),(.str (bs [102,97,108,115,101])),(.sl 4 l13),(.int .i64 n14)])
 else
  (E.call 1000241 (kP 0 l4 n5)).bind fun p15=>
  (opB (A.cell p15.leaves 0)).bind fun b17=>
  oP A p15.leaves 1 fun l18 n19=>
  bif (A.bnot b17)then
   (E.call 1000240 (kP 159 l18 n19)).bind fun p20=>
   (opB (A.cell p20.leaves 0)).bind fun b22=>
   bif b22 then
    (opI (A.cell p20.leaves 1) .i64).bind fun n23=>
    oP A p20.leaves 2 fun l24 n25=>
    some (.val [(.bool true),(.int .i64 n23),(.sl 4 l24),(.int .i64 n25)])
   else
    (opS (A.cell p20.leaves 1)).bind fun s26=>
    oP A p20.leaves 2 fun l27 n28=>
    some (.val [(.bool false),(.str s26),(.str (bs [116,114,117,101])),(.sl 4 l27),(.int .i64 n28)])
  else
   (E.call 1000242 (kP 159 l18 n19)).bind fun p29=>
   (opB (A.cell p29.leaves 0)).bind fun b31=>
   bif b31 then
    (opI (A.cell p29.leaves 1) .i64).bind fun n32=>
    oP A p29.leaves 2 fun l33 n34=>
    some (.val [(.bool true),(.int .i64 n32),(.sl 4 l33),(.int .i64 n34)])
   else
    (opS (A.cell p29.leaves 1)).bind fun s35=>
    oP A p29.leaves 2 fun l36 n37=>
    (E.call 1000236 (kN [[(.str (bs [40]))]] l36 n37)).bind fun p38=>
    (opB (A.cell p38.leaves 0)).bind fun b40=>
    bif b40 then
     (opI (A.cell p38.leaves 1) .i64).bind fun n41=>
     oP A p38.leaves 2 fun l42 n43=>
     (opL (A.cell p38.leaves 4) 1).bind fun l44=>
     some (.val [(.bool true),(.int .i64 n41),(.sl 4 l42),(.int .i64 n43)])
    else
     oP A p38.leaves 1 fun l45 n46=>
     (opL (A.cell p38.leaves 3) 1).bind fun l47=>
     (E.call 1000240 (kP 159 l45 n46)).bind fun p48=>
     (opB (A.cell p48.leaves 0)).bind fun b50=>
     bif b50 then
      (opI (A.cell p48.leaves 1) .i64).bind fun n51=>
      oP A p48.leaves 2 fun l52 n53=>
      some (.val [(.bool true),(.int .i64 n51),(.sl 4 l52),(.int .i64 n53)])
     else
      (opS (A.cell p48.leaves 1)).bind fun s54=>
      oP A p48.leaves 2 fun l55 n56=>
      (E.call 1000236 (kN [[(.str (bs [41]))]] l55 n56)).bind fun p57=>
      (opB (A.cell p57.leaves 0)).bind fun b59=>
      bif b59 then
       (opI (A.cell p57.leaves 1) .i64).bind fun n60=>
       oP A p57.leaves 2 fun l61 n62=>
       (opL (A.cell p57.leaves 4) 1).bind fun l63=>
       some (.val [(.bool true),(.int .i64 n60),(.sl 4 l61),(.int .i64 n62)])
      else
       oP A p57.leaves 1 fun l64 n65=>
       (opL (A.cell p57.leaves 3) 1).bind fun l66=>
       some (.val [(.bool false),(.str s54),(.str s35),(.sl 4 l64),(.int .i64 n65)])
theorem b237_eq (A:Sy)(E:Env)(toks:List (List D))(at_:Int):(funB A Tryz.prog cs 237 159 [.ptr 0 0] [.cells (.ty 135) [.d (.sl 4 toks), .d (.int .i64 at_)]]).run E=b237 A E toks at_:=by kernel_rfl
def b166 (A:Sy)(E:Env)(toks:List (List D))(at_:Int):Option PRes:=
 (E.call 1000187 (kP 159 toks at_)).bind fun p1=>
 (opB (A.cell p1.leaves 0)).bind fun b3=>
 bif b3 then
  (opI (A.cell p1.leaves 1) .i64).bind fun n4=>
  oP A p1.leaves 2 fun l5 n6=>
  some (.val [(.bool true),(.int .i64 n4),(.sl 4 l5),(.int .i64 n6)])
 else
  oE A p1.leaves 1 fun n7 n8 s9 n10 l11 l12=>
  oP A p1.leaves 7 fun l13 n14=>
  (E.call 1000167 (kS 0 (bs [102,98,121]) l13 n14)).bind fun p15=>
  (opB (A.cell p15.leaves 0)).bind fun b17=>
  oP A p15.leaves 1 fun l18 n19=>
  bif b17 then
   (E.call 1000166 (kP 159 l18 n19)).bind fun p20=>
   (opB (A.cell p20.leaves 0)).bind fun b22=>
   bif b22 then
    (opI (A.cell p20.leaves 1) .i64).bind fun n23=>
    oP A p20.leaves 2 fun l24 n25=>
    some (.val [(.bool true),(.int .i64 n23),(.sl 4 l24),(.int .i64 n25)])
   else
    oE A p20.leaves 1 fun n26 n27 s28 n29 l30 l31=>
    oP A p20.leaves 7 fun l32 n33=>
    some (.val [(.bool false),(.int .i64 8),(.int .i64 0),(.str (bs [])),(.int .i64 0),(.sl 1 []),(.sl 6 [[(.int .i64 n7),(.int .i64 n8),(.str s9),(.int .i64 n10),(.sl 1 l11),(.sl 6 l12)],[(.int .i64 n26),(.int .i64 n27),(.str s28),(.int .i64 n29),(.sl 1 l30),(.sl 6 l31)]]),(.sl 4 l32),(.int .i64 n33)])
  else
   some (.val [(.bool false),(.int .i64 n7),(.int .i64 n8),(.str s9),(.int .i64 n10),(.sl 1 l11),(.sl 6 l12),(.sl 4 l18),(.int .i64 n19)])
theorem b166_eq (A:Sy)(E:Env)(toks:List (List D))(at_:Int):(funB A Tryz.prog cs 166 159 [.ptr 0 0] [.cells (.ty 135) [.d (.sl 4 toks), .d (.int .i64 at_)]]).run E=b166 A E toks at_:=by kernel_rfl
def b240 (A:Sy)(E:Env)(toks:List (List D))(at_:Int):Option PRes:=
 bif (A.inr at_ (A.rlen toks))then
  oT A (A.row toks at_) 0 fun n1 s2 n3 n4=>
  cutO (
   bif (A.bnot (A.ieq n1 1))then
    some (.inl [(.bool true)])
   else
    (E.call 125 [(.d (.str s2))]).bind fun p5=>
    (opB (A.cell p5.leaves 0)).bind fun b7=>
    some (.inl [(.bool b7)])
  ) fun ds8=>
  (opB (A.cell ds8 0)).bind fun b9=>
  bif b9 then
   some (.val [(.bool true),(.int .i64 at_),(.sl 4 toks),(.int .i64 at_)])
  else
   some (.val [(.bool false),(.str s2),(.sl 4 toks),(.int .i64 (A.wrap .i64 (A.add at_ 1)))])
 else
  none
theorem b240_eq (A:Sy)(E:Env)(toks:List (List D))(at_:Int):(funB A Tryz.prog cs 240 159 [.ptr 0 0] [.cells (.ty 135) [.d (.sl 4 toks), .d (.int .i64 at_)]]).run E=b240 A E toks at_:=by kernel_rfl
def b242 (A:Sy)(E:Env)(toks:List (List D))(at_:Int):Option PRes:=
 (E.call 1000241 (kP 0 toks at_)).bind fun p1=>
 (opB (A.cell p1.leaves 0)).bind fun b3=>
 oP A p1.leaves 1 fun l4 n5=>
 bif (A.bnot b3)then
  some (.val [(.bool true),(.int .i64 n5),(.sl 4 l4),(.int .i64 n5)])
 else
  bif (A.inr n5 (A.rlen l4))then
   oT A (A.row l4 n5) 0 fun n6 s7 n8 n9=>
   some (.val [(.bool false),(.str s7),(.sl 4 l4),(.int .i64 (A.wrap .i64 (A.add n5 1)))])
  else
   none
theorem b242_eq (A:Sy)(E:Env)(toks:List (List D))(at_:Int):(funB A Tryz.prog cs 242 159 [.ptr 0 0] [.cells (.ty 135) [.d (.sl 4 toks), .d (.int .i64 at_)]]).run E=b242 A E toks at_:=by kernel_rfl
def b187 (A:Sy)(E:Env)(toks:List (List D))(at_:Int):Option PRes:=
 (E.call 1000204 (kP 159 toks at_)).bind fun p1=>
 (opB (A.cell p1.leaves 0)).bind fun b3=>
 bif b3 then
  (opI (A.cell p1.leaves 1) .i64).bind fun n4=>
  oP A p1.leaves 2 fun l5 n6=>
  some (.val [(.bool true),(.int .i64 n4),(.sl 4 l5),(.int .i64 n6)])
 else
  oE A p1.leaves 1 fun n7 n8 s9 n10 l11 l12=>
  oP A p1.leaves 7 fun l13 n14=>
  E.lp (fun ds15=>
   (opI (A.cell ds15 0) .i64).bind fun n16=>
   (opI (A.cell ds15 1) .i64).bind fun n17=>
   oP A ds15 2 fun l18 n19=>
   (opI (A.cell ds15 4) .i64).bind fun n20=>
   oT A ds15 5 fun n21 s22 n23 n24=>
   oT A ds15 9 fun n25 s26 n27 n28=>
   (opI (A.cell ds15 13) .i64).bind fun n29=>
   (opS (A.cell ds15 14)).bind fun s30=>
   (opI (A.cell ds15 15) .i64).bind fun n31=>
   (opL (A.cell ds15 16) 1).bind fun l32=>
   (opL (A.cell ds15 17) 6).bind fun l33=>
   (E.call 1000213 (kO n16 n17 l18 n19)).bind fun p34=>
   (opI (A.cell p34.leaves 0) .i64).bind fun n36=>
   (opB (A.cell p34.leaves 1)).bind fun b37=>
   oP A p34.leaves 2 fun l38 n39=>
   bif (A.bnot b37)then
    some (.inr (.val [(.bool false),(.int .i64 n28),(.int .i64 n29),(.str s30),(.int .i64 n31),(.sl 1 l32),(.sl 6 l33),(.sl 4 l38),(.int .i64 n39)]))
   else
    (E.call 1000204 (kP 159 l38 n39)).bind fun p40=>
    (opB (A.cell p40.leaves 0)).bind fun b42=>
    bif b42 then
     (opI (A.cell p40.leaves 1) .i64).bind fun n43=>
     oP A p40.leaves 2 fun l44 n45=>
     some (.inr (.val [(.bool true),(.int .i64 n43),(.sl 4 l44),(.int .i64 n45)]))
    else
     oE A p40.leaves 1 fun n46 n47 s48 n49 l50 l51=>
     oP A p40.leaves 7 fun l52 n53=>
     (E.call 214 [(.d (.int .i64 n36)),(kE n28 n29 s30 n31 l32 l33),(kE n46 n47 s48 n49 l50 l51)]).bind fun p54=>
     oE A p54.leaves 0 fun n56 n57 s58 n59 l60 l61=>
     some (.inl [(.int .i64 n16),(.int .i64 n17),(.sl 4 l52),(.int .i64 n53),(.int .i64 n20),(.int .i64 n21),(.str s22),(.int .i64 n23),(.int .i64 n24),(.int .i64 n25),(.str s26),(.int .i64 n27),(.int .i64 n56),(.int .i64 n57),(.str s58),(.int .i64 n59),(.sl 1 l60),(.sl 6 l61)])
  ) [(.int .i64 9),(.int .i64 10),(.sl 4 l13),(.int .i64 n14),(.int .i64 0),(.int .i64 0),(.str (bs [])),(.int .i64 0),(.int .i64 0),(.int .i64 0),(.str (bs [])),(.int .i64 0),(.int .i64 n7),(.int .i64 n8),(.str s9),(.int .i64 n10),(.sl 1 l11),(.sl 6 l12)]
theorem b187_eq (A:Sy)(E:Env)(toks:List (List D))(at_:Int):(funB A Tryz.prog cs 187 159 [.ptr 0 0] [.cells (.ty 135) [.d (.sl 4 toks), .d (.int .i64 at_)]]).run E=b187 A E toks at_:=by kernel_rfl
def b204 (A:Sy)(E:Env)(toks:List (List D))(at_:Int):Option PRes:=
 (E.call 1000215 (kP 159 toks at_)).bind fun p1=>
 (opB (A.cell p1.leaves 0)).bind fun b3=>
 bif b3 then
  (opI (A.cell p1.leaves 1) .i64).bind fun n4=>
  oP A p1.leaves 2 fun l5 n6=>
  some (.val [(.bool true),(.int .i64 n4),(.sl 4 l5),(.int .i64 n6)])
 else
  oE A p1.leaves 1 fun n7 n8 s9 n10 l11 l12=>
  oP A p1.leaves 7 fun l13 n14=>
  E.lp (fun ds15=>
   (opI (A.cell ds15 0) .i64).bind fun n16=>
   (opI (A.cell ds15 1) .i64).bind fun n17=>
   oP A ds15 2 fun l18 n19=>
   (opI (A.cell ds15 4) .i64).bind fun n20=>
   oT A ds15 5 fun n21 s22 n23 n24=>
   oT A ds15 9 fun n25 s26 n27 n28=>
   (opI (A.cell ds15 13) .i64).bind fun n29=>
   (opS (A.cell ds15 14)).bind fun s30=>
   (opI (A.cell ds15 15) .i64).bind fun n31=>
   (opL (A.cell ds15 16) 1).bind fun l32=>
   (opL (A.cell ds15 17) 6).bind fun l33=>
   (E.call 1000213 (kO n16 n17 l18 n19)).bind fun p34=>
   (opI (A.cell p34.leaves 0) .i64).bind fun n36=>
   (opB (A.cell p34.leaves 1)).bind fun b37=>
   oP A p34.leaves 2 fun l38 n39=>
   bif (A.bnot b37)then
    some (.inr (.val [(.bool false),(.int .i64 n28),(.int .i64 n29),(.str s30),(.int .i64 n31),(.sl 1 l32),(.sl 6 l33),(.sl 4 l38),(.int .i64 n39)]))
   else
    (E.call 1000215 (kP 159 l38 n39)).bind fun p40=>
    (opB (A.cell p40.leaves 0)).bind fun b42=>
    bif b42 then
     (opI (A.cell p40.leaves 1) .i64).bind fun n43=>
     oP A p40.leaves 2 fun l44 n45=>
     some (.inr (.val [(.bool true),(.int .i64 n43),(.sl 4 l44),(.int .i64 n45)]))
    else
     oE A p40.leaves 1 fun n46 n47 s48 n49 l50 l51=>
     oP A p40.leaves 7 fun l52 n53=>
     (E.call 214 [(.d (.int .i64 n36)),(kE n28 n29 s30 n31 l32 l33),(kE n46 n47 s48 n49 l50 l51)]).bind fun p54=>
     oE A p54.leaves 0 fun n56 n57 s58 n59 l60 l61=>
     some (.inl [(.int .i64 n16),(.int .i64 n17),(.sl 4 l52),(.int .i64 n53),(.int .i64 n20),(.int .i64 n21),(.str s22),(.int .i64 n23),(.int .i64 n24),(.int .i64 n25),(.str s26),(.int .i64 n27),(.int .i64 n56),(.int .i64 n57),(.str s58),(.int .i64 n59),(.sl 1 l60),(.sl 6 l61)])
  ) [(.int .i64 8),(.int .i64 8),(.sl 4 l13),(.int .i64 n14),(.int .i64 0),(.int .i64 0),(.str (bs [])),(.int .i64 0),(.int .i64 0),(.int .i64 0),(.str (bs [])),(.int .i64 0),(.int .i64 n7),(.int .i64 n8),(.str s9),(.int .i64 n10),(.sl 1 l11),(.sl 6 l12)]
theorem b204_eq (A:Sy)(E:Env)(toks:List (List D))(at_:Int):(funB A Tryz.prog cs 204 159 [.ptr 0 0] [.cells (.ty 135) [.d (.sl 4 toks), .d (.int .i64 at_)]]).run E=b204 A E toks at_:=by kernel_rfl
def b215 (A:Sy)(E:Env)(toks:List (List D))(at_:Int):Option PRes:=
 (E.call 1000219 (kP 159 toks at_)).bind fun p1=>
 (opB (A.cell p1.leaves 0)).bind fun b3=>
 bif b3 then
  (opI (A.cell p1.leaves 1) .i64).bind fun n4=>
  oP A p1.leaves 2 fun l5 n6=>
  some (.val [(.bool true),(.int .i64 n4),(.sl 4 l5),(.int .i64 n6)])
 else
  oE A p1.leaves 1 fun n7 n8 s9 n10 l11 l12=>
  oP A p1.leaves 7 fun l13 n14=>
  (E.call 1000213 (kO 11 16 l13 n14)).bind fun p15=>
  (opI (A.cell p15.leaves 0) .i64).bind fun n17=>
  (opB (A.cell p15.leaves 1)).bind fun b18=>
  oP A p15.leaves 2 fun l19 n20=>
  bif b18 then
   (E.call 1000219 (kP 159 l19 n20)).bind fun p21=>
   (opB (A.cell p21.leaves 0)).bind fun b23=>
   bif b23 then
    (opI (A.cell p21.leaves 1) .i64).bind fun n24=>
    oP A p21.leaves 2 fun l25 n26=>
    some (.val [(.bool true),(.int .i64 n24),(.sl 4 l25),(.int .i64 n26)])
   else
    oE A p21.leaves 1 fun n27 n28 s29 n30 l31 l32=>
    oP A p21.leaves 7 fun l33 n34=>
    (E.call 214 [(.d (.int .i64 n17)),(kE n7 n8 s9 n10 l11 l12),(kE n27 n28 s29 n30 l31 l32)]).bind fun p35=>
    oE A p35.leaves 0 fun n37 n38 s39 n40 l41 l42=>
    some (.val [(.bool false),(.int .i64 n37),(.int .i64 n38),(.str s39),(.int .i64 n40),(.sl 1 l41),(.sl 6 l42),(.sl 4 l33),(.int .i64 n34)])
  else
   some (.val [(.bool false),(.int .i64 n7),(.int .i64 n8),(.str s9),(.int .i64 n10),(.sl 1 l11),(.sl 6 l12),(.sl 4 l19),(.int .i64 n20)])
theorem b215_eq (A:Sy)(E:Env)(toks:List (List D))(at_:Int):(funB A Tryz.prog cs 215 159 [.ptr 0 0] [.cells (.ty 135) [.d (.sl 4 toks), .d (.int .i64 at_)]]).run E=b215 A E toks at_:=by kernel_rfl
def b219 (A:Sy)(E:Env)(toks:List (List D))(at_:Int):Option PRes:=
 (E.call 1000221 (kP 159 toks at_)).bind fun p1=>
 (opB (A.cell p1.leaves 0)).bind fun b3=>
 bif b3 then
  (opI (A.cell p1.leaves 1) .i64).bind fun n4=>
  oP A p1.leaves 2 fun l5 n6=>
  some (.val [(.bool true),(.int .i64 n4),(.sl 4 l5),(.int .i64 n6)])
 else
  oE A p1.leaves 1 fun n7 n8 s9 n10 l11 l12=>
  oP A p1.leaves 7 fun l13 n14=>
  E.lp (fun ds15=>
   (opI (A.cell ds15 0) .i64).bind fun n16=>
   (opI (A.cell ds15 1) .i64).bind fun n17=>
   oP A ds15 2 fun l18 n19=>
   (opI (A.cell ds15 4) .i64).bind fun n20=>
   oT A ds15 5 fun n21 s22 n23 n24=>
   oT A ds15 9 fun n25 s26 n27 n28=>
   (opI (A.cell ds15 13) .i64).bind fun n29=>
   (opS (A.cell ds15 14)).bind fun s30=>
   (opI (A.cell ds15 15) .i64).bind fun n31=>
   (opL (A.cell ds15 16) 1).bind fun l32=>
   (opL (A.cell ds15 17) 6).bind fun l33=>
   (E.call 1000213 (kO n16 n17 l18 n19)).bind fun p34=>
   (opI (A.cell p34.leaves 0) .i64).bind fun n36=>
   (opB (A.cell p34.leaves 1)).bind fun b37=>
   oP A p34.leaves 2 fun l38 n39=>
   bif (A.bnot b37)then
    some (.inr (.val [(.bool false),(.int .i64 n28),(.int .i64 n29),(.str s30),(.int .i64 n31),(.sl 1 l32),(.sl 6 l33),(.sl 4 l38),(.int .i64 n39)]))
   else
    (E.call 1000221 (kP 159 l38 n39)).bind fun p40=>
    (opB (A.cell p40.leaves 0)).bind fun b42=>
    bif b42 then
     (opI (A.cell p40.leaves 1) .i64).bind fun n43=>
     oP A p40.leaves 2 fun l44 n45=>
     some (.inr (.val [(.bool true),(.int .i64 n43),(.sl 4 l44),(.int .i64 n45)]))
    else
     oE A p40.leaves 1 fun n46 n47 s48 n49 l50 l51=>
     oP A p40.leaves 7 fun l52 n53=>
     (E.call 214 [(.d (.int .i64 n36)),(kE n28 n29 s30 n31 l32 l33),(kE n46 n47 s48 n49 l50 l51)]).bind fun p54=>
     oE A p54.leaves 0 fun n56 n57 s58 n59 l60 l61=>
     some (.inl [(.int .i64 n16),(.int .i64 n17),(.sl 4 l52),(.int .i64 n53),(.int .i64 n20),(.int .i64 n21),(.str s22),(.int .i64 n23),(.int .i64 n24),(.int .i64 n25),(.str s26),(.int .i64 n27),(.int .i64 n56),(.int .i64 n57),(.str s58),(.int .i64 n59),(.sl 1 l60),(.sl 6 l61)])
  ) [(.int .i64 3),(.int .i64 4),(.sl 4 l13),(.int .i64 n14),(.int .i64 0),(.int .i64 0),(.str (bs [])),(.int .i64 0),(.int .i64 0),(.int .i64 0),(.str (bs [])),(.int .i64 0),(.int .i64 n7),(.int .i64 n8),(.str s9),(.int .i64 n10),(.sl 1 l11),(.sl 6 l12)]
theorem b219_eq (A:Sy)(E:Env)(toks:List (List D))(at_:Int):(funB A Tryz.prog cs 219 159 [.ptr 0 0] [.cells (.ty 135) [.d (.sl 4 toks), .d (.int .i64 at_)]]).run E=b219 A E toks at_:=by kernel_rfl
def b221 (A:Sy)(E:Env)(toks:List (List D))(at_:Int):Option PRes:=
 (E.call 1000223 (kP 159 toks at_)).bind fun p1=>
 (opB (A.cell p1.leaves 0)).bind fun b3=>
 bif b3 then
  (opI (A.cell p1.leaves 1) .i64).bind fun n4=>
  oP A p1.leaves 2 fun l5 n6=>
  some (.val [(.bool true),(.int .i64 n4),(.sl 4 l5),(.int .i64 n6)])
 else
  oE A p1.leaves 1 fun n7 n8 s9 n10 l11 l12=>
  oP A p1.leaves 7 fun l13 n14=>
  E.lp (fun ds15=>
   (opI (A.cell ds15 0) .i64).bind fun n16=>
   (opI (A.cell ds15 1) .i64).bind fun n17=>
   oP A ds15 2 fun l18 n19=>
   (opI (A.cell ds15 4) .i64).bind fun n20=>
   oT A ds15 5 fun n21 s22 n23 n24=>
   oT A ds15 9 fun n25 s26 n27 n28=>
   (opI (A.cell ds15 13) .i64).bind fun n29=>
   (opS (A.cell ds15 14)).bind fun s30=>
   (opI (A.cell ds15 15) .i64).bind fun n31=>
   (opL (A.cell ds15 16) 1).bind fun l32=>
   (opL (A.cell ds15 17) 6).bind fun l33=>
   (E.call 1000213 (kO n16 n17 l18 n19)).bind fun p34=>
   (opI (A.cell p34.leaves 0) .i64).bind fun n36=>
   (opB (A.cell p34.leaves 1)).bind fun b37=>
   oP A p34.leaves 2 fun l38 n39=>
   bif (A.bnot b37)then
    some (.inr (.val [(.bool false),(.int .i64 n28),(.int .i64 n29),(.str s30),(.int .i64 n31),(.sl 1 l32),(.sl 6 l33),(.sl 4 l38),(.int .i64 n39)]))
   else
    (E.call 1000223 (kP 159 l38 n39)).bind fun p40=>
    (opB (A.cell p40.leaves 0)).bind fun b42=>
    bif b42 then
     (opI (A.cell p40.leaves 1) .i64).bind fun n43=>
     oP A p40.leaves 2 fun l44 n45=>
     some (.inr (.val [(.bool true),(.int .i64 n43),(.sl 4 l44),(.int .i64 n45)]))
    else
     oE A p40.leaves 1 fun n46 n47 s48 n49 l50 l51=>
     oP A p40.leaves 7 fun l52 n53=>
     (E.call 214 [(.d (.int .i64 n36)),(kE n28 n29 s30 n31 l32 l33),(kE n46 n47 s48 n49 l50 l51)]).bind fun p54=>
     oE A p54.leaves 0 fun n56 n57 s58 n59 l60 l61=>
     some (.inl [(.int .i64 n16),(.int .i64 n17),(.sl 4 l52),(.int .i64 n53),(.int .i64 n20),(.int .i64 n21),(.str s22),(.int .i64 n23),(.int .i64 n24),(.int .i64 n25),(.str s26),(.int .i64 n27),(.int .i64 n56),(.int .i64 n57),(.str s58),(.int .i64 n59),(.sl 1 l60),(.sl 6 l61)])
  ) [(.int .i64 5),(.int .i64 7),(.sl 4 l13),(.int .i64 n14),(.int .i64 0),(.int .i64 0),(.str (bs [])),(.int .i64 0),(.int .i64 0),(.int .i64 0),(.str (bs [])),(.int .i64 0),(.int .i64 n7),(.int .i64 n8),(.str s9),(.int .i64 n10),(.sl 1 l11),(.sl 6 l12)]
theorem b221_eq (A:Sy)(E:Env)(toks:List (List D))(at_:Int):(funB A Tryz.prog cs 221 159 [.ptr 0 0] [.cells (.ty 135) [.d (.sl 4 toks), .d (.int .i64 at_)]]).run E=b221 A E toks at_:=by kernel_rfl
def b223 (A:Sy)(E:Env)(toks:List (List D))(at_:Int):Option PRes:=
 (E.call 1000167 (kS 0 (bs [45]) toks at_)).bind fun p1=>
 (opB (A.cell p1.leaves 0)).bind fun b3=>
 oP A p1.leaves 1 fun l4 n5=>
 bif b3 then
  (E.call 1000223 (kP 159 l4 n5)).bind fun p6=>
  (opB (A.cell p6.leaves 0)).bind fun b8=>
  bif b8 then
   (opI (A.cell p6.leaves 1) .i64).bind fun n9=>
   oP A p6.leaves 2 fun l10 n11=>
   some (.val [(.bool true),(.int .i64 n9),(.sl 4 l10),(.int .i64 n11)])
  else
   oE A p6.leaves 1 fun n12 n13 s14 n15 l16 l17=>
   oP A p6.leaves 7 fun l18 n19=>
   some (.val [(.bool false),(.int .i64 5),(.int .i64 0),(.str (bs [])),(.int .i64 1),(.sl 1 []),(.sl 6 [[(.int .i64 n12),(.int .i64 n13),(.str s14),(.int .i64 n15),(.sl 1 l16),(.sl 6 l17)]]),(.sl 4 l18),(.int .i64 n19)])
 else
  (E.call 1000167 (kS 0 (bs [110,111,116]) l4 n5)).bind fun p20=>
  (opB (A.cell p20.leaves 0)).bind fun b22=>
  oP A p20.leaves 1 fun l23 n24=>
  bif b22 then
   (E.call 1000223 (kP 159 l23 n24)).bind fun p25=>
   (opB (A.cell p25.leaves 0)).bind fun b27=>
   bif b27 then
    (opI (A.cell p25.leaves 1) .i64).bind fun n28=>
    oP A p25.leaves 2 fun l29 n30=>
    some (.val [(.bool true),(.int .i64 n28),(.sl 4 l29),(.int .i64 n30)])
   else
    oE A p25.leaves 1 fun n31 n32 s33 n34 l35 l36=>
    oP A p25.leaves 7 fun l37 n38=>
    some (.val [(.bool false),(.int .i64 5),(.int .i64 0),(.str (bs [])),(.int .i64 2),(.sl 1 []),(.sl 6 [[(.int .i64 n31),(.int .i64 n32),(.str s33),(.int .i64 n34),(.sl 1 l35),(.sl 6 l36)]]),(.sl 4 l37),(.int .i64 n38)])
  else
   (E.call 1000167 (kS 0 (bs [112,114,101]) l23 n24)).bind fun p39=>
   (opB (A.cell p39.leaves 0)).bind fun b41=>
   oP A p39.leaves 1 fun l42 n43=>
   bif b41 then
    (E.call 1000223 (kP 159 l42 n43)).bind fun p44=>
    (opB (A.cell p44.leaves 0)).bind fun b46=>
    bif b46 then
     (opI (A.cell p44.leaves 1) .i64).bind fun n47=>
     oP A p44.leaves 2 fun l48 n49=>
     some (.val [(.bool true),(.int .i64 n47),(.sl 4 l48),(.int .i64 n49)])
    else
     oE A p44.leaves 1 fun n50 n51 s52 n53 l54 l55=>
     oP A p44.leaves 7 fun l56 n57=>
     some (.val [(.bool false),(.int .i64 10),(.int .i64 0),(.str (bs [])),(.int .i64 0),(.sl 1 []),(.sl 6 [[(.int .i64 n50),(.int .i64 n51),(.str s52),(.int .i64 n53),(.sl 1 l54),(.sl 6 l55)]]),(.sl 4 l56),(.int .i64 n57)])
   else
    (E.call 1000227 (kP 159 l42 n43)).bind fun p58=>
    (opB (A.cell p58.leaves 0)).bind fun b60=>
    bif b60 then
     (opI (A.cell p58.leaves 1) .i64).bind fun n61=>
     oP A p58.leaves 2 fun l62 n63=>
     some (.val [(.bool true),(.int .i64 n61),(.sl 4 l62),(.int .i64 n63)])
    else
     oE A p58.leaves 1 fun n64 n65 s66 n67 l68 l69=>
     oP A p58.leaves 7 fun l70 n71=>
     some (.val [(.bool false),(.int .i64 n64),(.int .i64 n65),(.str s66),(.int .i64 n67),(.sl 1 l68),(.sl 6 l69),(.sl 4 l70),(.int .i64 n71)])
theorem b223_eq (A:Sy)(E:Env)(toks:List (List D))(at_:Int):(funB A Tryz.prog cs 223 159 [.ptr 0 0] [.cells (.ty 135) [.d (.sl 4 toks), .d (.int .i64 at_)]]).run E=b223 A E toks at_:=by kernel_rfl
def b227 (A:Sy)(E:Env)(toks:List (List D))(at_:Int):Option PRes:=
 (E.call 1000235 (kP 159 toks at_)).bind fun p1=>
 (opB (A.cell p1.leaves 0)).bind fun b3=>
 bif b3 then
  (opI (A.cell p1.leaves 1) .i64).bind fun n4=>
  oP A p1.leaves 2 fun l5 n6=>
  some (.val [(.bool true),(.int .i64 n4),(.sl 4 l5),(.int .i64 n6)])
 else
  oE A p1.leaves 1 fun n7 n8 s9 n10 l11 l12=>
  oP A p1.leaves 7 fun l13 n14=>
  E.lp (fun ds15=>
   oP A ds15 0 fun l16 n17=>
   (opI (A.cell ds15 2) .i64).bind fun n18=>
   oT A ds15 3 fun n19 s20 n21 n22=>
   (opI (A.cell ds15 7) .i64).bind fun n23=>
   (opS (A.cell ds15 8)).bind fun s24=>
   (opI (A.cell ds15 9) .i64).bind fun n25=>
   (opL (A.cell ds15 10) 1).bind fun l26=>
   (opL (A.cell ds15 11) 6).bind fun l27=>
   (E.call 1000167 (kS 0 (bs [91]) l16 n17)).bind fun p28=>
   (opB (A.cell p28.leaves 0)).bind fun b30=>
   oP A p28.leaves 1 fun l31 n32=>
   bif b30 then
    (E.call 1000131 (kP 159 l31 n32)).bind fun p33=>
    (opB (A.cell p33.leaves 0)).bind fun b35=>
    bif b35 then
     (opI (A.cell p33.leaves 1) .i64).bind fun n36=>
     oP A p33.leaves 2 fun l37 n38=>
     some (.inr (.val [(.bool true),(.int .i64 n36),(.sl 4 l37),(.int .i64 n38)]))
    else
     oE A p33.leaves 1 fun n39 n40 s41 n42 l43 l44=>
     oP A p33.leaves 7 fun l45 n46=>
     (E.call 1000236 (kN [[(.str (bs [93]))]] l45 n46)).bind fun p47=>
     (opB (A.cell p47.leaves 0)).bind fun b49=>
     bif b49 then
      (opI (A.cell p47.leaves 1) .i64).bind fun n50=>
      oP A p47.leaves 2 fun l51 n52=>
      (opL (A.cell p47.leaves 4) 1).bind fun l53=>
      some (.inr (.val [(.bool true),(.int .i64 n50),(.sl 4 l51),(.int .i64 n52)]))
     else
      oP A p47.leaves 1 fun l54 n55=>
      (opL (A.cell p47.leaves 3) 1).bind fun l56=>
      some (.inl [(.sl 4 l54),(.int .i64 n55),(.int .i64 n18),(.int .i64 n19),(.str s20),(.int .i64 n21),(.int .i64 15),(.int .i64 0),(.str (bs [])),(.int .i64 0),(.sl 1 []),(.sl 6 [[(.int .i64 n22),(.int .i64 n23),(.str s24),(.int .i64 n25),(.sl 1 l26),(.sl 6 l27)],[(.int .i64 n39),(.int .i64 n40),(.str s41),(.int .i64 n42),(.sl 1 l43),(.sl 6 l44)]])])
   else
    (E.call 1000167 (kS 0 (bs [119,104,101,110]) l31 n32)).bind fun p57=>
    (opB (A.cell p57.leaves 0)).bind fun b59=>
    oP A p57.leaves 1 fun l60 n61=>
    bif b59 then
     (E.call 1000237 (kP 159 l60 n61)).bind fun p62=>
     (opB (A.cell p62.leaves 0)).bind fun b64=>
     bif b64 then
      (opI (A.cell p62.leaves 1) .i64).bind fun n65=>
      oP A p62.leaves 2 fun l66 n67=>
      some (.inr (.val [(.bool true),(.int .i64 n65),(.sl 4 l66),(.int .i64 n67)]))
     else
      (opS (A.cell p62.leaves 1)).bind fun s68=>
      (opS (A.cell p62.leaves 2)).bind fun s69=>
      oP A p62.leaves 3 fun l70 n71=>
      some (.inl [(.sl 4 l70),(.int .i64 n71),(.int .i64 n18),(.int .i64 n19),(.str s20),(.int .i64 n21),(.int .i64 11),(.int .i64 0),(.str s68),(.int .i64 0),(.sl 1 [[(.str s69)]]),(.sl 6 [[(.int .i64 n22),(.int .i64 n23),(.str s24),(.int .i64 n25),(.sl 1 l26),(.sl 6 l27)]])])
    else
     some (.inr (.val [(.bool false),(.int .i64 n22),(.int .i64 n23),(.str s24),(.int .i64 n25),(.sl 1 l26),(.sl 6 l27),(.sl 4 l60),(.int .i64 n61)]))
  ) [(.sl 4 l13),(.int .i64 n14),(.int .i64 0),(.int .i64 0),(.str (bs [])),(.int .i64 0),(.int .i64 n7),(.int .i64 n8),(.str s9),(.int .i64 n10),(.sl 1 l11),(.sl 6 l12)]
theorem b227_eq (A:Sy)(E:Env)(toks:List (List D))(at_:Int):(funB A Tryz.prog cs 227 159 [.ptr 0 0] [.cells (.ty 135) [.d (.sl 4 toks), .d (.int .i64 at_)]]).run E=b227 A E toks at_:=by kernel_rfl
def b235 (A:Sy)(E:Env)(toks:List (List D))(at_:Int):Option PRes:=
 bif (A.inr at_ (A.rlen toks))then
  oT A (A.row toks at_) 0 fun n1 s2 n3 n4=>
  bif (A.ieq n1 3)then
   some (.val [(.bool false),(.int .i64 1),(.int .i64 n3),(.str (bs [])),(.int .i64 0),(.sl 1 []),(.sl 6 []),(.sl 4 toks),(.int .i64 (A.wrap .i64 (A.add at_ 1)))])
  else
   bif (A.ieq n1 2)then
    some (.val [(.bool false),(.int .i64 4),(.int .i64 0),(.str s2),(.int .i64 0),(.sl 1 []),(.sl 6 []),(.sl 4 toks),(.int .i64 (A.wrap .i64 (A.add at_ 1)))])
   else
    bif (A.ieq n1 4)then
     some (.val [(.bool false),(.int .i64 17),(.int .i64 0),(.str s2),(.int .i64 0),(.sl 1 []),(.sl 6 []),(.sl 4 toks),(.int .i64 (A.wrap .i64 (A.add at_ 1)))])
    else
     (E.call 1000238 (kP 159 toks at_)).bind fun p5=>
     (opB (A.cell p5.leaves 0)).bind fun b7=>
     bif b7 then
      (opI (A.cell p5.leaves 1) .i64).bind fun n8=>
      oP A p5.leaves 2 fun l9 n10=>
      some (.val [(.bool true),(.int .i64 n8),(.sl 4 l9),(.int .i64 n10)])
     else
      oE A p5.leaves 1 fun n11 n12 s13 n14 l15 l16=>
      oP A p5.leaves 7 fun l17 n18=>
      some (.val [(.bool false),(.int .i64 n11),(.int .i64 n12),(.str s13),(.int .i64 n14),(.sl 1 l15),(.sl 6 l16),(.sl 4 l17),(.int .i64 n18)])
 else
  none
theorem b235_eq (A:Sy)(E:Env)(toks:List (List D))(at_:Int):(funB A Tryz.prog cs 235 159 [.ptr 0 0] [.cells (.ty 135) [.d (.sl 4 toks), .d (.int .i64 at_)]]).run E=b235 A E toks at_:=by kernel_rfl
def b238 (A:Sy)(E:Env)(toks:List (List D))(at_:Int):Option PRes:=
 (E.call 1000167 (kS 0 (bs [116,114,117,101]) toks at_)).bind fun p1=>
 (opB (A.cell p1.leaves 0)).bind fun b3=>
 oP A p1.leaves 1 fun l4 n5=>
 bif b3 then
  some (.val [(.bool false),(.int .i64 2),(.int .i64 1),(.str (bs [])),(.int .i64 0),(.sl 1 []),(.sl 6 []),(.sl 4 l4),(.int .i64 n5)])
 else
  (E.call 1000167 (kS 0 (bs [102,97,108,115,101]) l4 n5)).bind fun p6=>
  (opB (A.cell p6.leaves 0)).bind fun b8=>
  oP A p6.leaves 1 fun l9 n10=>
  bif b8 then
   some (.val [(.bool false),(.int .i64 2),(.int .i64 0),(.str (bs [])),(.int .i64 0),(.sl 1 []),(.sl 6 []),(.sl 4 l9),(.int .i64 n10)])
  else
   (E.call 1000167 (kS 0 (bs [91]) l9 n10)).bind fun p11=>
   (opB (A.cell p11.leaves 0)).bind fun b13=>
   oP A p11.leaves 1 fun l14 n15=>
   bif b13 then
    (E.call 1000131 (kP 159 l14 n15)).bind fun p16=>
    (opB (A.cell p16.leaves 0)).bind fun b18=>
    bif b18 then
     (opI (A.cell p16.leaves 1) .i64).bind fun n19=>
     oP A p16.leaves 2 fun l20 n21=>
     some (.val [(.bool true),(.int .i64 n19),(.sl 4 l20),(.int .i64 n21)])
    else
     oE A p16.leaves 1 fun n22 n23 s24 n25 l26 l27=>
     oP A p16.leaves 7 fun l28 n29=>
     E.lp (fun ds30=>
      (opS (A.cell ds30 0)).bind fun s31=>
      oP A ds30 1 fun l32 n33=>
      (opI (A.cell ds30 3) .i64).bind fun n34=>
      (opI (A.cell ds30 4) .i64).bind fun n35=>
      (opS (A.cell ds30 5)).bind fun s36=>
      (opI (A.cell ds30 6) .i64).bind fun n37=>
      (opL (A.cell ds30 7) 6).bind fun l38=>
      (E.call 1000167 (kS 0 (bs [44]) l32 n33)).bind fun p39=>
      (opB (A.cell p39.leaves 0)).bind fun b41=>
      oP A p39.leaves 1 fun l42 n43=>
      bif b41 then
       (E.call 1000131 (kP 159 l42 n43)).bind fun p44=>
       (opB (A.cell p44.leaves 0)).bind fun b46=>
       bif b46 then
        (opI (A.cell p44.leaves 1) .i64).bind fun n47=>
        oP A p44.leaves 2 fun l48 n49=>
        some (.inr (.val [(.bool true),(.int .i64 n47),(.sl 4 l48),(.int .i64 n49)]))
       else
        oE A p44.leaves 1 fun n50 n51 s52 n53 l54 l55=>
        oP A p44.leaves 7 fun l56 n57=>
        bif (A.fits l38 [[(.int .i64 n50),(.int .i64 n51),(.str s52),(.int .i64 n53),(.sl 1 l54),(.sl 6 l55)]] 88)then
         some (.inl [(.str s31),(.sl 4 l56),(.int .i64 n57),(.int .i64 n34),(.int .i64 n35),(.str s36),(.int .i64 n37),(.sl 6 (A.rapp l38 [[(.int .i64 n50),(.int .i64 n51),(.str s52),(.int .i64 n53),(.sl 1 l54),(.sl 6 l55)]]))])
        else
         none
      else
       (E.call 1000236 (kN [[(.str s31)]] l42 n43)).bind fun p58=>
       (opB (A.cell p58.leaves 0)).bind fun b60=>
       bif b60 then
        (opI (A.cell p58.leaves 1) .i64).bind fun n61=>
        oP A p58.leaves 2 fun l62 n63=>
        (opL (A.cell p58.leaves 4) 1).bind fun l64=>
        some (.inr (.val [(.bool true),(.int .i64 n61),(.sl 4 l62),(.int .i64 n63)]))
       else
        oP A p58.leaves 1 fun l65 n66=>
        (opL (A.cell p58.leaves 3) 1).bind fun l67=>
        some (.inr (.val [(.bool false),(.int .i64 14),(.int .i64 0),(.str (bs [])),(.int .i64 0),(.sl 1 []),(.sl 6 l38),(.sl 4 l65),(.int .i64 n66)]))
     ) [(.str (bs [93])),(.sl 4 l28),(.int .i64 n29),(.int .i64 0),(.int .i64 0),(.str (bs [])),(.int .i64 0),(.sl 6 [[(.int .i64 n22),(.int .i64 n23),(.str s24),(.int .i64 n25),(.sl 1 l26),(.sl 6 l27)]])]
   else
    (E.call 1000167 (kS 0 (bs [40]) l14 n15)).bind fun p68=>
    (opB (A.cell p68.leaves 0)).bind fun b70=>
    oP A p68.leaves 1 fun l71 n72=>
    bif b70 then
     (E.call 1000244 (kP 159 l71 n72)).bind fun p73=>
     (opB (A.cell p73.leaves 0)).bind fun b75=>
     bif b75 then
      (opI (A.cell p73.leaves 1) .i64).bind fun n76=>
      oP A p73.leaves 2 fun l77 n78=>
      some (.val [(.bool true),(.int .i64 n76),(.sl 4 l77),(.int .i64 n78)])
     else
      oE A p73.leaves 1 fun n79 n80 s81 n82 l83 l84=>
      oP A p73.leaves 7 fun l85 n86=>
      some (.val [(.bool false),(.int .i64 n79),(.int .i64 n80),(.str s81),(.int .i64 n82),(.sl 1 l83),(.sl 6 l84),(.sl 4 l85),(.int .i64 n86)])
    else
     (E.call 1000167 (kS 0 (bs [109,101,114,103,101]) l71 n72)).bind fun p87=>
     (opB (A.cell p87.leaves 0)).bind fun b89=>
     oP A p87.leaves 1 fun l90 n91=>
     bif b89 then
      (E.call 1000245 (kP 159 l90 n91)).bind fun p92=>
      (opB (A.cell p92.leaves 0)).bind fun b94=>
      bif b94 then
       (opI (A.cell p92.leaves 1) .i64).bind fun n95=>
       oP A p92.leaves 2 fun l96 n97=>
       some (.val [(.bool true),(.int .i64 n95),(.sl 4 l96),(.int .i64 n97)])
      else
       oE A p92.leaves 1 fun n98 n99 s100 n101 l102 l103=>
       oP A p92.leaves 7 fun l104 n105=>
       some (.val [(.bool false),(.int .i64 n98),(.int .i64 n99),(.str s100),(.int .i64 n101),(.sl 1 l102),(.sl 6 l103),(.sl 4 l104),(.int .i64 n105)])
     else
      (E.call 1000167 (kS 0 (bs [105,102]) l90 n91)).bind fun p106=>
      (opB (A.cell p106.leaves 0)).bind fun b108=>
      oP A p106.leaves 1 fun l109 n110=>
      bif b108 then
       (E.call 1000246 (kP 159 l109 n110)).bind fun p111=>
       (opB (A.cell p111.leaves 0)).bind fun b113=>
       bif b113 then
        (opI (A.cell p111.leaves 1) .i64).bind fun n114=>
        oP A p111.leaves 2 fun l115 n116=>
        some (.val [(.bool true),(.int .i64 n114),(.sl 4 l115),(.int .i64 n116)])
       else
        oE A p111.leaves 1 fun n117 n118 s119 n120 l121 l122=>
        oP A p111.leaves 7 fun l123 n124=>
        some (.val [(.bool false),(.int .i64 n117),(.int .i64 n118),(.str s119),(.int .i64 n120),(.sl 1 l121),(.sl 6 l122),(.sl 4 l123),(.int .i64 n124)])
      else
       (E.call 1000240 (kP 159 l109 n110)).bind fun p125=>
       (opB (A.cell p125.leaves 0)).bind fun b127=>
       bif b127 then
        (opI (A.cell p125.leaves 1) .i64).bind fun n128=>
        oP A p125.leaves 2 fun l129 n130=>
        some (.val [(.bool true),(.int .i64 n128),(.sl 4 l129),(.int .i64 n130)])
       else
        (opS (A.cell p125.leaves 1)).bind fun s131=>
        oP A p125.leaves 2 fun l132 n133=>
        (E.call 1000167 (kS 0 (bs [40]) l132 n133)).bind fun p134=>
        (opB (A.cell p134.leaves 0)).bind fun b136=>
        oP A p134.leaves 1 fun l137 n138=>
        bif b136 then
         (E.call 1000247 (kS 159 s131 l137 n138)).bind fun p139=>
         (opB (A.cell p139.leaves 0)).bind fun b141=>
         bif b141 then
          (opI (A.cell p139.leaves 1) .i64).bind fun n142=>
          oP A p139.leaves 2 fun l143 n144=>
          some (.val [(.bool true),(.int .i64 n142),(.sl 4 l143),(.int .i64 n144)])
         else
          oE A p139.leaves 1 fun n145 n146 s147 n148 l149 l150=>
          oP A p139.leaves 7 fun l151 n152=>
          some (.val [(.bool false),(.int .i64 n145),(.int .i64 n146),(.str s147),(.int .i64 n148),(.sl 1 l149),(.sl 6 l150),(.sl 4 l151),(.int .i64 n152)])
        else
         some (.val [(.bool false),(.int .i64 3),(.int .i64 0),(.str s131),(.int .i64 0),(.sl 1 []),(.sl 6 []),(.sl 4 l137),(.int .i64 n138)])
theorem b238_eq (A:Sy)(E:Env)(toks:List (List D))(at_:Int):(funB A Tryz.prog cs 238 159 [.ptr 0 0] [.cells (.ty 135) [.d (.sl 4 toks), .d (.int .i64 at_)]]).run E=b238 A E toks at_:=by kernel_rfl
def b244 (A:Sy)(E:Env)(toks:List (List D))(at_:Int):Option PRes:=
 (E.call 1000131 (kP 159 toks at_)).bind fun p1=>
 (opB (A.cell p1.leaves 0)).bind fun b3=>
 bif b3 then
  (opI (A.cell p1.leaves 1) .i64).bind fun n4=>
  oP A p1.leaves 2 fun l5 n6=>
  some (.val [(.bool true),(.int .i64 n4),(.sl 4 l5),(.int .i64 n6)])
 else
  oE A p1.leaves 1 fun n7 n8 s9 n10 l11 l12=>
  oP A p1.leaves 7 fun l13 n14=>
  (E.call 1000167 (kS 0 (bs [119,105,116,104]) l13 n14)).bind fun p15=>
  (opB (A.cell p15.leaves 0)).bind fun b17=>
  oP A p15.leaves 1 fun l18 n19=>
  bif b17 then
   (E.call 1000236 (kN [[(.str (bs [91]))]] l18 n19)).bind fun p20=>
   (opB (A.cell p20.leaves 0)).bind fun b22=>
   bif b22 then
    (opI (A.cell p20.leaves 1) .i64).bind fun n23=>
    oP A p20.leaves 2 fun l24 n25=>
    (opL (A.cell p20.leaves 4) 1).bind fun l26=>
    some (.val [(.bool true),(.int .i64 n23),(.sl 4 l24),(.int .i64 n25)])
   else
    oP A p20.leaves 1 fun l27 n28=>
    (opL (A.cell p20.leaves 3) 1).bind fun l29=>
    (E.call 1000131 (kP 159 l27 n28)).bind fun p30=>
    (opB (A.cell p30.leaves 0)).bind fun b32=>
    bif b32 then
     (opI (A.cell p30.leaves 1) .i64).bind fun n33=>
     oP A p30.leaves 2 fun l34 n35=>
     some (.val [(.bool true),(.int .i64 n33),(.sl 4 l34),(.int .i64 n35)])
    else
     oE A p30.leaves 1 fun n36 n37 s38 n39 l40 l41=>
     oP A p30.leaves 7 fun l42 n43=>
     (E.call 1000236 (kN [[(.str (bs [93]))],[(.str (bs [61]))]] l42 n43)).bind fun p44=>
     (opB (A.cell p44.leaves 0)).bind fun b46=>
     bif b46 then
      (opI (A.cell p44.leaves 1) .i64).bind fun n47=>
      oP A p44.leaves 2 fun l48 n49=>
      (opL (A.cell p44.leaves 4) 1).bind fun l50=>
      some (.val [(.bool true),(.int .i64 n47),(.sl 4 l48),(.int .i64 n49)])
     else
      oP A p44.leaves 1 fun l51 n52=>
      (opL (A.cell p44.leaves 3) 1).bind fun l53=>
      (E.call 1000131 (kP 159 l51 n52)).bind fun p54=>
      (opB (A.cell p54.leaves 0)).bind fun b56=>
      bif b56 then
       (opI (A.cell p54.leaves 1) .i64).bind fun n57=>
       oP A p54.leaves 2 fun l58 n59=>
       some (.val [(.bool true),(.int .i64 n57),(.sl 4 l58),(.int .i64 n59)])
      else
       oE A p54.leaves 1 fun n60 n61 s62 n63 l64 l65=>
       oP A p54.leaves 7 fun l66 n67=>
       (E.call 1000236 (kN [[(.str (bs [41]))]] l66 n67)).bind fun p68=>
       (opB (A.cell p68.leaves 0)).bind fun b70=>
       bif b70 then
        (opI (A.cell p68.leaves 1) .i64).bind fun n71=>
        oP A p68.leaves 2 fun l72 n73=>
        (opL (A.cell p68.leaves 4) 1).bind fun l74=>
        some (.val [(.bool true),(.int .i64 n71),(.sl 4 l72),(.int .i64 n73)])
       else
        oP A p68.leaves 1 fun l75 n76=>
        (opL (A.cell p68.leaves 3) 1).bind fun l77=>
        some (.val [(.bool false),(.int .i64 16),(.int .i64 0),(.str (bs [])),(.int .i64 0),(.sl 1 []),(.sl 6 [[(.int .i64 n7),(.int .i64 n8),(.str s9),(.int .i64 n10),(.sl 1 l11),(.sl 6 l12)],[(.int .i64 n36),(.int .i64 n37),(.str s38),(.int .i64 n39),(.sl 1 l40),(.sl 6 l41)],[(.int .i64 n60),(.int .i64 n61),(.str s62),(.int .i64 n63),(.sl 1 l64),(.sl 6 l65)]]),(.sl 4 l75),(.int .i64 n76)])
  else
   (E.call 1000236 (kN [[(.str (bs [41]))]] l18 n19)).bind fun p78=>
   (opB (A.cell p78.leaves 0)).bind fun b80=>
   bif b80 then
    (opI (A.cell p78.leaves 1) .i64).bind fun n81=>
    oP A p78.leaves 2 fun l82 n83=>
    (opL (A.cell p78.leaves 4) 1).bind fun l84=>
    some (.val [(.bool true),(.int .i64 n81),(.sl 4 l82),(.int .i64 n83)])
   else
    oP A p78.leaves 1 fun l85 n86=>
    (opL (A.cell p78.leaves 3) 1).bind fun l87=>
    some (.val [(.bool false),(.int .i64 n7),(.int .i64 n8),(.str s9),(.int .i64 n10),(.sl 1 l11),(.sl 6 l12),(.sl 4 l85),(.int .i64 n86)])
theorem b244_eq (A:Sy)(E:Env)(toks:List (List D))(at_:Int):(funB A Tryz.prog cs 244 159 [.ptr 0 0] [.cells (.ty 135) [.d (.sl 4 toks), .d (.int .i64 at_)]]).run E=b244 A E toks at_:=by kernel_rfl
def b245 (A:Sy)(E:Env)(toks:List (List D))(at_:Int):Option PRes:=
 (E.call 1000240 (kP 159 toks at_)).bind fun p1=>
 (opB (A.cell p1.leaves 0)).bind fun b3=>
 bif b3 then
  (opI (A.cell p1.leaves 1) .i64).bind fun n4=>
  oP A p1.leaves 2 fun l5 n6=>
  some (.val [(.bool true),(.int .i64 n4),(.sl 4 l5),(.int .i64 n6)])
 else
  (opS (A.cell p1.leaves 1)).bind fun s7=>
  oP A p1.leaves 2 fun l8 n9=>
  (E.call 1000236 (kN [[(.str (bs [40]))]] l8 n9)).bind fun p10=>
  (opB (A.cell p10.leaves 0)).bind fun b12=>
  bif b12 then
   (opI (A.cell p10.leaves 1) .i64).bind fun n13=>
   oP A p10.leaves 2 fun l14 n15=>
   (opL (A.cell p10.leaves 4) 1).bind fun l16=>
   some (.val [(.bool true),(.int .i64 n13),(.sl 4 l14),(.int .i64 n15)])
  else
   oP A p10.leaves 1 fun l17 n18=>
   (opL (A.cell p10.leaves 3) 1).bind fun l19=>
   E.lp (fun ds20=>
    (opB (A.cell ds20 0)).bind fun b21=>
    oP A ds20 1 fun l22 n23=>
    (opI (A.cell ds20 3) .i64).bind fun n24=>
    oT A ds20 4 fun n25 s26 n27 n28=>
    (opI (A.cell ds20 8) .i64).bind fun n29=>
    (opS (A.cell ds20 9)).bind fun s30=>
    (opI (A.cell ds20 10) .i64).bind fun n31=>
    (opL (A.cell ds20 11) 1).bind fun l32=>
    (opL (A.cell ds20 12) 6).bind fun l33=>
    bif b21 then
     (E.call 1000242 (kP 159 l22 n23)).bind fun p34=>
     (opB (A.cell p34.leaves 0)).bind fun b36=>
     bif b36 then
      (opI (A.cell p34.leaves 1) .i64).bind fun n37=>
      oP A p34.leaves 2 fun l38 n39=>
      some (.inr (.val [(.bool true),(.int .i64 n37),(.sl 4 l38),(.int .i64 n39)]))
     else
      (opS (A.cell p34.leaves 1)).bind fun s40=>
      oP A p34.leaves 2 fun l41 n42=>
      bif (A.fits l32 [[(.str s40)]] 16)then
       (E.call 1000236 (kN [[(.str (bs [45,62]))]] l41 n42)).bind fun p43=>
       (opB (A.cell p43.leaves 0)).bind fun b45=>
       bif b45 then
        (opI (A.cell p43.leaves 1) .i64).bind fun n46=>
        oP A p43.leaves 2 fun l47 n48=>
        (opL (A.cell p43.leaves 4) 1).bind fun l49=>
        some (.inr (.val [(.bool true),(.int .i64 n46),(.sl 4 l47),(.int .i64 n48)]))
       else
        oP A p43.leaves 1 fun l50 n51=>
        (opL (A.cell p43.leaves 3) 1).bind fun l52=>
        (E.call 1000131 (kP 159 l50 n51)).bind fun p53=>
        (opB (A.cell p53.leaves 0)).bind fun b55=>
        bif b55 then
         (opI (A.cell p53.leaves 1) .i64).bind fun n56=>
         oP A p53.leaves 2 fun l57 n58=>
         some (.inr (.val [(.bool true),(.int .i64 n56),(.sl 4 l57),(.int .i64 n58)]))
        else
         oE A p53.leaves 1 fun n59 n60 s61 n62 l63 l64=>
         oP A p53.leaves 7 fun l65 n66=>
         bif (A.fits l33 [[(.int .i64 n59),(.int .i64 n60),(.str s61),(.int .i64 n62),(.sl 1 l63),(.sl 6 l64)]] 88)then
          (E.call 1000236 (kN [[(.str (bs [41]))]] l65 n66)).bind fun p67=>
          (opB (A.cell p67.leaves 0)).bind fun b69=>
          bif b69 then
           (opI (A.cell p67.leaves 1) .i64).bind fun n70=>
           oP A p67.leaves 2 fun l71 n72=>
           (opL (A.cell p67.leaves 4) 1).bind fun l73=>
           some (.inr (.val [(.bool true),(.int .i64 n70),(.sl 4 l71),(.int .i64 n72)]))
          else
           oP A p67.leaves 1 fun l74 n75=>
           (opL (A.cell p67.leaves 3) 1).bind fun l76=>
           (E.call 1000167 (kS 0 (bs [40]) l74 n75)).bind fun p77=>
           (opB (A.cell p77.leaves 0)).bind fun b79=>
           oP A p77.leaves 1 fun l80 n81=>
           some (.inl [(.bool b79),(.sl 4 l80),(.int .i64 n81),(.int .i64 n24),(.int .i64 n25),(.str s26),(.int .i64 n27),(.int .i64 n28),(.int .i64 n29),(.str s30),(.int .i64 n31),(.sl 1 (A.rapp l32 [[(.str s40)]])),(.sl 6 (A.rapp l33 [[(.int .i64 n59),(.int .i64 n60),(.str s61),(.int .i64 n62),(.sl 1 l63),(.sl 6 l64)]]))])
         else
          none
      else
       none
    else
     some (.inr (.val [(.bool false),(.int .i64 n28),(.int .i64 n29),(.str s30),(.int .i64 n31),(.sl 1 l32),(.sl 6 l33),(.sl 4 l22),(.int .i64 n23)]))
   ) [(.bool true),(.sl 4 l17),(.int .i64 n18),(.int .i64 0),(.int .i64 0),(.str (bs [])),(.int .i64 0),(.int .i64 12),(.int .i64 0),(.str s7),(.int .i64 0),(.sl 1 []),(.sl 6 [])]
theorem b245_eq (A:Sy)(E:Env)(toks:List (List D))(at_:Int):(funB A Tryz.prog cs 245 159 [.ptr 0 0] [.cells (.ty 135) [.d (.sl 4 toks), .d (.int .i64 at_)]]).run E=b245 A E toks at_:=by kernel_rfl
def b246 (A:Sy)(E:Env)(toks:List (List D))(at_:Int):Option PRes:=
 (E.call 1000131 (kP 159 toks at_)).bind fun p1=>
 (opB (A.cell p1.leaves 0)).bind fun b3=>
 bif b3 then
  (opI (A.cell p1.leaves 1) .i64).bind fun n4=>
  oP A p1.leaves 2 fun l5 n6=>
  some (.val [(.bool true),(.int .i64 n4),(.sl 4 l5),(.int .i64 n6)])
 else
  oE A p1.leaves 1 fun n7 n8 s9 n10 l11 l12=>
  oP A p1.leaves 7 fun l13 n14=>
  (E.call 1000236 (kN [[(.str (bs [116,104,101,110]))]] l13 n14)).bind fun p15=>
  (opB (A.cell p15.leaves 0)).bind fun b17=>
  bif b17 then
   (opI (A.cell p15.leaves 1) .i64).bind fun n18=>
   oP A p15.leaves 2 fun l19 n20=>
   (opL (A.cell p15.leaves 4) 1).bind fun l21=>
   some (.val [(.bool true),(.int .i64 n18),(.sl 4 l19),(.int .i64 n20)])
  else
   oP A p15.leaves 1 fun l22 n23=>
   (opL (A.cell p15.leaves 3) 1).bind fun l24=>
   (E.call 1000131 (kP 159 l22 n23)).bind fun p25=>
   (opB (A.cell p25.leaves 0)).bind fun b27=>
   bif b27 then
    (opI (A.cell p25.leaves 1) .i64).bind fun n28=>
    oP A p25.leaves 2 fun l29 n30=>
    some (.val [(.bool true),(.int .i64 n28),(.sl 4 l29),(.int .i64 n30)])
   else
    oE A p25.leaves 1 fun n31 n32 s33 n34 l35 l36=>
    oP A p25.leaves 7 fun l37 n38=>
    (E.call 1000236 (kN [[(.str (bs [101,108,115,101]))]] l37 n38)).bind fun p39=>
    (opB (A.cell p39.leaves 0)).bind fun b41=>
    bif b41 then
     (opI (A.cell p39.leaves 1) .i64).bind fun n42=>
     oP A p39.leaves 2 fun l43 n44=>
     (opL (A.cell p39.leaves 4) 1).bind fun l45=>
     some (.val [(.bool true),(.int .i64 n42),(.sl 4 l43),(.int .i64 n44)])
    else
     oP A p39.leaves 1 fun l46 n47=>
     (opL (A.cell p39.leaves 3) 1).bind fun l48=>
     (E.call 1000131 (kP 159 l46 n47)).bind fun p49=>
     (opB (A.cell p49.leaves 0)).bind fun b51=>
     bif b51 then
      (opI (A.cell p49.leaves 1) .i64).bind fun n52=>
      oP A p49.leaves 2 fun l53 n54=>
      some (.val [(.bool true),(.int .i64 n52),(.sl 4 l53),(.int .i64 n54)])
     else
      oE A p49.leaves 1 fun n55 n56 s57 n58 l59 l60=>
      oP A p49.leaves 7 fun l61 n62=>
      some (.val [(.bool false),(.int .i64 7),(.int .i64 0),(.str (bs [])),(.int .i64 0),(.sl 1 []),(.sl 6 [[(.int .i64 n7),(.int .i64 n8),(.str s9),(.int .i64 n10),(.sl 1 l11),(.sl 6 l12)],[(.int .i64 n31),(.int .i64 n32),(.str s33),(.int .i64 n34),(.sl 1 l35),(.sl 6 l36)],[(.int .i64 n55),(.int .i64 n56),(.str s57),(.int .i64 n58),(.sl 1 l59),(.sl 6 l60)]]),(.sl 4 l61),(.int .i64 n62)])
theorem b246_eq (A:Sy)(E:Env)(toks:List (List D))(at_:Int):(funB A Tryz.prog cs 246 159 [.ptr 0 0] [.cells (.ty 135) [.d (.sl 4 toks), .d (.int .i64 at_)]]).run E=b246 A E toks at_:=by kernel_rfl
def b247 (A:Sy)(E:Env)(toks:List (List D))(at_:Int)(s_:ByteArray):Option PRes:=
 (E.call 1000167 (kS 0 (bs [41]) toks at_)).bind fun p1=>
 (opB (A.cell p1.leaves 0)).bind fun b3=>
 oP A p1.leaves 1 fun l4 n5=>
 bif (A.bnot b3)then
  (E.call 1000131 (kP 159 l4 n5)).bind fun p6=>
  (opB (A.cell p6.leaves 0)).bind fun b8=>
  bif b8 then
   (opI (A.cell p6.leaves 1) .i64).bind fun n9=>
   oP A p6.leaves 2 fun l10 n11=>
   some (.val [(.bool true),(.int .i64 n9),(.sl 4 l10),(.int .i64 n11)])
  else
   oE A p6.leaves 1 fun n12 n13 s14 n15 l16 l17=>
   oP A p6.leaves 7 fun l18 n19=>
   E.lp (fun ds20=>
    (opS (A.cell ds20 0)).bind fun s21=>
    oP A ds20 1 fun l22 n23=>
    (opI (A.cell ds20 3) .i64).bind fun n24=>
    oT A ds20 4 fun n25 s26 n27 n28=>
    (opI (A.cell ds20 8) .i64).bind fun n29=>
    (opS (A.cell ds20 9)).bind fun s30=>
    (opI (A.cell ds20 10) .i64).bind fun n31=>
    (opL (A.cell ds20 11) 6).bind fun l32=>
    (E.call 1000167 (kS 0 (bs [44]) l22 n23)).bind fun p33=>
    (opB (A.cell p33.leaves 0)).bind fun b35=>
    oP A p33.leaves 1 fun l36 n37=>
    bif b35 then
     (E.call 1000131 (kP 159 l36 n37)).bind fun p38=>
     (opB (A.cell p38.leaves 0)).bind fun b40=>
     bif b40 then
      (opI (A.cell p38.leaves 1) .i64).bind fun n41=>
      oP A p38.leaves 2 fun l42 n43=>
      some (.inr (.val [(.bool true),(.int .i64 n41),(.sl 4 l42),(.int .i64 n43)]))
     else
      oE A p38.leaves 1 fun n44 n45 s46 n47 l48 l49=>
      oP A p38.leaves 7 fun l50 n51=>
      bif (A.fits l32 [[(.int .i64 n44),(.int .i64 n45),(.str s46),(.int .i64 n47),(.sl 1 l48),(.sl 6 l49)]] 88)then
       some (.inl [(.str s21),(.sl 4 l50),(.int .i64 n51),(.int .i64 n24),(.int .i64 n25),(.str s26),(.int .i64 n27),(.int .i64 n28),(.int .i64 n29),(.str s30),(.int .i64 n31),(.sl 6 (A.rapp l32 [[(.int .i64 n44),(.int .i64 n45),(.str s46),(.int .i64 n47),(.sl 1 l48),(.sl 6 l49)]]))])
      else
       none
    else
     (E.call 1000236 (kN [[(.str s21)]] l36 n37)).bind fun p52=>
     (opB (A.cell p52.leaves 0)).bind fun b54=>
     bif b54 then
      (opI (A.cell p52.leaves 1) .i64).bind fun n55=>
      oP A p52.leaves 2 fun l56 n57=>
      (opL (A.cell p52.leaves 4) 1).bind fun l58=>
      some (.inr (.val [(.bool true),(.int .i64 n55),(.sl 4 l56),(.int .i64 n57)]))
     else
      oP A p52.leaves 1 fun l59 n60=>
      (opL (A.cell p52.leaves 3) 1).bind fun l61=>
      (E.call 1000167 (kS 0 (bs [101,118,101,114,121]) l59 n60)).bind fun p62=>
      (opB (A.cell p62.leaves 0)).bind fun b64=>
      oP A p62.leaves 1 fun l65 n66=>
      bif b64 then
       (E.call 1000227 (kP 159 l65 n66)).bind fun p67=>
       (opB (A.cell p67.leaves 0)).bind fun b69=>
       bif b69 then
        (opI (A.cell p67.leaves 1) .i64).bind fun n70=>
        oP A p67.leaves 2 fun l71 n72=>
        some (.inr (.val [(.bool true),(.int .i64 n70),(.sl 4 l71),(.int .i64 n72)]))
       else
        oE A p67.leaves 1 fun n73 n74 s75 n76 l77 l78=>
        oP A p67.leaves 7 fun l79 n80=>
        bif (A.fits l32 [[(.int .i64 n73),(.int .i64 n74),(.str s75),(.int .i64 n76),(.sl 1 l77),(.sl 6 l78)]] 88)then
         some (.inr (.val [(.bool false),(.int .i64 n28),(.int .i64 1),(.str s30),(.int .i64 n31),(.sl 1 []),(.sl 6 (A.rapp l32 [[(.int .i64 n73),(.int .i64 n74),(.str s75),(.int .i64 n76),(.sl 1 l77),(.sl 6 l78)]])),(.sl 4 l79),(.int .i64 n80)]))
        else
         none
      else
       some (.inr (.val [(.bool false),(.int .i64 n28),(.int .i64 n29),(.str s30),(.int .i64 n31),(.sl 1 []),(.sl 6 l32),(.sl 4 l65),(.int .i64 n66)]))
   ) [(.str (bs [41])),(.sl 4 l18),(.int .i64 n19),(.int .i64 0),(.int .i64 0),(.str (bs [])),(.int .i64 0),(.int .i64 13),(.int .i64 0),(.str s_),(.int .i64 0),(.sl 6 [[(.int .i64 n12),(.int .i64 n13),(.str s14),(.int .i64 n15),(.sl 1 l16),(.sl 6 l17)]])]
 else
  (E.call 1000167 (kS 0 (bs [101,118,101,114,121]) l4 n5)).bind fun p81=>
  (opB (A.cell p81.leaves 0)).bind fun b83=>
  oP A p81.leaves 1 fun l84 n85=>
  bif b83 then
   (E.call 1000227 (kP 159 l84 n85)).bind fun p86=>
   (opB (A.cell p86.leaves 0)).bind fun b88=>
   bif b88 then
    (opI (A.cell p86.leaves 1) .i64).bind fun n89=>
    oP A p86.leaves 2 fun l90 n91=>
    some (.val [(.bool true),(.int .i64 n89),(.sl 4 l90),(.int .i64 n91)])
   else
    oE A p86.leaves 1 fun n92 n93 s94 n95 l96 l97=>
    oP A p86.leaves 7 fun l98 n99=>
    bif (A.fits [] [[(.int .i64 n92),(.int .i64 n93),(.str s94),(.int .i64 n95),(.sl 1 l96),(.sl 6 l97)]] 88)then
     some (.val [(.bool false),(.int .i64 13),(.int .i64 1),(.str s_),(.int .i64 0),(.sl 1 []),(.sl 6 [[(.int .i64 n92),(.int .i64 n93),(.str s94),(.int .i64 n95),(.sl 1 l96),(.sl 6 l97)]]),(.sl 4 l98),(.int .i64 n99)])
    else
     none
  else
   some (.val [(.bool false),(.int .i64 13),(.int .i64 0),(.str s_),(.int .i64 0),(.sl 1 []),(.sl 6 []),(.sl 4 l84),(.int .i64 n85)])
theorem b247_eq (A:Sy)(E:Env)(toks:List (List D))(at_:Int)(s_:ByteArray):(funB A Tryz.prog cs 247 159 [.ptr 0 0, .d (.str s_)] [.cells (.ty 135) [.d (.sl 4 toks), .d (.int .i64 at_)]]).run E=b247 A E toks at_ s_:=by kernel_rfl
def b236 (A:Sy)(E:Env)(toks:List (List D))(at_:Int)(rows:List (List D)):Option PRes:=
 E.lp (fun ds1=>
  (opI (A.cell ds1 0) .i64).bind fun n2=>
  (opI (A.cell ds1 1) .i64).bind fun n3=>
  oP A ds1 2 fun l4 n5=>
  (opL (A.cell ds1 4) 1).bind fun l6=>
  bif (A.ilt n3 n2)then
   bif (A.inr n3 (A.rlen l6))then
    (opS (A.cell (A.rown l6 (A.nat n3)) 0)).bind fun s7=>
    (E.call 1000167 (kS 0 s7 l4 n5)).bind fun p8=>
    (opB (A.cell p8.leaves 0)).bind fun b10=>
    oP A p8.leaves 1 fun l11 n12=>
    bif (A.bnot b10)then
     some (.inr (.val [(.bool true),(.int .i64 n12),(.sl 4 l11),(.int .i64 n12),(.sl 1 l6)]))
    else
     some (.inl [(.int .i64 n2),(.int .i64 (A.wrap .i64 (A.add n3 1))),(.sl 4 l11),(.int .i64 n12),(.sl 1 l6)])
   else
    none
  else
   some (.inr (.val [(.bool false),(.sl 4 l4),(.int .i64 n5),(.sl 1 l6)]))
 ) [(.int .i64 (A.rlen rows)),(.int .i64 0),(.sl 4 toks),(.int .i64 at_),(.sl 1 rows)]
theorem b236_eq (A:Sy)(E:Env)(toks:List (List D))(at_:Int)(rows:List (List D)):(funB A Tryz.prog cs 236 159 [.ptr 0 0, .own 1] [.cells (.ty 135) [.d (.sl 4 toks), .d (.int .i64 at_)], .arr 9 1 rows]).run E=b236 A E toks at_ rows:=by kernel_rfl
end
end Go.Vm
end
