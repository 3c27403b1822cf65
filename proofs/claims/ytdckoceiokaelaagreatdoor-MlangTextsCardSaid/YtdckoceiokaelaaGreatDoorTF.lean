/-
  Part TF of the proof. What is proved by the whole: the statement that the claim names, with no condition. This part: lemmas.
-/
import Derived.Test.YtdckoceiokaelaaGreatDoorTE
import Derived.Shelf.Strings.Fields
import Derived.Shelf.Strconv.ParseIntPublic10
import Derived.Test.YtdckoceiokaelaaGreatDoorChecked
import Derived.Shelf.Strings.OnBuilder
import Derived.Shelf.Strconv.Itoa0
import Derived.Shelf.Strconv.Itoa1
import Derived.Shelf.LaysM
import Derived.Shelf.Strconv.Itoa2
import Derived.Shelf.Strconv.Itoa3
import Derived.Shelf.LaysC
set_option linter.unusedSimpArgs false
set_option linter.unusedVariables false

section
/-
 DERIVED:THE SHELF's CONTRACTS AT THIS DUMP,IN PLAIN WORDS (tools/lay-plain.mjs out of 'TryzShelf.lean',which tools/lay-shelf.mjs wrote):THE SAME DECLARATIONS UNDER THE SAME NAMES:'import','namespace','open','def','theorem' AND NOTHING ELSE:no command of the shelf's:FOR A HAND-IN. Each laying:the table of numbers ('.._ren') and one theorem,a field a fact of the dump's own or the kernel's comparison;each contract:ONE APPLICATION.
-/
namespace Go.Proofs
open Go.Shelf
def Tryz.laysC174_ren:Go.Shelf.Ren:=⟨fun|174=>126|247=>160|245=>161|287=>177|279=>178|280=>179|281=>180|282=>181|321=>195|322=>196|316=>197|171=>199|205=>198|243=>212|246=>175|283=>191|284=>192|285=>193|286=>194|129=>208|317=>207|318=>209|319=>210|320=>211|337=>217|338=>218|n=>n,fun|9=>9|3=>3|2=>2|75=>92|85=>128|4=>4|167=>166|5=>5|53=>139|175=>167|46=>169|168=>170|37=>87|0=>0|210=>187|21=>21|127=>122|145=>214|143=>212|171=>180|173=>183|212=>208|51=>177|20=>20|213=>209|232=>220|233=>221|80=>95|n=>n,fun|15=>3|16=>4|17=>7|18=>8|19=>9|n=>n⟩
theorem Tryz.laysC174:Go.Proofs.LaysC.n174 Tryz.prog Tryz.laysC174_ren:= {
 mixed:=by kernel_rfl
 f129:=Tryz.func208.trans (congrArg some (by kernel_rfl))
 f171:=Tryz.func199.trans (congrArg some (by kernel_rfl))
 f174:=Tryz.func126.trans (congrArg some (by kernel_rfl))
 f205:=Tryz.func198.trans (congrArg some (by kernel_rfl))
 f243:=Tryz.func212.trans (congrArg some (by kernel_rfl))
 f245:=Tryz.func161.trans (congrArg some (by kernel_rfl))
 f246:=Tryz.func175.trans (congrArg some (by kernel_rfl))
 f247:=Tryz.func160.trans (congrArg some (by kernel_rfl))
 f279:=Tryz.func178.trans (congrArg some (by kernel_rfl))
 f280:=Tryz.func179.trans (congrArg some (by kernel_rfl))
 f281:=Tryz.func180.trans (congrArg some (by kernel_rfl))
 f282:=Tryz.func181.trans (congrArg some (by kernel_rfl))
 f283:=Tryz.func191.trans (congrArg some (by kernel_rfl))
 f284:=Tryz.func192.trans (congrArg some (by kernel_rfl))
 f285:=Tryz.func193.trans (congrArg some (by kernel_rfl))
 f286:=Tryz.func194.trans (congrArg some (by kernel_rfl))
 f287:=Tryz.func177.trans (congrArg some (by kernel_rfl))
 f316:=Tryz.func197.trans (congrArg some (by kernel_rfl))
 f317:=Tryz.func207.trans (congrArg some (by kernel_rfl))
 f318:=Tryz.func209.trans (congrArg some (by kernel_rfl))
 f319:=Tryz.func210.trans (congrArg some (by kernel_rfl))
 f320:=Tryz.func211.trans (congrArg some (by kernel_rfl))
 f321:=Tryz.func195.trans (congrArg some (by kernel_rfl))
 f322:=Tryz.func196.trans (congrArg some (by kernel_rfl))
 f337:=Tryz.func217.trans (congrArg some (by kernel_rfl))
 f338:=Tryz.func218.trans (congrArg some (by kernel_rfl))
 t0:=Tryz.underlying0
 a0:=Tryz.isAgg0
 z0:=Tryz.sizeOf0
 v0:=Tryz.zeroValue0
 t2:=Tryz.underlying2
 a2:=Tryz.isAgg2
 z2:=Tryz.sizeOf2
 v2:=Tryz.zeroValue2
 t3:=Tryz.underlying3
 a3:=Tryz.isAgg3
 z3:=Tryz.sizeOf3
 v3:=Tryz.zeroValue3
 t4:=Tryz.underlying4
 a4:=Tryz.isAgg4
 z4:=Tryz.sizeOf4
 v4:=Tryz.zeroValue4
 t5:=Tryz.underlying5
 a5:=Tryz.isAgg5
 z5:=Tryz.sizeOf5
 v5:=Tryz.zeroValue5
 t9:=Tryz.underlying9
 a9:=Tryz.isAgg9
 z9:=Tryz.sizeOf9
 v9:=Tryz.zeroValue9
 t20:=Tryz.underlying20
 a20:=Tryz.isAgg20
 z20:=Tryz.sizeOf20
 v20:=Tryz.zeroValue20
 t21:=Tryz.underlying21
 a21:=Tryz.isAgg21
 z21:=Tryz.sizeOf21
 v21:=Tryz.zeroValue21
 t37:=Tryz.underlying87
 a37:=Tryz.isAgg87
 z37:=Tryz.sizeOf87
 v37:=Tryz.zeroValue87
 t46:=Tryz.underlying169
 a46:=Tryz.isAgg169
 z46:=Tryz.sizeOf169
 v46:=Tryz.zeroValue169
 t51:=Tryz.underlying177
 a51:=Tryz.isAgg177
 z51:=Tryz.sizeOf177
 v51:=Tryz.zeroValue177
 t53:=Tryz.underlying139
 a53:=Tryz.isAgg139
 z53:=Tryz.sizeOf139
 v53:=Tryz.zeroValue139
 t75:=Tryz.underlying92
 a75:=Tryz.isAgg92
 z75:=Tryz.sizeOf92
 v75:=Tryz.zeroValue92
 t85:=Tryz.underlying128
 a85:=Tryz.isAgg128
 z85:=Tryz.sizeOf128
 v85:=Tryz.zeroValue128
 t127:=Tryz.underlying122
 a127:=Tryz.isAgg122
 z127:=Tryz.sizeOf122
 v127:=Tryz.zeroValue122
 t143:=Tryz.underlying212
 a143:=Tryz.isAgg212
 z143:=Tryz.sizeOf212
 v143:=Tryz.zeroValue212
 t145:=Tryz.underlying214
 a145:=Tryz.isAgg214
 z145:=Tryz.sizeOf214
 v145:=Tryz.zeroValue214
 t167:=Tryz.underlying166
 a167:=Tryz.isAgg166
 z167:=Tryz.sizeOf166
 v167:=Tryz.zeroValue166
 t168:=Tryz.underlying170
 a168:=Tryz.isAgg170
 z168:=Tryz.sizeOf170
 v168:=Tryz.zeroValue170
 t171:=Tryz.underlying180
 a171:=Tryz.isAgg180
 z171:=Tryz.sizeOf180
 v171:=Tryz.zeroValue180
 t173:=Tryz.underlying183
 a173:=Tryz.isAgg183
 z173:=Tryz.sizeOf183
 v173:=Tryz.zeroValue183
 t175:=Tryz.underlying167
 a175:=Tryz.isAgg167
 z175:=Tryz.sizeOf167
 v175:=Tryz.zeroValue167
 t210:=Tryz.underlying187
 a210:=Tryz.isAgg187
 z210:=Tryz.sizeOf187
 v210:=Tryz.zeroValue187
 t212:=Tryz.underlying208
 a212:=Tryz.isAgg208
 z212:=Tryz.sizeOf208
 v212:=Tryz.zeroValue208
 t213:=Tryz.underlying209
 a213:=Tryz.isAgg209
 z213:=Tryz.sizeOf209
 t232:=Tryz.underlying220
 a232:=Tryz.isAgg220
 z232:=Tryz.sizeOf220
 v232:=Tryz.zeroValue220
 t233:=Tryz.underlying221
 a233:=Tryz.isAgg221
 z233:=Tryz.sizeOf221
 v233:=Tryz.zeroValue221
 g15:=by kernel_rfl
 g16:=by kernel_rfl
 g17:=by kernel_rfl
 g18:=by kernel_rfl
 g19:=by kernel_rfl
 t80:=Tryz.underlying95
 a80:=Tryz.isAgg95
 z80:=Tryz.sizeOf95
 v80:=Tryz.zeroValue95
 i0:=by kernel_rfl
 i2:=by kernel_rfl
 i3:=by kernel_rfl
 i4:=by kernel_rfl
 i5:=by kernel_rfl
 i9:=by kernel_rfl
 i20:=by kernel_rfl
 i21:=by kernel_rfl
 i37:=by kernel_rfl
 i46:=by kernel_rfl
 i51:=by kernel_rfl
 i53:=by kernel_rfl
 i75:=by kernel_rfl
 i80:=by kernel_rfl
 i85:=by kernel_rfl
 i127:=by kernel_rfl
 i143:=by kernel_rfl
 i145:=by kernel_rfl
 i167:=by kernel_rfl
 i168:=by kernel_rfl
 i171:=by kernel_rfl
 i173:=by kernel_rfl
 i175:=by kernel_rfl
 i210:=by kernel_rfl
 i212:=by kernel_rfl
 i232:=by kernel_rfl
 i233:=by kernel_rfl
 m15:=by kernel_rfl
 m16:=by kernel_rfl
 m17:=by kernel_rfl
 m18:=by kernel_rfl
 m19:=by kernel_rfl
 c0:=by kernel_rfl
 c2:=by kernel_rfl
 c3:=by kernel_rfl
 c4:=by kernel_rfl
 c5:=by kernel_rfl
 c9:=by kernel_rfl
 c20:=by kernel_rfl
 c21:=by kernel_rfl
 c37:=by kernel_rfl
 c46:=by kernel_rfl
 c51:=by kernel_rfl
 c53:=by kernel_rfl
 c75:=by kernel_rfl
 c80:=by kernel_rfl
 c85:=by kernel_rfl
 c127:=by kernel_rfl
 c143:=by kernel_rfl
 c145:=by kernel_rfl
 c167:=by kernel_rfl
 c168:=by kernel_rfl
 c171:=by kernel_rfl
 c173:=by kernel_rfl
 c175:=by kernel_rfl
 c210:=by kernel_rfl
 c212:=by kernel_rfl
 c213:=by kernel_rfl
 c232:=by kernel_rfl
 c233:=by kernel_rfl }
open Go.RowKit in
theorem Tryz.strconv_ParseInt_10_at64_ok (s:ByteArray)(hmax:s.size≤9223372036854775806)(v:Int)(h:Lib.parseIntB 64 s.data.toList= .ok v)(w:World):
  Calls Tryz.prog 126 #[.string s, .int .i64 10, .int .i64 64] w fun e w'=>e= .returned (.tuple #[.int .i64 v, .nilIface])∧(w'=w∨ ∃t,w'=Lib.bytesWorld w 5 t):=Any.strconv_ParseInt_10_at64_ok Tryz.laysC174 s hmax v h w
open Go.RowKit in
theorem Tryz.strconv_ParseInt_10_at64_range (s:ByteArray)(hlim:s.size≤281474976710656)(h:Lib.parseIntB 64 s.data.toList= .range)(ev:Value)(w:World)(hv:w.cell? ⟨4,0,none⟩=some ev)(hev:ev= .nilIface∨ ∃te pe,ev= .iface te pe):
  Calls Tryz.prog 126 #[.string s, .int .i64 10, .int .i64 64] w fun e w'=> ∃N,e= .returned (.tuple #[.int .i64 (Lib.intSat 64 s.data.toList), .iface 170 (.pointer (some ⟨N,0,none⟩))])∧w.heap.size≤N∧w'.heap[N]? =some (.cells #[.string ⟨#[80,97,114,115,101,73,110,116]⟩, .string s,ev] 187 (0,0))∧Below w.heap.size w w':=Any.strconv_ParseInt_10_at64_range Tryz.laysC174 s hlim h ev w hv hev
def Tryz.lays157_ren:Go.Shelf.Ren:=⟨fun|157=>128|229=>163|199=>164|261=>185|311=>201|312=>202|n=>n,fun|9=>9|31=>35|3=>3|5=>5|4=>4|119=>156|0=>0|40=>143|152=>174|21=>21|154=>176|51=>177|141=>179|196=>194|193=>191|198=>197|49=>195|194=>192|201=>200|226=>215|46=>169|227=>216|n=>n,fun|0=>0|6=>2|n=>n⟩
theorem Tryz.lays157:Go.Proofs.Lays.n157 Tryz.prog Tryz.lays157_ren:= {
 mixed:=by kernel_rfl
 f157:=Tryz.func128.trans (congrArg some (by kernel_rfl))
 f199:=Tryz.func164.trans (congrArg some (by kernel_rfl))
 f229:=Tryz.func163.trans (congrArg some (by kernel_rfl))
 f261:=Tryz.func185.trans (congrArg some (by kernel_rfl))
 f311:=Tryz.func201.trans (congrArg some (by kernel_rfl))
 f312:=Tryz.func202.trans (congrArg some (by kernel_rfl))
 t0:=Tryz.underlying0
 a0:=Tryz.isAgg0
 z0:=Tryz.sizeOf0
 v0:=Tryz.zeroValue0
 t3:=Tryz.underlying3
 a3:=Tryz.isAgg3
 z3:=Tryz.sizeOf3
 v3:=Tryz.zeroValue3
 t4:=Tryz.underlying4
 a4:=Tryz.isAgg4
 z4:=Tryz.sizeOf4
 v4:=Tryz.zeroValue4
 t5:=Tryz.underlying5
 a5:=Tryz.isAgg5
 z5:=Tryz.sizeOf5
 v5:=Tryz.zeroValue5
 t9:=Tryz.underlying9
 a9:=Tryz.isAgg9
 z9:=Tryz.sizeOf9
 v9:=Tryz.zeroValue9
 t21:=Tryz.underlying21
 a21:=Tryz.isAgg21
 z21:=Tryz.sizeOf21
 v21:=Tryz.zeroValue21
 t31:=Tryz.underlying35
 a31:=Tryz.isAgg35
 z31:=Tryz.sizeOf35
 v31:=Tryz.zeroValue35
 t40:=Tryz.underlying143
 a40:=Tryz.isAgg143
 z40:=Tryz.sizeOf143
 v40:=Tryz.zeroValue143
 t46:=Tryz.underlying169
 a46:=Tryz.isAgg169
 z46:=Tryz.sizeOf169
 v46:=Tryz.zeroValue169
 t49:=Tryz.underlying195
 a49:=Tryz.isAgg195
 z49:=Tryz.sizeOf195
 v49:=Tryz.zeroValue195
 t51:=Tryz.underlying177
 a51:=Tryz.isAgg177
 z51:=Tryz.sizeOf177
 v51:=Tryz.zeroValue177
 t119:=Tryz.underlying156
 a119:=Tryz.isAgg156
 z119:=Tryz.sizeOf156
 t141:=Tryz.underlying179
 a141:=Tryz.isAgg179
 z141:=Tryz.sizeOf179
 v141:=Tryz.zeroValue179
 t152:=Tryz.underlying174
 a152:=Tryz.isAgg174
 z152:=Tryz.sizeOf174
 v152:=Tryz.zeroValue174
 t154:=Tryz.underlying176
 a154:=Tryz.isAgg176
 z154:=Tryz.sizeOf176
 v154:=Tryz.zeroValue176
 t193:=Tryz.underlying191
 a193:=Tryz.isAgg191
 z193:=Tryz.sizeOf191
 v193:=Tryz.zeroValue191
 t194:=Tryz.underlying192
 a194:=Tryz.isAgg192
 z194:=Tryz.sizeOf192
 v194:=Tryz.zeroValue192
 t196:=Tryz.underlying194
 a196:=Tryz.isAgg194
 z196:=Tryz.sizeOf194
 v196:=Tryz.zeroValue194
 t198:=Tryz.underlying197
 a198:=Tryz.isAgg197
 z198:=Tryz.sizeOf197
 v198:=Tryz.zeroValue197
 t201:=Tryz.underlying200
 a201:=Tryz.isAgg200
 z201:=Tryz.sizeOf200
 v201:=Tryz.zeroValue200
 t226:=Tryz.underlying215
 a226:=Tryz.isAgg215
 z226:=Tryz.sizeOf215
 v226:=Tryz.zeroValue215
 t227:=Tryz.underlying216
 a227:=Tryz.isAgg216
 z227:=Tryz.sizeOf216
 v227:=Tryz.zeroValue216
 g0:=by kernel_rfl
 g6:=by kernel_rfl }
end Go.Proofs
end

section
/-
 DERIVED:THE SHELF's CONTRACTS AT THIS DUMP,IN PLAIN WORDS (tools/lay-plain.mjs out of 'TrimShelf.lean',which tools/lay-shelf.mjs wrote):THE SAME DECLARATIONS UNDER THE SAME NAMES:'import','namespace','open','def','theorem' AND NOTHING ELSE:no command of the shelf's:FOR A HAND-IN. Each laying:the table of numbers ('.._ren') and one theorem,a field a fact of the dump's own or the kernel's comparison;each contract:ONE APPLICATION.
-/
namespace Go.Proofs
open Go.Shelf
def Tryz.lays156_ren:Go.Shelf.Ren:=⟨fun|156=>29|165=>58|166=>59|169=>60|240=>109|241=>110|276=>153|277=>154|n=>n,fun|31=>35|9=>9|3=>3|4=>4|0=>0|20=>20|72=>89|76=>93|70=>86|37=>87|75=>92|127=>122|164=>150|5=>5|80=>95|n=>n,fun|n=>n⟩
theorem Tryz.lays156:Go.Proofs.Lays.n156 Tryz.prog Tryz.lays156_ren:= {
 mixed:=by kernel_rfl
 f156:=Tryz.func29.trans (congrArg some (by kernel_rfl))
 f165:=Tryz.func58.trans (congrArg some (by kernel_rfl))
 f166:=Tryz.func59.trans (congrArg some (by kernel_rfl))
 f169:=Tryz.func60.trans (congrArg some (by kernel_rfl))
 f240:=Tryz.func109.trans (congrArg some (by kernel_rfl))
 f241:=Tryz.func110.trans (congrArg some (by kernel_rfl))
 f276:=Tryz.func153.trans (congrArg some (by kernel_rfl))
 f277:=Tryz.func154.trans (congrArg some (by kernel_rfl))
 t0:=Tryz.underlying0
 a0:=Tryz.isAgg0
 z0:=Tryz.sizeOf0
 v0:=Tryz.zeroValue0
 t3:=Tryz.underlying3
 a3:=Tryz.isAgg3
 z3:=Tryz.sizeOf3
 v3:=Tryz.zeroValue3
 t4:=Tryz.underlying4
 a4:=Tryz.isAgg4
 z4:=Tryz.sizeOf4
 v4:=Tryz.zeroValue4
 t9:=Tryz.underlying9
 a9:=Tryz.isAgg9
 z9:=Tryz.sizeOf9
 v9:=Tryz.zeroValue9
 t20:=Tryz.underlying20
 a20:=Tryz.isAgg20
 z20:=Tryz.sizeOf20
 v20:=Tryz.zeroValue20
 t31:=Tryz.underlying35
 a31:=Tryz.isAgg35
 z31:=Tryz.sizeOf35
 v31:=Tryz.zeroValue35
 t37:=Tryz.underlying87
 a37:=Tryz.isAgg87
 z37:=Tryz.sizeOf87
 v37:=Tryz.zeroValue87
 t70:=Tryz.underlying86
 a70:=Tryz.isAgg86
 z70:=Tryz.sizeOf86
 v70:=Tryz.zeroValue86
 t72:=Tryz.underlying89
 a72:=Tryz.isAgg89
 z72:=Tryz.sizeOf89
 v72:=Tryz.zeroValue89
 t75:=Tryz.underlying92
 a75:=Tryz.isAgg92
 z75:=Tryz.sizeOf92
 v75:=Tryz.zeroValue92
 t76:=Tryz.underlying93
 a76:=Tryz.isAgg93
 z76:=Tryz.sizeOf93
 v76:=Tryz.zeroValue93
 t127:=Tryz.underlying122
 a127:=Tryz.isAgg122
 z127:=Tryz.sizeOf122
 v127:=Tryz.zeroValue122
 t164:=Tryz.underlying150
 a164:=Tryz.isAgg150
 z164:=Tryz.sizeOf150
 v164:=Tryz.zeroValue150 }
theorem Tryz.Builder_Extra_156:Builder.Extra Tryz.prog Tryz.lays156_ren:= {
 sizeBuilder:=by kernel_rfl
 liesBuilder:=by kernel_rfl
 t5:=Tryz.underlying5
 a5:=Tryz.isAgg5
 z5:=Tryz.sizeOf5
 v5:=Tryz.zeroValue5
 infoByte:=by kernel_rfl
 cellsByte:=by kernel_rfl
 sizeByte:=by kernel_rfl
 neB5:=by decide }
open Go.RowKit in
theorem Tryz.strings_Join_none (a:Option Addr)(c:Nat)(sep:ByteArray)(w:World):
  Calls Tryz.prog 29 #[.slice a 0 c, .string sep] w fun e w'=>e= .returned (.string ⟨#[]⟩)∧w'=w:=Any.strings_Join_none Tryz.lays156 Tryz.Builder_Extra_156 a c sep w
open Go.RowKit in
theorem Tryz.strings_Join (bk o c:Nat)(xs:List ByteArray)(sep:ByteArray)(w:World)(hcells: ∀(j:Nat) x,xs[j]? =some x→w.cell? ⟨bk,o+j,none⟩=some (.string x))(hbk:bk < w.heap.size)(hN:xs.length≤140737488355328)(hcap:xs.length≤c)(hlen:(Lib.join (xs.map (·.data.toList)) sep.data.toList).length≤140737488355328):
  Calls Tryz.prog 29 #[.slice (some ⟨bk,o,none⟩) xs.length c, .string sep] w fun e w'=>e= .returned (.string ⟨(Lib.join (xs.map (·.data.toList)) sep.data.toList).toArray⟩)∧Below w.heap.size w w':=Any.strings_Join Tryz.lays156 Tryz.Builder_Extra_156 bk o c xs sep w hcells hbk hN hcap hlen
def Tryz.laysM246_ren:Go.Shelf.Ren:=⟨fun|246=>175|283=>191|284=>192|285=>193|286=>194|129=>208|317=>207|318=>209|319=>210|320=>211|337=>217|338=>218|n=>n,fun|2=>2|3=>3|9=>9|4=>4|171=>180|0=>0|53=>139|37=>87|5=>5|173=>183|212=>208|51=>177|20=>20|213=>209|46=>169|232=>220|233=>221|n=>n,fun|17=>7|18=>8|19=>9|n=>n⟩
theorem Tryz.laysM246:Go.Proofs.LaysM.n246 Tryz.prog Tryz.laysM246_ren:= {
 mixed:=by kernel_rfl
 f129:=Tryz.func208.trans (congrArg some (by kernel_rfl))
 f246:=Tryz.func175.trans (congrArg some (by kernel_rfl))
 f283:=Tryz.func191.trans (congrArg some (by kernel_rfl))
 f284:=Tryz.func192.trans (congrArg some (by kernel_rfl))
 f285:=Tryz.func193.trans (congrArg some (by kernel_rfl))
 f286:=Tryz.func194.trans (congrArg some (by kernel_rfl))
 f317:=Tryz.func207.trans (congrArg some (by kernel_rfl))
 f318:=Tryz.func209.trans (congrArg some (by kernel_rfl))
 f319:=Tryz.func210.trans (congrArg some (by kernel_rfl))
 f320:=Tryz.func211.trans (congrArg some (by kernel_rfl))
 f337:=Tryz.func217.trans (congrArg some (by kernel_rfl))
 f338:=Tryz.func218.trans (congrArg some (by kernel_rfl))
 t0:=Tryz.underlying0
 a0:=Tryz.isAgg0
 z0:=Tryz.sizeOf0
 v0:=Tryz.zeroValue0
 t2:=Tryz.underlying2
 a2:=Tryz.isAgg2
 z2:=Tryz.sizeOf2
 v2:=Tryz.zeroValue2
 t3:=Tryz.underlying3
 a3:=Tryz.isAgg3
 z3:=Tryz.sizeOf3
 v3:=Tryz.zeroValue3
 t4:=Tryz.underlying4
 a4:=Tryz.isAgg4
 z4:=Tryz.sizeOf4
 v4:=Tryz.zeroValue4
 t5:=Tryz.underlying5
 a5:=Tryz.isAgg5
 z5:=Tryz.sizeOf5
 v5:=Tryz.zeroValue5
 t9:=Tryz.underlying9
 a9:=Tryz.isAgg9
 z9:=Tryz.sizeOf9
 v9:=Tryz.zeroValue9
 t20:=Tryz.underlying20
 a20:=Tryz.isAgg20
 z20:=Tryz.sizeOf20
 v20:=Tryz.zeroValue20
 t37:=Tryz.underlying87
 a37:=Tryz.isAgg87
 z37:=Tryz.sizeOf87
 v37:=Tryz.zeroValue87
 t46:=Tryz.underlying169
 a46:=Tryz.isAgg169
 z46:=Tryz.sizeOf169
 v46:=Tryz.zeroValue169
 t51:=Tryz.underlying177
 a51:=Tryz.isAgg177
 z51:=Tryz.sizeOf177
 v51:=Tryz.zeroValue177
 t53:=Tryz.underlying139
 a53:=Tryz.isAgg139
 z53:=Tryz.sizeOf139
 v53:=Tryz.zeroValue139
 t171:=Tryz.underlying180
 a171:=Tryz.isAgg180
 z171:=Tryz.sizeOf180
 v171:=Tryz.zeroValue180
 t173:=Tryz.underlying183
 a173:=Tryz.isAgg183
 z173:=Tryz.sizeOf183
 v173:=Tryz.zeroValue183
 t212:=Tryz.underlying208
 a212:=Tryz.isAgg208
 z212:=Tryz.sizeOf208
 v212:=Tryz.zeroValue208
 t213:=Tryz.underlying209
 a213:=Tryz.isAgg209
 z213:=Tryz.sizeOf209
 t232:=Tryz.underlying220
 a232:=Tryz.isAgg220
 z232:=Tryz.sizeOf220
 v232:=Tryz.zeroValue220
 t233:=Tryz.underlying221
 a233:=Tryz.isAgg221
 z233:=Tryz.sizeOf221
 v233:=Tryz.zeroValue221
 g17:=by kernel_rfl
 g18:=by kernel_rfl
 g19:=by kernel_rfl
 i0:=by kernel_rfl
 i2:=by kernel_rfl
 i3:=by kernel_rfl
 i4:=by kernel_rfl
 i5:=by kernel_rfl
 i9:=by kernel_rfl
 i20:=by kernel_rfl
 i37:=by kernel_rfl
 i46:=by kernel_rfl
 i51:=by kernel_rfl
 i53:=by kernel_rfl
 i171:=by kernel_rfl
 i173:=by kernel_rfl
 i212:=by kernel_rfl
 i232:=by kernel_rfl
 i233:=by kernel_rfl
 m17:=by kernel_rfl
 m18:=by kernel_rfl
 m19:=by kernel_rfl }
open Go.RowKit Go.Sort Go.Lib in
theorem Tryz.internal_strconv_FormatInt_10 (n:Int)(h0: -9223372036854775808≤n)(h1:n≤9223372036854775807)(w:World)(htab:Lib.TabIs Tryz.prog w "internal/strconv.uint64pow10" .u64 Lib.pow10Tab):
  Calls Tryz.prog 175 #[.int .i64 n, .int .i64 10] w fun e w'=>e= .returned (.string ⟨(Lib.itoa n).toArray⟩)∧ ∃k os,w'=grow (w.drewN k) os:=Any.internal_strconv_FormatInt_10 Tryz.laysM246 n h0 h1 w htab
end Go.Proofs
end

section
namespace Go.Vm
open Go.Proofs Go.RowKit Go.Shelf
def twoL:List UInt8:=[58,61,32,45,62,32,60,61,32,62,61,32,60,62]
def twoF:List (List D):=[[.str (bs [58,61])],[.str (bs [45,62])],[.str (bs [60,61])],[.str (bs [62,61])],[.str (bs [60,62])]]
def srow (s:ByteArray):List D:=[.str s]
def srows (l:List ByteArray):List (List D):=l.map srow
def unSr:List (List D)→Option (List ByteArray)
 | []=>some []
 | [.str s]::r=>match unSr r with
   |some l=>some (s::l)
   |none=>none
 |_=>none
def joinB (l:List ByteArray)(sep:ByteArray):ByteArray:=⟨(Lib.join (l.map (·.data.toList)) sep.data.toList).toArray⟩
def knF:List V→Option PRes
 | [.d (.str s)]=>match decide (s.data.toList=twoL)with
   |true=>some (.val [.sl 1 twoF])
   |false=>none
 |_=>none
def knJ:List V→Option PRes
 | [.d (.sl 1 rows), .d (.str sep)]=>match unSr rows with
   |some l=>match decide (l.length≤140737488355328∧(Lib.join (l.map (·.data.toList)) sep.data.toList).length≤140737488355328)with
    |true=>some (.val [.str (joinB l sep)])
    |false=>none
   |none=>none
 |_=>none
def knI:List V→Option PRes
 | [.d (.int .i64 n), .d (.int .i64 b)]=>match decide (b=10∧ -9223372036854775808≤n∧n≤9223372036854775807)with
   |true=>some (.val [.str ⟨(Lib.itoa n).toArray⟩])
   |false=>none
 |_=>none
def kn:FuncId→List V→Option PRes:=fun f args=>match Nat.beq f 128 with
 |true=>knF args
 |false=>match Nat.beq f 29 with
  |true=>knJ args
  |false=>match Nat.beq f 175 with
   |true=>knI args
   |false=>none
theorem fields_two:Lib.fields twoL= [[58,61],[45,62],[60,61],[62,61],[60,62]]:=by decide+kernel
theorem tab_cell {Z:Nat→Nat→Prop}{w:World}(h:TabOK Z w)(c:Nat)(hc:c < 256):w.cell? ⟨0,c,none⟩=some (.int .u8 (if Lib.isSp (UInt8.ofNat c)then 1 else 0)):=by
 have h1:=(h.2 (0,Lib.asciiSpaceTab.map fun n=>Value.int .u8 n) (by simp [gV]) c).2
 have h2:(Lib.asciiSpaceTab.map fun n=>Value.int .u8 n)[c]? =some (.int .u8 (Lib.asciiSpaceTab.getD c 0)):=by
  rw[List.getElem?_map,List.getD_eq_getElem?_getD]
  have:c < Lib.asciiSpaceTab.length:=by rw[Lib.asciiSpaceTab_length];exact hc
  simp [this]
 have h1:=h1.trans h2
 rwa [Lib.asciiSpaceTab_at c hc]at h1
theorem fr_of_below {w w':World}(h:Below w.heap.size w w'):Fr (fun _=>False) w w':=⟨h.os,h.tape,h.output,h.size,fun k hk _=>h.block k hk⟩
theorem kv_good:KV Tryz.prog:=by
 intro s hs g w us hsim hu
 obtain⟨h1,h2⟩:=hu
 match us,h1 with
 | [u0,u1,u2],_=>
   have e0:=rep_str_inv (h2 0 u0 _ rfl rfl)
   have e1:=rep_int_inv (h2 1 u1 _ rfl rfl)
   have e2:=rep_int_inv (h2 2 u2 _ rfl rfl)
   subst e0;subst e1;subst e2
   have fin: ∀(v:Value) (n:Int) (b:Bool) (w':World),Below w.heap.size w w'→(∀(g':Gh),Rep w' g' v (.ifn b))→ ∃u g',Ending.returned (.tuple #[.int .i64 n,v])= .returned u∧Rep w' g' u (.tup [.d (.int .i64 n), .ifn b])∧Keep [] g [] w g' [] w':=by
    intro v n b w' hb hv
    refine⟨_,g,rfl, .tup _ _ rfl fun i u c hu hc=> ?_,Keep.of_fr hsim (fr_of_below hb)⟩
    match i with
    |0=>simp at hu hc;subst hu;subst hc;exact .d (.int _ _)
    |1=>simp at hu hc;subst hu;subst hc;exact hv g
    |i+2=>simp at hc
   show Calls Tryz.prog 126 #[.string s, .int .i64 10, .int .i64 64] w _
   unfold pnumI pokB
   cases hp:Lib.parseIntB 64 s.data.toList with
   |ok v=>
    refine(Tryz.strconv_ParseInt_10_at64_ok s (by omega) v hp w).mono ?_
    rintro e w' ⟨rfl,hw⟩
    refine fin _ _ _ _ ?_ fun _=> .ifn0
    rcases hw with rfl|⟨t,rfl⟩
    ·exact Below.refl _ _
    ·exact Lib.bytesWorld_below _ _ _
   |range=>
    obtain⟨_,te,pe,hc⟩:=hsim.tab.1 4 (by simp [gI])
    refine(Tryz.strconv_ParseInt_10_at64_range s (by omega) hp _ w hc (.inr ⟨_,_,rfl⟩)).mono ?_
    rintro e w' ⟨N,rfl,_,_,hb⟩
    exact fin _ _ _ _ hb fun _=> .ifn1 _ _
   |_=>
    obtain⟨_,te,pe,hc⟩:=hsim.tab.1 3 (by simp [gI])
    have q:Calls Tryz.prog 126 #[.string s, .int .i64 10, .int .i64 64] w fun e w'=> ∃N,e= .returned (.tuple #[.int .i64 (0), .iface 170 (.pointer (some ⟨N,0,none⟩))])∧w.heap.size≤N∧w'.heap[N]? =some (.cells #[.string ⟨#[80,97,114,115,101,73,110,116]⟩, .string s, .iface te pe] 187 (0,0))∧Below w.heap.size w w':=Any.strconv_ParseInt_10_at64_syntax Tryz.laysC174 s (by omega) hp _ w hc (.inr ⟨_,_,rfl⟩)
    refine q.mono ?_
    rintro e w' ⟨N,rfl,_,_,hb⟩
    exact fin _ _ _ _ hb fun _=> .ifn1 _ _
theorem unSr_srows: ∀l:List ByteArray,unSr (srows l)=some l
 | []=>rfl
 |s::l=>by
  show(match unSr (srows l)with
   |some l=>some (s::l)
   |none=>none)=some (s::l)
  rw[unSr_srows l]
theorem unSr_some: ∀ {r:List (List D)} {l:List ByteArray},unSr r=some l→r=srows l
 | [],l,h=>by cases h;rfl
 | [.str s]::r,l,h=>by
   unfold unSr at h
   split at h
   ·rename_i l' hl
    cases h
    rw[unSr_some hl];rfl
   ·cases h
theorem kn_slen (l:List ByteArray):(srows l).length=l.length:=by simp [srows]
theorem join_call (l:List ByteArray)(sep:ByteArray)(hN:l.length≤140737488355328)(hl:(Lib.join (l.map (·.data.toList)) sep.data.toList).length≤140737488355328):PCall Tryz.prog 29 [.d (.sl 1 (srows l)), .d (.str sep)] (.d (.str (joinB l sep))):=by
 intro g w us hsim hu
 obtain⟨h1,h2⟩:=hu
 match us,h1 with
 | [u0,u1],_=>
   have e1:=rep_str_inv (h2 1 u1 _ rfl rfl)
   subst e1
   have h0:=rep_d_inv (h2 0 u0 _ rfl rfl)
   have fin: ∀(r:ByteArray) (w':World),Below w.heap.size w w'→ ∃u g',Ending.returned (.string r)= .returned u∧Rep w' g' u (.d (.str r))∧Keep [] g [] w g' [] w':=fun r w' hb=>⟨_,g,rfl, .d (.str _),Keep.of_fr hsim (fr_of_below hb)⟩
   have e0:joinB [] sep=⟨#[]⟩:=rfl
   generalize hrows:srows l=rows at h0
   have hlen:rows.length=l.length:=by rw[←hrows,kn_slen]
   have none_: ∀(a:Option Addr) (c:Nat),l= []→Calls Tryz.prog 29 #[.slice a 0 c, .string sep] w fun e w'=> ∃u g',e= .returned u∧Rep w' g' u (.d (.str (joinB l sep)))∧Keep [] g [] w g' [] w':=by
    rintro a c rfl
    refine(Tryz.strings_Join_none a c sep w).mono ?_
    rintro e w' ⟨rfl,rfl⟩
    rw[e0]
    exact fin _ _ (Below.refl _ _)
   cases h0 with
   |slnil=>exact none_ _ _ (List.length_eq_zero_iff.1 hlen.symm)
   |slemp a cap=>exact none_ _ _ (List.length_eq_zero_iff.1 hlen.symm)
   |sl blk off n cap _ _ U hn hcap hl1 hZ hc hr=>
    subst hrows
    by_cases h0:l= []
    ·have:n=0:=by rw[←hn,hlen,h0];rfl
     subst this
     exact none_ _ _ h0
    ·have hx: ∀(j:Nat) x,l[j]? =some x→(srows l)[j]? =some [.str x]:=fun j x hj=>by simp [srows,srow,hj]
     have hcell: ∀(j:Nat) x,l[j]? =some x→w.cell? ⟨blk,off+j,none⟩=some (.string x):=fun j x hj=>by
      have h3:=hc j _ 0 (.str x) (hx j x hj) rfl
      have h4:=hr j _ 0 (.str x) (hx j x hj) rfl
      have:U j 0= .string x:=by generalize U j 0=u at h4;cases h4;rfl
      rw[this]at h3
      simpa using h3
     have hbk:blk < w.heap.size:=by
      obtain⟨x,hj⟩: ∃x,l[0]? =some x:=by
       match l,h0 with
       |x::l,_=>exact⟨x,rfl⟩
      have:=hcell 0 x hj
      unfold World.cell? at this
      split at this
      ·rename_i hw
       exact(Array.getElem?_eq_some_iff.1 hw).1
      ·cases this
     have hn':n=l.length:=by rw[←hn,hlen]
     subst hn'
     refine(Tryz.strings_Join blk off cap l sep w hcell hbk hN hcap hl).mono ?_
     rintro e w' ⟨rfl,hb⟩
     exact fin _ _ hb
theorem fields_call (s:ByteArray)(hd:s.data.toList=twoL):PGood Tryz.prog 128 [.d (.str s)] (.val [.sl 1 twoF]):=by
 refine⟨[35],[.sl 1], .d (.sl 1 twoF),by kernel_rfl,by kernel_rfl,rfl,by kernel_rfl,fun g w us hsim hu=> ?_⟩
 obtain⟨h1,h2⟩:=hu
 match us,h1 with
 | [u0],_=>
   have e0:=rep_str_inv (h2 0 u0 _ rfl rfl)
   subst e0
   have hsz:s.size=14:=by
    have:s.data.toList.length=twoL.length:=by rw[hd]
    simpa [twoL]using this
   have L:=Any.strings_Fields_core Tryz.lays157 (by kernel_rfl) s w (by omega) (fun j b hb=>by
    rw[hd]at hb
    have:=List.mem_of_getElem? hb
    have hall: ∀b∈twoL,b.toNat < 128:=by decide
    exact hall b this) (fun c hc=>tab_cell hsim.tab c hc)
   refine L.mono ?_
   rintro e w' ⟨rfl,rfl⟩
   rw[hd,fields_two]
   refine⟨_,_,rfl,?_,Keep.newZ hsim _ _⟩
   have hcell: ∀(i:Nat) (v:Value),(([[58,61],[45,62],[60,61],[62,61],[60,62]]:List (List UInt8)).map fun l=>Value.string ⟨l.toArray⟩).toArray[i]? =some v→(w.alloc (.cells (([[58,61],[45,62],[60,61],[62,61],[60,62]]:List (List UInt8)).map fun l=>Value.string ⟨l.toArray⟩).toArray 9)).cell? ⟨w.heap.size,i,none⟩=some v:=by
    intro i v hv
    simp only [World.cell?,World.alloc,Array.getElem?_push,if_true]
    simpa using hv
   refine .d (.sl _ 0 5 5 1 twoF (fun i j=> .string (match twoF[i]? with
    |some [.str s]=>s
    |_=>default)) rfl (Nat.le_refl _) ?_ ?_ ?_ ?_)
   ·intro i r hr
    match i with
    |0|1|2|3|4=>simp [twoF]at hr;subst hr;rfl
    |i+5=>simp [twoF]at hr
   ·intro i r j c hr hc;exact .inr rfl
   ·intro i r j c hr hc
    match i,j with
    |0,0|1,0|2,0|3,0|4,0=>exact hcell _ _ rfl
    |0,j+1|1,j+1|2,j+1|3,j+1|4,j+1=>simp [twoF]at hr;subst hr;simp at hc
    |i+5,j=>simp [twoF]at hr
   ·intro i r j c hr hc
    match i,j with
    |0,0|1,0|2,0|3,0|4,0=>simp [twoF]at hr;subst hr;simp at hc;subst hc;exact .str _
    |0,j+1|1,j+1|2,j+1|3,j+1|4,j+1=>simp [twoF]at hr;subst hr;simp at hc
    |i+5,j=>simp [twoF]at hr
theorem itoa_call (n:Int)(h0: -9223372036854775808≤n)(h1:n≤9223372036854775807):PCall Tryz.prog 175 [.d (.int .i64 n), .d (.int .i64 10)] (.d (.str ⟨(Lib.itoa n).toArray⟩)):=by
 intro g w us hsim hu
 obtain⟨hl,h2⟩:=hu
 match us,hl with
 | [u0,u1],_=>
   have e0:=rep_int_inv (h2 0 u0 _ rfl rfl)
   have e1:=rep_int_inv (h2 1 u1 _ rfl rfl)
   subst e0;subst e1
   have htab:Lib.TabIs Tryz.prog w "internal/strconv.uint64pow10" .u64 Lib.pow10Tab:=by
    have ht:=hsim.tab.2 (7,Lib.pow10Tab.map fun n=>Value.int .u64 n) (by simp [gV])
    have hz:(Lib.pow10Tab.map fun n=>Value.int .u64 n)[0]? =some (.int .u64 1):=by kernel_rfl
    have hc:=(ht 0).2.trans hz
    unfold Lib.TabIs World.var?
    rw[show Tryz.prog.globalNamed "internal/strconv.uint64pow10" =some 7 by kernel_rfl]
    simp only [Option.bind_some]
    have key: ∃cs t s,w.heap[7]? =some (.cells cs t s):=by
     unfold World.cell? at hc
     split at hc
     ·rename_i hw;exact⟨_,_,_,hw⟩
     ·cases hc
    obtain⟨cs,t,s,hw⟩:=key
    rw[hw]
    simp only [Option.some.injEq]
    refine Array.ext_getElem? fun i=> ?_
    have hi:=(ht i).2
    simp only [World.cell?,hw]at hi
    rw[List.getElem?_toArray]
    simpa using hi
   refine(Tryz.internal_strconv_FormatInt_10 n h0 h1 w htab).mono ?_
   rintro e w' ⟨rfl,k,os,rfl⟩
   refine⟨_,g,rfl, .d (.str _),Keep.of_fr hsim ⟨rfl,rfl,rfl,by simp [Go.Sort.grow],fun i hi _=> ?_⟩⟩
   show(w.heap++os)[i]? =_
   rw[Array.getElem?_append,if_pos hi]
theorem beq_far {k n:Nat}(h:n < k):Nat.beq k n=false:=by
 cases h2:Nat.beq k n with
 |false=>rfl
 |true=>have:=Nat.eq_of_beq_eq_true h2;omega
theorem kn_key {k:Nat}(h:1000000≤k)(key:List V):kn k key=none:=by
 unfold kn
 rw[beq_far (show 128 < k by omega),beq_far (show 29 < k by omega),beq_far (show 175 < k by omega)]
theorem kn_good:KGood Tryz.prog kn:=by
 refine⟨kv_good,fun f args p _ ha h=> ?_,fun f key pn as' hs p _ hd h=> ?_⟩
 rotate_left
 ·rw[kn_key (of_decide_eq_true (bkey_le f)) key]at h
  cases h
 unfold kn at h
 split at h
 ·rename_i hf
  have hf:=Nat.eq_of_beq_eq_true hf
  subst hf
  unfold knF at h
  split at h
  ·rename_i s
   split at h
   ·rename_i hd
    cases h
    exact fields_call s (of_decide_eq_true hd)
   ·cases h
  ·cases h
 ·split at h
  ·rename_i hf
   have hf:=Nat.eq_of_beq_eq_true hf
   subst hf
   unfold knJ at h
   split at h
   ·rename_i rows sep
    split at h
    ·rename_i l hl
     split at h
     ·rename_i hd
      have hd:=of_decide_eq_true hd
      cases h
      rw[unSr_some hl]
      exact⟨[9],[.str], .d (.str (joinB l sep)),by kernel_rfl,by kernel_rfl,rfl,by kernel_rfl,join_call l sep hd.1 hd.2⟩
     ·cases h
    ·cases h
   ·cases h
  ·split at h
   ·rename_i hf
    have hf:=Nat.eq_of_beq_eq_true hf
    subst hf
    unfold knI at h
    split at h
    ·rename_i n b
     split at h
     ·rename_i hd
      obtain⟨rfl,h0,h1⟩:=of_decide_eq_true hd
      cases h
      exact⟨[9],[.str], .d (.str ⟨(Lib.itoa n).toArray⟩),by kernel_rfl,by kernel_rfl,rfl,by kernel_rfl,itoa_call n h0 h1⟩
     ·cases h
    ·cases h
   ·cases h
end Go.Vm
end

section
namespace Go.Vm
open Go.Proofs
noncomputable def cF (f:FuncId) (args:List V):Option PRes:=callF Tryz.prog cs kn f args
noncomputable def eF:Env:=envF (callF Tryz.prog cs kn)
theorem eF_call (f:FuncId)(args:List V):eF.call f args=cF f args:=rfl
theorem eF_lp {α:Type}(b:List D→Option (List D ⊕ α))(ds:List D):eF.lp b ds=loopF b ds:=rfl
theorem cOf {f:FuncId}{args:List V}{p:PRes}(hg:goodF Tryz.prog f=true)(hk:kn f args=none)(h:(funT sy Tryz.prog cs f args).run eF=some p):cF f args=some p:=callF_of hg hk h
theorem cOfP {f:FuncId}{args:List V}{Q:PRes→Prop}(hg:goodF Tryz.prog f=true)(hk:kn f args=none)(h: ∃p,(funT sy Tryz.prog cs f args).run eF=some p∧Q p): ∃p,cF f args=some p∧Q p:=h.imp fun _ h=>⟨callF_of hg hk h.1,h.2⟩
theorem decT {p:Prop} [Decidable p] (h:p):decide p=true:=decide_eq_true h
theorem decF {p:Prop} [Decidable p] (h: ¬p):decide p=false:=decide_eq_false h
theorem inr_at {i n:Nat}(h:i < n):decide (0≤(i:Int)∧(i:Int) < (n:Int))=true:=decide_eq_true ⟨by omega,by omega⟩
theorem ilt_at {i n:Nat}(h:i < n):decide ((i:Int) < (n:Int))=true:=decide_eq_true (by omega)
theorem ilt_self (n:Nat):decide ((n:Int) < (n:Int))=false:=decide_eq_false (by omega)
theorem wrap_succ {i n:Nat}(h:i < n)(hn:n≤1000000000000):IntKind.i64.wrap ((i:Int)+1)=(i:Int)+1:=wrap_id (by omega) (by omega)
theorem mixedOrders:Tryz.prog.follows .mixedOrders=true:=by kernel_rfl
end Go.Vm
end

section
set_option maxRecDepth 10000
namespace Go.Vm
theorem bs1 {α β:Type}(a:α)(f:α→Option β):(some a).bind f=f a:=rfl
theorem ct1 {α:Type}(a b:α):cond true a b=a:=rfl
theorem cf1 {α:Type}(a b:α):cond false a b=b:=rfl
theorem es1 {α:Type}(a:α):(a=a)=True:=eq_self a
theorem go1:type_of% (And.intro @bs1 (And.intro @ct1 (And.intro @cf1 (And.intro @es1 (And.intro @sy_wrap (And.intro @sy_add (And.intro @sy_sub (And.intro @sy_mul (And.intro @sy_ieq (And.intro @sy_ilt (And.intro @sy_ile (And.intro @sy_seq (And.intro @sy_beq (And.intro @sy_bor (And.intro @sy_bnot (And.intro @sy_imax (And.intro @sy_imin (And.intro @sy_rlen (And.intro @sy_slen (And.intro @sy_sapp (And.intro @sy_inr (And.intro @sy_nat (And.intro @sy_cell0 (And.intro @sy_cellS (And.intro @sy_skip0 (And.intro @sy_inrn (And.intro @sy_rapp (And.intro @sy_fits (And.intro @sy_cutok (And.intro @sy_cut (And.intro @sy_scut (And.intro @sy_sbyte (And.intro @sy_mkok (And.intro @sy_mkok0 (And.intro @sy_mkz (And.intro @sy_rep (And.intro @sy_head (And.intro @sy_deq (And.intro @eqDs_int (And.intro @eqDs_nil (And.intro @opI_int (And.intro @opB_bool (And.intro @opS_str (And.intro @opL_sl (And.intro @opM_own (And.intro @leaves_val (And.intro @leaves_own (And.intro @cutO_bool (And.intro @bif_bool (And.intro @cutO_inl (And.intro @cutO_inr (And.intro @eF_call (And.intro @eF_lp (And.intro @Nat.zero_add (And.intro @Bool.cond_false_right (And.intro @Bool.cond_true_left (And.intro @Bool.cond_false_left (And.intro @Bool.cond_true_right (And.intro @Bool.not_true (And.intro @Bool.not_false (And.intro @Bool.not_not (And.intro @decide_true (And.intro @decide_false (And.intro @Bool.true_and (And.intro @Bool.and_true (And.intro @Bool.false_and (And.intro @Bool.and_false (And.intro @Bool.or_false (And.intro @Bool.false_or (And.intro @Bool.true_or (And.intro @Bool.or_true (And.intro @true_and (@and_true))))))))))))))))))))))))))))))))))))))))))))))))))))))))))))))))))))))))):=And.intro @bs1 (And.intro @ct1 (And.intro @cf1 (And.intro @es1 (And.intro @sy_wrap (And.intro @sy_add (And.intro @sy_sub (And.intro @sy_mul (And.intro @sy_ieq (And.intro @sy_ilt (And.intro @sy_ile (And.intro @sy_seq (And.intro @sy_beq (And.intro @sy_bor (And.intro @sy_bnot (And.intro @sy_imax (And.intro @sy_imin (And.intro @sy_rlen (And.intro @sy_slen (And.intro @sy_sapp (And.intro @sy_inr (And.intro @sy_nat (And.intro @sy_cell0 (And.intro @sy_cellS (And.intro @sy_skip0 (And.intro @sy_inrn (And.intro @sy_rapp (And.intro @sy_fits (And.intro @sy_cutok (And.intro @sy_cut (And.intro @sy_scut (And.intro @sy_sbyte (And.intro @sy_mkok (And.intro @sy_mkok0 (And.intro @sy_mkz (And.intro @sy_rep (And.intro @sy_head (And.intro @sy_deq (And.intro @eqDs_int (And.intro @eqDs_nil (And.intro @opI_int (And.intro @opB_bool (And.intro @opS_str (And.intro @opL_sl (And.intro @opM_own (And.intro @leaves_val (And.intro @leaves_own (And.intro @cutO_bool (And.intro @bif_bool (And.intro @cutO_inl (And.intro @cutO_inr (And.intro @eF_call (And.intro @eF_lp (And.intro @Nat.zero_add (And.intro @Bool.cond_false_right (And.intro @Bool.cond_true_left (And.intro @Bool.cond_false_left (And.intro @Bool.cond_true_right (And.intro @Bool.not_true (And.intro @Bool.not_false (And.intro @Bool.not_not (And.intro @decide_true (And.intro @decide_false (And.intro @Bool.true_and (And.intro @Bool.and_true (And.intro @Bool.false_and (And.intro @Bool.and_false (And.intro @Bool.or_false (And.intro @Bool.false_or (And.intro @Bool.true_or (And.intro @Bool.or_true (And.intro @true_and (@and_true))))))))))))))))))))))))))))))))))))))))))))))))))))))))))))))))))))))))
end Go.Vm
end

section
namespace Go.Vm
section
variable {α β : Type}
theorem st_bind {v:Option α}{f:α→Option β}{n:α}{p:β}(h:v=some n)(k:f n=some p):v.bind f=some p:=by rw[h];exact k
theorem st_cut {X:Option (List D ⊕ α)}{K:List D→Option α}{ds:List D}{p:α}(h:X=some (.inl ds))(k:K ds=some p):cutO X K=some p:=by rw[h];exact k
theorem st_t {c:Bool}{a b:Option α}{p:α}(h:c=true)(k:a=some p):(bif c then a else b)=some p:=by rw[h];exact k
theorem st_f {c:Bool}{a b:Option α}{p:α}(h:c=false)(k:b=some p):(bif c then a else b)=some p:=by rw[h];exact k
theorem st_opI {v:Option D}{k:IntKind}{n:Int}(h:v=some (.int k n)):opI v k=some n:=by rw[h];simp [opI]
theorem st_opB {v:Option D}{n:Bool}(h:v=some (.bool n)):opB v=some n:=by rw[h];rfl
theorem st_opL {v:Option D}{sz:Nat}{n:List (List D)}(h:v=some (.sl sz n)):opL v sz=some n:=by rw[h];simp [opL]
noncomputable def lpK (b:List D→Option (List D ⊕ α)):List D ⊕ α→Option α
 | .inl ds=>eF.lp b ds
 | .inr a=>some a
theorem st_lp {b:List D→Option (List D ⊕ α)}{ds:List D}{r:List D ⊕ α}{p:α}(h:b ds=some r)(k:lpK b r=some p):eF.lp b ds=some p:=by
 show loopF b ds=some p
 rw[loopF_eq,h]
 cases r with
 |inl d=>exact k
 |inr a=>exact k
theorem st_inl {b:List D→Option (List D ⊕ α)}{ds:List D}{p:α}(k:eF.lp b ds=some p):lpK b (.inl ds)=some p:=k
theorem st_inr {b:List D→Option (List D ⊕ α)}{a:α}:lpK b (.inr a)=some a:=rfl
theorem st_some {a:α}:some a=some a:=rfl
end
end Go.Vm
end

section
namespace Go.Vm
def kP (pn:Int)(l:List (List D))(i:Int):List V:=[.d (.int .i64 pn), .d (.int .i64 1), .ptr 0 0, .fn 135 [.d (.sl 4 l), .d (.int .i64 i)]]
def kS (pn:Int)(s:ByteArray)(l:List (List D))(i:Int):List V:=[.d (.int .i64 pn), .d (.int .i64 2), .ptr 0 0, .d (.str s), .fn 135 [.d (.sl 4 l), .d (.int .i64 i)]]
def kO (a b:Int)(l:List (List D))(i:Int):List V:=[.d (.int .i64 0), .d (.int .i64 3), .ptr 0 0, .d (.int .i64 a), .d (.int .i64 b), .fn 135 [.d (.sl 4 l), .d (.int .i64 i)]]
def kN (w l:List (List D))(i:Int):List V:=[.d (.int .i64 159), .d (.int .i64 2), .ptr 0 0, .own 1, .fn 135 [.d (.sl 4 l), .d (.int .i64 i)], .tup [.d (.int .i64 9), .d (.sl 1 w)]]
def rP (l:List (List D))(i:Int)(b:Bool):List V:=[.d (.int .i64 0), .d (.int .i64 1), .ptr 0 0, .fn 76 [.d (.sl 4 l), .d (.int .i64 i), .d (.bool b)]]
def rS (s:ByteArray)(l:List (List D))(i:Int)(b:Bool):List V:=[.d (.int .i64 0), .d (.int .i64 2), .ptr 0 0, .d (.str s), .fn 76 [.d (.sl 4 l), .d (.int .i64 i), .d (.bool b)]]
def rO (a w l:List (List D))(i:Int)(b:Bool):List V:=[.d (.int .i64 0), .d (.int .i64 3), .ptr 0 0, .own 1, .own 2, .fn 76 [.d (.sl 4 l), .d (.int .i64 i), .d (.bool b)], .tup [.d (.int .i64 3), .d (.sl 1 a)], .tup [.d (.int .i64 9), .d (.sl 1 w)]]
abbrev kE (a b:Int)(c:ByteArray)(d:Int)(e f:List (List D)):V:= .agg [.d (.int .i64 a), .d (.int .i64 b), .d (.str c), .d (.int .i64 d), .d (.sl 1 e), .d (.sl 6 f)]
noncomputable def rec0 (f:Nat):RecI:=recOf Go.Proofs.Tryz.prog f
section
variable {α : Type} (A : Sy) (ds : List D) (j : Nat)
def oE (K:Int→Int→ByteArray→Int→List (List D)→List (List D)→Option α):Option α:=
 (opI (A.cell ds j) .i64).bind fun a=>(opI (A.cell ds (j+1)) .i64).bind fun b=>(opS (A.cell ds (j+2))).bind fun c=>(opI (A.cell ds (j+3)) .i64).bind fun d=>(opL (A.cell ds (j+4)) 1).bind fun e=>(opL (A.cell ds (j+5)) 6).bind fun f=>K a b c d e f
def oP (K:List (List D)→Int→Option α):Option α:=(opL (A.cell ds j) 4).bind fun a=>(opI (A.cell ds (j+1)) .i64).bind fun b=>K a b
def oR (K:List (List D)→Int→Bool→Option α):Option α:=(opL (A.cell ds j) 4).bind fun a=>(opI (A.cell ds (j+1)) .i64).bind fun b=>(opB (A.cell ds (j+2))).bind fun c=>K a b c
def oT (K:Int→ByteArray→Int→Int→Option α):Option α:=(opI (A.cell ds j) .i64).bind fun a=>(opS (A.cell ds (j+1))).bind fun b=>(opI (A.cell ds (j+2)) .i64).bind fun c=>(opI (A.cell ds (j+3)) .i64).bind fun d=>K a b c d
def oQ (K:Bool→Bool→Bool→Int→Int→Int→Option α):Option α:=(opB (A.cell ds j)).bind fun a=>(opB (A.cell ds (j+1))).bind fun b=>(opB (A.cell ds (j+2))).bind fun c=>(opI (A.cell ds (j+3)) .i64).bind fun d=>(opI (A.cell ds (j+4)) .i64).bind fun e=>(opI (A.cell ds (j+5)) .i64).bind fun f=>K a b c d e f
end
end Go.Vm
end

section
set_option maxRecDepth 1000000
set_option maxHeartbeats 0
namespace Go.Vm
open Go.Proofs
noncomputable section
def g106 (A:Sy)(E:Env)(op_:Int):Option PRes:=
 bif (A.ieq op_ 1)then
  some (.val [(.str (bs [45]))])
 else
  bif (A.ieq op_ 4)then
   some (.val [(.str (bs [45]))])
  else
   bif (A.ieq op_ 2)then
    some (.val [(.str (bs [110,111,116]))])
   else
    bif (A.ieq op_ 3)then
     some (.val [(.str (bs [43]))])
    else
     bif (A.ieq op_ 5)then
      some (.val [(.str (bs [42]))])
     else
      bif (A.ieq op_ 6)then
       some (.val [(.str (bs [47]))])
      else
       bif (A.ieq op_ 7)then
        some (.val [(.str (bs [109,111,100]))])
       else
        bif (A.ieq op_ 8)then
         some (.val [(.str (bs [97,110,100]))])
        else
         bif (A.ieq op_ 9)then
          some (.val [(.str (bs [111,114]))])
         else
          bif (A.ieq op_ 10)then
           some (.val [(.str (bs [120,111,114]))])
          else
           (E.call 147 [(.d (.int .i64 op_))]).bind fun p1=>
           (opS (A.cell p1.leaves 0)).bind fun s3=>
           some (.val [(.str s3)])
theorem g106_eq (A:Sy)(E:Env)(op_:Int):(funT A Tryz.prog cs 106 [.d (.int .i64 op_)]).run E=g106 A E op_:=by kernel_rfl
def g147 (A:Sy)(E:Env)(op_:Int):Option PRes:=
 bif (A.ieq op_ 11)then
  some (.val [(.str (bs [61]))])
 else
  bif (A.ieq op_ 12)then
   some (.val [(.str (bs [60,62]))])
  else
   bif (A.ieq op_ 13)then
    some (.val [(.str (bs [60]))])
   else
    bif (A.ieq op_ 14)then
     some (.val [(.str (bs [60,61]))])
    else
     bif (A.ieq op_ 15)then
      some (.val [(.str (bs [62]))])
     else
      bif (A.ieq op_ 16)then
       some (.val [(.str (bs [62,61]))])
      else
       some (.val [(.str (bs []))])
theorem g147_eq (A:Sy)(E:Env)(op_:Int):(funT A Tryz.prog cs 147 [.d (.int .i64 op_)]).run E=g147 A E op_:=by kernel_rfl
def g214 (A:Sy)(E:Env)(op_:Int)(a_0:Int)(a_1:Int)(a_2:ByteArray)(a_3:Int)(a_4:List (List D))(a_5:List (List D))(b_0:Int)(b_1:Int)(b_2:ByteArray)(b_3:Int)(b_4:List (List D))(b_5:List (List D)):Option PRes:=
 some (.val [(.int .i64 6),(.int .i64 0),(.str (bs [])),(.int .i64 op_),(.sl 1 []),(.sl 6 [[(.int .i64 a_0),(.int .i64 a_1),(.str a_2),(.int .i64 a_3),(.sl 1 a_4),(.sl 6 a_5)],[(.int .i64 b_0),(.int .i64 b_1),(.str b_2),(.int .i64 b_3),(.sl 1 b_4),(.sl 6 b_5)]])])
theorem g214_eq (A:Sy)(E:Env)(op_:Int)(a_0:Int)(a_1:Int)(a_2:ByteArray)(a_3:Int)(a_4:List (List D))(a_5:List (List D))(b_0:Int)(b_1:Int)(b_2:ByteArray)(b_3:Int)(b_4:List (List D))(b_5:List (List D)):(funT A Tryz.prog cs 214 [.d (.int .i64 op_),V.agg [.d (.int .i64 a_0),V.d (.int .i64 a_1),V.d (.str a_2),V.d (.int .i64 a_3),V.d (.sl 1 a_4),V.d (.sl 6 a_5)],V.agg [.d (.int .i64 b_0),V.d (.int .i64 b_1),V.d (.str b_2),V.d (.int .i64 b_3),V.d (.sl 1 b_4),V.d (.sl 6 b_5)]]).run E=g214 A E op_ a_0 a_1 a_2 a_3 a_4 a_5 b_0 b_1 b_2 b_3 b_4 b_5:=by kernel_rfl
end
end Go.Vm
end

section
set_option maxRecDepth 1000000
set_option maxHeartbeats 0
namespace Go.Vm
open Go.Proofs
noncomputable section
def g82 (A:Sy)(E:Env)(l_:List (List D))(at_:Int):Option PRes:=
 cutO (
  bif (A.ile 0 at_)then
   some (.inl [(.bool (A.ilt at_ (A.rlen l_)))])
  else
   some (.inl [(.bool false)])
 ) fun ds1=>
 (opB (A.cell ds1 0)).bind fun b2=>
 cutO (
  bif b2 then
   bif (A.inr (A.wrap .i64 (A.sub (A.rlen l_) 1)) (A.rlen l_))then
    (opI (A.cell (A.row l_ (A.wrap .i64 (A.sub (A.rlen l_) 1))) 0) .i64).bind fun n3=>
    some (.inl [(.bool (A.ieq n3 6))])
   else
    none
  else
   some (.inl [(.bool false)])
 ) fun ds4=>
 (opB (A.cell ds4 0)).bind fun b5=>
 some (.val [(.bool b5)])
theorem g82_eq (A:Sy)(E:Env)(l_:List (List D))(at_:Int):(funT A Tryz.prog cs 82 [.d (.sl 4 l_),V.d (.int .i64 at_)]).run E=g82 A E l_ at_:=by kernel_rfl
def g42 (A:Sy)(E:Env)(l_:List (List D))(at_:Int):Option PRes:=
 (E.call 82 [(.d (.sl 4 l_)),(.d (.int .i64 at_))]).bind fun p1=>
 (opB (A.cell p1.leaves 0)).bind fun b3=>
 bif (A.bnot b3)then
  some (.val [(.int .i64 0),(.int .i64 0),(.str (bs [])),(.int .i64 0),(.sl 1 []),(.sl 6 []),(.int .i64 0),(.int .i64 1)])
 else
  (E.call 83 [(.d (.sl 4 l_)),(.d (.int .i64 at_))]).bind fun p4=>
  oE A p4.leaves 0 fun n6 n7 s8 n9 l10 l11=>
  (opI (A.cell p4.leaves 6) .i64).bind fun n12=>
  (opB (A.cell p4.leaves 7)).bind fun b13=>
  bif (A.bnot b13)then
   some (.val [(.int .i64 0),(.int .i64 0),(.str (bs [])),(.int .i64 0),(.sl 1 []),(.sl 6 []),(.int .i64 n12),(.int .i64 2)])
  else
   (E.call 54 [(kE n6 n7 s8 n9 l10 l11)]).bind fun p14=>
   (opI (A.cell p14.leaves 0) .i64).bind fun n16=>
   cutO (
    bif (A.ilt 12 n16)then
     some (.inl [(.bool true)])
    else
     (E.call 53 [(kE n6 n7 s8 n9 l10 l11)]).bind fun p17=>
     (opI (A.cell p17.leaves 0) .i64).bind fun n19=>
     some (.inl [(.bool (A.ilt 60 n19))])
   ) fun ds20=>
   (opB (A.cell ds20 0)).bind fun b21=>
   bif b21 then
    some (.val [(.int .i64 0),(.int .i64 0),(.str (bs [])),(.int .i64 0),(.sl 1 []),(.sl 6 []),(.int .i64 at_),(.int .i64 3)])
   else
    (E.call 25 [(kE n6 n7 s8 n9 l10 l11)]).bind fun p22=>
    (opB (A.cell p22.leaves 0)).bind fun b24=>
    bif (A.bnot b24)then
     some (.val [(.int .i64 0),(.int .i64 0),(.str (bs [])),(.int .i64 0),(.sl 1 []),(.sl 6 []),(.int .i64 at_),(.int .i64 1)])
    else
     some (.val [(.int .i64 n6),(.int .i64 n7),(.str s8),(.int .i64 n9),(.sl 1 l10),(.sl 6 l11),(.int .i64 n12),(.int .i64 0)])
theorem g42_eq (A:Sy)(E:Env)(l_:List (List D))(at_:Int):(funT A Tryz.prog cs 42 [.d (.sl 4 l_),V.d (.int .i64 at_)]).run E=g42 A E l_ at_:=by kernel_rfl
def g54 (A:Sy)(E:Env)(e_0:Int)(e_1:Int)(e_2:ByteArray)(e_3:Int)(e_4:List (List D))(e_5:List (List D)):Option PRes:=
 E.lp (fun ds1=>
  (opI (A.cell ds1 0) .i64).bind fun n2=>
  (opL (A.cell ds1 1) 6).bind fun l3=>
  (opI (A.cell ds1 2) .i64).bind fun n4=>
  (opI (A.cell ds1 3) .i64).bind fun n5=>
  bif (A.ilt n5 n4)then
   bif (A.inr n5 (A.rlen l3))then
    oE A (A.row l3 n5) 0 fun n6 n7 s8 n9 l10 l11=>
    (E.call 54 [(kE n6 n7 s8 n9 l10 l11)]).bind fun p12=>
    (opI (A.cell p12.leaves 0) .i64).bind fun n14=>
    some (.inl [(.int .i64 (A.imax n2 n14)),(.sl 6 l3),(.int .i64 n4),(.int .i64 (A.wrap .i64 (A.add n5 1)))])
   else
    none
  else
   some (.inr (.val [(.int .i64 (A.wrap .i64 (A.add n2 1)))]))
 ) [(.int .i64 0),(.sl 6 e_5),(.int .i64 (A.rlen e_5)),(.int .i64 0)]
theorem g54_eq (A:Sy)(E:Env)(e_0:Int)(e_1:Int)(e_2:ByteArray)(e_3:Int)(e_4:List (List D))(e_5:List (List D)):(funT A Tryz.prog cs 54 [.agg [.d (.int .i64 e_0),V.d (.int .i64 e_1),V.d (.str e_2),V.d (.int .i64 e_3),V.d (.sl 1 e_4),V.d (.sl 6 e_5)]]).run E=g54 A E e_0 e_1 e_2 e_3 e_4 e_5:=by kernel_rfl
def g99 (A:Sy)(E:Env)(e_0:Int)(e_1:Int)(e_2:ByteArray)(e_3:Int)(e_4:List (List D))(e_5:List (List D)):Option PRes:=
 bif (A.ieq e_0 1)then
  (E.call 141 [(kE e_0 e_1 e_2 e_3 e_4 e_5)]).bind fun p1=>
  oQ A p1.leaves 0 fun b3 b4 b5 n6 n7 n8=>
  some (.val [(.bool b3),(.bool b4),(.bool b5),(.int .i64 n6),(.int .i64 n7),(.int .i64 n8),(.bool true)])
 else
  bif (A.ieq e_0 2)then
   (E.call 141 [(kE e_0 e_1 e_2 e_3 e_4 e_5)]).bind fun p9=>
   oQ A p9.leaves 0 fun b11 b12 b13 n14 n15 n16=>
   some (.val [(.bool b11),(.bool b12),(.bool b13),(.int .i64 n14),(.int .i64 n15),(.int .i64 n16),(.bool true)])
  else
   bif (A.ieq e_0 3)then
    (E.call 141 [(kE e_0 e_1 e_2 e_3 e_4 e_5)]).bind fun p17=>
    oQ A p17.leaves 0 fun b19 b20 b21 n22 n23 n24=>
    some (.val [(.bool b19),(.bool b20),(.bool b21),(.int .i64 n22),(.int .i64 n23),(.int .i64 n24),(.bool true)])
   else
    bif (A.ieq e_0 4)then
     (E.call 141 [(kE e_0 e_1 e_2 e_3 e_4 e_5)]).bind fun p25=>
     oQ A p25.leaves 0 fun b27 b28 b29 n30 n31 n32=>
     some (.val [(.bool b27),(.bool b28),(.bool b29),(.int .i64 n30),(.int .i64 n31),(.int .i64 n32),(.bool true)])
    else
     bif (A.ieq e_0 17)then
      (E.call 141 [(kE e_0 e_1 e_2 e_3 e_4 e_5)]).bind fun p33=>
      oQ A p33.leaves 0 fun b35 b36 b37 n38 n39 n40=>
      some (.val [(.bool b35),(.bool b36),(.bool b37),(.int .i64 n38),(.int .i64 n39),(.int .i64 n40),(.bool true)])
     else
      bif (A.ieq e_0 5)then
       (E.call 142 [(kE e_0 e_1 e_2 e_3 e_4 e_5),(.d (.int .i64 1))]).bind fun p41=>
       oQ A p41.leaves 0 fun b43 b44 b45 n46 n47 n48=>
       cutO (
        bif (A.ieq e_3 1)then
         some (.inl [(.bool true)])
        else
         some (.inl [(.bool (A.ieq e_3 2))])
       ) fun ds49=>
       (opB (A.cell ds49 0)).bind fun b50=>
       some (.val [(.bool b43),(.bool b44),(.bool b50),(.int .i64 n46),(.int .i64 n47),(.int .i64 n48),(.bool true)])
      else
       bif (A.ieq e_0 6)then
        (E.call 142 [(kE e_0 e_1 e_2 e_3 e_4 e_5),(.d (.int .i64 2))]).bind fun p51=>
        oQ A p51.leaves 0 fun b53 b54 b55 n56 n57 n58=>
        cutO (
         bif (A.ile 3 e_3)then
          some (.inl [(.bool (A.ile e_3 16))])
         else
          some (.inl [(.bool false)])
        ) fun ds59=>
        (opB (A.cell ds59 0)).bind fun b60=>
        some (.val [(.bool b53),(.bool b54),(.bool b60),(.int .i64 n56),(.int .i64 n57),(.int .i64 n58),(.bool true)])
       else
        bif (A.ieq e_0 7)then
         (E.call 142 [(kE e_0 e_1 e_2 e_3 e_4 e_5),(.d (.int .i64 3))]).bind fun p61=>
         oQ A p61.leaves 0 fun b63 b64 b65 n66 n67 n68=>
         some (.val [(.bool b63),(.bool b64),(.bool b65),(.int .i64 n66),(.int .i64 n67),(.int .i64 n68),(.bool true)])
        else
         bif (A.ieq e_0 16)then
          (E.call 142 [(kE e_0 e_1 e_2 e_3 e_4 e_5),(.d (.int .i64 3))]).bind fun p69=>
          oQ A p69.leaves 0 fun b71 b72 b73 n74 n75 n76=>
          some (.val [(.bool b71),(.bool b72),(.bool b73),(.int .i64 n74),(.int .i64 n75),(.int .i64 n76),(.bool true)])
         else
          bif (A.ieq e_0 8)then
           (E.call 142 [(kE e_0 e_1 e_2 e_3 e_4 e_5),(.d (.int .i64 2))]).bind fun p77=>
           oQ A p77.leaves 0 fun b79 b80 b81 n82 n83 n84=>
           some (.val [(.bool b79),(.bool b80),(.bool b81),(.int .i64 n82),(.int .i64 n83),(.int .i64 n84),(.bool true)])
          else
           bif (A.ieq e_0 9)then
            (E.call 142 [(kE e_0 e_1 e_2 e_3 e_4 e_5),(.d (.int .i64 2))]).bind fun p85=>
            oQ A p85.leaves 0 fun b87 b88 b89 n90 n91 n92=>
            some (.val [(.bool b87),(.bool b88),(.bool b89),(.int .i64 n90),(.int .i64 n91),(.int .i64 n92),(.bool true)])
           else
            bif (A.ieq e_0 15)then
             (E.call 142 [(kE e_0 e_1 e_2 e_3 e_4 e_5),(.d (.int .i64 2))]).bind fun p93=>
             oQ A p93.leaves 0 fun b95 b96 b97 n98 n99 n100=>
             some (.val [(.bool b95),(.bool b96),(.bool b97),(.int .i64 n98),(.int .i64 n99),(.int .i64 n100),(.bool true)])
            else
             bif (A.ieq e_0 10)then
              (E.call 142 [(kE e_0 e_1 e_2 e_3 e_4 e_5),(.d (.int .i64 1))]).bind fun p101=>
              oQ A p101.leaves 0 fun b103 b104 b105 n106 n107 n108=>
              some (.val [(.bool b103),(.bool b104),(.bool b105),(.int .i64 n106),(.int .i64 n107),(.int .i64 n108),(.bool true)])
             else
              bif (A.ieq e_0 11)then
               (E.call 142 [(kE e_0 e_1 e_2 e_3 e_4 e_5),(.d (.int .i64 1))]).bind fun p109=>
               oQ A p109.leaves 0 fun b111 b112 b113 n114 n115 n116=>
               (E.call 95 [(.d (.str e_2))]).bind fun p117=>
               (opB (A.cell p117.leaves 0)).bind fun b119=>
               some (.val [(.bool b111),(.bool b119),(.bool b113),(.int .i64 n114),(.int .i64 n115),(.int .i64 1),(.bool true)])
              else
               bif (A.ieq e_0 12)then
                (E.call 142 [(kE e_0 e_1 e_2 e_3 e_4 e_5),(.d (.int .i64 (A.rlen e_4)))]).bind fun p120=>
                oQ A p120.leaves 0 fun b122 b123 b124 n125 n126 n127=>
                (E.call 95 [(.d (.str e_2))]).bind fun p128=>
                (opB (A.cell p128.leaves 0)).bind fun b130=>
                some (.val [(.bool b122),(.bool b130),(.bool b124),(.int .i64 n125),(.int .i64 n126),(.int .i64 6),(.bool true)])
               else
                bif (A.ieq e_0 13)then
                 bif (A.ieq e_1 0)then
                  (E.call 95 [(.d (.str e_2))]).bind fun p131=>
                  (opB (A.cell p131.leaves 0)).bind fun b133=>
                  bif (A.ieq e_1 0)then
                   some (.val [(.bool true),(.bool b133),(.bool (A.ieq e_3 0)),(.int .i64 e_1),(.int .i64 6),(.int .i64 0),(.bool true)])
                  else
                   some (.val [(.bool true),(.bool b133),(.bool (A.ieq e_3 0)),(.int .i64 e_1),(.int .i64 7),(.int .i64 0),(.bool true)])
                 else
                  (E.call 95 [(.d (.str e_2))]).bind fun p134=>
                  (opB (A.cell p134.leaves 0)).bind fun b136=>
                  bif (A.ieq e_1 0)then
                   some (.val [(.bool (A.ieq e_1 1)),(.bool b136),(.bool (A.ieq e_3 0)),(.int .i64 e_1),(.int .i64 6),(.int .i64 0),(.bool true)])
                  else
                   some (.val [(.bool (A.ieq e_1 1)),(.bool b136),(.bool (A.ieq e_3 0)),(.int .i64 e_1),(.int .i64 7),(.int .i64 0),(.bool true)])
                else
                 bif (A.ieq e_0 14)then
                  (E.call 142 [(kE e_0 e_1 e_2 e_3 e_4 e_5),(.d (.int .i64 1))]).bind fun p137=>
                  oQ A p137.leaves 0 fun b139 b140 b141 n142 n143 n144=>
                  some (.val [(.bool b139),(.bool b140),(.bool b141),(.int .i64 n142),(.int .i64 8),(.int .i64 n144),(.bool true)])
                 else
                  some (.val [(.bool false),(.bool false),(.bool false),(.int .i64 0),(.int .i64 0),(.int .i64 0),(.bool false)])
theorem g99_eq (A:Sy)(E:Env)(e_0:Int)(e_1:Int)(e_2:ByteArray)(e_3:Int)(e_4:List (List D))(e_5:List (List D)):(funT A Tryz.prog cs 99 [.agg [.d (.int .i64 e_0),V.d (.int .i64 e_1),V.d (.str e_2),V.d (.int .i64 e_3),V.d (.sl 1 e_4),V.d (.sl 6 e_5)]]).run E=g99 A E e_0 e_1 e_2 e_3 e_4 e_5:=by kernel_rfl
def g141 (A:Sy)(E:Env)(e_0:Int)(e_1:Int)(e_2:ByteArray)(e_3:Int)(e_4:List (List D))(e_5:List (List D)):Option PRes:=
 (E.call 142 [(kE e_0 e_1 e_2 e_3 e_4 e_5),(.d (.int .i64 0))]).bind fun p1=>
 oQ A p1.leaves 0 fun b3 b4 b5 n6 n7 n8=>
 bif (A.ieq e_0 1)then
  some (.val [(.bool (A.ile 0 e_1)),(.bool b4),(.bool b5),(.int .i64 n6),(.int .i64 n7),(.int .i64 n8)])
 else
  bif (A.ieq e_0 2)then
   cutO (
    bif (A.ieq e_1 0)then
     some (.inl [(.bool true)])
    else
     some (.inl [(.bool (A.ieq e_1 1))])
   ) fun ds9=>
   (opB (A.cell ds9 0)).bind fun b10=>
   some (.val [(.bool b10),(.bool b4),(.bool b5),(.int .i64 n6),(.int .i64 n7),(.int .i64 n8)])
  else
   bif (A.ieq e_0 3)then
    (E.call 95 [(.d (.str e_2))]).bind fun p11=>
    (opB (A.cell p11.leaves 0)).bind fun b13=>
    some (.val [(.bool b3),(.bool b13),(.bool b5),(.int .i64 n6),(.int .i64 n7),(.int .i64 n8)])
   else
    bif (A.ieq e_0 4)then
     (E.call 124 [(.d (.str e_2))]).bind fun p14=>
     (opB (A.cell p14.leaves 0)).bind fun b16=>
     some (.val [(.bool b3),(.bool b16),(.bool b5),(.int .i64 n6),(.int .i64 n7),(.int .i64 n8)])
    else
     bif (A.ieq e_0 17)then
      (E.call 24 [(.d (.str e_2))]).bind fun p17=>
      (opB (A.cell p17.leaves 0)).bind fun b19=>
      some (.val [(.bool b3),(.bool b19),(.bool b5),(.int .i64 n6),(.int .i64 n7),(.int .i64 n8)])
     else
      some (.val [(.bool b3),(.bool b4),(.bool b5),(.int .i64 n6),(.int .i64 n7),(.int .i64 n8)])
theorem g141_eq (A:Sy)(E:Env)(e_0:Int)(e_1:Int)(e_2:ByteArray)(e_3:Int)(e_4:List (List D))(e_5:List (List D)):(funT A Tryz.prog cs 141 [.agg [.d (.int .i64 e_0),V.d (.int .i64 e_1),V.d (.str e_2),V.d (.int .i64 e_3),V.d (.sl 1 e_4),V.d (.sl 6 e_5)]]).run E=g141 A E e_0 e_1 e_2 e_3 e_4 e_5:=by kernel_rfl
def g142 (A:Sy)(E:Env)(e_0:Int)(e_1:Int)(e_2:ByteArray)(e_3:Int)(e_4:List (List D))(e_5:List (List D))(n_:Int):Option PRes:=
 some (.val [(.bool (A.ieq e_1 0)),(.bool (A.seq e_2 (bs []))),(.bool (A.ieq e_3 0)),(.int .i64 n_),(.int .i64 n_),(.int .i64 0)])
theorem g142_eq (A:Sy)(E:Env)(e_0:Int)(e_1:Int)(e_2:ByteArray)(e_3:Int)(e_4:List (List D))(e_5:List (List D))(n_:Int):(funT A Tryz.prog cs 142 [.agg [.d (.int .i64 e_0),V.d (.int .i64 e_1),V.d (.str e_2),V.d (.int .i64 e_3),V.d (.sl 1 e_4),V.d (.sl 6 e_5)],V.d (.int .i64 n_)]).run E=g142 A E e_0 e_1 e_2 e_3 e_4 e_5 n_:=by kernel_rfl
def g102 (A:Sy)(E:Env)(s_:ByteArray):Option PRes:=
 (E.call 124 [(.d (.str s_))]).bind fun p1=>
 (opB (A.cell p1.leaves 0)).bind fun b3=>
 cutO (
  bif b3 then
   some (.inl [(.bool true)])
  else
   some (.inl [(.bool (A.seq s_ (bs [116,114,117,101])))])
 ) fun ds4=>
 (opB (A.cell ds4 0)).bind fun b5=>
 cutO (
  bif b5 then
   some (.inl [(.bool true)])
  else
   some (.inl [(.bool (A.seq s_ (bs [102,97,108,115,101])))])
 ) fun ds6=>
 (opB (A.cell ds6 0)).bind fun b7=>
 some (.val [(.bool b7)])
theorem g102_eq (A:Sy)(E:Env)(s_:ByteArray):(funT A Tryz.prog cs 102 [.d (.str s_)]).run E=g102 A E s_:=by kernel_rfl
def g144 (A:Sy)(E:Env)(e_0:Int)(e_1:Int)(e_2:ByteArray)(e_3:Int)(e_4:List (List D))(e_5:List (List D)):Option PRes:=
 bif (A.ieq e_0 1)then
  some (.val [(.bool true)])
 else
  bif (A.ieq e_0 2)then
   some (.val [(.bool true)])
  else
   bif (A.ieq e_0 4)then
    some (.val [(.bool true)])
   else
    bif (A.ieq e_0 5)then
     cutO (
      bif (A.ieq e_3 1)then
       some (.inl [(.bool (A.ieq (A.rlen e_5) 1))])
      else
       some (.inl [(.bool false)])
     ) fun ds1=>
     (opB (A.cell ds1 0)).bind fun b2=>
     cutO (
      bif b2 then
       bif (A.inr 0 (A.rlen e_5))then
        (opI (A.cell (A.row e_5 0) 0) .i64).bind fun n3=>
        some (.inl [(.bool (A.ieq n3 1))])
       else
        none
      else
       some (.inl [(.bool false)])
     ) fun ds4=>
     (opB (A.cell ds4 0)).bind fun b5=>
     some (.val [(.bool b5)])
    else
     some (.val [(.bool false)])
theorem g144_eq (A:Sy)(E:Env)(e_0:Int)(e_1:Int)(e_2:ByteArray)(e_3:Int)(e_4:List (List D))(e_5:List (List D)):(funT A Tryz.prog cs 144 [.agg [.d (.int .i64 e_0),V.d (.int .i64 e_1),V.d (.str e_2),V.d (.int .i64 e_3),V.d (.sl 1 e_4),V.d (.sl 6 e_5)]]).run E=g144 A E e_0 e_1 e_2 e_3 e_4 e_5:=by kernel_rfl
def g47 (A:Sy)(E:Env)(e_0:Int)(e_1:Int)(e_2:ByteArray)(e_3:Int)(e_4:List (List D))(e_5:List (List D)):Option PRes:=
 E.lp (fun ds1=>
  (opI (A.cell ds1 0) .i64).bind fun n2=>
  (opI (A.cell ds1 1) .i64).bind fun n3=>
  oE A ds1 2 fun n4 n5 s6 n7 l8 l9=>
  bif (A.ilt n3 (A.rlen l9))then
   bif (A.inr n3 (A.rlen l9))then
    oE A (A.row l9 n3) 0 fun n10 n11 s12 n13 l14 l15=>
    (E.call 47 [(kE n10 n11 s12 n13 l14 l15)]).bind fun p16=>
    (opI (A.cell p16.leaves 0) .i64).bind fun n18=>
    some (.inl [(.int .i64 (A.wrap .i64 (A.add n2 n18))),(.int .i64 (A.wrap .i64 (A.add n3 1))),(.int .i64 n4),(.int .i64 n5),(.str s6),(.int .i64 n7),(.sl 1 l8),(.sl 6 l9)])
   else
    none
  else
   some (.inr (.val [(.int .i64 n2)]))
 ) [(.int .i64 1),(.int .i64 0),(.int .i64 e_0),(.int .i64 e_1),(.str e_2),(.int .i64 e_3),(.sl 1 e_4),(.sl 6 e_5)]
theorem g47_eq (A:Sy)(E:Env)(e_0:Int)(e_1:Int)(e_2:ByteArray)(e_3:Int)(e_4:List (List D))(e_5:List (List D)):(funT A Tryz.prog cs 47 [.agg [.d (.int .i64 e_0),V.d (.int .i64 e_1),V.d (.str e_2),V.d (.int .i64 e_3),V.d (.sl 1 e_4),V.d (.sl 6 e_5)]]).run E=g47 A E e_0 e_1 e_2 e_3 e_4 e_5:=by kernel_rfl
def g46 (A:Sy)(E:Env)(e_0:Int)(e_1:Int)(e_2:ByteArray)(e_3:Int)(e_4:List (List D))(e_5:List (List D)):Option PRes:=
 E.lp (fun ds1=>
  (opI (A.cell ds1 0) .i64).bind fun n2=>
  (opI (A.cell ds1 1) .i64).bind fun n3=>
  oE A ds1 2 fun n4 n5 s6 n7 l8 l9=>
  bif (A.ilt n3 (A.rlen l9))then
   bif (A.inr n3 (A.rlen l9))then
    oE A (A.row l9 n3) 0 fun n10 n11 s12 n13 l14 l15=>
    (E.call 46 [(kE n10 n11 s12 n13 l14 l15)]).bind fun p16=>
    (opI (A.cell p16.leaves 0) .i64).bind fun n18=>
    some (.inl [(.int .i64 (A.imax n2 n18)),(.int .i64 (A.wrap .i64 (A.add n3 1))),(.int .i64 n4),(.int .i64 n5),(.str s6),(.int .i64 n7),(.sl 1 l8),(.sl 6 l9)])
   else
    none
  else
   some (.inr (.val [(.int .i64 (A.wrap .i64 (A.add n2 1)))]))
 ) [(.int .i64 0),(.int .i64 0),(.int .i64 e_0),(.int .i64 e_1),(.str e_2),(.int .i64 e_3),(.sl 1 e_4),(.sl 6 e_5)]
theorem g46_eq (A:Sy)(E:Env)(e_0:Int)(e_1:Int)(e_2:ByteArray)(e_3:Int)(e_4:List (List D))(e_5:List (List D)):(funT A Tryz.prog cs 46 [.agg [.d (.int .i64 e_0),V.d (.int .i64 e_1),V.d (.str e_2),V.d (.int .i64 e_3),V.d (.sl 1 e_4),V.d (.sl 6 e_5)]]).run E=g46 A E e_0 e_1 e_2 e_3 e_4 e_5:=by kernel_rfl
def g64 (A:Sy)(E:Env)(e_0:Int)(e_1:Int)(e_2:ByteArray)(e_3:Int)(e_4:List (List D))(e_5:List (List D)):Option PRes:=
 E.lp (fun ds1=>
  (opI (A.cell ds1 0) .i64).bind fun n2=>
  oE A ds1 1 fun n3 n4 s5 n6 l7 l8=>
  (opL (A.cell ds1 7) 6).bind fun l9=>
  bif (A.ilt n2 (A.rlen l8))then
   bif (A.inr n2 (A.rlen l8))then
    oE A (A.row l8 n2) 0 fun n10 n11 s12 n13 l14 l15=>
    (E.call 64 [(kE n10 n11 s12 n13 l14 l15)]).bind fun p16=>
    (opL (A.cell p16.leaves 0) 6).bind fun l18=>
    bif (A.fits l9 l18 88)then
     some (.inl [(.int .i64 (A.wrap .i64 (A.add n2 1))),(.int .i64 n3),(.int .i64 n4),(.str s5),(.int .i64 n6),(.sl 1 l7),(.sl 6 l8),(.sl 6 (A.rapp l9 l18))])
    else
     none
   else
    none
  else
   some (.inr (.own 38 6 l9))
 ) [(.int .i64 0),(.int .i64 e_0),(.int .i64 e_1),(.str e_2),(.int .i64 e_3),(.sl 1 e_4),(.sl 6 e_5),(.sl 6 [[(.int .i64 e_0),(.int .i64 e_1),(.str e_2),(.int .i64 e_3),(.sl 1 e_4),(.sl 6 e_5)]])]
theorem g64_eq (A:Sy)(E:Env)(e_0:Int)(e_1:Int)(e_2:ByteArray)(e_3:Int)(e_4:List (List D))(e_5:List (List D)):(funT A Tryz.prog cs 64 [.agg [.d (.int .i64 e_0),V.d (.int .i64 e_1),V.d (.str e_2),V.d (.int .i64 e_3),V.d (.sl 1 e_4),V.d (.sl 6 e_5)]]).run E=g64 A E e_0 e_1 e_2 e_3 e_4 e_5:=by kernel_rfl
def g65 (A:Sy)(E:Env)(e_0:Int)(e_1:Int)(e_2:ByteArray)(e_3:Int)(e_4:List (List D))(e_5:List (List D)):Option PRes:=
 cutO (
  bif (A.ilt e_0 1)then
   some (.inl [(.bool true)])
  else
   some (.inl [(.bool (A.ilt 17 e_0))])
 ) fun ds1=>
 (opB (A.cell ds1 0)).bind fun b2=>
 cutO (
  bif b2 then
   some (.inl [(.bool true)])
  else
   (E.call 112 [(kE e_0 e_1 e_2 e_3 e_4 e_5)]).bind fun p3=>
   (opB (A.cell p3.leaves 0)).bind fun b5=>
   some (.inl [(.bool (A.bnot b5))])
 ) fun ds6=>
 (opB (A.cell ds6 0)).bind fun b7=>
 cutO (
  bif b7 then
   some (.inl [(.bool true)])
  else
   (E.call 113 [(kE e_0 e_1 e_2 e_3 e_4 e_5)]).bind fun p8=>
   (opB (A.cell p8.leaves 0)).bind fun b10=>
   some (.inl [(.bool (A.bnot b10))])
 ) fun ds11=>
 (opB (A.cell ds11 0)).bind fun b12=>
 cutO (
  bif b12 then
   some (.inl [(.bool true)])
  else
   (E.call 114 [(kE e_0 e_1 e_2 e_3 e_4 e_5)]).bind fun p13=>
   (opB (A.cell p13.leaves 0)).bind fun b15=>
   some (.inl [(.bool (A.bnot b15))])
 ) fun ds16=>
 (opB (A.cell ds16 0)).bind fun b17=>
 bif b17 then
  some (.val [(.bool false)])
 else
  (E.call 115 [(kE e_0 e_1 e_2 e_3 e_4 e_5)]).bind fun p18=>
  (opI (A.cell p18.leaves 0) .i64).bind fun n20=>
  (opI (A.cell p18.leaves 1) .i64).bind fun n21=>
  cutO (
   bif (A.ile n20 (A.rlen e_5))then
    some (.inl [(.bool (A.ile (A.rlen e_5) n21))])
   else
    some (.inl [(.bool false)])
  ) fun ds22=>
  (opB (A.cell ds22 0)).bind fun b23=>
  cutO (
   bif b23 then
    bif (A.bnot (A.ieq e_0 8))then
     some (.inl [(.bool true)])
    else
     bif (A.inr 0 (A.rlen e_5))then
      oE A (A.row e_5 0) 0 fun n24 n25 s26 n27 l28 l29=>
      (E.call 116 [(kE n24 n25 s26 n27 l28 l29)]).bind fun p30=>
      (opB (A.cell p30.leaves 0)).bind fun b32=>
      some (.inl [(.bool b32)])
     else
      none
   else
    some (.inl [(.bool false)])
  ) fun ds33=>
  (opB (A.cell ds33 0)).bind fun b34=>
  some (.val [(.bool b34)])
theorem g65_eq (A:Sy)(E:Env)(e_0:Int)(e_1:Int)(e_2:ByteArray)(e_3:Int)(e_4:List (List D))(e_5:List (List D)):(funT A Tryz.prog cs 65 [.agg [.d (.int .i64 e_0),V.d (.int .i64 e_1),V.d (.str e_2),V.d (.int .i64 e_3),V.d (.sl 1 e_4),V.d (.sl 6 e_5)]]).run E=g65 A E e_0 e_1 e_2 e_3 e_4 e_5:=by kernel_rfl
def g31 (A:Sy)(E:Env)(e_0:Int)(e_1:Int)(e_2:ByteArray)(e_3:Int)(e_4:List (List D))(e_5:List (List D)):Option PRes:=
 (E.call 47 [(kE e_0 e_1 e_2 e_3 e_4 e_5)]).bind fun p1=>
 (opI (A.cell p1.leaves 0) .i64).bind fun n3=>
 cutO (
  bif (A.ilt 60 n3)then
   some (.inl [(.bool true)])
  else
   (E.call 46 [(kE e_0 e_1 e_2 e_3 e_4 e_5)]).bind fun p4=>
   (opI (A.cell p4.leaves 0) .i64).bind fun n6=>
   some (.inl [(.bool (A.ilt 12 n6))])
 ) fun ds7=>
 (opB (A.cell ds7 0)).bind fun b8=>
 bif b8 then
  some (.val [(.bool false)])
 else
  (E.call 64 [(kE e_0 e_1 e_2 e_3 e_4 e_5)]).bind fun p9=>
  (opL (A.cell p9.leaves 0) 6).bind fun l11=>
  E.lp (fun ds12=>
   (opL (A.cell ds12 0) 6).bind fun l13=>
   (opI (A.cell ds12 1) .i64).bind fun n14=>
   bif (A.ilt n14 (A.rlen l13))then
    bif (A.inr n14 (A.rlen l13))then
     oE A (A.row l13 n14) 0 fun n15 n16 s17 n18 l19 l20=>
     (E.call 65 [(kE n15 n16 s17 n18 l19 l20)]).bind fun p21=>
     (opB (A.cell p21.leaves 0)).bind fun b23=>
     bif (A.bnot b23)then
      some (.inr (.val [(.bool false)]))
     else
      some (.inl [(.sl 6 l13),(.int .i64 (A.wrap .i64 (A.add n14 1)))])
    else
     none
   else
    some (.inr (.val [(.bool true)]))
  ) [(.sl 6 l11),(.int .i64 0)]
theorem g31_eq (A:Sy)(E:Env)(e_0:Int)(e_1:Int)(e_2:ByteArray)(e_3:Int)(e_4:List (List D))(e_5:List (List D)):(funT A Tryz.prog cs 31 [.agg [.d (.int .i64 e_0),V.d (.int .i64 e_1),V.d (.str e_2),V.d (.int .i64 e_3),V.d (.sl 1 e_4),V.d (.sl 6 e_5)]]).run E=g31 A E e_0 e_1 e_2 e_3 e_4 e_5:=by kernel_rfl
def g22 (A:Sy)(E:Env)(a_0:Int)(a_1:Int)(a_2:ByteArray)(a_3:Int)(a_4:List (List D))(a_5:List (List D))(b_0:Int)(b_1:Int)(b_2:ByteArray)(b_3:Int)(b_4:List (List D))(b_5:List (List D)):Option PRes:=
 cutO (
  bif (A.bnot (A.ieq a_0 b_0))then
   some (.inl [(.bool true)])
  else
   some (.inl [(.bool (A.bnot (A.ieq a_1 b_1)))])
 ) fun ds1=>
 (opB (A.cell ds1 0)).bind fun b2=>
 cutO (
  bif b2 then
   some (.inl [(.bool true)])
  else
   some (.inl [(.bool (A.bnot (A.seq a_2 b_2)))])
 ) fun ds3=>
 (opB (A.cell ds3 0)).bind fun b4=>
 cutO (
  bif b4 then
   some (.inl [(.bool true)])
  else
   some (.inl [(.bool (A.bnot (A.ieq a_3 b_3)))])
 ) fun ds5=>
 (opB (A.cell ds5 0)).bind fun b6=>
 cutO (
  bif b6 then
   some (.inl [(.bool true)])
  else
   (E.call 48 [(.d (.sl 1 a_4)),(.d (.sl 1 b_4))]).bind fun p7=>
   (opB (A.cell p7.leaves 0)).bind fun b9=>
   some (.inl [(.bool (A.bnot b9))])
 ) fun ds10=>
 (opB (A.cell ds10 0)).bind fun b11=>
 cutO (
  bif b11 then
   some (.inl [(.bool true)])
  else
   some (.inl [(.bool (A.bnot (A.ieq (A.rlen a_5) (A.rlen b_5))))])
 ) fun ds12=>
 (opB (A.cell ds12 0)).bind fun b13=>
 bif b13 then
  some (.val [(.bool false)])
 else
  E.lp (fun ds14=>
   (opI (A.cell ds14 0) .i64).bind fun n15=>
   oE A ds14 1 fun n16 n17 s18 n19 l20 l21=>
   oE A ds14 7 fun n22 n23 s24 n25 l26 l27=>
   bif (A.ilt n15 (A.rlen l21))then
    bif (A.inr n15 (A.rlen l21))then
     oE A (A.row l21 n15) 0 fun n28 n29 s30 n31 l32 l33=>
     bif (A.inr n15 (A.rlen l27))then
      oE A (A.row l27 n15) 0 fun n34 n35 s36 n37 l38 l39=>
      (E.call 22 [(kE n28 n29 s30 n31 l32 l33),(kE n34 n35 s36 n37 l38 l39)]).bind fun p40=>
      (opB (A.cell p40.leaves 0)).bind fun b42=>
      bif (A.bnot b42)then
       some (.inr (.val [(.bool false)]))
      else
       some (.inl [(.int .i64 (A.wrap .i64 (A.add n15 1))),(.int .i64 n16),(.int .i64 n17),(.str s18),(.int .i64 n19),(.sl 1 l20),(.sl 6 l21),(.int .i64 n22),(.int .i64 n23),(.str s24),(.int .i64 n25),(.sl 1 l26),(.sl 6 l27)])
     else
      none
    else
     none
   else
    some (.inr (.val [(.bool true)]))
  ) [(.int .i64 0),(.int .i64 a_0),(.int .i64 a_1),(.str a_2),(.int .i64 a_3),(.sl 1 a_4),(.sl 6 a_5),(.int .i64 b_0),(.int .i64 b_1),(.str b_2),(.int .i64 b_3),(.sl 1 b_4),(.sl 6 b_5)]
theorem g22_eq (A:Sy)(E:Env)(a_0:Int)(a_1:Int)(a_2:ByteArray)(a_3:Int)(a_4:List (List D))(a_5:List (List D))(b_0:Int)(b_1:Int)(b_2:ByteArray)(b_3:Int)(b_4:List (List D))(b_5:List (List D)):(funT A Tryz.prog cs 22 [.agg [.d (.int .i64 a_0),V.d (.int .i64 a_1),V.d (.str a_2),V.d (.int .i64 a_3),V.d (.sl 1 a_4),V.d (.sl 6 a_5)],V.agg [.d (.int .i64 b_0),V.d (.int .i64 b_1),V.d (.str b_2),V.d (.int .i64 b_3),V.d (.sl 1 b_4),V.d (.sl 6 b_5)]]).run E=g22 A E a_0 a_1 a_2 a_3 a_4 a_5 b_0 b_1 b_2 b_3 b_4 b_5:=by kernel_rfl
def g112 (A:Sy)(E:Env)(e_0:Int)(e_1:Int)(e_2:ByteArray)(e_3:Int)(e_4:List (List D))(e_5:List (List D)):Option PRes:=
 bif (A.ieq e_0 5)then
  bif (A.ieq e_0 6)then
   cutO (
    bif (A.ilt e_3 3)then
     some (.inl [(.bool true)])
    else
     some (.inl [(.bool (A.ilt 16 e_3))])
   ) fun ds1=>
   (opB (A.cell ds1 0)).bind fun b2=>
   bif b2 then
    some (.val [(.bool false)])
   else
    bif (A.ieq e_0 1)then
     some (.val [(.bool (A.ile 0 e_1))])
    else
     cutO (
      bif (A.ieq e_0 2)then
       some (.inl [(.bool true)])
      else
       some (.inl [(.bool (A.ieq e_0 13))])
     ) fun ds3=>
     (opB (A.cell ds3 0)).bind fun b4=>
     bif b4 then
      cutO (
       bif (A.ieq e_1 0)then
        some (.inl [(.bool true)])
       else
        some (.inl [(.bool (A.ieq e_1 1))])
      ) fun ds5=>
      (opB (A.cell ds5 0)).bind fun b6=>
      some (.val [(.bool b6)])
     else
      some (.val [(.bool (A.ieq e_1 0))])
  else
   cutO (
    bif (A.ilt e_3 1)then
     some (.inl [(.bool true)])
    else
     some (.inl [(.bool (A.ilt 2 e_3))])
   ) fun ds7=>
   (opB (A.cell ds7 0)).bind fun b8=>
   bif b8 then
    some (.val [(.bool false)])
   else
    bif (A.ieq e_0 1)then
     some (.val [(.bool (A.ile 0 e_1))])
    else
     cutO (
      bif (A.ieq e_0 2)then
       some (.inl [(.bool true)])
      else
       some (.inl [(.bool (A.ieq e_0 13))])
     ) fun ds9=>
     (opB (A.cell ds9 0)).bind fun b10=>
     bif b10 then
      cutO (
       bif (A.ieq e_1 0)then
        some (.inl [(.bool true)])
       else
        some (.inl [(.bool (A.ieq e_1 1))])
      ) fun ds11=>
      (opB (A.cell ds11 0)).bind fun b12=>
      some (.val [(.bool b12)])
     else
      some (.val [(.bool (A.ieq e_1 0))])
 else
  bif (A.ieq e_0 6)then
   cutO (
    bif (A.ilt e_3 3)then
     some (.inl [(.bool true)])
    else
     some (.inl [(.bool (A.ilt 16 e_3))])
   ) fun ds13=>
   (opB (A.cell ds13 0)).bind fun b14=>
   bif b14 then
    some (.val [(.bool false)])
   else
    bif (A.ieq e_0 1)then
     some (.val [(.bool (A.ile 0 e_1))])
    else
     cutO (
      bif (A.ieq e_0 2)then
       some (.inl [(.bool true)])
      else
       some (.inl [(.bool (A.ieq e_0 13))])
     ) fun ds15=>
     (opB (A.cell ds15 0)).bind fun b16=>
     bif b16 then
      cutO (
       bif (A.ieq e_1 0)then
        some (.inl [(.bool true)])
       else
        some (.inl [(.bool (A.ieq e_1 1))])
      ) fun ds17=>
      (opB (A.cell ds17 0)).bind fun b18=>
      some (.val [(.bool b18)])
     else
      some (.val [(.bool (A.ieq e_1 0))])
  else
   cutO (
    bif (A.ilt e_3 0)then
     some (.inl [(.bool true)])
    else
     some (.inl [(.bool (A.ilt 0 e_3))])
   ) fun ds19=>
   (opB (A.cell ds19 0)).bind fun b20=>
   bif b20 then
    some (.val [(.bool false)])
   else
    bif (A.ieq e_0 1)then
     some (.val [(.bool (A.ile 0 e_1))])
    else
     cutO (
      bif (A.ieq e_0 2)then
       some (.inl [(.bool true)])
      else
       some (.inl [(.bool (A.ieq e_0 13))])
     ) fun ds21=>
     (opB (A.cell ds21 0)).bind fun b22=>
     bif b22 then
      cutO (
       bif (A.ieq e_1 0)then
        some (.inl [(.bool true)])
       else
        some (.inl [(.bool (A.ieq e_1 1))])
      ) fun ds23=>
      (opB (A.cell ds23 0)).bind fun b24=>
      some (.val [(.bool b24)])
     else
      some (.val [(.bool (A.ieq e_1 0))])
theorem g112_eq (A:Sy)(E:Env)(e_0:Int)(e_1:Int)(e_2:ByteArray)(e_3:Int)(e_4:List (List D))(e_5:List (List D)):(funT A Tryz.prog cs 112 [.agg [.d (.int .i64 e_0),V.d (.int .i64 e_1),V.d (.str e_2),V.d (.int .i64 e_3),V.d (.sl 1 e_4),V.d (.sl 6 e_5)]]).run E=g112 A E e_0 e_1 e_2 e_3 e_4 e_5:=by kernel_rfl
def g113 (A:Sy)(E:Env)(e_0:Int)(e_1:Int)(e_2:ByteArray)(e_3:Int)(e_4:List (List D))(e_5:List (List D)):Option PRes:=
 bif (A.ieq e_0 3)then
  (E.call 62 [(.d (.str e_2))]).bind fun p1=>
  (opB (A.cell p1.leaves 0)).bind fun b3=>
  some (.val [(.bool b3)])
 else
  bif (A.ieq e_0 11)then
   (E.call 62 [(.d (.str e_2))]).bind fun p4=>
   (opB (A.cell p4.leaves 0)).bind fun b6=>
   some (.val [(.bool b6)])
  else
   bif (A.ieq e_0 12)then
    (E.call 62 [(.d (.str e_2))]).bind fun p7=>
    (opB (A.cell p7.leaves 0)).bind fun b9=>
    some (.val [(.bool b9)])
   else
    bif (A.ieq e_0 13)then
     (E.call 62 [(.d (.str e_2))]).bind fun p10=>
     (opB (A.cell p10.leaves 0)).bind fun b12=>
     some (.val [(.bool b12)])
    else
     bif (A.ieq e_0 4)then
      (E.call 88 [(.d (.str e_2))]).bind fun p13=>
      (opB (A.cell p13.leaves 0)).bind fun b15=>
      some (.val [(.bool b15)])
     else
      bif (A.ieq e_0 17)then
       (E.call 30 [(.d (.str e_2))]).bind fun p16=>
       (opB (A.cell p16.leaves 0)).bind fun b18=>
       some (.val [(.bool b18)])
      else
       some (.val [(.bool (A.seq e_2 (bs [])))])
theorem g113_eq (A:Sy)(E:Env)(e_0:Int)(e_1:Int)(e_2:ByteArray)(e_3:Int)(e_4:List (List D))(e_5:List (List D)):(funT A Tryz.prog cs 113 [.agg [.d (.int .i64 e_0),V.d (.int .i64 e_1),V.d (.str e_2),V.d (.int .i64 e_3),V.d (.sl 1 e_4),V.d (.sl 6 e_5)]]).run E=g113 A E e_0 e_1 e_2 e_3 e_4 e_5:=by kernel_rfl
def g114 (A:Sy)(E:Env)(e_0:Int)(e_1:Int)(e_2:ByteArray)(e_3:Int)(e_4:List (List D))(e_5:List (List D)):Option PRes:=
 E.lp (fun ds1=>
  (opI (A.cell ds1 0) .i64).bind fun n2=>
  oE A ds1 1 fun n3 n4 s5 n6 l7 l8=>
  bif (A.ilt n2 (A.rlen l7))then
   bif (A.inr n2 (A.rlen l7))then
    (opS (A.cell (A.row l7 n2) 0)).bind fun s9=>
    (E.call 155 [(.d (.str s9))]).bind fun p10=>
    (opB (A.cell p10.leaves 0)).bind fun b12=>
    bif (A.bnot b12)then
     some (.inr (.val [(.bool false)]))
    else
     some (.inl [(.int .i64 (A.wrap .i64 (A.add n2 1))),(.int .i64 n3),(.int .i64 n4),(.str s5),(.int .i64 n6),(.sl 1 l7),(.sl 6 l8)])
   else
    none
  else
   bif (A.ieq n3 11)then
    some (.inr (.val [(.bool (A.ieq (A.rlen l7) 1))]))
   else
    bif (A.ieq n3 12)then
     cutO (
      bif (A.ile 1 (A.rlen l7))then
       some (.inl [(.bool (A.ile (A.rlen l7) 6))])
      else
       some (.inl [(.bool false)])
     ) fun ds13=>
     (opB (A.cell ds13 0)).bind fun b14=>
     cutO (
      bif b14 then
       (E.call 156 [(.d (.sl 1 l7))]).bind fun p15=>
       (opB (A.cell p15.leaves 0)).bind fun b17=>
       some (.inl [(.bool b17)])
      else
       some (.inl [(.bool false)])
     ) fun ds18=>
     (opB (A.cell ds18 0)).bind fun b19=>
     some (.inr (.val [(.bool b19)]))
    else
     some (.inr (.val [(.bool (A.ieq (A.rlen l7) 0))]))
 ) [(.int .i64 0),(.int .i64 e_0),(.int .i64 e_1),(.str e_2),(.int .i64 e_3),(.sl 1 e_4),(.sl 6 e_5)]
theorem g114_eq (A:Sy)(E:Env)(e_0:Int)(e_1:Int)(e_2:ByteArray)(e_3:Int)(e_4:List (List D))(e_5:List (List D)):(funT A Tryz.prog cs 114 [.agg [.d (.int .i64 e_0),V.d (.int .i64 e_1),V.d (.str e_2),V.d (.int .i64 e_3),V.d (.sl 1 e_4),V.d (.sl 6 e_5)]]).run E=g114 A E e_0 e_1 e_2 e_3 e_4 e_5:=by kernel_rfl
def g115 (A:Sy)(E:Env)(e_0:Int)(e_1:Int)(e_2:ByteArray)(e_3:Int)(e_4:List (List D))(e_5:List (List D)):Option PRes:=
 bif (A.ieq e_0 5)then
  some (.val [(.int .i64 1),(.int .i64 1)])
 else
  bif (A.ieq e_0 10)then
   some (.val [(.int .i64 1),(.int .i64 1)])
  else
   bif (A.ieq e_0 11)then
    some (.val [(.int .i64 1),(.int .i64 1)])
   else
    bif (A.ieq e_0 6)then
     some (.val [(.int .i64 2),(.int .i64 2)])
    else
     bif (A.ieq e_0 8)then
      some (.val [(.int .i64 2),(.int .i64 2)])
     else
      bif (A.ieq e_0 9)then
       some (.val [(.int .i64 2),(.int .i64 2)])
      else
       bif (A.ieq e_0 15)then
        some (.val [(.int .i64 2),(.int .i64 2)])
       else
        bif (A.ieq e_0 7)then
         some (.val [(.int .i64 3),(.int .i64 3)])
        else
         bif (A.ieq e_0 16)then
          some (.val [(.int .i64 3),(.int .i64 3)])
         else
          bif (A.ieq e_0 12)then
           some (.val [(.int .i64 (A.rlen e_4)),(.int .i64 (A.rlen e_4))])
          else
           bif (A.ieq e_0 13)then
            some (.val [(.int .i64 e_1),(.int .i64 (A.wrap .i64 (A.add 6 e_1)))])
           else
            bif (A.ieq e_0 14)then
             some (.val [(.int .i64 1),(.int .i64 8)])
            else
             some (.val [(.int .i64 0),(.int .i64 0)])
theorem g115_eq (A:Sy)(E:Env)(e_0:Int)(e_1:Int)(e_2:ByteArray)(e_3:Int)(e_4:List (List D))(e_5:List (List D)):(funT A Tryz.prog cs 115 [.agg [.d (.int .i64 e_0),V.d (.int .i64 e_1),V.d (.str e_2),V.d (.int .i64 e_3),V.d (.sl 1 e_4),V.d (.sl 6 e_5)]]).run E=g115 A E e_0 e_1 e_2 e_3 e_4 e_5:=by kernel_rfl
def g116 (A:Sy)(E:Env)(e_0:Int)(e_1:Int)(e_2:ByteArray)(e_3:Int)(e_4:List (List D))(e_5:List (List D)):Option PRes:=
 bif (A.bnot (A.ieq e_0 14))then
  (E.call 157 [(kE e_0 e_1 e_2 e_3 e_4 e_5)]).bind fun p1=>
  (opB (A.cell p1.leaves 0)).bind fun b3=>
  some (.val [(.bool b3)])
 else
  E.lp (fun ds4=>
   (opI (A.cell ds4 0) .i64).bind fun n5=>
   oE A ds4 1 fun n6 n7 s8 n9 l10 l11=>
   bif (A.ilt n5 (A.rlen l11))then
    bif (A.inr n5 (A.rlen l11))then
     oE A (A.row l11 n5) 0 fun n12 n13 s14 n15 l16 l17=>
     (E.call 157 [(kE n12 n13 s14 n15 l16 l17)]).bind fun p18=>
     (opB (A.cell p18.leaves 0)).bind fun b20=>
     bif (A.bnot b20)then
      some (.inr (.val [(.bool false)]))
     else
      some (.inl [(.int .i64 (A.wrap .i64 (A.add n5 1))),(.int .i64 n6),(.int .i64 n7),(.str s8),(.int .i64 n9),(.sl 1 l10),(.sl 6 l11)])
    else
     none
   else
    some (.inr (.val [(.bool true)]))
  ) [(.int .i64 0),(.int .i64 e_0),(.int .i64 e_1),(.str e_2),(.int .i64 e_3),(.sl 1 e_4),(.sl 6 e_5)]
theorem g116_eq (A:Sy)(E:Env)(e_0:Int)(e_1:Int)(e_2:ByteArray)(e_3:Int)(e_4:List (List D))(e_5:List (List D)):(funT A Tryz.prog cs 116 [.agg [.d (.int .i64 e_0),V.d (.int .i64 e_1),V.d (.str e_2),V.d (.int .i64 e_3),V.d (.sl 1 e_4),V.d (.sl 6 e_5)]]).run E=g116 A E e_0 e_1 e_2 e_3 e_4 e_5:=by kernel_rfl
def g155 (A:Sy)(E:Env)(s_:ByteArray):Option PRes:=
 (E.call 88 [(.d (.str s_))]).bind fun p1=>
 (opB (A.cell p1.leaves 0)).bind fun b3=>
 cutO (
  bif b3 then
   some (.inl [(.bool true)])
  else
   some (.inl [(.bool (A.seq s_ (bs [116,114,117,101])))])
 ) fun ds4=>
 (opB (A.cell ds4 0)).bind fun b5=>
 cutO (
  bif b5 then
   some (.inl [(.bool true)])
  else
   some (.inl [(.bool (A.seq s_ (bs [102,97,108,115,101])))])
 ) fun ds6=>
 (opB (A.cell ds6 0)).bind fun b7=>
 some (.val [(.bool b7)])
theorem g155_eq (A:Sy)(E:Env)(s_:ByteArray):(funT A Tryz.prog cs 155 [.d (.str s_)]).run E=g155 A E s_:=by kernel_rfl
def g156 (A:Sy)(E:Env)(l_:List (List D)):Option PRes:=
 E.lp (fun ds1=>
  (opL (A.cell ds1 0) 1).bind fun l2=>
  (opI (A.cell ds1 1) .i64).bind fun n3=>
  bif (A.ilt n3 (A.rlen l2))then
   E.lp (fun ds4=>
    (opL (A.cell ds4 0) 1).bind fun l5=>
    (opI (A.cell ds4 1) .i64).bind fun n6=>
    (opI (A.cell ds4 2) .i64).bind fun n7=>
    bif (A.ilt n7 n6)then
     bif (A.inr n7 (A.rlen l5))then
      (opS (A.cell (A.row l5 n7) 0)).bind fun s8=>
      bif (A.inr n6 (A.rlen l5))then
       (opS (A.cell (A.row l5 n6) 0)).bind fun s9=>
       bif (A.seq s8 s9)then
        some (.inr (.inr (.val [(.bool false)])))
       else
        some (.inl [(.sl 1 l5),(.int .i64 n6),(.int .i64 (A.wrap .i64 (A.add n7 1)))])
      else
       none
     else
      none
    else
     some (.inr (.inl [(.sl 1 l5),(.int .i64 (A.wrap .i64 (A.add n6 1)))]))
   ) [(.sl 1 l2),(.int .i64 n3),(.int .i64 0)]
  else
   some (.inr (.val [(.bool true)]))
 ) [(.sl 1 l_),(.int .i64 0)]
theorem g156_eq (A:Sy)(E:Env)(l_:List (List D)):(funT A Tryz.prog cs 156 [.d (.sl 1 l_)]).run E=g156 A E l_:=by kernel_rfl
def g157 (A:Sy)(E:Env)(e_0:Int)(e_1:Int)(e_2:ByteArray)(e_3:Int)(e_4:List (List D))(e_5:List (List D)):Option PRes:=
 bif (A.ieq e_0 5)then
  cutO (
   bif (A.ieq e_3 1)then
    some (.inl [(.bool (A.ieq (A.rlen e_5) 1))])
   else
    some (.inl [(.bool false)])
  ) fun ds1=>
  (opB (A.cell ds1 0)).bind fun b2=>
  cutO (
   bif b2 then
    bif (A.inr 0 (A.rlen e_5))then
     (opI (A.cell (A.row e_5 0) 0) .i64).bind fun n3=>
     some (.inl [(.bool (A.ieq n3 1))])
    else
     none
   else
    some (.inl [(.bool false)])
  ) fun ds4=>
  (opB (A.cell ds4 0)).bind fun b5=>
  some (.val [(.bool b5)])
 else
  cutO (
   bif (A.ieq e_0 1)then
    some (.inl [(.bool true)])
   else
    some (.inl [(.bool (A.ieq e_0 2))])
  ) fun ds6=>
  (opB (A.cell ds6 0)).bind fun b7=>
  cutO (
   bif b7 then
    some (.inl [(.bool true)])
   else
    some (.inl [(.bool (A.ieq e_0 4))])
  ) fun ds8=>
  (opB (A.cell ds8 0)).bind fun b9=>
  some (.val [(.bool b9)])
theorem g157_eq (A:Sy)(E:Env)(e_0:Int)(e_1:Int)(e_2:ByteArray)(e_3:Int)(e_4:List (List D))(e_5:List (List D)):(funT A Tryz.prog cs 157 [.agg [.d (.int .i64 e_0),V.d (.int .i64 e_1),V.d (.str e_2),V.d (.int .i64 e_3),V.d (.sl 1 e_4),V.d (.sl 6 e_5)]]).run E=g157 A E e_0 e_1 e_2 e_3 e_4 e_5:=by kernel_rfl
def g48 (A:Sy)(E:Env)(a_:List (List D))(b_:List (List D)):Option PRes:=
 bif (A.bnot (A.ieq (A.rlen a_) (A.rlen b_)))then
  some (.val [(.bool false)])
 else
  E.lp (fun ds1=>
   (opL (A.cell ds1 0) 1).bind fun l2=>
   (opL (A.cell ds1 1) 1).bind fun l3=>
   (opI (A.cell ds1 2) .i64).bind fun n4=>
   bif (A.ilt n4 (A.rlen l2))then
    bif (A.inr n4 (A.rlen l2))then
     (opS (A.cell (A.row l2 n4) 0)).bind fun s5=>
     bif (A.inr n4 (A.rlen l3))then
      (opS (A.cell (A.row l3 n4) 0)).bind fun s6=>
      bif (A.bnot (A.seq s5 s6))then
       some (.inr (.val [(.bool false)]))
      else
       some (.inl [(.sl 1 l2),(.sl 1 l3),(.int .i64 (A.wrap .i64 (A.add n4 1)))])
     else
      none
    else
     none
   else
    some (.inr (.val [(.bool true)]))
  ) [(.sl 1 a_),(.sl 1 b_),(.int .i64 0)]
theorem g48_eq (A:Sy)(E:Env)(a_:List (List D))(b_:List (List D)):(funT A Tryz.prog cs 48 [.d (.sl 1 a_),V.d (.sl 1 b_)]).run E=g48 A E a_ b_:=by kernel_rfl
def g56 (A:Sy)(E:Env)(e_0:Int)(e_1:Int)(e_2:ByteArray)(e_3:Int)(e_4:List (List D))(e_5:List (List D)):Option PRes:=
 (E.call 99 [(kE e_0 e_1 e_2 e_3 e_4 e_5)]).bind fun p1=>
 oQ A p1.leaves 0 fun b3 b4 b5 n6 n7 n8=>
 (opB (A.cell p1.leaves 6)).bind fun b9=>
 cutO (
  bif (A.bnot b9)then
   some (.inl [(.bool true)])
  else
   some (.inl [(.bool (A.bnot b3))])
 ) fun ds10=>
 (opB (A.cell ds10 0)).bind fun b11=>
 cutO (
  bif b11 then
   some (.inl [(.bool true)])
  else
   some (.inl [(.bool (A.bnot b4))])
 ) fun ds12=>
 (opB (A.cell ds12 0)).bind fun b13=>
 cutO (
  bif b13 then
   some (.inl [(.bool true)])
  else
   some (.inl [(.bool (A.bnot b5))])
 ) fun ds14=>
 (opB (A.cell ds14 0)).bind fun b15=>
 cutO (
  bif b15 then
   some (.inl [(.bool true)])
  else
   some (.inl [(.bool (A.ilt (A.rlen e_5) n6))])
 ) fun ds16=>
 (opB (A.cell ds16 0)).bind fun b17=>
 cutO (
  bif b17 then
   some (.inl [(.bool true)])
  else
   some (.inl [(.bool (A.ilt n7 (A.rlen e_5)))])
 ) fun ds18=>
 (opB (A.cell ds18 0)).bind fun b19=>
 bif b19 then
  some (.val [(.bool false)])
 else
  cutO (
   bif (A.ilt n8 (A.rlen e_4))then
    some (.inl [(.bool true)])
   else
    bif (A.ilt 0 n8)then
     some (.inl [(.bool (A.ieq (A.rlen e_4) 0))])
    else
     some (.inl [(.bool false)])
  ) fun ds20=>
  (opB (A.cell ds20 0)).bind fun b21=>
  cutO (
   bif b21 then
    some (.inl [(.bool true)])
   else
    (E.call 28 [(.d (.sl 1 e_4))]).bind fun p22=>
    (opB (A.cell p22.leaves 0)).bind fun b24=>
    some (.inl [(.bool (A.bnot b24))])
  ) fun ds25=>
  (opB (A.cell ds25 0)).bind fun b26=>
  bif b26 then
   some (.val [(.bool false)])
  else
   (E.call 100 [(.d (.sl 1 e_4)),(.fn 101 [])]).bind fun p27=>
   (opB (A.cell p27.leaves 0)).bind fun b29=>
   bif b29 then
    some (.val [(.bool false)])
   else
    cutO (
     bif (A.bnot (A.ieq e_0 8))then
      some (.inl [(.bool true)])
     else
      bif (A.inr 0 (A.rlen e_5))then
       oE A (A.row e_5 0) 0 fun n30 n31 s32 n33 l34 l35=>
       (E.call 103 [(kE n30 n31 s32 n33 l34 l35)]).bind fun p36=>
       (opB (A.cell p36.leaves 0)).bind fun b38=>
       some (.inl [(.bool b38)])
      else
       none
    ) fun ds39=>
    (opB (A.cell ds39 0)).bind fun b40=>
    some (.val [(.bool b40)])
theorem g56_eq (A:Sy)(E:Env)(e_0:Int)(e_1:Int)(e_2:ByteArray)(e_3:Int)(e_4:List (List D))(e_5:List (List D)):(funT A Tryz.prog cs 56 [.agg [.d (.int .i64 e_0),V.d (.int .i64 e_1),V.d (.str e_2),V.d (.int .i64 e_3),V.d (.sl 1 e_4),V.d (.sl 6 e_5)]]).run E=g56 A E e_0 e_1 e_2 e_3 e_4 e_5:=by kernel_rfl
def g103 (A:Sy)(E:Env)(e_0:Int)(e_1:Int)(e_2:ByteArray)(e_3:Int)(e_4:List (List D))(e_5:List (List D)):Option PRes:=
 bif (A.bnot (A.ieq e_0 14))then
  (E.call 144 [(kE e_0 e_1 e_2 e_3 e_4 e_5)]).bind fun p1=>
  (opB (A.cell p1.leaves 0)).bind fun b3=>
  some (.val [(.bool b3)])
 else
  (E.call 145 [(.d (.sl 6 e_5)),(.fn 146 [])]).bind fun p4=>
  (opB (A.cell p4.leaves 0)).bind fun b6=>
  some (.val [(.bool (A.bnot b6))])
theorem g103_eq (A:Sy)(E:Env)(e_0:Int)(e_1:Int)(e_2:ByteArray)(e_3:Int)(e_4:List (List D))(e_5:List (List D)):(funT A Tryz.prog cs 103 [.agg [.d (.int .i64 e_0),V.d (.int .i64 e_1),V.d (.str e_2),V.d (.int .i64 e_3),V.d (.sl 1 e_4),V.d (.sl 6 e_5)]]).run E=g103 A E e_0 e_1 e_2 e_3 e_4 e_5:=by kernel_rfl
def g28 (A:Sy)(E:Env)(l_:List (List D)):Option PRes:=
 E.lp (fun ds1=>
  (opL (A.cell ds1 0) 1).bind fun l2=>
  (opI (A.cell ds1 1) .i64).bind fun n3=>
  (opI (A.cell ds1 2) .i64).bind fun n4=>
  (opL (A.cell ds1 3) 2).bind fun l5=>
  bif (A.ilt n4 n3)then
   bif (A.inr n4 (A.rlen l2))then
    (opS (A.cell (A.row l2 n4) 0)).bind fun s6=>
    (opI (some (A.mval (.int .i64 0) (.str s6) l5)) .i64).bind fun n7=>
    bif (A.ilt 0 n7)then
     some (.inr (.val [(.bool false)]))
    else
     (opI (some (A.mval (.int .i64 0) (.str s6) l5)) .i64).bind fun n8=>
     some (.inl [(.sl 1 l2),(.int .i64 n3),(.int .i64 (A.wrap .i64 (A.add n4 1))),(.sl 2 (A.mput (.str s6) (.int .i64 (A.wrap .i64 (A.add n8 1))) l5))])
   else
    none
  else
   some (.inr (.val [(.bool true)]))
 ) [(.sl 1 l_),(.int .i64 (A.rlen l_)),(.int .i64 0),(.sl 2 [])]
theorem g28_eq (A:Sy)(E:Env)(l_:List (List D)):(funT A Tryz.prog cs 28 [.d (.sl 1 l_)]).run E=g28 A E l_:=by kernel_rfl
def g53 (A:Sy)(E:Env)(e_0:Int)(e_1:Int)(e_2:ByteArray)(e_3:Int)(e_4:List (List D))(e_5:List (List D)):Option PRes:=
 (E.call 1000098 [(.d (.int .i64 0)),(.d (.int .i64 2)),(kE e_0 e_1 e_2 e_3 e_4 e_5),(.yld 0 (rec0 53)),(.agg [.any, .any, .any,(.ptr 1 0), .any, .any, .any, .any, .any, .any]),(.fn 3 [(.d (.int .i64 0))])]).bind fun p1=>
 (opB (A.cell p1.leaves 0)).bind fun b3=>
 bif b3 then
  (opB (A.cell p1.leaves 1)).bind fun b4=>
  (opI (A.cell p1.leaves 2) .i64).bind fun n5=>
  (opI (A.cell p1.leaves 3) .i64).bind fun n6=>
  some (.val [(.int .i64 n5)])
 else
  (opB (A.cell p1.leaves 1)).bind fun b7=>
  (opI (A.cell p1.leaves 2) .i64).bind fun n8=>
  some (.val [(.int .i64 n8)])
theorem g53_eq (A:Sy)(E:Env)(e_0:Int)(e_1:Int)(e_2:ByteArray)(e_3:Int)(e_4:List (List D))(e_5:List (List D)):(funT A Tryz.prog cs 53 [.agg [.d (.int .i64 e_0),V.d (.int .i64 e_1),V.d (.str e_2),V.d (.int .i64 e_3),V.d (.sl 1 e_4),V.d (.sl 6 e_5)]]).run E=g53 A E e_0 e_1 e_2 e_3 e_4 e_5:=by kernel_rfl
def g25 (A:Sy)(E:Env)(e_0:Int)(e_1:Int)(e_2:ByteArray)(e_3:Int)(e_4:List (List D))(e_5:List (List D)):Option PRes:=
 (E.call 53 [(kE e_0 e_1 e_2 e_3 e_4 e_5)]).bind fun p1=>
 (opI (A.cell p1.leaves 0) .i64).bind fun n3=>
 cutO (
  bif (A.ilt 60 n3)then
   some (.inl [(.bool true)])
  else
   (E.call 54 [(kE e_0 e_1 e_2 e_3 e_4 e_5)]).bind fun p4=>
   (opI (A.cell p4.leaves 0) .i64).bind fun n6=>
   some (.inl [(.bool (A.ilt 12 n6))])
 ) fun ds7=>
 (opB (A.cell ds7 0)).bind fun b8=>
 bif b8 then
  some (.val [(.bool false)])
 else
  (E.call 1000098 [(.d (.int .i64 0)),(.d (.int .i64 2)),(kE e_0 e_1 e_2 e_3 e_4 e_5),(.yld 0 (rec0 25)),(.agg [.any, .any,(.ptr 1 0), .any, .any, .any, .any, .any, .any, .any, .any, .any, .any, .any, .any, .any, .any, .any]),(.fn 4 [(.d (.bool false))])]).bind fun p9=>
  (opB (A.cell p9.leaves 0)).bind fun b11=>
  bif b11 then
   (opB (A.cell p9.leaves 1)).bind fun b12=>
   (opB (A.cell p9.leaves 2)).bind fun b13=>
   some (.val [(.bool b13)])
  else
   (opB (A.cell p9.leaves 1)).bind fun b14=>
   (opB (A.cell p9.leaves 2)).bind fun b15=>
   some (.val [(.bool true)])
theorem g25_eq (A:Sy)(E:Env)(e_0:Int)(e_1:Int)(e_2:ByteArray)(e_3:Int)(e_4:List (List D))(e_5:List (List D)):(funT A Tryz.prog cs 25 [.agg [.d (.int .i64 e_0),V.d (.int .i64 e_1),V.d (.str e_2),V.d (.int .i64 e_3),V.d (.sl 1 e_4),V.d (.sl 6 e_5)]]).run E=g25 A E e_0 e_1 e_2 e_3 e_4 e_5:=by kernel_rfl
def b98_53 (A:Sy)(E:Env)(k_ n_:Int)(s_:ByteArray)(o_:Int)(ar_ su_:List (List D))(m_:Int):Option PRes:=
 bif (A.bnot true)then
  some (.val [(.bool false),(.bool false),(.int .i64 (A.wrap .i64 (A.add m_ 1)))])
 else
  E.lp (fun ds1=>
   (opL (A.cell ds1 0) 6).bind fun l2=>
   (opI (A.cell ds1 1) .i64).bind fun n3=>
   (opI (A.cell ds1 2) .i64).bind fun n4=>
   (opI (A.cell ds1 3) .i64).bind fun n5=>
   bif (A.ilt n4 n3)then
    bif (A.inr n4 (A.rlen l2))then
     oE A (A.row l2 n4) 0 fun n6 n7 s8 n9 l10 l11=>
     (E.call 1000098 [(.d (.int .i64 0)),(.d (.int .i64 2)),(kE n6 n7 s8 n9 l10 l11),(.yld 0 (rec0 53)),(.agg [.any, .any, .any,(.ptr 1 0), .any, .any, .any, .any, .any, .any]),(.fn 3 [(.d (.int .i64 n5))])]).bind fun p12=>
     (opB (A.cell p12.leaves 0)).bind fun b14=>
     bif b14 then
      (opB (A.cell p12.leaves 1)).bind fun b15=>
      (opI (A.cell p12.leaves 2) .i64).bind fun n16=>
      (opI (A.cell p12.leaves 3) .i64).bind fun n17=>
      bif (A.bnot b15)then
       some (.inr (.val [(.bool true),(.bool false),(.int .i64 n16),(.int .i64 n17)]))
      else
       none
     else
      (opB (A.cell p12.leaves 1)).bind fun b18=>
      (opI (A.cell p12.leaves 2) .i64).bind fun n19=>
      bif (A.bnot b18)then
       some (.inr (.val [(.bool false),(.bool false),(.int .i64 n19)]))
      else
       some (.inl [(.sl 6 l2),(.int .i64 n3),(.int .i64 (A.wrap .i64 (A.add n4 1))),(.int .i64 n19)])
    else
     none
   else
    some (.inr (.val [(.bool false),(.bool true),(.int .i64 n5)]))
  ) [(.sl 6 su_),(.int .i64 (A.rlen su_)),(.int .i64 0),(.int .i64 (A.wrap .i64 (A.add m_ 1)))]
theorem b98_53_eq (A:Sy)(E:Env)(k_ n_:Int)(s_:ByteArray)(o_:Int)(ar_ su_:List (List D))(m_:Int):(funB A Tryz.prog cs 98 0 [.agg [.d (.int .i64 k_), .d (.int .i64 n_), .d (.str s_), .d (.int .i64 o_), .d (.sl 1 ar_), .d (.sl 6 su_)], .yld 0 (rec0 53)] [.cells (.rcd .ready) [.any, .any, .any, .ptr 1 0, .any, .any, .any, .any, .any, .any], .cells (.ty 3) [.d (.int .i64 m_)]]).run E=b98_53 A E k_ n_ s_ o_ ar_ su_ m_:=by kernel_rfl
def b98_25 (A:Sy)(E:Env)(k_ n_:Int)(s_:ByteArray)(o_:Int)(ar_ su_:List (List D))(b_:Bool):Option PRes:=
 (E.call 56 [(kE k_ n_ s_ o_ ar_ su_)]).bind fun p1=>
 (opB (A.cell p1.leaves 0)).bind fun b3=>
 bif (A.bnot b3)then
  bif (A.bnot false)then
   some (.val [(.bool true),(.bool false),(.bool false)])
  else
   E.lp (fun ds4=>
    (opL (A.cell ds4 0) 6).bind fun l5=>
    (opI (A.cell ds4 1) .i64).bind fun n6=>
    (opI (A.cell ds4 2) .i64).bind fun n7=>
    (opB (A.cell ds4 3)).bind fun b8=>
    bif (A.ilt n7 n6)then
     bif (A.inr n7 (A.rlen l5))then
      oE A (A.row l5 n7) 0 fun n9 n10 s11 n12 l13 l14=>
      none
     else
      none
    else
     some (.inr (.val [(.bool true),(.bool true),(.bool b8)]))
   ) [(.sl 6 su_),(.int .i64 (A.rlen su_)),(.int .i64 0),(.bool false)]
 else
  bif (A.bnot true)then
   some (.val [(.bool false),(.bool false),(.bool b_)])
  else
   E.lp (fun ds15=>
    (opL (A.cell ds15 0) 6).bind fun l16=>
    (opI (A.cell ds15 1) .i64).bind fun n17=>
    (opI (A.cell ds15 2) .i64).bind fun n18=>
    (opB (A.cell ds15 3)).bind fun b19=>
    bif (A.ilt n18 n17)then
     bif (A.inr n18 (A.rlen l16))then
      oE A (A.row l16 n18) 0 fun n20 n21 s22 n23 l24 l25=>
      (E.call 1000098 [(.d (.int .i64 0)),(.d (.int .i64 2)),(kE n20 n21 s22 n23 l24 l25),(.yld 0 (rec0 25)),(.agg [.any, .any,(.ptr 1 0), .any, .any, .any, .any, .any, .any, .any, .any, .any, .any, .any, .any, .any, .any, .any]),(.fn 4 [(.d (.bool b19))])]).bind fun p26=>
      (opB (A.cell p26.leaves 0)).bind fun b28=>
      bif b28 then
       (opB (A.cell p26.leaves 1)).bind fun b29=>
       (opB (A.cell p26.leaves 2)).bind fun b30=>
       bif (A.bnot b29)then
        some (.inr (.val [(.bool true),(.bool false),(.bool b30)]))
       else
        none
      else
       (opB (A.cell p26.leaves 1)).bind fun b31=>
       (opB (A.cell p26.leaves 2)).bind fun b32=>
       bif (A.bnot b31)then
        some (.inr (.val [(.bool false),(.bool false),(.bool b32)]))
       else
        some (.inl [(.sl 6 l16),(.int .i64 n17),(.int .i64 (A.wrap .i64 (A.add n18 1))),(.bool b32)])
     else
      none
    else
     some (.inr (.val [(.bool false),(.bool true),(.bool b19)]))
   ) [(.sl 6 su_),(.int .i64 (A.rlen su_)),(.int .i64 0),(.bool b_)]
theorem b98_25_eq (A:Sy)(E:Env)(k_ n_:Int)(s_:ByteArray)(o_:Int)(ar_ su_:List (List D))(b_:Bool):(funB A Tryz.prog cs 98 0 [.agg [.d (.int .i64 k_), .d (.int .i64 n_), .d (.str s_), .d (.int .i64 o_), .d (.sl 1 ar_), .d (.sl 6 su_)], .yld 0 (rec0 25)] [.cells (.rcd .ready) [.any, .any, .ptr 1 0, .any, .any, .any, .any, .any, .any, .any, .any, .any, .any, .any, .any, .any, .any, .any], .cells (.ty 4) [.d (.bool b_)]]).run E=b98_25 A E k_ n_ s_ o_ ar_ su_ b_:=by kernel_rfl
def g83 (A:Sy)(E:Env)(l_:List (List D))(from_:Int):Option PRes:=
 (E.call 1000131 (kP 159 l_ from_)).bind fun p1=>
 (opB (A.cell p1.leaves 0)).bind fun b3=>
 bif b3 then
  (opI (A.cell p1.leaves 1) .i64).bind fun n4=>
  oP A p1.leaves 2 fun l5 n6=>
  some (.val [(.int .i64 0),(.int .i64 0),(.str (bs [])),(.int .i64 0),(.sl 1 []),(.sl 6 []),(.int .i64 n4),(.bool false)])
 else
  oE A p1.leaves 1 fun n7 n8 s9 n10 l11 l12=>
  oP A p1.leaves 7 fun l13 n14=>
  some (.val [(.int .i64 n7),(.int .i64 n8),(.str s9),(.int .i64 n10),(.sl 1 l11),(.sl 6 l12),(.int .i64 n14),(.bool true)])
theorem g83_eq (A:Sy)(E:Env)(l_:List (List D))(from_:Int):(funT A Tryz.prog cs 83 [.d (.sl 4 l_),V.d (.int .i64 from_)]).run E=g83 A E l_ from_:=by kernel_rfl
def g100_101 (A:Sy)(E:Env)(s:List (List D)):Option PRes:=
 (E.call 143 [(.d (.sl 1 s)),(.fn 101 [])]).bind fun p1=>
 (opI (A.cell p1.leaves 0) .i64).bind fun n3=>
 some (.val [(.bool (A.ile 0 n3))])
theorem g100_101_eq (A:Sy)(E:Env)(s:List (List D)):(funT A Tryz.prog cs 100 [.d (.sl 1 s), .fn 101 []]).run E=g100_101 A E s:=by kernel_rfl
def g143_101 (A:Sy)(E:Env)(s:List (List D)):Option PRes:=
 E.lp (fun ds1=>
  (opL (A.cell ds1 0) 1).bind fun l2=>
  (opI (A.cell ds1 1) .i64).bind fun n3=>
  (opI (A.cell ds1 2) .i64).bind fun n4=>
  bif (A.ilt n4 n3)then
   bif (A.inr n4 (A.rlen l2))then
    (opS (A.cell (A.row l2 n4) 0)).bind fun s5=>
    (E.call 101 [(.d (.str s5))]).bind fun p6=>
    (opB (A.cell p6.leaves 0)).bind fun b8=>
    bif b8 then
     some (.inr (.val [(.int .i64 n4)]))
    else
     some (.inl [(.sl 1 l2),(.int .i64 n3),(.int .i64 (A.wrap .i64 (A.add n4 1)))])
   else
    none
  else
   some (.inr (.val [(.int .i64 (-1))]))
 ) [(.sl 1 s),(.int .i64 (A.rlen s)),(.int .i64 0)]
theorem g143_101_eq (A:Sy)(E:Env)(s:List (List D)):(funT A Tryz.prog cs 143 [.d (.sl 1 s), .fn 101 []]).run E=g143_101 A E s:=by kernel_rfl
def g101 (A:Sy)(E:Env)(s_:ByteArray):Option PRes:=
 (E.call 102 [(.d (.str s_))]).bind fun p1=>
 (opB (A.cell p1.leaves 0)).bind fun b3=>
 some (.val [(.bool (A.bnot b3))])
theorem g101_eq (A:Sy)(E:Env)(s_:ByteArray):(funT A Tryz.prog cs 101 [.d (.str s_)]).run E=g101 A E s_:=by kernel_rfl
def g145_146 (A:Sy)(E:Env)(s:List (List D)):Option PRes:=
 (E.call 174 [(.d (.sl 6 s)),(.fn 146 [])]).bind fun p1=>
 (opI (A.cell p1.leaves 0) .i64).bind fun n3=>
 some (.val [(.bool (A.ile 0 n3))])
theorem g145_146_eq (A:Sy)(E:Env)(s:List (List D)):(funT A Tryz.prog cs 145 [.d (.sl 6 s), .fn 146 []]).run E=g145_146 A E s:=by kernel_rfl
def g174_146 (A:Sy)(E:Env)(s:List (List D)):Option PRes:=
 E.lp (fun ds1=>
  (opL (A.cell ds1 0) 6).bind fun l2=>
  (opI (A.cell ds1 1) .i64).bind fun n3=>
  (opI (A.cell ds1 2) .i64).bind fun n4=>
  bif (A.ilt n4 n3)then
   bif (A.inr n4 (A.rlen l2))then
    oE A (A.row l2 n4) 0 fun n5 n6 s7 n8 l9 l10=>
    (E.call 146 [(kE n5 n6 s7 n8 l9 l10)]).bind fun p11=>
    (opB (A.cell p11.leaves 0)).bind fun b13=>
    bif b13 then
     some (.inr (.val [(.int .i64 n4)]))
    else
     some (.inl [(.sl 6 l2),(.int .i64 n3),(.int .i64 (A.wrap .i64 (A.add n4 1)))])
   else
    none
  else
   some (.inr (.val [(.int .i64 (-1))]))
 ) [(.sl 6 s),(.int .i64 (A.rlen s)),(.int .i64 0)]
theorem g174_146_eq (A:Sy)(E:Env)(s:List (List D)):(funT A Tryz.prog cs 174 [.d (.sl 6 s), .fn 146 []]).run E=g174_146 A E s:=by kernel_rfl
def g146 (A:Sy)(E:Env)(x_0:Int)(x_1:Int)(x_2:ByteArray)(x_3:Int)(x_4:List (List D))(x_5:List (List D)):Option PRes:=
 (E.call 144 [(kE x_0 x_1 x_2 x_3 x_4 x_5)]).bind fun p1=>
 (opB (A.cell p1.leaves 0)).bind fun b3=>
 some (.val [(.bool (A.bnot b3))])
theorem g146_eq (A:Sy)(E:Env)(x_0:Int)(x_1:Int)(x_2:ByteArray)(x_3:Int)(x_4:List (List D))(x_5:List (List D)):(funT A Tryz.prog cs 146 [.agg [.d (.int .i64 x_0),V.d (.int .i64 x_1),V.d (.str x_2),V.d (.int .i64 x_3),V.d (.sl 1 x_4),V.d (.sl 6 x_5)]]).run E=g146 A E x_0 x_1 x_2 x_3 x_4 x_5:=by kernel_rfl
def g41 (A:Sy)(E:Env)(t_0:Int)(t_1:ByteArray)(t_2:Int)(t_3:Int)(s_:ByteArray):Option PRes:=
 cutO (
  bif (A.ieq t_0 5)then
   some (.inl [(.bool (A.seq t_1 s_))])
  else
   some (.inl [(.bool false)])
 ) fun ds1=>
 (opB (A.cell ds1 0)).bind fun b2=>
 some (.val [(.bool b2)])
theorem g41_eq (A:Sy)(E:Env)(t_0:Int)(t_1:ByteArray)(t_2:Int)(t_3:Int)(s_:ByteArray):(funT A Tryz.prog cs 41 [.agg [.d (.int .i64 t_0),V.d (.str t_1),V.d (.int .i64 t_2),V.d (.int .i64 t_3)],V.d (.str s_)]).run E=g41 A E t_0 t_1 t_2 t_3 s_:=by kernel_rfl
def g16 (A:Sy)(E:Env)(t_0:Int)(t_1:ByteArray)(t_2:Int)(t_3:Int)(l_:List (List D)):Option PRes:=
 bif (A.bnot (A.ieq t_0 4))then
  some (.val [(.int .i64 2)])
 else
  E.lp (fun ds1=>
   (opL (A.cell ds1 0) 7).bind fun l2=>
   (opI (A.cell ds1 1) .i64).bind fun n3=>
   (opI (A.cell ds1 2) .i64).bind fun n4=>
   oT A ds1 3 fun n5 s6 n7 n8=>
   (opS (A.cell ds1 7)).bind fun s9=>
   bif (A.ilt n4 n3)then
    bif (A.inr n4 (A.rlen l2))then
     (opS (A.cell (A.row l2 n4) 0)).bind fun s10=>
     oE A (A.row l2 n4) 1 fun n11 n12 s13 n14 l15 l16=>
     bif (A.seq s10 s9)then
      bif (A.ile 0 n4)then
       some (.inr (.val [(.int .i64 6)]))
      else
       bif (A.ieq (A.rlen l_) 40)then
        some (.inr (.val [(.int .i64 4)]))
       else
        some (.inr (.val [(.int .i64 0)]))
     else
      some (.inl [(.sl 7 l2),(.int .i64 n3),(.int .i64 (A.wrap .i64 (A.add n4 1))),(.int .i64 n5),(.str s6),(.int .i64 n7),(.int .i64 n8),(.str s9)])
    else
     none
   else
    bif (A.ile 0 (-1))then
     some (.inr (.val [(.int .i64 6)]))
    else
     bif (A.ieq (A.rlen l_) 40)then
      some (.inr (.val [(.int .i64 4)]))
     else
      some (.inr (.val [(.int .i64 0)]))
  ) [(.sl 7 l_),(.int .i64 (A.rlen l_)),(.int .i64 0),(.int .i64 t_0),(.str t_1),(.int .i64 t_2),(.int .i64 t_3),(.str t_1)]
theorem g16_eq (A:Sy)(E:Env)(t_0:Int)(t_1:ByteArray)(t_2:Int)(t_3:Int)(l_:List (List D)):(funT A Tryz.prog cs 16 [.agg [.d (.int .i64 t_0),V.d (.str t_1),V.d (.int .i64 t_2),V.d (.int .i64 t_3)],V.d (.sl 7 l_)]).run E=g16 A E t_0 t_1 t_2 t_3 l_:=by kernel_rfl
def g17 (A:Sy)(E:Env)(l_:List (List D))(at_:Int):Option PRes:=
 bif (A.inr at_ (A.rlen l_))then
  oT A (A.row l_ at_) 0 fun n1 s2 n3 n4=>
  (E.call 41 [(.agg [(.d (.int .i64 n1)),(.d (.str s2)),(.d (.int .i64 n3)),(.d (.int .i64 n4))]),(.d (.str (bs [58,61])))]).bind fun p5=>
  (opB (A.cell p5.leaves 0)).bind fun b7=>
  bif (A.bnot b7)then
   some (.val [(.int .i64 0),(.int .i64 0),(.str (bs [])),(.int .i64 0),(.sl 1 []),(.sl 6 []),(.int .i64 at_),(.int .i64 2)])
  else
   (E.call 42 [(.d (.sl 4 l_)),(.d (.int .i64 (A.wrap .i64 (A.add at_ 1))))]).bind fun p8=>
   oE A p8.leaves 0 fun n10 n11 s12 n13 l14 l15=>
   (opI (A.cell p8.leaves 6) .i64).bind fun n16=>
   (opI (A.cell p8.leaves 7) .i64).bind fun n17=>
   bif (A.bnot (A.ieq n17 0))then
    some (.val [(.int .i64 0),(.int .i64 0),(.str (bs [])),(.int .i64 0),(.sl 1 []),(.sl 6 []),(.int .i64 n16),(.int .i64 n17)])
   else
    bif (A.inr n16 (A.rlen l_))then
     oT A (A.row l_ n16) 0 fun n18 s19 n20 n21=>
     (E.call 41 [(.agg [(.d (.int .i64 n18)),(.d (.str s19)),(.d (.int .i64 n20)),(.d (.int .i64 n21))]),(.d (.str (bs [59])))]).bind fun p22=>
     (opB (A.cell p22.leaves 0)).bind fun b24=>
     bif (A.bnot b24)then
      some (.val [(.int .i64 0),(.int .i64 0),(.str (bs [])),(.int .i64 0),(.sl 1 []),(.sl 6 []),(.int .i64 n16),(.int .i64 2)])
     else
      some (.val [(.int .i64 n10),(.int .i64 n11),(.str s12),(.int .i64 n13),(.sl 1 l14),(.sl 6 l15),(.int .i64 (A.wrap .i64 (A.add n16 1))),(.int .i64 0)])
    else
     none
 else
  none
theorem g17_eq (A:Sy)(E:Env)(l_:List (List D))(at_:Int):(funT A Tryz.prog cs 17 [.d (.sl 4 l_),V.d (.int .i64 at_)]).run E=g17 A E l_ at_:=by kernel_rfl
def g7 (A:Sy)(E:Env)(s_:ByteArray):Option PRes:=
 (E.call 15 [(.d (.str s_)),(.d (.int .i64 6000))]).bind fun p1=>
 oP A p1.leaves 0 fun l3 n4=>
 (opI (A.cell p1.leaves 2) .i64).bind fun n5=>
 bif (A.bnot (A.ieq n5 0))then
  some (.val [(.sl 7 []),(.int .i64 n4),(.int .i64 n5)])
 else
  E.lp (fun ds6=>
   (opS (A.cell ds6 0)).bind fun s7=>
   oP A ds6 1 fun l8 n9=>
   (opL (A.cell ds6 3) 7).bind fun l10=>
   bif (A.inr n9 (A.rlen l8))then
    oT A (A.row l8 n9) 0 fun n11 s12 n13 n14=>
    bif (A.ieq n11 6)then
     some (.inr (.val [(.sl 7 l10),(.int .i64 (A.slen s7)),(.int .i64 0)]))
    else
     (E.call 16 [(.agg [(.d (.int .i64 n11)),(.d (.str s12)),(.d (.int .i64 n13)),(.d (.int .i64 n14))]),(.d (.sl 7 l10))]).bind fun p15=>
     (opI (A.cell p15.leaves 0) .i64).bind fun n17=>
     bif (A.bnot (A.ieq n17 0))then
      some (.inr (.val [(.sl 7 []),(.int .i64 n14),(.int .i64 n17)]))
     else
      (E.call 17 [(.d (.sl 4 l8)),(.d (.int .i64 (A.wrap .i64 (A.add n9 1))))]).bind fun p18=>
      oE A p18.leaves 0 fun n20 n21 s22 n23 l24 l25=>
      (opI (A.cell p18.leaves 6) .i64).bind fun n26=>
      (opI (A.cell p18.leaves 7) .i64).bind fun n27=>
      bif (A.bnot (A.ieq n27 0))then
       bif (A.inr n26 (A.rlen l8))then
        (opI (A.cell (A.skip 3 (A.row l8 n26)) 0) .i64).bind fun n28=>
        some (.inr (.val [(.sl 7 []),(.int .i64 n28),(.int .i64 n27)]))
       else
        none
      else
       bif (A.fits l10 [[(.str s12),(.int .i64 n20),(.int .i64 n21),(.str s22),(.int .i64 n23),(.sl 1 l24),(.sl 6 l25)]] 104)then
        some (.inl [(.str s7),(.sl 4 l8),(.int .i64 n26),(.sl 7 (A.rapp l10 [[(.str s12),(.int .i64 n20),(.int .i64 n21),(.str s22),(.int .i64 n23),(.sl 1 l24),(.sl 6 l25)]]))])
       else
        none
   else
    none
  ) [(.str s_),(.sl 4 l3),(.int .i64 0),(.sl 7 [])]
theorem g7_eq (A:Sy)(E:Env)(s_:ByteArray):(funT A Tryz.prog cs 7 [.d (.str s_)]).run E=g7 A E s_:=by kernel_rfl
def g19 (A:Sy)(E:Env)(l_:List (List D))(path_:ByteArray):Option PRes:=
 E.lp (fun ds1=>
  (opL (A.cell ds1 0) 7).bind fun l2=>
  (opS (A.cell ds1 1)).bind fun s3=>
  (opI (A.cell ds1 2) .i64).bind fun n4=>
  bif (A.ilt n4 (A.rlen l2))then
   bif (A.inr n4 (A.rlen l2))then
    (opS (A.cell (A.row l2 n4) 0)).bind fun s5=>
    bif (A.seq s5 s3)then
     some (.inr (.val [(.bool true)]))
    else
     some (.inl [(.sl 7 l2),(.str s3),(.int .i64 (A.wrap .i64 (A.add n4 1)))])
   else
    none
  else
   some (.inr (.val [(.bool false)]))
 ) [(.sl 7 l_),(.str path_),(.int .i64 0)]
theorem g19_eq (A:Sy)(E:Env)(l_:List (List D))(path_:ByteArray):(funT A Tryz.prog cs 19 [.d (.sl 7 l_),V.d (.str path_)]).run E=g19 A E l_ path_:=by kernel_rfl
def g9 (A:Sy)(E:Env)(a_:List (List D))(b_:List (List D)):Option PRes:=
 bif (A.bnot (A.ieq (A.rlen a_) (A.rlen b_)))then
  some (.val [(.bool false)])
 else
  E.lp (fun ds1=>
   (opL (A.cell ds1 0) 7).bind fun l2=>
   (opL (A.cell ds1 1) 7).bind fun l3=>
   (opI (A.cell ds1 2) .i64).bind fun n4=>
   bif (A.ilt n4 (A.rlen l2))then
    bif (A.inr n4 (A.rlen l2))then
     (opS (A.cell (A.row l2 n4) 0)).bind fun s5=>
     bif (A.inr n4 (A.rlen l3))then
      (opS (A.cell (A.row l3 n4) 0)).bind fun s6=>
      bif (A.bnot (A.seq s5 s6))then
       some (.inr (.val [(.bool false)]))
      else
       bif (A.inr n4 (A.rlen l2))then
        oE A (A.skip 1 (A.row l2 n4)) 0 fun n7 n8 s9 n10 l11 l12=>
        bif (A.inr n4 (A.rlen l3))then
         oE A (A.skip 1 (A.row l3 n4)) 0 fun n13 n14 s15 n16 l17 l18=>
         (E.call 22 [(kE n7 n8 s9 n10 l11 l12),(kE n13 n14 s15 n16 l17 l18)]).bind fun p19=>
         (opB (A.cell p19.leaves 0)).bind fun b21=>
         bif (A.bnot b21)then
          some (.inr (.val [(.bool false)]))
         else
          some (.inl [(.sl 7 l2),(.sl 7 l3),(.int .i64 (A.wrap .i64 (A.add n4 1)))])
        else
         none
       else
        none
     else
      none
    else
     none
   else
    some (.inr (.val [(.bool true)]))
  ) [(.sl 7 a_),(.sl 7 b_),(.int .i64 0)]
theorem g9_eq (A:Sy)(E:Env)(a_:List (List D))(b_:List (List D)):(funT A Tryz.prog cs 9 [.d (.sl 7 a_),V.d (.sl 7 b_)]).run E=g9 A E a_ b_:=by kernel_rfl
def g3 (A:Sy)(E:Env)(s_:ByteArray):Option PRes:=
 bif (A.ilt 1500 (A.slen s_))then
  (E.call 6 []).bind fun p1=>
  (opB (A.cell p1.leaves 0)).bind fun b3=>
  some (.val [(.bool b3)])
 else
  (E.call 7 [(.d (.str s_))]).bind fun p4=>
  (opL (A.cell p4.leaves 0) 7).bind fun l6=>
  (opI (A.cell p4.leaves 1) .i64).bind fun n7=>
  (opI (A.cell p4.leaves 2) .i64).bind fun n8=>
  (E.call 8 [(.d (.str s_))]).bind fun p9=>
  (opL (A.cell p9.leaves 0) 7).bind fun l11=>
  (opI (A.cell p9.leaves 1) .i64).bind fun n12=>
  (opI (A.cell p9.leaves 2) .i64).bind fun n13=>
  (E.call 9 [(.d (.sl 7 l6)),(.d (.sl 7 l11))]).bind fun p14=>
  (opB (A.cell p14.leaves 0)).bind fun b16=>
  cutO (
   bif b16 then
    some (.inl [(.bool (A.ieq n7 n12))])
   else
    some (.inl [(.bool false)])
  ) fun ds17=>
  (opB (A.cell ds17 0)).bind fun b18=>
  cutO (
   bif b18 then
    (E.call 10 [(.d (.int .i64 n8))]).bind fun p19=>
    (opI (A.cell p19.leaves 0) .i64).bind fun n21=>
    some (.inl [(.bool (A.ieq n21 n13))])
   else
    some (.inl [(.bool false)])
  ) fun ds22=>
  (opB (A.cell ds22 0)).bind fun b23=>
  cutO (
   bif b23 then
    (E.call 6 []).bind fun p24=>
    (opB (A.cell p24.leaves 0)).bind fun b26=>
    some (.inl [(.bool b26)])
   else
    some (.inl [(.bool false)])
  ) fun ds27=>
  (opB (A.cell ds27 0)).bind fun b28=>
  some (.val [(.bool b28)])
def g6 (A:Sy)(E:Env):Option PRes:=
 (E.call 7 [(.d (.str (bs [39,97,47,110,39,32,58,61,32,39,110,39,32,43,32,49,59])))]).bind fun p1=>
 (opL (A.cell p1.leaves 0) 7).bind fun l3=>
 (opI (A.cell p1.leaves 1) .i64).bind fun n4=>
 (opI (A.cell p1.leaves 2) .i64).bind fun n5=>
 (E.call 10 [(.d (.int .i64 n5))]).bind fun p6=>
 (opI (A.cell p6.leaves 0) .i64).bind fun n8=>
 cutO (
  bif (A.ieq n8 0)then
   some (.inl [(.bool (A.ieq n4 17))])
  else
   some (.inl [(.bool false)])
 ) fun ds9=>
 (opB (A.cell ds9 0)).bind fun b10=>
 cutO (
  bif b10 then
   some (.inl [(.bool (A.ieq (A.rlen l3) 1))])
  else
   some (.inl [(.bool false)])
 ) fun ds11=>
 (opB (A.cell ds11 0)).bind fun b12=>
 cutO (
  bif b12 then
   bif (A.inr 0 (A.rlen l3))then
    (opS (A.cell (A.row l3 0) 0)).bind fun s13=>
    some (.inl [(.bool (A.seq s13 (bs [97,47,110])))])
   else
    none
  else
   some (.inl [(.bool false)])
 ) fun ds14=>
 (opB (A.cell ds14 0)).bind fun b15=>
 some (.val [(.bool b15)])
theorem g6_eq (A:Sy)(E:Env):(funT A Tryz.prog cs 6 []).run E=g6 A E:=by kernel_rfl
def g10 (A:Sy)(E:Env)(e_:Int):Option PRes:=
 some (.val [(.int .i64 e_)])
theorem g10_eq (A:Sy)(E:Env)(e_:Int):(funT A Tryz.prog cs 10 [.d (.int .i64 e_)]).run E=g10 A E e_:=by kernel_rfl
end
end Go.Vm
end

section
set_option maxRecDepth 1000000
set_option maxHeartbeats 0
namespace Go.Vm
open Go.Proofs
def g33 (A:Sy)(E:Env)(e_0:Int)(e_1:Int)(e_2:ByteArray)(e_3:Int)(e_4:List (List D))(e_5:List (List D)):Option PRes:=
 (E.call 31 [(kE e_0 e_1 e_2 e_3 e_4 e_5)]).bind fun p1=>
 (opB (A.cell p1.leaves 0)).bind fun b3=>
 bif (A.bnot b3)then
  some (.val [(.str (bs []))])
 else
  (E.call 66 [(kE e_0 e_1 e_2 e_3 e_4 e_5)]).bind fun p4=>
  (opS (A.cell p4.leaves 0)).bind fun s6=>
  some (.val [(.str s6)])
theorem g33_eq (A:Sy)(E:Env)(e_0:Int)(e_1:Int)(e_2:ByteArray)(e_3:Int)(e_4:List (List D))(e_5:List (List D)):(funT A Tryz.prog cs 33 [.agg [.d (.int .i64 e_0),V.d (.int .i64 e_1),V.d (.str e_2),V.d (.int .i64 e_3),V.d (.sl 1 e_4),V.d (.sl 6 e_5)]]).run E=g33 A E e_0 e_1 e_2 e_3 e_4 e_5:=by kernel_rfl
def g66 (A:Sy)(E:Env)(e_0:Int)(e_1:Int)(e_2:ByteArray)(e_3:Int)(e_4:List (List D))(e_5:List (List D)):Option PRes:=
 E.lp (fun ds1=>
  (opI (A.cell ds1 0) .i64).bind fun n2=>
  oE A ds1 1 fun n3 n4 s5 n6 l7 l8=>
  (opL (A.cell ds1 7) 1).bind fun l9=>
  bif (A.ilt n2 (A.rlen l8))then
   bif (A.inr n2 (A.rlen l8))then
    oE A (A.row l8 n2) 0 fun n10 n11 s12 n13 l14 l15=>
    (E.call 66 [(kE n10 n11 s12 n13 l14 l15)]).bind fun p16=>
    (opS (A.cell p16.leaves 0)).bind fun s18=>
    bif (A.fits l9 [[(.str s18)]] 16)then
     some (.inl [(.int .i64 (A.wrap .i64 (A.add n2 1))),(.int .i64 n3),(.int .i64 n4),(.str s5),(.int .i64 n6),(.sl 1 l7),(.sl 6 l8),(.sl 1 (A.rapp l9 [[(.str s18)]]))])
    else
     none
   else
    none
  else
   bif (A.ieq n3 5)then
    bif (A.ieq n6 1)then
     bif (A.inr 0 (A.rlen l9))then
      (opS (A.cell (A.rown l9 (A.nat 0)) 0)).bind fun s19=>
      bif (A.sfit (bs [40,45]) s19)then
       bif (A.sfit (A.sapp (bs [40,45]) s19) (bs [41]))then
        some (.inr (.val [(.str (A.sapp (A.sapp (bs [40,45]) s19) (bs [41])))]))
       else
        none
      else
       none
     else
      none
    else
     bif (A.inr 0 (A.rlen l9))then
      (opS (A.cell (A.rown l9 (A.nat 0)) 0)).bind fun s20=>
      bif (A.sfit (bs [40,110,111,116,32]) s20)then
       bif (A.sfit (A.sapp (bs [40,110,111,116,32]) s20) (bs [41]))then
        some (.inr (.val [(.str (A.sapp (A.sapp (bs [40,110,111,116,32]) s20) (bs [41])))]))
       else
        none
      else
       none
     else
      none
   else
    bif (A.ieq n3 6)then
     bif (A.inr 0 (A.rlen l9))then
      (opS (A.cell (A.rown l9 (A.nat 0)) 0)).bind fun s21=>
      bif (A.sfit (bs [40]) s21)then
       bif (A.sfit (A.sapp (bs [40]) s21) (bs [32]))then
        (E.call 117 [(.d (.int .i64 n6))]).bind fun p22=>
        (opS (A.cell p22.leaves 0)).bind fun s24=>
        bif (A.sfit (A.sapp (A.sapp (bs [40]) s21) (bs [32])) s24)then
         bif (A.sfit (A.sapp (A.sapp (A.sapp (bs [40]) s21) (bs [32])) s24) (bs [32]))then
          bif (A.inr 1 (A.rlen l9))then
           (opS (A.cell (A.rown l9 (A.nat 1)) 0)).bind fun s25=>
           bif (A.sfit (A.sapp (A.sapp (A.sapp (A.sapp (bs [40]) s21) (bs [32])) s24) (bs [32])) s25)then
            bif (A.sfit (A.sapp (A.sapp (A.sapp (A.sapp (A.sapp (bs [40]) s21) (bs [32])) s24) (bs [32])) s25) (bs [41]))then
             some (.inr (.val [(.str (A.sapp (A.sapp (A.sapp (A.sapp (A.sapp (A.sapp (bs [40]) s21) (bs [32])) s24) (bs [32])) s25) (bs [41])))]))
            else
             none
           else
            none
          else
           none
         else
          none
        else
         none
       else
        none
      else
       none
     else
      none
    else
     bif (A.ieq n3 7)then
      bif (A.inr 0 (A.rlen l9))then
       (opS (A.cell (A.rown l9 (A.nat 0)) 0)).bind fun s26=>
       bif (A.sfit (bs [40,105,102,32]) s26)then
        bif (A.sfit (A.sapp (bs [40,105,102,32]) s26) (bs [32,116,104,101,110,32]))then
         bif (A.inr 1 (A.rlen l9))then
          (opS (A.cell (A.rown l9 (A.nat 1)) 0)).bind fun s27=>
          bif (A.sfit (A.sapp (A.sapp (bs [40,105,102,32]) s26) (bs [32,116,104,101,110,32])) s27)then
           bif (A.sfit (A.sapp (A.sapp (A.sapp (bs [40,105,102,32]) s26) (bs [32,116,104,101,110,32])) s27) (bs [32,101,108,115,101,32]))then
            bif (A.inr 2 (A.rlen l9))then
             (opS (A.cell (A.rown l9 (A.nat 2)) 0)).bind fun s28=>
             bif (A.sfit (A.sapp (A.sapp (A.sapp (A.sapp (bs [40,105,102,32]) s26) (bs [32,116,104,101,110,32])) s27) (bs [32,101,108,115,101,32])) s28)then
              bif (A.sfit (A.sapp (A.sapp (A.sapp (A.sapp (A.sapp (bs [40,105,102,32]) s26) (bs [32,116,104,101,110,32])) s27) (bs [32,101,108,115,101,32])) s28) (bs [41]))then
               some (.inr (.val [(.str (A.sapp (A.sapp (A.sapp (A.sapp (A.sapp (A.sapp (bs [40,105,102,32]) s26) (bs [32,116,104,101,110,32])) s27) (bs [32,101,108,115,101,32])) s28) (bs [41])))]))
              else
               none
             else
              none
            else
             none
           else
            none
          else
           none
         else
          none
        else
         none
       else
        none
      else
       none
     else
      bif (A.ieq n3 8)then
       bif (A.inr 0 (A.rlen l9))then
        (opS (A.cell (A.rown l9 (A.nat 0)) 0)).bind fun s29=>
        bif (A.sfit (bs [40]) s29)then
         bif (A.sfit (A.sapp (bs [40]) s29) (bs [32,102,98,121,32]))then
          bif (A.inr 1 (A.rlen l9))then
           (opS (A.cell (A.rown l9 (A.nat 1)) 0)).bind fun s30=>
           bif (A.sfit (A.sapp (A.sapp (bs [40]) s29) (bs [32,102,98,121,32])) s30)then
            bif (A.sfit (A.sapp (A.sapp (A.sapp (bs [40]) s29) (bs [32,102,98,121,32])) s30) (bs [41]))then
             some (.inr (.val [(.str (A.sapp (A.sapp (A.sapp (A.sapp (bs [40]) s29) (bs [32,102,98,121,32])) s30) (bs [41])))]))
            else
             none
           else
            none
          else
           none
         else
          none
        else
         none
       else
        none
      else
       bif (A.ieq n3 9)then
        bif (A.inr 0 (A.rlen l9))then
         (opS (A.cell (A.rown l9 (A.nat 0)) 0)).bind fun s31=>
         bif (A.sfit (bs [40]) s31)then
          bif (A.sfit (A.sapp (bs [40]) s31) (bs [32,45,62,32]))then
           bif (A.inr 1 (A.rlen l9))then
            (opS (A.cell (A.rown l9 (A.nat 1)) 0)).bind fun s32=>
            bif (A.sfit (A.sapp (A.sapp (bs [40]) s31) (bs [32,45,62,32])) s32)then
             bif (A.sfit (A.sapp (A.sapp (A.sapp (bs [40]) s31) (bs [32,45,62,32])) s32) (bs [41]))then
              some (.inr (.val [(.str (A.sapp (A.sapp (A.sapp (A.sapp (bs [40]) s31) (bs [32,45,62,32])) s32) (bs [41])))]))
             else
              none
            else
             none
           else
            none
          else
           none
         else
          none
        else
         none
       else
        bif (A.ieq n3 10)then
         bif (A.inr 0 (A.rlen l9))then
          (opS (A.cell (A.rown l9 (A.nat 0)) 0)).bind fun s33=>
          bif (A.sfit (bs [40,112,114,101,32]) s33)then
           bif (A.sfit (A.sapp (bs [40,112,114,101,32]) s33) (bs [41]))then
            some (.inr (.val [(.str (A.sapp (A.sapp (bs [40,112,114,101,32]) s33) (bs [41])))]))
           else
            none
          else
           none
         else
          none
        else
         bif (A.ieq n3 11)then
          bif (A.inr 0 (A.rlen l9))then
           (opS (A.cell (A.rown l9 (A.nat 0)) 0)).bind fun s34=>
           bif (A.sfit (bs [40]) s34)then
            bif (A.sfit (A.sapp (bs [40]) s34) (bs [32,119,104,101,110,32]))then
             bif (A.inr 0 (A.rlen l7))then
              (opS (A.cell (A.row l7 0) 0)).bind fun s35=>
              (E.call 118 [(.d (.str s5)),(.d (.str s35))]).bind fun p36=>
              (opS (A.cell p36.leaves 0)).bind fun s38=>
              bif (A.sfit (A.sapp (A.sapp (bs [40]) s34) (bs [32,119,104,101,110,32])) s38)then
               bif (A.sfit (A.sapp (A.sapp (A.sapp (bs [40]) s34) (bs [32,119,104,101,110,32])) s38) (bs [41]))then
                some (.inr (.val [(.str (A.sapp (A.sapp (A.sapp (A.sapp (bs [40]) s34) (bs [32,119,104,101,110,32])) s38) (bs [41])))]))
               else
                none
              else
               none
             else
              none
            else
             none
           else
            none
          else
           none
         else
          bif (A.ieq n3 12)then
           bif (A.sfit (bs [40,109,101,114,103,101,32]) s5)then
            E.lp (fun ds39=>
             (opS (A.cell ds39 0)).bind fun s40=>
             (opI (A.cell ds39 1) .i64).bind fun n41=>
             oE A ds39 2 fun n42 n43 s44 n45 l46 l47=>
             (opL (A.cell ds39 8) 1).bind fun l48=>
             bif (A.ilt n41 (A.rlen l48))then
              bif (A.sfit s40 (bs [32,40]))then
               bif (A.inr n41 (A.rlen l46))then
                (opS (A.cell (A.row l46 n41) 0)).bind fun s49=>
                bif (A.sfit (A.sapp s40 (bs [32,40])) s49)then
                 bif (A.sfit (A.sapp (A.sapp s40 (bs [32,40])) s49) (bs [32,45,62,32]))then
                  bif (A.inr n41 (A.rlen l48))then
                   (opS (A.cell (A.rown l48 (A.nat n41)) 0)).bind fun s50=>
                   bif (A.sfit (A.sapp (A.sapp (A.sapp s40 (bs [32,40])) s49) (bs [32,45,62,32])) s50)then
                    bif (A.sfit (A.sapp (A.sapp (A.sapp (A.sapp s40 (bs [32,40])) s49) (bs [32,45,62,32])) s50) (bs [41]))then
                     some (.inl [(.str (A.sapp (A.sapp (A.sapp (A.sapp (A.sapp s40 (bs [32,40])) s49) (bs [32,45,62,32])) s50) (bs [41]))),(.int .i64 (A.wrap .i64 (A.add n41 1))),(.int .i64 n42),(.int .i64 n43),(.str s44),(.int .i64 n45),(.sl 1 l46),(.sl 6 l47),(.sl 1 l48)])
                    else
                     none
                   else
                    none
                  else
                   none
                 else
                  none
                else
                 none
               else
                none
              else
               none
             else
              bif (A.sfit s40 (bs [41]))then
               some (.inr (.inr (.val [(.str (A.sapp s40 (bs [41])))])))
              else
               none
            ) [(.str (A.sapp (bs [40,109,101,114,103,101,32]) s5)),(.int .i64 0),(.int .i64 n3),(.int .i64 n4),(.str s5),(.int .i64 n6),(.sl 1 l7),(.sl 6 l8),(.sl 1 l9)]
           else
            none
          else
           bif (A.ieq n3 13)then
            (E.call 119 [(kE n3 n4 s5 n6 l7 l8)]).bind fun p51=>
            (opS (A.cell p51.leaves 0)).bind fun s53=>
            some (.inr (.val [(.str s53)]))
           else
            bif (A.ieq n3 14)then
             (E.call 120 [(.d (.sl 6 l8))]).bind fun p54=>
             (opS (A.cell p54.leaves 0)).bind fun s56=>
             bif (A.sfit (bs [91]) s56)then
              bif (A.sfit (A.sapp (bs [91]) s56) (bs [93]))then
               some (.inr (.val [(.str (A.sapp (A.sapp (bs [91]) s56) (bs [93])))]))
              else
               none
             else
              none
            else
             bif (A.ieq n3 15)then
              bif (A.inr 0 (A.rlen l9))then
               (opS (A.cell (A.rown l9 (A.nat 0)) 0)).bind fun s57=>
               bif (A.sfit s57 (bs [91]))then
                bif (A.inr 1 (A.rlen l9))then
                 (opS (A.cell (A.rown l9 (A.nat 1)) 0)).bind fun s58=>
                 bif (A.sfit (A.sapp s57 (bs [91])) s58)then
                  bif (A.sfit (A.sapp (A.sapp s57 (bs [91])) s58) (bs [93]))then
                   some (.inr (.val [(.str (A.sapp (A.sapp (A.sapp s57 (bs [91])) s58) (bs [93])))]))
                  else
                   none
                 else
                  none
                else
                 none
               else
                none
              else
               none
             else
              bif (A.ieq n3 16)then
               bif (A.inr 0 (A.rlen l9))then
                (opS (A.cell (A.rown l9 (A.nat 0)) 0)).bind fun s59=>
                bif (A.sfit (bs [40]) s59)then
                 bif (A.sfit (A.sapp (bs [40]) s59) (bs [32,119,105,116,104,32,91]))then
                  bif (A.inr 1 (A.rlen l9))then
                   (opS (A.cell (A.rown l9 (A.nat 1)) 0)).bind fun s60=>
                   bif (A.sfit (A.sapp (A.sapp (bs [40]) s59) (bs [32,119,105,116,104,32,91])) s60)then
                    bif (A.sfit (A.sapp (A.sapp (A.sapp (bs [40]) s59) (bs [32,119,105,116,104,32,91])) s60) (bs [93,32,61,32]))then
                     bif (A.inr 2 (A.rlen l9))then
                      (opS (A.cell (A.rown l9 (A.nat 2)) 0)).bind fun s61=>
                      bif (A.sfit (A.sapp (A.sapp (A.sapp (A.sapp (bs [40]) s59) (bs [32,119,105,116,104,32,91])) s60) (bs [93,32,61,32])) s61)then
                       bif (A.sfit (A.sapp (A.sapp (A.sapp (A.sapp (A.sapp (bs [40]) s59) (bs [32,119,105,116,104,32,91])) s60) (bs [93,32,61,32])) s61) (bs [41]))then
                        some (.inr (.val [(.str (A.sapp (A.sapp (A.sapp (A.sapp (A.sapp (A.sapp (bs [40]) s59) (bs [32,119,105,116,104,32,91])) s60) (bs [93,32,61,32])) s61) (bs [41])))]))
                       else
                        none
                      else
                       none
                     else
                      none
                    else
                     none
                   else
                    none
                  else
                   none
                 else
                  none
                else
                 none
               else
                none
              else
               (E.call 121 [(kE n3 n4 s5 n6 l7 l8)]).bind fun p62=>
               (opS (A.cell p62.leaves 0)).bind fun s64=>
               some (.inr (.val [(.str s64)]))
 ) [(.int .i64 0),(.int .i64 e_0),(.int .i64 e_1),(.str e_2),(.int .i64 e_3),(.sl 1 e_4),(.sl 6 e_5),(.sl 1 [])]
theorem g66_eq (A:Sy)(E:Env)(e_0:Int)(e_1:Int)(e_2:ByteArray)(e_3:Int)(e_4:List (List D))(e_5:List (List D)):(funT A Tryz.prog cs 66 [.agg [.d (.int .i64 e_0),V.d (.int .i64 e_1),V.d (.str e_2),V.d (.int .i64 e_3),V.d (.sl 1 e_4),V.d (.sl 6 e_5)]]).run E=g66 A E e_0 e_1 e_2 e_3 e_4 e_5:=by kernel_rfl
def g118 (A:Sy)(E:Env)(name_:ByteArray)(arm_:ByteArray):Option PRes:=
 bif (A.seq arm_ (bs [116,114,117,101]))then
  some (.val [(.str name_)])
 else
  bif (A.seq arm_ (bs [102,97,108,115,101]))then
   bif (A.sfit (bs [110,111,116,32]) name_)then
    some (.val [(.str (A.sapp (bs [110,111,116,32]) name_))])
   else
    none
  else
   bif (A.sfit arm_ (bs [40]))then
    bif (A.sfit (A.sapp arm_ (bs [40])) name_)then
     bif (A.sfit (A.sapp (A.sapp arm_ (bs [40])) name_) (bs [41]))then
      some (.val [(.str (A.sapp (A.sapp (A.sapp arm_ (bs [40])) name_) (bs [41])))])
     else
      none
    else
     none
   else
    none
theorem g118_eq (A:Sy)(E:Env)(name_:ByteArray)(arm_:ByteArray):(funT A Tryz.prog cs 118 [.d (.str name_),V.d (.str arm_)]).run E=g118 A E name_ arm_:=by kernel_rfl
def g119 (A:Sy)(E:Env)(e_0:Int)(e_1:Int)(e_2:ByteArray)(e_3:Int)(e_4:List (List D))(e_5:List (List D)):Option PRes:=
 bif (A.sfit e_2 (bs [40]))then
  bif (A.cutok 0 (A.wrap .i64 (A.sub (A.rlen e_5) e_1)) (A.rlen e_5))then
   (E.call 120 [(.d (.sl 6 (A.cut e_5 0 (A.wrap .i64 (A.sub (A.rlen e_5) e_1)))))]).bind fun p1=>
   (opS (A.cell p1.leaves 0)).bind fun s3=>
   bif (A.sfit (A.sapp e_2 (bs [40])) s3)then
    bif (A.sfit (A.sapp (A.sapp e_2 (bs [40])) s3) (bs [41]))then
     bif (A.ieq e_1 1)then
      bif (A.sfit (bs [40]) (A.sapp (A.sapp (A.sapp e_2 (bs [40])) s3) (bs [41])))then
       bif (A.sfit (A.sapp (bs [40]) (A.sapp (A.sapp (A.sapp e_2 (bs [40])) s3) (bs [41]))) (bs [32,101,118,101,114,121,32]))then
        bif (A.inr (A.wrap .i64 (A.sub (A.rlen e_5) e_1)) (A.rlen e_5))then
         (opI (A.cell (A.row e_5 (A.wrap .i64 (A.sub (A.rlen e_5) e_1))) 0) .i64).bind fun n4=>
         (opI (A.cell (A.row e_5 (A.wrap .i64 (A.sub (A.rlen e_5) e_1))) 1) .i64).bind fun n5=>
         (opS (A.cell (A.row e_5 (A.wrap .i64 (A.sub (A.rlen e_5) e_1))) 2)).bind fun s6=>
         (opI (A.cell (A.row e_5 (A.wrap .i64 (A.sub (A.rlen e_5) e_1))) 3) .i64).bind fun n7=>
         (opL (A.cell (A.row e_5 (A.wrap .i64 (A.sub (A.rlen e_5) e_1))) 4) 1).bind fun l8=>
         (opL (A.cell (A.row e_5 (A.wrap .i64 (A.sub (A.rlen e_5) e_1))) 5) 6).bind fun l9=>
         (E.call 66 [(kE n4 n5 s6 n7 l8 l9)]).bind fun p10=>
         (opS (A.cell p10.leaves 0)).bind fun s12=>
         bif (A.sfit (A.sapp (A.sapp (bs [40]) (A.sapp (A.sapp (A.sapp e_2 (bs [40])) s3) (bs [41]))) (bs [32,101,118,101,114,121,32])) s12)then
          bif (A.sfit (A.sapp (A.sapp (A.sapp (bs [40]) (A.sapp (A.sapp (A.sapp e_2 (bs [40])) s3) (bs [41]))) (bs [32,101,118,101,114,121,32])) s12) (bs [41]))then
           some (.val [(.str (A.sapp (A.sapp (A.sapp (A.sapp (bs [40]) (A.sapp (A.sapp (A.sapp e_2 (bs [40])) s3) (bs [41]))) (bs [32,101,118,101,114,121,32])) s12) (bs [41])))])
          else
           none
         else
          none
        else
         none
       else
        none
      else
       none
     else
      some (.val [(.str (A.sapp (A.sapp (A.sapp e_2 (bs [40])) s3) (bs [41])))])
    else
     none
   else
    none
  else
   none
 else
  none
theorem g119_eq (A:Sy)(E:Env)(e_0:Int)(e_1:Int)(e_2:ByteArray)(e_3:Int)(e_4:List (List D))(e_5:List (List D)):(funT A Tryz.prog cs 119 [.agg [.d (.int .i64 e_0),V.d (.int .i64 e_1),V.d (.str e_2),V.d (.int .i64 e_3),V.d (.sl 1 e_4),V.d (.sl 6 e_5)]]).run E=g119 A E e_0 e_1 e_2 e_3 e_4 e_5:=by kernel_rfl
def g120 (A:Sy)(E:Env)(l_:List (List D)):Option PRes:=
 E.lp (fun ds1=>
  (opL (A.cell ds1 0) 6).bind fun l2=>
  (opS (A.cell ds1 1)).bind fun s3=>
  (opI (A.cell ds1 2) .i64).bind fun n4=>
  bif (A.ilt n4 (A.rlen l2))then
   bif (A.ilt 0 n4)then
    bif (A.sfit s3 (bs [44,32]))then
     bif (A.inr n4 (A.rlen l2))then
      oE A (A.row l2 n4) 0 fun n5 n6 s7 n8 l9 l10=>
      (E.call 66 [(kE n5 n6 s7 n8 l9 l10)]).bind fun p11=>
      (opS (A.cell p11.leaves 0)).bind fun s13=>
      bif (A.sfit (A.sapp s3 (bs [44,32])) s13)then
       some (.inl [(.sl 6 l2),(.str (A.sapp (A.sapp s3 (bs [44,32])) s13)),(.int .i64 (A.wrap .i64 (A.add n4 1)))])
      else
       none
     else
      none
    else
     none
   else
    bif (A.inr n4 (A.rlen l2))then
     oE A (A.row l2 n4) 0 fun n14 n15 s16 n17 l18 l19=>
     (E.call 66 [(kE n14 n15 s16 n17 l18 l19)]).bind fun p20=>
     (opS (A.cell p20.leaves 0)).bind fun s22=>
     bif (A.sfit s3 s22)then
      some (.inl [(.sl 6 l2),(.str (A.sapp s3 s22)),(.int .i64 (A.wrap .i64 (A.add n4 1)))])
     else
      none
    else
     none
  else
   some (.inr (.val [(.str s3)]))
 ) [(.sl 6 l_),(.str (bs [])),(.int .i64 0)]
theorem g120_eq (A:Sy)(E:Env)(l_:List (List D)):(funT A Tryz.prog cs 120 [.d (.sl 6 l_)]).run E=g120 A E l_:=by kernel_rfl
def g121 (A:Sy)(E:Env)(e_0:Int)(e_1:Int)(e_2:ByteArray)(e_3:Int)(e_4:List (List D))(e_5:List (List D)):Option PRes:=
 bif (A.ieq e_0 1)then
  (E.call 158 [(.d (.int .i64 e_1))]).bind fun p1=>
  (opS (A.cell p1.leaves 0)).bind fun s3=>
  some (.val [(.str s3)])
 else
  bif (A.ieq e_0 2)then
   bif (A.ieq e_1 1)then
    some (.val [(.str (bs [116,114,117,101]))])
   else
    some (.val [(.str (bs [102,97,108,115,101]))])
  else
   bif (A.ieq e_0 17)then
    bif (A.sfit (bs [39]) e_2)then
     bif (A.sfit (A.sapp (bs [39]) e_2) (bs [39]))then
      some (.val [(.str (A.sapp (A.sapp (bs [39]) e_2) (bs [39])))])
     else
      none
    else
     none
   else
    some (.val [(.str e_2)])
theorem g121_eq (A:Sy)(E:Env)(e_0:Int)(e_1:Int)(e_2:ByteArray)(e_3:Int)(e_4:List (List D))(e_5:List (List D)):(funT A Tryz.prog cs 121 [.agg [.d (.int .i64 e_0),V.d (.int .i64 e_1),V.d (.str e_2),V.d (.int .i64 e_3),V.d (.sl 1 e_4),V.d (.sl 6 e_5)]]).run E=g121 A E e_0 e_1 e_2 e_3 e_4 e_5:=by kernel_rfl
def g117 (A:Sy)(E:Env)(op_:Int):Option PRes:=
 cutO (
  bif (A.ilt op_ 1)then
   some (.inl [(.bool true)])
  else
   some (.inl [(.bool (A.ilt 16 op_))])
 ) fun ds1=>
 (opB (A.cell ds1 0)).bind fun b2=>
 bif b2 then
  some (.val [(.str (bs []))])
 else
  bif (A.inr op_ (A.rlen [[(.str (bs []))],[(.str (bs [45]))],[(.str (bs [110,111,116]))],[(.str (bs [43]))],[(.str (bs [45]))],[(.str (bs [42]))],[(.str (bs [47]))],[(.str (bs [109,111,100]))],[(.str (bs [97,110,100]))],[(.str (bs [111,114]))],[(.str (bs [120,111,114]))],[(.str (bs [61]))],[(.str (bs [60,62]))],[(.str (bs [60]))],[(.str (bs [60,61]))],[(.str (bs [62]))],[(.str (bs [62,61]))]]))then
   (opS (A.cell (A.rown [[(.str (bs []))],[(.str (bs [45]))],[(.str (bs [110,111,116]))],[(.str (bs [43]))],[(.str (bs [45]))],[(.str (bs [42]))],[(.str (bs [47]))],[(.str (bs [109,111,100]))],[(.str (bs [97,110,100]))],[(.str (bs [111,114]))],[(.str (bs [120,111,114]))],[(.str (bs [61]))],[(.str (bs [60,62]))],[(.str (bs [60]))],[(.str (bs [60,61]))],[(.str (bs [62]))],[(.str (bs [62,61]))]] (A.nat op_)) 0)).bind fun s3=>
   some (.val [(.str s3)])
  else
   none
theorem g117_eq (A:Sy)(E:Env)(op_:Int):(funT A Tryz.prog cs 117 [.d (.int .i64 op_)]).run E=g117 A E op_:=by kernel_rfl
def g158 (A:Sy)(E:Env)(n_:Int):Option PRes:=
 bif (A.ilt n_ 0)then
  E.lp (fun ds1=>
   (opI (A.cell ds1 0) .i64).bind fun n2=>
   (opI (A.cell ds1 1) .u64).bind fun n3=>
   (opS (A.cell ds1 2)).bind fun s4=>
   cutO (
    bif (A.ilt 0 n3)then
     some (.inl [(.bool true)])
    else
     some (.inl [(.bool (A.seq s4 (bs [])))])
   ) fun ds5=>
   (opB (A.cell ds5 0)).bind fun b6=>
   bif b6 then
    bif (A.bnot (A.ieq 10 0))then
     bif (A.isby [[(.int .u8 (A.wrap .u8 (A.wrap .u64 (A.add 48 (A.rem n3 10)))))]])then
      bif (A.sfit (A.bstr [[(.int .u8 (A.wrap .u8 (A.wrap .u64 (A.add 48 (A.rem n3 10)))))]]) s4)then
       bif (A.bnot (A.ieq 10 0))then
        some (.inl [(.int .i64 n2),(.int .u64 (A.wrap .u64 (A.quo n3 10))),(.str (A.sapp (A.bstr [[(.int .u8 (A.wrap .u8 (A.wrap .u64 (A.add 48 (A.rem n3 10)))))]]) s4))])
       else
        none
      else
       none
     else
      none
    else
     none
   else
    bif (A.ilt n2 0)then
     bif (A.sfit (bs [45]) s4)then
      some (.inr (.val [(.str (A.sapp (bs [45]) s4))]))
     else
      none
    else
     some (.inr (.val [(.str s4)]))
  ) [(.int .i64 n_),(.int .u64 (A.wrap .u64 (A.sub 0 (A.wrap .u64 n_)))),(.str (bs []))]
 else
  E.lp (fun ds7=>
   (opI (A.cell ds7 0) .i64).bind fun n8=>
   (opI (A.cell ds7 1) .u64).bind fun n9=>
   (opS (A.cell ds7 2)).bind fun s10=>
   cutO (
    bif (A.ilt 0 n9)then
     some (.inl [(.bool true)])
    else
     some (.inl [(.bool (A.seq s10 (bs [])))])
   ) fun ds11=>
   (opB (A.cell ds11 0)).bind fun b12=>
   bif b12 then
    bif (A.bnot (A.ieq 10 0))then
     bif (A.isby [[(.int .u8 (A.wrap .u8 (A.wrap .u64 (A.add 48 (A.rem n9 10)))))]])then
      bif (A.sfit (A.bstr [[(.int .u8 (A.wrap .u8 (A.wrap .u64 (A.add 48 (A.rem n9 10)))))]]) s10)then
       bif (A.bnot (A.ieq 10 0))then
        some (.inl [(.int .i64 n8),(.int .u64 (A.wrap .u64 (A.quo n9 10))),(.str (A.sapp (A.bstr [[(.int .u8 (A.wrap .u8 (A.wrap .u64 (A.add 48 (A.rem n9 10)))))]]) s10))])
       else
        none
      else
       none
     else
      none
    else
     none
   else
    bif (A.ilt n8 0)then
     bif (A.sfit (bs [45]) s10)then
      some (.inr (.val [(.str (A.sapp (bs [45]) s10))]))
     else
      none
    else
     some (.inr (.val [(.str s10)]))
  ) [(.int .i64 n_),(.int .u64 (A.wrap .u64 n_)),(.str (bs []))]
theorem g158_eq (A:Sy)(E:Env)(n_:Int):(funT A Tryz.prog cs 158 [.d (.int .i64 n_)]).run E=g158 A E n_:=by kernel_rfl
end Go.Vm
end
