/- Part KF of the proof. What is proved by the whole: the statement that the claim names, with no condition. -/
import Derived.Test.YtggdkkdfeblooaaGreatDoorKE
import Derived.Test.YtggdkkdfeblooaaGreatDoorChecked
import Derived.Shelf.Strings.Fields
import Derived.Shelf.Strconv.ParseIntPublic10
import Derived.Shelf.Strconv.Itoa0
import Derived.Shelf.Strconv.Itoa1
import Derived.Shelf.LaysM
import Derived.Shelf.Strconv.Itoa2
import Derived.Shelf.Strconv.Itoa3
set_option linter.all false
section

end
section
namespace Go.Proofs
open Go.Shelf
def Tryz.j1h:Go.Shelf.Ren:=⟨fun|174=>126|247=>167|245=>168|287=>201|279=>202|280=>203|281=>204|282=>205|321=>239|322=>240|316=>241|171=>11|205=>242|243=>23|246=>58|283=>105|284=>106|285=>107|286=>108|129=>155|317=>154|318=>156|319=>157|320=>158|337=>196|338=>197|n=>n,fun|9=>9|3=>3|2=>2|75=>59|85=>188|4=>4|167=>252|5=>5|53=>175|175=>253|46=>217|168=>255|37=>178|0=>0|210=>297|21=>21|127=>330|145=>333|143=>331|171=>174|173=>179|212=>214|51=>215|20=>20|213=>216|232=>291|233=>292|80=>348|n=>n,fun|15=>7|16=>8|17=>1|18=>5|19=>6|n=>n⟩
def Tryz.j1e:Go.Proofs.LaysC.n174 Tryz.prog Tryz.j1h:= {
 mixed:=by kernel_rfl
 f129:=Tryz.func155.trans (congrArg some (by kernel_rfl))
 f171:=Tryz.func11.trans (congrArg some (by kernel_rfl))
 f174:=Tryz.func126.trans (congrArg some (by kernel_rfl))
 f205:=Tryz.func242.trans (congrArg some (by kernel_rfl))
 f243:=Tryz.func23.trans (congrArg some (by kernel_rfl))
 f245:=Tryz.func168.trans (congrArg some (by kernel_rfl))
 f246:=Tryz.func58.trans (congrArg some (by kernel_rfl))
 f247:=Tryz.func167.trans (congrArg some (by kernel_rfl))
 f279:=Tryz.func202.trans (congrArg some (by kernel_rfl))
 f280:=Tryz.func203.trans (congrArg some (by kernel_rfl))
 f281:=Tryz.func204.trans (congrArg some (by kernel_rfl))
 f282:=Tryz.func205.trans (congrArg some (by kernel_rfl))
 f283:=Tryz.func105.trans (congrArg some (by kernel_rfl))
 f284:=Tryz.func106.trans (congrArg some (by kernel_rfl))
 f285:=Tryz.func107.trans (congrArg some (by kernel_rfl))
 f286:=Tryz.func108.trans (congrArg some (by kernel_rfl))
 f287:=Tryz.func201.trans (congrArg some (by kernel_rfl))
 f316:=Tryz.func241.trans (congrArg some (by kernel_rfl))
 f317:=Tryz.func154.trans (congrArg some (by kernel_rfl))
 f318:=Tryz.func156.trans (congrArg some (by kernel_rfl))
 f319:=Tryz.func157.trans (congrArg some (by kernel_rfl))
 f320:=Tryz.func158.trans (congrArg some (by kernel_rfl))
 f321:=Tryz.func239.trans (congrArg some (by kernel_rfl))
 f322:=Tryz.func240.trans (congrArg some (by kernel_rfl))
 f337:=Tryz.func196.trans (congrArg some (by kernel_rfl))
 f338:=Tryz.func197.trans (congrArg some (by kernel_rfl))
 t0:=Tryz.underlying0
 a0:=Tryz.isAgg0
 z0:=Tryz.sizeOf0
 v0:=Tryz.zeroValue0
 t2:=Tryz.underlying2
 a2:=Tryz.isAgg2
 z2:=Tryz.sizeOf2
 v2:=Tryz.zeroValue2
 t3:=Tryz.underlying3
 a3:=Tryz.isAgg3
 z3:=Tryz.sizeOf3
 v3:=Tryz.zeroValue3
 t4:=Tryz.underlying4
 a4:=Tryz.isAgg4
 z4:=Tryz.sizeOf4
 v4:=Tryz.zeroValue4
 t5:=Tryz.underlying5
 a5:=Tryz.isAgg5
 z5:=Tryz.sizeOf5
 v5:=Tryz.zeroValue5
 t9:=Tryz.underlying9
 a9:=Tryz.isAgg9
 z9:=Tryz.sizeOf9
 v9:=Tryz.zeroValue9
 t20:=Tryz.underlying20
 a20:=Tryz.isAgg20
 z20:=Tryz.sizeOf20
 v20:=Tryz.zeroValue20
 t21:=Tryz.underlying21
 a21:=Tryz.isAgg21
 z21:=Tryz.sizeOf21
 v21:=Tryz.zeroValue21
 t37:=Tryz.underlying178
 a37:=Tryz.isAgg178
 z37:=Tryz.sizeOf178
 v37:=Tryz.zeroValue178
 t46:=Tryz.underlying217
 a46:=Tryz.isAgg217
 z46:=Tryz.sizeOf217
 v46:=Tryz.zeroValue217
 t51:=Tryz.underlying215
 a51:=Tryz.isAgg215
 z51:=Tryz.sizeOf215
 v51:=Tryz.zeroValue215
 t53:=Tryz.underlying175
 a53:=Tryz.isAgg175
 z53:=Tryz.sizeOf175
 v53:=Tryz.zeroValue175
 t75:=Tryz.underlying59
 a75:=Tryz.isAgg59
 z75:=Tryz.sizeOf59
 v75:=Tryz.zeroValue59
 t85:=Tryz.underlying188
 a85:=Tryz.isAgg188
 z85:=Tryz.sizeOf188
 v85:=Tryz.zeroValue188
 t127:=Tryz.underlying330
 a127:=Tryz.isAgg330
 z127:=Tryz.sizeOf330
 v127:=Tryz.zeroValue330
 t143:=Tryz.underlying331
 a143:=Tryz.isAgg331
 z143:=Tryz.sizeOf331
 v143:=Tryz.zeroValue331
 t145:=Tryz.underlying333
 a145:=Tryz.isAgg333
 z145:=Tryz.sizeOf333
 v145:=Tryz.zeroValue333
 t167:=Tryz.underlying252
 a167:=Tryz.isAgg252
 z167:=Tryz.sizeOf252
 v167:=Tryz.zeroValue252
 t168:=Tryz.underlying255
 a168:=Tryz.isAgg255
 z168:=Tryz.sizeOf255
 v168:=Tryz.zeroValue255
 t171:=Tryz.underlying174
 a171:=Tryz.isAgg174
 z171:=Tryz.sizeOf174
 v171:=Tryz.zeroValue174
 t173:=Tryz.underlying179
 a173:=Tryz.isAgg179
 z173:=Tryz.sizeOf179
 v173:=Tryz.zeroValue179
 t175:=Tryz.underlying253
 a175:=Tryz.isAgg253
 z175:=Tryz.sizeOf253
 v175:=Tryz.zeroValue253
 t210:=Tryz.underlying297
 a210:=Tryz.isAgg297
 z210:=Tryz.sizeOf297
 v210:=Tryz.zeroValue297
 t212:=Tryz.underlying214
 a212:=Tryz.isAgg214
 z212:=Tryz.sizeOf214
 v212:=Tryz.zeroValue214
 t213:=Tryz.underlying216
 a213:=Tryz.isAgg216
 z213:=Tryz.sizeOf216
 t232:=Tryz.underlying291
 a232:=Tryz.isAgg291
 z232:=Tryz.sizeOf291
 v232:=Tryz.zeroValue291
 t233:=Tryz.underlying292
 a233:=Tryz.isAgg292
 z233:=Tryz.sizeOf292
 v233:=Tryz.zeroValue292
 g15:=by kernel_rfl
 g16:=by kernel_rfl
 g17:=by kernel_rfl
 g18:=by kernel_rfl
 g19:=by kernel_rfl
 t80:=Tryz.underlying348
 a80:=Tryz.isAgg348
 z80:=Tryz.sizeOf348
 v80:=Tryz.zeroValue348
 i0:=by kernel_rfl
 i2:=by kernel_rfl
 i3:=by kernel_rfl
 i4:=by kernel_rfl
 i5:=by kernel_rfl
 i9:=by kernel_rfl
 i20:=by kernel_rfl
 i21:=by kernel_rfl
 i37:=by kernel_rfl
 i46:=by kernel_rfl
 i51:=by kernel_rfl
 i53:=by kernel_rfl
 i75:=by kernel_rfl
 i80:=by kernel_rfl
 i85:=by kernel_rfl
 i127:=by kernel_rfl
 i143:=by kernel_rfl
 i145:=by kernel_rfl
 i167:=by kernel_rfl
 i168:=by kernel_rfl
 i171:=by kernel_rfl
 i173:=by kernel_rfl
 i175:=by kernel_rfl
 i210:=by kernel_rfl
 i212:=by kernel_rfl
 i232:=by kernel_rfl
 i233:=by kernel_rfl
 m15:=by kernel_rfl
 m16:=by kernel_rfl
 m17:=by kernel_rfl
 m18:=by kernel_rfl
 m19:=by kernel_rfl
 c0:=by kernel_rfl
 c2:=by kernel_rfl
 c3:=by kernel_rfl
 c4:=by kernel_rfl
 c5:=by kernel_rfl
 c9:=by kernel_rfl
 c20:=by kernel_rfl
 c21:=by kernel_rfl
 c37:=by kernel_rfl
 c46:=by kernel_rfl
 c51:=by kernel_rfl
 c53:=by kernel_rfl
 c75:=by kernel_rfl
 c80:=by kernel_rfl
 c85:=by kernel_rfl
 c127:=by kernel_rfl
 c143:=by kernel_rfl
 c145:=by kernel_rfl
 c167:=by kernel_rfl
 c168:=by kernel_rfl
 c171:=by kernel_rfl
 c173:=by kernel_rfl
 c175:=by kernel_rfl
 c210:=by kernel_rfl
 c212:=by kernel_rfl
 c213:=by kernel_rfl
 c232:=by kernel_rfl
 c233:=by kernel_rfl }
open Go.RowKit in
def Tryz.strconv_ParseInt_10_at64_ok (s:ByteArray)(hmax:s.size<=9223372036854775806)(v:Int)(h:Lib.parseIntB 64 s.data.toList= .ok v)(w:World):
  Calls Tryz.prog 126 #[.string s, .int .i64 10, .int .i64 64] w fun e w'=>e= .returned (.tuple #[.int .i64 v, .nilIface])/\(w'=w\/ ∃t,w'=Lib.bytesWorld w 5 t):=Any.strconv_ParseInt_10_at64_ok Tryz.j1e s hmax v h w
open Go.RowKit in
def Tryz.strconv_ParseInt_10_at64_range (s:ByteArray)(hlim:s.size<=281474976710656)(h:Lib.parseIntB 64 s.data.toList= .range)(ev:Value)(w:World)(hv:w.cell? ⟨8,0,none⟩=some ev)(hev:ev= .nilIface\/ ∃te pe,ev= .iface te pe):
  Calls Tryz.prog 126 #[.string s, .int .i64 10, .int .i64 64] w fun e w'=> ∃N,e= .returned (.tuple #[.int .i64 (Lib.intSat 64 s.data.toList), .iface 255 (.pointer (some ⟨N,0,none⟩))])/\w.heap.size<=N/\w'.heap[N]? =some (.cells #[.string ⟨#[80,97,114,115,101,73,110,116]⟩, .string s,ev] 297 (0,0))/\Below w.heap.size w w':=Any.strconv_ParseInt_10_at64_range Tryz.j1e s hlim h ev w hv hev
def Tryz.j1k:Go.Shelf.Ren:=⟨fun|157=>129|229=>172|199=>173|261=>212|311=>247|312=>248|n=>n,fun|9=>9|31=>41|3=>3|5=>5|4=>4|119=>226|0=>0|40=>198|152=>261|21=>21|154=>263|51=>215|141=>265|196=>305|193=>302|198=>308|49=>306|194=>303|201=>311|226=>336|46=>217|227=>337|n=>n,fun|0=>2|6=>4|n=>n⟩
def Tryz.j2j:Go.Proofs.Lays.n157 Tryz.prog Tryz.j1k:= {
 mixed:=by kernel_rfl
 f157:=Tryz.func129.trans (congrArg some (by kernel_rfl))
 f199:=Tryz.func173.trans (congrArg some (by kernel_rfl))
 f229:=Tryz.func172.trans (congrArg some (by kernel_rfl))
 f261:=Tryz.func212.trans (congrArg some (by kernel_rfl))
 f311:=Tryz.func247.trans (congrArg some (by kernel_rfl))
 f312:=Tryz.func248.trans (congrArg some (by kernel_rfl))
 t0:=Tryz.underlying0
 a0:=Tryz.isAgg0
 z0:=Tryz.sizeOf0
 v0:=Tryz.zeroValue0
 t3:=Tryz.underlying3
 a3:=Tryz.isAgg3
 z3:=Tryz.sizeOf3
 v3:=Tryz.zeroValue3
 t4:=Tryz.underlying4
 a4:=Tryz.isAgg4
 z4:=Tryz.sizeOf4
 v4:=Tryz.zeroValue4
 t5:=Tryz.underlying5
 a5:=Tryz.isAgg5
 z5:=Tryz.sizeOf5
 v5:=Tryz.zeroValue5
 t9:=Tryz.underlying9
 a9:=Tryz.isAgg9
 z9:=Tryz.sizeOf9
 v9:=Tryz.zeroValue9
 t21:=Tryz.underlying21
 a21:=Tryz.isAgg21
 z21:=Tryz.sizeOf21
 v21:=Tryz.zeroValue21
 t31:=Tryz.underlying41
 a31:=Tryz.isAgg41
 z31:=Tryz.sizeOf41
 v31:=Tryz.zeroValue41
 t40:=Tryz.underlying198
 a40:=Tryz.isAgg198
 z40:=Tryz.sizeOf198
 v40:=Tryz.zeroValue198
 t46:=Tryz.underlying217
 a46:=Tryz.isAgg217
 z46:=Tryz.sizeOf217
 v46:=Tryz.zeroValue217
 t49:=Tryz.underlying306
 a49:=Tryz.isAgg306
 z49:=Tryz.sizeOf306
 v49:=Tryz.zeroValue306
 t51:=Tryz.underlying215
 a51:=Tryz.isAgg215
 z51:=Tryz.sizeOf215
 v51:=Tryz.zeroValue215
 t119:=Tryz.underlying226
 a119:=Tryz.isAgg226
 z119:=Tryz.sizeOf226
 t141:=Tryz.underlying265
 a141:=Tryz.isAgg265
 z141:=Tryz.sizeOf265
 v141:=Tryz.zeroValue265
 t152:=Tryz.underlying261
 a152:=Tryz.isAgg261
 z152:=Tryz.sizeOf261
 v152:=Tryz.zeroValue261
 t154:=Tryz.underlying263
 a154:=Tryz.isAgg263
 z154:=Tryz.sizeOf263
 v154:=Tryz.zeroValue263
 t193:=Tryz.underlying302
 a193:=Tryz.isAgg302
 z193:=Tryz.sizeOf302
 v193:=Tryz.zeroValue302
 t194:=Tryz.underlying303
 a194:=Tryz.isAgg303
 z194:=Tryz.sizeOf303
 v194:=Tryz.zeroValue303
 t196:=Tryz.underlying305
 a196:=Tryz.isAgg305
 z196:=Tryz.sizeOf305
 v196:=Tryz.zeroValue305
 t198:=Tryz.underlying308
 a198:=Tryz.isAgg308
 z198:=Tryz.sizeOf308
 v198:=Tryz.zeroValue308
 t201:=Tryz.underlying311
 a201:=Tryz.isAgg311
 z201:=Tryz.sizeOf311
 v201:=Tryz.zeroValue311
 t226:=Tryz.underlying336
 a226:=Tryz.isAgg336
 z226:=Tryz.sizeOf336
 v226:=Tryz.zeroValue336
 t227:=Tryz.underlying337
 a227:=Tryz.isAgg337
 z227:=Tryz.sizeOf337
 v227:=Tryz.zeroValue337
 g0:=by kernel_rfl
 g6:=by kernel_rfl }
end Go.Proofs
end
section
namespace Go.Proofs
open Go.Shelf
def Tryz.j1g:Go.Shelf.Ren:=⟨fun|246=>58|283=>105|284=>106|285=>107|286=>108|129=>155|317=>154|318=>156|319=>157|320=>158|337=>196|338=>197|n=>n,fun|2=>2|3=>3|9=>9|4=>4|171=>174|0=>0|53=>175|37=>178|5=>5|173=>179|212=>214|51=>215|20=>20|213=>216|46=>217|232=>291|233=>292|n=>n,fun|17=>1|18=>5|19=>6|n=>n⟩
def Tryz.j2f:Go.Proofs.LaysM.n246 Tryz.prog Tryz.j1g:= {
 mixed:=by kernel_rfl
 f129:=Tryz.func155.trans (congrArg some (by kernel_rfl))
 f246:=Tryz.func58.trans (congrArg some (by kernel_rfl))
 f283:=Tryz.func105.trans (congrArg some (by kernel_rfl))
 f284:=Tryz.func106.trans (congrArg some (by kernel_rfl))
 f285:=Tryz.func107.trans (congrArg some (by kernel_rfl))
 f286:=Tryz.func108.trans (congrArg some (by kernel_rfl))
 f317:=Tryz.func154.trans (congrArg some (by kernel_rfl))
 f318:=Tryz.func156.trans (congrArg some (by kernel_rfl))
 f319:=Tryz.func157.trans (congrArg some (by kernel_rfl))
 f320:=Tryz.func158.trans (congrArg some (by kernel_rfl))
 f337:=Tryz.func196.trans (congrArg some (by kernel_rfl))
 f338:=Tryz.func197.trans (congrArg some (by kernel_rfl))
 t0:=Tryz.underlying0
 a0:=Tryz.isAgg0
 z0:=Tryz.sizeOf0
 v0:=Tryz.zeroValue0
 t2:=Tryz.underlying2
 a2:=Tryz.isAgg2
 z2:=Tryz.sizeOf2
 v2:=Tryz.zeroValue2
 t3:=Tryz.underlying3
 a3:=Tryz.isAgg3
 z3:=Tryz.sizeOf3
 v3:=Tryz.zeroValue3
 t4:=Tryz.underlying4
 a4:=Tryz.isAgg4
 z4:=Tryz.sizeOf4
 v4:=Tryz.zeroValue4
 t5:=Tryz.underlying5
 a5:=Tryz.isAgg5
 z5:=Tryz.sizeOf5
 v5:=Tryz.zeroValue5
 t9:=Tryz.underlying9
 a9:=Tryz.isAgg9
 z9:=Tryz.sizeOf9
 v9:=Tryz.zeroValue9
 t20:=Tryz.underlying20
 a20:=Tryz.isAgg20
 z20:=Tryz.sizeOf20
 v20:=Tryz.zeroValue20
 t37:=Tryz.underlying178
 a37:=Tryz.isAgg178
 z37:=Tryz.sizeOf178
 v37:=Tryz.zeroValue178
 t46:=Tryz.underlying217
 a46:=Tryz.isAgg217
 z46:=Tryz.sizeOf217
 v46:=Tryz.zeroValue217
 t51:=Tryz.underlying215
 a51:=Tryz.isAgg215
 z51:=Tryz.sizeOf215
 v51:=Tryz.zeroValue215
 t53:=Tryz.underlying175
 a53:=Tryz.isAgg175
 z53:=Tryz.sizeOf175
 v53:=Tryz.zeroValue175
 t171:=Tryz.underlying174
 a171:=Tryz.isAgg174
 z171:=Tryz.sizeOf174
 v171:=Tryz.zeroValue174
 t173:=Tryz.underlying179
 a173:=Tryz.isAgg179
 z173:=Tryz.sizeOf179
 v173:=Tryz.zeroValue179
 t212:=Tryz.underlying214
 a212:=Tryz.isAgg214
 z212:=Tryz.sizeOf214
 v212:=Tryz.zeroValue214
 t213:=Tryz.underlying216
 a213:=Tryz.isAgg216
 z213:=Tryz.sizeOf216
 t232:=Tryz.underlying291
 a232:=Tryz.isAgg291
 z232:=Tryz.sizeOf291
 v232:=Tryz.zeroValue291
 t233:=Tryz.underlying292
 a233:=Tryz.isAgg292
 z233:=Tryz.sizeOf292
 v233:=Tryz.zeroValue292
 g17:=by kernel_rfl
 g18:=by kernel_rfl
 g19:=by kernel_rfl
 i0:=by kernel_rfl
 i2:=by kernel_rfl
 i3:=by kernel_rfl
 i4:=by kernel_rfl
 i5:=by kernel_rfl
 i9:=by kernel_rfl
 i20:=by kernel_rfl
 i37:=by kernel_rfl
 i46:=by kernel_rfl
 i51:=by kernel_rfl
 i53:=by kernel_rfl
 i171:=by kernel_rfl
 i173:=by kernel_rfl
 i212:=by kernel_rfl
 i232:=by kernel_rfl
 i233:=by kernel_rfl
 m17:=by kernel_rfl
 m18:=by kernel_rfl
 m19:=by kernel_rfl }
open Go.RowKit Go.Sort Go.Lib in
def Tryz.internal_strconv_FormatInt_10 (n:Int)(h0: -9223372036854775808<=n)(h1:n<=9223372036854775807)(w:World)(htab:Lib.TabIs Tryz.prog w "internal/strconv.uint64pow10" .u64 Lib.pow10Tab):
  Calls Tryz.prog 58 #[.int .i64 n, .int .i64 10] w fun e w'=>e= .returned (.string ⟨(Lib.itoa n).toArray⟩)/\ ∃k os,w'=grow (w.drewN k) os:=Any.internal_strconv_FormatInt_10 Tryz.j2f n h0 h1 w htab
end Go.Proofs
end
section
namespace Go.Vm
open Go.Proofs Go.RowKit Go.Shelf
def q8h:List UInt8:=[58,61,32,45,62,32,60,61,32,62,61,32,60,62]
def v4c:LL:=[[.str (bs [58,61])],[.str (bs [45,62])],[.str (bs [60,61])],[.str (bs [62,61])],[.str (bs [60,62])]]
def w2l (s:BA):List D:=[.str s]
def x0b (l:List BA):LL:=l.map w2l
def knF:List V->Option PRes
 | [.d (.str s)]=>match decide (s.data.toList=q8h)with
   |true=>some (.val [.sl 1 v4c])
   |false=>none
 |_=>none
def knG:List V->Option PRes
 | [.nils, .d (.int .i64 n)]=>match decide (0<=n/\n<=1000000)with
   |true=>some (.own 123 6 [])
   |false=>none
 |_=>none
def knA:List V->Option PRes
 | [.d (.int .i64 0), .d (.int .i64 2), .ifo 65 b [.int .i64 a, .int .i64 w], .ifp 67 0 0, .fn 65 [.d (.int .i64 0), .d (.int .i64 0)]]=>some (match b with
   |true=> .val [.bool false, .int .i64 0, .int .i64 0]
   |false=> .val [.bool true, .int .i64 a, .int .i64 w])
 |_=>none
def knI:List V->Option PRes
 | [.d (.int .i64 n), .d (.int .i64 b)]=>match decide (b=10/\ -9223372036854775808<=n/\n<=9223372036854775807)with
   |true=>some (.val [.str ⟨(Lib.itoa n).toArray⟩])
   |false=>none
 |_=>none
def kn:FuncId->List V->Option PRes:=fun f args=>match Nat.beq f 129 with
 |true=>knF args
 |false=>match Nat.beq f 180 with
  |true=>knG args
  |false=>match Nat.beq f 58 with
   |true=>knI args
   |false=>match Nat.beq f 1000019 with
    |true=>knA args
    |false=>none
def v2v:Lib.fields q8h= [[58,61],[45,62],[60,61],[62,61],[60,62]]:=by decide+kernel
def w3n {Z:Nat->Nat->Prop}{w:World}(h:z3h Z w)(c:Nat)(hc:c < 256):w.cell? ⟨2,c,none⟩=some (.int .u8 (if Lib.isSp (UInt8.ofNat c)then 1 else 0)):=by
 have h1:=(h.2 (2,Lib.asciiSpaceTab.map fun n=>Value.int .u8 n) (by simp[gV]) c).2
 have h2:(Lib.asciiSpaceTab.map fun n=>Value.int .u8 n)[c]? =some (.int .u8 (Lib.asciiSpaceTab.getD c 0)):=by
  rw[a0o,a0i];have:c < Lib.asciiSpaceTab.length:=by rw[Lib.asciiSpaceTab_length];exact hc
  simp[this]
 have h1:=h1.trans h2
 rwa [Lib.asciiSpaceTab_at c hc]at h1
def u5t {w w':World}(h:Below w.heap.size w w'):Fr (fun _=>False) w w':=⟨h.os,h.tape,h.output,h.size,fun k hk _=>h.block k hk⟩
def q4a:KV Tryz.prog:=by
 intro s hs g w us hsim hu;obtain⟨h1,h2⟩:=hu
 match us,h1 with
 | [u0,u1,u2],_=>
   have e0:=x2p (h2 0 u0 _ rfl rfl);have e1:=x0o (h2 1 u1 _ rfl rfl);have e2:=x0o (h2 2 u2 _ rfl rfl);subst e0;subst e1;subst e2;have fin: ∀(v:Value) (n:Int) (b:Bool) (w':World),Below w.heap.size w w'->(∀(g':Gh),Rep w' g' v (.ifn b))-> ∃u g',Ending.returned (.tuple #[.int .i64 n,v])= .returned u/\Rep w' g' u (.tup [.d (.int .i64 n), .ifn b])/\Keep [] g [] w g' [] w':=by
    intro v n b w' hb hv;refine⟨_,g,rfl, .tup _ _ rfl fun i u c hu hc=> ?_,Keep.j2e hsim (u5t hb)⟩
    match i with
    |0=>simp at hu hc;subst hu;subst hc;exact .d (.int _ _)
    |1=>simp at hu hc;subst hu;subst hc;exact hv g
    |i+2=>simp at hc
   show Calls Tryz.prog 126 #[.string s, .int .i64 10, .int .i64 64] w _;unfold z9w w8u;cases hp:Lib.parseIntB 64 s.data.toList with
   |ok v=>
    refine(Tryz.strconv_ParseInt_10_at64_ok s (by omega) v hp w).mono ?_
    rintro e w' ⟨rfl,hw⟩
    refine fin _ _ _ _ ?_ fun _=> .ifn0
    rcases hw with rfl|⟨t,rfl⟩
    ·exact Below.refl _ _
    ·exact Lib.bytesWorld_below _ _ _
   |range=>
    obtain⟨_,te,pe,hc⟩:=hsim.tab.1 8 (by simp[gI])
    refine(Tryz.strconv_ParseInt_10_at64_range s (by omega) hp _ w hc (.inr ⟨_,_,rfl⟩)).mono ?_
    rintro e w' ⟨N,rfl,_,_,hb⟩
    exact fin _ _ _ _ hb fun _=> .ifn1 _ _
   |_=>
    obtain⟨_,te,pe,hc⟩:=hsim.tab.1 7 (by simp[gI])
    have q:Calls Tryz.prog 126 #[.string s, .int .i64 10, .int .i64 64] w fun e w'=> ∃N,e= .returned (.tuple #[.int .i64 (0), .iface 255 (.pointer (some ⟨N,0,none⟩))])/\w.heap.size<=N/\w'.heap[N]? =some (.cells #[.string ⟨#[80,97,114,115,101,73,110,116]⟩, .string s, .iface te pe] 297 (0,0))/\Below w.heap.size w w':=Any.strconv_ParseInt_10_at64_syntax Tryz.j1e s (by omega) hp _ w hc (.inr ⟨_,_,rfl⟩)
    refine q.mono ?_
    rintro e w' ⟨N,rfl,_,_,hb⟩
    exact fin _ _ _ _ hb fun _=> .ifn1 _ _
def u5w (s:BA)(hd:s.data.toList=q8h):u3n Tryz.prog 129 [.d (.str s)] (.val [.sl 1 v4c]):=by
 refine⟨[41],[.sl 1], .d (.sl 1 v4c),by kernel_rfl,by kernel_rfl,rfl,by kernel_rfl,fun g w us hsim hu=> ?_⟩
 obtain⟨h1,h2⟩:=hu
 match us,h1 with
 | [u0],_=>
   have e0:=x2p (h2 0 u0 _ rfl rfl);subst e0;have hsz:s.size=14:=by
    have:s.data.toList.length=q8h.length:=by rw[hd]
    simpa[q8h]using this
   have L:=Any.strings_Fields_core Tryz.j2j (by kernel_rfl) s w (by omega) (fun j b hb=>by
    rw[hd]at hb;have:=a0j hb;have hall: ∀b∈q8h,b.toNat < 128:=by decide
    exact hall b this) (fun c hc=>w3n hsim.tab c hc)
   refine L.mono ?_
   rintro e w' ⟨rfl,rfl⟩
   rw[hd,v2v];refine⟨_,_,rfl,?_,Keep.j2w hsim _ _⟩;have hcell: ∀(i:Nat) (v:Value),(([[58,61],[45,62],[60,61],[62,61],[60,62]]:List (List UInt8)).map fun l=>Value.string ⟨l.toArray⟩).toArray[i]? =some v->(w.alloc (.cells (([[58,61],[45,62],[60,61],[62,61],[60,62]]:List (List UInt8)).map fun l=>Value.string ⟨l.toArray⟩).toArray 9)).cell? ⟨w.heap.size,i,none⟩=some v:=by
    intro i v hv;simp only[World.cell?,World.alloc,a2d,if_true]
    simpa using hv
   refine .d (.sl _ 0 5 5 1 v4c (fun i j=> .string (match v4c[i]? with
    |some [.str s]=>s
    |_=>default)) rfl (a0q _) ?_ ?_ ?_ ?_)
   ·intro i r hr
    match i with
    |0|1|2|3|4=>simp[v4c]at hr;subst hr;rfl
    |i+5=>simp[v4c]at hr
   ·intro i r j c hr hc;exact .inr rfl
   ·intro i r j c hr hc
    match i,j with
    |0,0|1,0|2,0|3,0|4,0=>exact hcell _ _ rfl
    |0,j+1|1,j+1|2,j+1|3,j+1|4,j+1=>simp[v4c]at hr;subst hr;simp at hc
    |i+5,j=>simp[v4c]at hr
   ·intro i r j c hr hc
    match i,j with
    |0,0|1,0|2,0|3,0|4,0=>simp[v4c]at hr;subst hr;simp at hc;subst hc;exact .str _
    |0,j+1|1,j+1|2,j+1|3,j+1|4,j+1=>simp[v4c]at hr;subst hr;simp at hc
    |i+5,j=>simp[v4c]at hr
def v8q (n:Int)(h0: -9223372036854775808<=n)(h1:n<=9223372036854775807):y8o Tryz.prog 58 [.d (.int .i64 n), .d (.int .i64 10)] (.d (.str ⟨(Lib.itoa n).toArray⟩)):=by
 intro g w us hsim hu;obtain⟨hl,h2⟩:=hu
 match us,hl with
 | [u0,u1],_=>
   have e0:=x0o (h2 0 u0 _ rfl rfl);have e1:=x0o (h2 1 u1 _ rfl rfl);subst e0;subst e1;have htab:Lib.TabIs Tryz.prog w "internal/strconv.uint64pow10" .u64 Lib.pow10Tab:=by
    have ht:=hsim.tab.2 (1,Lib.pow10Tab.map fun n=>Value.int .u64 n) (by simp[gV])
    have hz:(Lib.pow10Tab.map fun n=>Value.int .u64 n)[0]? =some (.int .u64 1):=by kernel_rfl
    have hc:=(ht 0).2.trans hz;unfold Lib.TabIs World.var?;rw[show Tryz.prog.globalNamed "internal/strconv.uint64pow10" =some 1 by kernel_rfl]
    simp only[a1i];have key: ∃cs t s,w.heap[1]? =some (.cells cs t s):=by
     unfold World.cell? at hc;split at hc
     ·rename_i hw;exact⟨_,_,_,hw⟩
     ·cases hc
    obtain⟨cs,t,s,hw⟩:=key;rw[hw];simp only[Option.some.injEq];refine Array.ext_getElem? fun i=> ?_
    have hi:=(ht i).2;simp only[World.cell?,hw]at hi;rw[List.getElem?_toArray]
    simpa using hi
   refine(Tryz.internal_strconv_FormatInt_10 n h0 h1 w htab).mono ?_
   rintro e w' ⟨rfl,k,os,rfl⟩
   refine⟨_,g,rfl, .d (.str _),Keep.j2e hsim ⟨rfl,rfl,rfl,by simp[Go.Sort.grow],fun i hi _=> ?_⟩⟩
   show(w.heap++os)[i]? =_;rw[Array.getElem?_append,if_pos hi]
def u6p {k n:Nat}(h:n < k):Nat.beq k n=false:=by
 cases h2:Nat.beq k n with
 |false=>rfl
 |true=>have:=Nat.eq_of_beq_eq_true h2;omega
end Go.Vm
end
section
namespace Go.Vm
open Go.Proofs
noncomputable def cF (f:FuncId) (args:List V):Option PRes:=z4d Tryz.prog cs kn f args
noncomputable def eF:Env:=v4h (z4d Tryz.prog cs kn)
noncomputable def fT (A:Sy) (E:Env) (f:FuncId) (a:List V):Option PRes:=(k2l A Tryz.prog cs f a).run E
noncomputable def fB (A:Sy) (E:Env) (f:FuncId) (n:Nat) (a:List V) (h:List Box):Option PRes:=(q4p A Tryz.prog cs f n a h).run E
def y3w (f:FuncId)(args:List V):eF.call f args=cF f args:=rfl
def u5y {α:Type}(b:List D->Option (List D ⊕ α))(ds:List D):eF.lp b ds=x5f b ds:=rfl
def cOf {f:FuncId}{args:List V}{p:PRes}(hg:x4o Tryz.prog f=true)(hk:kn f args=none)(h:fT sy eF f args=some p):cF f args=some p:=z7x hg hk h
def cO {f:FuncId}{args:List V}{p:PRes}(hk:kn f args=none)(h:fT sy eF f args=some p)(hg:x4o Tryz.prog f=true:=by kernel_rfl):cF f args=some p:=cOf hg hk h
def x3g {f:FuncId}{args:List V}{Q:PRes->Prop}(hg:x4o Tryz.prog f=true)(hk:kn f args=none)(h: ∃p,fT sy eF f args=some p/\Q p): ∃p,cF f args=some p/\Q p:=h.imp fun _ h=>⟨z7x hg hk h.1,h.2⟩
def x1y {p:Prop} [Decidable p] (h:p):decide p=true:=a0s h
def x1j {p:Prop} [Decidable p] (h: ¬p):decide p=false:=decide_eq_false h
def x0g {i n:Nat}(h:i < n):decide (0<=(i:Int)/\(i:Int) < (n:Int))=true:=a0s ⟨by omega,by omega⟩
def x0i {i n:Nat}(h:i < n):decide ((i:Int) < (n:Int))=true:=a0s (by omega)
def x0f (n:Nat):decide ((n:Int) < (n:Int))=false:=decide_eq_false (by omega)
def x0a {i n:Nat}(h:i < n)(hn:n<=1000000000000):IntKind.i64.wrap ((i:Int)+1)=(i:Int)+1:=x0v (by omega) (by omega)
def mixedOrders:Tryz.prog.follows .mixedOrders=true:=by kernel_rfl
end Go.Vm
end
section
set_option maxRecDepth 10000
namespace Go.Vm
def bs1 {α β:Type}(a:α)(f:α->Option β):(some a).bind f=f a:=rfl
def ct1 {α:Type}(a b:α):cond true a b=a:=rfl
def cf1 {α:Type}(a b:α):cond false a b=b:=rfl
def es1 {α:Type}(a:α):(a=a)=True:=eq_self a
def an {a b:Prop}(x:a)(y:b):a/\b:=⟨x,y⟩
def go1:type_of% (an @bs1 (an @ct1 (an @cf1 (an @es1 (an @v5l (an @w8n (an @w8c (an @w8e (an @w8i (an @v5s (an @w8h (an @u7d (an @w8m (an @w8l (an @v5v (an @v5r (an @v5q (an @z6h (an @z0a (an @u4i (an @w8g (an @w8d (an @z6i (an @u7h (an @u7c (an @v5p (an @v5n (an @v5u (an @u7g (an @w8k (an @u4h (an @u7e (an @v5o (an @u7f (an @w8f (an @v5m (an @v5t (an @w8j (an @u9p (an @u9o (an @u4q (an @u8g (an @v7q (an @w8y (an @v7r (an @y6p (an @z5f (an @u2o (an @v0o (an @u9w (an @u9v (an @y3w (an @u5y (an @Nat.zero_add (an @Bool.cond_false_right (an @Bool.cond_true_left (an @Bool.cond_false_left (an @Bool.cond_true_right (an @Bool.not_true (an @Bool.not_false (an @Bool.not_not (an @decide_true (an @decide_false (an @Bool.true_and (an @Bool.and_true (an @Bool.false_and (an @Bool.and_false (an @Bool.or_false (an @Bool.false_or (an @Bool.true_or (an @Bool.or_true (an @true_and (@and_true))))))))))))))))))))))))))))))))))))))))))))))))))))))))))))))))))))))))):=an @bs1 (an @ct1 (an @cf1 (an @es1 (an @v5l (an @w8n (an @w8c (an @w8e (an @w8i (an @v5s (an @w8h (an @u7d (an @w8m (an @w8l (an @v5v (an @v5r (an @v5q (an @z6h (an @z0a (an @u4i (an @w8g (an @w8d (an @z6i (an @u7h (an @u7c (an @v5p (an @v5n (an @v5u (an @u7g (an @w8k (an @u4h (an @u7e (an @v5o (an @u7f (an @w8f (an @v5m (an @v5t (an @w8j (an @u9p (an @u9o (an @u4q (an @u8g (an @v7q (an @w8y (an @v7r (an @y6p (an @z5f (an @u2o (an @v0o (an @u9w (an @u9v (an @y3w (an @u5y (an @Nat.zero_add (an @Bool.cond_false_right (an @Bool.cond_true_left (an @Bool.cond_false_left (an @Bool.cond_true_right (an @Bool.not_true (an @Bool.not_false (an @Bool.not_not (an @decide_true (an @decide_false (an @Bool.true_and (an @Bool.and_true (an @Bool.false_and (an @Bool.and_false (an @Bool.or_false (an @Bool.false_or (an @Bool.true_or (an @Bool.or_true (an @true_and (@and_true))))))))))))))))))))))))))))))))))))))))))))))))))))))))))))))))))))))))
end Go.Vm
end
section
namespace Go.Vm
section
variable {α β : Type}
def z0d {v:Option α}{f:α->Option β}{n:α}{p:β}(h:v=some n)(k:f n=some p):v.bind f=some p:=by rw[h];exact k
def z9j {X:Option (List D ⊕ α)}{K:List D->Option α}{ds:List D}{p:α}(h:X=some (.inl ds))(k:K ds=some p):v3e X K=some p:=by rw[h];exact k
def k0d {c:Bool}{a b:Option α}{p:α}(h:c=true)(k:a=some p):(bif c then a else b)=some p:=by rw[h];exact k
def k0e {c:Bool}{a b:Option α}{p:α}(h:c=false)(k:b=some p):(bif c then a else b)=some p:=by rw[h];exact k
def z9f {v:Option D}{k:IntKind}{n:Int}(h:v=some (.int k n)):opI v k=some n:=by rw[h];simp[opI]
def z9g {v:Option D}{n:Bool}(h:v=some (.bool n)):opB v=some n:=by rw[h];rfl
def z9e {v:Option D}{sz:Nat}{n:LL}(h:v=some (.sl sz n)):opL v sz=some n:=by rw[h];simp[opL]
noncomputable def lpK (b:List D->Option (List D ⊕ α)):List D ⊕ α->Option α
 | .inl ds=>eF.lp b ds
 | .inr a=>some a
def v5y {b:List D->Option (List D ⊕ α)}{ds:List D}{r:List D ⊕ α}{p:α}(h:b ds=some r)(k:lpK b r=some p):eF.lp b ds=some p:=by
 show x5f b ds=some p;rw[x4n,h];cases r with
 |inl d=>exact k
 |inr a=>exact k
def z9i {b:List D->Option (List D ⊕ α)}{ds:List D}{p:α}(k:eF.lp b ds=some p):lpK b (.inl ds)=some p:=k
def z9h {b:List D->Option (List D ⊕ α)}{a:α}:lpK b (.inr a)=some a:=rfl
def z0c {a:α}:some a=some a:=rfl
end
def kP (pn:Int)(l:LL)(i:Int):List V:=[.d (.int .i64 pn), .d (.int .i64 1), .ptr 0 0, .fn 315 [.d (.sl 4 l), .d (.int .i64 i)]]
def kS (pn:Int)(s:BA)(l:LL)(i:Int):List V:=[.d (.int .i64 pn), .d (.int .i64 2), .ptr 0 0, .d (.str s), .fn 315 [.d (.sl 4 l), .d (.int .i64 i)]]
def kO (a b:Int)(l:LL)(i:Int):List V:=[.d (.int .i64 0), .d (.int .i64 3), .ptr 0 0, .d (.int .i64 a), .d (.int .i64 b), .fn 315 [.d (.sl 4 l), .d (.int .i64 i)]]
def kN (w l:LL)(i:Int):List V:=[.d (.int .i64 339), .d (.int .i64 2), .ptr 0 0, .own 1, .fn 315 [.d (.sl 4 l), .d (.int .i64 i)], .tup [.d (.int .i64 9), .d (.sl 1 w)]]
def rP (l:LL)(i:Int)(b:Bool):List V:=[.d (.int .i64 0), .d (.int .i64 1), .ptr 0 0, .fn 9900061 [.d (.sl 4 l), .d (.int .i64 i), .d (.bool b)]]
def rS (s:BA)(l:LL)(i:Int)(b:Bool):List V:=[.d (.int .i64 0), .d (.int .i64 2), .ptr 0 0, .d (.str s), .fn 9900061 [.d (.sl 4 l), .d (.int .i64 i), .d (.bool b)]]
def rO (a w l:LL)(i:Int)(b:Bool):List V:=[.d (.int .i64 0), .d (.int .i64 3), .ptr 0 0, .own 1, .own 2, .fn 9900061 [.d (.sl 4 l), .d (.int .i64 i), .d (.bool b)], .tup [.d (.int .i64 3), .d (.sl 1 a)], .tup [.d (.int .i64 9), .d (.sl 1 w)]]
abbrev kE (a b:Int)(c:BA)(d:Int)(e f:LL):V:= .agg [.d (.int .i64 a), .d (.int .i64 b), .d (.str c), .d (.int .i64 d), .d (.sl 1 e), .d (.sl 6 f)]
noncomputable def u7y (f:Nat):RecI:=k9o Go.Proofs.Tryz.prog f
section
variable {α : Type} (A : Sy) (ds : List D) (j : Nat)
def oE (K:Int->Int->BA->Int->LL->LL->Option α):Option α:=
 (opI (A.cell ds j) .i64).bind fun a=>(opI (A.cell ds (j+1)) .i64).bind fun b=>(opS (A.cell ds (j+2))).bind fun c=>(opI (A.cell ds (j+3)) .i64).bind fun d=>(opL (A.cell ds (j+4)) 1).bind fun e=>(opL (A.cell ds (j+5)) 6).bind fun f=>K a b c d e f
def oP (K:LL->Int->Option α):Option α:=(opL (A.cell ds j) 4).bind fun a=>(opI (A.cell ds (j+1)) .i64).bind fun b=>K a b
def oR (K:LL->Int->Bool->Option α):Option α:=(opL (A.cell ds j) 4).bind fun a=>(opI (A.cell ds (j+1)) .i64).bind fun b=>(opB (A.cell ds (j+2))).bind fun c=>K a b c
def oT (K:Int->BA->Int->Int->Option α):Option α:=(opI (A.cell ds j) .i64).bind fun a=>(opS (A.cell ds (j+1))).bind fun b=>(opI (A.cell ds (j+2)) .i64).bind fun c=>(opI (A.cell ds (j+3)) .i64).bind fun d=>K a b c d
def oQ (K:Bool->Bool->Bool->Int->Int->Int->Option α):Option α:=(opB (A.cell ds j)).bind fun a=>(opB (A.cell ds (j+1))).bind fun b=>(opB (A.cell ds (j+2))).bind fun c=>(opI (A.cell ds (j+3)) .i64).bind fun d=>(opI (A.cell ds (j+4)) .i64).bind fun e=>(opI (A.cell ds (j+5)) .i64).bind fun f=>K a b c d e f
end
abbrev rbV (o:Nat)(l:LL)(i:Int)(b:Bool)(a w:Int):V:= .fn 61 [.d (.sl 4 l), .d (.int .i64 i), .own o, .ifo 65 b [.int .i64 a, .int .i64 w]]
abbrev enV (en:LL):V:= .tup [.d (.int .i64 43), .d (.sl 2 en)]
def kR (l:LL)(i:Int)(en:LL)(b:Bool)(a w:Int):List V:=[.d (.int .i64 0), .d (.int .i64 1), .ptr 0 0,rbV 1 l i b a w,enV en]
def kRS (s:BA)(l:LL)(i:Int)(en:LL)(b:Bool)(a w:Int):List V:=[.d (.int .i64 0), .d (.int .i64 2), .ptr 0 0, .d (.str s),rbV 1 l i b a w,enV en]
def kRI (k:Int)(l:LL)(i:Int)(en:LL)(b:Bool)(a w:Int):List V:=[.d (.int .i64 0), .d (.int .i64 2), .ptr 0 0, .d (.int .i64 k),rbV 1 l i b a w,enV en]
def kRB (k:Bool)(l:LL)(i:Int)(en:LL)(b:Bool)(a w:Int):List V:=[.d (.int .i64 0), .d (.int .i64 2), .ptr 0 0, .d (.bool k),rbV 1 l i b a w,enV en]
def kRF (p c:Int)(l:LL)(i:Int)(en:LL)(b:Bool)(a w:Int):List V:=[.d (.int .i64 0), .d (.int .i64 3), .ptr 0 0, .d (.int .i64 p), .d (.int .i64 c),rbV 1 l i b a w,enV en]
def kRN (ws l:LL)(i:Int)(en:LL)(b:Bool)(a w:Int):List V:=[.d (.int .i64 0), .d (.int .i64 2), .ptr 0 0, .own 1,rbV 2 l i b a w, .tup [.d (.int .i64 9), .d (.sl 1 ws)],enV en]
def qR (l:LL)(i:Int)(b:Bool)(en:LL)(e:Int):List V:= .d (.int .i64 0):: .d (.int .i64 1):: .ptr 0 0:: .fn 9900063 [.ptr 1 0, .own 2, .d (.int .i64 e)]:: .fn 9900061 [.d (.sl 4 l), .d (.int .i64 i), .d (.bool b)]::[enV en]
def qRB (k:Bool)(l:LL)(i:Int)(b:Bool)(en:LL)(e:Int):List V:= .d (.int .i64 0):: .d (.int .i64 2):: .ptr 0 0:: .d (.bool k):: .fn 9900063 [.ptr 1 0, .own 2, .d (.int .i64 e)]:: .fn 9900061 [.d (.sl 4 l), .d (.int .i64 i), .d (.bool b)]::[enV en]
def kAs (b:Bool)(a w:Int):List V:=[.d (.int .i64 0), .d (.int .i64 2), .ifo 65 b [.int .i64 a, .int .i64 w], .ifp 67 0 0, .fn 65 [.d (.int .i64 0), .d (.int .i64 0)]]
section
variable {α : Type} (A : Sy) (ds : List D) (j : Nat)
def oV (K:LL->Int->Bool->Int->Int->LL->Option α):Option α:=
 (opL (A.cell ds j) 4).bind fun l=>(opI (A.cell ds (j+1)) .i64).bind fun i=>(opB (A.cell ds (j+2))).bind fun b=>(opI (A.cell ds (j+3)) .i64).bind fun a=>(opI (A.cell ds (j+4)) .i64).bind fun w=>(opL (A.cell ds (j+5)) 2).bind fun en=>K l i b a w en
def oD (K:BA->Int->Int->Int->BA->BA->Option α):Option α:=
 (opS (A.cell ds j)).bind fun n=>(opI (A.cell ds (j+1)) .i64).bind fun k=>(opI (A.cell ds (j+2)) .i64).bind fun e=>(opI (A.cell ds (j+3)) .i64).bind fun c=>(opS (A.cell ds (j+4))).bind fun o=>(opS (A.cell ds (j+5))).bind fun q=>K n k e c o q
end
end Go.Vm
end
section
set_option maxRecDepth 100000
namespace Go.Vm
open Go.Proofs
noncomputable section
inductive X where
 |z
 |o (k n m:Nat) (a b c d:X)
inductive U where
 |i (x:Int)
 |b (x:Bool)
 |s (x:BA)
 |l (x:LL)
 |d (x:D)
 |z (x:List D)
 |v (x:V)
 |w (x:List V)
 |u (x:List U)
 |n (x:Nat)
 |c (x:UInt8)
 |p (x:PRes)
namespace U
def I:U->Int
 | .i x=>x
 |_=>0
def B:U->Bool
 | .b x=>x
 |_=>false
def S:U->BA
 | .s x=>x
 |_=>bs []
def N:U->Nat
 | .n x=>x
 |_=>0
def C:U->UInt8
 | .c x=>x
 |_=>0
def D:U->Go.Vm.D
 | .d x=>x
 |_=> .bool false
def W:U->List U
 | .u x=>x
 |_=>[]
def DS:U->List Go.Vm.D
 | .z x=>x
 | .u x=>x.map D
 | .p x=>x.leaves
 |_=>[]
def L:U->List (List Go.Vm.D)
 | .l x=>x
 | .u x=>x.map DS
 |_=>[]
def V:U->Go.Vm.V
 | .v x=>x
 |_=> .any
def VS:U->List Go.Vm.V
 | .u x=>x.map V
 | .w x=>x
 |_=>[]
def BY:U->List UInt8
 | .u x=>x.map C
 |_=>[]
end U
def kd:Nat->IntKind
 |0=> .i8
 |1=> .i16
 |2=> .i32
 |3=> .i64
 |4=> .u8
 |5=> .u16
 |6=> .u32
 |7=> .u64
 |_=> .i64
def at0:List U->Nat->U
 | [],_=> .n 0
 |x::_,0=>x
 |_::l,k+1=>at0 l k
def op:Nat->Nat->Nat->U->U->U->U->U
 |1,_,_,_,_,_,_=> .u []
 |2,_,_,a,b,_,_=> .u (a::b.W)
 |3,n,_,_,_,_,_=> .i (((n:Nat):Int))
 |4,_,_,a,_,_,_=> .d (.int .i64 a.I)
 |5,_,_,a,_,_,_=> .v (.d a.D)
 |6,n,_,a,_,_,_=> .d (.sl n a.L)
 |7,_,_,a,_,_,_=> .s (bs a.BY)
 |8,_,_,a,_,_,_=> .d (.str a.S)
 |9,_,_,a,_,_,_=> .i (sy.rlen a.L)
 |10,_,_,a,b,_,_=> .s (sy.sapp a.S b.S)
 |11,_,_,a,b,_,_=> .b (sy.ieq a.I b.I)
 |12,_,_,_,_,_,_=> .b (true)
 |13,_,_,_,_,_,_=> .b (false)
 |14,_,_,a,_,_,_=> .b (sy.bnot a.B)
 |15,_,_,a,_,_,_=> .i (sy.wrap .i64 a.I)
 |16,_,_,a,b,_,_=> .b (sy.inr a.I b.I)
 |17,_,_,a,b,_,_=> .i (sy.add a.I b.I)
 |18,_,_,a,b,_,_=> .b (sy.ilt a.I b.I)
 |19,_,_,a,b,_,_=> .z (sy.row a.L b.I)
 |20,_,_,a,_,_,_=> .i (sy.slen a.S)
 |21,_,_,a,b,_,_=> .b (sy.sfit a.S b.S)
 |22,_,_,a,_,_,_=> .v (.agg a.VS)
 |23,_,_,a,_,_,_=> .v (kE (at0 a.W 0).I (at0 a.W 1).I (at0 a.W 2).S (at0 a.W 3).I (at0 a.W 4).L (at0 a.W 5).L)
 |24,_,_,_,_,_,_=> .v (.any)
 |25,_,_,a,_,_,_=> .d (.bool a.B)
 |26,_,_,a,b,_,_=> .b (sy.ile a.I b.I)
 |27,_,_,a,b,_,_=> .b (sy.seq a.S b.S)
 |28,n,_,a,_,_,_=> .d (.int (kd n) a.I)
 |29,_,_,a,_,_,_=> .n (sy.nat a.I)
 |30,_,_,a,b,_,_=> .l (sy.rapp a.L b.L)
 |31,n,_,a,b,_,_=> .b (sy.fits a.L b.L n)
 |32,_,_,a,b,c,_=> .w (kP a.I b.L c.I)
 |33,_,_,a,b,c,_=> .s (sy.scut a.S b.I c.I)
 |34,n,_,a,_,_,_=> .i (sy.wrap (kd n) a.I)
 |35,_,_,a,b,c,_=> .b (sy.cutok a.I b.I c.I)
 |36,n,_,_,_,_,_=> .i (-((n:Nat):Int))
 |37,n,_,a,_,_,_=> .v (.fn n a.VS)
 |38,_,_,a,b,_,_=> .z (sy.rown a.L b.N)
 |39,_,_,a,b,_,_=> .b (sy.deq a.DS b.DS)
 |40,_,_,a,b,_,_=> .i (sy.sub a.I b.I)
 |41,_,_,a,b,c,d=> .w (kS a.I b.S c.L d.I)
 |42,_,_,a,b,_,_=> .i (sy.sbyte a.S b.I)
 |43,_,_,a,b,_,_=> .i (sy.rdec a.S b.I)
 |44,n,m,_,_,_,_=> .v (.ptr n m)
 |45,n,_,a,_,_,_=> .z (sy.skip n a.DS)
 |46,_,_,a,b,c,_=> .d (sy.mval a.D b.D c.L)
 |47,_,_,a,_,_,_=> .s (sy.bstr a.L)
 |48,_,_,a,_,_,_=> .w (kRN (at0 a.W 0).L (at0 a.W 1).L (at0 a.W 2).I (at0 a.W 3).L (at0 a.W 4).B (at0 a.W 5).I (at0 a.W 6).I)
 |49,n,_,a,b,c,_=> .l (sy.rput a.L b.N n c.DS)
 |50,_,_,a,b,c,_=> .w (kN a.L b.L c.I)
 |51,_,_,a,b,_,_=> .i (sy.imin a.I b.I)
 |52,_,_,a,b,_,_=> .b (sy.inrn a.N b.L)
 |53,_,_,a,b,c,_=> .l (sy.cut a.L b.I c.I)
 |54,n,_,_,_,_,_=> .v (.map n)
 |55,_,_,a,_,_,_=> .v (.tup a.VS)
 |56,_,_,a,_,_,_=> .w (kRS (at0 a.W 0).S (at0 a.W 1).L (at0 a.W 2).I (at0 a.W 3).L (at0 a.W 4).B (at0 a.W 5).I (at0 a.W 6).I)
 |57,_,_,a,_,_,_=> .w (kR (at0 a.W 0).L (at0 a.W 1).I (at0 a.W 2).L (at0 a.W 3).B (at0 a.W 4).I (at0 a.W 5).I)
 |58,_,_,_,_,_,_=> .v (.nils)
 |59,_,_,a,_,_,_=> .w (kRI (at0 a.W 0).I (at0 a.W 1).L (at0 a.W 2).I (at0 a.W 3).L (at0 a.W 4).B (at0 a.W 5).I (at0 a.W 6).I)
 |60,_,_,a,_,_,_=> .w (kRF (at0 a.W 0).I (at0 a.W 1).I (at0 a.W 2).L (at0 a.W 3).I (at0 a.W 4).L (at0 a.W 5).B (at0 a.W 6).I (at0 a.W 7).I)
 |61,_,_,a,b,c,_=> .l (sy.mput a.D b.D c.L)
 |62,n,m,_,_,_,_=> .v (.yld n (u7y m))
 |63,_,_,a,_,_,_=> .b (sy.isby a.L)
 |64,_,_,a,b,_,_=> .i (sy.rem a.I b.I)
 |65,_,_,a,b,_,_=> .i (sy.rwid a.S b.I)
 |66,_,_,a,b,c,d=> .w (kO a.I b.I c.L d.I)
 |67,_,_,a,b,_,_=> .l (sy.head a.L b.I)
 |68,_,_,a,_,_,_=> .w (kRB (at0 a.W 0).B (at0 a.W 1).L (at0 a.W 2).I (at0 a.W 3).L (at0 a.W 4).B (at0 a.W 5).I (at0 a.W 6).I)
 |69,_,_,a,b,c,_=> .w (kAs a.B b.I c.I)
 |70,_,_,_,_,_,_=> .v (.nilp)
 |71,n,_,a,b,_,_=> .b (sy.mkok a.I b.I n)
 |72,_,_,a,b,_,_=> .l (sy.rep a.I b.DS)
 |73,_,_,a,b,_,_=> .i (sy.imax a.I b.I)
 |74,_,_,a,b,_,_=> .i (sy.quo a.I b.I)
 |75,_,_,a,_,_,_=> .b (sy.pok a.S)
 |76,_,_,a,_,_,_=> .i (sy.pnum a.S)
 |77,_,_,a,b,_,_=> .i (sy.sidx a.S b.I)
 |78,_,_,a,b,_,_=> .i (sy.scnt a.S b.I)
 |79,_,_,a,b,_,_=> .b (sy.mhas a.D b.L)
 |80,_,_,a,b,_,_=> .l (sy.mdel a.D b.L)
 |900,n,_,_,_,_,_=> .c (UInt8.ofNat n)
 |_,_,_,_,_,_,_=> .n 0
def ev:X->List U->U
 | .z,_=> .n 0
 | .o 0 n _ _ _ _ _,e=>at0 e n
 | .o (k+1) n m a b c d,e=>op (k+1) n m (ev a e) (ev b e) (ev c e) (ev d e)
def f0:X->List U->PRes
 | .o 0 _ _ a _ _ _,e=> .val (ev a e).DS
 | .o _ n m a _ _ _,e=> .own n m (ev a e).L
 | .z,_=> .val []
def fS {α:Type}(f:X->List U->α):X->List U->List D ⊕ α
 | .o 1 _ _ a _ _ _,e=> .inl (ev a e).DS
 | .o _ _ _ a _ _ _,e=> .inr (f a e)
 | .z,_=> .inl []
def rr {α:Type}(i:Nat)(ds:List D)(j:Nat)(K:List U->Option α)(e:List U):Option α:=match i with
 |0=>oE sy ds j fun a b c f g h=>K (.l h:: .l g:: .i f:: .s c:: .i b:: .i a::e)
 |1=>oP sy ds j fun a b=>K (.i b:: .l a::e)
 |2=>oR sy ds j fun a b c=>K (.b c:: .i b:: .l a::e)
 |3=>oT sy ds j fun a b c f=>K (.i f:: .i c:: .s b:: .i a::e)
 |4=>oQ sy ds j fun a b c f g h=>K (.i h:: .i g:: .i f:: .b c:: .b b:: .b a::e)
 |5=>oV sy ds j fun a b c f g h=>K (.l h:: .i g:: .i f:: .b c:: .i b:: .l a::e)
 |7=>oD sy ds j fun a b c f g h=>K (.s h:: .s g:: .i f:: .i c:: .i b:: .s a::e)
 |_=>none
def nn:X->Nat
 | .o _ n _ _ _ _ _=>n
 | .z=>0
def st:X-> {α:Type}->(X->List U->α)->List U->Option α
 | .z,_,_,_=>none
 | .o k n m a b c _,_,f,e=>match k with
   |0=>none
   |1=>some (f a e)
   |2=>bif (ev a e).B then st b f e else st c f e
   |3=>(opI (sy.cell (ev a e).DS n) .i64).bind fun x=>st b f (.i x::e)
   |4=>(opB (sy.cell (ev a e).DS n)).bind fun x=>st b f (.b x::e)
   |5=>(opS (sy.cell (ev a e).DS n)).bind fun x=>st b f (.s x::e)
   |6=>(opL (sy.cell (ev a e).DS n) m).bind fun x=>st b f (.l x::e)
   |7=>(eF.call n (ev a e).VS).bind fun x=>st b f (.p x::e)
   |8=>eF.lp (fun x=>st a (fS f) (.z x::e)) (ev b e).DS
   |9=>v3e (st a (fS f) e) fun x=>st b f (.z x::e)
   |10=>rr n (ev a e).DS m (fun e=>st b f e) e
   |11=>(opI (sy.cell (ev a e).DS n) (kd m)).bind fun x=>st b f (.i x::e)
   |12=>(opI (some (ev a e).D) (kd m)).bind fun x=>st b f (.i x::e)
   |13=>(opB (some (ev a e).D)).bind fun x=>st b f (.b x::e)
   |14=>(opS (some (ev a e).D)).bind fun x=>st b f (.s x::e)
   |15=>(opL (some (ev a e).D) m).bind fun x=>st b f (.l x::e)
   |16=>(opM (eF.call n (ev a e).VS) m (nn c)).bind fun x=>st b f (.l x::e)
   |_=>none
def tS:List Nat->Nat
 | []=>0
 |x::l=>2 ^ (x % 16)+tS l
def tG (q:Nat):List Nat->Nat->Nat × Nat
 | [],_=>(0,q)
 |x::l,r=>match Nat.blt r (2 ^ (x % 16))with
  |true=>(x / 16,2 ^ (x % 16)*q+r)
  |false=>tG q l (r - 2 ^ (x % 16))
def tB:Nat->List Nat
 |0=>[11,58,153,280,327,246,549,645,580,676,692,820,1027,1042,1185]
 |1=>[9,200,216,183,230,422,293,437,628]
 |2=>[10,121,168,533,756]
 |3=>[12,24,486,788,852,979,1074,1153,1280]
 |4=>[10,24,312,613,724]
 |5=>[74,106,137,406,454,740]
 |6=>[90,359,375,391,597,708,868,884,931,995,1122]
 |7=>[25,518,661,772,804,899,915,947,963,1058,1090,1106]
 |8=>[25]
 |9=>[470]
 |10=>[11,57,247,150,324,579,274,546,1169,1216,1232,1248]
 |11=>[8,184,232,264,296,343,438,502,421,565,836,627,1011,1137,1200,1264]
 |20=>[10,25,41,56,71,87,103,118,134,149,165,180,196,212,227,243,259,275,15985]
 |21=>[9,22,37,52,66,15985]
 |22=>[10,24,39,53,68,83,15986]
 |23=>[10,25,41,56,72,87,103,118,134,149,165,180,196,243,210,15986]
 |24=>[10]
 |33=>[7,23,35,51,15986]
 |34=>[24,54,102,149,68,35,82,482,15985]
 |37=>[24,39,54,117,4,84,100,67,15987]
 |38=>[24,7,38,54,70,86,101,116,179,15986]
 |42=>[25,56,87,38,70,116,99,147,0]
 |43=>[23,55,71,134,85,35,99,114]
 |44=>[24,40,55,119,135,86,101,146]
 |45=>[73,134]
 |46=>[39,133,114,49,80]
 |47=>[39,82,98]
 |48=>[71,129]
 |49=>[19,35]
 |50=>[23,71,38,86,134,53,99,115,1,145]
 |51=>[25,40,87,54,102,134,117,68,146,160]
 |52=>[87,37,101,52,116,19,145,160]
 |60=>[75,26,58,89,40,120,136,200,182,214,165,148,15986,1]
 |61=>[10,20]
 |62=>[9,25]
 |63=>[11,21]
 |64=>[9,24]
 |70=>[10,25,39,54,5430,69,85,101,149,165,213,773,15989,116,132,180,196,227,243,259,275,1523,4435,914,962,1042,1138,1170,1442,1554,1954,1970]
 |71=>[520,647,1623,1831,1863,662,1766,1782,165,725,981,997,1461,1557,1605,1637,1669,1685,1733,1845,1877,948,964,1492,1572,1748,1892,1908,1940,627,707,931,1795,1971,674,690,738,754,770,1650,1714,1922,2002,15984]
 |72=>[24,104,39,70,86,117,51,15984]
 |73=>[261,1155,1411,130,386,642,15985]
 |74=>[70,36,115,15984]
 |75=>[10,24,39,118,53,69,101,83,131,147,195,211,15987,162,226,322]
 |76=>[7,23,86,53,117,36,68,15984]
 |_=>[]
def yS (c n:Nat):Nat × Nat:=tG (n / tS (tB c)) (tB c) (n % tS (tB c))
def yN (c n:Nat):Nat × Nat:=match yS c n with
 |(s,n)=>match Nat.beq s 999 with
  |false=>(s,n)
  |true=>match Nat.blt (n % 512) 511 with
   |true=>(n % 512,n / 512)
   |false=>(n / 512 % 18446744073709551616,n / 512 / 18446744073709551616)
def ix (t:Nat):Nat->Nat->List Nat->Nat
 |_,_,[]=>0
 |r,i,x::l=>match Nat.beq x t with
  |false=>ix t r (i+1) l
  |true=>match r with
   |0=>i
   |r+1=>ix t r (i+1) l
def nth {α:Type}(d:α):List α->Nat->α
 | [],_=>d
 |x::_,0=>x
 |_::l,k+1=>nth d l k
def sg:Nat->List Nat
 |3=>[70]
 |4=>[10]
 |5=>[5]
 |6=>[72,3]
 |7=>[8]
 |8=>[2]
 |9=>[3]
 |10=>[2,2]
 |11=>[0,0]
 |14=>[1]
 |15=>[0]
 |16=>[0,0]
 |17=>[0,0]
 |18=>[0,0]
 |19=>[3,0]
 |20=>[2]
 |21=>[2,2]
 |22=>[7]
 |23=>[0,0,2,0,3,3]
 |25=>[1]
 |26=>[0,0]
 |27=>[2,2]
 |28=>[74,0]
 |29=>[0]
 |30=>[3,3]
 |31=>[3,3,73]
 |32=>[0,3,0]
 |33=>[2,0,0]
 |34=>[74,0]
 |35=>[0,0,0]
 |36=>[70]
 |37=>[70,7]
 |38=>[3,9]
 |39=>[4,4]
 |40=>[0,0]
 |41=>[0,2,3,0]
 |42=>[2,0]
 |43=>[2,0]
 |44=>[70,70]
 |45=>[70,4]
 |46=>[5,5,3]
 |47=>[3]
 |48=>[3,3,0,3,1,0,0]
 |49=>[3,9,70,4]
 |50=>[3,3,0]
 |51=>[0,0]
 |52=>[9,3]
 |53=>[3,0,0]
 |54=>[70]
 |55=>[7]
 |56=>[2,3,0,3,1,0,0]
 |57=>[3,0,3,1,0,0]
 |59=>[0,3,0,3,1,0,0]
 |60=>[0,0,3,0,3,1,0,0]
 |61=>[5,5,3]
 |62=>[70,70]
 |63=>[3]
 |64=>[0,0]
 |65=>[2,0]
 |66=>[0,0,3,0]
 |67=>[3,0]
 |68=>[1,3,0,3,1,0,0]
 |69=>[1,0,0]
 |71=>[0,0,73]
 |72=>[0,4]
 |73=>[0,0]
 |74=>[0,0]
 |75=>[2]
 |76=>[2]
 |77=>[2,0]
 |78=>[2,0]
 |79=>[5,3]
 |80=>[5,3]
 |_=>[]
def pI (r:Nat->Nat->X × Nat):List Nat->Nat->(List Nat × List X) × Nat
 | [],n=>(([],[]),n)
 |i::l,n=>match Nat.blt i 20 with
  |true=>match r i n with
   |(x,n)=>match pI r l n with
    |((u,v),n)=>((u,x::v),n)
  |false=>match yN i n with
   |(x,n)=>match pI r l n with
    |((u,v),n)=>((x::u,v),n)
def nX:List X->X
 | []=> .o 1 0 0 .z .z .z .z
 |x::l=> .o 2 0 0 x (nX l) .z .z
def mkX (s:Nat)(u:List Nat)(v:List X):X:=match Nat.blt 4 v.length with
 |true=> .o s 0 0 (nX v) .z .z .z
 |false=> .o s (nth 0 u 0) (nth 0 u 1) (nth .z v 0) (nth .z v 1) (nth .z v 2) (nth .z v 3)
def pL (r:Nat->X × Nat):Nat->Nat->List X × Nat
 |0,n=>([],n)
 |k+1,n=>match r n with
  |(x,n)=>match pL r k n with
   |(y,n)=>(x::y,n)
def tc (c:Nat):Nat:=match Nat.blt c 10 with
 |true=>c
 |false=>c - 10
def pE (ty:List Nat):Nat->Nat->Nat->X × Nat
 |0,_,n=>(.z,n)
 |f+1,c,n=>match yS c n with
  |(0,n)=>match yN (20+tc c) n with
   |(r,n)=>(.o 0 (ix (tc c) r 0 ty) 0 .z .z .z .z,n)
  |(1,n)=>match yN (30+c) n with
   |(k,n)=>match pL (fun n=>match Nat.beq c 8 with
      |true=>match yN 71 n with
       |(x,n)=>(.o 900 x 0 .z .z .z .z,n)
      |false=>pE ty f (nth 0 [4,5,0,0,6] (c - 3)) n) k n with
    |(v,n)=>(nX v,n)
  |(s,n)=>match pI (pE ty f) (sg s) n with
   |((u,v),n)=>(mkX s u v,n)
def tg (k:Nat):Nat:=nth (match Nat.blt k 100 with
 |true=>3
 |false=>0) [0,1,2,0,0,0] k
def wK (k:Nat)(x:X):X:=match k with
 |0=>x
 |5=>x
 |1=> .o 25 0 0 x .z .z .z
 |2=> .o 8 0 0 x .z .z .z
 |3=> .o 4 0 0 x .z .z .z
 |k=>match Nat.blt k 100 with
  |true=> .o 6 (k - 6) 0 x .z .z .z
  |false=> .o 28 (k - 100) 0 x .z .z .z
def dK (k:Nat):Bool:=match k with
 |0=>true
 |5=>true
 |_=>false
def sh:X->X
 | .z=> .z
 | .o 0 n m a b c d=> .o 0 (n+1) m a b c d
 | .o (k+1) n m a b c d=> .o (k+1) n m (sh a) (sh b) (sh c) (sh d)
def wO:List Nat->X->Nat->X->X
 | [],_,_,x=>x
 |k::l,s,i,x=>match dK k with
  |true=>wO l s (i+1) x
  |false=>match k with
   |1=> .o 4 i 0 s (wO l (sh s) (i+1) x) .z .z
   |2=> .o 5 i 0 s (wO l (sh s) (i+1) x) .z .z
   |3=> .o 3 i 0 s (wO l (sh s) (i+1) x) .z .z
   |k=>match Nat.blt k 100 with
    |true=> .o 6 i (k - 6) s (wO l (sh s) (i+1) x) .z .z
    |false=> .o 11 i (k - 100) s (wO l (sh s) (i+1) x) .z .z
def tO:List Nat->List Nat->List Nat
 | [],t=>t
 |k::l,t=>match dK k with
  |true=>tO l t
  |false=>tO l (tg k::t)
def lO:List Nat->Nat->List Nat
 | [],_=>[]
 |k::l,n=>match dK k with
  |true=>0::lO l n
  |false=>n::lO l (n+1)
def pK:Nat->Nat->List Nat × Nat
 |0,n=>([],n)
 |f+1,n=>match yN 60 n with
  |(4,n)=>([],n)
  |(k,n)=>match pK f n with
   |(l,n)=>(k::l,n)
def pZ (ty:List Nat):List Nat->List Nat->Nat->List X × Nat
 | [],_,n=>([],n)
 |k::l,h,n=>match (match nth 0 h 0 with
   |0=>(1,n)
   |_=>yS 64 n)with
  |(0,n)=>match pZ ty l h.tail n with
   |(v,n)=>(wK k (.o 0 (ty.length - nth 0 h 0) 0 .z .z .z .z)::v,n)
  |(_,n)=>match pE ty 99 (match dK k with
     |true=>5
     |false=>nth 0 [10,1,2,3] (tg k)) n with
   |(x,n)=>match pZ ty l h.tail n with
    |(v,n)=>(wK k x::v,n)
def pC (ty k h:List Nat)(n:Nat):X × Nat:=match yS 63 n with
 |(0,n)=>match pZ ty k h n with
  |(v,n)=>(nX v,n)
 |(_,n)=>pE ty 99 4 n
def pR (ty:List Nat):List (List Nat × List Nat)->Nat->X × Nat
 | [],n=>(.z,n)
 | [fr],n=>match yS 61 n with
   |(0,n)=>match pC ty fr.1 fr.2 n with
    |(a,n)=>(.o 0 0 0 a .z .z .z,n)
   |(_,n)=>match yN 70 n with
    |(u,n)=>match yN 70 n with
     |(v,n)=>match pE ty 99 3 n with
      |(a,n)=>(.o 3 u v a .z .z .z,n)
 |fr::l,n=>match yS 62 n with
  |(0,n)=>match pC ty fr.1 fr.2 n with
   |(a,n)=>(.o 1 0 0 a .z .z .z,n)
  |(_,n)=>match pR ty l n with
   |(a,n)=>(.o 2 0 0 a .z .z .z,n)
def pF (n:Nat):Nat × Nat:=(match n % 2 with
 |0=>n / 2 % 512
 |_=>n / 2 % 512+1000000,n / 1024)
def rT:Nat->List Nat
 |0=>[3,3,0,2,0,0]
 |1=>[0,3]
 |2=>[1,0,3]
 |3=>[0,0,2,0]
 |4=>[0,0,0,1,1,1]
 |5=>[3,0,0,1,0,3]
 |7=>[2,2,0,0,0,2]
 |_=>[]
def pS:Nat->Nat->List Nat->List (List Nat × List Nat)->Nat->X × Nat
 |0,_,_,_,n=>(.z,n)
 |f+1,p,t,q,n=>match yS (40+p) n with
  |(0,n)=>(.o 0 0 0 .z .z .z .z,n)
  |(1,n)=>match pR t q n with
   |(a,n)=>(.o 1 0 0 a .z .z .z,n)
  |(2,n)=>match pE t 99 11 n with
   |(c,n)=>match pS f 2 t q n with
    |(a,n)=>match pS f 11 t q n with
     |(b,n)=>(.o 2 0 0 c a b .z,n)
  |(3,n)=>match pE t 99 11 n with
   |(c,n)=>match pS f 3 t q n with
    |(a,n)=>(.o 2 0 0 c a (.o 0 0 0 .z .z .z .z) .z,n)
  |(4,n)=>match pE t 99 4 n with
   |(s,n)=>match yN 75 n with
    |(i,n)=>match pK 99 n with
     |(k,n)=>match pS f 4 (tO k t) q n with
      |(a,n)=>(wO k s i a,n)
  |(5,n)=>match pF n with
   |(g,n)=>match pE t 99 7 n with
    |(a,n)=>match pS f 5 (4::t) q n with
     |(b,n)=>(.o 7 g 0 a b .z .z,n)
  |(6,n)=>match pK 99 n with
   |(k,n)=>match pS f 6 (tO k (4::t)) ((k,lO k (t.length+2))::q) n with
    |(a,n)=>match pC t k [] n with
     |(b,n)=>(.o 8 0 0 (wO k (.o 0 0 0 .z .z .z .z) 0 a) b .z .z,n)
  |(7,n)=>match pK 99 n with
   |(k,n)=>match pS f 7 t ((k,[])::q) n with
    |(a,n)=>match pS f 8 (4::t) q n with
     |(b,n)=>(.o 9 0 0 a b .z .z,n)
  |(8,n)=>match yN 76 n with
   |(i,n)=>match pE t 99 4 n with
    |(s,n)=>match yN 75 n with
     |(j,n)=>match pS f 10 (rT i++t) q n with
      |(a,n)=>(.o 10 i j s a .z .z,n)
  |(9,n)=>match yN 60 n with
   |(k,n)=>match pE t 99 5 n with
    |(d,n)=>match pS f 9 (tg k::t) q n with
     |(a,n)=>(.o (nth (match Nat.blt k 100 with
        |true=>15
        |false=>12) [0,13,14,12] k) 0 (match Nat.blt k 100 with
        |true=>(match k with
         |3=>3
         |_=>k - 6)
        |false=>k - 100) d a .z .z,n)
  |(_,n)=>match pF n with
   |(g,n)=>match pE t 99 7 n with
    |(a,n)=>match yN 70 n with
     |(u,n)=>match yN 70 n with
      |(v,n)=>match pS f 10 (3::t) q n with
       |(b,n)=>(.o 16 g u a b (.o 0 v 0 .z .z .z .z) .z,n)
def pa (t:List Nat)(n:Nat):X:=match pK 99 n with
 |(k,n)=>(pS 999 12 t [(k,[])] n).1
def uD:D->List U
 | .int _ x=>[.i x]
 | .bool x=>[.b x]
 | .str x=>[.s x]
 | .sl _ x=>[.l x]
def uV:Nat->V->List U
 |0,_=>[]
 |_+1, .d x=>uD x
 |f+1, .agg l=>l.flatMap (uV f)
 |f+1, .tup l=>l.flatMap (uV f)
 |f+1, .fn _ l=>l.flatMap (uV f)
 |_+1, .pel l=>l.flatMap uD
 |_+1, .ifn b=>[.b b]
 |_+1, .ifc _ l=>l.flatMap uD
 |_+1, .ifo _ b l=> .b b::l.flatMap uD
 |_+1,_=>[]
def uX:Box->List U
 | .cells _ l=>l.flatMap (uV 9)
 | .mp _ l=>[.l l]
 | .arr _ _ l=>[.l l]
 |_=>[]
def uT:U->Nat
 | .i _=>0
 | .b _=>1
 | .s _=>2
 | .l _=>3
 |_=>4
section
variable {n m : Nat} {a b c d : X} {e : List U}
def ev_0:ev (.o 0 n m a b c d) e=at0 e n:=rfl
def ev_1:ev (.o 1 n m a b c d) e= .u []:=rfl
def ev_2:ev (.o 2 n m a b c d) e= .u (ev a e::(ev b e).W):=rfl
def ev_3:ev (.o 3 n m a b c d) e= .i (((n:Nat):Int)):=rfl
def ev_4:ev (.o 4 n m a b c d) e= .d (.int .i64 (ev a e).I):=rfl
def ev_5:ev (.o 5 n m a b c d) e= .v (.d (ev a e).D):=rfl
def ev_6:ev (.o 6 n m a b c d) e= .d (.sl n (ev a e).L):=rfl
def ev_7:ev (.o 7 n m a b c d) e= .s (bs (ev a e).BY):=rfl
def ev_8:ev (.o 8 n m a b c d) e= .d (.str (ev a e).S):=rfl
def ev_9:ev (.o 9 n m a b c d) e= .i (sy.rlen (ev a e).L):=rfl
def k5k:ev (.o 10 n m a b c d) e= .s (sy.sapp (ev a e).S (ev b e).S):=rfl
def k5j:ev (.o 11 n m a b c d) e= .b (sy.ieq (ev a e).I (ev b e).I):=rfl
def k5i:ev (.o 12 n m a b c d) e= .b (true):=rfl
def k5h:ev (.o 13 n m a b c d) e= .b (false):=rfl
def k5g:ev (.o 14 n m a b c d) e= .b (sy.bnot (ev a e).B):=rfl
def k5f:ev (.o 15 n m a b c d) e= .i (sy.wrap .i64 (ev a e).I):=rfl
def k5e:ev (.o 16 n m a b c d) e= .b (sy.inr (ev a e).I (ev b e).I):=rfl
def k5d:ev (.o 17 n m a b c d) e= .i (sy.add (ev a e).I (ev b e).I):=rfl
def k5c:ev (.o 18 n m a b c d) e= .b (sy.ilt (ev a e).I (ev b e).I):=rfl
def k5b:ev (.o 19 n m a b c d) e= .z (sy.row (ev a e).L (ev b e).I):=rfl
def k5a:ev (.o 20 n m a b c d) e= .i (sy.slen (ev a e).S):=rfl
def k4z:ev (.o 21 n m a b c d) e= .b (sy.sfit (ev a e).S (ev b e).S):=rfl
def k4y:ev (.o 22 n m a b c d) e= .v (.agg (ev a e).VS):=rfl
def k4x:ev (.o 23 n m a b c d) e= .v (kE (at0 (ev a e).W 0).I (at0 (ev a e).W 1).I (at0 (ev a e).W 2).S (at0 (ev a e).W 3).I (at0 (ev a e).W 4).L (at0 (ev a e).W 5).L):=rfl
def k4w:ev (.o 24 n m a b c d) e= .v (.any):=rfl
def k4v:ev (.o 25 n m a b c d) e= .d (.bool (ev a e).B):=rfl
def k4u:ev (.o 26 n m a b c d) e= .b (sy.ile (ev a e).I (ev b e).I):=rfl
def k4t:ev (.o 27 n m a b c d) e= .b (sy.seq (ev a e).S (ev b e).S):=rfl
def k4s:ev (.o 28 n m a b c d) e= .d (.int (kd n) (ev a e).I):=rfl
def k4r:ev (.o 29 n m a b c d) e= .n (sy.nat (ev a e).I):=rfl
def k4q:ev (.o 30 n m a b c d) e= .l (sy.rapp (ev a e).L (ev b e).L):=rfl
def k4p:ev (.o 31 n m a b c d) e= .b (sy.fits (ev a e).L (ev b e).L n):=rfl
def k4o:ev (.o 32 n m a b c d) e= .w (kP (ev a e).I (ev b e).L (ev c e).I):=rfl
def k4n:ev (.o 33 n m a b c d) e= .s (sy.scut (ev a e).S (ev b e).I (ev c e).I):=rfl
def k4m:ev (.o 34 n m a b c d) e= .i (sy.wrap (kd n) (ev a e).I):=rfl
def k4l:ev (.o 35 n m a b c d) e= .b (sy.cutok (ev a e).I (ev b e).I (ev c e).I):=rfl
def k4k:ev (.o 36 n m a b c d) e= .i (-((n:Nat):Int)):=rfl
def k4j:ev (.o 37 n m a b c d) e= .v (.fn n (ev a e).VS):=rfl
def k4i:ev (.o 38 n m a b c d) e= .z (sy.rown (ev a e).L (ev b e).N):=rfl
def k4h:ev (.o 39 n m a b c d) e= .b (sy.deq (ev a e).DS (ev b e).DS):=rfl
def k4g:ev (.o 40 n m a b c d) e= .i (sy.sub (ev a e).I (ev b e).I):=rfl
def k4f:ev (.o 41 n m a b c d) e= .w (kS (ev a e).I (ev b e).S (ev c e).L (ev d e).I):=rfl
def k4e:ev (.o 42 n m a b c d) e= .i (sy.sbyte (ev a e).S (ev b e).I):=rfl
def k4d:ev (.o 43 n m a b c d) e= .i (sy.rdec (ev a e).S (ev b e).I):=rfl
def k4c:ev (.o 44 n m a b c d) e= .v (.ptr n m):=rfl
def k4b:ev (.o 45 n m a b c d) e= .z (sy.skip n (ev a e).DS):=rfl
def k4a:ev (.o 46 n m a b c d) e= .d (sy.mval (ev a e).D (ev b e).D (ev c e).L):=rfl
def k3z:ev (.o 47 n m a b c d) e= .s (sy.bstr (ev a e).L):=rfl
def k3y:ev (.o 48 n m a b c d) e= .w (kRN (at0 (ev a e).W 0).L (at0 (ev a e).W 1).L (at0 (ev a e).W 2).I (at0 (ev a e).W 3).L (at0 (ev a e).W 4).B (at0 (ev a e).W 5).I (at0 (ev a e).W 6).I):=rfl
def k3x:ev (.o 49 n m a b c d) e= .l (sy.rput (ev a e).L (ev b e).N n (ev c e).DS):=rfl
def k3w:ev (.o 50 n m a b c d) e= .w (kN (ev a e).L (ev b e).L (ev c e).I):=rfl
def k3v:ev (.o 51 n m a b c d) e= .i (sy.imin (ev a e).I (ev b e).I):=rfl
def k3u:ev (.o 52 n m a b c d) e= .b (sy.inrn (ev a e).N (ev b e).L):=rfl
def k3t:ev (.o 53 n m a b c d) e= .l (sy.cut (ev a e).L (ev b e).I (ev c e).I):=rfl
def k3s:ev (.o 54 n m a b c d) e= .v (.map n):=rfl
def k3r:ev (.o 55 n m a b c d) e= .v (.tup (ev a e).VS):=rfl
def k3q:ev (.o 56 n m a b c d) e= .w (kRS (at0 (ev a e).W 0).S (at0 (ev a e).W 1).L (at0 (ev a e).W 2).I (at0 (ev a e).W 3).L (at0 (ev a e).W 4).B (at0 (ev a e).W 5).I (at0 (ev a e).W 6).I):=rfl
def k3p:ev (.o 57 n m a b c d) e= .w (kR (at0 (ev a e).W 0).L (at0 (ev a e).W 1).I (at0 (ev a e).W 2).L (at0 (ev a e).W 3).B (at0 (ev a e).W 4).I (at0 (ev a e).W 5).I):=rfl
def k3o:ev (.o 58 n m a b c d) e= .v (.nils):=rfl
def k3n:ev (.o 59 n m a b c d) e= .w (kRI (at0 (ev a e).W 0).I (at0 (ev a e).W 1).L (at0 (ev a e).W 2).I (at0 (ev a e).W 3).L (at0 (ev a e).W 4).B (at0 (ev a e).W 5).I (at0 (ev a e).W 6).I):=rfl
def k3m:ev (.o 60 n m a b c d) e= .w (kRF (at0 (ev a e).W 0).I (at0 (ev a e).W 1).I (at0 (ev a e).W 2).L (at0 (ev a e).W 3).I (at0 (ev a e).W 4).L (at0 (ev a e).W 5).B (at0 (ev a e).W 6).I (at0 (ev a e).W 7).I):=rfl
def k3l:ev (.o 61 n m a b c d) e= .l (sy.mput (ev a e).D (ev b e).D (ev c e).L):=rfl
def k3k:ev (.o 62 n m a b c d) e= .v (.yld n (u7y m)):=rfl
def k3j:ev (.o 63 n m a b c d) e= .b (sy.isby (ev a e).L):=rfl
def k3i:ev (.o 64 n m a b c d) e= .i (sy.rem (ev a e).I (ev b e).I):=rfl
def k3h:ev (.o 65 n m a b c d) e= .i (sy.rwid (ev a e).S (ev b e).I):=rfl
def k3g:ev (.o 66 n m a b c d) e= .w (kO (ev a e).I (ev b e).I (ev c e).L (ev d e).I):=rfl
def k3f:ev (.o 67 n m a b c d) e= .l (sy.head (ev a e).L (ev b e).I):=rfl
def k3e:ev (.o 68 n m a b c d) e= .w (kRB (at0 (ev a e).W 0).B (at0 (ev a e).W 1).L (at0 (ev a e).W 2).I (at0 (ev a e).W 3).L (at0 (ev a e).W 4).B (at0 (ev a e).W 5).I (at0 (ev a e).W 6).I):=rfl
def k3d:ev (.o 69 n m a b c d) e= .w (kAs (ev a e).B (ev b e).I (ev c e).I):=rfl
def k3c:ev (.o 70 n m a b c d) e= .v (.nilp):=rfl
def k3b:ev (.o 71 n m a b c d) e= .b (sy.mkok (ev a e).I (ev b e).I n):=rfl
def k3a:ev (.o 72 n m a b c d) e= .l (sy.rep (ev a e).I (ev b e).DS):=rfl
def k2z:ev (.o 73 n m a b c d) e= .i (sy.imax (ev a e).I (ev b e).I):=rfl
def k2y:ev (.o 74 n m a b c d) e= .i (sy.quo (ev a e).I (ev b e).I):=rfl
def k2x:ev (.o 75 n m a b c d) e= .b (sy.pok (ev a e).S):=rfl
def k2w:ev (.o 76 n m a b c d) e= .i (sy.pnum (ev a e).S):=rfl
def k2v:ev (.o 77 n m a b c d) e= .i (sy.sidx (ev a e).S (ev b e).I):=rfl
def k2u:ev (.o 78 n m a b c d) e= .i (sy.scnt (ev a e).S (ev b e).I):=rfl
def k2t:ev (.o 79 n m a b c d) e= .b (sy.mhas (ev a e).D (ev b e).L):=rfl
def k2s:ev (.o 80 n m a b c d) e= .l (sy.mdel (ev a e).D (ev b e).L):=rfl
def w9x:ev (.o 900 n m a b c d) e= .c (UInt8.ofNat n):=rfl
def st_0 {α:Type}{f:X->List U->α}:st (.o 0 n m a b c d) f e=(none):=rfl
def st_1 {α:Type}{f:X->List U->α}:st (.o 1 n m a b c d) f e=(some (f a e)):=rfl
def st_2 {α:Type}{f:X->List U->α}:st (.o 2 n m a b c d) f e=(bif (ev a e).B then st b f e else st c f e):=rfl
def st_3 {α:Type}{f:X->List U->α}:st (.o 3 n m a b c d) f e=((opI (sy.cell (ev a e).DS n) .i64).bind fun x=>st b f (.i x::e)):=rfl
def st_4 {α:Type}{f:X->List U->α}:st (.o 4 n m a b c d) f e=((opB (sy.cell (ev a e).DS n)).bind fun x=>st b f (.b x::e)):=rfl
def st_5 {α:Type}{f:X->List U->α}:st (.o 5 n m a b c d) f e=((opS (sy.cell (ev a e).DS n)).bind fun x=>st b f (.s x::e)):=rfl
def st_6 {α:Type}{f:X->List U->α}:st (.o 6 n m a b c d) f e=((opL (sy.cell (ev a e).DS n) m).bind fun x=>st b f (.l x::e)):=rfl
def st_7 {α:Type}{f:X->List U->α}:st (.o 7 n m a b c d) f e=((eF.call n (ev a e).VS).bind fun x=>st b f (.p x::e)):=rfl
def st_8 {α:Type}{f:X->List U->α}:st (.o 8 n m a b c d) f e=(eF.lp (fun x=>st a (fS f) (.z x::e)) (ev b e).DS):=rfl
def st_9 {α:Type}{f:X->List U->α}:st (.o 9 n m a b c d) f e=(v3e (st a (fS f) e) fun x=>st b f (.z x::e)):=rfl
def k0l {α:Type}{f:X->List U->α}:st (.o 10 n m a b c d) f e=(rr n (ev a e).DS m (fun e=>st b f e) e):=rfl
def k0k {α:Type}{f:X->List U->α}:st (.o 11 n m a b c d) f e=((opI (sy.cell (ev a e).DS n) (kd m)).bind fun x=>st b f (.i x::e)):=rfl
def k0j {α:Type}{f:X->List U->α}:st (.o 12 n m a b c d) f e=((opI (some (ev a e).D) (kd m)).bind fun x=>st b f (.i x::e)):=rfl
def k0i {α:Type}{f:X->List U->α}:st (.o 13 n m a b c d) f e=((opB (some (ev a e).D)).bind fun x=>st b f (.b x::e)):=rfl
def k0h {α:Type}{f:X->List U->α}:st (.o 14 n m a b c d) f e=((opS (some (ev a e).D)).bind fun x=>st b f (.s x::e)):=rfl
def k0g {α:Type}{f:X->List U->α}:st (.o 15 n m a b c d) f e=((opL (some (ev a e).D) m).bind fun x=>st b f (.l x::e)):=rfl
def k0f {α:Type}{f:X->List U->α}:st (.o 16 n m a b c d) f e=((opM (eF.call n (ev a e).VS) m (nn c)).bind fun x=>st b f (.l x::e)):=rfl
def nn_0 {k:Nat}:nn (.o k n m a b c d)=n:=rfl
def f0_0:f0 (.o 0 n m a b c d) e= .val (ev a e).DS:=rfl
def f0_3:f0 (.o 3 n m a b c d) e= .own n m (ev a e).L:=rfl
def fS_1 {α:Type}{f:X->List U->α}:fS f (.o 1 n m a b c d) e= .inl (ev a e).DS:=rfl
def fS_2 {α:Type}{f:X->List U->α}:fS f (.o 2 n m a b c d) e= .inr (f a e):=rfl
def rr_0 {α:Type}{ds:List D}{j:Nat}{K:List U->Option α}:rr 0 ds j K e=oE sy ds j fun a b c f g h=>K (.l h:: .l g:: .i f:: .s c:: .i b:: .i a::e):=rfl
def rr_1 {α:Type}{ds:List D}{j:Nat}{K:List U->Option α}:rr 1 ds j K e=oP sy ds j fun a b=>K (.i b:: .l a::e):=rfl
def rr_2 {α:Type}{ds:List D}{j:Nat}{K:List U->Option α}:rr 2 ds j K e=oR sy ds j fun a b c=>K (.b c:: .i b:: .l a::e):=rfl
def rr_3 {α:Type}{ds:List D}{j:Nat}{K:List U->Option α}:rr 3 ds j K e=oT sy ds j fun a b c f=>K (.i f:: .i c:: .s b:: .i a::e):=rfl
def rr_4 {α:Type}{ds:List D}{j:Nat}{K:List U->Option α}:rr 4 ds j K e=oQ sy ds j fun a b c f g h=>K (.i h:: .i g:: .i f:: .b c:: .b b:: .b a::e):=rfl
def rr_5 {α:Type}{ds:List D}{j:Nat}{K:List U->Option α}:rr 5 ds j K e=oV sy ds j fun a b c f g h=>K (.l h:: .i g:: .i f:: .b c:: .i b:: .l a::e):=rfl
def rr_7 {α:Type}{ds:List D}{j:Nat}{K:List U->Option α}:rr 7 ds j K e=oD sy ds j fun a b c f g h=>K (.s h:: .s g:: .i f:: .i c:: .i b:: .s a::e):=rfl
end
section
variable {u0 u1 u2 u3 u4 u5 u6 u7 : U} {l : List U}
def at_0:at0 (u0::l) 0=u0:=rfl
def at_1:at0 (u0::u1::l) 1=u1:=rfl
def at_2:at0 (u0::u1::u2::l) 2=u2:=rfl
def at_3:at0 (u0::u1::u2::u3::l) 3=u3:=rfl
def at_4:at0 (u0::u1::u2::u3::u4::l) 4=u4:=rfl
def at_5:at0 (u0::u1::u2::u3::u4::u5::l) 5=u5:=rfl
def at_6:at0 (u0::u1::u2::u3::u4::u5::u6::l) 6=u6:=rfl
def at_7:at0 (u0::u1::u2::u3::u4::u5::u6::u7::l) 7=u7:=rfl
def at_x {k:Nat}:at0 (u0::u1::u2::u3::u4::u5::u6::u7::l) (k+8)=at0 l k:=rfl
end
def u_I (x:Int):(U.i x).I=x:=rfl
def u_B (x:Bool):(U.b x).B=x:=rfl
def u_S (x:BA):(U.s x).S=x:=rfl
def u_N (x:Nat):(U.n x).N=x:=rfl
def u_C (x:UInt8):(U.c x).C=x:=rfl
def u_D (x:D):(U.d x).D=x:=rfl
def u_W (x:List U):(U.u x).W=x:=rfl
def u_Z (x:List D):(U.z x).DS=x:=rfl
def u_Zu (x:List U):(U.u x).DS=x.map U.D:=rfl
def u_Zp (x:PRes):(U.p x).DS=x.leaves:=rfl
def u_L (x:LL):(U.l x).L=x:=rfl
def u_Lu (x:List U):(U.u x).L=x.map U.DS:=rfl
def u_V (x:V):(U.v x).V=x:=rfl
def u_VS (x:List U):(U.u x).VS=x.map U.V:=rfl
def u_Vw (x:List V):(U.w x).VS=x:=rfl
def u_BY (x:List U):(U.u x).BY=x.map U.C:=rfl
def kd_0:kd 0= .i8:=rfl
def kd_1:kd 1= .i16:=rfl
def kd_2:kd 2= .i32:=rfl
def kd_3:kd 3= .i64:=rfl
def kd_4:kd 4= .u8:=rfl
def kd_5:kd 5= .u16:=rfl
def kd_6:kd 6= .u32:=rfl
def kd_7:kd 7= .u64:=rfl
def ic_0 {α β:Type}(f:α->β):[].map f= []:=rfl
def ic_2 {α β:Type}(f:α->β)(x:α)(l:List α):(x::l).map f=f x::l.map f:=rfl
def ic1:type_of% (And.intro @ev_0 (And.intro @ev_1 (And.intro @ev_2 (And.intro @ev_3 (And.intro @ev_4 (And.intro @ev_5 (And.intro @ev_6 (And.intro @ev_7 (And.intro @ev_8 (And.intro @ev_9 (And.intro @k5k (And.intro @k5j (And.intro @k5i (And.intro @k5h (And.intro @k5g (And.intro @k5f (And.intro @k5e (And.intro @k5d (And.intro @k5c (And.intro @k5b (And.intro @k5a (And.intro @k4z (And.intro @k4y (And.intro @k4x (And.intro @k4w (And.intro @k4v (And.intro @k4u (And.intro @k4t (And.intro @k4s (And.intro @k4r (And.intro @k4q (And.intro @k4p (And.intro @k4o (And.intro @k4n (And.intro @k4m (And.intro @k4l (And.intro @k4k (And.intro @k4j (And.intro @k4i (And.intro @k4h (And.intro @k4g (And.intro @k4f (And.intro @k4e (And.intro @k4d (And.intro @k4c (And.intro @k4b (And.intro @k4a (And.intro @k3z (And.intro @k3y (And.intro @k3x (And.intro @k3w (And.intro @k3v (And.intro @k3u (And.intro @k3t (And.intro @k3s (And.intro @k3r (And.intro @k3q (And.intro @k3p (And.intro @k3o (And.intro @k3n (And.intro @k3m (And.intro @k3l (And.intro @k3k (And.intro @k3j (And.intro @k3i (And.intro @k3h (And.intro @k3g (And.intro @k3f (And.intro @k3e (And.intro @k3d (And.intro @k3c (And.intro @k3b (And.intro @k3a (And.intro @k2z (And.intro @k2y (And.intro @k2x (And.intro @k2w (And.intro @k2v (And.intro @k2u (And.intro @k2t (And.intro @k2s (And.intro @w9x (And.intro @st_0 (And.intro @st_1 (And.intro @st_2 (And.intro @st_3 (And.intro @st_4 (And.intro @st_5 (And.intro @st_6 (And.intro @st_7 (And.intro @st_8 (And.intro @st_9 (And.intro @k0l (And.intro @k0k (And.intro @k0j (And.intro @k0i (And.intro @k0h (And.intro @k0g (And.intro @k0f (And.intro @nn_0 (And.intro @f0_0 (And.intro @f0_3 (And.intro @fS_1 (And.intro @fS_2 (And.intro @rr_0 (And.intro @rr_1 (And.intro @rr_2 (And.intro @rr_3 (And.intro @rr_4 (And.intro @rr_5 (And.intro @rr_7 (And.intro @at_0 (And.intro @at_1 (And.intro @at_2 (And.intro @at_3 (And.intro @at_4 (And.intro @at_5 (And.intro @at_6 (And.intro @at_7 (And.intro @at_x (And.intro @u_I (And.intro @u_B (And.intro @u_S (And.intro @u_N (And.intro @u_C (And.intro @u_D (And.intro @u_W (And.intro @u_Z (And.intro @u_Zu (And.intro @u_Zp (And.intro @u_L (And.intro @u_Lu (And.intro @u_V (And.intro @u_VS (And.intro @u_Vw (And.intro @u_BY (And.intro @kd_0 (And.intro @kd_1 (And.intro @kd_2 (And.intro @kd_3 (And.intro @kd_4 (And.intro @kd_5 (And.intro @kd_6 (And.intro @kd_7 (And.intro @ic_0 @ic_2))))))))))))))))))))))))))))))))))))))))))))))))))))))))))))))))))))))))))))))))))))))))))))))))))))))))))))))))))))))))))))))))))))))))))))))))):=And.intro @ev_0 (And.intro @ev_1 (And.intro @ev_2 (And.intro @ev_3 (And.intro @ev_4 (And.intro @ev_5 (And.intro @ev_6 (And.intro @ev_7 (And.intro @ev_8 (And.intro @ev_9 (And.intro @k5k (And.intro @k5j (And.intro @k5i (And.intro @k5h (And.intro @k5g (And.intro @k5f (And.intro @k5e (And.intro @k5d (And.intro @k5c (And.intro @k5b (And.intro @k5a (And.intro @k4z (And.intro @k4y (And.intro @k4x (And.intro @k4w (And.intro @k4v (And.intro @k4u (And.intro @k4t (And.intro @k4s (And.intro @k4r (And.intro @k4q (And.intro @k4p (And.intro @k4o (And.intro @k4n (And.intro @k4m (And.intro @k4l (And.intro @k4k (And.intro @k4j (And.intro @k4i (And.intro @k4h (And.intro @k4g (And.intro @k4f (And.intro @k4e (And.intro @k4d (And.intro @k4c (And.intro @k4b (And.intro @k4a (And.intro @k3z (And.intro @k3y (And.intro @k3x (And.intro @k3w (And.intro @k3v (And.intro @k3u (And.intro @k3t (And.intro @k3s (And.intro @k3r (And.intro @k3q (And.intro @k3p (And.intro @k3o (And.intro @k3n (And.intro @k3m (And.intro @k3l (And.intro @k3k (And.intro @k3j (And.intro @k3i (And.intro @k3h (And.intro @k3g (And.intro @k3f (And.intro @k3e (And.intro @k3d (And.intro @k3c (And.intro @k3b (And.intro @k3a (And.intro @k2z (And.intro @k2y (And.intro @k2x (And.intro @k2w (And.intro @k2v (And.intro @k2u (And.intro @k2t (And.intro @k2s (And.intro @w9x (And.intro @st_0 (And.intro @st_1 (And.intro @st_2 (And.intro @st_3 (And.intro @st_4 (And.intro @st_5 (And.intro @st_6 (And.intro @st_7 (And.intro @st_8 (And.intro @st_9 (And.intro @k0l (And.intro @k0k (And.intro @k0j (And.intro @k0i (And.intro @k0h (And.intro @k0g (And.intro @k0f (And.intro @nn_0 (And.intro @f0_0 (And.intro @f0_3 (And.intro @fS_1 (And.intro @fS_2 (And.intro @rr_0 (And.intro @rr_1 (And.intro @rr_2 (And.intro @rr_3 (And.intro @rr_4 (And.intro @rr_5 (And.intro @rr_7 (And.intro @at_0 (And.intro @at_1 (And.intro @at_2 (And.intro @at_3 (And.intro @at_4 (And.intro @at_5 (And.intro @at_6 (And.intro @at_7 (And.intro @at_x (And.intro @u_I (And.intro @u_B (And.intro @u_S (And.intro @u_N (And.intro @u_C (And.intro @u_D (And.intro @u_W (And.intro @u_Z (And.intro @u_Zu (And.intro @u_Zp (And.intro @u_L (And.intro @u_Lu (And.intro @u_V (And.intro @u_VS (And.intro @u_Vw (And.intro @u_BY (And.intro @kd_0 (And.intro @kd_1 (And.intro @kd_2 (And.intro @kd_3 (And.intro @kd_4 (And.intro @kd_5 (And.intro @kd_6 (And.intro @kd_7 (And.intro @ic_0 @ic_2))))))))))))))))))))))))))))))))))))))))))))))))))))))))))))))))))))))))))))))))))))))))))))))))))))))))))))))))))))))))))))))))))))))))))))))))
def uc {n:Nat}:UInt8.ofNat (no_index (OfNat.ofNat n))=OfNat.ofNat n:=rfl
abbrev SQ (l:Option PRes):= {t // l=t}
def pq (f:FuncId)(args:List V)(n:Nat){us:List U}{ts:List Nat}{x:X}{t:Option PRes}(h3:us=args.flatMap (uV 9):=by conv=>rhs;reduce)(h4:ts=us.map uT:=by conv=>rhs;reduce)(h0:x=pa ts n:=by conv=>rhs;reduce)
  (h1:fT sy eF f args=st x f0 us:=by kernel_rfl) (h2:t=st x f0 us:=by conv=>rhs;simp only[ic1,uc,Int.cast_ofNat_Int]):fT sy eF f args=t:=h1.trans h2.symm
def pb (f:FuncId)(pn:Nat)(args:List V)(hs:List Box)(n:Nat){us:List U}{ts:List Nat}{x:X}{t:Option PRes}(h3:us=hs.flatMap uX++args.flatMap (uV 9):=by conv=>rhs;reduce)(h4:ts=us.map uT:=by conv=>rhs;reduce)(h0:x=pa ts n:=by conv=>rhs;reduce)
  (h1:fB sy eF f pn args hs=st x f0 us:=by kernel_rfl) (h2:t=st x f0 us:=by conv=>rhs;simp only[ic1,uc,Int.cast_ofNat_Int]):fB sy eF f pn args hs=t:=h1.trans h2.symm
end
end Go.Vm
end
section
set_option maxRecDepth 1000000
set_option maxHeartbeats 0
namespace Go.Vm
open Go.Proofs
noncomputable section
def b36 a b c d e f g:=(⟨_,pb 36 0 [.ptr 0 0, .d (.str g)] [.cells (.ty 61) [.d (.sl 4 a), .d (.int .i64 b), .own 1, .ifo 65 d [.int .i64 e, .int .i64 f]], .arr 43 2 c] 0x767623603918c9b1b03d6c38a252f2ecf641ce716a179e99a6130b16ce62aa2583f96357422b10d635a674⟩:SQ _)
def b41 a b c d e f g h:=(⟨_,pb 41 0 [.ptr 0 0, .d (.int .i64 g), .d (.int .i64 h)] [.cells (.ty 61) [.d (.sl 4 a), .d (.int .i64 b), .own 1, .ifo 65 d [.int .i64 e, .int .i64 f]], .arr 43 2 c] 0x1203db83f9de61c541a8ba954d41c⟩:SQ _)
def b78 a b c d e f g:=(⟨_,pb 78 0 [.ptr 0 0, .d (.int .i64 g)] [.cells (.ty 61) [.d (.sl 4 a), .d (.int .i64 b), .own 1, .ifo 65 d [.int .i64 e, .int .i64 f]], .arr 43 2 c] 0x2433d3a1cfb97021fe1240e8e3261dae447a71ecabaf26aea2610fa61df1bab8545a8594088f1011ea5⟩:SQ _)
def b80 a b c d e f g:=(⟨_,pb 80 0 [.ptr 0 0, .d (.int .i64 g)] [.cells (.ty 61) [.d (.sl 4 a), .d (.int .i64 b), .own 1, .ifo 65 d [.int .i64 e, .int .i64 f]], .arr 43 2 c] 0xa3454d3e23839c648afd3baa3bd94ec3262e863ae376e457aaa1cc31a5ef7d5564b50110d713958fa0b5082479c6648b7c80f5003225a3c⟩:SQ _)
def b37 a b c d e f:=(⟨_,pb 37 0 [.ptr 0 0] [.cells (.ty 61) [.d (.sl 4 a), .d (.int .i64 b), .own 1, .ifo 65 d [.int .i64 e, .int .i64 f]], .arr 43 2 c] 0x1e5e06f5af5901b39ce815947fe47c0507ce450df9e197b5ea044362333851153dfb4da068e5d2b544abe45c775ba4⟩:SQ _)
def q8y a b c d e f:=(⟨_,pb 214 0 [.ptr 0 0] [.cells (.ty 61) [.d (.sl 4 a), .d (.int .i64 b), .own 1, .ifo 65 d [.int .i64 e, .int .i64 f]], .arr 43 2 c] 0x10bda7464e4749ed83d99bc9377ea295b4fa128ab02d3bfdfe86fb47cc9d452089a5059ed8c5e20c2982533f53db1dff3ddfccc4559054d4003d0bc01cc09de12e342671ea164d9dcf51b59d5c529ecddd3f3f1695de72b374a4def4d8a366ee30b2d090ca5f0dae453fe7056b27e1687bd66b3d⟩:SQ _)
def q8z a b c d e f:=(⟨_,pb 175 0 [.ptr 0 0] [.cells (.ty 61) [.d (.sl 4 a), .d (.int .i64 b), .own 1, .ifo 65 d [.int .i64 e, .int .i64 f]], .arr 43 2 c] 0x23f35df1451d3610b8f1b799258603f13d4517c97493e232f24e1d7adad176d43bccf7ec2ef6bbea290e4c37c10f680f77d484500bb37c4302b4e1c35728ceaf7c9ed4cba⟩:SQ _)
def k8g a b c d e f:=(⟨_,pb 176 0 [.ptr 0 0] [.cells (.ty 61) [.d (.sl 4 a), .d (.int .i64 b), .own 1, .ifo 65 d [.int .i64 e, .int .i64 f]], .arr 43 2 c] 0x1aa8739d448f270bfd202959e8e30cc51b0773e32d68a1269⟩:SQ _)
def k8h a b c d e f:=(⟨_,pb 131 0 [.ptr 0 0] [.cells (.ty 61) [.d (.sl 4 a), .d (.int .i64 b), .own 1, .ifo 65 d [.int .i64 e, .int .i64 f]], .arr 43 2 c] 0xbff65a7cc04e9e0a0a77b5300a55e992a4246ba7248623a8b7ab1fcf927b2242024ac6265a91062dcc043a626fa4be2b071b18eb41724de7dec3a31b0⟩:SQ _)
def b81 a b c d e f g:=(⟨_,pb 81 0 [.ptr 0 0, .d (.bool g)] [.cells (.ty 61) [.d (.sl 4 a), .d (.int .i64 b), .own 1, .ifo 65 d [.int .i64 e, .int .i64 f]], .arr 43 2 c] 0x2944635a3013f70551ec670fb41d24e6e792651ccc9b0e9e61beff39c61ddc597756eee701f90593d1329a398e27019e18908799ad67ecac57ceb7376e6e8904bd6823cabe54ac7e4234fe06065eee1073646296d348bb687970d7877e073944595dee24527dfa733f2b5935256650f32f15b67b6c6db94ebbcc7bbbea944b821343bc414c330fb87f086a1709f4ad29435f0743246b1b8f24b9380582230224dc3fc107733ce7325d84149cf7ac6e36d499d884c4e52c26eacb237601e6aabaa87db4eb0a1d3ca4550fd3c935331cc26e9bc48b49819d9⟩:SQ _)
def q9a a b c d e f:=(⟨_,pb 132 0 [.ptr 0 0] [.cells (.ty 61) [.d (.sl 4 a), .d (.int .i64 b), .own 1, .ifo 65 d [.int .i64 e, .int .i64 f]], .arr 43 2 c] 0x4c212a0d64a2c41f616eb6efbac10de4c1aa25b7efcb56bd0d036b8b2a111c9603948d60b5e6⟩:SQ _)
def b82 a b c d e f:=(⟨_,pb 82 0 [.ptr 0 0] [.cells (.ty 61) [.d (.sl 4 a), .d (.int .i64 b), .own 1, .ifo 65 d [.int .i64 e, .int .i64 f]], .arr 43 2 c] 0x76c60622db9b6d9bcff4f0e0509445175a6bec2a030f3db0a135383613fdc1f6f64b02f303d221295752ccfb9a5c66e58⟩:SQ _)
def b38 a b c d e f:=(⟨_,pb 38 0 [.ptr 0 0] [.cells (.ty 61) [.d (.sl 4 a), .d (.int .i64 b), .own 1, .ifo 65 d [.int .i64 e, .int .i64 f]], .arr 43 2 c] 0x25ee7c1e94ea5d2562706338b3319f2a44d60d075666d4dd27e599785e37e0684d8098855c5a3d5b71f109544802d97bc900bdf8cb67b25ed608f0473924e558e6813ed539c8d48933449a1c1e9eadcc23fbc4521f268d1d02060caf572ff43f39d4c553600b35fb7260b5d7db799367ab2038f8c8d380bd14549c845c2d1b7af0793ee8b8f6ac93ccd479c8445d286e705f72345cdb5a59ad54bf01e4a9fe95e2e78c5210be070bb9c5e5ddf69efe6c8105fbe8d9be3b6a6cb5f0cda1c881290dae577f54d89b1b5a3c357f332d4f638dc67badd1d94998102128abd0ba241ce495f56259d512c138a9697c5e0fb00da0383d4dc5a⟩:SQ _)
def b79 a b c d e f g:=(⟨_,pb 79 0 [.ptr 0 0, .own 1] [.cells (.ty 61) [.d (.sl 4 a), .d (.int .i64 b), .own 2, .ifo 65 d [.int .i64 e, .int .i64 f]], .arr 9 1 g, .arr 43 2 c] 0x3b5853bd3506bd84291ca4905c128ea61ef52aea5afcc3ec064ef331591980a8866e267484f2e797748bc9beed4573a02c4f7a4df5e07bb0687370⟩:SQ _)
def g9 a:=(⟨_,pq 9 [.d (.str a)] 0x11172b35b8aa2ffbc788b11e9869f5cb1bc52cf08ea3dbc920129835bae91529d42862f07a6ba8877ef527a3542eb830fd369ec5ef859545eeab327b0ce5632446edfe26e2c31eab5c7c89d72eb0841232a4ba9615fb6e306d0b6204429fa01e11e5b741ef8dcaea27bc04fd67a8514b983f0248cd7df24e8355b9e7842c4aac9d4add483588a192bdc45c312da8c3d497a5509dbed43a0685c2a1978ba81a61088e6d64dffbc24c9aa6df78f7da58392da902f9184e106d06b093a9316b1247132caea6d04⟩:SQ _)
end
noncomputable section
def g311 a:=(⟨_,pq 311 [.d (.int .i64 a)] 0x6c3d8a7615b4268c2a22606afd6bdbc100a253bc9ebab206143750f7e8476fc3bd164118f9c44e0396df6756⟩:SQ _)
def g313 a:=(⟨_,pq 313 [.d (.int .i64 a)] 0x22eefbad2f9008e893a5673116da7b3e52467f818beaf0402bcb⟩:SQ _)
def g308 a b c d e f g h i j k l m:=(⟨_,pq 308 [.d (.int .i64 a), .agg [.d (.int .i64 b), .d (.int .i64 c), .d (.str d), .d (.int .i64 e), .d (.sl 1 f), .d (.sl 6 g)], .agg [.d (.int .i64 h), .d (.int .i64 i), .d (.str j), .d (.int .i64 k), .d (.sl 1 l), .d (.sl 6 m)]] 0x14c53769b1959478d5979d22e9aec416b076e⟩:SQ _)
end
noncomputable section
def g216 a b:=(⟨_,pq 216 [.d (.sl 4 a), .d (.int .i64 b)] 0x1365c1fd06ebb3bd7df1f51184bf511f95fd70f0⟩:SQ _)
def g177 a b:=(⟨_,pq 177 [.d (.sl 4 a), .d (.int .i64 b)] 0xde709878c6b76f8f851c5bdba703afaf054041e61b61b8d35bd1f9d9a4aac09efb18ece88d7ca7a8cbdfd167f7745e7c84e57606717150756f3d8ea50b⟩:SQ _)
def g182 a b c d e f:=(⟨_,pq 182 [.agg [.d (.int .i64 a), .d (.int .i64 b), .d (.str c), .d (.int .i64 d), .d (.sl 1 e), .d (.sl 6 f)]] 0x1a65f7c8a12a97c64efe6a07dcbbfeabee66267e79d30e⟩:SQ _)
def k7s a b c d e f:=(⟨_,pq 220 [.agg [.d (.int .i64 a), .d (.int .i64 b), .d (.str c), .d (.int .i64 d), .d (.sl 1 e), .d (.sl 6 f)]] 0x64411179ea840a69640062a2ca39de97042c52c6be523f301a6a8533702cb7332cad185414fc24a3ce76da418faa1803648a4d756f582a23049bdf2993c903384bd7bc800182d6ea0529cf1c95d28744acaa8aa4d3592eac60593ce40791fbb2e20caaa8e2d8257e1b8e4e3eba7814e491db319007fd61a9a0a97aa5450619ed5363d05c0c327970fd8b932cc11381ec7c653873ed55f866fbed08d1407307d04326ee40c55343380632539748c835946fb39f98493b84c46ade71e4e1fd7fd6d66c0b31abad5993cc18d46558541851763626987e265c523c919ebb051937713b255e0093b8a1e1473f162f8b00f⟩:SQ _)
def g253 a b c d e f:=(⟨_,pq 253 [.agg [.d (.int .i64 a), .d (.int .i64 b), .d (.str c), .d (.int .i64 d), .d (.sl 1 e), .d (.sl 6 f)]] 0x203d3b17197cfef1f7a5345ed115c4e8e2ac832ed0fa0c94313333d65d178b04adf1f37a4e5c0122ab6368baf866769ba7185845⟩:SQ _)
def g254 a b c d e f g:=(⟨_,pq 254 [.agg [.d (.int .i64 a), .d (.int .i64 b), .d (.str c), .d (.int .i64 d), .d (.sl 1 e), .d (.sl 6 f)], .d (.int .i64 g)] 0xdc7e11db7165b5d525⟩:SQ _)
def g222 a:=(⟨_,pq 222 [.d (.str a)] 0xfceb161fb5abeef9a592a318b9dfa64f4ed7⟩:SQ _)
def g255 a b c d e f:=(⟨_,pq 255 [.agg [.d (.int .i64 a), .d (.int .i64 b), .d (.str c), .d (.int .i64 d), .d (.sl 1 e), .d (.sl 6 f)]] 0x1911e15838a1845ac9ff3e17464e743036e6e3aec167ea813⟩:SQ _)
def g115 a b c d e f:=(⟨_,pq 115 [.agg [.d (.int .i64 a), .d (.int .i64 b), .d (.str c), .d (.int .i64 d), .d (.sl 1 e), .d (.sl 6 f)]] 0x54959fe46c839b1d3db59be88f8ac5ead232a94113300a77d50d602fcdc26010⟩:SQ _)
def g116 a b c d e f:=(⟨_,pq 116 [.agg [.d (.int .i64 a), .d (.int .i64 b), .d (.str c), .d (.int .i64 d), .d (.sl 1 e), .d (.sl 6 f)]] 0x178bc9cb2a57ed47c392c5cffbfea918a2e3059d0749c0342a92f15cfce0629083ee⟩:SQ _)
def g117 a b c d e f:=(⟨_,pq 117 [.agg [.d (.int .i64 a), .d (.int .i64 b), .d (.str c), .d (.int .i64 d), .d (.sl 1 e), .d (.sl 6 f)]] 0x4448f69db63522a5ab1dab055a445cd19b5fd4adccd16d0f567ba121b37ab287b038f68da0bbb849a83c⟩:SQ _)
def g118 a b c d e f:=(⟨_,pq 118 [.agg [.d (.int .i64 a), .d (.int .i64 b), .d (.str c), .d (.int .i64 d), .d (.sl 1 e), .d (.sl 6 f)]] 0xe30eb61ebf00f9a413f547766f41434cdf4b99e202635e006b6d9a61ab3a63633b40de8be90ecf209ee6dbab55559562f2e03b96297737aff2ebc40e⟩:SQ _)
def g64 a b c d e f:=(⟨_,pq 64 [.agg [.d (.int .i64 a), .d (.int .i64 b), .d (.str c), .d (.int .i64 d), .d (.sl 1 e), .d (.sl 6 f)]] 0xbcb03b22e2fa4a09660129f93dd2db6e46f8332a5debd5799e6596af91e44ba17bf6fa936cefbd131⟩:SQ _)
def g33 a b c d e f g h i j k l:=(⟨_,pq 33 [.agg [.d (.int .i64 a), .d (.int .i64 b), .d (.str c), .d (.int .i64 d), .d (.sl 1 e), .d (.sl 6 f)], .agg [.d (.int .i64 g), .d (.int .i64 h), .d (.str i), .d (.int .i64 j), .d (.sl 1 k), .d (.sl 6 l)]] 0x3e961c6987238722b87ae11f5fa2369315a458f7246e724cfb71d2a907c9e678cfa27749f1c6ba7325b2ad773f09a3e15a39ec4d2566293e3ca0595018402ffd20dacef4c06fd4dfee69148c0e6dcad59832ac79e⟩:SQ _)
def g161 a b c d e f:=(⟨_,pq 161 [.agg [.d (.int .i64 a), .d (.int .i64 b), .d (.str c), .d (.int .i64 d), .d (.sl 1 e), .d (.sl 6 f)]] 0x261026ca37123b0aa97a615ae0fb496b37f0c25d9f2290d726ca1420aaff392876f3b44d1436021d26ea53317aacb02c7f98217e55f935444a074ece36b7b33dfe6c44e85a054c9bcdcd4746b40468829b187e7f2e55c6c9ebb633e6ec2ebd8be66a237e4e12eb4⟩:SQ _)
def g162 a b c d e f:=(⟨_,pq 162 [.agg [.d (.int .i64 a), .d (.int .i64 b), .d (.str c), .d (.int .i64 d), .d (.sl 1 e), .d (.sl 6 f)]] 0x915d5ad33f4a2b96da4f283eee38f58cc94681602c503aca4b11049afe945f77c427696e⟩:SQ _)
def g163 a b c d e f:=(⟨_,pq 163 [.agg [.d (.int .i64 a), .d (.int .i64 b), .d (.str c), .d (.int .i64 d), .d (.sl 1 e), .d (.sl 6 f)]] 0x11ce2abbe420ad443a9adc942460cb1d22ec1e5ecdd7401be72314ee045ddc7d8b1fa387dff373790c315d43c71fb7d581⟩:SQ _)
def w9o a b c d e f:=(⟨_,pq 164 [.agg [.d (.int .i64 a), .d (.int .i64 b), .d (.str c), .d (.int .i64 d), .d (.sl 1 e), .d (.sl 6 f)]] 0x33ad1d6c6ad1b75e266ed18a2a80456784ff1894228a9f67422b1135255f86ca55cbf34f867f5056944cdb15c38bbffece1⟩:SQ _)
def g165 a b c d e f:=(⟨_,pq 165 [.agg [.d (.int .i64 a), .d (.int .i64 b), .d (.str c), .d (.int .i64 d), .d (.sl 1 e), .d (.sl 6 f)]] 0x500c39c9f3fb900a4e5b10d33e151c3ce55d54612ffbb9cf7dd7dd3b2a07204b413c16d450f⟩:SQ _)
def g199 a:=(⟨_,pq 199 [.d (.str a)] 0xfceb161fb5abeef9a592a318b9dfa64f4e32⟩:SQ _)
def g26 a:=(⟨_,pq 26 [.d (.sl 1 a)] 0x19ed0d31c9334b65f13c4c98fb6a4fba0346ad64cc59e8a1d6⟩:SQ _)
def g200 a b c d e f:=(⟨_,pq 200 [.agg [.d (.int .i64 a), .d (.int .i64 b), .d (.str c), .d (.int .i64 d), .d (.sl 1 e), .d (.sl 6 f)]] 0x253b5f8b9235417a204202b101efbbb30d9472d874352bca4fdea4e⟩:SQ _)
def g31 a b:=(⟨_,pq 31 [.d (.sl 1 a), .d (.sl 1 b)] 0x1f40266cef72ecf5742608b776d366f5c7edaf5c31b9⟩:SQ _)
def g184 a b c d e f:=(⟨_,pq 184 [.agg [.d (.int .i64 a), .d (.int .i64 b), .d (.str c), .d (.int .i64 d), .d (.sl 1 e), .d (.sl 6 f)]] 0xd26552f9a0359bef5ccf69c7d4b3a8bcac257cc6cec2e0624542cf659c4187bd7af9a199f7b3d0db92ee535d3690105ef93eb1e05ff141cca976cef000f250542101d2b⟩:SQ _)
def g223 a b c d e f:=(⟨_,pq 223 [.agg [.d (.int .i64 a), .d (.int .i64 b), .d (.str c), .d (.int .i64 d), .d (.sl 1 e), .d (.sl 6 f)]] 0x4162cc025c527962f29c4f5dcf555a6ba6⟩:SQ _)
def g53 a:=(⟨_,pq 53 [.d (.sl 1 a)] 0x5a727779af647340c4321c19517d2aca37013bcfacadf8f3bed23e⟩:SQ _)
def g181 a b c d e f:=(⟨_,pq 181 [.agg [.d (.int .i64 a), .d (.int .i64 b), .d (.str c), .d (.int .i64 d), .d (.sl 1 e), .d (.sl 6 f)]] 0x8f025b1ada82d85e94032edeaff161517a39c7f18cfa2f39faa86⟩:SQ _)
def g145 a b c d e f:=(⟨_,pq 145 [.agg [.d (.int .i64 a), .d (.int .i64 b), .d (.str c), .d (.int .i64 d), .d (.sl 1 e), .d (.sl 6 f)]] 0x21e4be32c4761660bef8ab2406eba5c9b427ed28bd995abd5b2abc3b7d29cf9f17113b9d104b86da9b8388e7d52a1d7fc⟩:SQ _)
def v0r a b c d e f g:=(⟨_,pb 219 0 [.agg [.d (.int .i64 a), .d (.int .i64 b), .d (.str c), .d (.int .i64 d), .d (.sl 1 e), .d (.sl 6 f)], .yld 0 (u7y 181)] [.cells (.rcd .ready) [.any, .any, .any, .ptr 1 0, .any, .any, .any, .any, .any, .any], .cells (.ty 3) [.d (.int .i64 g)]] 0x2371bee78e239ebcef56120310f846cd790e51dddb5aa300c58a34f1821d2f7b955e193c7a456d5d9b8756a386aa77c9025fe0c5ae0⟩:SQ _)
def v0s a b c d e f g:=(⟨_,pb 219 0 [.agg [.d (.int .i64 a), .d (.int .i64 b), .d (.str c), .d (.int .i64 d), .d (.sl 1 e), .d (.sl 6 f)], .yld 0 (u7y 145)] [.cells (.rcd .ready) [.any, .any, .ptr 1 0, .any, .any, .any, .any, .any, .any, .any, .any, .any, .any, .any, .any, .any, .any, .any], .cells (.ty 4) [.d (.bool g)]] 0x2bc5cfbba0571dc2aa03e38a28fe2e9484b2d5f13c65cbda608de5b855a21148aecfe238066c1f5a967fc29693370c24ee192a54bde762b0466669e51f039813bdf77afda⟩:SQ _)
def g217 a b:=(⟨_,pq 217 [.d (.sl 4 a), .d (.int .i64 b)] 0xe17e815a120760fe6412f788ad54f65d745e52d14⟩:SQ _)
def y9i a:=(⟨_,pq 146 [.d (.sl 1 a), .fn 221 []] 0x1c4454df57cf9eb2b5d62d1457e66bcf66492a88⟩:SQ _)
def g221 a:=(⟨_,pq 221 [.d (.str a)] 0x4930db4ce9⟩:SQ _)
def y9h a:=(⟨_,pq 236 [.d (.sl 6 a), .fn 256 []] 0x931296f3248bfae69c2fe0a63b475035883e9f5cc89⟩:SQ _)
def g256 a b c d e f:=(⟨_,pq 256 [.agg [.d (.int .i64 a), .d (.int .i64 b), .d (.str c), .d (.int .i64 d), .d (.sl 1 e), .d (.sl 6 f)]] 0x1d50ec5d2ef96d⟩:SQ _)
def g215 a b:=(⟨_,pq 215 [.d (.sl 4 a), .d (.int .i64 b)] 0x359ef48aea2ee433dc446e8d4c404f6ad8ef3⟩:SQ _)
def g250 a b:=(⟨_,pq 250 [.d (.sl 4 a), .d (.int .i64 b)] 0x2d7c9f939a343c6a216067c2d124d7d467⟩:SQ _)
end
noncomputable section
def b272 a b c:=(⟨_,pb 272 0 [.ptr 0 0, .d (.str c)] [.cells (.ty 315) [.d (.sl 4 a), .d (.int .i64 b)]] 0x45a07a8b29144b6552414f16a8b10e0aae9cd39⟩:SQ _)
def b285 a b:=(⟨_,pb 285 0 [.ptr 0 0] [.cells (.ty 315) [.d (.sl 4 a), .d (.int .i64 b)]] 0x81c04dc72bdce979f947d8eecacb1c96fca4a05f0ec4599669ab61eb3bc3dc46ea0894ea94ed66932607c2⟩:SQ _)
def b307 a b c d:=(⟨_,pb 307 0 [.ptr 0 0, .d (.int .i64 c), .d (.int .i64 d)] [.cells (.ty 315) [.d (.sl 4 a), .d (.int .i64 b)]] 0x1d3a108172667e6a2f7177fc1a8dcf5b49c8b63010cecf45cf4⟩:SQ _)
def b252 a b:=(⟨_,pb 252 339 [.ptr 0 0] [.cells (.ty 315) [.d (.sl 4 a), .d (.int .i64 b)]] 0xbf9efdf49501e1b9f98a16ad31ad55b8e0731d80daf7ec7b175def993bf9162765bc57d5599aea50dc2aee6e223f1331764e380cb81a6c15c7f7eba9⟩:SQ _)
def b270 a b:=(⟨_,pb 270 339 [.ptr 0 0] [.cells (.ty 315) [.d (.sl 4 a), .d (.int .i64 b)]] 0x2e05bef05265836dc448d936d23f5ff8c85fd129b3855fde4cb476a396b0c53835049bebf40c2bc9f2f5bb0878e8856040b2680693e1af18a40f23bae140714089d8105dfdc90f3638c70d8dbe219420bf7f41c638b26ac553a4d240df685646009287732068039051c47314ab283ec533829ba07⟩:SQ _)
def b271 a b:=(⟨_,pb 271 339 [.ptr 0 0] [.cells (.ty 315) [.d (.sl 4 a), .d (.int .i64 b)]] 0x127da3997df0f27c262867382e6f2de99b089bb4d321347dde2c8011552655137d946ab1bcb6f67ae8e138508a75224ede8fc6863c154be2225c692deff⟩:SQ _)
def b284 a b:=(⟨_,pb 284 339 [.ptr 0 0] [.cells (.ty 315) [.d (.sl 4 a), .d (.int .i64 b)]] 0x61d38328fcbf64602328d161dcf239a2d4bb76d46a7⟩:SQ _)
def b286 a b:=(⟨_,pb 286 339 [.ptr 0 0] [.cells (.ty 315) [.d (.sl 4 a), .d (.int .i64 b)]] 0x56cbc20352d8b1716e60d40db8b3d780de65⟩:SQ _)
def b288 a b:=(⟨_,pb 288 339 [.ptr 0 0] [.cells (.ty 315) [.d (.sl 4 a), .d (.int .i64 b)]] 0x3704d3b4005684bcb5e23eb39a56c767cd3ee06f547d5f98441ae4af6e513765d7a104a82292c573240931ffc762592a2553defd24c2d8b5320d4dc01d7315df910a87166f1a6415393ffe8c3e2d3dee3378fc8cf56ce2b6bddaa709e45b9d7efc13203⟩:SQ _)
def b301 a b:=(⟨_,pb 301 339 [.ptr 0 0] [.cells (.ty 315) [.d (.sl 4 a), .d (.int .i64 b)]] 0xdc134ed0015a12f2d788fb93c1a7644363ef31236543020e62394e6240e6f17f1ae6c82f1801f68403fdc1ee0fc3ac5716b0b2751844fa16e529d45f6eedacbbdf196b566faf24f29409807e8d9de78fd73b4bc77d20b7e3703642b7f2040e3858e2009⟩:SQ _)
def b309 a b:=(⟨_,pb 309 339 [.ptr 0 0] [.cells (.ty 315) [.d (.sl 4 a), .d (.int .i64 b)]] 0xe1881254e50d8f042d9bc0c9d53176699b0568f6423cace1eb62f7431ac1a268f9b184a89aae9c4fe90bd50361a5935f906ea8b0cd0677be7521b29⟩:SQ _)
def b312 a b:=(⟨_,pb 312 339 [.ptr 0 0] [.cells (.ty 315) [.d (.sl 4 a), .d (.int .i64 b)]] 0x1b8269da002b425e5af11f57d7b6c4877dc6ad873d471279a211302e01786834e82ebecd58f39f14c6587cf4fe4a32529156d8dd4f78c97190b82e703404f0b557337902ca08dde1a569fccd3bf10bda2cf0527c1ff8e3dade72a16f3873e7b4da3dc6f⟩:SQ _)
def b314 a b:=(⟨_,pb 314 339 [.ptr 0 0] [.cells (.ty 315) [.d (.sl 4 a), .d (.int .i64 b)]] 0x6e09a76800ad09796bc47dc9bd4435d495a90056ecae9b35d1751c2c1366acb10a16d408eda17125cd7f1d8658fa1154dac57fbce1ad538cc416312a72ec2bfc6b8856d4d91e5b3b22757763aab78317aed64c91d36bf859e0549c5040761ed3922676d⟩:SQ _)
def b315 a b:=(⟨_,pb 315 339 [.ptr 0 0] [.cells (.ty 315) [.d (.sl 4 a), .d (.int .i64 b)]] 0xaedf4194d752e261bc2248f77064d579519f81f926e116a2b65e5300f52227192cb39e3b240a2667a122f36932fe98e83c44516abfd992015192061edf68bb41b07b3df41fbf20969aebe5a0af2608eccf8ac1f0bbd2747be2bfb82789926c345ed2ff263584aa53c5cd26c78fc75e56cc0b5b85f8951⟩:SQ _)
def b316 a b:=(⟨_,pb 316 339 [.ptr 0 0] [.cells (.ty 315) [.d (.sl 4 a), .d (.int .i64 b)]] 0x1193f54d44d03b0a82a2e8f205fa9d6994d14856e8fb16b4ca6c392c4bc4b9caeb3adda3a80db6f1c692235d55d9385f0e222efabc7381180cb8952cf583f8079b99a410860abef56c0f94fa6a6df42b44c6bc12cd459bf6020de22c3b9f82d6ddf8693cc8f342ca1eeef6061003cd8a6117d1352e35c205eb274c9634d33bd55635d16adf6cccd628ca71⟩:SQ _)
def b317 a b:=(⟨_,pb 317 339 [.ptr 0 0] [.cells (.ty 315) [.d (.sl 4 a), .d (.int .i64 b)]] 0x610773d77e9912d2962b6b59ea6dc2da9fa0572ebf2c75472318e64287cbee703516b3444f21fc3bb88943d3613c30359f03eb⟩:SQ _)
def b318 a b:=(⟨_,pb 318 339 [.ptr 0 0] [.cells (.ty 315) [.d (.sl 4 a), .d (.int .i64 b)]] 0x1eac8f8cf0e53295d8201831fcd52ed862b7e2ef29d988ee0f13f251ccfad3b4dfc6dd9fb35e69514a045663f88d8561363e87910ac39c1958fcb6512d3f982871f65ff0dcb6e17910baf5e2b5d4509594d369a7ed27026e3b4e61b37f21db76d54e38b32b783ab770329ed7acb89ff3b6abdf9970f78e96ff0851b4db920dc0b9e6a3c85e07439e32429ca2b01bc9849aff171a5c2a7f64bca8338aa0994d367f656d6657f2acac483faadc143ed812ef90280537c3b516ab733f66930a0b842189c6decd7312867b576a4340ce1521fcf1850e74d68ce88e2eb7c3e4d04ea8dd7fc867b0a3fb72981e98f62079858d866f695c56ccdc82a13eb6399f0686b⟩:SQ _)
def b320 a b:=(⟨_,pb 320 339 [.ptr 0 0] [.cells (.ty 315) [.d (.sl 4 a), .d (.int .i64 b)]] 0x45f130a00404375819df119b82db2ba6a027ae247c68bafdafe4745fc731f2a2776589522030820822797f6cad78840d8ff0ee7e7fc0a40a3212967d57180c590fdd03fec2463994b991f04517740b88b52367b709037caabd280ee825124ce88217d6aa62100b5965aa9e581472d5bc135fc1d2afabde9d53d4eda666958a6eca02b13d5a80b9ed6b8ed0c0c130968cb7d6c6b574⟩:SQ _)
def b321 a b:=(⟨_,pb 321 339 [.ptr 0 0] [.cells (.ty 315) [.d (.sl 4 a), .d (.int .i64 b)]] 0x116aa8354bf4871bee3b438588887d6d9194a22ddf19fac62fd565a3b21d652c8df12760a0f4492f7bfbc0b52d0e5096093edb8ed6e328d795976fa981bbd5707a34b8ead167e2cd666d8994dae82b45cf339e98fd85abaa670d26cb1ebc7281e566015b7eb9a18ff1ed4e189264319e51ac03d28479e0b5009276dd8c92ed35dd8b2192d493d881a165b3319ea5baa27103ca39ddd3bf93070f16561⟩:SQ _)
def b322 a b:=(⟨_,pb 322 339 [.ptr 0 0] [.cells (.ty 315) [.d (.sl 4 a), .d (.int .i64 b)]] 0x5206dfff9a44547b923f97c851048e69987848f88f6dd055b48c651b1a57adf1f08e93b60bda9fc6ccc97d3dce1c6202aee9b46422f240eb665ba058b1885b24c9113c3295a8c79cc71fd3b50280ca7ad98c3e74f9deebe29a2bfc2e31de6dc6795a6⟩:SQ _)
def b323 a b c:=(⟨_,pb 323 339 [.ptr 0 0, .d (.str c)] [.cells (.ty 315) [.d (.sl 4 a), .d (.int .i64 b)]] 0x2c724a654b6b78d5bfc3c59b0e2071efe4194e217b580672e0ea0b2db16e2819a3869f0856f838ed6a4b44cefbabc597fa395ce8992f8a327a3f598e27b5f65498bd8fcb254aea61931c043723da66e9d11e594451f01da9f7e3cb78c4ab6ab06fd9927585a52c87a4f0cdc1851486f6f57653a70fb5741b2fa9768bef81df743506aae7d9f0f2bef6cf71e7c534bd89be5f039d0d2a984d09e7db9cc0861cc364549b78d921b958ba81a900d2d92f4469a5dcf6002ad9c390475258e1f4ea6648b3440ac1f9c13dba77f5d655d⟩:SQ _)
def b287 a b c:=(⟨_,pb 287 339 [.ptr 0 0, .own 1] [.cells (.ty 315) [.d (.sl 4 a), .d (.int .i64 b)], .arr 9 1 c] 0x15f0f88975660cf636176f58ed95a5261ee836e5796115996ff7d8981b40bccc0a26e1c⟩:SQ _)
end
end Go.Vm
end
section
set_option maxRecDepth 1000000
set_option maxHeartbeats 0
namespace Go.Vm
noncomputable section
open Go.Proofs
def g67 a:=(⟨_,pq 67 [.d (.int .u8 a)] 0xc61c563fee7d13cf2acd2eed4495a09b81f⟩:SQ _)
def g69 a:=(⟨_,pq 69 [.d (.int .u8 a)] 0xf8e543f7⟩:SQ _)
def g70 a:=(⟨_,pq 70 [.d (.int .u8 a)] 0x15157a8cce74232dc7⟩:SQ _)
def g71 a:=(⟨_,pq 71 [.d (.int .u8 a)] 0x15157a8ccd7afbdbec⟩:SQ _)
def g73 a:=(⟨_,pq 73 [.d (.int .u8 a)] 0x2a2af5199ac1ed619⟩:SQ _)
def g124 a:=(⟨_,pq 124 [.d (.int .u8 a)] 0x9b619b0a922d9fe52fbfa1590cba814fc7ff656b7cd843⟩:SQ _)
def w9l a:=(⟨_,pq 66 [.d (.str a), .fn 67 []] 0x23ddb7136a7c7308a32161de7141c063⟩:SQ _)
def w9k a:=(⟨_,pq 66 [.d (.str a), .fn 69 []] 0x23ddb7136a7c7308a32161de7141c067⟩:SQ _)
def v9o a:=(⟨_,pq 66 [.d (.str a), .fn 124 []] 0x23ddb7136a7c7308a32cedc1f5a36230⟩:SQ _)
def w9j a:=(⟨_,pq 66 [.d (.str a), .fn 73 []] 0x23ddb7136a7c7308a32161e082693767⟩:SQ _)
def g34 a:=(⟨_,pq 34 [.d (.str a)] 0x5b29d336541c921c12311a6acffac045d817e8e6578009585cec98fa0a15c90e0837927f2656881602dfb7b79b47f2b50b4dd7⟩:SQ _)
def g72 a:=(⟨_,pq 72 [.d (.str a)] 0x32f93bed962610c1ee33ffea1bea5287307a6dcac3e0a4588b41204b202c417374a67f4c8ee7b117e26b8dd6d43c460fb617d9⟩:SQ _)
def g74 a:=(⟨_,pq 74 [.d (.str a)] 0xda306987f04ecac78b36ed3b7b8f315d3fc527e5c1f484f8eea5b70de021b24b0aa8c449d46a933552f3a8f4ccb0dbc76b42c15⟩:SQ _)
def g75 a:=(⟨_,pq 75 [.d (.str a)] 0x12bbc32ab6bd5345183341cd0546ad28496f02edee902fe11171f9f0a0b3463061e5fbd41c⟩:SQ _)
def g76 a:=(⟨_,pq 76 [.d (.str a)] 0x23001070adb9024459b1242d5582e59a2bac1d71b0d335a75b574edf7b5af08ee3e16f72335423796910b269450b624888899c34f2ea48378e60ef285934b83815e57a8a0fd77380833262a1556a0c⟩:SQ _)
def g35 a:=(⟨_,pq 35 [.d (.str a)] 0x42093a35271f088ced1a5e9647143a09cc0a2be8bf2e0a944d3676afe9ff81058ef5f5f8019845c6bca15ae3d0303ab6a52f988c20ba1e599108e54da6d8ca0e⟩:SQ _)
def g17 a b:=(⟨_,pq 17 [.d (.str a), .d (.int .i64 b)] 0x9198d1a12438a72ca961e7b339e1601d9a3149b6a0cb72958dcea4742d4ea44de9bcdf3c02bad67e106f57981039a8e7d030c53c4725e54e4daf5a6d3fc98c26475e6ecaf58a2e7808786a9⟩:SQ _)
def g68 a b:=(⟨_,pq 68 [.d (.str a), .d (.str b)] 0x165462247bf⟩:SQ _)
def g123 a b:=(⟨_,pq 123 [.d (.str a), .d (.str b)] 0x202f057e77591e6f95ba71e3⟩:SQ _)
def g130 a b:=(⟨_,pq 130 [.d (.str a), .d (.int .u8 b)] 0xb9b8f9ca4a6⟩:SQ _)
end
noncomputable section
open Go.Proofs
def g136 a:=(⟨_,pq 136 [.d (.int .i32 a)] 0x15157a8cce74232dc7⟩:SQ _)
def g138 a:=(⟨_,pq 138 [.d (.int .i32 a)] 0x15157a8ccd7afbdbec⟩:SQ _)
def g179 a:=(⟨_,pq 179 [.d (.int .i32 a)] 0x2a2af5199ac1ed619⟩:SQ _)
def g125 a:=(⟨_,pq 125 [.d (.str a)] 0x45c10471436366ffc3d8a68405dec5b58e531c84acd6504478364279818140df9267344fb29ed9533b56c2d5fda2e3c16e5cb9539c0e3f816e8b919c73b4d87e4d141c8086856a093502cf18a115d49677afe1a27380b80104a2e90837a43f38928cd0f720ac86a7069d210⟩:SQ _)
def u9j a:=(⟨_,pq 135 [.d (.str a), .fn 136 []] 0x754e590bbe33b391d9896d41e94cedec2affebc92cf7df09ac6ca76988dd2e3539bf574e0ec5d5dcb646ff14433fb11790c290aaed7bd5ec9ccf5acceaa89f310a0cff576c99760102cee767fa154c4fcb11⟩:SQ _)
def u9i a:=(⟨_,pq 135 [.d (.str a), .fn 138 []] 0x754e590bbe33b391d9896d41e94cedec2affebc92cf7df09ac6ca76988dd2e3539bf574e0ec5d5dcb646ff14433fb11790c290aaed7bd5ec9ccf5acceaa89f310a0cff576c99760102cee767fa154c4fcb15⟩:SQ _)
def g87 a:=(⟨_,pq 87 [.d (.str a)] 0x3512e6434e3278f17cb6f8f1696a0⟩:SQ _)
def g89 a:=(⟨_,pq 89 [.d (.str a)] 0x13d8e194069ad146⟩:SQ _)
def g211 a:=(⟨_,pq 211 [.d (.str a)] 0x11745172629808562e047877de74c65d3cb14365636ccc46310dcb43acc082d1⟩:SQ _)
def k7w a:=(⟨_,pq 171 [.d (.str a)] 0x50afd2dda816930f3d746a92620587ea7431e5⟩:SQ _)
def g128 a:=(⟨_,pq 128 [.d (.str a)] 0x2b5d4e34d83cf89ae064913c1b2816287b5641fe2b7dc⟩:SQ _)
def k7t a b:=(⟨_,pq 210 [.d (.str a), .d (.str b)] 0x11f5b7a6ce4eaaacd⟩:SQ _)
def k7r a b:=(⟨_,pq 246 [.d (.str a), .d (.str b)] 0x2dccf4dc25998f35b36ae6606d415ce6408ffce0d1804ac⟩:SQ _)
def g127 a b:=(⟨_,pq 127 [.d (.str a), .d (.str b)] 0x2084d39d9a0⟩:SQ _)
def g169 a b:=(⟨_,pq 169 [.d (.str a), .d (.str b)] 0xda46ed1c0f9d7116f69ae187b9e741133b17cd7c45f9f14⟩:SQ _)
def k7v a b:=(⟨_,pq 174 [.d (.str a), .d (.int .u8 b)] 0x145ced⟩:SQ _)
def g245 a b:=(⟨_,pq 245 [.d (.str a), .d (.str b)] 0x448e49c07e1a8b0561981157174116fef7e7a441a7d89e882452e080df089bf18dc8c13aa29591884⟩:SQ _)
def g170 a b:=(⟨_,pq 170 [.d (.str a), .d (.str b)] 0x32fc9beb3c487c36f⟩:SQ _)
def g209 a b c d:=(⟨_,pq 209 [.d (.str a), .d (.str b), .d (.int .i64 c), .d (.int .i64 d)] 0x2775ea1865b49b4c341a3c1979d6d6c41ce133d216bd9b614d0263ab9a541b3931d334180ca5054c404abdc59b312e5ed655f91a319cbe8b2fc39506c30140878e38549b48626c2ade3dabb8151d05614fc336003373394200be44344fef839e043e1ca6270e0315894f24b73ecf89d4d71e1e59a4132af8cf56784e0012160ea8523eccda7186e1cac9ec42f2c8017dbb8898eacde8469860474dabbf7a1f9a0e4830dcfa143c164510fbf4d56fbc197a39b38d22fa7c6fa619785a512ca3955fbc00d39536d15c92125647fc3c7539496c64a4c10c72716c17142f2cf⟩:SQ _)
end
noncomputable section
open Go.Proofs
def g198 a:=(⟨_,pq 198 [.d (.str a)] 0x8c580d6e286064f7abf711a475fed792074c2d4aea7721d2e38a225c1a6f75e2ebe70427a75682b2d4ca3890813d38a4bc5814195f1335d663b14ee9fdfeb51011da2bb3eea54b3d20f4b225540c0a89f607⟩:SQ _)
def g60 a:=(⟨_,pq 60 [.d (.str a)] 0x4d4ab2ae063c1fd561⟩:SQ _)
def g59 a:=(⟨_,pq 59 [.d (.str a)] 0xceb1a202512ae21f1d04010e3faa6b1⟩:SQ _)
def g110 a:=(⟨_,pq 110 [.d (.str a)] 0x4de4499ac196be1ffc3e291804c21585552⟩:SQ _)
def g160:=(⟨_,pq 160 [] 0x7d78cf0e7944c07f739f55d90af38870d5336e2f6cfe03949845b47119ff870b05a4ed47091bb26f675b86e193c50ccb2b1b5a7868b978b0f6a64c6228cccc416b70d9093af3d6a36ac85b2ce278c1a3cc62ee2d211f86750c20a204f2e⟩:SQ _)
def g238 a b:=(⟨_,pq 238 [.d (.str a), .d (.int .u8 b)] 0xebcec85fb54b27b2e24f4e61b644afa50017a6f2f42f54f24726b538f6ff0daa3730969edbdf0bf⟩:SQ _)
def g159 a b c:=(⟨_,pq 159 [.d (.int .u8 a), .d (.int .u8 b), .d (.int .u8 c)] 0x26627e0d525a11⟩:SQ _)
def w9q a b c:=(⟨_,pq 109 [.d (.str a), .d (.int .u8 b), .d (.int .u8 c)] 0x184baf06e5555f87da6ecd6dddb19b334abf2a93901628bff67a49e9dba0bdd943f85728288d665a71fc6c0dfbe169631005d6ff758d6958243208b7dace8cf67ba0b245990454bc0b2beb2c0843d985⟩:SQ _)
end
end Go.Vm
end
