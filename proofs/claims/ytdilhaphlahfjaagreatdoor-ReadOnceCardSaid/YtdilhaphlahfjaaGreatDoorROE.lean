/- Part ROE of the proof. What is proved by the whole: the statement that the claim names, with no condition. -/
import Derived.Test.YtdilhaphlahfjaaGreatDoorROD
import Derived.Shelf.Strings.Fields
import Derived.Shelf.Strconv.ParseIntPublic10
import Derived.Test.YtdilhaphlahfjaaGreatDoorChecked
set_option linter.all false
section
namespace Go.Proofs
open Go.Shelf
def Tryz.j1e:Go.Shelf.Ren:=⟨fun|174=>124|247=>161|245=>162|287=>188|279=>189|280=>190|281=>191|282=>192|321=>214|322=>215|316=>216|171=>218|205=>217|243=>237|246=>246|283=>255|284=>256|285=>257|286=>258|129=>265|317=>264|318=>266|319=>267|320=>268|337=>273|338=>274|n=>n,fun|9=>9|3=>3|2=>2|75=>45|85=>178|4=>4|167=>219|5=>5|53=>194|175=>220|46=>222|168=>223|37=>217|0=>0|210=>248|21=>21|127=>276|145=>279|143=>277|171=>288|173=>291|212=>298|51=>233|20=>20|213=>299|232=>305|233=>306|80=>117|n=>n,fun|15=>4|16=>5|17=>8|18=>9|19=>10|n=>n⟩
def Tryz.j1c:Go.Proofs.LaysC.n174 Tryz.prog Tryz.j1e:= {
 mixed:=by kernel_rfl
 f129:=Tryz.func265.trans (congrArg some (by kernel_rfl))
 f171:=Tryz.func218.trans (congrArg some (by kernel_rfl))
 f174:=Tryz.func124.trans (congrArg some (by kernel_rfl))
 f205:=Tryz.func217.trans (congrArg some (by kernel_rfl))
 f243:=Tryz.func237.trans (congrArg some (by kernel_rfl))
 f245:=Tryz.func162.trans (congrArg some (by kernel_rfl))
 f246:=Tryz.func246.trans (congrArg some (by kernel_rfl))
 f247:=Tryz.func161.trans (congrArg some (by kernel_rfl))
 f279:=Tryz.func189.trans (congrArg some (by kernel_rfl))
 f280:=Tryz.func190.trans (congrArg some (by kernel_rfl))
 f281:=Tryz.func191.trans (congrArg some (by kernel_rfl))
 f282:=Tryz.func192.trans (congrArg some (by kernel_rfl))
 f283:=Tryz.func255.trans (congrArg some (by kernel_rfl))
 f284:=Tryz.func256.trans (congrArg some (by kernel_rfl))
 f285:=Tryz.func257.trans (congrArg some (by kernel_rfl))
 f286:=Tryz.func258.trans (congrArg some (by kernel_rfl))
 f287:=Tryz.func188.trans (congrArg some (by kernel_rfl))
 f316:=Tryz.func216.trans (congrArg some (by kernel_rfl))
 f317:=Tryz.func264.trans (congrArg some (by kernel_rfl))
 f318:=Tryz.func266.trans (congrArg some (by kernel_rfl))
 f319:=Tryz.func267.trans (congrArg some (by kernel_rfl))
 f320:=Tryz.func268.trans (congrArg some (by kernel_rfl))
 f321:=Tryz.func214.trans (congrArg some (by kernel_rfl))
 f322:=Tryz.func215.trans (congrArg some (by kernel_rfl))
 f337:=Tryz.func273.trans (congrArg some (by kernel_rfl))
 f338:=Tryz.func274.trans (congrArg some (by kernel_rfl))
 t0:=Tryz.underlying0
 a0:=Tryz.isAgg0
 z0:=Tryz.sizeOf0
 v0:=Tryz.zeroValue0
 t2:=Tryz.underlying2
 a2:=Tryz.isAgg2
 z2:=Tryz.sizeOf2
 v2:=Tryz.zeroValue2
 t3:=Tryz.underlying3
 a3:=Tryz.isAgg3
 z3:=Tryz.sizeOf3
 v3:=Tryz.zeroValue3
 t4:=Tryz.underlying4
 a4:=Tryz.isAgg4
 z4:=Tryz.sizeOf4
 v4:=Tryz.zeroValue4
 t5:=Tryz.underlying5
 a5:=Tryz.isAgg5
 z5:=Tryz.sizeOf5
 v5:=Tryz.zeroValue5
 t9:=Tryz.underlying9
 a9:=Tryz.isAgg9
 z9:=Tryz.sizeOf9
 v9:=Tryz.zeroValue9
 t20:=Tryz.underlying20
 a20:=Tryz.isAgg20
 z20:=Tryz.sizeOf20
 v20:=Tryz.zeroValue20
 t21:=Tryz.underlying21
 a21:=Tryz.isAgg21
 z21:=Tryz.sizeOf21
 v21:=Tryz.zeroValue21
 t37:=Tryz.underlying217
 a37:=Tryz.isAgg217
 z37:=Tryz.sizeOf217
 v37:=Tryz.zeroValue217
 t46:=Tryz.underlying222
 a46:=Tryz.isAgg222
 z46:=Tryz.sizeOf222
 v46:=Tryz.zeroValue222
 t51:=Tryz.underlying233
 a51:=Tryz.isAgg233
 z51:=Tryz.sizeOf233
 v51:=Tryz.zeroValue233
 t53:=Tryz.underlying194
 a53:=Tryz.isAgg194
 z53:=Tryz.sizeOf194
 v53:=Tryz.zeroValue194
 t75:=Tryz.underlying45
 a75:=Tryz.isAgg45
 z75:=Tryz.sizeOf45
 v75:=Tryz.zeroValue45
 t85:=Tryz.underlying178
 a85:=Tryz.isAgg178
 z85:=Tryz.sizeOf178
 v85:=Tryz.zeroValue178
 t127:=Tryz.underlying276
 a127:=Tryz.isAgg276
 z127:=Tryz.sizeOf276
 v127:=Tryz.zeroValue276
 t143:=Tryz.underlying277
 a143:=Tryz.isAgg277
 z143:=Tryz.sizeOf277
 v143:=Tryz.zeroValue277
 t145:=Tryz.underlying279
 a145:=Tryz.isAgg279
 z145:=Tryz.sizeOf279
 v145:=Tryz.zeroValue279
 t167:=Tryz.underlying219
 a167:=Tryz.isAgg219
 z167:=Tryz.sizeOf219
 v167:=Tryz.zeroValue219
 t168:=Tryz.underlying223
 a168:=Tryz.isAgg223
 z168:=Tryz.sizeOf223
 v168:=Tryz.zeroValue223
 t171:=Tryz.underlying288
 a171:=Tryz.isAgg288
 z171:=Tryz.sizeOf288
 v171:=Tryz.zeroValue288
 t173:=Tryz.underlying291
 a173:=Tryz.isAgg291
 z173:=Tryz.sizeOf291
 v173:=Tryz.zeroValue291
 t175:=Tryz.underlying220
 a175:=Tryz.isAgg220
 z175:=Tryz.sizeOf220
 v175:=Tryz.zeroValue220
 t210:=Tryz.underlying248
 a210:=Tryz.isAgg248
 z210:=Tryz.sizeOf248
 v210:=Tryz.zeroValue248
 t212:=Tryz.underlying298
 a212:=Tryz.isAgg298
 z212:=Tryz.sizeOf298
 v212:=Tryz.zeroValue298
 t213:=Tryz.underlying299
 a213:=Tryz.isAgg299
 z213:=Tryz.sizeOf299
 t232:=Tryz.underlying305
 a232:=Tryz.isAgg305
 z232:=Tryz.sizeOf305
 v232:=Tryz.zeroValue305
 t233:=Tryz.underlying306
 a233:=Tryz.isAgg306
 z233:=Tryz.sizeOf306
 v233:=Tryz.zeroValue306
 g15:=by kernel_rfl
 g16:=by kernel_rfl
 g17:=by kernel_rfl
 g18:=by kernel_rfl
 g19:=by kernel_rfl
 t80:=Tryz.underlying117
 a80:=Tryz.isAgg117
 z80:=Tryz.sizeOf117
 v80:=Tryz.zeroValue117
 i0:=by kernel_rfl
 i2:=by kernel_rfl
 i3:=by kernel_rfl
 i4:=by kernel_rfl
 i5:=by kernel_rfl
 i9:=by kernel_rfl
 i20:=by kernel_rfl
 i21:=by kernel_rfl
 i37:=by kernel_rfl
 i46:=by kernel_rfl
 i51:=by kernel_rfl
 i53:=by kernel_rfl
 i75:=by kernel_rfl
 i80:=by kernel_rfl
 i85:=by kernel_rfl
 i127:=by kernel_rfl
 i143:=by kernel_rfl
 i145:=by kernel_rfl
 i167:=by kernel_rfl
 i168:=by kernel_rfl
 i171:=by kernel_rfl
 i173:=by kernel_rfl
 i175:=by kernel_rfl
 i210:=by kernel_rfl
 i212:=by kernel_rfl
 i232:=by kernel_rfl
 i233:=by kernel_rfl
 m15:=by kernel_rfl
 m16:=by kernel_rfl
 m17:=by kernel_rfl
 m18:=by kernel_rfl
 m19:=by kernel_rfl
 c0:=by kernel_rfl
 c2:=by kernel_rfl
 c3:=by kernel_rfl
 c4:=by kernel_rfl
 c5:=by kernel_rfl
 c9:=by kernel_rfl
 c20:=by kernel_rfl
 c21:=by kernel_rfl
 c37:=by kernel_rfl
 c46:=by kernel_rfl
 c51:=by kernel_rfl
 c53:=by kernel_rfl
 c75:=by kernel_rfl
 c80:=by kernel_rfl
 c85:=by kernel_rfl
 c127:=by kernel_rfl
 c143:=by kernel_rfl
 c145:=by kernel_rfl
 c167:=by kernel_rfl
 c168:=by kernel_rfl
 c171:=by kernel_rfl
 c173:=by kernel_rfl
 c175:=by kernel_rfl
 c210:=by kernel_rfl
 c212:=by kernel_rfl
 c213:=by kernel_rfl
 c232:=by kernel_rfl
 c233:=by kernel_rfl }
open Go.RowKit in
def Tryz.strconv_ParseInt_10_at64_ok (s:ByteArray)(hmax:s.size<=9223372036854775806)(v:Int)(h:Lib.parseIntB 64 s.data.toList= .ok v)(w:World):
  Calls Tryz.prog 124 #[.string s, .int .i64 10, .int .i64 64] w fun e w'=>e= .returned (.tuple #[.int .i64 v, .nilIface])/\(w'=w\/ ∃t,w'=Lib.bytesWorld w 5 t):=Any.strconv_ParseInt_10_at64_ok Tryz.j1c s hmax v h w
open Go.RowKit in
def Tryz.strconv_ParseInt_10_at64_range (s:ByteArray)(hlim:s.size<=281474976710656)(h:Lib.parseIntB 64 s.data.toList= .range)(ev:Value)(w:World)(hv:w.cell? ⟨5,0,none⟩=some ev)(hev:ev= .nilIface\/ ∃te pe,ev= .iface te pe):
  Calls Tryz.prog 124 #[.string s, .int .i64 10, .int .i64 64] w fun e w'=> ∃N,e= .returned (.tuple #[.int .i64 (Lib.intSat 64 s.data.toList), .iface 223 (.pointer (some ⟨N,0,none⟩))])/\w.heap.size<=N/\w'.heap[N]? =some (.cells #[.string ⟨#[80,97,114,115,101,73,110,116]⟩, .string s,ev] 248 (0,0))/\Below w.heap.size w w':=Any.strconv_ParseInt_10_at64_range Tryz.j1c s hlim h ev w hv hev
def Tryz.j1h:Go.Shelf.Ren:=⟨fun|157=>127|229=>166|199=>167|261=>199|311=>223|312=>224|n=>n,fun|9=>9|31=>64|3=>3|5=>5|4=>4|119=>203|0=>0|40=>188|152=>230|21=>21|154=>232|51=>233|141=>235|196=>256|193=>253|198=>259|49=>257|194=>254|201=>262|226=>282|46=>222|227=>283|n=>n,fun|0=>1|6=>3|n=>n⟩
def Tryz.j2h:Go.Proofs.Lays.n157 Tryz.prog Tryz.j1h:= {
 mixed:=by kernel_rfl
 f157:=Tryz.func127.trans (congrArg some (by kernel_rfl))
 f199:=Tryz.func167.trans (congrArg some (by kernel_rfl))
 f229:=Tryz.func166.trans (congrArg some (by kernel_rfl))
 f261:=Tryz.func199.trans (congrArg some (by kernel_rfl))
 f311:=Tryz.func223.trans (congrArg some (by kernel_rfl))
 f312:=Tryz.func224.trans (congrArg some (by kernel_rfl))
 t0:=Tryz.underlying0
 a0:=Tryz.isAgg0
 z0:=Tryz.sizeOf0
 v0:=Tryz.zeroValue0
 t3:=Tryz.underlying3
 a3:=Tryz.isAgg3
 z3:=Tryz.sizeOf3
 v3:=Tryz.zeroValue3
 t4:=Tryz.underlying4
 a4:=Tryz.isAgg4
 z4:=Tryz.sizeOf4
 v4:=Tryz.zeroValue4
 t5:=Tryz.underlying5
 a5:=Tryz.isAgg5
 z5:=Tryz.sizeOf5
 v5:=Tryz.zeroValue5
 t9:=Tryz.underlying9
 a9:=Tryz.isAgg9
 z9:=Tryz.sizeOf9
 v9:=Tryz.zeroValue9
 t21:=Tryz.underlying21
 a21:=Tryz.isAgg21
 z21:=Tryz.sizeOf21
 v21:=Tryz.zeroValue21
 t31:=Tryz.underlying64
 a31:=Tryz.isAgg64
 z31:=Tryz.sizeOf64
 v31:=Tryz.zeroValue64
 t40:=Tryz.underlying188
 a40:=Tryz.isAgg188
 z40:=Tryz.sizeOf188
 v40:=Tryz.zeroValue188
 t46:=Tryz.underlying222
 a46:=Tryz.isAgg222
 z46:=Tryz.sizeOf222
 v46:=Tryz.zeroValue222
 t49:=Tryz.underlying257
 a49:=Tryz.isAgg257
 z49:=Tryz.sizeOf257
 v49:=Tryz.zeroValue257
 t51:=Tryz.underlying233
 a51:=Tryz.isAgg233
 z51:=Tryz.sizeOf233
 v51:=Tryz.zeroValue233
 t119:=Tryz.underlying203
 a119:=Tryz.isAgg203
 z119:=Tryz.sizeOf203
 t141:=Tryz.underlying235
 a141:=Tryz.isAgg235
 z141:=Tryz.sizeOf235
 v141:=Tryz.zeroValue235
 t152:=Tryz.underlying230
 a152:=Tryz.isAgg230
 z152:=Tryz.sizeOf230
 v152:=Tryz.zeroValue230
 t154:=Tryz.underlying232
 a154:=Tryz.isAgg232
 z154:=Tryz.sizeOf232
 v154:=Tryz.zeroValue232
 t193:=Tryz.underlying253
 a193:=Tryz.isAgg253
 z193:=Tryz.sizeOf253
 v193:=Tryz.zeroValue253
 t194:=Tryz.underlying254
 a194:=Tryz.isAgg254
 z194:=Tryz.sizeOf254
 v194:=Tryz.zeroValue254
 t196:=Tryz.underlying256
 a196:=Tryz.isAgg256
 z196:=Tryz.sizeOf256
 v196:=Tryz.zeroValue256
 t198:=Tryz.underlying259
 a198:=Tryz.isAgg259
 z198:=Tryz.sizeOf259
 v198:=Tryz.zeroValue259
 t201:=Tryz.underlying262
 a201:=Tryz.isAgg262
 z201:=Tryz.sizeOf262
 v201:=Tryz.zeroValue262
 t226:=Tryz.underlying282
 a226:=Tryz.isAgg282
 z226:=Tryz.sizeOf282
 v226:=Tryz.zeroValue282
 t227:=Tryz.underlying283
 a227:=Tryz.isAgg283
 z227:=Tryz.sizeOf283
 v227:=Tryz.zeroValue283
 g0:=by kernel_rfl
 g6:=by kernel_rfl }
end Go.Proofs
end
section
namespace Go.Vm
open Go.Proofs Go.RowKit Go.Shelf
def q6q:List UInt8:=[58,61,32,45,62,32,60,61,32,62,61,32,60,62]
def v1k:LL:=[[.str (bs [58,61])],[.str (bs [45,62])],[.str (bs [60,61])],[.str (bs [62,61])],[.str (bs [60,62])]]
def w0a (s:BA):List D:=[.str s]
def x0c (l:List BA):LL:=l.map w0a
def knF:List V->Option PRes
 | [.d (.str s)]=>match decide (s.data.toList=q6q)with
   |true=>some (.val [.sl 1 v1k])
   |false=>none
 |_=>none
def knG:List V->Option PRes
 | [.nils, .d (.int .i64 n)]=>match decide (0<=n/\n<=1000000)with
   |true=>some (.own 127 6 [])
   |false=>none
 |_=>none
def knA:List V->Option PRes
 | [.d (.int .i64 0), .d (.int .i64 2), .ifo 51 b [.int .i64 a, .int .i64 w], .ifp 53 0 0, .fn 51 [.d (.int .i64 0), .d (.int .i64 0)]]=>some (match b with
   |true=> .val [.bool false, .int .i64 0, .int .i64 0]
   |false=> .val [.bool true, .int .i64 a, .int .i64 w])
 |_=>none
def kn:FuncId->List V->Option PRes:=fun f args=>match Nat.beq f 127 with
 |true=>knF args
 |false=>match Nat.beq f 174 with
  |true=>knG args
  |false=>match Nat.beq f 1000016 with
   |true=>knA args
   |false=>none
def v0h:Lib.fields q6q= [[58,61],[45,62],[60,61],[62,61],[60,62]]:=by decide+kernel
def v9y {Z:Nat->Nat->Prop}{w:World}(h:z1k Z w)(c:Nat)(hc:c < 256):w.cell? ⟨1,c,none⟩=some (.int .u8 (if Lib.isSp (UInt8.ofNat c)then 1 else 0)):=by
 have h1:=(h.2 (1,Lib.asciiSpaceTab.map fun n=>Value.int .u8 n) (by simp[gV]) c).2
 have h2:(Lib.asciiSpaceTab.map fun n=>Value.int .u8 n)[c]? =some (.int .u8 (Lib.asciiSpaceTab.getD c 0)):=by
  rw[a0m,a0i];have:c < Lib.asciiSpaceTab.length:=by rw[Lib.asciiSpaceTab_length];exact hc
  simp[this]
 have h1:=h1.trans h2
 rwa [Lib.asciiSpaceTab_at c hc]at h1
def u3p {w w':World}(h:Below w.heap.size w w'):Fr (fun _=>False) w w':=⟨h.os,h.tape,h.output,h.size,fun k hk _=>h.block k hk⟩
def w9c:KV Tryz.prog:=by
 intro s hs g w us hsim hu;obtain⟨h1,h2⟩:=hu
 match us,h1 with
 | [u0,u1,u2],_=>
   have e0:=x2i (h2 0 u0 _ rfl rfl);have e1:=x0k (h2 1 u1 _ rfl rfl);have e2:=x0k (h2 2 u2 _ rfl rfl);subst e0;subst e1;subst e2;have fin: ∀(v:Value) (n:Int) (b:Bool) (w':World),Below w.heap.size w w'->(∀(g':Gh),Rep w' g' v (.ifn b))-> ∃u g',Ending.returned (.tuple #[.int .i64 n,v])= .returned u/\Rep w' g' u (.tup [.d (.int .i64 n), .ifn b])/\Keep [] g [] w g' [] w':=by
    intro v n b w' hb hv;refine⟨_,g,rfl, .tup _ _ rfl fun i u c hu hc=> ?_,Keep.j2g hsim (u3p hb)⟩
    match i with
    |0=>simp at hu hc;subst hu;subst hc;exact .d (.int _ _)
    |1=>simp at hu hc;subst hu;subst hc;exact hv g
    |i+2=>simp at hc
   show Calls Tryz.prog 124 #[.string s, .int .i64 10, .int .i64 64] w _;unfold z7v w4s;cases hp:Lib.parseIntB 64 s.data.toList with
   |ok v=>
    refine(Tryz.strconv_ParseInt_10_at64_ok s (by omega) v hp w).mono ?_
    rintro e w' ⟨rfl,hw⟩
    refine fin _ _ _ _ ?_ fun _=> .ifn0
    rcases hw with rfl|⟨t,rfl⟩
    ·exact Below.refl _ _
    ·exact Lib.bytesWorld_below _ _ _
   |range=>
    obtain⟨_,te,pe,hc⟩:=hsim.tab.1 5 (by simp[gI])
    refine(Tryz.strconv_ParseInt_10_at64_range s (by omega) hp _ w hc (.inr ⟨_,_,rfl⟩)).mono ?_
    rintro e w' ⟨N,rfl,_,_,hb⟩
    exact fin _ _ _ _ hb fun _=> .ifn1 _ _
   |_=>
    obtain⟨_,te,pe,hc⟩:=hsim.tab.1 4 (by simp[gI])
    have q:Calls Tryz.prog 124 #[.string s, .int .i64 10, .int .i64 64] w fun e w'=> ∃N,e= .returned (.tuple #[.int .i64 (0), .iface 223 (.pointer (some ⟨N,0,none⟩))])/\w.heap.size<=N/\w'.heap[N]? =some (.cells #[.string ⟨#[80,97,114,115,101,73,110,116]⟩, .string s, .iface te pe] 248 (0,0))/\Below w.heap.size w w':=Any.strconv_ParseInt_10_at64_syntax Tryz.j1c s (by omega) hp _ w hc (.inr ⟨_,_,rfl⟩)
    refine q.mono ?_
    rintro e w' ⟨N,rfl,_,_,hb⟩
    exact fin _ _ _ _ hb fun _=> .ifn1 _ _
def u3r (s:BA)(hd:s.data.toList=q6q):u1k Tryz.prog 127 [.d (.str s)] (.val [.sl 1 v1k]):=by
 refine⟨[64],[.sl 1], .d (.sl 1 v1k),by kernel_rfl,by kernel_rfl,rfl,by kernel_rfl,fun g w us hsim hu=> ?_⟩
 obtain⟨h1,h2⟩:=hu
 match us,h1 with
 | [u0],_=>
   have e0:=x2i (h2 0 u0 _ rfl rfl);subst e0;have hsz:s.size=14:=by
    have:s.data.toList.length=q6q.length:=by rw[hd]
    simpa[q6q]using this
   have L:=Any.strings_Fields_core Tryz.j2h (by kernel_rfl) s w (by omega) (fun j b hb=>by
    rw[hd]at hb;have:=a0o hb;have hall: ∀b∈q6q,b.toNat < 128:=by decide
    exact hall b this) (fun c hc=>v9y hsim.tab c hc)
   refine L.mono ?_
   rintro e w' ⟨rfl,rfl⟩
   rw[hd,v0h];refine⟨_,_,rfl,?_,Keep.j2u hsim _ _⟩;have hcell: ∀(i:Nat) (v:Value),(([[58,61],[45,62],[60,61],[62,61],[60,62]]:List (List UInt8)).map fun l=>Value.string ⟨l.toArray⟩).toArray[i]? =some v->(w.alloc (.cells (([[58,61],[45,62],[60,61],[62,61],[60,62]]:List (List UInt8)).map fun l=>Value.string ⟨l.toArray⟩).toArray 9)).cell? ⟨w.heap.size,i,none⟩=some v:=by
    intro i v hv;simp only[World.cell?,World.alloc,a2c,if_true]
    simpa using hv
   refine .d (.sl _ 0 5 5 1 v1k (fun i j=> .string (match v1k[i]? with
    |some [.str s]=>s
    |_=>default)) rfl (a0p _) ?_ ?_ ?_ ?_)
   ·intro i r hr
    match i with
    |0|1|2|3|4=>simp[v1k]at hr;subst hr;rfl
    |i+5=>simp[v1k]at hr
   ·intro i r j c hr hc;exact .inr rfl
   ·intro i r j c hr hc
    match i,j with
    |0,0|1,0|2,0|3,0|4,0=>exact hcell _ _ rfl
    |0,j+1|1,j+1|2,j+1|3,j+1|4,j+1=>simp[v1k]at hr;subst hr;simp at hc
    |i+5,j=>simp[v1k]at hr
   ·intro i r j c hr hc
    match i,j with
    |0,0|1,0|2,0|3,0|4,0=>simp[v1k]at hr;subst hr;simp at hc;subst hc;exact .str _
    |0,j+1|1,j+1|2,j+1|3,j+1|4,j+1=>simp[v1k]at hr;subst hr;simp at hc
    |i+5,j=>simp[v1k]at hr
def v8p {k n:Nat}(h:n < k):Nat.beq k n=false:=by
 cases h2:Nat.beq k n with
 |false=>rfl
 |true=>have:=Nat.eq_of_beq_eq_true h2;omega
end Go.Vm
end
section
namespace Go.Vm
open Go.Proofs
noncomputable def cF (f:FuncId) (args:List V):Option PRes:=z2f Tryz.prog cs kn f args
noncomputable def eF:Env:=w5v (z2f Tryz.prog cs kn)
noncomputable def fT (A:Sy) (E:Env) (f:FuncId) (a:List V):Option PRes:=(k1e A Tryz.prog cs f a).run E
noncomputable def fB (A:Sy) (E:Env) (f:FuncId) (n:Nat) (a:List V) (h:List Box):Option PRes:=(q2e A Tryz.prog cs f n a h).run E
def z0m (f:FuncId)(args:List V):eF.call f args=cF f args:=rfl
def u3t {α:Type}(b:List D->Option (List D ⊕ α))(ds:List D):eF.lp b ds=x6n b ds:=rfl
def cOf {f:FuncId}{args:List V}{p:PRes}(hg:x4f Tryz.prog f=true)(hk:kn f args=none)(h:fT sy eF f args=some p):cF f args=some p:=u7q hg hk h
def cO {f:FuncId}{args:List V}{p:PRes}(hk:kn f args=none)(h:fT sy eF f args=some p)(hg:x4f Tryz.prog f=true:=by kernel_rfl):cF f args=some p:=cOf hg hk h
def cOfP {f:FuncId}{args:List V}{Q:PRes->Prop}(hg:x4f Tryz.prog f=true)(hk:kn f args=none)(h: ∃p,fT sy eF f args=some p/\Q p): ∃p,cF f args=some p/\Q p:=h.imp fun _ h=>⟨u7q hg hk h.1,h.2⟩
def x2r {p:Prop} [Decidable p] (h:p):decide p=true:=a0q h
def x1q {p:Prop} [Decidable p] (h: ¬p):decide p=false:=decide_eq_false h
def x0m {i n:Nat}(h:i < n):decide (0<=(i:Int)/\(i:Int) < (n:Int))=true:=a0q ⟨by omega,by omega⟩
def x0l {i n:Nat}(h:i < n):decide ((i:Int) < (n:Int))=true:=a0q (by omega)
def x0g (n:Nat):decide ((n:Int) < (n:Int))=false:=decide_eq_false (by omega)
def x0d {i n:Nat}(h:i < n)(hn:n<=1000000000000):IntKind.i64.wrap ((i:Int)+1)=(i:Int)+1:=x0v (by omega) (by omega)
def mixedOrders:Tryz.prog.follows .mixedOrders=true:=by kernel_rfl
end Go.Vm
end
section
set_option maxRecDepth 10000
namespace Go.Vm
def bs1 {α β:Type}(a:α)(f:α->Option β):(some a).bind f=f a:=rfl
def ct1 {α:Type}(a b:α):cond true a b=a:=rfl
def cf1 {α:Type}(a b:α):cond false a b=b:=rfl
def es1 {α:Type}(a:α):(a=a)=True:=eq_self a
def zB {β:Type}(A:Sy)(l:List D)(k:Nat)(f:Bool->Option β):Option β:=(opB (A.cell l k)).bind f
def zI {β:Type}(A:Sy)(l:List D)(k:Nat)(f:Int->Option β):Option β:=(opI (A.cell l k) .i64).bind f
def zS {β:Type}(A:Sy)(l:List D)(k:Nat)(f:ByteArray->Option β):Option β:=(opS (A.cell l k)).bind f
def zL {β:Type}(A:Sy)(l:List D)(k e:Nat)(f:LL->Option β):Option β:=(opL (A.cell l k) e).bind f
def zC {β:Type}(E:Env)(n:Nat)(l:List V)(f:PRes->Option β):Option β:=(E.call n l).bind f
def vB {β:Type}(b:Bool):Option (List D ⊕ β):=some (.inl [.bool b])
def vL (l:List D):Option PRes:=some (.val l)
def vR {β:Type}(l:List D):Option (β ⊕ PRes):=some (.inr (.val l))
def iL {β:Type}(l:List D):Option (List D ⊕ β):=some (.inl l)
def yB {β:Type}(A:Sy)(p:PRes)(k:Nat)(f:Bool->Option β):Option β:=(opB (A.cell p.leaves k)).bind f
def yI {β:Type}(A:Sy)(p:PRes)(k:Nat)(f:Int->Option β):Option β:=(opI (A.cell p.leaves k) .i64).bind f
def yS {β:Type}(A:Sy)(p:PRes)(k:Nat)(f:ByteArray->Option β):Option β:=(opS (A.cell p.leaves k)).bind f
def yL {β:Type}(A:Sy)(p:PRes)(k e:Nat)(f:LL->Option β):Option β:=(opL (A.cell p.leaves k) e).bind f
def iT {β:Type}(b:Bool)(x:Option β):Option β:=bif b then x else none
def nI (n:Int):D:= .int .i64 n
def zW (A:Sy)(n:Int):Int:=A.wrap .i64 n
def k8l {β:Type}(A:Sy)(l:List D)(k:Nat)(f:Bool->Option β):zB A l k f=(opB (A.cell l k)).bind f:=rfl
def k8j {β:Type}(A:Sy)(l:List D)(k:Nat)(f:Int->Option β):zI A l k f=(opI (A.cell l k) .i64).bind f:=rfl
def k8h {β:Type}(A:Sy)(l:List D)(k:Nat)(f:ByteArray->Option β):zS A l k f=(opS (A.cell l k)).bind f:=rfl
def k8i {β:Type}(A:Sy)(l:List D)(k e:Nat)(f:LL->Option β):zL A l k e f=(opL (A.cell l k) e).bind f:=rfl
def k8k {β:Type}(E:Env)(n:Nat)(l:List V)(f:PRes->Option β):zC E n l f=(E.call n l).bind f:=rfl
def k8u {β:Type}(b:Bool):(vB b:Option (List D ⊕ β))=some (.inl [.bool b]):=rfl
def k8t (l:List D):vL l=some (.val l):=rfl
def k8s {β:Type}(l:List D):(vR l:Option (β ⊕ PRes))=some (.inr (.val l)):=rfl
def k9e {β:Type}(l:List D):(iL l:Option (List D ⊕ β))=some (.inl l):=rfl
def k8q {β:Type}(A:Sy)(p:PRes)(k:Nat)(f:Bool->Option β):yB A p k f=(opB (A.cell p.leaves k)).bind f:=rfl
def k8p {β:Type}(A:Sy)(p:PRes)(k:Nat)(f:Int->Option β):yI A p k f=(opI (A.cell p.leaves k) .i64).bind f:=rfl
def k8n {β:Type}(A:Sy)(p:PRes)(k:Nat)(f:ByteArray->Option β):yS A p k f=(opS (A.cell p.leaves k)).bind f:=rfl
def k8o {β:Type}(A:Sy)(p:PRes)(k e:Nat)(f:LL->Option β):yL A p k e f=(opL (A.cell p.leaves k) e).bind f:=rfl
def k9d {β:Type}(b:Bool)(x:Option β):iT b x=bif b then x else none:=rfl
def k8w (n:Int):nI n= .int .i64 n:=rfl
def k8g (A:Sy)(n:Int):zW A n=A.wrap .i64 n:=rfl
def an {a b:Prop}(x:a)(y:b):a/\b:=⟨x,y⟩
def go1:type_of% (an @k8q (an @k8p (an @k8n (an @k8o (an @k9d (an @k8s (an @k9e (an @k8l (an @k8j (an @k8h (an @k8i (an @k8k (an @k8u (an @k8t (an @k8w (an @k8g (an @bs1 (an @ct1 (an @cf1 (an @es1 (an @v2g (an @w4m (an @w4b (an @w4d (an @w4h (an @v2o (an @w4g (an @u4w (an @w4l (an @w4k (an @v2r (an @v2n (an @v2m (an @z4j (an @y8a (an @u2a (an @w4f (an @w4c (an @z4k (an @u5a (an @u4v (an @v2l (an @v2i (an @v2q (an @u4z (an @w4j (an @u1z (an @u4x (an @v2k (an @u4y (an @w4e (an @v2h (an @v2p (an @w4i (an @u7d (an @u7c (an @u2i (an @u5t (an @v4g (an @w4w (an @v4h (an @y4y (an @z3i (an @u0n (an @u8e (an @u7l (an @u7k (an @z0m (an @u3t (an @Nat.zero_add (an @Bool.cond_false_right (an @Bool.cond_true_left (an @Bool.cond_false_left (an @Bool.cond_true_right (an @Bool.not_true (an @Bool.not_false (an @Bool.not_not (an @decide_true (an @decide_false (an @Bool.true_and (an @Bool.and_true (an @Bool.false_and (an @Bool.and_false (an @Bool.or_false (an @Bool.false_or (an @Bool.true_or (an @Bool.or_true (an @true_and (@and_true))))))))))))))))))))))))))))))))))))))))))))))))))))))))))))))))))))))))))))))))))))))))):=an @k8q (an @k8p (an @k8n (an @k8o (an @k9d (an @k8s (an @k9e (an @k8l (an @k8j (an @k8h (an @k8i (an @k8k (an @k8u (an @k8t (an @k8w (an @k8g (an @bs1 (an @ct1 (an @cf1 (an @es1 (an @v2g (an @w4m (an @w4b (an @w4d (an @w4h (an @v2o (an @w4g (an @u4w (an @w4l (an @w4k (an @v2r (an @v2n (an @v2m (an @z4j (an @y8a (an @u2a (an @w4f (an @w4c (an @z4k (an @u5a (an @u4v (an @v2l (an @v2i (an @v2q (an @u4z (an @w4j (an @u1z (an @u4x (an @v2k (an @u4y (an @w4e (an @v2h (an @v2p (an @w4i (an @u7d (an @u7c (an @u2i (an @u5t (an @v4g (an @w4w (an @v4h (an @y4y (an @z3i (an @u0n (an @u8e (an @u7l (an @u7k (an @z0m (an @u3t (an @Nat.zero_add (an @Bool.cond_false_right (an @Bool.cond_true_left (an @Bool.cond_false_left (an @Bool.cond_true_right (an @Bool.not_true (an @Bool.not_false (an @Bool.not_not (an @decide_true (an @decide_false (an @Bool.true_and (an @Bool.and_true (an @Bool.false_and (an @Bool.and_false (an @Bool.or_false (an @Bool.false_or (an @Bool.true_or (an @Bool.or_true (an @true_and (@and_true))))))))))))))))))))))))))))))))))))))))))))))))))))))))))))))))))))))))))))))))))))))))
end Go.Vm
end
section
namespace Go.Vm
section
variable {α β : Type}
def y8d {v:Option α}{f:α->Option β}{n:α}{p:β}(h:v=some n)(k:f n=some p):v.bind f=some p:=by rw[h];exact k
def z7j {X:Option (List D ⊕ α)}{K:List D->Option α}{ds:List D}{p:α}(h:X=some (.inl ds))(k:K ds=some p):x0u X K=some p:=by rw[h];exact k
def q7s {c:Bool}{a b:Option α}{p:α}(h:c=true)(k:a=some p):(bif c then a else b)=some p:=by rw[h];exact k
def q7t {c:Bool}{a b:Option α}{p:α}(h:c=false)(k:b=some p):(bif c then a else b)=some p:=by rw[h];exact k
def z7f {v:Option D}{k:IntKind}{n:Int}(h:v=some (.int k n)):opI v k=some n:=by rw[h];simp[opI]
def z7g {v:Option D}{n:Bool}(h:v=some (.bool n)):opB v=some n:=by rw[h];rfl
def z7e {v:Option D}{sz:Nat}{n:LL}(h:v=some (.sl sz n)):opL v sz=some n:=by rw[h];simp[opL]
noncomputable def lpK (b:List D->Option (List D ⊕ α)):List D ⊕ α->Option α
 | .inl ds=>eF.lp b ds
 | .inr a=>some a
def v2u {b:List D->Option (List D ⊕ α)}{ds:List D}{r:List D ⊕ α}{p:α}(h:b ds=some r)(k:lpK b r=some p):eF.lp b ds=some p:=by
 show x6n b ds=some p;rw[x9m,h];cases r with
 |inl d=>exact k
 |inr a=>exact k
def z7i {b:List D->Option (List D ⊕ α)}{ds:List D}{p:α}(k:eF.lp b ds=some p):lpK b (.inl ds)=some p:=k
def z7h {b:List D->Option (List D ⊕ α)}{a:α}:lpK b (.inr a)=some a:=rfl
def y8c {a:α}:some a=some a:=rfl
end
def kP (pn:Int)(l:LL)(i:Int):List V:=[.d (.int .i64 pn), .d (.int .i64 1), .ptr 0 0, .fn 266 [.d (.sl 4 l), .d (.int .i64 i)]]
def kS (pn:Int)(s:BA)(l:LL)(i:Int):List V:=[.d (.int .i64 pn), .d (.int .i64 2), .ptr 0 0, .d (.str s), .fn 266 [.d (.sl 4 l), .d (.int .i64 i)]]
def kO (a b:Int)(l:LL)(i:Int):List V:=[.d (.int .i64 0), .d (.int .i64 3), .ptr 0 0, .d (.int .i64 a), .d (.int .i64 b), .fn 266 [.d (.sl 4 l), .d (.int .i64 i)]]
def kN (w l:LL)(i:Int):List V:=[.d (.int .i64 285), .d (.int .i64 2), .ptr 0 0, .own 1, .fn 266 [.d (.sl 4 l), .d (.int .i64 i)], .tup [.d (.int .i64 9), .d (.sl 1 w)]]
def rP (l:LL)(i:Int)(b:Bool):List V:=[.d (.int .i64 0), .d (.int .i64 1), .ptr 0 0, .fn 61 [.d (.sl 4 l), .d (.int .i64 i), .d (.bool b)]]
def rS (s:BA)(l:LL)(i:Int)(b:Bool):List V:=[.d (.int .i64 0), .d (.int .i64 2), .ptr 0 0, .d (.str s), .fn 61 [.d (.sl 4 l), .d (.int .i64 i), .d (.bool b)]]
def rO (a w l:LL)(i:Int)(b:Bool):List V:=[.d (.int .i64 0), .d (.int .i64 3), .ptr 0 0, .own 1, .own 2, .fn 61 [.d (.sl 4 l), .d (.int .i64 i), .d (.bool b)], .tup [.d (.int .i64 3), .d (.sl 1 a)], .tup [.d (.int .i64 9), .d (.sl 1 w)]]
abbrev kE (a b:Int)(c:BA)(d:Int)(e f:LL):V:= .agg [.d (.int .i64 a), .d (.int .i64 b), .d (.str c), .d (.int .i64 d), .d (.sl 1 e), .d (.sl 6 f)]
noncomputable def u9c (f:Nat):RecI:=k5a Go.Proofs.Tryz.prog f
section
variable {α : Type} (A : Sy) (ds : List D) (j : Nat)
def oE (K:Int->Int->BA->Int->LL->LL->Option α):Option α:=
 (opI (A.cell ds j) .i64).bind fun a=>(opI (A.cell ds (j+1)) .i64).bind fun b=>(opS (A.cell ds (j+2))).bind fun c=>(opI (A.cell ds (j+3)) .i64).bind fun d=>(opL (A.cell ds (j+4)) 1).bind fun e=>(opL (A.cell ds (j+5)) 6).bind fun f=>K a b c d e f
def oP (K:LL->Int->Option α):Option α:=(opL (A.cell ds j) 4).bind fun a=>(opI (A.cell ds (j+1)) .i64).bind fun b=>K a b
def oR (K:LL->Int->Bool->Option α):Option α:=(opL (A.cell ds j) 4).bind fun a=>(opI (A.cell ds (j+1)) .i64).bind fun b=>(opB (A.cell ds (j+2))).bind fun c=>K a b c
def oT (K:Int->BA->Int->Int->Option α):Option α:=(opI (A.cell ds j) .i64).bind fun a=>(opS (A.cell ds (j+1))).bind fun b=>(opI (A.cell ds (j+2)) .i64).bind fun c=>(opI (A.cell ds (j+3)) .i64).bind fun d=>K a b c d
def oQ (K:Bool->Bool->Bool->Int->Int->Int->Option α):Option α:=(opB (A.cell ds j)).bind fun a=>(opB (A.cell ds (j+1))).bind fun b=>(opB (A.cell ds (j+2))).bind fun c=>(opI (A.cell ds (j+3)) .i64).bind fun d=>(opI (A.cell ds (j+4)) .i64).bind fun e=>(opI (A.cell ds (j+5)) .i64).bind fun f=>K a b c d e f
end
abbrev rbV (o:Nat)(l:LL)(i:Int)(b:Bool)(a w:Int):V:= .fn 47 [.d (.sl 4 l), .d (.int .i64 i), .own o, .ifo 51 b [.int .i64 a, .int .i64 w]]
abbrev enV (en:LL):V:= .tup [.d (.int .i64 66), .d (.sl 2 en)]
def kR (l:LL)(i:Int)(en:LL)(b:Bool)(a w:Int):List V:=[.d (.int .i64 0), .d (.int .i64 1), .ptr 0 0,rbV 1 l i b a w,enV en]
def kRS (s:BA)(l:LL)(i:Int)(en:LL)(b:Bool)(a w:Int):List V:=[.d (.int .i64 0), .d (.int .i64 2), .ptr 0 0, .d (.str s),rbV 1 l i b a w,enV en]
def kRI (k:Int)(l:LL)(i:Int)(en:LL)(b:Bool)(a w:Int):List V:=[.d (.int .i64 0), .d (.int .i64 2), .ptr 0 0, .d (.int .i64 k),rbV 1 l i b a w,enV en]
def kRB (k:Bool)(l:LL)(i:Int)(en:LL)(b:Bool)(a w:Int):List V:=[.d (.int .i64 0), .d (.int .i64 2), .ptr 0 0, .d (.bool k),rbV 1 l i b a w,enV en]
def kRF (p c:Int)(l:LL)(i:Int)(en:LL)(b:Bool)(a w:Int):List V:=[.d (.int .i64 0), .d (.int .i64 3), .ptr 0 0, .d (.int .i64 p), .d (.int .i64 c),rbV 1 l i b a w,enV en]
def kRN (ws l:LL)(i:Int)(en:LL)(b:Bool)(a w:Int):List V:=[.d (.int .i64 0), .d (.int .i64 2), .ptr 0 0, .own 1,rbV 2 l i b a w, .tup [.d (.int .i64 9), .d (.sl 1 ws)],enV en]
def qR (l:LL)(i:Int)(b:Bool)(en:LL)(e:Int):List V:= .d (.int .i64 0):: .d (.int .i64 1):: .ptr 0 0:: .fn 63 [.ptr 1 0, .own 2, .d (.int .i64 e)]:: .fn 61 [.d (.sl 4 l), .d (.int .i64 i), .d (.bool b)]::[enV en]
def qRB (k:Bool)(l:LL)(i:Int)(b:Bool)(en:LL)(e:Int):List V:= .d (.int .i64 0):: .d (.int .i64 2):: .ptr 0 0:: .d (.bool k):: .fn 63 [.ptr 1 0, .own 2, .d (.int .i64 e)]:: .fn 61 [.d (.sl 4 l), .d (.int .i64 i), .d (.bool b)]::[enV en]
def kAs (b:Bool)(a w:Int):List V:=[.d (.int .i64 0), .d (.int .i64 2), .ifo 51 b [.int .i64 a, .int .i64 w], .ifp 53 0 0, .fn 51 [.d (.int .i64 0), .d (.int .i64 0)]]
section
variable {α : Type} (A : Sy) (ds : List D) (j : Nat)
def oV (K:LL->Int->Bool->Int->Int->LL->Option α):Option α:=
 (opL (A.cell ds j) 4).bind fun l=>(opI (A.cell ds (j+1)) .i64).bind fun i=>(opB (A.cell ds (j+2))).bind fun b=>(opI (A.cell ds (j+3)) .i64).bind fun a=>(opI (A.cell ds (j+4)) .i64).bind fun w=>(opL (A.cell ds (j+5)) 2).bind fun en=>K l i b a w en
def oW (K:Int->LL->Int->Bool->LL->Option α):Option α:=
 (opI (A.cell ds j) .i64).bind fun e=>(opL (A.cell ds (j+1)) 4).bind fun l=>(opI (A.cell ds (j+2)) .i64).bind fun i=>(opB (A.cell ds (j+3))).bind fun b=>(opL (A.cell ds (j+4)) 2).bind fun en=>K e l i b en
def oD (K:BA->Int->Int->Int->BA->BA->Option α):Option α:=
 (opS (A.cell ds j)).bind fun n=>(opI (A.cell ds (j+1)) .i64).bind fun k=>(opI (A.cell ds (j+2)) .i64).bind fun e=>(opI (A.cell ds (j+3)) .i64).bind fun c=>(opS (A.cell ds (j+4))).bind fun o=>(opS (A.cell ds (j+5))).bind fun q=>K n k e c o q
end
end Go.Vm
end
section
set_option maxRecDepth 1000000
set_option maxHeartbeats 0
namespace Go.Vm
open Go.Proofs
noncomputable section
variable (A : Sy) (E : Env)
def b37 (A:Sy)(E:Env)(toks:LL)(at_:Int)(en_:LL)(b_:Bool)(a_ w_:Int)(s_:BA):Option PRes:=bif (A.bnot b_)then vL [.bool false, .sl 4 toks,nI at_, .bool b_,nI a_,nI w_, .sl 2 en_] else bif (A.ile (A.rlen toks) (zW A (A.add at_ 0)))then bif (A.bnot false)then vL [.bool false, .sl 4 toks,nI at_, .bool b_,nI a_,nI w_, .sl 2 en_] else vL [.bool true, .sl 4 toks,nI (zW A (A.add at_ 1)), .bool b_,nI a_,nI w_, .sl 2 en_] else iT (A.inr (zW A (A.add at_ 0)) (A.rlen toks)) <| zI A (A.row toks (zW A (A.add at_ 0))) 0 fun n1=>zS A (A.row toks (zW A (A.add at_ 0))) 1 fun s2=>zI A (A.row toks (zW A (A.add at_ 0))) 2 fun n3=>zI A (A.row toks (zW A (A.add at_ 0))) 3 fun n4=>x0u (bif (A.seq s2 s_)then bif (A.ieq n1 1)then vB true else vB (A.ieq n1 5) else vB false) fun ds5=>zB A ds5 0 fun b6=>bif (A.bnot b6)then vL [.bool false, .sl 4 toks,nI at_, .bool b_,nI a_,nI w_, .sl 2 en_] else vL [.bool true, .sl 4 toks,nI (zW A (A.add at_ 1)), .bool b_,nI a_,nI w_, .sl 2 en_]
def v8t (toks:LL)(at_:Int)(en_:LL)(b_:Bool)(a_ w_:Int)(s_:BA):fB A E 37 0 [.ptr 0 0, .d (.str s_)] [.cells (.ty 47) [.d (.sl 4 toks), .d (.int .i64 at_), .own 1, .ifo 51 b_ [.int .i64 a_, .int .i64 w_]], .arr 66 2 en_]=b37 A E toks at_ en_ b_ a_ w_ s_:=by kernel_rfl
def b42 (A:Sy)(E:Env)(toks:LL)(at_:Int)(en_:LL)(b_:Bool)(a_ w_ p_ c_:Int):Option PRes:=bif b_ then iT (A.inr p_ (A.rlen toks)) <| zI A (A.skip 3 (A.row toks p_)) 0 fun n1=>vL [.sl 4 toks,nI at_, .bool false,nI n1,nI c_, .sl 2 en_] else vL [.sl 4 toks,nI at_, .bool b_,nI a_,nI w_, .sl 2 en_]
def w6d (toks:LL)(at_:Int)(en_:LL)(b_:Bool)(a_ w_ p_ c_:Int):fB A E 42 0 [.ptr 0 0, .d (.int .i64 p_), .d (.int .i64 c_)] [.cells (.ty 47) [.d (.sl 4 toks), .d (.int .i64 at_), .own 1, .ifo 51 b_ [.int .i64 a_, .int .i64 w_]], .arr 66 2 en_]=b42 A E toks at_ en_ b_ a_ w_ p_ c_:=by kernel_rfl
def b86 (toks:LL)(at_:Int)(en_:LL)(b_:Bool)(a_ w_ k_:Int):Option PRes:=iT (A.inr at_ (A.rlen toks)) <| oT A (A.row toks at_) 0 fun n1 s2 n3 n4=>x0u (bif (A.bnot b_)then vB true else vB (A.bnot (A.ieq n1 k_))) fun ds5=>zB A ds5 0 fun b6=>x0u (bif b6 then vB true else bif (A.ieq k_ 1)then zC E 123 [.d (.str s2)] fun p7=>yB A p7 0 fun b9=>vB b9 else vB false) fun ds10=>zB A ds10 0 fun b11=>bif b11 then zC E 1000042 (kRF at_ 2 toks at_ en_ b_ a_ w_) fun p12=>oV A p12.leaves 0 fun l14 n15 b16 n17 n18 l19=>vL [nI 0, .str (bs []),nI 0,nI 0, .sl 4 l14,nI n15, .bool b16,nI n17,nI n18, .sl 2 l19] else vL [nI n1, .str s2,nI n3,nI n4, .sl 4 toks,nI (zW A (A.add at_ 1)), .bool b_,nI a_,nI w_, .sl 2 en_]
def v8s (toks:LL)(at_:Int)(en_:LL)(b_:Bool)(a_ w_ k_:Int):fB A E 86 0 [.ptr 0 0, .d (.int .i64 k_)] [.cells (.ty 47) [.d (.sl 4 toks), .d (.int .i64 at_), .own 1, .ifo 51 b_ [.int .i64 a_, .int .i64 w_]], .arr 66 2 en_]=b86 A E toks at_ en_ b_ a_ w_ k_:=by kernel_rfl
def b88 (toks:LL)(at_:Int)(en_:LL)(b_:Bool)(a_ w_ k_:Int):Option PRes:=zC E 1000086 (kRI k_ toks at_ en_ b_ a_ w_) fun p1=>oT A p1.leaves 0 fun n3 s4 n5 n6=>oV A p1.leaves 4 fun l7 n8 b9 n10 n11 l12=>E.lp (fun ds13=>zI A ds13 0 fun n14=>oV A ds13 1 fun l15 n16 b17 n18 n19 l20=>zL A ds13 7 1 fun l21=>zC E 1000037 (kRS (bs [44]) l15 n16 l20 b17 n18 n19) fun p22=>yB A p22 0 fun b24=>oV A p22.leaves 1 fun l25 n26 b27 n28 n29 l30=>bif b24 then zC E 1000086 (kRI n14 l25 n26 l30 b27 n28 n29) fun p31=>oT A p31.leaves 0 fun n33 s34 n35 n36=>oV A p31.leaves 4 fun l37 n38 b39 n40 n41 l42=>iT (A.fits l21 [[.str s34]] 16) <| iL [nI n14, .sl 4 l37,nI n38, .bool b39,nI n40,nI n41, .sl 2 l42, .sl 1 (A.rapp l21 [[.str s34]])] else some (.inr (.val [.sl 1 l21, .sl 4 l25,nI n26, .bool b27,nI n28,nI n29, .sl 2 l30]))) [nI k_, .sl 4 l7,nI n8, .bool b9,nI n10,nI n11, .sl 2 l12, .sl 1 [[.str s4]]]
def k2q (toks:LL)(at_:Int)(en_:LL)(b_:Bool)(a_ w_ k_:Int):fB A E 88 0 [.ptr 0 0, .d (.int .i64 k_)] [.cells (.ty 47) [.d (.sl 4 toks), .d (.int .i64 at_), .own 1, .ifo 51 b_ [.int .i64 a_, .int .i64 w_]], .arr 66 2 en_]=b88 A E toks at_ en_ b_ a_ w_ k_:=by kernel_rfl
def b38 (toks:LL)(at_:Int)(en_:LL)(b_:Bool)(a_ w_:Int):Option PRes:=zC E 1000086 (kRI 1 toks at_ en_ b_ a_ w_) fun p1=>oT A p1.leaves 0 fun n3 s4 n5 n6=>oV A p1.leaves 4 fun l7 n8 b9 n10 n11 l12=>zC E 1000087 (kRN [[.str (bs [123])]] l7 n8 l12 b9 n10 n11) fun p13=>oR A p13.leaves 0 fun l15 n16 b17=>yI A p13 3 fun n18=>yI A p13 4 fun n19=>yL A p13 5 1 fun l20=>yL A p13 6 2 fun l21=>zC E 1000088 (kRI 2 l15 n16 l21 b17 n18 n19) fun p22=>yL A p22 0 1 fun l24=>oV A p22.leaves 1 fun l25 n26 b27 n28 n29 l30=>zC E 1000087 (kRN [[.str (bs [125])],[.str (bs [59])]] l25 n26 l30 b27 n28 n29) fun p31=>oR A p31.leaves 0 fun l33 n34 b35=>yI A p31 3 fun n36=>yI A p31 4 fun n37=>yL A p31 5 1 fun l38=>yL A p31 6 2 fun l39=>vL [.str s4, .sl 1 l24, .sl 4 l33,nI n34, .bool b35,nI n36,nI n37, .sl 2 l39]
def k2t (toks:LL)(at_:Int)(en_:LL)(b_:Bool)(a_ w_:Int):fB A E 38 0 [.ptr 0 0] [.cells (.ty 47) [.d (.sl 4 toks), .d (.int .i64 at_), .own 1, .ifo 51 b_ [.int .i64 a_, .int .i64 w_]], .arr 66 2 en_]=b38 A E toks at_ en_ b_ a_ w_:=by kernel_rfl
def k4a (toks:LL)(at_:Int)(en_:LL)(b_:Bool)(a_ w_:Int):Option PRes:=zC E 1000037 (kRS (bs [105,110,116]) toks at_ en_ b_ a_ w_) fun p1=>yB A p1 0 fun b3=>oV A p1.leaves 1 fun l4 n5 b6 n7 n8 l9=>bif b3 then vL [nI 1,nI 0,nI 0, .sl 4 l4,nI n5, .bool b6,nI n7,nI n8, .sl 2 l9] else zC E 1000037 (kRS (bs [98,111,111,108]) l4 n5 l9 b6 n7 n8) fun p10=>yB A p10 0 fun b12=>oV A p10.leaves 1 fun l13 n14 b15 n16 n17 l18=>bif b12 then vL [nI 2,nI 0,nI 0, .sl 4 l13,nI n14, .bool b15,nI n16,nI n17, .sl 2 l18] else zC E 1000086 (kRI 1 l13 n14 l18 b15 n16 n17) fun p19=>oT A p19.leaves 0 fun n21 s22 n23 n24=>oV A p19.leaves 4 fun l25 n26 b27 n28 n29 l30=>E.lp (fun ds31=>zI A ds31 0 fun n32=>zI A ds31 1 fun n33=>oV A ds31 2 fun l34 n35 b36 n37 n38 l39=>zI A ds31 8 fun n40=>zI A ds31 9 fun n41=>zI A ds31 10 fun n42=>zS A ds31 11 fun s43=>bif (A.ilt n33 n32)then iT (A.inr n33 (A.rlen l39)) <| iT (A.inrn (A.nat n33) l39) <| zS A (A.rown l39 (A.nat n33)) 0 fun s44=>zL A (A.rown l39 (A.nat n33)) 1 1 fun l45=>bif (A.seq s44 s43)then bif (A.ilt n33 0)then zC E 1000042 (kRF n14 2 l34 n35 l39 b36 n37 n38) fun p46=>oV A p46.leaves 0 fun l48 n49 b50 n51 n52 l53=>some (.inr (.val [nI 0,nI 0,nI 0, .sl 4 l48,nI n49, .bool b50,nI n51,nI n52, .sl 2 l53])) else some (.inr (.val [nI 3,nI n33,nI 0, .sl 4 l34,nI n35, .bool b36,nI n37,nI n38, .sl 2 l39])) else iL [nI n32,nI (zW A (A.add n33 1)), .sl 4 l34,nI n35, .bool b36,nI n37,nI n38, .sl 2 l39,nI n40,nI n41,nI n42, .str s43] else bif (A.ilt (-1) 0)then zC E 1000042 (kRF n14 2 l34 n35 l39 b36 n37 n38) fun p54=>oV A p54.leaves 0 fun l56 n57 b58 n59 n60 l61=>some (.inr (.val [nI 0,nI 0,nI 0, .sl 4 l56,nI n57, .bool b58,nI n59,nI n60, .sl 2 l61])) else some (.inr (.val [nI 3,nI (-1),nI 0, .sl 4 l34,nI n35, .bool b36,nI n37,nI n38, .sl 2 l39]))) [nI (A.rlen l30),nI 0, .sl 4 l25,nI n26, .bool b27,nI n28,nI n29, .sl 2 l30,nI 0,nI 0,nI 0, .str s22]
def u4k (toks:LL)(at_:Int)(en_:LL)(b_:Bool)(a_ w_:Int):fB A E 201 0 [.ptr 0 0] [.cells (.ty 47) [.d (.sl 4 toks), .d (.int .i64 at_), .own 1, .ifo 51 b_ [.int .i64 a_, .int .i64 w_]], .arr 66 2 en_]=k4a A E toks at_ en_ b_ a_ w_:=by kernel_rfl
def k4b (A:Sy)(E:Env)(toks:LL)(at_:Int)(en_:LL)(b_:Bool)(a_ w_:Int):Option PRes:=(E.call 1000201 (kR toks at_ en_ b_ a_ w_)).bind fun p1=>(opI (A.cell p1.leaves 0) .i64).bind fun n3=>(opI (A.cell p1.leaves 1) .i64).bind fun n4=>(opI (A.cell p1.leaves 2) .i64).bind fun n5=>oV A p1.leaves 3 fun l6 n7 b8 n9 n10 l11=>(E.call 1000037 (kRS (bs [91]) l6 n7 l11 b8 n9 n10)).bind fun p12=>(opB (A.cell p12.leaves 0)).bind fun b14=>oV A p12.leaves 1 fun l15 n16 b17 n18 n19 l20=>bif (A.bnot b14)then some (.val [(.int .i64 n3),(.int .i64 n4),(.int .i64 n5),(.sl 4 l15),(.int .i64 n16),(.bool b17),(.int .i64 n18),(.int .i64 n19),(.sl 2 l20)]) else (E.call 1000086 (kRI 3 l15 n16 l20 b17 n18 n19)).bind fun p21=>oT A p21.leaves 0 fun n23 s24 n25 n26=>oV A p21.leaves 4 fun l27 n28 b29 n30 n31 l32=>x0u (bif (A.ilt n25 1)then some (.inl [(.bool true)]) else some (.inl [(.bool (A.ilt 8 n25))])) fun ds33=>(opB (A.cell ds33 0)).bind fun b34=>bif b34 then (E.call 1000042 (kRF n16 2 l27 n28 l32 b29 n30 n31)).bind fun p35=>oV A p35.leaves 0 fun l37 n38 b39 n40 n41 l42=>some (.val [(.int .i64 n3),(.int .i64 n4),(.int .i64 n5),(.sl 4 l37),(.int .i64 n38),(.bool b39),(.int .i64 n40),(.int .i64 n41),(.sl 2 l42)]) else (E.call 1000087 (kRN [[(.str (bs [93]))]] l27 n28 l32 b29 n30 n31)).bind fun p43=>oR A p43.leaves 0 fun l45 n46 b47=>(opI (A.cell p43.leaves 3) .i64).bind fun n48=>(opI (A.cell p43.leaves 4) .i64).bind fun n49=>(opL (A.cell p43.leaves 5) 1).bind fun l50=>(opL (A.cell p43.leaves 6) 2).bind fun l51=>some (.val [(.int .i64 n3),(.int .i64 n4),(.int .i64 n25),(.sl 4 l45),(.int .i64 n46),(.bool b47),(.int .i64 n48),(.int .i64 n49),(.sl 2 l51)])
def u4l (toks:LL)(at_:Int)(en_:LL)(b_:Bool)(a_ w_:Int):fB A E 169 0 [.ptr 0 0] [.cells (.ty 47) [.d (.sl 4 toks), .d (.int .i64 at_), .own 1, .ifo 51 b_ [.int .i64 a_, .int .i64 w_]], .arr 66 2 en_]=k4b A E toks at_ en_ b_ a_ w_:=by kernel_rfl
def k7r (toks:LL)(at_:Int)(en_:LL)(b_:Bool)(a_ w_:Int):Option PRes:=zC E 202 [.d (.sl 4 toks), .d (nI at_)] fun p1=>yS A p1 0 fun s3=>yS A p1 1 fun s4=>yI A p1 2 fun n5=>yB A p1 3 fun b6=>bif (A.bnot b6)then zC E 1000042 (kRF n5 2 toks at_ en_ b_ a_ w_) fun p7=>oV A p7.leaves 0 fun l9 n10 b11 n12 n13 l14=>vL [.str (bs []), .str (bs []), .sl 4 l9,nI n10, .bool b11,nI n12,nI n13, .sl 2 l14] else vL [.str s3, .str s4, .sl 4 toks,nI n5, .bool b_,nI a_,nI w_, .sl 2 en_]
def v8u (toks:LL)(at_:Int)(en_:LL)(b_:Bool)(a_ w_:Int):fB A E 170 0 [.ptr 0 0] [.cells (.ty 47) [.d (.sl 4 toks), .d (.int .i64 at_), .own 1, .ifo 51 b_ [.int .i64 a_, .int .i64 w_]], .arr 66 2 en_]=k7r A E toks at_ en_ b_ a_ w_:=by kernel_rfl
def k2u (A:Sy)(E:Env)(toks:LL)(at_:Int)(en_:LL)(b_:Bool)(a_ w_:Int):Option PRes:=(E.call 1000086 (kRI 1 toks at_ en_ b_ a_ w_)).bind fun p1=>oT A p1.leaves 0 fun n3 s4 n5 n6=>oV A p1.leaves 4 fun l7 n8 b9 n10 n11 l12=>(E.call 1000087 (kRN [[(.str (bs [58]))]] l7 n8 l12 b9 n10 n11)).bind fun p13=>oR A p13.leaves 0 fun l15 n16 b17=>(opI (A.cell p13.leaves 3) .i64).bind fun n18=>(opI (A.cell p13.leaves 4) .i64).bind fun n19=>(opL (A.cell p13.leaves 5) 1).bind fun l20=>(opL (A.cell p13.leaves 6) 2).bind fun l21=>(E.call 1000169 (kR l15 n16 l21 b17 n18 n19)).bind fun p22=>(opI (A.cell p22.leaves 0) .i64).bind fun n24=>(opI (A.cell p22.leaves 1) .i64).bind fun n25=>(opI (A.cell p22.leaves 2) .i64).bind fun n26=>oV A p22.leaves 3 fun l27 n28 b29 n30 n31 l32=>(E.call 1000037 (kRS (bs [119,104,101,110]) l27 n28 l32 b29 n30 n31)).bind fun p33=>(opB (A.cell p33.leaves 0)).bind fun b35=>oV A p33.leaves 1 fun l36 n37 b38 n39 n40 l41=>bif b35 then (E.call 1000170 (kR l36 n37 l41 b38 n39 n40)).bind fun p42=>(opS (A.cell p42.leaves 0)).bind fun s44=>(opS (A.cell p42.leaves 1)).bind fun s45=>oV A p42.leaves 2 fun l46 n47 b48 n49 n50 l51=>some (.val [(.str s4),(.int .i64 n24),(.int .i64 n25),(.int .i64 n26),(.str s44),(.str s45),(.sl 4 l46),(.int .i64 n47),(.bool b48),(.int .i64 n49),(.int .i64 n50),(.sl 2 l51)]) else some (.val [(.str s4),(.int .i64 n24),(.int .i64 n25),(.int .i64 n26),(.str (bs [])),(.str (bs [])),(.sl 4 l36),(.int .i64 n37),(.bool b38),(.int .i64 n39),(.int .i64 n40),(.sl 2 l41)])
def v8v (toks:LL)(at_:Int)(en_:LL)(b_:Bool)(a_ w_:Int):fB A E 129 0 [.ptr 0 0] [.cells (.ty 47) [.d (.sl 4 toks), .d (.int .i64 at_), .own 1, .ifo 51 b_ [.int .i64 a_, .int .i64 w_]], .arr 66 2 en_]=k2u A E toks at_ en_ b_ a_ w_:=by kernel_rfl
def b89 (A:Sy)(E:Env)(toks:LL)(at_:Int)(en_:LL)(b_:Bool)(a_ w_:Int)(f_:Bool):Option PRes:=(E.call 1000129 (kR toks at_ en_ b_ a_ w_)).bind fun p1=>oD A p1.leaves 0 fun s3 n4 n5 n6 s7 s8=>oV A p1.leaves 6 fun l9 n10 b11 n12 n13 l14=>E.lp (fun ds15=>(opB (A.cell ds15 0)).bind fun b16=>oV A ds15 1 fun l17 n18 b19 n20 n21 l22=>(opL (A.cell ds15 7) 6).bind fun l23=>bif b19 then bif (A.ile (A.rlen l17) (A.wrap .i64 (A.add n18 0)))then some (.inr (.val [(.sl 6 l23),(.sl 4 l17),(.int .i64 n18),(.bool b19),(.int .i64 n20),(.int .i64 n21),(.sl 2 l22)])) else bif (A.inr (A.wrap .i64 (A.add n18 0)) (A.rlen l17))then (opI (A.cell (A.row l17 (A.wrap .i64 (A.add n18 0))) 0) .i64).bind fun n24=>(opS (A.cell (A.row l17 (A.wrap .i64 (A.add n18 0))) 1)).bind fun s25=>(opI (A.cell (A.row l17 (A.wrap .i64 (A.add n18 0))) 2) .i64).bind fun n26=>(opI (A.cell (A.row l17 (A.wrap .i64 (A.add n18 0))) 3) .i64).bind fun n27=>x0u (bif (A.seq s25 (bs [59]))then bif (A.ieq n24 1)then some (.inl [(.bool true)]) else some (.inl [(.bool (A.ieq n24 5))]) else some (.inl [(.bool false)])) fun ds28=>(opB (A.cell ds28 0)).bind fun b29=>bif b29 then bif b16 then bif (A.ile (A.rlen l17) (A.wrap .i64 (A.add n18 1)))then bif (A.bnot false)then (E.call 1000087 (kRN [[(.str (bs [59]))]] l17 n18 l22 b19 n20 n21)).bind fun p30=>oR A p30.leaves 0 fun l32 n33 b34=>(opI (A.cell p30.leaves 3) .i64).bind fun n35=>(opI (A.cell p30.leaves 4) .i64).bind fun n36=>(opL (A.cell p30.leaves 5) 1).bind fun l37=>(opL (A.cell p30.leaves 6) 2).bind fun l38=>(E.call 1000129 (kR l32 n33 l38 b34 n35 n36)).bind fun p39=>oD A p39.leaves 0 fun s41 n42 n43 n44 s45 s46=>oV A p39.leaves 6 fun l47 n48 b49 n50 n51 l52=>bif (A.fits l23 [[(.str s41),(.int .i64 n42),(.int .i64 n43),(.int .i64 n44),(.str s45),(.str s46)]] 72)then some (.inl [(.bool b16),(.sl 4 l47),(.int .i64 n48),(.bool b49),(.int .i64 n50),(.int .i64 n51),(.sl 2 l52),(.sl 6 (A.rapp l23 [[(.str s41),(.int .i64 n42),(.int .i64 n43),(.int .i64 n44),(.str s45),(.str s46)]]))]) else none else some (.inr (.val [(.sl 6 l23),(.sl 4 l17),(.int .i64 n18),(.bool b19),(.int .i64 n20),(.int .i64 n21),(.sl 2 l22)])) else bif (A.inr (A.wrap .i64 (A.add n18 1)) (A.rlen l17))then (opI (A.cell (A.row l17 (A.wrap .i64 (A.add n18 1))) 0) .i64).bind fun n53=>(opS (A.cell (A.row l17 (A.wrap .i64 (A.add n18 1))) 1)).bind fun s54=>(opI (A.cell (A.row l17 (A.wrap .i64 (A.add n18 1))) 2) .i64).bind fun n55=>(opI (A.cell (A.row l17 (A.wrap .i64 (A.add n18 1))) 3) .i64).bind fun n56=>x0u (bif (A.seq s54 (bs [108,101,116]))then bif (A.ieq n53 1)then some (.inl [(.bool true)]) else some (.inl [(.bool (A.ieq n53 5))]) else some (.inl [(.bool false)])) fun ds57=>(opB (A.cell ds57 0)).bind fun b58=>bif (A.bnot b58)then (E.call 1000087 (kRN [[(.str (bs [59]))]] l17 n18 l22 b19 n20 n21)).bind fun p59=>oR A p59.leaves 0 fun l61 n62 b63=>(opI (A.cell p59.leaves 3) .i64).bind fun n64=>(opI (A.cell p59.leaves 4) .i64).bind fun n65=>(opL (A.cell p59.leaves 5) 1).bind fun l66=>(opL (A.cell p59.leaves 6) 2).bind fun l67=>(E.call 1000129 (kR l61 n62 l67 b63 n64 n65)).bind fun p68=>oD A p68.leaves 0 fun s70 n71 n72 n73 s74 s75=>oV A p68.leaves 6 fun l76 n77 b78 n79 n80 l81=>bif (A.fits l23 [[(.str s70),(.int .i64 n71),(.int .i64 n72),(.int .i64 n73),(.str s74),(.str s75)]] 72)then some (.inl [(.bool b16),(.sl 4 l76),(.int .i64 n77),(.bool b78),(.int .i64 n79),(.int .i64 n80),(.sl 2 l81),(.sl 6 (A.rapp l23 [[(.str s70),(.int .i64 n71),(.int .i64 n72),(.int .i64 n73),(.str s74),(.str s75)]]))]) else none else some (.inr (.val [(.sl 6 l23),(.sl 4 l17),(.int .i64 n18),(.bool b19),(.int .i64 n20),(.int .i64 n21),(.sl 2 l22)])) else none else bif (A.bnot false)then (E.call 1000087 (kRN [[(.str (bs [59]))]] l17 n18 l22 b19 n20 n21)).bind fun p82=>oR A p82.leaves 0 fun l84 n85 b86=>(opI (A.cell p82.leaves 3) .i64).bind fun n87=>(opI (A.cell p82.leaves 4) .i64).bind fun n88=>(opL (A.cell p82.leaves 5) 1).bind fun l89=>(opL (A.cell p82.leaves 6) 2).bind fun l90=>(E.call 1000129 (kR l84 n85 l90 b86 n87 n88)).bind fun p91=>
 oD A p91.leaves 0 fun s93 n94 n95 n96 s97 s98=>oV A p91.leaves 6 fun l99 n100 b101 n102 n103 l104=>bif (A.fits l23 [[(.str s93),(.int .i64 n94),(.int .i64 n95),(.int .i64 n96),(.str s97),(.str s98)]] 72)then some (.inl [(.bool b16),(.sl 4 l99),(.int .i64 n100),(.bool b101),(.int .i64 n102),(.int .i64 n103),(.sl 2 l104),(.sl 6 (A.rapp l23 [[(.str s93),(.int .i64 n94),(.int .i64 n95),(.int .i64 n96),(.str s97),(.str s98)]]))]) else none else some (.inr (.val [(.sl 6 l23),(.sl 4 l17),(.int .i64 n18),(.bool b19),(.int .i64 n20),(.int .i64 n21),(.sl 2 l22)])) else some (.inr (.val [(.sl 6 l23),(.sl 4 l17),(.int .i64 n18),(.bool b19),(.int .i64 n20),(.int .i64 n21),(.sl 2 l22)])) else none else some (.inr (.val [(.sl 6 l23),(.sl 4 l17),(.int .i64 n18),(.bool b19),(.int .i64 n20),(.int .i64 n21),(.sl 2 l22)]))) [(.bool f_),(.sl 4 l9),(.int .i64 n10),(.bool b11),(.int .i64 n12),(.int .i64 n13),(.sl 2 l14),(.sl 6 [[(.str s3),(.int .i64 n4),(.int .i64 n5),(.int .i64 n6),(.str s7),(.str s8)]])]
def k2p (toks:LL)(at_:Int)(en_:LL)(b_:Bool)(a_ w_:Int)(f_:Bool):fB A E 89 0 [.ptr 0 0, .d (.bool f_)] [.cells (.ty 47) [.d (.sl 4 toks), .d (.int .i64 at_), .own 1, .ifo 51 b_ [.int .i64 a_, .int .i64 w_]], .arr 66 2 en_]=b89 A E toks at_ en_ b_ a_ w_ f_:=by kernel_rfl
def q7b (A:Sy)(E:Env)(toks:LL)(at_:Int)(en_:LL)(b_:Bool)(a_ w_:Int):Option PRes:=bif (A.bnot b_)then some (.val [(.int .i64 0),(.int .i64 0),(.str (bs [])),(.int .i64 0),(.sl 1 []),(.sl 6 []),(.sl 4 toks),(.int .i64 at_),(.bool b_),(.int .i64 a_),(.int .i64 w_),(.sl 2 en_)]) else (E.call 171 [(.d (.sl 4 toks)),(.d (.int .i64 at_))]).bind fun p1=>oE A p1.leaves 0 fun n3 n4 s5 n6 l7 l8=>(opI (A.cell p1.leaves 6) .i64).bind fun n9=>(opI (A.cell p1.leaves 7) .i64).bind fun n10=>bif (A.bnot (A.ieq n10 0))then (E.call 1000042 (kRF n9 n10 toks at_ en_ b_ a_ w_)).bind fun p11=>oV A p11.leaves 0 fun l13 n14 b15 n16 n17 l18=>some (.val [(.int .i64 0),(.int .i64 0),(.str (bs [])),(.int .i64 0),(.sl 1 []),(.sl 6 []),(.sl 4 l13),(.int .i64 n14),(.bool b15),(.int .i64 n16),(.int .i64 n17),(.sl 2 l18)]) else some (.val [(.int .i64 n3),(.int .i64 n4),(.str s5),(.int .i64 n6),(.sl 1 l7),(.sl 6 l8),(.sl 4 toks),(.int .i64 n9),(.bool b_),(.int .i64 a_),(.int .i64 w_),(.sl 2 en_)])
def u4m (toks:LL)(at_:Int)(en_:LL)(b_:Bool)(a_ w_:Int):fB A E 130 0 [.ptr 0 0] [.cells (.ty 47) [.d (.sl 4 toks), .d (.int .i64 at_), .own 1, .ifo 51 b_ [.int .i64 a_, .int .i64 w_]], .arr 66 2 en_]=q7b A E toks at_ en_ b_ a_ w_:=by kernel_rfl
def b90 (A:Sy)(E:Env)(toks:LL)(at_:Int)(en_:LL)(b_:Bool)(a_ w_:Int):Option PRes:=(E.call 1000088 (kRI 1 toks at_ en_ b_ a_ w_)).bind fun p1=>(opL (A.cell p1.leaves 0) 1).bind fun l3=>oV A p1.leaves 1 fun l4 n5 b6 n7 n8 l9=>(E.call 1000087 (kRN [[(.str (bs [61]))]] l4 n5 l9 b6 n7 n8)).bind fun p10=>oR A p10.leaves 0 fun l12 n13 b14=>(opI (A.cell p10.leaves 3) .i64).bind fun n15=>(opI (A.cell p10.leaves 4) .i64).bind fun n16=>(opL (A.cell p10.leaves 5) 1).bind fun l17=>(opL (A.cell p10.leaves 6) 2).bind fun l18=>(E.call 1000130 (kR l12 n13 l18 b14 n15 n16)).bind fun p19=>oE A p19.leaves 0 fun n21 n22 s23 n24 l25 l26=>oV A p19.leaves 6 fun l27 n28 b29 n30 n31 l32=>(E.call 1000087 (kRN [[(.str (bs [59]))]] l27 n28 l32 b29 n30 n31)).bind fun p33=>oR A p33.leaves 0 fun l35 n36 b37=>(opI (A.cell p33.leaves 3) .i64).bind fun n38=>(opI (A.cell p33.leaves 4) .i64).bind fun n39=>(opL (A.cell p33.leaves 5) 1).bind fun l40=>(opL (A.cell p33.leaves 6) 2).bind fun l41=>some (.val [(.sl 1 l3),(.int .i64 n21),(.int .i64 n22),(.str s23),(.int .i64 n24),(.sl 1 l25),(.sl 6 l26),(.sl 4 l35),(.int .i64 n36),(.bool b37),(.int .i64 n38),(.int .i64 n39),(.sl 2 l41)])
def k2o (toks:LL)(at_:Int)(en_:LL)(b_:Bool)(a_ w_:Int):fB A E 90 0 [.ptr 0 0] [.cells (.ty 47) [.d (.sl 4 toks), .d (.int .i64 at_), .own 1, .ifo 51 b_ [.int .i64 a_, .int .i64 w_]], .arr 66 2 en_]=b90 A E toks at_ en_ b_ a_ w_:=by kernel_rfl
def b39 (A:Sy)(E:Env)(toks:LL)(at_:Int)(en_:LL)(b_:Bool)(a_ w_:Int):Option PRes:=(E.call 1000086 (kRI 1 toks at_ en_ b_ a_ w_)).bind fun p1=>oT A p1.leaves 0 fun n3 s4 n5 n6=>oV A p1.leaves 4 fun l7 n8 b9 n10 n11 l12=>(E.call 1000087 (kRN [[(.str (bs [40]))]] l7 n8 l12 b9 n10 n11)).bind fun p13=>oR A p13.leaves 0 fun l15 n16 b17=>(opI (A.cell p13.leaves 3) .i64).bind fun n18=>(opI (A.cell p13.leaves 4) .i64).bind fun n19=>(opL (A.cell p13.leaves 5) 1).bind fun l20=>(opL (A.cell p13.leaves 6) 2).bind fun l21=>x0u ((E.call 1000037 (kRS (bs [41]) l15 n16 l21 b17 n18 n19)).bind fun p22=>(opB (A.cell p22.leaves 0)).bind fun b24=>oV A p22.leaves 1 fun l25 n26 b27 n28 n29 l30=>bif (A.bnot b24)then (E.call 1000089 (kRB false l25 n26 l30 b27 n28 n29)).bind fun p31=>(opL (A.cell p31.leaves 0) 6).bind fun l33=>oV A p31.leaves 1 fun l34 n35 b36 n37 n38 l39=>(E.call 1000087 (kRN [[(.str (bs [41]))]] l34 n35 l39 b36 n37 n38)).bind fun p40=>oR A p40.leaves 0 fun l42 n43 b44=>(opI (A.cell p40.leaves 3) .i64).bind fun n45=>(opI (A.cell p40.leaves 4) .i64).bind fun n46=>(opL (A.cell p40.leaves 5) 1).bind fun l47=>(opL (A.cell p40.leaves 6) 2).bind fun l48=>some (.inl [(.sl 4 l42),(.int .i64 n43),(.bool b44),(.int .i64 n45),(.int .i64 n46),(.sl 2 l48),(.str (bs [])),(.str s4),(.sl 6 l33)]) else some (.inl [(.sl 4 l25),(.int .i64 n26),(.bool b27),(.int .i64 n28),(.int .i64 n29),(.sl 2 l30),(.str (bs [])),(.str s4),(.sl 6 [])])) fun ds49=>oV A ds49 0 fun l50 n51 b52 n53 n54 l55=>(opS (A.cell ds49 6)).bind fun s56=>(opS (A.cell ds49 7)).bind fun s57=>(opL (A.cell ds49 8) 6).bind fun l58=>(E.call 1000087 (kRN [[(.str (bs [114,101,116,117,114,110,115]))],[(.str (bs [40]))]] l50 n51 l55 b52 n53 n54)).bind fun p59=>oR A p59.leaves 0 fun l61 n62 b63=>(opI (A.cell p59.leaves 3) .i64).bind fun n64=>(opI (A.cell p59.leaves 4) .i64).bind fun n65=>(opL (A.cell p59.leaves 5) 1).bind fun l66=>(opL (A.cell p59.leaves 6) 2).bind fun l67=>(E.call 1000089 (kRB false l61 n62 l67 b63 n64 n65)).bind fun p68=>(opL (A.cell p68.leaves 0) 6).bind fun l70=>oV A p68.leaves 1 fun l71 n72 b73 n74 n75 l76=>(E.call 1000087 (kRN [[(.str (bs [41]))]] l71 n72 l76 b73 n74 n75)).bind fun p77=>oR A p77.leaves 0 fun l79 n80 b81=>(opI (A.cell p77.leaves 3) .i64).bind fun n82=>(opI (A.cell p77.leaves 4) .i64).bind fun n83=>(opL (A.cell p77.leaves 5) 1).bind fun l84=>(opL (A.cell p77.leaves 6) 2).bind fun l85=>x0u ((E.call 1000037 (kRS (bs [118,97,114]) l79 n80 l85 b81 n82 n83)).bind fun p86=>(opB (A.cell p86.leaves 0)).bind fun b88=>oV A p86.leaves 1 fun l89 n90 b91 n92 n93 l94=>bif b88 then (E.call 1000089 (kRB true l89 n90 l94 b91 n92 n93)).bind fun p95=>(opL (A.cell p95.leaves 0) 6).bind fun l97=>oV A p95.leaves 1 fun l98 n99 b100 n101 n102 l103=>(E.call 1000087 (kRN [[(.str (bs [59]))]] l98 n99 l103 b100 n101 n102)).bind fun p104=>oR A p104.leaves 0 fun l106 n107 b108=>(opI (A.cell p104.leaves 3) .i64).bind fun n109=>(opI (A.cell p104.leaves 4) .i64).bind fun n110=>(opL (A.cell p104.leaves 5) 1).bind fun l111=>(opL (A.cell p104.leaves 6) 2).bind fun l112=>some (.inl [(.sl 4 l106),(.int .i64 n107),(.bool b108),(.int .i64 n109),(.int .i64 n110),(.sl 2 l112),(.str s56),(.str s57),(.sl 6 l58),(.sl 6 l70),(.sl 6 l97)]) else some (.inl [(.sl 4 l89),(.int .i64 n90),(.bool b91),(.int .i64 n92),(.int .i64 n93),(.sl 2 l94),(.str s56),(.str s57),(.sl 6 l58),(.sl 6 l70),(.sl 6 [])])) fun ds113=>oV A ds113 0 fun l114 n115 b116 n117 n118 l119=>(opS (A.cell ds113 6)).bind fun s120=>(opS (A.cell ds113 7)).bind fun s121=>(opL (A.cell ds113 8) 6).bind fun l122=>(opL (A.cell ds113 9) 6).bind fun l123=>(opL (A.cell ds113 10) 6).bind fun l124=>(E.call 1000087 (kRN [[(.str (bs [108,101,116]))]] l114 n115 l119 b116 n117 n118)).bind fun p125=>oR A p125.leaves 0 fun l127 n128 k2u=>(opI (A.cell p125.leaves 3) .i64).bind fun n130=>(opI (A.cell p125.leaves 4) .i64).bind fun n131=>(opL (A.cell p125.leaves 5) 1).bind fun l132=>(opL (A.cell p125.leaves 6) 2).bind fun l133=>E.lp (fun ds134=>oV A ds134 0 fun l135 n136 b137 n138 n139 l140=>
 (opS (A.cell ds134 6)).bind fun s141=>(opS (A.cell ds134 7)).bind fun s142=>(opL (A.cell ds134 8) 6).bind fun l143=>(opL (A.cell ds134 9) 6).bind fun l144=>(opL (A.cell ds134 10) 6).bind fun l145=>(opL (A.cell ds134 11) 7).bind fun l146=>bif b137 then (E.call 1000037 (kRS (bs [116,101,108]) l135 n136 l140 b137 n138 n139)).bind fun p147=>(opB (A.cell p147.leaves 0)).bind fun b149=>oV A p147.leaves 1 fun l150 n151 b152 n153 n154 l155=>bif (A.bnot b149)then (E.call 1000090 (kR l150 n151 l155 b152 n153 n154)).bind fun p156=>(opL (A.cell p156.leaves 0) 1).bind fun l158=>oE A p156.leaves 1 fun n159 n160 s161 n162 l163 l164=>oV A p156.leaves 7 fun l165 n166 b167 n168 n169 l170=>bif (A.fits l146 [[(.sl 1 l158),(.int .i64 n159),(.int .i64 n160),(.str s161),(.int .i64 n162),(.sl 1 l163),(.sl 6 l164)]] 112)then some (.inl [(.sl 4 l165),(.int .i64 n166),(.bool b167),(.int .i64 n168),(.int .i64 n169),(.sl 2 l170),(.str s141),(.str s142),(.sl 6 l143),(.sl 6 l144),(.sl 6 l145),(.sl 7 (A.rapp l146 [[(.sl 1 l158),(.int .i64 n159),(.int .i64 n160),(.str s161),(.int .i64 n162),(.sl 1 l163),(.sl 6 l164)]]))]) else none else some (.inr (.val [(.str s142),(.sl 6 l143),(.sl 6 l144),(.sl 6 l145),(.sl 7 l146),(.sl 4 l150),(.int .i64 n151),(.bool b152),(.int .i64 n153),(.int .i64 n154),(.sl 2 l155)])) else some (.inr (.val [(.str s142),(.sl 6 l143),(.sl 6 l144),(.sl 6 l145),(.sl 7 l146),(.sl 4 l135),(.int .i64 n136),(.bool b137),(.int .i64 n138),(.int .i64 n139),(.sl 2 l140)]))) [(.sl 4 l127),(.int .i64 n128),(.bool k2u),(.int .i64 n130),(.int .i64 n131),(.sl 2 l133),(.str s120),(.str s121),(.sl 6 l122),(.sl 6 l123),(.sl 6 l124),(.sl 7 [])]
def k2s (toks:LL)(at_:Int)(en_:LL)(b_:Bool)(a_ w_:Int):fB A E 39 0 [.ptr 0 0] [.cells (.ty 47) [.d (.sl 4 toks), .d (.int .i64 at_), .own 1, .ifo 51 b_ [.int .i64 a_, .int .i64 w_]], .arr 66 2 en_]=b39 A E toks at_ en_ b_ a_ w_:=by kernel_rfl
def b87 (toks:LL)(at_:Int)(en_:LL)(b_:Bool)(a_ w_:Int)(rows:LL):Option PRes:=E.lp (fun ds1=>zI A ds1 0 fun n2=>zI A ds1 1 fun n3=>oR A ds1 2 fun l4 n5 b6=>zI A ds1 5 fun n7=>zI A ds1 6 fun n8=>zL A ds1 7 1 fun l9=>zL A ds1 8 2 fun l10=>bif (A.ilt n3 n2)then iT (A.inr n3 (A.rlen l9)) <| zS A (A.rown l9 (A.nat n3)) 0 fun s11=>zC E 1000037 (kRS s11 l4 n5 l10 b6 n7 n8) fun p12=>yB A p12 0 fun b14=>oV A p12.leaves 1 fun l15 n16 b17 n18 n19 l20=>bif (A.bnot b14)then zC E 1000042 (kRF n16 2 l15 n16 l20 b17 n18 n19) fun p21=>oV A p21.leaves 0 fun l23 n24 b25 n26 n27 l28=>iL [nI n2,nI (zW A (A.add n3 1)), .sl 4 l23,nI n24, .bool b25,nI n26,nI n27, .sl 1 l9, .sl 2 l28] else iL [nI n2,nI (zW A (A.add n3 1)), .sl 4 l15,nI n16, .bool b17,nI n18,nI n19, .sl 1 l9, .sl 2 l20] else some (.inr (.val [.sl 4 l4,nI n5, .bool b6,nI n7,nI n8, .sl 1 l9, .sl 2 l10]))) [nI (A.rlen rows),nI 0, .sl 4 toks,nI at_, .bool b_,nI a_,nI w_, .sl 1 rows, .sl 2 en_]
def k2r (toks:LL)(at_:Int)(en_:LL)(b_:Bool)(a_ w_:Int)(rows:LL):fB A E 87 0 [.ptr 0 0, .own 1] [.cells (.ty 47) [.d (.sl 4 toks), .d (.int .i64 at_), .own 2, .ifo 51 b_ [.int .i64 a_, .int .i64 w_]], .arr 9 1 rows, .arr 66 2 en_]=b87 A E toks at_ en_ b_ a_ w_ rows:=by kernel_rfl
def g7 (A:Sy)(E:Env)(s_:BA):Option PRes:=(E.call 14 [(.d (.str s_)),(.d (.int .i64 6000))]).bind fun p1=>oP A p1.leaves 0 fun l3 n4=>(opI (A.cell p1.leaves 2) .i64).bind fun n5=>bif (A.bnot (A.ieq n5 0))then some (.val [(.sl 2 []),(.sl 5 []),(.int .i64 n4),(.int .i64 n5)]) else E.lp (fun ds6=>oV A ds6 0 fun l7 n8 b9 n10 n11 l12=>(opL (A.cell ds6 6) 5).bind fun l13=>(E.call 1000037 (kRS (bs [101,110,117,109]) l7 n8 l12 b9 n10 n11)).bind fun p14=>(opB (A.cell p14.leaves 0)).bind fun b16=>oV A p14.leaves 1 fun l17 n18 b19 n20 n21 l22=>bif b16 then (E.call 1000038 (kR l17 n18 l22 b19 n20 n21)).bind fun p23=>(opS (A.cell p23.leaves 0)).bind fun s25=>(opL (A.cell p23.leaves 1) 1).bind fun l26=>oV A p23.leaves 2 fun l27 n28 b29 n30 n31 l32=>bif (A.fits l32 [[(.str s25),(.sl 1 l26)]] 40)then some (.inl [(.sl 4 l27),(.int .i64 n28),(.bool b29),(.int .i64 n30),(.int .i64 n31),(.sl 2 (A.rapp l32 [[(.str s25),(.sl 1 l26)]])),(.sl 5 l13)]) else none else E.lp (fun ds33=>oV A ds33 0 fun l34 n35 b36 n37 n38 l39=>(opL (A.cell ds33 6) 5).bind fun l40=>(E.call 1000037 (kRS (bs [110,111,100,101]) l34 n35 l39 b36 n37 n38)).bind fun p41=>(opB (A.cell p41.leaves 0)).bind fun b43=>oV A p41.leaves 1 fun l44 n45 b46 n47 n48 l49=>bif b43 then (E.call 1000039 (kR l44 n45 l49 b46 n47 n48)).bind fun p50=>(opS (A.cell p50.leaves 0)).bind fun s52=>(opL (A.cell p50.leaves 1) 6).bind fun l53=>(opL (A.cell p50.leaves 2) 6).bind fun l54=>(opL (A.cell p50.leaves 3) 6).bind fun l55=>(opL (A.cell p50.leaves 4) 7).bind fun l56=>oV A p50.leaves 5 fun l57 n58 b59 n60 n61 l62=>bif (A.fits l40 [[(.str s52),(.sl 6 l53),(.sl 6 l54),(.sl 6 l55),(.sl 7 l56)]] 112)then some (.inl [(.sl 4 l57),(.int .i64 n58),(.bool b59),(.int .i64 n60),(.int .i64 n61),(.sl 2 l62),(.sl 5 (A.rapp l40 [[(.str s52),(.sl 6 l53),(.sl 6 l54),(.sl 6 l55),(.sl 7 l56)]]))]) else none else bif b46 then bif (A.inr n45 (A.rlen l44))then oT A (A.row l44 n45) 0 fun n63 s64 n65 n66=>bif (A.bnot (A.ieq n63 6))then (E.call 1000042 (kRF n45 2 l44 n45 l49 b46 n47 n48)).bind fun p67=>oV A p67.leaves 0 fun l69 n70 b71 n72 n73 l74=>(E.call 1000016 (kAs b71 n72 n73)).bind fun p75=>(opB (A.cell p75.leaves 0)).bind fun b77=>(opI (A.cell p75.leaves 1) .i64).bind fun n78=>(opI (A.cell p75.leaves 2) .i64).bind fun n79=>bif b77 then some (.inr (.inr (.val [(.sl 2 []),(.sl 5 []),(.int .i64 n78),(.int .i64 n79)]))) else (E.call 17 [(.agg [(.d (.sl 2 l74)),(.d (.sl 5 l40))])]).bind fun p80=>(opI (A.cell p80.leaves 0) .i64).bind fun n82=>bif (A.bnot (A.ieq n82 0))then some (.inr (.inr (.val [(.sl 2 []),(.sl 5 []),(.int .i64 (A.slen s_)),(.int .i64 n82)]))) else some (.inr (.inr (.val [(.sl 2 l74),(.sl 5 l40),(.int .i64 (A.slen s_)),(.int .i64 0)]))) else (E.call 1000016 (kAs b46 n47 n48)).bind fun p83=>(opB (A.cell p83.leaves 0)).bind fun b85=>(opI (A.cell p83.leaves 1) .i64).bind fun n86=>(opI (A.cell p83.leaves 2) .i64).bind fun n87=>bif b85 then some (.inr (.inr (.val [(.sl 2 []),(.sl 5 []),(.int .i64 n86),(.int .i64 n87)]))) else (E.call 17 [(.agg [(.d (.sl 2 l49)),(.d (.sl 5 l40))])]).bind fun p88=>(opI (A.cell p88.leaves 0) .i64).bind fun n90=>bif (A.bnot (A.ieq n90 0))then some (.inr (.inr (.val [(.sl 2 []),(.sl 5 []),(.int .i64 (A.slen s_)),(.int .i64 n90)]))) else some (.inr (.inr (.val [(.sl 2 l49),(.sl 5 l40),(.int .i64 (A.slen s_)),(.int .i64 0)]))) else none else (E.call 1000016 (kAs b46 n47 n48)).bind fun p91=>(opB (A.cell p91.leaves 0)).bind fun b93=>(opI (A.cell p91.leaves 1) .i64).bind fun n94=>(opI (A.cell p91.leaves 2) .i64).bind fun n95=>bif b93 then some (.inr (.inr (.val [(.sl 2 []),(.sl 5 []),(.int .i64 n94),(.int .i64 n95)]))) else (E.call 17 [(.agg [(.d (.sl 2 l49)),(.d (.sl 5 l40))])]).bind fun p96=>(opI (A.cell p96.leaves 0) .i64).bind fun n98=>bif (A.bnot (A.ieq n98 0))then some (.inr (.inr (.val [(.sl 2 []),(.sl 5 []),(.int .i64 (A.slen s_)),(.int .i64 n98)]))) else some (.inr (.inr (.val [(.sl 2 l49),(.sl 5 l40),(.int .i64 (A.slen s_)),(.int .i64 0)])))) [(.sl 4 l17),(.int .i64 n18),(.bool b19),(.int .i64 n20),(.int .i64 n21),(.sl 2 l22),(.sl 5 l13)]
 ) [(.sl 4 l3),(.int .i64 0),(.bool true),(.int .i64 0),(.int .i64 0),(.sl 2 []),(.sl 5 [])]
def k5z (s_:BA):fT A E 7 [.d (.str s_)]=g7 A E s_:=by kernel_rfl
end
noncomputable section
variable (A : Sy) (E : Env)
def b60 (A:Sy)(E:Env)(toks:LL)(at_:Int)(bad:Bool)(en_:LL)(e_:Int):Option PRes:=iT (A.inr at_ (A.rlen toks)) <| oT A (A.row toks at_) 0 fun n1 s2 n3 n4=>x0u (bif bad then vB true else vB (A.bnot (A.ieq n1 2))) fun ds5=>zB A ds5 0 fun b6=>bif b6 then vL [.str (bs []),nI e_, .sl 4 toks,nI at_, .bool true, .sl 2 en_] else vL [.str s2,nI e_, .sl 4 toks,nI (zW A (A.add at_ 1)), .bool bad, .sl 2 en_]
def b20 (toks:LL)(at_:Int)(bad:Bool)(en_:LL)(e_:Int):Option PRes:=zC E 1000058 (rP toks at_ bad) fun p1=>yS A p1 0 fun s3=>oR A p1.leaves 1 fun l4 n5 b6=>zC E 1000059 (rS (bs [123]) l4 n5 b6) fun p7=>oR A p7.leaves 0 fun l9 n10 b11=>zC E 1000060 (qR l9 n10 b11 en_ e_) fun p12=>yS A p12 0 fun s14=>oW A p12.leaves 1 fun n15 l16 n17 b18 l19=>E.lp (fun ds20=>oW A ds20 0 fun n21 l22 n23 b24 l25=>zS A ds20 5 fun s26=>zS A ds20 6 fun s27=>zL A ds20 7 1 fun l28=>zC E 1000019 (rS (bs [44]) l22 n23 b24) fun p29=>yB A p29 0 fun b31=>oR A p29.leaves 1 fun l32 n33 b34=>bif b31 then zC E 1000060 (qR l32 n33 b34 l25 n21) fun p35=>yS A p35 0 fun s37=>oW A p35.leaves 1 fun n38 l39 n40 b41 l42=>iT (A.fits l28 [[.str s37]] 16) <| iL [nI n38, .sl 4 l39,nI n40, .bool b41, .sl 2 l42, .str s26, .str s27, .sl 1 (A.rapp l28 [[.str s37]])] else zC E 1000059 (rS (bs [125]) l32 n33 b34) fun p43=>oR A p43.leaves 0 fun l45 n46 b47=>zC E 1000059 (rS (bs [59]) l45 n46 b47) fun p48=>oR A p48.leaves 0 fun l50 n51 b52=>some (.inr (.val [.str s27, .sl 1 l28,nI n21, .sl 4 l50,nI n51, .bool b52, .sl 2 l25]))) [nI n15, .sl 4 l16,nI n17, .bool b18, .sl 2 l19, .str (bs []), .str s3, .sl 1 [[.str s14]]]
def b62 (toks:LL)(at_:Int)(bad:Bool)(en_:LL)(e_:Int):Option PRes:=zC E 1000058 (rP toks at_ bad) fun p1=>yS A p1 0 fun s3=>oR A p1.leaves 1 fun l4 n5 b6=>E.lp (fun ds7=>oW A ds7 0 fun n8 l9 n10 b11 l12=>zI A ds7 5 fun n13=>zI A ds7 6 fun n14=>zS A ds7 7 fun s15=>zI A ds7 8 fun n16=>zL A ds7 9 1 fun l17=>zI A ds7 10 fun n18=>zI A ds7 11 fun n19=>zS A ds7 12 fun s20=>zI A ds7 13 fun n21=>zC E 1000019 (rS (bs [44]) l9 n10 b11) fun p22=>yB A p22 0 fun b24=>oR A p22.leaves 1 fun l25 n26 b27=>bif b24 then zC E 1000058 (rP l25 n26 b27) fun p28=>yS A p28 0 fun s30=>oR A p28.leaves 1 fun l31 n32 b33=>iT (A.fits l17 [[.str s30]] 16) <| iL [nI n8, .sl 4 l31,nI n32, .bool b33, .sl 2 l12,nI n13,nI n14, .str s15,nI n16, .sl 1 (A.rapp l17 [[.str s30]]),nI n18,nI n19, .str s20,nI n21] else zC E 1000059 (rS (bs [61]) l25 n26 b27) fun p34=>oR A p34.leaves 0 fun l36 n37 b38=>bif b38 then some (.inr (.val [.sl 1 l17,nI n18,nI n19, .str s20,nI n21, .sl 1 [], .sl 6 [],nI n8, .sl 4 l36,nI n37, .bool b38, .sl 2 l12])) else zC E 113 [.d (.sl 4 l36), .d (nI n37)] fun p39=>oE A p39.leaves 0 fun n41 n42 s43 n44 l45 l46=>yI A p39 6 fun n47=>yI A p39 7 fun n48=>bif (A.bnot (A.ieq n48 0))then some (.inr (.val [.sl 1 l17,nI n18,nI n19, .str s20,nI n21, .sl 1 [], .sl 6 [],nI n48, .sl 4 l36,nI n47, .bool true, .sl 2 l12])) else zC E 1000059 (rS (bs [59]) l36 n47 b38) fun p49=>oR A p49.leaves 0 fun l51 n52 b53=>some (.inr (.val [.sl 1 l17,nI n41,nI n42, .str s43,nI n44, .sl 1 l45, .sl 6 l46,nI n8, .sl 4 l51,nI n52, .bool b53, .sl 2 l12]))) [nI e_, .sl 4 l4,nI n5, .bool b6, .sl 2 en_,nI 0,nI 0, .str (bs []),nI 0, .sl 1 [[.str s3]],nI 0,nI 0, .str (bs []),nI 0]
def b21 (toks:LL)(at_:Int)(bad:Bool)(en_:LL)(e_:Int):Option PRes:=zC E 1000058 (rP toks at_ bad) fun p1=>yS A p1 0 fun s3=>oR A p1.leaves 1 fun l4 n5 b6=>zC E 1000059 (rS (bs [40]) l4 n5 b6) fun p7=>oR A p7.leaves 0 fun l9 n10 b11=>x0u (zC E 1000019 (rS (bs [41]) l9 n10 b11) fun p12=>yB A p12 0 fun b14=>oR A p12.leaves 1 fun l15 n16 b17=>bif (A.bnot b14)then zC E 1000061 (qRB false l15 n16 b17 en_ e_) fun p18=>yL A p18 0 6 fun l20=>oW A p18.leaves 1 fun n21 l22 n23 b24 l25=>zC E 1000059 (rS (bs [41]) l22 n23 b24) fun p26=>oR A p26.leaves 0 fun l28 n29 b30=>iL [nI n21, .sl 4 l28,nI n29, .bool b30, .sl 2 l25, .str (bs []), .str s3, .sl 6 l20] else iL [nI e_, .sl 4 l15,nI n16, .bool b17, .sl 2 en_, .str (bs []), .str s3, .sl 6 []]) fun ds31=>oW A ds31 0 fun n32 l33 n34 b35 l36=>zS A ds31 5 fun s37=>zS A ds31 6 fun s38=>zL A ds31 7 6 fun l39=>zC E 1000059 (rS (bs [114,101,116,117,114,110,115]) l33 n34 b35) fun p40=>oR A p40.leaves 0 fun l42 n43 b44=>zC E 1000059 (rS (bs [40]) l42 n43 b44) fun p45=>oR A p45.leaves 0 fun l47 n48 b49=>zC E 1000061 (qRB false l47 n48 b49 l36 n32) fun p50=>yL A p50 0 6 fun l52=>oW A p50.leaves 1 fun n53 l54 n55 b56 l57=>zC E 1000059 (rS (bs [41]) l54 n55 b56) fun p58=>oR A p58.leaves 0 fun l60 n61 b62=>x0u (zC E 1000019 (rS (bs [118,97,114]) l60 n61 b62) fun p63=>yB A p63 0 fun b65=>oR A p63.leaves 1 fun l66 n67 b68=>bif b65 then zC E 1000061 (qRB true l66 n67 b68 l57 n53) fun p69=>yL A p69 0 6 fun l71=>oW A p69.leaves 1 fun n72 l73 n74 b75 l76=>zC E 1000059 (rS (bs [59]) l73 n74 b75) fun p77=>oR A p77.leaves 0 fun l79 n80 b81=>iL [nI n72, .sl 4 l79,nI n80, .bool b81, .sl 2 l76, .str s37, .str s38, .sl 6 l39, .sl 6 l52, .sl 6 l71] else iL [nI n53, .sl 4 l66,nI n67, .bool b68, .sl 2 l57, .str s37, .str s38, .sl 6 l39, .sl 6 l52, .sl 6 []]) fun ds82=>oW A ds82 0 fun n83 l84 n85 b86 l87=>zS A ds82 5 fun s88=>zS A ds82 6 fun s89=>zL A ds82 7 6 fun l90=>zL A ds82 8 6 fun l91=>zL A ds82 9 6 fun l92=>zC E 1000059 (rS (bs [108,101,116]) l84 n85 b86) fun p93=>oR A p93.leaves 0 fun l95 n96 b97=>E.lp (fun ds98=>oW A ds98 0 fun n99 l100 n101 b102 l103=>zS A ds98 5 fun s104=>zS A ds98 6 fun s105=>zL A ds98 7 6 fun l106=>zL A ds98 8 6 fun l107=>zL A ds98 9 6 fun l108=>zL A ds98 10 7 fun l109=>bif (A.bnot b102)then zC E 1000019 (rS (bs [116,101,108]) l100 n101 b102) fun p110=>yB A p110 0 fun b112=>oR A p110.leaves 1 fun l113 n114 b115=>bif (A.bnot b112)then zC E 1000062 (qR l113 n114 b115 l103 n99) fun p116=>yL A p116 0 1 fun l118=>oE A p116.leaves 1 fun n119 n120 s121 n122 l123 l124=>oW A p116.leaves 7 fun n125 l126 n127 b128 l129=>iT (A.fits l109 [[.sl 1 l118,nI n119,nI n120, .str s121,nI n122, .sl 1 l123, .sl 6 l124]] 112) <| iL [nI n125, .sl 4 l126,nI n127, .bool b128, .sl 2 l129, .str s104, .str s105, .sl 6 l106, .sl 6 l107, .sl 6 l108, .sl 7 (A.rapp l109 [[.sl 1 l118,nI n119,nI n120, .str s121,nI n122, .sl 1 l123, .sl 6 l124]])] else some (.inr (.val [.str s105, .sl 6 l106, .sl 6 l107, .sl 6 l108, .sl 7 l109,nI n99, .sl 4 l113,nI n114, .bool b115, .sl 2 l103])) else some (.inr (.val [.str s105, .sl 6 l106, .sl 6 l107, .sl 6 l108, .sl 7 l109,nI n99, .sl 4 l100,nI n101, .bool b102, .sl 2 l103]))) [nI n83, .sl 4 l95,nI n96, .bool b97, .sl 2 l87, .str s88, .str s89, .sl 6 l90, .sl 6 l91, .sl 6 l92, .sl 7 []]
end
noncomputable section
variable (A : Sy) (E : Env)
def k9g (op_:Int):Option PRes:=bif (A.ieq op_ 1)then vL [.str (bs [45])] else bif (A.ieq op_ 4)then vL [.str (bs [45])] else bif (A.ieq op_ 2)then vL [.str (bs [110,111,116])] else bif (A.ieq op_ 3)then vL [.str (bs [43])] else bif (A.ieq op_ 5)then vL [.str (bs [42])] else bif (A.ieq op_ 6)then vL [.str (bs [47])] else bif (A.ieq op_ 7)then vL [.str (bs [109,111,100])] else bif (A.ieq op_ 8)then vL [.str (bs [97,110,100])] else bif (A.ieq op_ 9)then vL [.str (bs [111,114])] else bif (A.ieq op_ 10)then vL [.str (bs [120,111,114])] else zC E 278 [.d (nI op_)] fun p1=>yS A p1 0 fun s3=>vL [.str s3]
def w9s (op_:Int):fT A E 275 [.d (.int .i64 op_)]=k9g A E op_:=by kernel_rfl
def k9f (A:Sy)(E:Env)(op_:Int):Option PRes:=bif (A.ieq op_ 11)then vL [.str (bs [61])] else bif (A.ieq op_ 12)then vL [.str (bs [60,62])] else bif (A.ieq op_ 13)then vL [.str (bs [60])] else bif (A.ieq op_ 14)then vL [.str (bs [60,61])] else bif (A.ieq op_ 15)then vL [.str (bs [62])] else bif (A.ieq op_ 16)then vL [.str (bs [62,61])] else vL [.str (bs [])]
def w9r (op_:Int):fT A E 278 [.d (.int .i64 op_)]=k9f A E op_:=by kernel_rfl
def k9h (A:Sy)(E:Env)(op_ a_0 a_1:Int)(a_2:BA)(a_3:Int)(a_4 a_5:LL)(b_0 b_1:Int)(b_2:BA)(b_3:Int)(b_4 b_5:LL):Option PRes:=some (.val [(.int .i64 6),(.int .i64 0),(.str (bs [])),(.int .i64 op_),(.sl 1 []),(.sl 6 [[(.int .i64 a_0),(.int .i64 a_1),(.str a_2),(.int .i64 a_3),(.sl 1 a_4),(.sl 6 a_5)],[(.int .i64 b_0),(.int .i64 b_1),(.str b_2),(.int .i64 b_3),(.sl 1 b_4),(.sl 6 b_5)]])])
def w9t (op_ a_0 a_1:Int)(a_2:BA)(a_3:Int)(a_4 a_5:LL)(b_0 b_1:Int)(b_2:BA)(b_3:Int)(b_4 b_5:LL):fT A E 270 [.d (.int .i64 op_), .agg [.d (.int .i64 a_0), .d (.int .i64 a_1), .d (.str a_2), .d (.int .i64 a_3), .d (.sl 1 a_4), .d (.sl 6 a_5)], .agg [.d (.int .i64 b_0), .d (.int .i64 b_1), .d (.str b_2), .d (.int .i64 b_3), .d (.sl 1 b_4), .d (.sl 6 b_5)]]=k9h A E op_ a_0 a_1 a_2 a_3 a_4 a_5 b_0 b_1 b_2 b_3 b_4 b_5:=by kernel_rfl
end
noncomputable section
variable (A : Sy) (E : Env)
def k9u (A:Sy)(E:Env)(l_:LL)(at_:Int):Option PRes:=x0u (bif (A.ile 0 at_)then vB (A.ilt at_ (A.rlen l_)) else vB false) fun ds1=>zB A ds1 0 fun b2=>x0u (bif b2 then iT (A.inr (zW A (A.sub (A.rlen l_) 1)) (A.rlen l_)) <| zI A (A.row l_ (zW A (A.sub (A.rlen l_) 1))) 0 fun n3=>vB (A.ieq n3 6) else vB false) fun ds4=>zB A ds4 0 fun b5=>vL [.bool b5]
def q0g (l_:LL)(at_:Int):fT A E 203 [.d (.sl 4 l_), .d (.int .i64 at_)]=k9u A E l_ at_:=by kernel_rfl
def g171 (l_:LL)(at_:Int):Option PRes:=zC E 203 [.d (.sl 4 l_), .d (nI at_)] fun p1=>yB A p1 0 fun b3=>bif (A.bnot b3)then vL [nI 0,nI 0, .str (bs []),nI 0, .sl 1 [], .sl 6 [],nI 0,nI 1] else zC E 204 [.d (.sl 4 l_), .d (nI at_)] fun p4=>oE A p4.leaves 0 fun n6 n7 s8 n9 l10 l11=>yI A p4 6 fun n12=>yB A p4 7 fun b13=>bif (A.bnot b13)then vL [nI 0,nI 0, .str (bs []),nI 0, .sl 1 [], .sl 6 [],nI n12,nI 2] else zC E 176 [kE n6 n7 s8 n9 l10 l11] fun p14=>yI A p14 0 fun n16=>x0u (bif (A.ilt 12 n16)then vB true else zC E 175 [kE n6 n7 s8 n9 l10 l11] fun p17=>yI A p17 0 fun n19=>vB (A.ilt 60 n19)) fun ds20=>zB A ds20 0 fun b21=>bif b21 then vL [nI 0,nI 0, .str (bs []),nI 0, .sl 1 [], .sl 6 [],nI at_,nI 3] else zC E 143 [kE n6 n7 s8 n9 l10 l11] fun p22=>yB A p22 0 fun b24=>bif (A.bnot b24)then vL [nI 0,nI 0, .str (bs []),nI 0, .sl 1 [], .sl 6 [],nI at_,nI 1] else vL [nI n6,nI n7, .str s8,nI n9, .sl 1 l10, .sl 6 l11,nI n12,nI 0]
def q0u (l_:LL)(at_:Int):fT A E 171 [.d (.sl 4 l_), .d (.int .i64 at_)]=g171 A E l_ at_:=by kernel_rfl
def g176 (e_0 e_1:Int)(e_2:BA)(e_3:Int)(e_4 e_5:LL):Option PRes:=E.lp (fun ds1=>zI A ds1 0 fun n2=>zL A ds1 1 6 fun l3=>zI A ds1 2 fun n4=>zI A ds1 3 fun n5=>bif (A.ilt n5 n4)then iT (A.inr n5 (A.rlen l3)) <| oE A (A.row l3 n5) 0 fun n6 n7 s8 n9 l10 l11=>zC E 176 [kE n6 n7 s8 n9 l10 l11] fun p12=>yI A p12 0 fun n14=>iL [nI (A.imax n2 n14), .sl 6 l3,nI n4,nI (zW A (A.add n5 1))] else some (.inr (.val [nI (zW A (A.add n2 1))]))) [nI 0, .sl 6 e_5,nI (A.rlen e_5),nI 0]
def q0r (e_0 e_1:Int)(e_2:BA)(e_3:Int)(e_4 e_5:LL):fT A E 176 [.agg [.d (.int .i64 e_0), .d (.int .i64 e_1), .d (.str e_2), .d (.int .i64 e_3), .d (.sl 1 e_4), .d (.sl 6 e_5)]]=g176 A E e_0 e_1 e_2 e_3 e_4 e_5:=by kernel_rfl
def k6d (e_0 e_1:Int)(e_2:BA)(e_3:Int)(e_4 e_5:LL):Option PRes:=bif (A.ieq e_0 1)then zC E 229 [kE e_0 e_1 e_2 e_3 e_4 e_5] fun p1=>oQ A p1.leaves 0 fun b3 b4 b5 n6 n7 n8=>vL [.bool b3, .bool b4, .bool b5,nI n6,nI n7,nI n8, .bool true] else bif (A.ieq e_0 2)then zC E 229 [kE e_0 e_1 e_2 e_3 e_4 e_5] fun p9=>oQ A p9.leaves 0 fun b11 b12 b13 n14 n15 n16=>vL [.bool b11, .bool b12, .bool b13,nI n14,nI n15,nI n16, .bool true] else bif (A.ieq e_0 3)then zC E 229 [kE e_0 e_1 e_2 e_3 e_4 e_5] fun p17=>oQ A p17.leaves 0 fun b19 b20 b21 n22 n23 n24=>vL [.bool b19, .bool b20, .bool b21,nI n22,nI n23,nI n24, .bool true] else bif (A.ieq e_0 4)then zC E 229 [kE e_0 e_1 e_2 e_3 e_4 e_5] fun p25=>oQ A p25.leaves 0 fun b27 b28 b29 n30 n31 n32=>vL [.bool b27, .bool b28, .bool b29,nI n30,nI n31,nI n32, .bool true] else bif (A.ieq e_0 17)then zC E 229 [kE e_0 e_1 e_2 e_3 e_4 e_5] fun p33=>oQ A p33.leaves 0 fun b35 b36 b37 n38 n39 n40=>vL [.bool b35, .bool b36, .bool b37,nI n38,nI n39,nI n40, .bool true] else bif (A.ieq e_0 5)then zC E 230 [kE e_0 e_1 e_2 e_3 e_4 e_5, .d (nI 1)] fun p41=>oQ A p41.leaves 0 fun b43 b44 b45 n46 n47 n48=>x0u (bif (A.ieq e_3 1)then vB true else vB (A.ieq e_3 2)) fun ds49=>zB A ds49 0 fun b50=>vL [.bool b43, .bool b44, .bool b50,nI n46,nI n47,nI n48, .bool true] else bif (A.ieq e_0 6)then zC E 230 [kE e_0 e_1 e_2 e_3 e_4 e_5, .d (nI 2)] fun p51=>oQ A p51.leaves 0 fun b53 b54 b55 n56 n57 n58=>x0u (bif (A.ile 3 e_3)then vB (A.ile e_3 16) else vB false) fun ds59=>zB A ds59 0 fun b60=>vL [.bool b53, .bool b54, .bool b60,nI n56,nI n57,nI n58, .bool true] else bif (A.ieq e_0 7)then zC E 230 [kE e_0 e_1 e_2 e_3 e_4 e_5, .d (nI 3)] fun p61=>oQ A p61.leaves 0 fun b63 b64 b65 n66 n67 n68=>vL [.bool b63, .bool b64, .bool b65,nI n66,nI n67,nI n68, .bool true] else bif (A.ieq e_0 16)then zC E 230 [kE e_0 e_1 e_2 e_3 e_4 e_5, .d (nI 3)] fun p69=>oQ A p69.leaves 0 fun b71 b72 b73 n74 n75 n76=>vL [.bool b71, .bool b72, .bool b73,nI n74,nI n75,nI n76, .bool true] else bif (A.ieq e_0 8)then zC E 230 [kE e_0 e_1 e_2 e_3 e_4 e_5, .d (nI 2)] fun p77=>oQ A p77.leaves 0 fun b79 b80 b81 n82 n83 n84=>vL [.bool b79, .bool b80, .bool b81,nI n82,nI n83,nI n84, .bool true] else bif (A.ieq e_0 9)then zC E 230 [kE e_0 e_1 e_2 e_3 e_4 e_5, .d (nI 2)] fun p85=>oQ A p85.leaves 0 fun b87 b88 b89 n90 n91 n92=>vL [.bool b87, .bool b88, .bool b89,nI n90,nI n91,nI n92, .bool true] else bif (A.ieq e_0 15)then zC E 230 [kE e_0 e_1 e_2 e_3 e_4 e_5, .d (nI 2)] fun p93=>oQ A p93.leaves 0 fun b95 b96 b97 n98 n99 n100=>vL [.bool b95, .bool b96, .bool b97,nI n98,nI n99,nI n100, .bool true] else bif (A.ieq e_0 10)then zC E 230 [kE e_0 e_1 e_2 e_3 e_4 e_5, .d (nI 1)] fun p101=>oQ A p101.leaves 0 fun b103 b104 b105 n106 n107 n108=>vL [.bool b103, .bool b104, .bool b105,nI n106,nI n107,nI n108, .bool true] else bif (A.ieq e_0 11)then zC E 230 [kE e_0 e_1 e_2 e_3 e_4 e_5, .d (nI 1)] fun p109=>oQ A p109.leaves 0 fun k4c b112 b113 n114 n115 n116=>zC E 95 [.d (.str e_2)] fun p117=>yB A p117 0 fun b119=>vL [.bool k4c, .bool b119, .bool b113,nI n114,nI n115,nI 1, .bool true] else bif (A.ieq e_0 12)then zC E 230 [kE e_0 e_1 e_2 e_3 e_4 e_5, .d (nI (A.rlen e_4))] fun p120=>oQ A p120.leaves 0 fun b122 b123 b124 n125 n126 n127=>zC E 95 [.d (.str e_2)] fun p128=>yB A p128 0 fun q7b=>vL [.bool b122, .bool q7b, .bool b124,nI n125,nI n126,nI 6, .bool true] else bif (A.ieq e_0 13)then bif (A.ieq e_1 0)then zC E 95 [.d (.str e_2)] fun p131=>yB A p131 0 fun b133=>bif (A.ieq e_1 0)then vL [.bool true, .bool b133, .bool (A.ieq e_3 0),nI e_1,nI 6,nI 0, .bool true] else vL [.bool true, .bool b133, .bool (A.ieq e_3 0),nI e_1,nI 7,nI 0, .bool true] else zC E 95 [.d (.str e_2)] fun p134=>yB A p134 0 fun b136=>bif (A.ieq e_1 0)then vL [.bool (A.ieq e_1 1), .bool b136, .bool (A.ieq e_3 0),nI e_1,nI 6,nI 0, .bool true] else vL [.bool (A.ieq e_1 1), .bool b136, .bool (A.ieq e_3 0),nI e_1,nI 7,nI 0, .bool true] else bif (A.ieq e_0 14)then zC E 230 [kE e_0 e_1 e_2 e_3 e_4 e_5, .d (nI 1)] fun p137=>
 oQ A p137.leaves 0 fun b139 b140 b141 n142 n143 n144=>vL [.bool b139, .bool b140, .bool b141,nI n142,nI 8,nI n144, .bool true] else vL [.bool false, .bool false, .bool false,nI 0,nI 0,nI 0, .bool false]
def v6d (e_0 e_1:Int)(e_2:BA)(e_3:Int)(e_4 e_5:LL):fT A E 207 [.agg [.d (.int .i64 e_0), .d (.int .i64 e_1), .d (.str e_2), .d (.int .i64 e_3), .d (.sl 1 e_4), .d (.sl 6 e_5)]]=k6d A E e_0 e_1 e_2 e_3 e_4 e_5:=by kernel_rfl
def k9l (e_0 e_1:Int)(e_2:BA)(e_3:Int)(e_4 e_5:LL):Option PRes:=zC E 230 [kE e_0 e_1 e_2 e_3 e_4 e_5, .d (nI 0)] fun p1=>oQ A p1.leaves 0 fun b3 b4 b5 n6 n7 n8=>bif (A.ieq e_0 1)then vL [.bool (A.ile 0 e_1), .bool b4, .bool b5,nI n6,nI n7,nI n8] else bif (A.ieq e_0 2)then x0u (bif (A.ieq e_1 0)then vB true else vB (A.ieq e_1 1)) fun ds9=>zB A ds9 0 fun b10=>vL [.bool b10, .bool b4, .bool b5,nI n6,nI n7,nI n8] else bif (A.ieq e_0 3)then zC E 95 [.d (.str e_2)] fun p11=>yB A p11 0 fun b13=>vL [.bool b3, .bool b13, .bool b5,nI n6,nI n7,nI n8] else bif (A.ieq e_0 4)then zC E 97 [.d (.str e_2)] fun p14=>yB A p14 0 fun b16=>vL [.bool b3, .bool b16, .bool b5,nI n6,nI n7,nI n8] else bif (A.ieq e_0 17)then zC E 126 [.d (.str e_2)] fun p17=>yB A p17 0 fun b19=>vL [.bool b3, .bool b19, .bool b5,nI n6,nI n7,nI n8] else vL [.bool b3, .bool b4, .bool b5,nI n6,nI n7,nI n8]
def w9x (e_0 e_1:Int)(e_2:BA)(e_3:Int)(e_4 e_5:LL):fT A E 229 [.agg [.d (.int .i64 e_0), .d (.int .i64 e_1), .d (.str e_2), .d (.int .i64 e_3), .d (.sl 1 e_4), .d (.sl 6 e_5)]]=k9l A E e_0 e_1 e_2 e_3 e_4 e_5:=by kernel_rfl
def k9k (A:Sy)(E:Env)(e_0 e_1:Int)(e_2:BA)(e_3:Int)(e_4 e_5:LL)(n_:Int):Option PRes:=vL [.bool (A.ieq e_1 0), .bool (A.seq e_2 (bs [])), .bool (A.ieq e_3 0),nI n_,nI n_,nI 0]
def w9w (e_0 e_1:Int)(e_2:BA)(e_3:Int)(e_4 e_5:LL)(n_:Int):fT A E 230 [.agg [.d (.int .i64 e_0), .d (.int .i64 e_1), .d (.str e_2), .d (.int .i64 e_3), .d (.sl 1 e_4), .d (.sl 6 e_5)], .d (.int .i64 n_)]=k9k A E e_0 e_1 e_2 e_3 e_4 e_5 n_:=by kernel_rfl
def k9r (s_:BA):Option PRes:=zC E 97 [.d (.str s_)] fun p1=>yB A p1 0 fun b3=>x0u (bif b3 then vB true else vB (A.seq s_ (bs [116,114,117,101]))) fun ds4=>zB A ds4 0 fun b5=>x0u (bif b5 then vB true else vB (A.seq s_ (bs [102,97,108,115,101]))) fun ds6=>zB A ds6 0 fun b7=>vL [.bool b7]
def q0d (s_:BA):fT A E 209 [.d (.str s_)]=k9r A E s_:=by kernel_rfl
def k9j (A:Sy)(E:Env)(e_0 e_1:Int)(e_2:BA)(e_3:Int)(e_4 e_5:LL):Option PRes:=bif (A.ieq e_0 1)then vL [.bool true] else bif (A.ieq e_0 2)then vL [.bool true] else bif (A.ieq e_0 4)then vL [.bool true] else bif (A.ieq e_0 5)then x0u (bif (A.ieq e_3 1)then vB (A.ieq (A.rlen e_5) 1) else vB false) fun ds1=>zB A ds1 0 fun b2=>x0u (bif b2 then iT (A.inr 0 (A.rlen e_5)) <| zI A (A.row e_5 0) 0 fun n3=>vB (A.ieq n3 1) else vB false) fun ds4=>zB A ds4 0 fun b5=>vL [.bool b5] else vL [.bool false]
def w9v (e_0 e_1:Int)(e_2:BA)(e_3:Int)(e_4 e_5:LL):fT A E 231 [.agg [.d (.int .i64 e_0), .d (.int .i64 e_1), .d (.str e_2), .d (.int .i64 e_3), .d (.sl 1 e_4), .d (.sl 6 e_5)]]=k9j A E e_0 e_1 e_2 e_3 e_4 e_5:=by kernel_rfl
def g152 (e_0 e_1:Int)(e_2:BA)(e_3:Int)(e_4 e_5:LL):Option PRes:=E.lp (fun ds1=>zI A ds1 0 fun n2=>zI A ds1 1 fun n3=>oE A ds1 2 fun n4 n5 s6 n7 l8 l9=>bif (A.ilt n3 (A.rlen l9))then iT (A.inr n3 (A.rlen l9)) <| oE A (A.row l9 n3) 0 fun n10 n11 s12 n13 l14 l15=>zC E 152 [kE n10 n11 s12 n13 l14 l15] fun p16=>yI A p16 0 fun n18=>iL [nI (zW A (A.add n2 n18)),nI (zW A (A.add n3 1)),nI n4,nI n5, .str s6,nI n7, .sl 1 l8, .sl 6 l9] else some (.inr (.val [nI n2]))) [nI 1,nI 0,nI e_0,nI e_1, .str e_2,nI e_3, .sl 1 e_4, .sl 6 e_5]
def q1f (e_0 e_1:Int)(e_2:BA)(e_3:Int)(e_4 e_5:LL):fT A E 152 [.agg [.d (.int .i64 e_0), .d (.int .i64 e_1), .d (.str e_2), .d (.int .i64 e_3), .d (.sl 1 e_4), .d (.sl 6 e_5)]]=g152 A E e_0 e_1 e_2 e_3 e_4 e_5:=by kernel_rfl
def g151 (e_0 e_1:Int)(e_2:BA)(e_3:Int)(e_4 e_5:LL):Option PRes:=E.lp (fun ds1=>zI A ds1 0 fun n2=>zI A ds1 1 fun n3=>oE A ds1 2 fun n4 n5 s6 n7 l8 l9=>bif (A.ilt n3 (A.rlen l9))then iT (A.inr n3 (A.rlen l9)) <| oE A (A.row l9 n3) 0 fun n10 n11 s12 n13 l14 l15=>zC E 151 [kE n10 n11 s12 n13 l14 l15] fun p16=>yI A p16 0 fun n18=>iL [nI (A.imax n2 n18),nI (zW A (A.add n3 1)),nI n4,nI n5, .str s6,nI n7, .sl 1 l8, .sl 6 l9] else some (.inr (.val [nI (zW A (A.add n2 1))]))) [nI 0,nI 0,nI e_0,nI e_1, .str e_2,nI e_3, .sl 1 e_4, .sl 6 e_5]
def q1g (e_0 e_1:Int)(e_2:BA)(e_3:Int)(e_4 e_5:LL):fT A E 151 [.agg [.d (.int .i64 e_0), .d (.int .i64 e_1), .d (.str e_2), .d (.int .i64 e_3), .d (.sl 1 e_4), .d (.sl 6 e_5)]]=g151 A E e_0 e_1 e_2 e_3 e_4 e_5:=by kernel_rfl
def g114 (e_0 e_1:Int)(e_2:BA)(e_3:Int)(e_4 e_5:LL):Option PRes:=E.lp (fun ds1=>zI A ds1 0 fun n2=>oE A ds1 1 fun n3 n4 s5 n6 l7 l8=>zL A ds1 7 6 fun l9=>bif (A.ilt n2 (A.rlen l8))then iT (A.inr n2 (A.rlen l8)) <| oE A (A.row l8 n2) 0 fun n10 n11 s12 n13 l14 l15=>zC E 114 [kE n10 n11 s12 n13 l14 l15] fun p16=>yL A p16 0 6 fun l18=>iT (A.fits l9 l18 88) <| iL [nI (zW A (A.add n2 1)),nI n3,nI n4, .str s5,nI n6, .sl 1 l7, .sl 6 l8, .sl 6 (A.rapp l9 l18)] else some (.inr (.own 81 6 l9))) [nI 0,nI e_0,nI e_1, .str e_2,nI e_3, .sl 1 e_4, .sl 6 e_5, .sl 6 [[nI e_0,nI e_1, .str e_2,nI e_3, .sl 1 e_4, .sl 6 e_5]]]
def q2a (e_0 e_1:Int)(e_2:BA)(e_3:Int)(e_4 e_5:LL):fT A E 114 [.agg [.d (.int .i64 e_0), .d (.int .i64 e_1), .d (.str e_2), .d (.int .i64 e_3), .d (.sl 1 e_4), .d (.sl 6 e_5)]]=g114 A E e_0 e_1 e_2 e_3 e_4 e_5:=by kernel_rfl
def g154 (e_0 e_1:Int)(e_2:BA)(e_3:Int)(e_4 e_5:LL):Option PRes:=x0u (bif (A.ilt e_0 1)then vB true else vB (A.ilt 17 e_0)) fun ds1=>zB A ds1 0 fun b2=>x0u (bif b2 then vB true else zC E 182 [kE e_0 e_1 e_2 e_3 e_4 e_5] fun p3=>yB A p3 0 fun b5=>vB (A.bnot b5)) fun ds6=>zB A ds6 0 fun b7=>x0u (bif b7 then vB true else zC E 183 [kE e_0 e_1 e_2 e_3 e_4 e_5] fun p8=>yB A p8 0 fun b10=>vB (A.bnot b10)) fun ds11=>zB A ds11 0 fun b12=>x0u (bif b12 then vB true else zC E 184 [kE e_0 e_1 e_2 e_3 e_4 e_5] fun p13=>yB A p13 0 fun b15=>vB (A.bnot b15)) fun ds16=>zB A ds16 0 fun b17=>bif b17 then vL [.bool false] else zC E 185 [kE e_0 e_1 e_2 e_3 e_4 e_5] fun p18=>yI A p18 0 fun n20=>yI A p18 1 fun n21=>x0u (bif (A.ile n20 (A.rlen e_5))then vB (A.ile (A.rlen e_5) n21) else vB false) fun ds22=>zB A ds22 0 fun b23=>x0u (bif b23 then bif (A.bnot (A.ieq e_0 8))then vB true else iT (A.inr 0 (A.rlen e_5)) <| oE A (A.row e_5 0) 0 fun n24 n25 s26 n27 l28 l29=>zC E 186 [kE n24 n25 s26 n27 l28 l29] fun p30=>yB A p30 0 fun b32=>vB b32 else vB false) fun ds33=>zB A ds33 0 fun b34=>vL [.bool b34]
def q1d (e_0 e_1:Int)(e_2:BA)(e_3:Int)(e_4 e_5:LL):fT A E 154 [.agg [.d (.int .i64 e_0), .d (.int .i64 e_1), .d (.str e_2), .d (.int .i64 e_3), .d (.sl 1 e_4), .d (.sl 6 e_5)]]=g154 A E e_0 e_1 e_2 e_3 e_4 e_5:=by kernel_rfl
def g118 (e_0 e_1:Int)(e_2:BA)(e_3:Int)(e_4 e_5:LL):Option PRes:=zC E 152 [kE e_0 e_1 e_2 e_3 e_4 e_5] fun p1=>yI A p1 0 fun n3=>x0u (bif (A.ilt 60 n3)then vB true else zC E 151 [kE e_0 e_1 e_2 e_3 e_4 e_5] fun p4=>yI A p4 0 fun n6=>vB (A.ilt 12 n6)) fun ds7=>zB A ds7 0 fun b8=>bif b8 then vL [.bool false] else zC E 114 [kE e_0 e_1 e_2 e_3 e_4 e_5] fun p9=>yL A p9 0 6 fun l11=>E.lp (fun ds12=>zL A ds12 0 6 fun l13=>zI A ds12 1 fun n14=>bif (A.ilt n14 (A.rlen l13))then iT (A.inr n14 (A.rlen l13)) <| oE A (A.row l13 n14) 0 fun n15 n16 s17 n18 l19 l20=>zC E 154 [kE n15 n16 s17 n18 l19 l20] fun p21=>yB A p21 0 fun b23=>bif (A.bnot b23)then some (.inr (.val [.bool false])) else iL [.sl 6 l13,nI (zW A (A.add n14 1))] else some (.inr (.val [.bool true]))) [.sl 6 l11,nI 0]
def q1x (e_0 e_1:Int)(e_2:BA)(e_3:Int)(e_4 e_5:LL):fT A E 118 [.agg [.d (.int .i64 e_0), .d (.int .i64 e_1), .d (.str e_2), .d (.int .i64 e_3), .d (.sl 1 e_4), .d (.sl 6 e_5)]]=g118 A E e_0 e_1 e_2 e_3 e_4 e_5:=by kernel_rfl
def g65 (a_0 a_1:Int)(a_2:BA)(a_3:Int)(a_4 a_5:LL)(b_0 b_1:Int)(b_2:BA)(b_3:Int)(b_4 b_5:LL):Option PRes:=x0u (bif (A.bnot (A.ieq a_0 b_0))then vB true else vB (A.bnot (A.ieq a_1 b_1))) fun ds1=>zB A ds1 0 fun b2=>x0u (bif b2 then vB true else vB (A.bnot (A.seq a_2 b_2))) fun ds3=>zB A ds3 0 fun b4=>x0u (bif b4 then vB true else vB (A.bnot (A.ieq a_3 b_3))) fun ds5=>zB A ds5 0 fun b6=>x0u (bif b6 then vB true else zC E 63 [.d (.sl 1 a_4), .d (.sl 1 b_4)] fun p7=>yB A p7 0 fun b9=>vB (A.bnot b9)) fun ds10=>zB A ds10 0 fun b11=>x0u (bif b11 then vB true else vB (A.bnot (A.ieq (A.rlen a_5) (A.rlen b_5)))) fun ds12=>zB A ds12 0 fun b13=>bif b13 then vL [.bool false] else E.lp (fun ds14=>zI A ds14 0 fun n15=>oE A ds14 1 fun n16 n17 s18 n19 l20 l21=>oE A ds14 7 fun n22 n23 s24 n25 l26 l27=>bif (A.ilt n15 (A.rlen l21))then iT (A.inr n15 (A.rlen l21)) <| oE A (A.row l21 n15) 0 fun n28 n29 s30 n31 l32 l33=>iT (A.inr n15 (A.rlen l27)) <| oE A (A.row l27 n15) 0 fun n34 n35 s36 n37 l38 l39=>zC E 65 [kE n28 n29 s30 n31 l32 l33,kE n34 n35 s36 n37 l38 l39] fun p40=>yB A p40 0 fun b42=>bif (A.bnot b42)then some (.inr (.val [.bool false])) else iL [nI (zW A (A.add n15 1)),nI n16,nI n17, .str s18,nI n19, .sl 1 l20, .sl 6 l21,nI n22,nI n23, .str s24,nI n25, .sl 1 l26, .sl 6 l27] else some (.inr (.val [.bool true]))) [nI 0,nI a_0,nI a_1, .str a_2,nI a_3, .sl 1 a_4, .sl 6 a_5,nI b_0,nI b_1, .str b_2,nI b_3, .sl 1 b_4, .sl 6 b_5]
def k0g (a_0 a_1:Int)(a_2:BA)(a_3:Int)(a_4 a_5:LL)(b_0 b_1:Int)(b_2:BA)(b_3:Int)(b_4 b_5:LL):fT A E 65 [.agg [.d (.int .i64 a_0), .d (.int .i64 a_1), .d (.str a_2), .d (.int .i64 a_3), .d (.sl 1 a_4), .d (.sl 6 a_5)], .agg [.d (.int .i64 b_0), .d (.int .i64 b_1), .d (.str b_2), .d (.int .i64 b_3), .d (.sl 1 b_4), .d (.sl 6 b_5)]]=g65 A E a_0 a_1 a_2 a_3 a_4 a_5 b_0 b_1 b_2 b_3 b_4 b_5:=by kernel_rfl
def g182 (A:Sy)(E:Env)(e_0 e_1:Int)(e_2:BA)(e_3:Int)(e_4 e_5:LL):Option PRes:=bif (A.ieq e_0 5)then bif (A.ieq e_0 6)then x0u (bif (A.ilt e_3 3)then vB true else vB (A.ilt 16 e_3)) fun ds1=>zB A ds1 0 fun b2=>bif b2 then vL [.bool false] else bif (A.ieq e_0 1)then vL [.bool (A.ile 0 e_1)] else x0u (bif (A.ieq e_0 2)then vB true else vB (A.ieq e_0 13)) fun ds3=>zB A ds3 0 fun b4=>bif b4 then x0u (bif (A.ieq e_1 0)then vB true else vB (A.ieq e_1 1)) fun ds5=>zB A ds5 0 fun b6=>vL [.bool b6] else vL [.bool (A.ieq e_1 0)] else x0u (bif (A.ilt e_3 1)then vB true else vB (A.ilt 2 e_3)) fun ds7=>zB A ds7 0 fun b8=>bif b8 then vL [.bool false] else bif (A.ieq e_0 1)then vL [.bool (A.ile 0 e_1)] else x0u (bif (A.ieq e_0 2)then vB true else vB (A.ieq e_0 13)) fun ds9=>zB A ds9 0 fun b10=>bif b10 then x0u (bif (A.ieq e_1 0)then vB true else vB (A.ieq e_1 1)) fun ds11=>zB A ds11 0 fun b12=>vL [.bool b12] else vL [.bool (A.ieq e_1 0)] else bif (A.ieq e_0 6)then x0u (bif (A.ilt e_3 3)then vB true else vB (A.ilt 16 e_3)) fun ds13=>zB A ds13 0 fun b14=>bif b14 then vL [.bool false] else bif (A.ieq e_0 1)then vL [.bool (A.ile 0 e_1)] else x0u (bif (A.ieq e_0 2)then vB true else vB (A.ieq e_0 13)) fun ds15=>zB A ds15 0 fun b16=>bif b16 then x0u (bif (A.ieq e_1 0)then vB true else vB (A.ieq e_1 1)) fun ds17=>zB A ds17 0 fun b18=>vL [.bool b18] else vL [.bool (A.ieq e_1 0)] else x0u (bif (A.ilt e_3 0)then vB true else vB (A.ilt 0 e_3)) fun ds19=>zB A ds19 0 fun b20=>bif b20 then vL [.bool false] else bif (A.ieq e_0 1)then vL [.bool (A.ile 0 e_1)] else x0u (bif (A.ieq e_0 2)then vB true else vB (A.ieq e_0 13)) fun ds21=>zB A ds21 0 fun b22=>bif b22 then x0u (bif (A.ieq e_1 0)then vB true else vB (A.ieq e_1 1)) fun ds23=>zB A ds23 0 fun b24=>vL [.bool b24] else vL [.bool (A.ieq e_1 0)]
def q0o (e_0 e_1:Int)(e_2:BA)(e_3:Int)(e_4 e_5:LL):fT A E 182 [.agg [.d (.int .i64 e_0), .d (.int .i64 e_1), .d (.str e_2), .d (.int .i64 e_3), .d (.sl 1 e_4), .d (.sl 6 e_5)]]=g182 A E e_0 e_1 e_2 e_3 e_4 e_5:=by kernel_rfl
def g183 (e_0 e_1:Int)(e_2:BA)(e_3:Int)(e_4 e_5:LL):Option PRes:=bif (A.ieq e_0 3)then zC E 68 [.d (.str e_2)] fun p1=>yB A p1 0 fun b3=>vL [.bool b3] else bif (A.ieq e_0 11)then zC E 68 [.d (.str e_2)] fun p4=>yB A p4 0 fun b6=>vL [.bool b6] else bif (A.ieq e_0 12)then zC E 68 [.d (.str e_2)] fun p7=>yB A p7 0 fun b9=>vL [.bool b9] else bif (A.ieq e_0 13)then zC E 68 [.d (.str e_2)] fun p10=>yB A p10 0 fun b12=>vL [.bool b12] else bif (A.ieq e_0 4)then zC E 69 [.d (.str e_2)] fun p13=>yB A p13 0 fun b15=>vL [.bool b15] else bif (A.ieq e_0 17)then zC E 146 [.d (.str e_2)] fun p16=>yB A p16 0 fun b18=>vL [.bool b18] else vL [.bool (A.seq e_2 (bs []))]
def q0n (e_0 e_1:Int)(e_2:BA)(e_3:Int)(e_4 e_5:LL):fT A E 183 [.agg [.d (.int .i64 e_0), .d (.int .i64 e_1), .d (.str e_2), .d (.int .i64 e_3), .d (.sl 1 e_4), .d (.sl 6 e_5)]]=g183 A E e_0 e_1 e_2 e_3 e_4 e_5:=by kernel_rfl
def g184 (e_0 e_1:Int)(e_2:BA)(e_3:Int)(e_4 e_5:LL):Option PRes:=E.lp (fun ds1=>zI A ds1 0 fun n2=>oE A ds1 1 fun n3 n4 s5 n6 l7 l8=>bif (A.ilt n2 (A.rlen l7))then iT (A.inr n2 (A.rlen l7)) <| zS A (A.row l7 n2) 0 fun s9=>zC E 212 [.d (.str s9)] fun p10=>yB A p10 0 fun b12=>bif (A.bnot b12)then some (.inr (.val [.bool false])) else iL [nI (zW A (A.add n2 1)),nI n3,nI n4, .str s5,nI n6, .sl 1 l7, .sl 6 l8] else bif (A.ieq n3 11)then some (.inr (.val [.bool (A.ieq (A.rlen l7) 1)])) else bif (A.ieq n3 12)then x0u (bif (A.ile 1 (A.rlen l7))then vB (A.ile (A.rlen l7) 6) else vB false) fun ds13=>zB A ds13 0 fun b14=>x0u (bif b14 then zC E 30 [.d (.sl 1 l7)] fun p15=>yB A p15 0 fun b17=>vB b17 else vB false) fun ds18=>zB A ds18 0 fun b19=>some (.inr (.val [.bool b19])) else some (.inr (.val [.bool (A.ieq (A.rlen l7) 0)]))) [nI 0,nI e_0,nI e_1, .str e_2,nI e_3, .sl 1 e_4, .sl 6 e_5]
def q0m (e_0 e_1:Int)(e_2:BA)(e_3:Int)(e_4 e_5:LL):fT A E 184 [.agg [.d (.int .i64 e_0), .d (.int .i64 e_1), .d (.str e_2), .d (.int .i64 e_3), .d (.sl 1 e_4), .d (.sl 6 e_5)]]=g184 A E e_0 e_1 e_2 e_3 e_4 e_5:=by kernel_rfl
def k0w (A:Sy)(E:Env)(e_0 e_1:Int)(e_2:BA)(e_3:Int)(e_4 e_5:LL):Option PRes:=bif (A.ieq e_0 5)then vL [nI 1,nI 1] else bif (A.ieq e_0 10)then vL [nI 1,nI 1] else bif (A.ieq e_0 11)then vL [nI 1,nI 1] else bif (A.ieq e_0 6)then vL [nI 2,nI 2] else bif (A.ieq e_0 8)then vL [nI 2,nI 2] else bif (A.ieq e_0 9)then vL [nI 2,nI 2] else bif (A.ieq e_0 15)then vL [nI 2,nI 2] else bif (A.ieq e_0 7)then vL [nI 3,nI 3] else bif (A.ieq e_0 16)then vL [nI 3,nI 3] else bif (A.ieq e_0 12)then vL [nI (A.rlen e_4),nI (A.rlen e_4)] else bif (A.ieq e_0 13)then vL [nI e_1,nI (zW A (A.add 6 e_1))] else bif (A.ieq e_0 14)then vL [nI 1,nI 8] else vL [nI 0,nI 0]
def z5v (e_0 e_1:Int)(e_2:BA)(e_3:Int)(e_4 e_5:LL):fT A E 185 [.agg [.d (.int .i64 e_0), .d (.int .i64 e_1), .d (.str e_2), .d (.int .i64 e_3), .d (.sl 1 e_4), .d (.sl 6 e_5)]]=k0w A E e_0 e_1 e_2 e_3 e_4 e_5:=by kernel_rfl
def k9z (e_0 e_1:Int)(e_2:BA)(e_3:Int)(e_4 e_5:LL):Option PRes:=bif (A.bnot (A.ieq e_0 14))then zC E 213 [kE e_0 e_1 e_2 e_3 e_4 e_5] fun p1=>yB A p1 0 fun b3=>vL [.bool b3] else E.lp (fun ds4=>zI A ds4 0 fun n5=>oE A ds4 1 fun n6 n7 s8 n9 l10 l11=>bif (A.ilt n5 (A.rlen l11))then iT (A.inr n5 (A.rlen l11)) <| oE A (A.row l11 n5) 0 fun n12 n13 s14 n15 l16 l17=>zC E 213 [kE n12 n13 s14 n15 l16 l17] fun p18=>yB A p18 0 fun b20=>bif (A.bnot b20)then some (.inr (.val [.bool false])) else iL [nI (zW A (A.add n5 1)),nI n6,nI n7, .str s8,nI n9, .sl 1 l10, .sl 6 l11] else some (.inr (.val [.bool true]))) [nI 0,nI e_0,nI e_1, .str e_2,nI e_3, .sl 1 e_4, .sl 6 e_5]
def q0l (e_0 e_1:Int)(e_2:BA)(e_3:Int)(e_4 e_5:LL):fT A E 186 [.agg [.d (.int .i64 e_0), .d (.int .i64 e_1), .d (.str e_2), .d (.int .i64 e_3), .d (.sl 1 e_4), .d (.sl 6 e_5)]]=k9z A E e_0 e_1 e_2 e_3 e_4 e_5:=by kernel_rfl
def k9p (s_:BA):Option PRes:=zC E 69 [.d (.str s_)] fun p1=>yB A p1 0 fun b3=>x0u (bif b3 then vB true else vB (A.seq s_ (bs [116,114,117,101]))) fun ds4=>zB A ds4 0 fun b5=>x0u (bif b5 then vB true else vB (A.seq s_ (bs [102,97,108,115,101]))) fun ds6=>zB A ds6 0 fun b7=>vL [.bool b7]
def q0b (s_:BA):fT A E 212 [.d (.str s_)]=k9p A E s_:=by kernel_rfl
def g30 (l_:LL):Option PRes:=E.lp (fun ds1=>zL A ds1 0 1 fun l2=>zI A ds1 1 fun n3=>bif (A.ilt n3 (A.rlen l2))then E.lp (fun ds4=>zL A ds4 0 1 fun l5=>zI A ds4 1 fun n6=>zI A ds4 2 fun n7=>bif (A.ilt n7 n6)then iT (A.inr n7 (A.rlen l5)) <| zS A (A.row l5 n7) 0 fun s8=>iT (A.inr n6 (A.rlen l5)) <| zS A (A.row l5 n6) 0 fun s9=>bif (A.seq s8 s9)then some (.inr (.inr (.val [.bool false]))) else iL [.sl 1 l5,nI n6,nI (zW A (A.add n7 1))] else some (.inr (.inl [.sl 1 l5,nI (zW A (A.add n6 1))]))) [.sl 1 l2,nI n3,nI 0] else some (.inr (.val [.bool true]))) [.sl 1 l_,nI 0]
def k0s (l_:LL):fT A E 30 [.d (.sl 1 l_)]=g30 A E l_:=by kernel_rfl
def k9o (A:Sy)(E:Env)(e_0 e_1:Int)(e_2:BA)(e_3:Int)(e_4 e_5:LL):Option PRes:=bif (A.ieq e_0 5)then x0u (bif (A.ieq e_3 1)then vB (A.ieq (A.rlen e_5) 1) else vB false) fun ds1=>zB A ds1 0 fun b2=>x0u (bif b2 then iT (A.inr 0 (A.rlen e_5)) <| zI A (A.row e_5 0) 0 fun n3=>vB (A.ieq n3 1) else vB false) fun ds4=>zB A ds4 0 fun b5=>vL [.bool b5] else x0u (bif (A.ieq e_0 1)then vB true else vB (A.ieq e_0 2)) fun ds6=>zB A ds6 0 fun b7=>x0u (bif b7 then vB true else vB (A.ieq e_0 4)) fun ds8=>zB A ds8 0 fun b9=>vL [.bool b9]
def q0a (e_0 e_1:Int)(e_2:BA)(e_3:Int)(e_4 e_5:LL):fT A E 213 [.agg [.d (.int .i64 e_0), .d (.int .i64 e_1), .d (.str e_2), .d (.int .i64 e_3), .d (.sl 1 e_4), .d (.sl 6 e_5)]]=k9o A E e_0 e_1 e_2 e_3 e_4 e_5:=by kernel_rfl
def g63 (a_ b_:LL):Option PRes:=bif (A.bnot (A.ieq (A.rlen a_) (A.rlen b_)))then vL [.bool false] else E.lp (fun ds1=>zL A ds1 0 1 fun l2=>zL A ds1 1 1 fun l3=>zI A ds1 2 fun n4=>bif (A.ilt n4 (A.rlen l2))then iT (A.inr n4 (A.rlen l2)) <| zS A (A.row l2 n4) 0 fun s5=>iT (A.inr n4 (A.rlen l3)) <| zS A (A.row l3 n4) 0 fun s6=>bif (A.bnot (A.seq s5 s6))then some (.inr (.val [.bool false])) else iL [.sl 1 l2, .sl 1 l3,nI (zW A (A.add n4 1))] else some (.inr (.val [.bool true]))) [.sl 1 a_, .sl 1 b_,nI 0]
def k0i (a_ b_:LL):fT A E 63 [.d (.sl 1 a_), .d (.sl 1 b_)]=g63 A E a_ b_:=by kernel_rfl
def g178 (e_0 e_1:Int)(e_2:BA)(e_3:Int)(e_4 e_5:LL):Option PRes:=zC E 207 [kE e_0 e_1 e_2 e_3 e_4 e_5] fun p1=>oQ A p1.leaves 0 fun b3 b4 b5 n6 n7 n8=>yB A p1 6 fun b9=>x0u (bif (A.bnot b9)then vB true else vB (A.bnot b3)) fun ds10=>zB A ds10 0 fun b11=>x0u (bif b11 then vB true else vB (A.bnot b4)) fun ds12=>zB A ds12 0 fun b13=>x0u (bif b13 then vB true else vB (A.bnot b5)) fun ds14=>zB A ds14 0 fun b15=>x0u (bif b15 then vB true else vB (A.ilt (A.rlen e_5) n6)) fun ds16=>zB A ds16 0 fun b17=>x0u (bif b17 then vB true else vB (A.ilt n7 (A.rlen e_5))) fun ds18=>zB A ds18 0 fun b19=>bif b19 then vL [.bool false] else x0u (bif (A.ilt n8 (A.rlen e_4))then vB true else bif (A.ilt 0 n8)then vB (A.ieq (A.rlen e_4) 0) else vB false) fun ds20=>zB A ds20 0 fun b21=>x0u (bif b21 then vB true else zC E 54 [.d (.sl 1 e_4)] fun p22=>yB A p22 0 fun b24=>vB (A.bnot b24)) fun ds25=>zB A ds25 0 fun b26=>bif b26 then vL [.bool false] else zC E 144 [.d (.sl 1 e_4), .fn 208 []] fun p27=>yB A p27 0 fun b29=>bif b29 then vL [.bool false] else x0u (bif (A.bnot (A.ieq e_0 8))then vB true else iT (A.inr 0 (A.rlen e_5)) <| oE A (A.row e_5 0) 0 fun n30 n31 s32 n33 l34 l35=>zC E 210 [kE n30 n31 s32 n33 l34 l35] fun p36=>yB A p36 0 fun b38=>vB b38) fun ds39=>zB A ds39 0 fun b40=>vL [.bool b40]
def q0q (e_0 e_1:Int)(e_2:BA)(e_3:Int)(e_4 e_5:LL):fT A E 178 [.agg [.d (.int .i64 e_0), .d (.int .i64 e_1), .d (.str e_2), .d (.int .i64 e_3), .d (.sl 1 e_4), .d (.sl 6 e_5)]]=g178 A E e_0 e_1 e_2 e_3 e_4 e_5:=by kernel_rfl
def k9q (e_0 e_1:Int)(e_2:BA)(e_3:Int)(e_4 e_5:LL):Option PRes:=bif (A.bnot (A.ieq e_0 14))then zC E 231 [kE e_0 e_1 e_2 e_3 e_4 e_5] fun p1=>yB A p1 0 fun b3=>vL [.bool b3] else zC E 232 [.d (.sl 6 e_5), .fn 233 []] fun p4=>yB A p4 0 fun b6=>vL [.bool (A.bnot b6)]
def q0c (e_0 e_1:Int)(e_2:BA)(e_3:Int)(e_4 e_5:LL):fT A E 210 [.agg [.d (.int .i64 e_0), .d (.int .i64 e_1), .d (.str e_2), .d (.int .i64 e_3), .d (.sl 1 e_4), .d (.sl 6 e_5)]]=k9q A E e_0 e_1 e_2 e_3 e_4 e_5:=by kernel_rfl
def g54 (l_:LL):Option PRes:=E.lp (fun ds1=>zL A ds1 0 1 fun l2=>zI A ds1 1 fun n3=>zI A ds1 2 fun n4=>zL A ds1 3 2 fun l5=>bif (A.ilt n4 n3)then iT (A.inr n4 (A.rlen l2)) <| zS A (A.row l2 n4) 0 fun s6=>(opI (some (A.mval (nI 0) (.str s6) l5)) .i64).bind fun n7=>bif (A.ilt 0 n7)then some (.inr (.val [.bool false])) else (opI (some (A.mval (nI 0) (.str s6) l5)) .i64).bind fun n8=>iL [.sl 1 l2,nI n3,nI (zW A (A.add n4 1)), .sl 2 (A.mput (.str s6) (nI (zW A (A.add n8 1))) l5)] else some (.inr (.val [.bool true]))) [.sl 1 l_,nI (A.rlen l_),nI 0, .sl 2 []]
def k0j (l_:LL):fT A E 54 [.d (.sl 1 l_)]=g54 A E l_:=by kernel_rfl
def g175 (e_0 e_1:Int)(e_2:BA)(e_3:Int)(e_4 e_5:LL):Option PRes:=zC E 1000206 [.d (nI 0), .d (nI 2),kE e_0 e_1 e_2 e_3 e_4 e_5, .yld 0 (u9c 175), .agg [.any, .any, .any, .ptr 1 0, .any, .any, .any, .any, .any, .any], .fn 3 [.d (nI 0)]] fun p1=>yB A p1 0 fun b3=>bif b3 then yB A p1 1 fun b4=>yI A p1 2 fun n5=>yI A p1 3 fun n6=>vL [nI n5] else yB A p1 1 fun b7=>yI A p1 2 fun n8=>vL [nI n8]
def q0s (e_0 e_1:Int)(e_2:BA)(e_3:Int)(e_4 e_5:LL):fT A E 175 [.agg [.d (.int .i64 e_0), .d (.int .i64 e_1), .d (.str e_2), .d (.int .i64 e_3), .d (.sl 1 e_4), .d (.sl 6 e_5)]]=g175 A E e_0 e_1 e_2 e_3 e_4 e_5:=by kernel_rfl
def g143 (e_0 e_1:Int)(e_2:BA)(e_3:Int)(e_4 e_5:LL):Option PRes:=zC E 175 [kE e_0 e_1 e_2 e_3 e_4 e_5] fun p1=>yI A p1 0 fun n3=>x0u (bif (A.ilt 60 n3)then vB true else zC E 176 [kE e_0 e_1 e_2 e_3 e_4 e_5] fun p4=>yI A p4 0 fun n6=>vB (A.ilt 12 n6)) fun ds7=>zB A ds7 0 fun b8=>bif b8 then vL [.bool false] else zC E 1000206 [.d (nI 0), .d (nI 2),kE e_0 e_1 e_2 e_3 e_4 e_5, .yld 0 (u9c 143), .agg [.any, .any, .ptr 1 0, .any, .any, .any, .any, .any, .any, .any, .any, .any, .any, .any, .any, .any, .any, .any], .fn 4 [.d (.bool false)]] fun p9=>yB A p9 0 fun b11=>bif b11 then yB A p9 1 fun b12=>yB A p9 2 fun b13=>vL [.bool b13] else yB A p9 1 fun b14=>yB A p9 2 fun b15=>vL [.bool true]
def q1j (e_0 e_1:Int)(e_2:BA)(e_3:Int)(e_4 e_5:LL):fT A E 143 [.agg [.d (.int .i64 e_0), .d (.int .i64 e_1), .d (.str e_2), .d (.int .i64 e_3), .d (.sl 1 e_4), .d (.sl 6 e_5)]]=g143 A E e_0 e_1 e_2 e_3 e_4 e_5:=by kernel_rfl
def u8g (k_ n_:Int)(s_:BA)(o_:Int)(ar_ su_:LL)(m_:Int):Option PRes:=bif (A.bnot true)then vL [.bool false, .bool false,nI (zW A (A.add m_ 1))] else E.lp (fun ds1=>zL A ds1 0 6 fun l2=>zI A ds1 1 fun n3=>zI A ds1 2 fun n4=>zI A ds1 3 fun n5=>bif (A.ilt n4 n3)then iT (A.inr n4 (A.rlen l2)) <| oE A (A.row l2 n4) 0 fun n6 n7 s8 n9 l10 l11=>zC E 1000206 [.d (nI 0), .d (nI 2),kE n6 n7 s8 n9 l10 l11, .yld 0 (u9c 175), .agg [.any, .any, .any, .ptr 1 0, .any, .any, .any, .any, .any, .any], .fn 3 [.d (nI n5)]] fun p12=>yB A p12 0 fun b14=>bif b14 then yB A p12 1 fun b15=>yI A p12 2 fun n16=>yI A p12 3 fun n17=>iT (A.bnot b15) <| some (.inr (.val [.bool true, .bool false,nI n16,nI n17])) else yB A p12 1 fun b18=>yI A p12 2 fun n19=>bif (A.bnot b18)then some (.inr (.val [.bool false, .bool false,nI n19])) else iL [.sl 6 l2,nI n3,nI (zW A (A.add n4 1)),nI n19] else some (.inr (.val [.bool false, .bool true,nI n5]))) [.sl 6 su_,nI (A.rlen su_),nI 0,nI (zW A (A.add m_ 1))]
def u4i (k_ n_:Int)(s_:BA)(o_:Int)(ar_ su_:LL)(m_:Int):fB A E 206 0 [.agg [.d (.int .i64 k_), .d (.int .i64 n_), .d (.str s_), .d (.int .i64 o_), .d (.sl 1 ar_), .d (.sl 6 su_)], .yld 0 (u9c 175)] [.cells (.rcd .ready) [.any, .any, .any, .ptr 1 0, .any, .any, .any, .any, .any, .any], .cells (.ty 3) [.d (.int .i64 m_)]]=u8g A E k_ n_ s_ o_ ar_ su_ m_:=by kernel_rfl
def u8h (k_ n_:Int)(s_:BA)(o_:Int)(ar_ su_:LL)(b_:Bool):Option PRes:=zC E 178 [kE k_ n_ s_ o_ ar_ su_] fun p1=>yB A p1 0 fun b3=>bif (A.bnot b3)then bif (A.bnot false)then vL [.bool true, .bool false, .bool false] else E.lp (fun ds4=>zL A ds4 0 6 fun l5=>zI A ds4 1 fun n6=>zI A ds4 2 fun n7=>zB A ds4 3 fun b8=>bif (A.ilt n7 n6)then iT (A.inr n7 (A.rlen l5)) <| oE A (A.row l5 n7) 0 fun n9 n10 s11 n12 l13 l14=>none else some (.inr (.val [.bool true, .bool true, .bool b8]))) [.sl 6 su_,nI (A.rlen su_),nI 0, .bool false] else bif (A.bnot true)then vL [.bool false, .bool false, .bool b_] else E.lp (fun ds15=>zL A ds15 0 6 fun l16=>zI A ds15 1 fun n17=>zI A ds15 2 fun n18=>zB A ds15 3 fun b19=>bif (A.ilt n18 n17)then iT (A.inr n18 (A.rlen l16)) <| oE A (A.row l16 n18) 0 fun n20 n21 s22 n23 l24 l25=>zC E 1000206 [.d (nI 0), .d (nI 2),kE n20 n21 s22 n23 l24 l25, .yld 0 (u9c 143), .agg [.any, .any, .ptr 1 0, .any, .any, .any, .any, .any, .any, .any, .any, .any, .any, .any, .any, .any, .any, .any], .fn 4 [.d (.bool b19)]] fun p26=>yB A p26 0 fun b28=>bif b28 then yB A p26 1 fun b29=>yB A p26 2 fun b30=>iT (A.bnot b29) <| some (.inr (.val [.bool true, .bool false, .bool b30])) else yB A p26 1 fun b31=>yB A p26 2 fun b32=>bif (A.bnot b31)then some (.inr (.val [.bool false, .bool false, .bool b32])) else iL [.sl 6 l16,nI n17,nI (zW A (A.add n18 1)), .bool b32] else some (.inr (.val [.bool false, .bool true, .bool b19]))) [.sl 6 su_,nI (A.rlen su_),nI 0, .bool b_]
def u4j (k_ n_:Int)(s_:BA)(o_:Int)(ar_ su_:LL)(b_:Bool):fB A E 206 0 [.agg [.d (.int .i64 k_), .d (.int .i64 n_), .d (.str s_), .d (.int .i64 o_), .d (.sl 1 ar_), .d (.sl 6 su_)], .yld 0 (u9c 143)] [.cells (.rcd .ready) [.any, .any, .ptr 1 0, .any, .any, .any, .any, .any, .any, .any, .any, .any, .any, .any, .any, .any, .any, .any], .cells (.ty 4) [.d (.bool b_)]]=u8h A E k_ n_ s_ o_ ar_ su_ b_:=by kernel_rfl
def k9t (l_:LL)(from_:Int):Option PRes:=zC E 1000228 (kP 285 l_ from_) fun p1=>yB A p1 0 fun b3=>bif b3 then yI A p1 1 fun n4=>oP A p1.leaves 2 fun l5 n6=>vL [nI 0,nI 0, .str (bs []),nI 0, .sl 1 [], .sl 6 [],nI n4, .bool false] else oE A p1.leaves 1 fun n7 n8 s9 n10 l11 l12=>oP A p1.leaves 7 fun l13 n14=>vL [nI n7,nI n8, .str s9,nI n10, .sl 1 l11, .sl 6 l12,nI n14, .bool true]
def q0f (l_:LL)(from_:Int):fT A E 204 [.d (.sl 4 l_), .d (.int .i64 from_)]=k9t A E l_ from_:=by kernel_rfl
def z5w (A:Sy)(E:Env)(s:LL):Option PRes:=E.lp (fun ds1=>zL A ds1 0 1 fun l2=>zI A ds1 1 fun n3=>zI A ds1 2 fun n4=>bif (A.ilt n4 n3)then iT (A.inr n4 (A.rlen l2)) <| zS A (A.row l2 n4) 0 fun s5=>zC E 208 [.d (.str s5)] fun p6=>yB A p6 0 fun b8=>bif b8 then some (.inr (.val [.bool (A.ile 0 n4)])) else iL [.sl 1 l2,nI n3,nI (zW A (A.add n4 1))] else some (.inr (.val [.bool (A.ile 0 (-1))]))) [.sl 1 s,nI (A.rlen s),nI 0]
def z0f (A:Sy)(E:Env)(s:LL):fT A E 144 [.d (.sl 1 s), .fn 208 []]=z5w A E s:=by kernel_rfl
def k9s (s_:BA):Option PRes:=zC E 209 [.d (.str s_)] fun p1=>yB A p1 0 fun b3=>vL [.bool (A.bnot b3)]
def q0e (s_:BA):fT A E 208 [.d (.str s_)]=k9s A E s_:=by kernel_rfl
def u6v (A:Sy)(E:Env)(s:LL):Option PRes:=zC E 244 [.d (.sl 6 s), .fn 233 []] fun p1=>yI A p1 0 fun n3=>vL [.bool (A.ile 0 n3)]
def u3l (A:Sy)(E:Env)(s:LL):fT A E 232 [.d (.sl 6 s), .fn 233 []]=u6v A E s:=by kernel_rfl
def z5u (A:Sy)(E:Env)(s:LL):Option PRes:=E.lp (fun ds1=>zL A ds1 0 6 fun l2=>zI A ds1 1 fun n3=>zI A ds1 2 fun n4=>bif (A.ilt n4 n3)then iT (A.inr n4 (A.rlen l2)) <| oE A (A.row l2 n4) 0 fun n5 n6 s7 n8 l9 l10=>zC E 233 [kE n5 n6 s7 n8 l9 l10] fun p11=>yB A p11 0 fun b13=>bif b13 then some (.inr (.val [nI n4])) else iL [.sl 6 l2,nI n3,nI (zW A (A.add n4 1))] else some (.inr (.val [nI (-1)]))) [.sl 6 s,nI (A.rlen s),nI 0]
def z0e (A:Sy)(E:Env)(s:LL):fT A E 244 [.d (.sl 6 s), .fn 233 []]=z5u A E s:=by kernel_rfl
def k9i (x_0 x_1:Int)(x_2:BA)(x_3:Int)(x_4 x_5:LL):Option PRes:=zC E 231 [kE x_0 x_1 x_2 x_3 x_4 x_5] fun p1=>yB A p1 0 fun b3=>vL [.bool (A.bnot b3)]
def w9u (x_0 x_1:Int)(x_2:BA)(x_3:Int)(x_4 x_5:LL):fT A E 233 [.agg [.d (.int .i64 x_0), .d (.int .i64 x_1), .d (.str x_2), .d (.int .i64 x_3), .d (.sl 1 x_4), .d (.sl 6 x_5)]]=k9i A E x_0 x_1 x_2 x_3 x_4 x_5:=by kernel_rfl
def k9v (l_:LL)(at_:Int):Option PRes:=zC E 203 [.d (.sl 4 l_), .d (nI at_)] fun p1=>yB A p1 0 fun b3=>bif (A.bnot b3)then vL [.str (bs []), .str (bs []),nI 0, .bool false] else zC E 226 [.d (.sl 4 l_), .d (nI at_)] fun p4=>yS A p4 0 fun s6=>yS A p4 1 fun s7=>yI A p4 2 fun n8=>yB A p4 3 fun b9=>bif (A.bnot b9)then vL [.str (bs []), .str (bs []),nI n8, .bool false] else vL [.str s6, .str s7,nI n8, .bool true]
def q0h (l_:LL)(at_:Int):fT A E 202 [.d (.sl 4 l_), .d (.int .i64 at_)]=k9v A E l_ at_:=by kernel_rfl
def k9m (l_:LL)(from_:Int):Option PRes:=zC E 1000241 (kP 285 l_ from_) fun p1=>yB A p1 0 fun b3=>bif b3 then yI A p1 1 fun n4=>oP A p1.leaves 2 fun l5 n6=>vL [.str (bs []), .str (bs []),nI n4, .bool false] else yS A p1 1 fun s7=>yS A p1 2 fun s8=>oP A p1.leaves 3 fun l9 n10=>vL [.str s7, .str s8,nI n10, .bool true]
def w9y (l_:LL)(from_:Int):fT A E 226 [.d (.sl 4 l_), .d (.int .i64 from_)]=k9m A E l_ from_:=by kernel_rfl
end
noncomputable section
variable (A : Sy) (E : Env)
def b243 (A:Sy)(E:Env)(toks:LL)(at_:Int)(s_:BA):Option PRes:=iT (A.inr at_ (A.rlen toks)) <| oT A (A.row toks at_) 0 fun n1 s2 n3 n4=>x0u (bif (A.seq s2 s_)then bif (A.ieq n1 1)then vB true else vB (A.ieq n1 5) else vB false) fun ds5=>zB A ds5 0 fun b6=>bif (A.bnot b6)then vL [.bool false, .sl 4 toks,nI at_] else vL [.bool true, .sl 4 toks,nI (zW A (A.add at_ 1))]
def q5m (toks:LL)(at_:Int)(s_:BA):fB A E 243 0 [.ptr 0 0, .d (.str s_)] [.cells (.ty 266) [.d (.sl 4 toks), .d (.int .i64 at_)]]=b243 A E toks at_ s_:=by kernel_rfl
def b249 (A:Sy)(E:Env)(toks:LL)(at_:Int):Option PRes:=iT (A.inr at_ (A.rlen toks)) <| oT A (A.row toks at_) 0 fun n1 s2 n3 n4=>bif (A.ieq n1 2)then vL [.bool true, .sl 4 toks,nI at_] else iT (A.inr at_ (A.rlen toks)) <| oT A (A.row toks at_) 0 fun n5 s6 n7 n8=>x0u (bif (A.seq s6 (bs [116,114,117,101]))then bif (A.ieq n5 1)then vB true else vB (A.ieq n5 5) else vB false) fun ds9=>zB A ds9 0 fun b10=>bif b10 then vL [.bool true, .sl 4 toks,nI at_] else iT (A.inr at_ (A.rlen toks)) <| oT A (A.row toks at_) 0 fun n11 s12 n13 n14=>x0u (bif (A.seq s12 (bs [102,97,108,115,101]))then bif (A.ieq n11 1)then vB true else vB (A.ieq n11 5) else vB false) fun ds15=>zB A ds15 0 fun b16=>vL [.bool b16, .sl 4 toks,nI at_]
def q5k (toks:LL)(at_:Int):fB A E 249 0 [.ptr 0 0] [.cells (.ty 266) [.d (.sl 4 toks), .d (.int .i64 at_)]]=b249 A E toks at_:=by kernel_rfl
def b269 (toks:LL)(at_ from_ to_:Int):Option PRes:=E.lp (fun ds1=>zI A ds1 0 fun n2=>zI A ds1 1 fun n3=>oP A ds1 2 fun l4 n5=>bif (A.ile n3 n2)then zC E 275 [.d (nI n3)] fun p6=>yS A p6 0 fun s8=>zC E 1000243 (kS 0 s8 l4 n5) fun p9=>yB A p9 0 fun b11=>oP A p9.leaves 1 fun l12 n13=>bif b11 then some (.inr (.val [nI n3, .bool true, .sl 4 l12,nI n13])) else iL [nI n2,nI (zW A (A.add n3 1)), .sl 4 l12,nI n13] else some (.inr (.val [nI 0, .bool false, .sl 4 l4,nI n5]))) [nI to_,nI from_, .sl 4 toks,nI at_]
def q5f (toks:LL)(at_ from_ to_:Int):fB A E 269 0 [.ptr 0 0, .d (.int .i64 from_), .d (.int .i64 to_)] [.cells (.ty 266) [.d (.sl 4 toks), .d (.int .i64 at_)]]=b269 A E toks at_ from_ to_:=by kernel_rfl
def b228 (toks:LL)(at_:Int):Option PRes:=zC E 1000242 (kP 285 toks at_) fun p1=>yB A p1 0 fun b3=>bif b3 then yI A p1 1 fun n4=>oP A p1.leaves 2 fun l5 n6=>vL [.bool true,nI n4, .sl 4 l5,nI n6] else oE A p1.leaves 1 fun n7 n8 s9 n10 l11 l12=>oP A p1.leaves 7 fun l13 n14=>zC E 1000243 (kS 0 (bs [45,62]) l13 n14) fun p15=>yB A p15 0 fun b17=>oP A p15.leaves 1 fun l18 n19=>bif b17 then zC E 1000228 (kP 285 l18 n19) fun p20=>yB A p20 0 fun b22=>bif b22 then yI A p20 1 fun n23=>oP A p20.leaves 2 fun l24 n25=>vL [.bool true,nI n23, .sl 4 l24,nI n25] else oE A p20.leaves 1 fun n26 n27 s28 n29 l30 l31=>oP A p20.leaves 7 fun l32 n33=>vL [.bool false,nI 9,nI 0, .str (bs []),nI 0, .sl 1 [], .sl 6 [[nI n7,nI n8, .str s9,nI n10, .sl 1 l11, .sl 6 l12],[nI n26,nI n27, .str s28,nI n29, .sl 1 l30, .sl 6 l31]], .sl 4 l32,nI n33] else vL [.bool false,nI n7,nI n8, .str s9,nI n10, .sl 1 l11, .sl 6 l12, .sl 4 l18,nI n19]
def q5p (toks:LL)(at_:Int):fB A E 228 285 [.ptr 0 0] [.cells (.ty 266) [.d (.sl 4 toks), .d (.int .i64 at_)]]=b228 A E toks at_:=by kernel_rfl
def b241 (toks:LL)(at_:Int):Option PRes:=zC E 1000243 (kS 0 (bs [110,111,116]) toks at_) fun p1=>yB A p1 0 fun b3=>oP A p1.leaves 1 fun l4 n5=>bif b3 then zC E 1000248 (kP 285 l4 n5) fun p6=>yB A p6 0 fun b8=>bif b8 then yI A p6 1 fun n9=>oP A p6.leaves 2 fun l10 n11=>vL [.bool true,nI n9, .sl 4 l10,nI n11] else yS A p6 1 fun s12=>oP A p6.leaves 2 fun l13 n14=>vL [.bool false, .str s12, .str (bs [102,97,108,115,101]), .sl 4 l13,nI n14] else zC E 1000249 (kP 0 l4 n5) fun p15=>yB A p15 0 fun b17=>oP A p15.leaves 1 fun l18 n19=>bif (A.bnot b17)then zC E 1000248 (kP 285 l18 n19) fun p20=>yB A p20 0 fun b22=>bif b22 then yI A p20 1 fun n23=>oP A p20.leaves 2 fun l24 n25=>vL [.bool true,nI n23, .sl 4 l24,nI n25] else yS A p20 1 fun s26=>oP A p20.leaves 2 fun l27 n28=>vL [.bool false, .str s26, .str (bs [116,114,117,101]), .sl 4 l27,nI n28] else zC E 1000250 (kP 285 l18 n19) fun p29=>yB A p29 0 fun b31=>bif b31 then yI A p29 1 fun n32=>oP A p29.leaves 2 fun l33 n34=>vL [.bool true,nI n32, .sl 4 l33,nI n34] else yS A p29 1 fun s35=>oP A p29.leaves 2 fun l36 n37=>zC E 1000251 (kN [[.str (bs [40])]] l36 n37) fun p38=>yB A p38 0 fun b40=>bif b40 then yI A p38 1 fun n41=>oP A p38.leaves 2 fun l42 n43=>yL A p38 4 1 fun l44=>vL [.bool true,nI n41, .sl 4 l42,nI n43] else oP A p38.leaves 1 fun l45 n46=>yL A p38 3 1 fun l47=>zC E 1000248 (kP 285 l45 n46) fun p48=>yB A p48 0 fun b50=>bif b50 then yI A p48 1 fun n51=>oP A p48.leaves 2 fun l52 n53=>vL [.bool true,nI n51, .sl 4 l52,nI n53] else yS A p48 1 fun s54=>oP A p48.leaves 2 fun l55 n56=>zC E 1000251 (kN [[.str (bs [41])]] l55 n56) fun p57=>yB A p57 0 fun b59=>bif b59 then yI A p57 1 fun n60=>oP A p57.leaves 2 fun l61 n62=>yL A p57 4 1 fun l63=>vL [.bool true,nI n60, .sl 4 l61,nI n62] else oP A p57.leaves 1 fun l64 n65=>yL A p57 3 1 fun l66=>vL [.bool false, .str s54, .str s35, .sl 4 l64,nI n65]
def q5o (toks:LL)(at_:Int):fB A E 241 285 [.ptr 0 0] [.cells (.ty 266) [.d (.sl 4 toks), .d (.int .i64 at_)]]=b241 A E toks at_:=by kernel_rfl
def b242 (toks:LL)(at_:Int):Option PRes:=zC E 1000252 (kP 285 toks at_) fun p1=>yB A p1 0 fun b3=>bif b3 then yI A p1 1 fun n4=>oP A p1.leaves 2 fun l5 n6=>vL [.bool true,nI n4, .sl 4 l5,nI n6] else oE A p1.leaves 1 fun n7 n8 s9 n10 l11 l12=>oP A p1.leaves 7 fun l13 n14=>zC E 1000243 (kS 0 (bs [102,98,121]) l13 n14) fun p15=>yB A p15 0 fun b17=>oP A p15.leaves 1 fun l18 n19=>bif b17 then zC E 1000242 (kP 285 l18 n19) fun p20=>yB A p20 0 fun b22=>bif b22 then yI A p20 1 fun n23=>oP A p20.leaves 2 fun l24 n25=>vL [.bool true,nI n23, .sl 4 l24,nI n25] else oE A p20.leaves 1 fun n26 n27 s28 n29 l30 l31=>oP A p20.leaves 7 fun l32 n33=>vL [.bool false,nI 8,nI 0, .str (bs []),nI 0, .sl 1 [], .sl 6 [[nI n7,nI n8, .str s9,nI n10, .sl 1 l11, .sl 6 l12],[nI n26,nI n27, .str s28,nI n29, .sl 1 l30, .sl 6 l31]], .sl 4 l32,nI n33] else vL [.bool false,nI n7,nI n8, .str s9,nI n10, .sl 1 l11, .sl 6 l12, .sl 4 l18,nI n19]
def q5n (toks:LL)(at_:Int):fB A E 242 285 [.ptr 0 0] [.cells (.ty 266) [.d (.sl 4 toks), .d (.int .i64 at_)]]=b242 A E toks at_:=by kernel_rfl
def b248 (toks:LL)(at_:Int):Option PRes:=iT (A.inr at_ (A.rlen toks)) <| oT A (A.row toks at_) 0 fun n1 s2 n3 n4=>x0u (bif (A.bnot (A.ieq n1 1))then vB true else zC E 123 [.d (.str s2)] fun p5=>yB A p5 0 fun b7=>vB b7) fun ds8=>zB A ds8 0 fun b9=>bif b9 then vL [.bool true,nI at_, .sl 4 toks,nI at_] else vL [.bool false, .str s2, .sl 4 toks,nI (zW A (A.add at_ 1))]
def q5l (toks:LL)(at_:Int):fB A E 248 285 [.ptr 0 0] [.cells (.ty 266) [.d (.sl 4 toks), .d (.int .i64 at_)]]=b248 A E toks at_:=by kernel_rfl
def b250 (toks:LL)(at_:Int):Option PRes:=zC E 1000249 (kP 0 toks at_) fun p1=>yB A p1 0 fun b3=>oP A p1.leaves 1 fun l4 n5=>bif (A.bnot b3)then vL [.bool true,nI n5, .sl 4 l4,nI n5] else iT (A.inr n5 (A.rlen l4)) <| oT A (A.row l4 n5) 0 fun n6 s7 n8 n9=>vL [.bool false, .str s7, .sl 4 l4,nI (zW A (A.add n5 1))]
def q5j (toks:LL)(at_:Int):fB A E 250 285 [.ptr 0 0] [.cells (.ty 266) [.d (.sl 4 toks), .d (.int .i64 at_)]]=b250 A E toks at_:=by kernel_rfl
def b252 (toks:LL)(at_:Int):Option PRes:=zC E 1000262 (kP 285 toks at_) fun p1=>yB A p1 0 fun b3=>bif b3 then yI A p1 1 fun n4=>oP A p1.leaves 2 fun l5 n6=>vL [.bool true,nI n4, .sl 4 l5,nI n6] else oE A p1.leaves 1 fun n7 n8 s9 n10 l11 l12=>oP A p1.leaves 7 fun l13 n14=>E.lp (fun ds15=>zI A ds15 0 fun n16=>zI A ds15 1 fun n17=>oP A ds15 2 fun l18 n19=>zI A ds15 4 fun n20=>oT A ds15 5 fun n21 s22 n23 n24=>oT A ds15 9 fun n25 s26 n27 n28=>zI A ds15 13 fun n29=>zS A ds15 14 fun s30=>zI A ds15 15 fun n31=>zL A ds15 16 1 fun l32=>zL A ds15 17 6 fun l33=>zC E 1000269 (kO n16 n17 l18 n19) fun p34=>yI A p34 0 fun n36=>yB A p34 1 fun b37=>oP A p34.leaves 2 fun l38 n39=>bif (A.bnot b37)then some (.inr (.val [.bool false,nI n28,nI n29, .str s30,nI n31, .sl 1 l32, .sl 6 l33, .sl 4 l38,nI n39])) else zC E 1000262 (kP 285 l38 n39) fun p40=>yB A p40 0 fun b42=>bif b42 then yI A p40 1 fun n43=>oP A p40.leaves 2 fun l44 n45=>some (.inr (.val [.bool true,nI n43, .sl 4 l44,nI n45])) else oE A p40.leaves 1 fun n46 n47 s48 n49 l50 l51=>oP A p40.leaves 7 fun l52 n53=>zC E 270 [.d (nI n36),kE n28 n29 s30 n31 l32 l33,kE n46 n47 s48 n49 l50 l51] fun p54=>oE A p54.leaves 0 fun n56 n57 s58 n59 l60 l61=>iL [nI n16,nI n17, .sl 4 l52,nI n53,nI n20,nI n21, .str s22,nI n23,nI n24,nI n25, .str s26,nI n27,nI n56,nI n57, .str s58,nI n59, .sl 1 l60, .sl 6 l61]) [nI 9,nI 10, .sl 4 l13,nI n14,nI 0,nI 0, .str (bs []),nI 0,nI 0,nI 0, .str (bs []),nI 0,nI n7,nI n8, .str s9,nI n10, .sl 1 l11, .sl 6 l12]
def q5h (toks:LL)(at_:Int):fB A E 252 285 [.ptr 0 0] [.cells (.ty 266) [.d (.sl 4 toks), .d (.int .i64 at_)]]=b252 A E toks at_:=by kernel_rfl
def b262 (toks:LL)(at_:Int):Option PRes:=zC E 1000271 (kP 285 toks at_) fun p1=>yB A p1 0 fun b3=>bif b3 then yI A p1 1 fun n4=>oP A p1.leaves 2 fun l5 n6=>vL [.bool true,nI n4, .sl 4 l5,nI n6] else oE A p1.leaves 1 fun n7 n8 s9 n10 l11 l12=>oP A p1.leaves 7 fun l13 n14=>E.lp (fun ds15=>zI A ds15 0 fun n16=>zI A ds15 1 fun n17=>oP A ds15 2 fun l18 n19=>zI A ds15 4 fun n20=>oT A ds15 5 fun n21 s22 n23 n24=>oT A ds15 9 fun n25 s26 n27 n28=>zI A ds15 13 fun n29=>zS A ds15 14 fun s30=>zI A ds15 15 fun n31=>zL A ds15 16 1 fun l32=>zL A ds15 17 6 fun l33=>zC E 1000269 (kO n16 n17 l18 n19) fun p34=>yI A p34 0 fun n36=>yB A p34 1 fun b37=>oP A p34.leaves 2 fun l38 n39=>bif (A.bnot b37)then some (.inr (.val [.bool false,nI n28,nI n29, .str s30,nI n31, .sl 1 l32, .sl 6 l33, .sl 4 l38,nI n39])) else zC E 1000271 (kP 285 l38 n39) fun p40=>yB A p40 0 fun b42=>bif b42 then yI A p40 1 fun n43=>oP A p40.leaves 2 fun l44 n45=>some (.inr (.val [.bool true,nI n43, .sl 4 l44,nI n45])) else oE A p40.leaves 1 fun n46 n47 s48 n49 l50 l51=>oP A p40.leaves 7 fun l52 n53=>zC E 270 [.d (nI n36),kE n28 n29 s30 n31 l32 l33,kE n46 n47 s48 n49 l50 l51] fun p54=>oE A p54.leaves 0 fun n56 n57 s58 n59 l60 l61=>iL [nI n16,nI n17, .sl 4 l52,nI n53,nI n20,nI n21, .str s22,nI n23,nI n24,nI n25, .str s26,nI n27,nI n56,nI n57, .str s58,nI n59, .sl 1 l60, .sl 6 l61]) [nI 8,nI 8, .sl 4 l13,nI n14,nI 0,nI 0, .str (bs []),nI 0,nI 0,nI 0, .str (bs []),nI 0,nI n7,nI n8, .str s9,nI n10, .sl 1 l11, .sl 6 l12]
def q5g (toks:LL)(at_:Int):fB A E 262 285 [.ptr 0 0] [.cells (.ty 266) [.d (.sl 4 toks), .d (.int .i64 at_)]]=b262 A E toks at_:=by kernel_rfl
def b271 (toks:LL)(at_:Int):Option PRes:=zC E 1000276 (kP 285 toks at_) fun p1=>yB A p1 0 fun b3=>bif b3 then yI A p1 1 fun n4=>oP A p1.leaves 2 fun l5 n6=>vL [.bool true,nI n4, .sl 4 l5,nI n6] else oE A p1.leaves 1 fun n7 n8 s9 n10 l11 l12=>oP A p1.leaves 7 fun l13 n14=>zC E 1000269 (kO 11 16 l13 n14) fun p15=>yI A p15 0 fun n17=>yB A p15 1 fun b18=>oP A p15.leaves 2 fun l19 n20=>bif b18 then zC E 1000276 (kP 285 l19 n20) fun p21=>yB A p21 0 fun b23=>bif b23 then yI A p21 1 fun n24=>oP A p21.leaves 2 fun l25 n26=>vL [.bool true,nI n24, .sl 4 l25,nI n26] else oE A p21.leaves 1 fun n27 n28 s29 n30 l31 l32=>oP A p21.leaves 7 fun l33 n34=>zC E 270 [.d (nI n17),kE n7 n8 s9 n10 l11 l12,kE n27 n28 s29 n30 l31 l32] fun p35=>oE A p35.leaves 0 fun n37 n38 s39 n40 l41 l42=>vL [.bool false,nI n37,nI n38, .str s39,nI n40, .sl 1 l41, .sl 6 l42, .sl 4 l33,nI n34] else vL [.bool false,nI n7,nI n8, .str s9,nI n10, .sl 1 l11, .sl 6 l12, .sl 4 l19,nI n20]
def q5e (toks:LL)(at_:Int):fB A E 271 285 [.ptr 0 0] [.cells (.ty 266) [.d (.sl 4 toks), .d (.int .i64 at_)]]=b271 A E toks at_:=by kernel_rfl
def b276 (toks:LL)(at_:Int):Option PRes:=zC E 1000279 (kP 285 toks at_) fun p1=>yB A p1 0 fun b3=>bif b3 then yI A p1 1 fun n4=>oP A p1.leaves 2 fun l5 n6=>vL [.bool true,nI n4, .sl 4 l5,nI n6] else oE A p1.leaves 1 fun n7 n8 s9 n10 l11 l12=>oP A p1.leaves 7 fun l13 n14=>E.lp (fun ds15=>zI A ds15 0 fun n16=>zI A ds15 1 fun n17=>oP A ds15 2 fun l18 n19=>zI A ds15 4 fun n20=>oT A ds15 5 fun n21 s22 n23 n24=>oT A ds15 9 fun n25 s26 n27 n28=>zI A ds15 13 fun n29=>zS A ds15 14 fun s30=>zI A ds15 15 fun n31=>zL A ds15 16 1 fun l32=>zL A ds15 17 6 fun l33=>zC E 1000269 (kO n16 n17 l18 n19) fun p34=>yI A p34 0 fun n36=>yB A p34 1 fun b37=>oP A p34.leaves 2 fun l38 n39=>bif (A.bnot b37)then some (.inr (.val [.bool false,nI n28,nI n29, .str s30,nI n31, .sl 1 l32, .sl 6 l33, .sl 4 l38,nI n39])) else zC E 1000279 (kP 285 l38 n39) fun p40=>yB A p40 0 fun b42=>bif b42 then yI A p40 1 fun n43=>oP A p40.leaves 2 fun l44 n45=>some (.inr (.val [.bool true,nI n43, .sl 4 l44,nI n45])) else oE A p40.leaves 1 fun n46 n47 s48 n49 l50 l51=>oP A p40.leaves 7 fun l52 n53=>zC E 270 [.d (nI n36),kE n28 n29 s30 n31 l32 l33,kE n46 n47 s48 n49 l50 l51] fun p54=>oE A p54.leaves 0 fun n56 n57 s58 n59 l60 l61=>iL [nI n16,nI n17, .sl 4 l52,nI n53,nI n20,nI n21, .str s22,nI n23,nI n24,nI n25, .str s26,nI n27,nI n56,nI n57, .str s58,nI n59, .sl 1 l60, .sl 6 l61]) [nI 3,nI 4, .sl 4 l13,nI n14,nI 0,nI 0, .str (bs []),nI 0,nI 0,nI 0, .str (bs []),nI 0,nI n7,nI n8, .str s9,nI n10, .sl 1 l11, .sl 6 l12]
def q5d (toks:LL)(at_:Int):fB A E 276 285 [.ptr 0 0] [.cells (.ty 266) [.d (.sl 4 toks), .d (.int .i64 at_)]]=b276 A E toks at_:=by kernel_rfl
def b279 (toks:LL)(at_:Int):Option PRes:=zC E 1000281 (kP 285 toks at_) fun p1=>yB A p1 0 fun b3=>bif b3 then yI A p1 1 fun n4=>oP A p1.leaves 2 fun l5 n6=>vL [.bool true,nI n4, .sl 4 l5,nI n6] else oE A p1.leaves 1 fun n7 n8 s9 n10 l11 l12=>oP A p1.leaves 7 fun l13 n14=>E.lp (fun ds15=>zI A ds15 0 fun n16=>zI A ds15 1 fun n17=>oP A ds15 2 fun l18 n19=>zI A ds15 4 fun n20=>oT A ds15 5 fun n21 s22 n23 n24=>oT A ds15 9 fun n25 s26 n27 n28=>zI A ds15 13 fun n29=>zS A ds15 14 fun s30=>zI A ds15 15 fun n31=>zL A ds15 16 1 fun l32=>zL A ds15 17 6 fun l33=>zC E 1000269 (kO n16 n17 l18 n19) fun p34=>yI A p34 0 fun n36=>yB A p34 1 fun b37=>oP A p34.leaves 2 fun l38 n39=>bif (A.bnot b37)then some (.inr (.val [.bool false,nI n28,nI n29, .str s30,nI n31, .sl 1 l32, .sl 6 l33, .sl 4 l38,nI n39])) else zC E 1000281 (kP 285 l38 n39) fun p40=>yB A p40 0 fun b42=>bif b42 then yI A p40 1 fun n43=>oP A p40.leaves 2 fun l44 n45=>some (.inr (.val [.bool true,nI n43, .sl 4 l44,nI n45])) else oE A p40.leaves 1 fun n46 n47 s48 n49 l50 l51=>oP A p40.leaves 7 fun l52 n53=>zC E 270 [.d (nI n36),kE n28 n29 s30 n31 l32 l33,kE n46 n47 s48 n49 l50 l51] fun p54=>oE A p54.leaves 0 fun n56 n57 s58 n59 l60 l61=>iL [nI n16,nI n17, .sl 4 l52,nI n53,nI n20,nI n21, .str s22,nI n23,nI n24,nI n25, .str s26,nI n27,nI n56,nI n57, .str s58,nI n59, .sl 1 l60, .sl 6 l61]) [nI 5,nI 7, .sl 4 l13,nI n14,nI 0,nI 0, .str (bs []),nI 0,nI 0,nI 0, .str (bs []),nI 0,nI n7,nI n8, .str s9,nI n10, .sl 1 l11, .sl 6 l12]
def q5c (toks:LL)(at_:Int):fB A E 279 285 [.ptr 0 0] [.cells (.ty 266) [.d (.sl 4 toks), .d (.int .i64 at_)]]=b279 A E toks at_:=by kernel_rfl
def b281 (toks:LL)(at_:Int):Option PRes:=zC E 1000243 (kS 0 (bs [45]) toks at_) fun p1=>yB A p1 0 fun b3=>oP A p1.leaves 1 fun l4 n5=>bif b3 then zC E 1000281 (kP 285 l4 n5) fun p6=>yB A p6 0 fun b8=>bif b8 then yI A p6 1 fun n9=>oP A p6.leaves 2 fun l10 n11=>vL [.bool true,nI n9, .sl 4 l10,nI n11] else oE A p6.leaves 1 fun n12 n13 s14 n15 l16 l17=>oP A p6.leaves 7 fun l18 n19=>vL [.bool false,nI 5,nI 0, .str (bs []),nI 1, .sl 1 [], .sl 6 [[nI n12,nI n13, .str s14,nI n15, .sl 1 l16, .sl 6 l17]], .sl 4 l18,nI n19] else zC E 1000243 (kS 0 (bs [110,111,116]) l4 n5) fun p20=>yB A p20 0 fun b22=>oP A p20.leaves 1 fun l23 n24=>bif b22 then zC E 1000281 (kP 285 l23 n24) fun p25=>yB A p25 0 fun b27=>bif b27 then yI A p25 1 fun n28=>oP A p25.leaves 2 fun l29 n30=>vL [.bool true,nI n28, .sl 4 l29,nI n30] else oE A p25.leaves 1 fun n31 n32 s33 n34 l35 l36=>oP A p25.leaves 7 fun l37 n38=>vL [.bool false,nI 5,nI 0, .str (bs []),nI 2, .sl 1 [], .sl 6 [[nI n31,nI n32, .str s33,nI n34, .sl 1 l35, .sl 6 l36]], .sl 4 l37,nI n38] else zC E 1000243 (kS 0 (bs [112,114,101]) l23 n24) fun p39=>yB A p39 0 fun b41=>oP A p39.leaves 1 fun l42 n43=>bif b41 then zC E 1000281 (kP 285 l42 n43) fun p44=>yB A p44 0 fun b46=>bif b46 then yI A p44 1 fun n47=>oP A p44.leaves 2 fun l48 n49=>vL [.bool true,nI n47, .sl 4 l48,nI n49] else oE A p44.leaves 1 fun n50 n51 s52 n53 l54 l55=>oP A p44.leaves 7 fun l56 n57=>vL [.bool false,nI 10,nI 0, .str (bs []),nI 0, .sl 1 [], .sl 6 [[nI n50,nI n51, .str s52,nI n53, .sl 1 l54, .sl 6 l55]], .sl 4 l56,nI n57] else zC E 1000287 (kP 285 l42 n43) fun p58=>yB A p58 0 fun b60=>bif b60 then yI A p58 1 fun n61=>oP A p58.leaves 2 fun l62 n63=>vL [.bool true,nI n61, .sl 4 l62,nI n63] else oE A p58.leaves 1 fun n64 n65 s66 n67 l68 l69=>oP A p58.leaves 7 fun l70 n71=>vL [.bool false,nI n64,nI n65, .str s66,nI n67, .sl 1 l68, .sl 6 l69, .sl 4 l70,nI n71]
def q5b (toks:LL)(at_:Int):fB A E 281 285 [.ptr 0 0] [.cells (.ty 266) [.d (.sl 4 toks), .d (.int .i64 at_)]]=b281 A E toks at_:=by kernel_rfl
def b287 (toks:LL)(at_:Int):Option PRes:=zC E 1000288 (kP 285 toks at_) fun p1=>yB A p1 0 fun b3=>bif b3 then yI A p1 1 fun n4=>oP A p1.leaves 2 fun l5 n6=>vL [.bool true,nI n4, .sl 4 l5,nI n6] else oE A p1.leaves 1 fun n7 n8 s9 n10 l11 l12=>oP A p1.leaves 7 fun l13 n14=>E.lp (fun ds15=>oP A ds15 0 fun l16 n17=>zI A ds15 2 fun n18=>oT A ds15 3 fun n19 s20 n21 n22=>zI A ds15 7 fun n23=>zS A ds15 8 fun s24=>zI A ds15 9 fun n25=>zL A ds15 10 1 fun l26=>zL A ds15 11 6 fun l27=>zC E 1000243 (kS 0 (bs [91]) l16 n17) fun p28=>yB A p28 0 fun b30=>oP A p28.leaves 1 fun l31 n32=>bif b30 then zC E 1000228 (kP 285 l31 n32) fun p33=>yB A p33 0 fun b35=>bif b35 then yI A p33 1 fun n36=>oP A p33.leaves 2 fun l37 n38=>some (.inr (.val [.bool true,nI n36, .sl 4 l37,nI n38])) else oE A p33.leaves 1 fun n39 n40 s41 n42 l43 l44=>oP A p33.leaves 7 fun l45 n46=>zC E 1000251 (kN [[.str (bs [93])]] l45 n46) fun p47=>yB A p47 0 fun b49=>bif b49 then yI A p47 1 fun n50=>oP A p47.leaves 2 fun l51 n52=>yL A p47 4 1 fun l53=>some (.inr (.val [.bool true,nI n50, .sl 4 l51,nI n52])) else oP A p47.leaves 1 fun l54 n55=>yL A p47 3 1 fun l56=>iL [.sl 4 l54,nI n55,nI n18,nI n19, .str s20,nI n21,nI 15,nI 0, .str (bs []),nI 0, .sl 1 [], .sl 6 [[nI n22,nI n23, .str s24,nI n25, .sl 1 l26, .sl 6 l27],[nI n39,nI n40, .str s41,nI n42, .sl 1 l43, .sl 6 l44]]] else zC E 1000243 (kS 0 (bs [119,104,101,110]) l31 n32) fun p57=>yB A p57 0 fun b59=>oP A p57.leaves 1 fun l60 n61=>bif b59 then zC E 1000241 (kP 285 l60 n61) fun p62=>yB A p62 0 fun b64=>bif b64 then yI A p62 1 fun n65=>oP A p62.leaves 2 fun l66 n67=>some (.inr (.val [.bool true,nI n65, .sl 4 l66,nI n67])) else yS A p62 1 fun s68=>yS A p62 2 fun s69=>oP A p62.leaves 3 fun l70 n71=>iL [.sl 4 l70,nI n71,nI n18,nI n19, .str s20,nI n21,nI 11,nI 0, .str s68,nI 0, .sl 1 [[.str s69]], .sl 6 [[nI n22,nI n23, .str s24,nI n25, .sl 1 l26, .sl 6 l27]]] else some (.inr (.val [.bool false,nI n22,nI n23, .str s24,nI n25, .sl 1 l26, .sl 6 l27, .sl 4 l60,nI n61]))) [.sl 4 l13,nI n14,nI 0,nI 0, .str (bs []),nI 0,nI n7,nI n8, .str s9,nI n10, .sl 1 l11, .sl 6 l12]
def q5a (toks:LL)(at_:Int):fB A E 287 285 [.ptr 0 0] [.cells (.ty 266) [.d (.sl 4 toks), .d (.int .i64 at_)]]=b287 A E toks at_:=by kernel_rfl
def b288 (toks:LL)(at_:Int):Option PRes:=iT (A.inr at_ (A.rlen toks)) <| oT A (A.row toks at_) 0 fun n1 s2 n3 n4=>bif (A.ieq n1 3)then vL [.bool false,nI 1,nI n3, .str (bs []),nI 0, .sl 1 [], .sl 6 [], .sl 4 toks,nI (zW A (A.add at_ 1))] else bif (A.ieq n1 2)then vL [.bool false,nI 4,nI 0, .str s2,nI 0, .sl 1 [], .sl 6 [], .sl 4 toks,nI (zW A (A.add at_ 1))] else bif (A.ieq n1 4)then vL [.bool false,nI 17,nI 0, .str s2,nI 0, .sl 1 [], .sl 6 [], .sl 4 toks,nI (zW A (A.add at_ 1))] else zC E 1000289 (kP 285 toks at_) fun p5=>yB A p5 0 fun b7=>bif b7 then yI A p5 1 fun n8=>oP A p5.leaves 2 fun l9 n10=>vL [.bool true,nI n8, .sl 4 l9,nI n10] else oE A p5.leaves 1 fun n11 n12 s13 n14 l15 l16=>oP A p5.leaves 7 fun l17 n18=>vL [.bool false,nI n11,nI n12, .str s13,nI n14, .sl 1 l15, .sl 6 l16, .sl 4 l17,nI n18]
def q4z (toks:LL)(at_:Int):fB A E 288 285 [.ptr 0 0] [.cells (.ty 266) [.d (.sl 4 toks), .d (.int .i64 at_)]]=b288 A E toks at_:=by kernel_rfl
def b289 (toks:LL)(at_:Int):Option PRes:=zC E 1000243 (kS 0 (bs [116,114,117,101]) toks at_) fun p1=>yB A p1 0 fun b3=>oP A p1.leaves 1 fun l4 n5=>bif b3 then vL [.bool false,nI 2,nI 1, .str (bs []),nI 0, .sl 1 [], .sl 6 [], .sl 4 l4,nI n5] else zC E 1000243 (kS 0 (bs [102,97,108,115,101]) l4 n5) fun p6=>yB A p6 0 fun b8=>oP A p6.leaves 1 fun l9 n10=>bif b8 then vL [.bool false,nI 2,nI 0, .str (bs []),nI 0, .sl 1 [], .sl 6 [], .sl 4 l9,nI n10] else zC E 1000243 (kS 0 (bs [91]) l9 n10) fun p11=>yB A p11 0 fun b13=>oP A p11.leaves 1 fun l14 n15=>bif b13 then zC E 1000228 (kP 285 l14 n15) fun p16=>yB A p16 0 fun b18=>bif b18 then yI A p16 1 fun n19=>oP A p16.leaves 2 fun l20 n21=>vL [.bool true,nI n19, .sl 4 l20,nI n21] else oE A p16.leaves 1 fun n22 n23 s24 n25 l26 l27=>oP A p16.leaves 7 fun l28 n29=>E.lp (fun ds30=>zS A ds30 0 fun s31=>oP A ds30 1 fun l32 n33=>zI A ds30 3 fun n34=>zI A ds30 4 fun n35=>zS A ds30 5 fun s36=>zI A ds30 6 fun n37=>zL A ds30 7 6 fun l38=>zC E 1000243 (kS 0 (bs [44]) l32 n33) fun p39=>yB A p39 0 fun b41=>oP A p39.leaves 1 fun l42 n43=>bif b41 then zC E 1000228 (kP 285 l42 n43) fun p44=>yB A p44 0 fun b46=>bif b46 then yI A p44 1 fun n47=>oP A p44.leaves 2 fun l48 n49=>some (.inr (.val [.bool true,nI n47, .sl 4 l48,nI n49])) else oE A p44.leaves 1 fun n50 n51 s52 n53 l54 l55=>oP A p44.leaves 7 fun l56 n57=>iT (A.fits l38 [[nI n50,nI n51, .str s52,nI n53, .sl 1 l54, .sl 6 l55]] 88) <| iL [.str s31, .sl 4 l56,nI n57,nI n34,nI n35, .str s36,nI n37, .sl 6 (A.rapp l38 [[nI n50,nI n51, .str s52,nI n53, .sl 1 l54, .sl 6 l55]])] else zC E 1000251 (kN [[.str s31]] l42 n43) fun p58=>yB A p58 0 fun b60=>bif b60 then yI A p58 1 fun n61=>oP A p58.leaves 2 fun l62 n63=>yL A p58 4 1 fun l64=>some (.inr (.val [.bool true,nI n61, .sl 4 l62,nI n63])) else oP A p58.leaves 1 fun l65 n66=>yL A p58 3 1 fun l67=>some (.inr (.val [.bool false,nI 14,nI 0, .str (bs []),nI 0, .sl 1 [], .sl 6 l38, .sl 4 l65,nI n66]))) [.str (bs [93]), .sl 4 l28,nI n29,nI 0,nI 0, .str (bs []),nI 0, .sl 6 [[nI n22,nI n23, .str s24,nI n25, .sl 1 l26, .sl 6 l27]]] else zC E 1000243 (kS 0 (bs [40]) l14 n15) fun p68=>yB A p68 0 fun b70=>oP A p68.leaves 1 fun l71 n72=>bif b70 then zC E 1000291 (kP 285 l71 n72) fun p73=>yB A p73 0 fun b75=>bif b75 then yI A p73 1 fun n76=>oP A p73.leaves 2 fun l77 n78=>vL [.bool true,nI n76, .sl 4 l77,nI n78] else oE A p73.leaves 1 fun n79 n80 s81 n82 l83 l84=>oP A p73.leaves 7 fun l85 n86=>vL [.bool false,nI n79,nI n80, .str s81,nI n82, .sl 1 l83, .sl 6 l84, .sl 4 l85,nI n86] else zC E 1000243 (kS 0 (bs [109,101,114,103,101]) l71 n72) fun p87=>yB A p87 0 fun b89=>oP A p87.leaves 1 fun l90 n91=>bif b89 then zC E 1000292 (kP 285 l90 n91) fun p92=>yB A p92 0 fun b94=>bif b94 then yI A p92 1 fun n95=>oP A p92.leaves 2 fun l96 n97=>vL [.bool true,nI n95, .sl 4 l96,nI n97] else oE A p92.leaves 1 fun n98 n99 s100 n101 l102 l103=>oP A p92.leaves 7 fun l104 n105=>vL [.bool false,nI n98,nI n99, .str s100,nI n101, .sl 1 l102, .sl 6 l103, .sl 4 l104,nI n105] else zC E 1000243 (kS 0 (bs [105,102]) l90 n91) fun p106=>yB A p106 0 fun b108=>oP A p106.leaves 1 fun l109 n110=>bif b108 then zC E 1000293 (kP 285 l109 n110) fun p111=>yB A p111 0 fun b113=>bif b113 then yI A p111 1 fun n114=>oP A p111.leaves 2 fun l115 n116=>vL [.bool true,nI n114, .sl 4 l115,nI n116] else oE A p111.leaves 1 fun n117 n118 s119 n120 l121 l122=>oP A p111.leaves 7 fun l123 n124=>vL [.bool false,nI n117,nI n118, .str s119,nI n120, .sl 1 l121, .sl 6 l122, .sl 4 l123,nI n124] else zC E 1000248 (kP 285 l109 n110) fun p125=>yB A p125 0 fun b127=>bif b127 then yI A p125 1 fun n128=>oP A p125.leaves 2 fun l129 n130=>vL [.bool true,nI n128, .sl 4 l129,nI n130] else yS A p125 1 fun s131=>oP A p125.leaves 2 fun l132 n133=>zC E 1000243 (kS 0 (bs [40]) l132 n133) fun p134=>yB A p134 0 fun b136=>oP A p134.leaves 1 fun l137 n138=>bif b136 then zC E 1000294 (kS 285 s131 l137 n138) fun p139=>yB A p139 0 fun b141=>bif b141 then yI A p139 1 fun n142=>oP A p139.leaves 2 fun l143 n144=>
 vL [.bool true,nI n142, .sl 4 l143,nI n144] else oE A p139.leaves 1 fun n145 n146 s147 n148 l149 l150=>oP A p139.leaves 7 fun l151 n152=>vL [.bool false,nI n145,nI n146, .str s147,nI n148, .sl 1 l149, .sl 6 l150, .sl 4 l151,nI n152] else vL [.bool false,nI 3,nI 0, .str s131,nI 0, .sl 1 [], .sl 6 [], .sl 4 l137,nI n138]
def q4y (toks:LL)(at_:Int):fB A E 289 285 [.ptr 0 0] [.cells (.ty 266) [.d (.sl 4 toks), .d (.int .i64 at_)]]=b289 A E toks at_:=by kernel_rfl
def b291 (toks:LL)(at_:Int):Option PRes:=zC E 1000228 (kP 285 toks at_) fun p1=>yB A p1 0 fun b3=>bif b3 then yI A p1 1 fun n4=>oP A p1.leaves 2 fun l5 n6=>vL [.bool true,nI n4, .sl 4 l5,nI n6] else oE A p1.leaves 1 fun n7 n8 s9 n10 l11 l12=>oP A p1.leaves 7 fun l13 n14=>zC E 1000243 (kS 0 (bs [119,105,116,104]) l13 n14) fun p15=>yB A p15 0 fun b17=>oP A p15.leaves 1 fun l18 n19=>bif b17 then zC E 1000251 (kN [[.str (bs [91])]] l18 n19) fun p20=>yB A p20 0 fun b22=>bif b22 then yI A p20 1 fun n23=>oP A p20.leaves 2 fun l24 n25=>yL A p20 4 1 fun l26=>vL [.bool true,nI n23, .sl 4 l24,nI n25] else oP A p20.leaves 1 fun l27 n28=>yL A p20 3 1 fun l29=>zC E 1000228 (kP 285 l27 n28) fun p30=>yB A p30 0 fun b32=>bif b32 then yI A p30 1 fun n33=>oP A p30.leaves 2 fun l34 n35=>vL [.bool true,nI n33, .sl 4 l34,nI n35] else oE A p30.leaves 1 fun n36 n37 s38 n39 l40 l41=>oP A p30.leaves 7 fun l42 n43=>zC E 1000251 (kN [[.str (bs [93])],[.str (bs [61])]] l42 n43) fun p44=>yB A p44 0 fun b46=>bif b46 then yI A p44 1 fun n47=>oP A p44.leaves 2 fun l48 n49=>yL A p44 4 1 fun l50=>vL [.bool true,nI n47, .sl 4 l48,nI n49] else oP A p44.leaves 1 fun l51 n52=>yL A p44 3 1 fun l53=>zC E 1000228 (kP 285 l51 n52) fun p54=>yB A p54 0 fun b56=>bif b56 then yI A p54 1 fun n57=>oP A p54.leaves 2 fun l58 n59=>vL [.bool true,nI n57, .sl 4 l58,nI n59] else oE A p54.leaves 1 fun n60 n61 s62 n63 l64 l65=>oP A p54.leaves 7 fun l66 n67=>zC E 1000251 (kN [[.str (bs [41])]] l66 n67) fun p68=>yB A p68 0 fun b70=>bif b70 then yI A p68 1 fun n71=>oP A p68.leaves 2 fun l72 n73=>yL A p68 4 1 fun l74=>vL [.bool true,nI n71, .sl 4 l72,nI n73] else oP A p68.leaves 1 fun l75 n76=>yL A p68 3 1 fun l77=>vL [.bool false,nI 16,nI 0, .str (bs []),nI 0, .sl 1 [], .sl 6 [[nI n7,nI n8, .str s9,nI n10, .sl 1 l11, .sl 6 l12],[nI n36,nI n37, .str s38,nI n39, .sl 1 l40, .sl 6 l41],[nI n60,nI n61, .str s62,nI n63, .sl 1 l64, .sl 6 l65]], .sl 4 l75,nI n76] else zC E 1000251 (kN [[.str (bs [41])]] l18 n19) fun p78=>yB A p78 0 fun b80=>bif b80 then yI A p78 1 fun n81=>oP A p78.leaves 2 fun l82 n83=>yL A p78 4 1 fun l84=>vL [.bool true,nI n81, .sl 4 l82,nI n83] else oP A p78.leaves 1 fun l85 n86=>yL A p78 3 1 fun l87=>vL [.bool false,nI n7,nI n8, .str s9,nI n10, .sl 1 l11, .sl 6 l12, .sl 4 l85,nI n86]
def q4x (toks:LL)(at_:Int):fB A E 291 285 [.ptr 0 0] [.cells (.ty 266) [.d (.sl 4 toks), .d (.int .i64 at_)]]=b291 A E toks at_:=by kernel_rfl
def b292 (toks:LL)(at_:Int):Option PRes:=zC E 1000248 (kP 285 toks at_) fun p1=>yB A p1 0 fun b3=>bif b3 then yI A p1 1 fun n4=>oP A p1.leaves 2 fun l5 n6=>vL [.bool true,nI n4, .sl 4 l5,nI n6] else yS A p1 1 fun s7=>oP A p1.leaves 2 fun l8 n9=>zC E 1000251 (kN [[.str (bs [40])]] l8 n9) fun p10=>yB A p10 0 fun b12=>bif b12 then yI A p10 1 fun n13=>oP A p10.leaves 2 fun l14 n15=>yL A p10 4 1 fun l16=>vL [.bool true,nI n13, .sl 4 l14,nI n15] else oP A p10.leaves 1 fun l17 n18=>yL A p10 3 1 fun l19=>E.lp (fun ds20=>zB A ds20 0 fun b21=>oP A ds20 1 fun l22 n23=>zI A ds20 3 fun n24=>oT A ds20 4 fun n25 s26 n27 n28=>zI A ds20 8 fun n29=>zS A ds20 9 fun s30=>zI A ds20 10 fun n31=>zL A ds20 11 1 fun l32=>zL A ds20 12 6 fun l33=>bif b21 then zC E 1000250 (kP 285 l22 n23) fun p34=>yB A p34 0 fun b36=>bif b36 then yI A p34 1 fun n37=>oP A p34.leaves 2 fun l38 n39=>some (.inr (.val [.bool true,nI n37, .sl 4 l38,nI n39])) else yS A p34 1 fun s40=>oP A p34.leaves 2 fun l41 n42=>iT (A.fits l32 [[.str s40]] 16) <| zC E 1000251 (kN [[.str (bs [45,62])]] l41 n42) fun p43=>yB A p43 0 fun b45=>bif b45 then yI A p43 1 fun n46=>oP A p43.leaves 2 fun l47 n48=>yL A p43 4 1 fun l49=>some (.inr (.val [.bool true,nI n46, .sl 4 l47,nI n48])) else oP A p43.leaves 1 fun l50 n51=>yL A p43 3 1 fun l52=>zC E 1000228 (kP 285 l50 n51) fun p53=>yB A p53 0 fun b55=>bif b55 then yI A p53 1 fun n56=>oP A p53.leaves 2 fun l57 n58=>some (.inr (.val [.bool true,nI n56, .sl 4 l57,nI n58])) else oE A p53.leaves 1 fun n59 n60 s61 n62 l63 l64=>oP A p53.leaves 7 fun l65 n66=>iT (A.fits l33 [[nI n59,nI n60, .str s61,nI n62, .sl 1 l63, .sl 6 l64]] 88) <| zC E 1000251 (kN [[.str (bs [41])]] l65 n66) fun p67=>yB A p67 0 fun b69=>bif b69 then yI A p67 1 fun n70=>oP A p67.leaves 2 fun l71 n72=>yL A p67 4 1 fun l73=>some (.inr (.val [.bool true,nI n70, .sl 4 l71,nI n72])) else oP A p67.leaves 1 fun l74 n75=>yL A p67 3 1 fun l76=>zC E 1000243 (kS 0 (bs [40]) l74 n75) fun p77=>yB A p77 0 fun b79=>oP A p77.leaves 1 fun l80 n81=>iL [.bool b79, .sl 4 l80,nI n81,nI n24,nI n25, .str s26,nI n27,nI n28,nI n29, .str s30,nI n31, .sl 1 (A.rapp l32 [[.str s40]]), .sl 6 (A.rapp l33 [[nI n59,nI n60, .str s61,nI n62, .sl 1 l63, .sl 6 l64]])] else some (.inr (.val [.bool false,nI n28,nI n29, .str s30,nI n31, .sl 1 l32, .sl 6 l33, .sl 4 l22,nI n23]))) [.bool true, .sl 4 l17,nI n18,nI 0,nI 0, .str (bs []),nI 0,nI 12,nI 0, .str s7,nI 0, .sl 1 [], .sl 6 []]
def q4w (toks:LL)(at_:Int):fB A E 292 285 [.ptr 0 0] [.cells (.ty 266) [.d (.sl 4 toks), .d (.int .i64 at_)]]=b292 A E toks at_:=by kernel_rfl
def b293 (toks:LL)(at_:Int):Option PRes:=zC E 1000228 (kP 285 toks at_) fun p1=>yB A p1 0 fun b3=>bif b3 then yI A p1 1 fun n4=>oP A p1.leaves 2 fun l5 n6=>vL [.bool true,nI n4, .sl 4 l5,nI n6] else oE A p1.leaves 1 fun n7 n8 s9 n10 l11 l12=>oP A p1.leaves 7 fun l13 n14=>zC E 1000251 (kN [[.str (bs [116,104,101,110])]] l13 n14) fun p15=>yB A p15 0 fun b17=>bif b17 then yI A p15 1 fun n18=>oP A p15.leaves 2 fun l19 n20=>yL A p15 4 1 fun l21=>vL [.bool true,nI n18, .sl 4 l19,nI n20] else oP A p15.leaves 1 fun l22 n23=>yL A p15 3 1 fun l24=>zC E 1000228 (kP 285 l22 n23) fun p25=>yB A p25 0 fun b27=>bif b27 then yI A p25 1 fun n28=>oP A p25.leaves 2 fun l29 n30=>vL [.bool true,nI n28, .sl 4 l29,nI n30] else oE A p25.leaves 1 fun n31 n32 s33 n34 l35 l36=>oP A p25.leaves 7 fun l37 n38=>zC E 1000251 (kN [[.str (bs [101,108,115,101])]] l37 n38) fun p39=>yB A p39 0 fun b41=>bif b41 then yI A p39 1 fun n42=>oP A p39.leaves 2 fun l43 n44=>yL A p39 4 1 fun l45=>vL [.bool true,nI n42, .sl 4 l43,nI n44] else oP A p39.leaves 1 fun l46 n47=>yL A p39 3 1 fun l48=>zC E 1000228 (kP 285 l46 n47) fun p49=>yB A p49 0 fun b51=>bif b51 then yI A p49 1 fun n52=>oP A p49.leaves 2 fun l53 n54=>vL [.bool true,nI n52, .sl 4 l53,nI n54] else oE A p49.leaves 1 fun n55 n56 s57 n58 l59 l60=>oP A p49.leaves 7 fun l61 n62=>vL [.bool false,nI 7,nI 0, .str (bs []),nI 0, .sl 1 [], .sl 6 [[nI n7,nI n8, .str s9,nI n10, .sl 1 l11, .sl 6 l12],[nI n31,nI n32, .str s33,nI n34, .sl 1 l35, .sl 6 l36],[nI n55,nI n56, .str s57,nI n58, .sl 1 l59, .sl 6 l60]], .sl 4 l61,nI n62]
def q4v (toks:LL)(at_:Int):fB A E 293 285 [.ptr 0 0] [.cells (.ty 266) [.d (.sl 4 toks), .d (.int .i64 at_)]]=b293 A E toks at_:=by kernel_rfl
def b294 (toks:LL)(at_:Int)(s_:BA):Option PRes:=zC E 1000243 (kS 0 (bs [41]) toks at_) fun p1=>yB A p1 0 fun b3=>oP A p1.leaves 1 fun l4 n5=>bif (A.bnot b3)then zC E 1000228 (kP 285 l4 n5) fun p6=>yB A p6 0 fun b8=>bif b8 then yI A p6 1 fun n9=>oP A p6.leaves 2 fun l10 n11=>vL [.bool true,nI n9, .sl 4 l10,nI n11] else oE A p6.leaves 1 fun n12 n13 s14 n15 l16 l17=>oP A p6.leaves 7 fun l18 n19=>E.lp (fun ds20=>zS A ds20 0 fun s21=>oP A ds20 1 fun l22 n23=>zI A ds20 3 fun n24=>oT A ds20 4 fun n25 s26 n27 n28=>zI A ds20 8 fun n29=>zS A ds20 9 fun s30=>zI A ds20 10 fun n31=>zL A ds20 11 6 fun l32=>zC E 1000243 (kS 0 (bs [44]) l22 n23) fun p33=>yB A p33 0 fun b35=>oP A p33.leaves 1 fun l36 n37=>bif b35 then zC E 1000228 (kP 285 l36 n37) fun p38=>yB A p38 0 fun b40=>bif b40 then yI A p38 1 fun n41=>oP A p38.leaves 2 fun l42 n43=>some (.inr (.val [.bool true,nI n41, .sl 4 l42,nI n43])) else oE A p38.leaves 1 fun n44 n45 s46 n47 l48 l49=>oP A p38.leaves 7 fun l50 n51=>iT (A.fits l32 [[nI n44,nI n45, .str s46,nI n47, .sl 1 l48, .sl 6 l49]] 88) <| iL [.str s21, .sl 4 l50,nI n51,nI n24,nI n25, .str s26,nI n27,nI n28,nI n29, .str s30,nI n31, .sl 6 (A.rapp l32 [[nI n44,nI n45, .str s46,nI n47, .sl 1 l48, .sl 6 l49]])] else zC E 1000251 (kN [[.str s21]] l36 n37) fun p52=>yB A p52 0 fun b54=>bif b54 then yI A p52 1 fun n55=>oP A p52.leaves 2 fun l56 n57=>yL A p52 4 1 fun l58=>some (.inr (.val [.bool true,nI n55, .sl 4 l56,nI n57])) else oP A p52.leaves 1 fun l59 n60=>yL A p52 3 1 fun l61=>zC E 1000243 (kS 0 (bs [101,118,101,114,121]) l59 n60) fun p62=>yB A p62 0 fun b64=>oP A p62.leaves 1 fun l65 n66=>bif b64 then zC E 1000287 (kP 285 l65 n66) fun p67=>yB A p67 0 fun b69=>bif b69 then yI A p67 1 fun n70=>oP A p67.leaves 2 fun l71 n72=>some (.inr (.val [.bool true,nI n70, .sl 4 l71,nI n72])) else oE A p67.leaves 1 fun n73 n74 s75 n76 l77 l78=>oP A p67.leaves 7 fun l79 n80=>iT (A.fits l32 [[nI n73,nI n74, .str s75,nI n76, .sl 1 l77, .sl 6 l78]] 88) <| some (.inr (.val [.bool false,nI n28,nI 1, .str s30,nI n31, .sl 1 [], .sl 6 (A.rapp l32 [[nI n73,nI n74, .str s75,nI n76, .sl 1 l77, .sl 6 l78]]), .sl 4 l79,nI n80])) else some (.inr (.val [.bool false,nI n28,nI n29, .str s30,nI n31, .sl 1 [], .sl 6 l32, .sl 4 l65,nI n66]))) [.str (bs [41]), .sl 4 l18,nI n19,nI 0,nI 0, .str (bs []),nI 0,nI 13,nI 0, .str s_,nI 0, .sl 6 [[nI n12,nI n13, .str s14,nI n15, .sl 1 l16, .sl 6 l17]]] else zC E 1000243 (kS 0 (bs [101,118,101,114,121]) l4 n5) fun p81=>yB A p81 0 fun b83=>oP A p81.leaves 1 fun l84 n85=>bif b83 then zC E 1000287 (kP 285 l84 n85) fun p86=>yB A p86 0 fun b88=>bif b88 then yI A p86 1 fun n89=>oP A p86.leaves 2 fun l90 n91=>vL [.bool true,nI n89, .sl 4 l90,nI n91] else oE A p86.leaves 1 fun n92 n93 s94 n95 l96 l97=>oP A p86.leaves 7 fun l98 n99=>iT (A.fits [] [[nI n92,nI n93, .str s94,nI n95, .sl 1 l96, .sl 6 l97]] 88) <| vL [.bool false,nI 13,nI 1, .str s_,nI 0, .sl 1 [], .sl 6 [[nI n92,nI n93, .str s94,nI n95, .sl 1 l96, .sl 6 l97]], .sl 4 l98,nI n99] else vL [.bool false,nI 13,nI 0, .str s_,nI 0, .sl 1 [], .sl 6 [], .sl 4 l84,nI n85]
def q4u (toks:LL)(at_:Int)(s_:BA):fB A E 294 285 [.ptr 0 0, .d (.str s_)] [.cells (.ty 266) [.d (.sl 4 toks), .d (.int .i64 at_)]]=b294 A E toks at_ s_:=by kernel_rfl
def b251 (toks:LL)(at_:Int)(rows:LL):Option PRes:=E.lp (fun ds1=>zI A ds1 0 fun n2=>zI A ds1 1 fun n3=>oP A ds1 2 fun l4 n5=>zL A ds1 4 1 fun l6=>bif (A.ilt n3 n2)then iT (A.inr n3 (A.rlen l6)) <| zS A (A.rown l6 (A.nat n3)) 0 fun s7=>zC E 1000243 (kS 0 s7 l4 n5) fun p8=>yB A p8 0 fun b10=>oP A p8.leaves 1 fun l11 n12=>bif (A.bnot b10)then some (.inr (.val [.bool true,nI n12, .sl 4 l11,nI n12, .sl 1 l6])) else iL [nI n2,nI (zW A (A.add n3 1)), .sl 4 l11,nI n12, .sl 1 l6] else some (.inr (.val [.bool false, .sl 4 l4,nI n5, .sl 1 l6]))) [nI (A.rlen rows),nI 0, .sl 4 toks,nI at_, .sl 1 rows]
def q5i (toks:LL)(at_:Int)(rows:LL):fB A E 251 285 [.ptr 0 0, .own 1] [.cells (.ty 266) [.d (.sl 4 toks), .d (.int .i64 at_)], .arr 9 1 rows]=b251 A E toks at_ rows:=by kernel_rfl
end
section
variable (A : Sy) (E : Env)
def g75 (A:Sy)(E:Env)(c_:Int):Option PRes:=x0u (bif (A.ieq c_ 32)then vB true else vB (A.ieq c_ 9)) fun ds1=>zB A ds1 0 fun b2=>x0u (bif b2 then vB true else vB (A.ieq c_ 10)) fun ds3=>zB A ds3 0 fun b4=>x0u (bif b4 then vB true else vB (A.ieq c_ 13)) fun ds5=>zB A ds5 0 fun b6=>vL [.bool b6]
def q9z (c_:Int):fT A E 75 [.d (.int .u8 c_)]=g75 A E c_:=by kernel_rfl
def g77 (A:Sy)(E:Env)(c_:Int):Option PRes:=vL [.bool (A.bnot (A.ieq c_ 10))]
def q9x (c_:Int):fT A E 77 [.d (.int .u8 c_)]=g77 A E c_:=by kernel_rfl
def g78 (A:Sy)(E:Env)(c_:Int):Option PRes:=x0u (bif (A.ile 97 c_)then vB (A.ile c_ 122) else vB false) fun ds1=>zB A ds1 0 fun b2=>vL [.bool b2]
def q9w (c_:Int):fT A E 78 [.d (.int .u8 c_)]=g78 A E c_:=by kernel_rfl
def g79 (A:Sy)(E:Env)(c_:Int):Option PRes:=x0u (bif (A.ile 65 c_)then vB (A.ile c_ 90) else vB false) fun ds1=>zB A ds1 0 fun b2=>vL [.bool b2]
def q9v (c_:Int):fT A E 79 [.d (.int .u8 c_)]=g79 A E c_:=by kernel_rfl
def g81 (A:Sy)(E:Env)(c_:Int):Option PRes:=x0u (bif (A.ile 48 c_)then vB (A.ile c_ 57) else vB false) fun ds1=>zB A ds1 0 fun b2=>vL [.bool b2]
def q9t (c_:Int):fT A E 81 [.d (.int .u8 c_)]=g81 A E c_:=by kernel_rfl
def g122 (c_:Int):Option PRes:=zC E 78 [.d (.int .u8 c_)] fun p1=>yB A p1 0 fun b3=>x0u (bif b3 then vB true else zC E 79 [.d (.int .u8 c_)] fun p4=>yB A p4 0 fun b6=>vB b6) fun ds7=>zB A ds7 0 fun b8=>x0u (bif b8 then vB true else zC E 81 [.d (.int .u8 c_)] fun p9=>yB A p9 0 fun b11=>vB b11) fun ds12=>zB A ds12 0 fun b13=>x0u (bif b13 then vB true else vB (A.ieq c_ 95)) fun ds14=>zB A ds14 0 fun b15=>vL [.bool b15]
def q1t (c_:Int):fT A E 122 [.d (.int .u8 c_)]=g122 A E c_:=by kernel_rfl
def w5i (A:Sy)(E:Env)(s_:BA):Option PRes:=E.lp (fun ds1=>zS A ds1 0 fun s2=>zI A ds1 1 fun n3=>bif (A.ilt n3 (A.slen s2))then iT (A.inr n3 (A.slen s2)) <| zC E 75 [.d (.int .u8 (A.sbyte s2 n3))] fun p4=>yB A p4 0 fun b6=>bif b6 then iL [.str s2,nI (zW A (A.add n3 1))] else some (.inr (.val [nI n3])) else some (.inr (.val [nI n3]))) [.str s_,nI 0]
def v6a (A:Sy)(E:Env)(s_:BA):fT A E 74 [.d (.str s_), .fn 75 []]=w5i A E s_:=by kernel_rfl
def w5h (A:Sy)(E:Env)(s_:BA):Option PRes:=E.lp (fun ds1=>zS A ds1 0 fun s2=>zI A ds1 1 fun n3=>bif (A.ilt n3 (A.slen s2))then iT (A.inr n3 (A.slen s2)) <| zC E 77 [.d (.int .u8 (A.sbyte s2 n3))] fun p4=>yB A p4 0 fun b6=>bif b6 then iL [.str s2,nI (zW A (A.add n3 1))] else some (.inr (.val [nI n3])) else some (.inr (.val [nI n3]))) [.str s_,nI 0]
def v5z (A:Sy)(E:Env)(s_:BA):fT A E 74 [.d (.str s_), .fn 77 []]=w5h A E s_:=by kernel_rfl
def v6b (A:Sy)(E:Env)(s_:BA):Option PRes:=E.lp (fun ds1=>zS A ds1 0 fun s2=>zI A ds1 1 fun n3=>bif (A.ilt n3 (A.slen s2))then iT (A.inr n3 (A.slen s2)) <| zC E 122 [.d (.int .u8 (A.sbyte s2 n3))] fun p4=>yB A p4 0 fun b6=>bif b6 then iL [.str s2,nI (zW A (A.add n3 1))] else some (.inr (.val [nI n3])) else some (.inr (.val [nI n3]))) [.str s_,nI 0]
def v0e (A:Sy)(E:Env)(s_:BA):fT A E 74 [.d (.str s_), .fn 122 []]=v6b A E s_:=by kernel_rfl
def w5g (A:Sy)(E:Env)(s_:BA):Option PRes:=E.lp (fun ds1=>zS A ds1 0 fun s2=>zI A ds1 1 fun n3=>bif (A.ilt n3 (A.slen s2))then iT (A.inr n3 (A.slen s2)) <| zC E 81 [.d (.int .u8 (A.sbyte s2 n3))] fun p4=>yB A p4 0 fun b6=>bif b6 then iL [.str s2,nI (zW A (A.add n3 1))] else some (.inr (.val [nI n3])) else some (.inr (.val [nI n3]))) [.str s_,nI 0]
def v5y (A:Sy)(E:Env)(s_:BA):fT A E 74 [.d (.str s_), .fn 81 []]=w5g A E s_:=by kernel_rfl
def g35 (s_:BA):Option PRes:=E.lp (fun ds1=>zS A ds1 0 fun s2=>zI A ds1 1 fun n3=>iT (A.cutok n3 (A.slen s2) (A.slen s2)) <| zC E 74 [.d (.str (A.scut s2 n3 (A.slen s2))), .fn 75 []] fun p4=>yI A p4 0 fun n6=>iT (A.cutok (zW A (A.add n3 n6)) (A.slen s2) (A.slen s2)) <| zC E 76 [.d (.str (A.scut s2 (zW A (A.add n3 n6)) (A.slen s2))), .d (.str (bs [45,45]))] fun p7=>yB A p7 0 fun b9=>bif b9 then iT (A.cutok (zW A (A.add n3 n6)) (A.slen s2) (A.slen s2)) <| zC E 74 [.d (.str (A.scut s2 (zW A (A.add n3 n6)) (A.slen s2))), .fn 77 []] fun p10=>yI A p10 0 fun n12=>iL [.str s2,nI (zW A (A.add (zW A (A.add n3 n6)) n12))] else some (.inr (.val [nI (zW A (A.add n3 n6))]))) [.str s_,nI 0]
def k0n (s_:BA):fT A E 35 [.d (.str s_)]=g35 A E s_:=by kernel_rfl
def g80 (s_:BA):Option PRes:=zC E 74 [.d (.str s_), .fn 122 []] fun p1=>yI A p1 0 fun n3=>iT (A.cutok 0 n3 (A.slen s_)) <| iT (A.inr 0 (A.slen (A.scut s_ 0 n3))) <| zC E 79 [.d (.int .u8 (A.sbyte (A.scut s_ 0 n3) 0))] fun p4=>yB A p4 0 fun b6=>bif b6 then zC E 97 [.d (.str (A.scut s_ 0 n3))] fun p7=>yB A p7 0 fun b9=>vL [nI 2, .str (A.scut s_ 0 n3),nI 0,nI 0,nI (A.slen (A.scut s_ 0 n3)), .bool b9] else zC E 95 [.d (.str (A.scut s_ 0 n3))] fun p10=>yB A p10 0 fun b12=>x0u (bif b12 then vB true else zC E 123 [.d (.str (A.scut s_ 0 n3))] fun p13=>yB A p13 0 fun b15=>vB b15) fun ds16=>zB A ds16 0 fun b17=>vL [nI 1, .str (A.scut s_ 0 n3),nI 0,nI 0,nI (A.slen (A.scut s_ 0 n3)), .bool b17]
def q9u (s_:BA):fT A E 80 [.d (.str s_)]=g80 A E s_:=by kernel_rfl
def g82 (s_:BA):Option PRes:=zC E 74 [.d (.str s_), .fn 81 []] fun p1=>yI A p1 0 fun n3=>iT (A.cutok 0 n3 (A.slen s_)) <| iT (A.ile (A.slen (A.scut s_ 0 n3)) 1000000) <| x0u (bif (A.pok (A.scut s_ 0 n3))then iT (A.inr 0 (A.slen (A.scut s_ 0 n3))) <| bif (A.bnot (A.ieq (A.sbyte (A.scut s_ 0 n3) 0) 48))then vB true else vB (A.ieq (A.slen (A.scut s_ 0 n3)) 1) else vB false) fun ds4=>zB A ds4 0 fun b5=>vL [nI 3, .str (A.scut s_ 0 n3),nI (A.pnum (A.scut s_ 0 n3)),nI 0,nI (A.slen (A.scut s_ 0 n3)), .bool b5]
def q9s (s_:BA):fT A E 82 [.d (.str s_)]=g82 A E s_:=by kernel_rfl
def g83 (s_:BA):Option PRes:=iT (A.cutok 1 (A.slen s_) (A.slen s_)) <| zC E 125 [.d (.str (A.scut s_ 1 (A.slen s_))), .d (.str (bs [39]))] fun p1=>yI A p1 0 fun n3=>bif (A.ilt n3 0)then vL [nI 0, .str (bs []),nI 0,nI 0,nI 0, .bool false] else iT (A.cutok 1 (zW A (A.add n3 1)) (A.slen s_)) <| zC E 126 [.d (.str (A.scut s_ 1 (zW A (A.add n3 1))))] fun p4=>yB A p4 0 fun b6=>vL [nI 4, .str (A.scut s_ 1 (zW A (A.add n3 1))),nI 0,nI 0,nI (zW A (A.add n3 2)), .bool b6]
def q9r (s_:BA):fT A E 83 [.d (.str s_)]=g83 A E s_:=by kernel_rfl
def g84 (s_:BA):Option PRes:=zC E 127 [.d (.str (bs [58,61,32,45,62,32,60,61,32,62,61,32,60,62]))] fun p1=>yL A p1 0 1 fun l3=>E.lp (fun ds4=>zS A ds4 0 fun s5=>zL A ds4 1 1 fun l6=>zI A ds4 2 fun n7=>zI A ds4 3 fun n8=>zI A ds4 4 fun n9=>zS A ds4 5 fun s10=>zI A ds4 6 fun n11=>zI A ds4 7 fun n12=>bif (A.ilt n8 n7)then iT (A.inr n8 (A.rlen l6)) <| zS A (A.row l6 n8) 0 fun s13=>zC E 76 [.d (.str s5), .d (.str s13)] fun p14=>yB A p14 0 fun b16=>bif b16 then some (.inr (.val [nI 5, .str s13,nI 0,nI 0,nI (A.slen s13), .bool true])) else iL [.str s5, .sl 1 l6,nI n7,nI (zW A (A.add n8 1)),nI n9, .str s10,nI n11,nI n12] else iT (A.inr 0 (A.slen s5)) <| zC E 128 [.d (.str (bs [40,41,123,125,91,93,44,59,58,61,60,62,43,45,42,47])), .d (.int .u8 (A.sbyte s5 0))] fun p17=>yI A p17 0 fun n19=>bif (A.ilt n19 0)then some (.inr (.val [nI 0, .str (bs []),nI 0,nI 0,nI 0, .bool false])) else iT (A.cutok 0 1 (A.slen s5)) <| some (.inr (.val [nI 5, .str (A.scut s5 0 1),nI 0,nI 0,nI 1, .bool true]))) [.str s_, .sl 1 l3,nI (A.rlen l3),nI 0,nI 0, .str (bs []),nI 0,nI 0]
def q9q (s_:BA):fT A E 84 [.d (.str s_)]=g84 A E s_:=by kernel_rfl
def g36 (s_:BA):Option PRes:=iT (A.inr 0 (A.slen s_)) <| zC E 78 [.d (.int .u8 (A.sbyte s_ 0))] fun p1=>yB A p1 0 fun b3=>bif b3 then zC E 80 [.d (.str s_)] fun p4=>yI A p4 0 fun n6=>yS A p4 1 fun s7=>yI A p4 2 fun n8=>yI A p4 3 fun n9=>yI A p4 4 fun n10=>yB A p4 5 fun b11=>vL [nI n6, .str s7,nI n8,nI n9,nI n10, .bool b11] else zC E 79 [.d (.int .u8 (A.sbyte s_ 0))] fun p12=>yB A p12 0 fun b14=>bif b14 then zC E 80 [.d (.str s_)] fun p15=>yI A p15 0 fun n17=>yS A p15 1 fun s18=>yI A p15 2 fun n19=>yI A p15 3 fun n20=>yI A p15 4 fun n21=>yB A p15 5 fun b22=>vL [nI n17, .str s18,nI n19,nI n20,nI n21, .bool b22] else zC E 81 [.d (.int .u8 (A.sbyte s_ 0))] fun p23=>yB A p23 0 fun b25=>bif b25 then zC E 82 [.d (.str s_)] fun p26=>yI A p26 0 fun n28=>yS A p26 1 fun s29=>yI A p26 2 fun n30=>yI A p26 3 fun n31=>yI A p26 4 fun n32=>yB A p26 5 fun b33=>vL [nI n28, .str s29,nI n30,nI n31,nI n32, .bool b33] else iT (A.cutok 0 1 (A.slen s_)) <| bif (A.seq (A.scut s_ 0 1) (bs [39]))then zC E 83 [.d (.str s_)] fun p34=>yI A p34 0 fun n36=>yS A p34 1 fun s37=>yI A p34 2 fun n38=>yI A p34 3 fun n39=>yI A p34 4 fun n40=>yB A p34 5 fun b41=>vL [nI n36, .str s37,nI n38,nI n39,nI n40, .bool b41] else zC E 84 [.d (.str s_)] fun p42=>yI A p42 0 fun n44=>yS A p42 1 fun s45=>yI A p42 2 fun n46=>yI A p42 3 fun n47=>yI A p42 4 fun n48=>yB A p42 5 fun b49=>vL [nI n44, .str s45,nI n46,nI n47,nI n48, .bool b49]
def k0m (s_:BA):fT A E 36 [.d (.str s_)]=g36 A E s_:=by kernel_rfl
def g14 (s_:BA)(most_:Int):Option PRes:=bif (A.ilt most_ (A.slen s_))then vL [.sl 4 [],nI most_,nI 3] else E.lp (fun ds1=>zS A ds1 0 fun s2=>zI A ds1 1 fun n3=>zL A ds1 2 4 fun l4=>iT (A.cutok n3 (A.slen s2) (A.slen s2)) <| zC E 35 [.d (.str (A.scut s2 n3 (A.slen s2)))] fun p5=>yI A p5 0 fun n7=>bif (A.ieq (zW A (A.add n3 n7)) (A.slen s2))then iT (A.fits l4 [[nI 6, .str (bs []),nI 0,nI (A.slen s2)]] 40) <| some (.inr (.val [.sl 4 (A.rapp l4 [[nI 6, .str (bs []),nI 0,nI (A.slen s2)]]),nI (A.slen s2),nI 0])) else iT (A.cutok (zW A (A.add n3 n7)) (A.slen s2) (A.slen s2)) <| zC E 36 [.d (.str (A.scut s2 (zW A (A.add n3 n7)) (A.slen s2)))] fun p8=>yI A p8 0 fun n10=>yS A p8 1 fun s11=>yI A p8 2 fun n12=>yI A p8 3 fun n13=>yI A p8 4 fun n14=>yB A p8 5 fun b15=>bif (A.bnot b15)then some (.inr (.val [.sl 4 [],nI (zW A (A.add n3 n7)),nI 2])) else iT (A.fits l4 [[nI n10, .str s11,nI n12,nI (zW A (A.add n3 n7))]] 40) <| iL [.str s2,nI (zW A (A.add (zW A (A.add n3 n7)) n14)), .sl 4 (A.rapp l4 [[nI n10, .str s11,nI n12,nI (zW A (A.add n3 n7))]])]) [.str s_,nI 0, .sl 4 []]
def k0z (s_:BA)(most_:Int):fT A E 14 [.d (.str s_), .d (.int .i64 most_)]=g14 A E s_ most_:=by kernel_rfl
def g76 (s_ prefix_:BA):Option PRes:=zC E 121 [.d (.str s_), .d (.str prefix_)] fun p1=>yB A p1 0 fun b3=>vL [.bool b3]
def q9y (s_ prefix_:BA):fT A E 76 [.d (.str s_), .d (.str prefix_)]=g76 A E s_ prefix_:=by kernel_rfl
def g121 (A:Sy)(E:Env)(s_ prefix_:BA):Option PRes:=bif (A.ile (A.slen prefix_) (A.slen s_))then iT (A.cutok 0 (A.slen prefix_) (A.slen s_)) <| vL [.bool (A.seq (A.scut s_ 0 (A.slen prefix_)) prefix_)] else vL [.bool false]
def q1u (s_ prefix_:BA):fT A E 121 [.d (.str s_), .d (.str prefix_)]=g121 A E s_ prefix_:=by kernel_rfl
def g128 (s_:BA)(c_:Int):Option PRes:=zC E 168 [.d (.str s_), .d (.int .u8 c_)] fun p1=>yI A p1 0 fun n3=>vL [nI n3]
def q1p (s_:BA)(c_:Int):fT A E 128 [.d (.str s_), .d (.int .u8 c_)]=g128 A E s_ c_:=by kernel_rfl
end
end Go.Vm
end
