/-
  Part E of the proof. What is proved by the whole: the statement that the claim names, with no condition. This part: lemmas.
-/
import Derived.Test.YtdilhaphlahfjaaGreatDoorD
import Derived.Shelf.Strings.Fields
import Derived.Shelf.Strconv.ParseIntPublic10
import Derived.Test.YtdilhaphlahfjaaGreatDoorChecked
set_option linter.unusedSimpArgs false
set_option linter.unusedVariables false

section
/-
 DERIVED:THE SHELF's CONTRACTS AT THIS DUMP,IN PLAIN WORDS (tools/lay-plain.mjs out of 'TryzShelf.lean',which tools/lay-shelf.mjs wrote):THE SAME DECLARATIONS UNDER THE SAME NAMES:'import','namespace','open','def','theorem' AND NOTHING ELSE:no command of the shelf's:FOR A HAND-IN. Each laying:the table of numbers ('.._ren') and one theorem,a field a fact of the dump's own or the kernel's comparison;each contract:ONE APPLICATION.
-/
namespace Go.Proofs
open Go.Shelf
def Tryz.laysC174_ren:Go.Shelf.Ren:=⟨fun|174=>124|247=>161|245=>162|287=>188|279=>189|280=>190|281=>191|282=>192|321=>214|322=>215|316=>216|171=>218|205=>217|243=>237|246=>246|283=>255|284=>256|285=>257|286=>258|129=>265|317=>264|318=>266|319=>267|320=>268|337=>273|338=>274|n=>n,fun|9=>9|3=>3|2=>2|75=>45|85=>178|4=>4|167=>219|5=>5|53=>194|175=>220|46=>222|168=>223|37=>217|0=>0|210=>248|21=>21|127=>276|145=>279|143=>277|171=>288|173=>291|212=>298|51=>233|20=>20|213=>299|232=>305|233=>306|80=>117|n=>n,fun|15=>4|16=>5|17=>8|18=>9|19=>10|n=>n⟩
theorem Tryz.laysC174:Go.Proofs.LaysC.n174 Tryz.prog Tryz.laysC174_ren:= {
 mixed:=by kernel_rfl
 f129:=Tryz.func265.trans (congrArg some (by kernel_rfl))
 f171:=Tryz.func218.trans (congrArg some (by kernel_rfl))
 f174:=Tryz.func124.trans (congrArg some (by kernel_rfl))
 f205:=Tryz.func217.trans (congrArg some (by kernel_rfl))
 f243:=Tryz.func237.trans (congrArg some (by kernel_rfl))
 f245:=Tryz.func162.trans (congrArg some (by kernel_rfl))
 f246:=Tryz.func246.trans (congrArg some (by kernel_rfl))
 f247:=Tryz.func161.trans (congrArg some (by kernel_rfl))
 f279:=Tryz.func189.trans (congrArg some (by kernel_rfl))
 f280:=Tryz.func190.trans (congrArg some (by kernel_rfl))
 f281:=Tryz.func191.trans (congrArg some (by kernel_rfl))
 f282:=Tryz.func192.trans (congrArg some (by kernel_rfl))
 f283:=Tryz.func255.trans (congrArg some (by kernel_rfl))
 f284:=Tryz.func256.trans (congrArg some (by kernel_rfl))
 f285:=Tryz.func257.trans (congrArg some (by kernel_rfl))
 f286:=Tryz.func258.trans (congrArg some (by kernel_rfl))
 f287:=Tryz.func188.trans (congrArg some (by kernel_rfl))
 f316:=Tryz.func216.trans (congrArg some (by kernel_rfl))
 f317:=Tryz.func264.trans (congrArg some (by kernel_rfl))
 f318:=Tryz.func266.trans (congrArg some (by kernel_rfl))
 f319:=Tryz.func267.trans (congrArg some (by kernel_rfl))
 f320:=Tryz.func268.trans (congrArg some (by kernel_rfl))
 f321:=Tryz.func214.trans (congrArg some (by kernel_rfl))
 f322:=Tryz.func215.trans (congrArg some (by kernel_rfl))
 f337:=Tryz.func273.trans (congrArg some (by kernel_rfl))
 f338:=Tryz.func274.trans (congrArg some (by kernel_rfl))
 t0:=Tryz.underlying0
 a0:=Tryz.isAgg0
 z0:=Tryz.sizeOf0
 v0:=Tryz.zeroValue0
 t2:=Tryz.underlying2
 a2:=Tryz.isAgg2
 z2:=Tryz.sizeOf2
 v2:=Tryz.zeroValue2
 t3:=Tryz.underlying3
 a3:=Tryz.isAgg3
 z3:=Tryz.sizeOf3
 v3:=Tryz.zeroValue3
 t4:=Tryz.underlying4
 a4:=Tryz.isAgg4
 z4:=Tryz.sizeOf4
 v4:=Tryz.zeroValue4
 t5:=Tryz.underlying5
 a5:=Tryz.isAgg5
 z5:=Tryz.sizeOf5
 v5:=Tryz.zeroValue5
 t9:=Tryz.underlying9
 a9:=Tryz.isAgg9
 z9:=Tryz.sizeOf9
 v9:=Tryz.zeroValue9
 t20:=Tryz.underlying20
 a20:=Tryz.isAgg20
 z20:=Tryz.sizeOf20
 v20:=Tryz.zeroValue20
 t21:=Tryz.underlying21
 a21:=Tryz.isAgg21
 z21:=Tryz.sizeOf21
 v21:=Tryz.zeroValue21
 t37:=Tryz.underlying217
 a37:=Tryz.isAgg217
 z37:=Tryz.sizeOf217
 v37:=Tryz.zeroValue217
 t46:=Tryz.underlying222
 a46:=Tryz.isAgg222
 z46:=Tryz.sizeOf222
 v46:=Tryz.zeroValue222
 t51:=Tryz.underlying233
 a51:=Tryz.isAgg233
 z51:=Tryz.sizeOf233
 v51:=Tryz.zeroValue233
 t53:=Tryz.underlying194
 a53:=Tryz.isAgg194
 z53:=Tryz.sizeOf194
 v53:=Tryz.zeroValue194
 t75:=Tryz.underlying45
 a75:=Tryz.isAgg45
 z75:=Tryz.sizeOf45
 v75:=Tryz.zeroValue45
 t85:=Tryz.underlying178
 a85:=Tryz.isAgg178
 z85:=Tryz.sizeOf178
 v85:=Tryz.zeroValue178
 t127:=Tryz.underlying276
 a127:=Tryz.isAgg276
 z127:=Tryz.sizeOf276
 v127:=Tryz.zeroValue276
 t143:=Tryz.underlying277
 a143:=Tryz.isAgg277
 z143:=Tryz.sizeOf277
 v143:=Tryz.zeroValue277
 t145:=Tryz.underlying279
 a145:=Tryz.isAgg279
 z145:=Tryz.sizeOf279
 v145:=Tryz.zeroValue279
 t167:=Tryz.underlying219
 a167:=Tryz.isAgg219
 z167:=Tryz.sizeOf219
 v167:=Tryz.zeroValue219
 t168:=Tryz.underlying223
 a168:=Tryz.isAgg223
 z168:=Tryz.sizeOf223
 v168:=Tryz.zeroValue223
 t171:=Tryz.underlying288
 a171:=Tryz.isAgg288
 z171:=Tryz.sizeOf288
 v171:=Tryz.zeroValue288
 t173:=Tryz.underlying291
 a173:=Tryz.isAgg291
 z173:=Tryz.sizeOf291
 v173:=Tryz.zeroValue291
 t175:=Tryz.underlying220
 a175:=Tryz.isAgg220
 z175:=Tryz.sizeOf220
 v175:=Tryz.zeroValue220
 t210:=Tryz.underlying248
 a210:=Tryz.isAgg248
 z210:=Tryz.sizeOf248
 v210:=Tryz.zeroValue248
 t212:=Tryz.underlying298
 a212:=Tryz.isAgg298
 z212:=Tryz.sizeOf298
 v212:=Tryz.zeroValue298
 t213:=Tryz.underlying299
 a213:=Tryz.isAgg299
 z213:=Tryz.sizeOf299
 t232:=Tryz.underlying305
 a232:=Tryz.isAgg305
 z232:=Tryz.sizeOf305
 v232:=Tryz.zeroValue305
 t233:=Tryz.underlying306
 a233:=Tryz.isAgg306
 z233:=Tryz.sizeOf306
 v233:=Tryz.zeroValue306
 g15:=by kernel_rfl
 g16:=by kernel_rfl
 g17:=by kernel_rfl
 g18:=by kernel_rfl
 g19:=by kernel_rfl
 t80:=Tryz.underlying117
 a80:=Tryz.isAgg117
 z80:=Tryz.sizeOf117
 v80:=Tryz.zeroValue117
 i0:=by kernel_rfl
 i2:=by kernel_rfl
 i3:=by kernel_rfl
 i4:=by kernel_rfl
 i5:=by kernel_rfl
 i9:=by kernel_rfl
 i20:=by kernel_rfl
 i21:=by kernel_rfl
 i37:=by kernel_rfl
 i46:=by kernel_rfl
 i51:=by kernel_rfl
 i53:=by kernel_rfl
 i75:=by kernel_rfl
 i80:=by kernel_rfl
 i85:=by kernel_rfl
 i127:=by kernel_rfl
 i143:=by kernel_rfl
 i145:=by kernel_rfl
 i167:=by kernel_rfl
 i168:=by kernel_rfl
 i171:=by kernel_rfl
 i173:=by kernel_rfl
 i175:=by kernel_rfl
 i210:=by kernel_rfl
 i212:=by kernel_rfl
 i232:=by kernel_rfl
 i233:=by kernel_rfl
 m15:=by kernel_rfl
 m16:=by kernel_rfl
 m17:=by kernel_rfl
 m18:=by kernel_rfl
 m19:=by kernel_rfl
 c0:=by kernel_rfl
 c2:=by kernel_rfl
 c3:=by kernel_rfl
 c4:=by kernel_rfl
 c5:=by kernel_rfl
 c9:=by kernel_rfl
 c20:=by kernel_rfl
 c21:=by kernel_rfl
 c37:=by kernel_rfl
 c46:=by kernel_rfl
 c51:=by kernel_rfl
 c53:=by kernel_rfl
 c75:=by kernel_rfl
 c80:=by kernel_rfl
 c85:=by kernel_rfl
 c127:=by kernel_rfl
 c143:=by kernel_rfl
 c145:=by kernel_rfl
 c167:=by kernel_rfl
 c168:=by kernel_rfl
 c171:=by kernel_rfl
 c173:=by kernel_rfl
 c175:=by kernel_rfl
 c210:=by kernel_rfl
 c212:=by kernel_rfl
 c213:=by kernel_rfl
 c232:=by kernel_rfl
 c233:=by kernel_rfl }
open Go.RowKit in
theorem Tryz.strconv_ParseInt_10_at64_ok (s:ByteArray)(hmax:s.size≤9223372036854775806)(v:Int)(h:Lib.parseIntB 64 s.data.toList= .ok v)(w:World):
  Calls Tryz.prog 124 #[.string s, .int .i64 10, .int .i64 64] w fun e w'=>e= .returned (.tuple #[.int .i64 v, .nilIface])∧(w'=w∨ ∃t,w'=Lib.bytesWorld w 5 t):=Any.strconv_ParseInt_10_at64_ok Tryz.laysC174 s hmax v h w
open Go.RowKit in
theorem Tryz.strconv_ParseInt_10_at64_range (s:ByteArray)(hlim:s.size≤281474976710656)(h:Lib.parseIntB 64 s.data.toList= .range)(ev:Value)(w:World)(hv:w.cell? ⟨5,0,none⟩=some ev)(hev:ev= .nilIface∨ ∃te pe,ev= .iface te pe):
  Calls Tryz.prog 124 #[.string s, .int .i64 10, .int .i64 64] w fun e w'=> ∃N,e= .returned (.tuple #[.int .i64 (Lib.intSat 64 s.data.toList), .iface 223 (.pointer (some ⟨N,0,none⟩))])∧w.heap.size≤N∧w'.heap[N]? =some (.cells #[.string ⟨#[80,97,114,115,101,73,110,116]⟩, .string s,ev] 248 (0,0))∧Below w.heap.size w w':=Any.strconv_ParseInt_10_at64_range Tryz.laysC174 s hlim h ev w hv hev
def Tryz.lays157_ren:Go.Shelf.Ren:=⟨fun|157=>127|229=>166|199=>167|261=>199|311=>223|312=>224|n=>n,fun|9=>9|31=>64|3=>3|5=>5|4=>4|119=>203|0=>0|40=>188|152=>230|21=>21|154=>232|51=>233|141=>235|196=>256|193=>253|198=>259|49=>257|194=>254|201=>262|226=>282|46=>222|227=>283|n=>n,fun|0=>1|6=>3|n=>n⟩
theorem Tryz.lays157:Go.Proofs.Lays.n157 Tryz.prog Tryz.lays157_ren:= {
 mixed:=by kernel_rfl
 f157:=Tryz.func127.trans (congrArg some (by kernel_rfl))
 f199:=Tryz.func167.trans (congrArg some (by kernel_rfl))
 f229:=Tryz.func166.trans (congrArg some (by kernel_rfl))
 f261:=Tryz.func199.trans (congrArg some (by kernel_rfl))
 f311:=Tryz.func223.trans (congrArg some (by kernel_rfl))
 f312:=Tryz.func224.trans (congrArg some (by kernel_rfl))
 t0:=Tryz.underlying0
 a0:=Tryz.isAgg0
 z0:=Tryz.sizeOf0
 v0:=Tryz.zeroValue0
 t3:=Tryz.underlying3
 a3:=Tryz.isAgg3
 z3:=Tryz.sizeOf3
 v3:=Tryz.zeroValue3
 t4:=Tryz.underlying4
 a4:=Tryz.isAgg4
 z4:=Tryz.sizeOf4
 v4:=Tryz.zeroValue4
 t5:=Tryz.underlying5
 a5:=Tryz.isAgg5
 z5:=Tryz.sizeOf5
 v5:=Tryz.zeroValue5
 t9:=Tryz.underlying9
 a9:=Tryz.isAgg9
 z9:=Tryz.sizeOf9
 v9:=Tryz.zeroValue9
 t21:=Tryz.underlying21
 a21:=Tryz.isAgg21
 z21:=Tryz.sizeOf21
 v21:=Tryz.zeroValue21
 t31:=Tryz.underlying64
 a31:=Tryz.isAgg64
 z31:=Tryz.sizeOf64
 v31:=Tryz.zeroValue64
 t40:=Tryz.underlying188
 a40:=Tryz.isAgg188
 z40:=Tryz.sizeOf188
 v40:=Tryz.zeroValue188
 t46:=Tryz.underlying222
 a46:=Tryz.isAgg222
 z46:=Tryz.sizeOf222
 v46:=Tryz.zeroValue222
 t49:=Tryz.underlying257
 a49:=Tryz.isAgg257
 z49:=Tryz.sizeOf257
 v49:=Tryz.zeroValue257
 t51:=Tryz.underlying233
 a51:=Tryz.isAgg233
 z51:=Tryz.sizeOf233
 v51:=Tryz.zeroValue233
 t119:=Tryz.underlying203
 a119:=Tryz.isAgg203
 z119:=Tryz.sizeOf203
 t141:=Tryz.underlying235
 a141:=Tryz.isAgg235
 z141:=Tryz.sizeOf235
 v141:=Tryz.zeroValue235
 t152:=Tryz.underlying230
 a152:=Tryz.isAgg230
 z152:=Tryz.sizeOf230
 v152:=Tryz.zeroValue230
 t154:=Tryz.underlying232
 a154:=Tryz.isAgg232
 z154:=Tryz.sizeOf232
 v154:=Tryz.zeroValue232
 t193:=Tryz.underlying253
 a193:=Tryz.isAgg253
 z193:=Tryz.sizeOf253
 v193:=Tryz.zeroValue253
 t194:=Tryz.underlying254
 a194:=Tryz.isAgg254
 z194:=Tryz.sizeOf254
 v194:=Tryz.zeroValue254
 t196:=Tryz.underlying256
 a196:=Tryz.isAgg256
 z196:=Tryz.sizeOf256
 v196:=Tryz.zeroValue256
 t198:=Tryz.underlying259
 a198:=Tryz.isAgg259
 z198:=Tryz.sizeOf259
 v198:=Tryz.zeroValue259
 t201:=Tryz.underlying262
 a201:=Tryz.isAgg262
 z201:=Tryz.sizeOf262
 v201:=Tryz.zeroValue262
 t226:=Tryz.underlying282
 a226:=Tryz.isAgg282
 z226:=Tryz.sizeOf282
 v226:=Tryz.zeroValue282
 t227:=Tryz.underlying283
 a227:=Tryz.isAgg283
 z227:=Tryz.sizeOf283
 v227:=Tryz.zeroValue283
 g0:=by kernel_rfl
 g6:=by kernel_rfl }
end Go.Proofs
end

section
namespace Go.Vm
open Go.Proofs Go.RowKit Go.Shelf
def w9c:List UInt8:=[58,61,32,45,62,32,60,61,32,62,61,32,60,62]
def u6w:LL:=[[.str (bs [58,61])],[.str (bs [45,62])],[.str (bs [60,61])],[.str (bs [62,61])],[.str (bs [60,62])]]
def v8e (s:ByteArray):List D:=[.str s]
def x0e (l:List ByteArray):LL:=l.map v8e
def knF:List V→Option PRes
 | [.d (.str s)]=>match decide (s.data.toList=w9c)with
   |true=>some (.val [.sl 1 u6w])
   |false=>none
 |_=>none
def knG:List V→Option PRes
 | [.nils, .d (.int .i64 n)]=>match decide (0≤n∧n≤1000000)with
   |true=>some (.own 127 6 [])
   |false=>none
 |_=>none
def knA:List V→Option PRes
 | [.d (.int .i64 0), .d (.int .i64 2), .ifo 51 b [.int .i64 a, .int .i64 w], .ifp 53 0 0, .fn 51 [.d (.int .i64 0), .d (.int .i64 0)]]=>some (match b with
   |true=> .val [.bool false, .int .i64 0, .int .i64 0]
   |false=> .val [.bool true, .int .i64 a, .int .i64 w])
 |_=>none
def kn:FuncId→List V→Option PRes:=fun f args=>match Nat.beq f 127 with
 |true=>knF args
 |false=>match Nat.beq f 174 with
  |true=>knG args
  |false=>match Nat.beq f 1000016 with
   |true=>knA args
   |false=>none
theorem u6d:Lib.fields w9c= [[58,61],[45,62],[60,61],[62,61],[60,62]]:=by decide+kernel
theorem v3u {Z:Nat→Nat→Prop}{w:World}(h:y9v Z w)(c:Nat)(hc:c < 256):w.cell? ⟨1,c,none⟩=some (.int .u8 (if Lib.isSp (UInt8.ofNat c)then 1 else 0)):=by
 have h1:=(h.2 (1,Lib.asciiSpaceTab.map fun n=>Value.int .u8 n) (by simp [gV]) c).2
 have h2:(Lib.asciiSpaceTab.map fun n=>Value.int .u8 n)[c]? =some (.int .u8 (Lib.asciiSpaceTab.getD c 0)):=by
  rw[a0l,a0d]
  have:c < Lib.asciiSpaceTab.length:=by rw[Lib.asciiSpaceTab_length];exact hc
  simp [this]
 have h1:=h1.trans h2
 rwa [Lib.asciiSpaceTab_at c hc]at h1
theorem u0u {w w':World}(h:Below w.heap.size w w'):Fr (fun _=>False) w w':=⟨h.os,h.tape,h.output,h.size,fun k hk _=>h.block k hk⟩
theorem w1s:KV Tryz.prog:=by
 intro s hs g w us hsim hu
 obtain⟨h1,h2⟩:=hu
 match us,h1 with
 | [u0,u1,u2],_=>
   have e0:=x1z (h2 0 u0 _ rfl rfl)
   have e1:=x0l (h2 1 u1 _ rfl rfl)
   have e2:=x0l (h2 2 u2 _ rfl rfl)
   subst e0;subst e1;subst e2
   have fin: ∀(v:Value) (n:Int) (b:Bool) (w':World),Below w.heap.size w w'→(∀(g':Gh),Rep w' g' v (.ifn b))→ ∃u g',Ending.returned (.tuple #[.int .i64 n,v])= .returned u∧Rep w' g' u (.tup [.d (.int .i64 n), .ifn b])∧Keep [] g [] w g' [] w':=by
    intro v n b w' hb hv
    refine⟨_,g,rfl, .tup _ _ rfl fun i u c hu hc=> ?_,Keep.of_fr hsim (u0u hb)⟩
    match i with
    |0=>simp at hu hc;subst hu;subst hc;exact .d (.int _ _)
    |1=>simp at hu hc;subst hu;subst hc;exact hv g
    |i+2=>simp at hc
   show Calls Tryz.prog 124 #[.string s, .int .i64 10, .int .i64 64] w _
   unfold u5h w9d
   cases hp:Lib.parseIntB 64 s.data.toList with
   |ok v=>
    refine(Tryz.strconv_ParseInt_10_at64_ok s (by omega) v hp w).mono ?_
    rintro e w' ⟨rfl,hw⟩
    refine fin _ _ _ _ ?_ fun _=> .ifn0
    rcases hw with rfl|⟨t,rfl⟩
    ·exact Below.refl _ _
    ·exact Lib.bytesWorld_below _ _ _
   |range=>
    obtain⟨_,te,pe,hc⟩:=hsim.tab.1 5 (by simp [gI])
    refine(Tryz.strconv_ParseInt_10_at64_range s (by omega) hp _ w hc (.inr ⟨_,_,rfl⟩)).mono ?_
    rintro e w' ⟨N,rfl,_,_,hb⟩
    exact fin _ _ _ _ hb fun _=> .ifn1 _ _
   |_=>
    obtain⟨_,te,pe,hc⟩:=hsim.tab.1 4 (by simp [gI])
    have q:Calls Tryz.prog 124 #[.string s, .int .i64 10, .int .i64 64] w fun e w'=> ∃N,e= .returned (.tuple #[.int .i64 (0), .iface 223 (.pointer (some ⟨N,0,none⟩))])∧w.heap.size≤N∧w'.heap[N]? =some (.cells #[.string ⟨#[80,97,114,115,101,73,110,116]⟩, .string s, .iface te pe] 248 (0,0))∧Below w.heap.size w w':=Any.strconv_ParseInt_10_at64_syntax Tryz.laysC174 s (by omega) hp _ w hc (.inr ⟨_,_,rfl⟩)
    refine q.mono ?_
    rintro e w' ⟨N,rfl,_,_,hb⟩
    exact fin _ _ _ _ hb fun _=> .ifn1 _ _
theorem u0w (s:ByteArray)(hd:s.data.toList=w9c):z8y Tryz.prog 127 [.d (.str s)] (.val [.sl 1 u6w]):=by
 refine⟨[64],[.sl 1], .d (.sl 1 u6w),by kernel_rfl,by kernel_rfl,rfl,by kernel_rfl,fun g w us hsim hu=> ?_⟩
 obtain⟨h1,h2⟩:=hu
 match us,h1 with
 | [u0],_=>
   have e0:=x1z (h2 0 u0 _ rfl rfl)
   subst e0
   have hsz:s.size=14:=by
    have:s.data.toList.length=w9c.length:=by rw[hd]
    simpa [w9c]using this
   have L:=Any.strings_Fields_core Tryz.lays157 (by kernel_rfl) s w (by omega) (fun j b hb=>by
    rw[hd]at hb
    have:=a0n hb
    have hall: ∀b∈w9c,b.toNat < 128:=by decide
    exact hall b this) (fun c hc=>v3u hsim.tab c hc)
   refine L.mono ?_
   rintro e w' ⟨rfl,rfl⟩
   rw[hd,u6d]
   refine⟨_,_,rfl,?_,Keep.newZ hsim _ _⟩
   have hcell: ∀(i:Nat) (v:Value),(([[58,61],[45,62],[60,61],[62,61],[60,62]]:List (List UInt8)).map fun l=>Value.string ⟨l.toArray⟩).toArray[i]? =some v→(w.alloc (.cells (([[58,61],[45,62],[60,61],[62,61],[60,62]]:List (List UInt8)).map fun l=>Value.string ⟨l.toArray⟩).toArray 9)).cell? ⟨w.heap.size,i,none⟩=some v:=by
    intro i v hv
    simp only [World.cell?,World.alloc,a1x,if_true]
    simpa using hv
   refine .d (.sl _ 0 5 5 1 u6w (fun i j=> .string (match u6w[i]? with
    |some [.str s]=>s
    |_=>default)) rfl (a0m _) ?_ ?_ ?_ ?_)
   ·intro i r hr
    match i with
    |0|1|2|3|4=>simp [u6w]at hr;subst hr;rfl
    |i+5=>simp [u6w]at hr
   ·intro i r j c hr hc;exact .inr rfl
   ·intro i r j c hr hc
    match i,j with
    |0,0|1,0|2,0|3,0|4,0=>exact hcell _ _ rfl
    |0,j+1|1,j+1|2,j+1|3,j+1|4,j+1=>simp [u6w]at hr;subst hr;simp at hc
    |i+5,j=>simp [u6w]at hr
   ·intro i r j c hr hc
    match i,j with
    |0,0|1,0|2,0|3,0|4,0=>simp [u6w]at hr;subst hr;simp at hc;subst hc;exact .str _
    |0,j+1|1,j+1|2,j+1|3,j+1|4,j+1=>simp [u6w]at hr;subst hr;simp at hc
    |i+5,j=>simp [u6w]at hr
theorem v2s {k n:Nat}(h:n < k):Nat.beq k n=false:=by
 cases h2:Nat.beq k n with
 |false=>rfl
 |true=>have:=Nat.eq_of_beq_eq_true h2;omega
end Go.Vm
end

section
namespace Go.Vm
open Go.Proofs
noncomputable def cF (f:FuncId) (args:List V):Option PRes:=y9l Tryz.prog cs kn f args
noncomputable def eF:Env:=v9a (y9l Tryz.prog cs kn)
theorem x4h (f:FuncId)(args:List V):eF.call f args=cF f args:=rfl
theorem y0r {α:Type}(b:List D→Option (List D ⊕ α))(ds:List D):eF.lp b ds=x7h b ds:=rfl
theorem cOf {f:FuncId}{args:List V}{p:PRes}(hg:x4w Tryz.prog f=true)(hk:kn f args=none)(h:(x1o sy Tryz.prog cs f args).run eF=some p):cF f args=some p:=u3y hg hk h
theorem q8n {f:FuncId}{args:List V}{Q:PRes→Prop}(hg:x4w Tryz.prog f=true)(hk:kn f args=none)(h: ∃p,(x1o sy Tryz.prog cs f args).run eF=some p∧Q p): ∃p,cF f args=some p∧Q p:=h.imp fun _ h=>⟨u3y hg hk h.1,h.2⟩
theorem x0i {α:Type}{a:α}{Q:α→Prop}:(∃p,some a=some p∧Q p)↔Q a:=by simp
theorem x1m {p:Prop} [Decidable p] (h:p):decide p=true:=a1d h
theorem x1c {p:Prop} [Decidable p] (h: ¬p):decide p=false:=decide_eq_false h
theorem x0p {i n:Nat}(h:i < n):decide (0≤(i:Int)∧(i:Int) < (n:Int))=true:=a1d ⟨by omega,by omega⟩
theorem x0n {i n:Nat}(h:i < n):decide ((i:Int) < (n:Int))=true:=a1d (by omega)
theorem x0h (n:Nat):decide ((n:Int) < (n:Int))=false:=decide_eq_false (by omega)
theorem x0c {i n:Nat}(h:i < n)(hn:n≤1000000000000):IntKind.i64.wrap ((i:Int)+1)=(i:Int)+1:=x0j (by omega) (by omega)
theorem mixedOrders:Tryz.prog.follows .mixedOrders=true:=by kernel_rfl
end Go.Vm
end

section
set_option maxRecDepth 10000
namespace Go.Vm
theorem bs1 {α β:Type}(a:α)(f:α→Option β):(some a).bind f=f a:=rfl
theorem ct1 {α:Type}(a b:α):cond true a b=a:=rfl
theorem cf1 {α:Type}(a b:α):cond false a b=b:=rfl
theorem es1 {α:Type}(a:α):(a=a)=True:=eq_self a
def zB {β:Type}(A:Sy)(l:List D)(k:Nat)(f:Bool→Option β):Option β:=(opB (A.cell l k)).bind f
def zI {β:Type}(A:Sy)(l:List D)(k:Nat)(f:Int→Option β):Option β:=(opI (A.cell l k) .i64).bind f
def zS {β:Type}(A:Sy)(l:List D)(k:Nat)(f:ByteArray→Option β):Option β:=(opS (A.cell l k)).bind f
def zL {β:Type}(A:Sy)(l:List D)(k e:Nat)(f:LL→Option β):Option β:=(opL (A.cell l k) e).bind f
def zC {β:Type}(E:Env)(n:Nat)(l:List V)(f:PRes→Option β):Option β:=(E.call n l).bind f
def vB {β:Type}(b:Bool):Option (List D ⊕ β):=some (.inl [.bool b])
def vL (l:List D):Option PRes:=some (.val l)
def vR {β:Type}(l:List D):Option (β ⊕ PRes):=some (.inr (.val l))
def iL {β:Type}(l:List D):Option (List D ⊕ β):=some (.inl l)
def yB {β:Type}(A:Sy)(p:PRes)(k:Nat)(f:Bool→Option β):Option β:=(opB (A.cell p.leaves k)).bind f
def yI {β:Type}(A:Sy)(p:PRes)(k:Nat)(f:Int→Option β):Option β:=(opI (A.cell p.leaves k) .i64).bind f
def yS {β:Type}(A:Sy)(p:PRes)(k:Nat)(f:ByteArray→Option β):Option β:=(opS (A.cell p.leaves k)).bind f
def yL {β:Type}(A:Sy)(p:PRes)(k e:Nat)(f:LL→Option β):Option β:=(opL (A.cell p.leaves k) e).bind f
def iT {β:Type}(b:Bool)(x:Option β):Option β:=bif b then x else none
def nI (n:Int):D:= .int .i64 n
def zW (A:Sy)(n:Int):Int:=A.wrap .i64 n
theorem q9i {β:Type}(A:Sy)(l:List D)(k:Nat)(f:Bool→Option β):zB A l k f=(opB (A.cell l k)).bind f:=rfl
theorem q9g {β:Type}(A:Sy)(l:List D)(k:Nat)(f:Int→Option β):zI A l k f=(opI (A.cell l k) .i64).bind f:=rfl
theorem q9e {β:Type}(A:Sy)(l:List D)(k:Nat)(f:ByteArray→Option β):zS A l k f=(opS (A.cell l k)).bind f:=rfl
theorem q9f {β:Type}(A:Sy)(l:List D)(k e:Nat)(f:LL→Option β):zL A l k e f=(opL (A.cell l k) e).bind f:=rfl
theorem q9h {β:Type}(E:Env)(n:Nat)(l:List V)(f:PRes→Option β):zC E n l f=(E.call n l).bind f:=rfl
theorem q9q {β:Type}(b:Bool):(vB b:Option (List D ⊕ β))=some (.inl [.bool b]):=rfl
theorem q9p (l:List D):vL l=some (.val l):=rfl
theorem q9o {β:Type}(l:List D):(vR l:Option (β ⊕ PRes))=some (.inr (.val l)):=rfl
theorem q9z {β:Type}(l:List D):(iL l:Option (List D ⊕ β))=some (.inl l):=rfl
theorem q9n {β:Type}(A:Sy)(p:PRes)(k:Nat)(f:Bool→Option β):yB A p k f=(opB (A.cell p.leaves k)).bind f:=rfl
theorem q9m {β:Type}(A:Sy)(p:PRes)(k:Nat)(f:Int→Option β):yI A p k f=(opI (A.cell p.leaves k) .i64).bind f:=rfl
theorem q9k {β:Type}(A:Sy)(p:PRes)(k:Nat)(f:ByteArray→Option β):yS A p k f=(opS (A.cell p.leaves k)).bind f:=rfl
theorem q9l {β:Type}(A:Sy)(p:PRes)(k e:Nat)(f:LL→Option β):yL A p k e f=(opL (A.cell p.leaves k) e).bind f:=rfl
theorem q9y {β:Type}(b:Bool)(x:Option β):iT b x=bif b then x else none:=rfl
theorem q9s (n:Int):nI n= .int .i64 n:=rfl
theorem q9d (A:Sy)(n:Int):zW A n=A.wrap .i64 n:=rfl
theorem an {a b:Prop}(x:a)(y:b):a∧b:=⟨x,y⟩
theorem go1:type_of% (an @q9n (an @q9m (an @q9k (an @q9l (an @q9y (an @q9o (an @q9z (an @q9i (an @q9g (an @q9e (an @q9f (an @q9h (an @q9q (an @q9p (an @q9s (an @q9d (an @bs1 (an @ct1 (an @cf1 (an @es1 (an @u7l (an @v8d (an @v7r (an @v7t (an @v7y (an @v7w (an @v7x (an @u1x (an @v8c (an @v8b (an @u7x (an @u7u (an @u7t (an @z2o (an @y6y (an @u7m (an @v7v (an @v7s (an @z2p (an @u2b (an @u1w (an @u7s (an @u7p (an @u7w (an @u2a (an @v8a (an @z9l (an @u1y (an @u7r (an @u1z (an @v7u (an @u7o (an @u7v (an @v7z (an @u3p (an @u3o (an @z9v (an @u2t (an @u9f (an @v8m (an @u9g (an @y4b (an @z1p (an @z7z (an @u4k (an @u3u (an @u3t (an @x4h (an @y0r (an @Nat.zero_add (an @Bool.cond_false_right (an @Bool.cond_true_left (an @Bool.cond_false_left (an @Bool.cond_true_right (an @Bool.not_true (an @Bool.not_false (an @Bool.not_not (an @decide_true (an @decide_false (an @Bool.true_and (an @Bool.and_true (an @Bool.false_and (an @Bool.and_false (an @Bool.or_false (an @Bool.false_or (an @Bool.true_or (an @Bool.or_true (an @true_and (@and_true))))))))))))))))))))))))))))))))))))))))))))))))))))))))))))))))))))))))))))))))))))))))):=an @q9n (an @q9m (an @q9k (an @q9l (an @q9y (an @q9o (an @q9z (an @q9i (an @q9g (an @q9e (an @q9f (an @q9h (an @q9q (an @q9p (an @q9s (an @q9d (an @bs1 (an @ct1 (an @cf1 (an @es1 (an @u7l (an @v8d (an @v7r (an @v7t (an @v7y (an @v7w (an @v7x (an @u1x (an @v8c (an @v8b (an @u7x (an @u7u (an @u7t (an @z2o (an @y6y (an @u7m (an @v7v (an @v7s (an @z2p (an @u2b (an @u1w (an @u7s (an @u7p (an @u7w (an @u2a (an @v8a (an @z9l (an @u1y (an @u7r (an @u1z (an @v7u (an @u7o (an @u7v (an @v7z (an @u3p (an @u3o (an @z9v (an @u2t (an @u9f (an @v8m (an @u9g (an @y4b (an @z1p (an @z7z (an @u4k (an @u3u (an @u3t (an @x4h (an @y0r (an @Nat.zero_add (an @Bool.cond_false_right (an @Bool.cond_true_left (an @Bool.cond_false_left (an @Bool.cond_true_right (an @Bool.not_true (an @Bool.not_false (an @Bool.not_not (an @decide_true (an @decide_false (an @Bool.true_and (an @Bool.and_true (an @Bool.false_and (an @Bool.and_false (an @Bool.or_false (an @Bool.false_or (an @Bool.true_or (an @Bool.or_true (an @true_and (@and_true))))))))))))))))))))))))))))))))))))))))))))))))))))))))))))))))))))))))))))))))))))))))
end Go.Vm
end

section
namespace Go.Vm
section
variable {α β : Type}
theorem y7b {v:Option α}{f:α→Option β}{n:α}{p:β}(h:v=some n)(k:f n=some p):v.bind f=some p:=by rw[h];exact k
theorem z5e {X:Option (List D ⊕ α)}{K:List D→Option α}{ds:List D}{p:α}(h:X=some (.inl ds))(k:K ds=some p):x0q X K=some p:=by rw[h];exact k
theorem w9x {c:Bool}{a b:Option α}{p:α}(h:c=true)(k:a=some p):(bif c then a else b)=some p:=by rw[h];exact k
theorem w9y {c:Bool}{a b:Option α}{p:α}(h:c=false)(k:b=some p):(bif c then a else b)=some p:=by rw[h];exact k
theorem z5a {v:Option D}{k:IntKind}{n:Int}(h:v=some (.int k n)):opI v k=some n:=by rw[h];simp [opI]
theorem z5b {v:Option D}{n:Bool}(h:v=some (.bool n)):opB v=some n:=by rw[h];rfl
theorem z4z {v:Option D}{sz:Nat}{n:LL}(h:v=some (.sl sz n)):opL v sz=some n:=by rw[h];simp [opL]
noncomputable def lpK (b:List D→Option (List D ⊕ α)):List D ⊕ α→Option α
 | .inl ds=>eF.lp b ds
 | .inr a=>some a
theorem u8a {b:List D→Option (List D ⊕ α)}{ds:List D}{r:List D ⊕ α}{p:α}(h:b ds=some r)(k:lpK b r=some p):eF.lp b ds=some p:=by
 show x7h b ds=some p
 rw[x8s,h]
 cases r with
 |inl d=>exact k
 |inr a=>exact k
theorem z5d {b:List D→Option (List D ⊕ α)}{ds:List D}{p:α}(k:eF.lp b ds=some p):lpK b (.inl ds)=some p:=k
theorem z5c {b:List D→Option (List D ⊕ α)}{a:α}:lpK b (.inr a)=some a:=rfl
theorem y7a {a:α}:some a=some a:=rfl
end
end Go.Vm
end

section
namespace Go.Vm
def kP (pn:Int)(l:LL)(i:Int):List V:=[.d (.int .i64 pn), .d (.int .i64 1), .ptr 0 0, .fn 266 [.d (.sl 4 l), .d (.int .i64 i)]]
def kS (pn:Int)(s:ByteArray)(l:LL)(i:Int):List V:=[.d (.int .i64 pn), .d (.int .i64 2), .ptr 0 0, .d (.str s), .fn 266 [.d (.sl 4 l), .d (.int .i64 i)]]
def kO (a b:Int)(l:LL)(i:Int):List V:=[.d (.int .i64 0), .d (.int .i64 3), .ptr 0 0, .d (.int .i64 a), .d (.int .i64 b), .fn 266 [.d (.sl 4 l), .d (.int .i64 i)]]
def kN (w l:LL)(i:Int):List V:=[.d (.int .i64 285), .d (.int .i64 2), .ptr 0 0, .own 1, .fn 266 [.d (.sl 4 l), .d (.int .i64 i)], .tup [.d (.int .i64 9), .d (.sl 1 w)]]
def rP (l:LL)(i:Int)(b:Bool):List V:=[.d (.int .i64 0), .d (.int .i64 1), .ptr 0 0, .fn 61 [.d (.sl 4 l), .d (.int .i64 i), .d (.bool b)]]
def rS (s:ByteArray)(l:LL)(i:Int)(b:Bool):List V:=[.d (.int .i64 0), .d (.int .i64 2), .ptr 0 0, .d (.str s), .fn 61 [.d (.sl 4 l), .d (.int .i64 i), .d (.bool b)]]
def rO (a w l:LL)(i:Int)(b:Bool):List V:=[.d (.int .i64 0), .d (.int .i64 3), .ptr 0 0, .own 1, .own 2, .fn 61 [.d (.sl 4 l), .d (.int .i64 i), .d (.bool b)], .tup [.d (.int .i64 3), .d (.sl 1 a)], .tup [.d (.int .i64 9), .d (.sl 1 w)]]
abbrev kE (a b:Int)(c:ByteArray)(d:Int)(e f:LL):V:= .agg [.d (.int .i64 a), .d (.int .i64 b), .d (.str c), .d (.int .i64 d), .d (.sl 1 e), .d (.sl 6 f)]
noncomputable def u5d (f:Nat):RecI:=q6k Go.Proofs.Tryz.prog f
section
variable {α : Type} (A : Sy) (ds : List D) (j : Nat)
def oE (K:Int→Int→ByteArray→Int→LL→LL→Option α):Option α:=
 (opI (A.cell ds j) .i64).bind fun a=>(opI (A.cell ds (j+1)) .i64).bind fun b=>(opS (A.cell ds (j+2))).bind fun c=>(opI (A.cell ds (j+3)) .i64).bind fun d=>(opL (A.cell ds (j+4)) 1).bind fun e=>(opL (A.cell ds (j+5)) 6).bind fun f=>K a b c d e f
def oP (K:LL→Int→Option α):Option α:=(opL (A.cell ds j) 4).bind fun a=>(opI (A.cell ds (j+1)) .i64).bind fun b=>K a b
def oR (K:LL→Int→Bool→Option α):Option α:=(opL (A.cell ds j) 4).bind fun a=>(opI (A.cell ds (j+1)) .i64).bind fun b=>(opB (A.cell ds (j+2))).bind fun c=>K a b c
def oT (K:Int→ByteArray→Int→Int→Option α):Option α:=(opI (A.cell ds j) .i64).bind fun a=>(opS (A.cell ds (j+1))).bind fun b=>(opI (A.cell ds (j+2)) .i64).bind fun c=>(opI (A.cell ds (j+3)) .i64).bind fun d=>K a b c d
def oQ (K:Bool→Bool→Bool→Int→Int→Int→Option α):Option α:=(opB (A.cell ds j)).bind fun a=>(opB (A.cell ds (j+1))).bind fun b=>(opB (A.cell ds (j+2))).bind fun c=>(opI (A.cell ds (j+3)) .i64).bind fun d=>(opI (A.cell ds (j+4)) .i64).bind fun e=>(opI (A.cell ds (j+5)) .i64).bind fun f=>K a b c d e f
end
end Go.Vm
end

section
namespace Go.Vm
abbrev rbV (o:Nat)(l:LL)(i:Int)(b:Bool)(a w:Int):V:= .fn 47 [.d (.sl 4 l), .d (.int .i64 i), .own o, .ifo 51 b [.int .i64 a, .int .i64 w]]
abbrev enV (en:LL):V:= .tup [.d (.int .i64 66), .d (.sl 2 en)]
def kR (l:LL)(i:Int)(en:LL)(b:Bool)(a w:Int):List V:=[.d (.int .i64 0), .d (.int .i64 1), .ptr 0 0,rbV 1 l i b a w,enV en]
def kRS (s:ByteArray)(l:LL)(i:Int)(en:LL)(b:Bool)(a w:Int):List V:=[.d (.int .i64 0), .d (.int .i64 2), .ptr 0 0, .d (.str s),rbV 1 l i b a w,enV en]
def kRI (k:Int)(l:LL)(i:Int)(en:LL)(b:Bool)(a w:Int):List V:=[.d (.int .i64 0), .d (.int .i64 2), .ptr 0 0, .d (.int .i64 k),rbV 1 l i b a w,enV en]
def kRB (k:Bool)(l:LL)(i:Int)(en:LL)(b:Bool)(a w:Int):List V:=[.d (.int .i64 0), .d (.int .i64 2), .ptr 0 0, .d (.bool k),rbV 1 l i b a w,enV en]
def kRF (p c:Int)(l:LL)(i:Int)(en:LL)(b:Bool)(a w:Int):List V:=[.d (.int .i64 0), .d (.int .i64 3), .ptr 0 0, .d (.int .i64 p), .d (.int .i64 c),rbV 1 l i b a w,enV en]
def kRN (ws l:LL)(i:Int)(en:LL)(b:Bool)(a w:Int):List V:=[.d (.int .i64 0), .d (.int .i64 2), .ptr 0 0, .own 1,rbV 2 l i b a w, .tup [.d (.int .i64 9), .d (.sl 1 ws)],enV en]
def qR (l:LL)(i:Int)(b:Bool)(en:LL)(e:Int):List V:= .d (.int .i64 0):: .d (.int .i64 1):: .ptr 0 0:: .fn 63 [.ptr 1 0, .own 2, .d (.int .i64 e)]:: .fn 61 [.d (.sl 4 l), .d (.int .i64 i), .d (.bool b)]::[enV en]
def qRB (k:Bool)(l:LL)(i:Int)(b:Bool)(en:LL)(e:Int):List V:= .d (.int .i64 0):: .d (.int .i64 2):: .ptr 0 0:: .d (.bool k):: .fn 63 [.ptr 1 0, .own 2, .d (.int .i64 e)]:: .fn 61 [.d (.sl 4 l), .d (.int .i64 i), .d (.bool b)]::[enV en]
def kAs (b:Bool)(a w:Int):List V:=[.d (.int .i64 0), .d (.int .i64 2), .ifo 51 b [.int .i64 a, .int .i64 w], .ifp 53 0 0, .fn 51 [.d (.int .i64 0), .d (.int .i64 0)]]
section
variable {α : Type} (A : Sy) (ds : List D) (j : Nat)
def oV (K:LL→Int→Bool→Int→Int→LL→Option α):Option α:=
 (opL (A.cell ds j) 4).bind fun l=>(opI (A.cell ds (j+1)) .i64).bind fun i=>(opB (A.cell ds (j+2))).bind fun b=>(opI (A.cell ds (j+3)) .i64).bind fun a=>(opI (A.cell ds (j+4)) .i64).bind fun w=>(opL (A.cell ds (j+5)) 2).bind fun en=>K l i b a w en
def oW (K:Int→LL→Int→Bool→LL→Option α):Option α:=
 (opI (A.cell ds j) .i64).bind fun e=>(opL (A.cell ds (j+1)) 4).bind fun l=>(opI (A.cell ds (j+2)) .i64).bind fun i=>(opB (A.cell ds (j+3))).bind fun b=>(opL (A.cell ds (j+4)) 2).bind fun en=>K e l i b en
def oD (K:ByteArray→Int→Int→Int→ByteArray→ByteArray→Option α):Option α:=
 (opS (A.cell ds j)).bind fun n=>(opI (A.cell ds (j+1)) .i64).bind fun k=>(opI (A.cell ds (j+2)) .i64).bind fun e=>(opI (A.cell ds (j+3)) .i64).bind fun c=>(opS (A.cell ds (j+4))).bind fun o=>(opS (A.cell ds (j+5))).bind fun q=>K n k e c o q
end
end Go.Vm
end

section
set_option maxRecDepth 1000000
set_option maxHeartbeats 0
namespace Go.Vm
open Go.Proofs
noncomputable section
variable (A : Sy) (E : Env)
def b37 (A:Sy)(E:Env)(toks:LL)(at_:Int)(en_:LL)(b_:Bool)(a_ w_:Int)(s_:ByteArray):Option PRes:=bif (A.bnot b_)then vL [.bool false, .sl 4 toks,nI at_, .bool b_,nI a_,nI w_, .sl 2 en_] else bif (A.ile (A.rlen toks) (zW A (A.add at_ 0)))then bif (A.bnot false)then vL [.bool false, .sl 4 toks,nI at_, .bool b_,nI a_,nI w_, .sl 2 en_] else vL [.bool true, .sl 4 toks,nI (zW A (A.add at_ 1)), .bool b_,nI a_,nI w_, .sl 2 en_] else iT (A.inr (zW A (A.add at_ 0)) (A.rlen toks)) <| zI A (A.row toks (zW A (A.add at_ 0))) 0 fun n1=>zS A (A.row toks (zW A (A.add at_ 0))) 1 fun s2=>zI A (A.row toks (zW A (A.add at_ 0))) 2 fun n3=>zI A (A.row toks (zW A (A.add at_ 0))) 3 fun n4=>x0q (bif (A.seq s2 s_)then bif (A.ieq n1 1)then vB true else vB (A.ieq n1 5) else vB false) fun ds5=>zB A ds5 0 fun b6=>bif (A.bnot b6)then vL [.bool false, .sl 4 toks,nI at_, .bool b_,nI a_,nI w_, .sl 2 en_] else vL [.bool true, .sl 4 toks,nI (zW A (A.add at_ 1)), .bool b_,nI a_,nI w_, .sl 2 en_]
theorem v2w (toks:LL)(at_:Int)(en_:LL)(b_:Bool)(a_ w_:Int)(s_:ByteArray):(x3f A Tryz.prog cs 37 0 [.ptr 0 0, .d (.str s_)] [.cells (.ty 47) [.d (.sl 4 toks), .d (.int .i64 at_), .own 1, .ifo 51 b_ [.int .i64 a_, .int .i64 w_]], .arr 66 2 en_]).run E=b37 A E toks at_ en_ b_ a_ w_ s_:=by kernel_rfl
def b42 (A:Sy)(E:Env)(toks:LL)(at_:Int)(en_:LL)(b_:Bool)(a_ w_ p_ c_:Int):Option PRes:=bif b_ then iT (A.inr p_ (A.rlen toks)) <| zI A (A.skip 3 (A.row toks p_)) 0 fun n1=>vL [.sl 4 toks,nI at_, .bool false,nI n1,nI c_, .sl 2 en_] else vL [.sl 4 toks,nI at_, .bool b_,nI a_,nI w_, .sl 2 en_]
theorem v9j (toks:LL)(at_:Int)(en_:LL)(b_:Bool)(a_ w_ p_ c_:Int):(x3f A Tryz.prog cs 42 0 [.ptr 0 0, .d (.int .i64 p_), .d (.int .i64 c_)] [.cells (.ty 47) [.d (.sl 4 toks), .d (.int .i64 at_), .own 1, .ifo 51 b_ [.int .i64 a_, .int .i64 w_]], .arr 66 2 en_]).run E=b42 A E toks at_ en_ b_ a_ w_ p_ c_:=by kernel_rfl
def b86 (toks:LL)(at_:Int)(en_:LL)(b_:Bool)(a_ w_ k_:Int):Option PRes:=iT (A.inr at_ (A.rlen toks)) <| oT A (A.row toks at_) 0 fun n1 s2 n3 n4=>x0q (bif (A.bnot b_)then vB true else vB (A.bnot (A.ieq n1 k_))) fun ds5=>zB A ds5 0 fun b6=>x0q (bif b6 then vB true else bif (A.ieq k_ 1)then zC E 123 [.d (.str s2)] fun p7=>yB A p7 0 fun b9=>vB b9 else vB false) fun ds10=>zB A ds10 0 fun b11=>bif b11 then zC E 1000042 (kRF at_ 2 toks at_ en_ b_ a_ w_) fun p12=>oV A p12.leaves 0 fun l14 n15 b16 n17 n18 l19=>vL [nI 0, .str (bs []),nI 0,nI 0, .sl 4 l14,nI n15, .bool b16,nI n17,nI n18, .sl 2 l19] else vL [nI n1, .str s2,nI n3,nI n4, .sl 4 toks,nI (zW A (A.add at_ 1)), .bool b_,nI a_,nI w_, .sl 2 en_]
theorem v2u (toks:LL)(at_:Int)(en_:LL)(b_:Bool)(a_ w_ k_:Int):(x3f A Tryz.prog cs 86 0 [.ptr 0 0, .d (.int .i64 k_)] [.cells (.ty 47) [.d (.sl 4 toks), .d (.int .i64 at_), .own 1, .ifo 51 b_ [.int .i64 a_, .int .i64 w_]], .arr 66 2 en_]).run E=b86 A E toks at_ en_ b_ a_ w_ k_:=by kernel_rfl
def b88 (toks:LL)(at_:Int)(en_:LL)(b_:Bool)(a_ w_ k_:Int):Option PRes:=zC E 1000086 (kRI k_ toks at_ en_ b_ a_ w_) fun p1=>oT A p1.leaves 0 fun n3 s4 n5 n6=>oV A p1.leaves 4 fun l7 n8 b9 n10 n11 l12=>E.lp (fun ds13=>zI A ds13 0 fun n14=>oV A ds13 1 fun l15 n16 b17 n18 n19 l20=>zL A ds13 7 1 fun l21=>zC E 1000037 (kRS (bs [44]) l15 n16 l20 b17 n18 n19) fun p22=>yB A p22 0 fun b24=>oV A p22.leaves 1 fun l25 n26 b27 n28 n29 l30=>bif b24 then zC E 1000086 (kRI n14 l25 n26 l30 b27 n28 n29) fun p31=>oT A p31.leaves 0 fun n33 s34 n35 n36=>oV A p31.leaves 4 fun l37 n38 b39 n40 n41 l42=>iT (A.fits l21 [[.str s34]] 16) <| iL [nI n14, .sl 4 l37,nI n38, .bool b39,nI n40,nI n41, .sl 2 l42, .sl 1 (A.rapp l21 [[.str s34]])] else some (.inr (.val [.sl 1 l21, .sl 4 l25,nI n26, .bool b27,nI n28,nI n29, .sl 2 l30]))) [nI k_, .sl 4 l7,nI n8, .bool b9,nI n10,nI n11, .sl 2 l12, .sl 1 [[.str s4]]]
theorem q4j (toks:LL)(at_:Int)(en_:LL)(b_:Bool)(a_ w_ k_:Int):(x3f A Tryz.prog cs 88 0 [.ptr 0 0, .d (.int .i64 k_)] [.cells (.ty 47) [.d (.sl 4 toks), .d (.int .i64 at_), .own 1, .ifo 51 b_ [.int .i64 a_, .int .i64 w_]], .arr 66 2 en_]).run E=b88 A E toks at_ en_ b_ a_ w_ k_:=by kernel_rfl
def b38 (toks:LL)(at_:Int)(en_:LL)(b_:Bool)(a_ w_:Int):Option PRes:=zC E 1000086 (kRI 1 toks at_ en_ b_ a_ w_) fun p1=>oT A p1.leaves 0 fun n3 s4 n5 n6=>oV A p1.leaves 4 fun l7 n8 b9 n10 n11 l12=>zC E 1000087 (kRN [[.str (bs [123])]] l7 n8 l12 b9 n10 n11) fun p13=>oR A p13.leaves 0 fun l15 n16 b17=>yI A p13 3 fun n18=>yI A p13 4 fun n19=>yL A p13 5 1 fun l20=>yL A p13 6 2 fun l21=>zC E 1000088 (kRI 2 l15 n16 l21 b17 n18 n19) fun p22=>yL A p22 0 1 fun l24=>oV A p22.leaves 1 fun l25 n26 b27 n28 n29 l30=>zC E 1000087 (kRN [[.str (bs [125])],[.str (bs [59])]] l25 n26 l30 b27 n28 n29) fun p31=>oR A p31.leaves 0 fun l33 n34 b35=>yI A p31 3 fun n36=>yI A p31 4 fun n37=>yL A p31 5 1 fun l38=>yL A p31 6 2 fun l39=>vL [.str s4, .sl 1 l24, .sl 4 l33,nI n34, .bool b35,nI n36,nI n37, .sl 2 l39]
theorem q4o (toks:LL)(at_:Int)(en_:LL)(b_:Bool)(a_ w_:Int):(x3f A Tryz.prog cs 38 0 [.ptr 0 0] [.cells (.ty 47) [.d (.sl 4 toks), .d (.int .i64 at_), .own 1, .ifo 51 b_ [.int .i64 a_, .int .i64 w_]], .arr 66 2 en_]).run E=b38 A E toks at_ en_ b_ a_ w_:=by kernel_rfl
def q5u (toks:LL)(at_:Int)(en_:LL)(b_:Bool)(a_ w_:Int):Option PRes:=zC E 1000037 (kRS (bs [105,110,116]) toks at_ en_ b_ a_ w_) fun p1=>yB A p1 0 fun b3=>oV A p1.leaves 1 fun l4 n5 b6 n7 n8 l9=>bif b3 then vL [nI 1,nI 0,nI 0, .sl 4 l4,nI n5, .bool b6,nI n7,nI n8, .sl 2 l9] else zC E 1000037 (kRS (bs [98,111,111,108]) l4 n5 l9 b6 n7 n8) fun p10=>yB A p10 0 fun b12=>oV A p10.leaves 1 fun l13 n14 b15 n16 n17 l18=>bif b12 then vL [nI 2,nI 0,nI 0, .sl 4 l13,nI n14, .bool b15,nI n16,nI n17, .sl 2 l18] else zC E 1000086 (kRI 1 l13 n14 l18 b15 n16 n17) fun p19=>oT A p19.leaves 0 fun n21 s22 n23 n24=>oV A p19.leaves 4 fun l25 n26 b27 n28 n29 l30=>E.lp (fun ds31=>zI A ds31 0 fun n32=>zI A ds31 1 fun n33=>oV A ds31 2 fun l34 n35 b36 n37 n38 l39=>zI A ds31 8 fun n40=>zI A ds31 9 fun n41=>zI A ds31 10 fun n42=>zS A ds31 11 fun s43=>bif (A.ilt n33 n32)then iT (A.inr n33 (A.rlen l39)) <| iT (A.inrn (A.nat n33) l39) <| zS A (A.rown l39 (A.nat n33)) 0 fun s44=>zL A (A.rown l39 (A.nat n33)) 1 1 fun l45=>bif (A.seq s44 s43)then bif (A.ilt n33 0)then zC E 1000042 (kRF n14 2 l34 n35 l39 b36 n37 n38) fun p46=>oV A p46.leaves 0 fun l48 n49 b50 n51 n52 l53=>some (.inr (.val [nI 0,nI 0,nI 0, .sl 4 l48,nI n49, .bool b50,nI n51,nI n52, .sl 2 l53])) else some (.inr (.val [nI 3,nI n33,nI 0, .sl 4 l34,nI n35, .bool b36,nI n37,nI n38, .sl 2 l39])) else iL [nI n32,nI (zW A (A.add n33 1)), .sl 4 l34,nI n35, .bool b36,nI n37,nI n38, .sl 2 l39,nI n40,nI n41,nI n42, .str s43] else bif (A.ilt (-1) 0)then zC E 1000042 (kRF n14 2 l34 n35 l39 b36 n37 n38) fun p54=>oV A p54.leaves 0 fun l56 n57 b58 n59 n60 l61=>some (.inr (.val [nI 0,nI 0,nI 0, .sl 4 l56,nI n57, .bool b58,nI n59,nI n60, .sl 2 l61])) else some (.inr (.val [nI 3,nI (-1),nI 0, .sl 4 l34,nI n35, .bool b36,nI n37,nI n38, .sl 2 l39]))) [nI (A.rlen l30),nI 0, .sl 4 l25,nI n26, .bool b27,nI n28,nI n29, .sl 2 l30,nI 0,nI 0,nI 0, .str s22]
theorem u1l (toks:LL)(at_:Int)(en_:LL)(b_:Bool)(a_ w_:Int):(x3f A Tryz.prog cs 201 0 [.ptr 0 0] [.cells (.ty 47) [.d (.sl 4 toks), .d (.int .i64 at_), .own 1, .ifo 51 b_ [.int .i64 a_, .int .i64 w_]], .arr 66 2 en_]).run E=q5u A E toks at_ en_ b_ a_ w_:=by kernel_rfl
def q5v (A:Sy)(E:Env)(toks:LL)(at_:Int)(en_:LL)(b_:Bool)(a_ w_:Int):Option PRes:=(E.call 1000201 (kR toks at_ en_ b_ a_ w_)).bind fun p1=>(opI (A.cell p1.leaves 0) .i64).bind fun n3=>(opI (A.cell p1.leaves 1) .i64).bind fun n4=>(opI (A.cell p1.leaves 2) .i64).bind fun n5=>oV A p1.leaves 3 fun l6 n7 b8 n9 n10 l11=>(E.call 1000037 (kRS (bs [91]) l6 n7 l11 b8 n9 n10)).bind fun p12=>(opB (A.cell p12.leaves 0)).bind fun b14=>oV A p12.leaves 1 fun l15 n16 b17 n18 n19 l20=>bif (A.bnot b14)then some (.val [(.int .i64 n3),(.int .i64 n4),(.int .i64 n5),(.sl 4 l15),(.int .i64 n16),(.bool b17),(.int .i64 n18),(.int .i64 n19),(.sl 2 l20)]) else (E.call 1000086 (kRI 3 l15 n16 l20 b17 n18 n19)).bind fun p21=>oT A p21.leaves 0 fun n23 s24 n25 n26=>oV A p21.leaves 4 fun l27 n28 b29 n30 n31 l32=>x0q (bif (A.ilt n25 1)then some (.inl [(.bool true)]) else some (.inl [(.bool (A.ilt 8 n25))])) fun ds33=>(opB (A.cell ds33 0)).bind fun b34=>bif b34 then (E.call 1000042 (kRF n16 2 l27 n28 l32 b29 n30 n31)).bind fun p35=>oV A p35.leaves 0 fun l37 n38 b39 n40 n41 l42=>some (.val [(.int .i64 n3),(.int .i64 n4),(.int .i64 n5),(.sl 4 l37),(.int .i64 n38),(.bool b39),(.int .i64 n40),(.int .i64 n41),(.sl 2 l42)]) else (E.call 1000087 (kRN [[(.str (bs [93]))]] l27 n28 l32 b29 n30 n31)).bind fun p43=>oR A p43.leaves 0 fun l45 n46 b47=>(opI (A.cell p43.leaves 3) .i64).bind fun n48=>(opI (A.cell p43.leaves 4) .i64).bind fun n49=>(opL (A.cell p43.leaves 5) 1).bind fun l50=>(opL (A.cell p43.leaves 6) 2).bind fun l51=>some (.val [(.int .i64 n3),(.int .i64 n4),(.int .i64 n25),(.sl 4 l45),(.int .i64 n46),(.bool b47),(.int .i64 n48),(.int .i64 n49),(.sl 2 l51)])
theorem u1m (toks:LL)(at_:Int)(en_:LL)(b_:Bool)(a_ w_:Int):(x3f A Tryz.prog cs 169 0 [.ptr 0 0] [.cells (.ty 47) [.d (.sl 4 toks), .d (.int .i64 at_), .own 1, .ifo 51 b_ [.int .i64 a_, .int .i64 w_]], .arr 66 2 en_]).run E=q5v A E toks at_ en_ b_ a_ w_:=by kernel_rfl
def q8w (toks:LL)(at_:Int)(en_:LL)(b_:Bool)(a_ w_:Int):Option PRes:=zC E 202 [.d (.sl 4 toks), .d (nI at_)] fun p1=>yS A p1 0 fun s3=>yS A p1 1 fun s4=>yI A p1 2 fun n5=>yB A p1 3 fun b6=>bif (A.bnot b6)then zC E 1000042 (kRF n5 2 toks at_ en_ b_ a_ w_) fun p7=>oV A p7.leaves 0 fun l9 n10 b11 n12 n13 l14=>vL [.str (bs []), .str (bs []), .sl 4 l9,nI n10, .bool b11,nI n12,nI n13, .sl 2 l14] else vL [.str s3, .str s4, .sl 4 toks,nI n5, .bool b_,nI a_,nI w_, .sl 2 en_]
theorem v2z (toks:LL)(at_:Int)(en_:LL)(b_:Bool)(a_ w_:Int):(x3f A Tryz.prog cs 170 0 [.ptr 0 0] [.cells (.ty 47) [.d (.sl 4 toks), .d (.int .i64 at_), .own 1, .ifo 51 b_ [.int .i64 a_, .int .i64 w_]], .arr 66 2 en_]).run E=q8w A E toks at_ en_ b_ a_ w_:=by kernel_rfl
def q4s (A:Sy)(E:Env)(toks:LL)(at_:Int)(en_:LL)(b_:Bool)(a_ w_:Int):Option PRes:=(E.call 1000086 (kRI 1 toks at_ en_ b_ a_ w_)).bind fun p1=>oT A p1.leaves 0 fun n3 s4 n5 n6=>oV A p1.leaves 4 fun l7 n8 b9 n10 n11 l12=>(E.call 1000087 (kRN [[(.str (bs [58]))]] l7 n8 l12 b9 n10 n11)).bind fun p13=>oR A p13.leaves 0 fun l15 n16 b17=>(opI (A.cell p13.leaves 3) .i64).bind fun n18=>(opI (A.cell p13.leaves 4) .i64).bind fun n19=>(opL (A.cell p13.leaves 5) 1).bind fun l20=>(opL (A.cell p13.leaves 6) 2).bind fun l21=>(E.call 1000169 (kR l15 n16 l21 b17 n18 n19)).bind fun p22=>(opI (A.cell p22.leaves 0) .i64).bind fun n24=>(opI (A.cell p22.leaves 1) .i64).bind fun n25=>(opI (A.cell p22.leaves 2) .i64).bind fun n26=>oV A p22.leaves 3 fun l27 n28 b29 n30 n31 l32=>(E.call 1000037 (kRS (bs [119,104,101,110]) l27 n28 l32 b29 n30 n31)).bind fun p33=>(opB (A.cell p33.leaves 0)).bind fun b35=>oV A p33.leaves 1 fun l36 n37 b38 n39 n40 l41=>bif b35 then (E.call 1000170 (kR l36 n37 l41 b38 n39 n40)).bind fun p42=>(opS (A.cell p42.leaves 0)).bind fun s44=>(opS (A.cell p42.leaves 1)).bind fun s45=>oV A p42.leaves 2 fun l46 n47 b48 n49 n50 l51=>some (.val [(.str s4),(.int .i64 n24),(.int .i64 n25),(.int .i64 n26),(.str s44),(.str s45),(.sl 4 l46),(.int .i64 n47),(.bool b48),(.int .i64 n49),(.int .i64 n50),(.sl 2 l51)]) else some (.val [(.str s4),(.int .i64 n24),(.int .i64 n25),(.int .i64 n26),(.str (bs [])),(.str (bs [])),(.sl 4 l36),(.int .i64 n37),(.bool b38),(.int .i64 n39),(.int .i64 n40),(.sl 2 l41)])
theorem v3a (toks:LL)(at_:Int)(en_:LL)(b_:Bool)(a_ w_:Int):(x3f A Tryz.prog cs 129 0 [.ptr 0 0] [.cells (.ty 47) [.d (.sl 4 toks), .d (.int .i64 at_), .own 1, .ifo 51 b_ [.int .i64 a_, .int .i64 w_]], .arr 66 2 en_]).run E=q4s A E toks at_ en_ b_ a_ w_:=by kernel_rfl
def b89 (A:Sy)(E:Env)(toks:LL)(at_:Int)(en_:LL)(b_:Bool)(a_ w_:Int)(f_:Bool):Option PRes:=(E.call 1000129 (kR toks at_ en_ b_ a_ w_)).bind fun p1=>oD A p1.leaves 0 fun s3 n4 n5 n6 s7 s8=>oV A p1.leaves 6 fun l9 n10 b11 n12 n13 l14=>E.lp (fun ds15=>(opB (A.cell ds15 0)).bind fun b16=>oV A ds15 1 fun l17 n18 b19 n20 n21 l22=>(opL (A.cell ds15 7) 6).bind fun l23=>bif b19 then bif (A.ile (A.rlen l17) (A.wrap .i64 (A.add n18 0)))then some (.inr (.val [(.sl 6 l23),(.sl 4 l17),(.int .i64 n18),(.bool b19),(.int .i64 n20),(.int .i64 n21),(.sl 2 l22)])) else bif (A.inr (A.wrap .i64 (A.add n18 0)) (A.rlen l17))then (opI (A.cell (A.row l17 (A.wrap .i64 (A.add n18 0))) 0) .i64).bind fun n24=>(opS (A.cell (A.row l17 (A.wrap .i64 (A.add n18 0))) 1)).bind fun s25=>(opI (A.cell (A.row l17 (A.wrap .i64 (A.add n18 0))) 2) .i64).bind fun n26=>(opI (A.cell (A.row l17 (A.wrap .i64 (A.add n18 0))) 3) .i64).bind fun n27=>x0q (bif (A.seq s25 (bs [59]))then bif (A.ieq n24 1)then some (.inl [(.bool true)]) else some (.inl [(.bool (A.ieq n24 5))]) else some (.inl [(.bool false)])) fun ds28=>(opB (A.cell ds28 0)).bind fun b29=>bif b29 then bif b16 then bif (A.ile (A.rlen l17) (A.wrap .i64 (A.add n18 1)))then bif (A.bnot false)then (E.call 1000087 (kRN [[(.str (bs [59]))]] l17 n18 l22 b19 n20 n21)).bind fun p30=>oR A p30.leaves 0 fun l32 n33 b34=>(opI (A.cell p30.leaves 3) .i64).bind fun n35=>(opI (A.cell p30.leaves 4) .i64).bind fun n36=>(opL (A.cell p30.leaves 5) 1).bind fun l37=>(opL (A.cell p30.leaves 6) 2).bind fun l38=>(E.call 1000129 (kR l32 n33 l38 b34 n35 n36)).bind fun p39=>oD A p39.leaves 0 fun s41 n42 n43 n44 s45 s46=>oV A p39.leaves 6 fun l47 n48 b49 n50 n51 l52=>bif (A.fits l23 [[(.str s41),(.int .i64 n42),(.int .i64 n43),(.int .i64 n44),(.str s45),(.str s46)]] 72)then some (.inl [(.bool b16),(.sl 4 l47),(.int .i64 n48),(.bool b49),(.int .i64 n50),(.int .i64 n51),(.sl 2 l52),(.sl 6 (A.rapp l23 [[(.str s41),(.int .i64 n42),(.int .i64 n43),(.int .i64 n44),(.str s45),(.str s46)]]))]) else none else some (.inr (.val [(.sl 6 l23),(.sl 4 l17),(.int .i64 n18),(.bool b19),(.int .i64 n20),(.int .i64 n21),(.sl 2 l22)])) else bif (A.inr (A.wrap .i64 (A.add n18 1)) (A.rlen l17))then (opI (A.cell (A.row l17 (A.wrap .i64 (A.add n18 1))) 0) .i64).bind fun n53=>(opS (A.cell (A.row l17 (A.wrap .i64 (A.add n18 1))) 1)).bind fun s54=>(opI (A.cell (A.row l17 (A.wrap .i64 (A.add n18 1))) 2) .i64).bind fun n55=>(opI (A.cell (A.row l17 (A.wrap .i64 (A.add n18 1))) 3) .i64).bind fun n56=>x0q (bif (A.seq s54 (bs [108,101,116]))then bif (A.ieq n53 1)then some (.inl [(.bool true)]) else some (.inl [(.bool (A.ieq n53 5))]) else some (.inl [(.bool false)])) fun ds57=>(opB (A.cell ds57 0)).bind fun b58=>bif (A.bnot b58)then (E.call 1000087 (kRN [[(.str (bs [59]))]] l17 n18 l22 b19 n20 n21)).bind fun p59=>oR A p59.leaves 0 fun l61 n62 b63=>(opI (A.cell p59.leaves 3) .i64).bind fun n64=>(opI (A.cell p59.leaves 4) .i64).bind fun n65=>(opL (A.cell p59.leaves 5) 1).bind fun l66=>(opL (A.cell p59.leaves 6) 2).bind fun l67=>(E.call 1000129 (kR l61 n62 l67 b63 n64 n65)).bind fun p68=>oD A p68.leaves 0 fun s70 n71 n72 n73 s74 s75=>oV A p68.leaves 6 fun l76 n77 b78 n79 n80 l81=>bif (A.fits l23 [[(.str s70),(.int .i64 n71),(.int .i64 n72),(.int .i64 n73),(.str s74),(.str s75)]] 72)then some (.inl [(.bool b16),(.sl 4 l76),(.int .i64 n77),(.bool b78),(.int .i64 n79),(.int .i64 n80),(.sl 2 l81),(.sl 6 (A.rapp l23 [[(.str s70),(.int .i64 n71),(.int .i64 n72),(.int .i64 n73),(.str s74),(.str s75)]]))]) else none else some (.inr (.val [(.sl 6 l23),(.sl 4 l17),(.int .i64 n18),(.bool b19),(.int .i64 n20),(.int .i64 n21),(.sl 2 l22)])) else none else bif (A.bnot false)then (E.call 1000087 (kRN [[(.str (bs [59]))]] l17 n18 l22 b19 n20 n21)).bind fun p82=>oR A p82.leaves 0 fun l84 n85 b86=>(opI (A.cell p82.leaves 3) .i64).bind fun n87=>(opI (A.cell p82.leaves 4) .i64).bind fun n88=>(opL (A.cell p82.leaves 5) 1).bind fun l89=>(opL (A.cell p82.leaves 6) 2).bind fun l90=>(E.call 1000129 (kR l84 n85 l90 b86 n87 n88)).bind fun p91=>
 oD A p91.leaves 0 fun s93 n94 n95 n96 s97 s98=>oV A p91.leaves 6 fun l99 n100 b101 n102 n103 l104=>bif (A.fits l23 [[(.str s93),(.int .i64 n94),(.int .i64 n95),(.int .i64 n96),(.str s97),(.str s98)]] 72)then some (.inl [(.bool b16),(.sl 4 l99),(.int .i64 n100),(.bool b101),(.int .i64 n102),(.int .i64 n103),(.sl 2 l104),(.sl 6 (A.rapp l23 [[(.str s93),(.int .i64 n94),(.int .i64 n95),(.int .i64 n96),(.str s97),(.str s98)]]))]) else none else some (.inr (.val [(.sl 6 l23),(.sl 4 l17),(.int .i64 n18),(.bool b19),(.int .i64 n20),(.int .i64 n21),(.sl 2 l22)])) else some (.inr (.val [(.sl 6 l23),(.sl 4 l17),(.int .i64 n18),(.bool b19),(.int .i64 n20),(.int .i64 n21),(.sl 2 l22)])) else none else some (.inr (.val [(.sl 6 l23),(.sl 4 l17),(.int .i64 n18),(.bool b19),(.int .i64 n20),(.int .i64 n21),(.sl 2 l22)]))) [(.bool f_),(.sl 4 l9),(.int .i64 n10),(.bool b11),(.int .i64 n12),(.int .i64 n13),(.sl 2 l14),(.sl 6 [[(.str s3),(.int .i64 n4),(.int .i64 n5),(.int .i64 n6),(.str s7),(.str s8)]])]
theorem q4i (toks:LL)(at_:Int)(en_:LL)(b_:Bool)(a_ w_:Int)(f_:Bool):(x3f A Tryz.prog cs 89 0 [.ptr 0 0, .d (.bool f_)] [.cells (.ty 47) [.d (.sl 4 toks), .d (.int .i64 at_), .own 1, .ifo 51 b_ [.int .i64 a_, .int .i64 w_]], .arr 66 2 en_]).run E=b89 A E toks at_ en_ b_ a_ w_ f_:=by kernel_rfl
def w9n (A:Sy)(E:Env)(toks:LL)(at_:Int)(en_:LL)(b_:Bool)(a_ w_:Int):Option PRes:=bif (A.bnot b_)then some (.val [(.int .i64 0),(.int .i64 0),(.str (bs [])),(.int .i64 0),(.sl 1 []),(.sl 6 []),(.sl 4 toks),(.int .i64 at_),(.bool b_),(.int .i64 a_),(.int .i64 w_),(.sl 2 en_)]) else (E.call 171 [(.d (.sl 4 toks)),(.d (.int .i64 at_))]).bind fun p1=>oE A p1.leaves 0 fun n3 n4 s5 n6 l7 l8=>(opI (A.cell p1.leaves 6) .i64).bind fun n9=>(opI (A.cell p1.leaves 7) .i64).bind fun n10=>bif (A.bnot (A.ieq n10 0))then (E.call 1000042 (kRF n9 n10 toks at_ en_ b_ a_ w_)).bind fun p11=>oV A p11.leaves 0 fun l13 n14 b15 n16 n17 l18=>some (.val [(.int .i64 0),(.int .i64 0),(.str (bs [])),(.int .i64 0),(.sl 1 []),(.sl 6 []),(.sl 4 l13),(.int .i64 n14),(.bool b15),(.int .i64 n16),(.int .i64 n17),(.sl 2 l18)]) else some (.val [(.int .i64 n3),(.int .i64 n4),(.str s5),(.int .i64 n6),(.sl 1 l7),(.sl 6 l8),(.sl 4 toks),(.int .i64 n9),(.bool b_),(.int .i64 a_),(.int .i64 w_),(.sl 2 en_)])
theorem u1p (toks:LL)(at_:Int)(en_:LL)(b_:Bool)(a_ w_:Int):(x3f A Tryz.prog cs 130 0 [.ptr 0 0] [.cells (.ty 47) [.d (.sl 4 toks), .d (.int .i64 at_), .own 1, .ifo 51 b_ [.int .i64 a_, .int .i64 w_]], .arr 66 2 en_]).run E=w9n A E toks at_ en_ b_ a_ w_:=by kernel_rfl
def b90 (A:Sy)(E:Env)(toks:LL)(at_:Int)(en_:LL)(b_:Bool)(a_ w_:Int):Option PRes:=(E.call 1000088 (kRI 1 toks at_ en_ b_ a_ w_)).bind fun p1=>(opL (A.cell p1.leaves 0) 1).bind fun l3=>oV A p1.leaves 1 fun l4 n5 b6 n7 n8 l9=>(E.call 1000087 (kRN [[(.str (bs [61]))]] l4 n5 l9 b6 n7 n8)).bind fun p10=>oR A p10.leaves 0 fun l12 n13 b14=>(opI (A.cell p10.leaves 3) .i64).bind fun n15=>(opI (A.cell p10.leaves 4) .i64).bind fun n16=>(opL (A.cell p10.leaves 5) 1).bind fun l17=>(opL (A.cell p10.leaves 6) 2).bind fun l18=>(E.call 1000130 (kR l12 n13 l18 b14 n15 n16)).bind fun p19=>oE A p19.leaves 0 fun n21 n22 s23 n24 l25 l26=>oV A p19.leaves 6 fun l27 n28 b29 n30 n31 l32=>(E.call 1000087 (kRN [[(.str (bs [59]))]] l27 n28 l32 b29 n30 n31)).bind fun p33=>oR A p33.leaves 0 fun l35 n36 b37=>(opI (A.cell p33.leaves 3) .i64).bind fun n38=>(opI (A.cell p33.leaves 4) .i64).bind fun n39=>(opL (A.cell p33.leaves 5) 1).bind fun l40=>(opL (A.cell p33.leaves 6) 2).bind fun l41=>some (.val [(.sl 1 l3),(.int .i64 n21),(.int .i64 n22),(.str s23),(.int .i64 n24),(.sl 1 l25),(.sl 6 l26),(.sl 4 l35),(.int .i64 n36),(.bool b37),(.int .i64 n38),(.int .i64 n39),(.sl 2 l41)])
theorem q4h (toks:LL)(at_:Int)(en_:LL)(b_:Bool)(a_ w_:Int):(x3f A Tryz.prog cs 90 0 [.ptr 0 0] [.cells (.ty 47) [.d (.sl 4 toks), .d (.int .i64 at_), .own 1, .ifo 51 b_ [.int .i64 a_, .int .i64 w_]], .arr 66 2 en_]).run E=b90 A E toks at_ en_ b_ a_ w_:=by kernel_rfl
def b39 (A:Sy)(E:Env)(toks:LL)(at_:Int)(en_:LL)(b_:Bool)(a_ w_:Int):Option PRes:=(E.call 1000086 (kRI 1 toks at_ en_ b_ a_ w_)).bind fun p1=>oT A p1.leaves 0 fun n3 s4 n5 n6=>oV A p1.leaves 4 fun l7 n8 b9 n10 n11 l12=>(E.call 1000087 (kRN [[(.str (bs [40]))]] l7 n8 l12 b9 n10 n11)).bind fun p13=>oR A p13.leaves 0 fun l15 n16 b17=>(opI (A.cell p13.leaves 3) .i64).bind fun n18=>(opI (A.cell p13.leaves 4) .i64).bind fun n19=>(opL (A.cell p13.leaves 5) 1).bind fun l20=>(opL (A.cell p13.leaves 6) 2).bind fun l21=>x0q ((E.call 1000037 (kRS (bs [41]) l15 n16 l21 b17 n18 n19)).bind fun p22=>(opB (A.cell p22.leaves 0)).bind fun b24=>oV A p22.leaves 1 fun l25 n26 b27 n28 n29 l30=>bif (A.bnot b24)then (E.call 1000089 (kRB false l25 n26 l30 b27 n28 n29)).bind fun p31=>(opL (A.cell p31.leaves 0) 6).bind fun l33=>oV A p31.leaves 1 fun l34 n35 b36 n37 n38 l39=>(E.call 1000087 (kRN [[(.str (bs [41]))]] l34 n35 l39 b36 n37 n38)).bind fun p40=>oR A p40.leaves 0 fun l42 n43 b44=>(opI (A.cell p40.leaves 3) .i64).bind fun n45=>(opI (A.cell p40.leaves 4) .i64).bind fun n46=>(opL (A.cell p40.leaves 5) 1).bind fun l47=>(opL (A.cell p40.leaves 6) 2).bind fun l48=>some (.inl [(.sl 4 l42),(.int .i64 n43),(.bool b44),(.int .i64 n45),(.int .i64 n46),(.sl 2 l48),(.str (bs [])),(.str s4),(.sl 6 l33)]) else some (.inl [(.sl 4 l25),(.int .i64 n26),(.bool b27),(.int .i64 n28),(.int .i64 n29),(.sl 2 l30),(.str (bs [])),(.str s4),(.sl 6 [])])) fun ds49=>oV A ds49 0 fun l50 n51 b52 n53 n54 l55=>(opS (A.cell ds49 6)).bind fun s56=>(opS (A.cell ds49 7)).bind fun s57=>(opL (A.cell ds49 8) 6).bind fun l58=>(E.call 1000087 (kRN [[(.str (bs [114,101,116,117,114,110,115]))],[(.str (bs [40]))]] l50 n51 l55 b52 n53 n54)).bind fun p59=>oR A p59.leaves 0 fun l61 n62 b63=>(opI (A.cell p59.leaves 3) .i64).bind fun n64=>(opI (A.cell p59.leaves 4) .i64).bind fun n65=>(opL (A.cell p59.leaves 5) 1).bind fun l66=>(opL (A.cell p59.leaves 6) 2).bind fun l67=>(E.call 1000089 (kRB false l61 n62 l67 b63 n64 n65)).bind fun p68=>(opL (A.cell p68.leaves 0) 6).bind fun l70=>oV A p68.leaves 1 fun l71 n72 b73 n74 n75 l76=>(E.call 1000087 (kRN [[(.str (bs [41]))]] l71 n72 l76 b73 n74 n75)).bind fun p77=>oR A p77.leaves 0 fun l79 n80 b81=>(opI (A.cell p77.leaves 3) .i64).bind fun n82=>(opI (A.cell p77.leaves 4) .i64).bind fun n83=>(opL (A.cell p77.leaves 5) 1).bind fun l84=>(opL (A.cell p77.leaves 6) 2).bind fun l85=>x0q ((E.call 1000037 (kRS (bs [118,97,114]) l79 n80 l85 b81 n82 n83)).bind fun p86=>(opB (A.cell p86.leaves 0)).bind fun b88=>oV A p86.leaves 1 fun l89 n90 b91 n92 n93 l94=>bif b88 then (E.call 1000089 (kRB true l89 n90 l94 b91 n92 n93)).bind fun p95=>(opL (A.cell p95.leaves 0) 6).bind fun l97=>oV A p95.leaves 1 fun l98 n99 b100 n101 n102 l103=>(E.call 1000087 (kRN [[(.str (bs [59]))]] l98 n99 l103 b100 n101 n102)).bind fun p104=>oR A p104.leaves 0 fun l106 n107 b108=>(opI (A.cell p104.leaves 3) .i64).bind fun n109=>(opI (A.cell p104.leaves 4) .i64).bind fun n110=>(opL (A.cell p104.leaves 5) 1).bind fun l111=>(opL (A.cell p104.leaves 6) 2).bind fun l112=>some (.inl [(.sl 4 l106),(.int .i64 n107),(.bool b108),(.int .i64 n109),(.int .i64 n110),(.sl 2 l112),(.str s56),(.str s57),(.sl 6 l58),(.sl 6 l70),(.sl 6 l97)]) else some (.inl [(.sl 4 l89),(.int .i64 n90),(.bool b91),(.int .i64 n92),(.int .i64 n93),(.sl 2 l94),(.str s56),(.str s57),(.sl 6 l58),(.sl 6 l70),(.sl 6 [])])) fun ds113=>oV A ds113 0 fun l114 n115 b116 n117 n118 l119=>(opS (A.cell ds113 6)).bind fun s120=>(opS (A.cell ds113 7)).bind fun s121=>(opL (A.cell ds113 8) 6).bind fun l122=>(opL (A.cell ds113 9) 6).bind fun l123=>(opL (A.cell ds113 10) 6).bind fun l124=>(E.call 1000087 (kRN [[(.str (bs [108,101,116]))]] l114 n115 l119 b116 n117 n118)).bind fun p125=>oR A p125.leaves 0 fun l127 n128 q4s=>(opI (A.cell p125.leaves 3) .i64).bind fun n130=>(opI (A.cell p125.leaves 4) .i64).bind fun n131=>(opL (A.cell p125.leaves 5) 1).bind fun l132=>(opL (A.cell p125.leaves 6) 2).bind fun l133=>E.lp (fun ds134=>oV A ds134 0 fun l135 n136 b137 n138 n139 l140=>
 (opS (A.cell ds134 6)).bind fun s141=>(opS (A.cell ds134 7)).bind fun s142=>(opL (A.cell ds134 8) 6).bind fun l143=>(opL (A.cell ds134 9) 6).bind fun l144=>(opL (A.cell ds134 10) 6).bind fun l145=>(opL (A.cell ds134 11) 7).bind fun l146=>bif b137 then (E.call 1000037 (kRS (bs [116,101,108]) l135 n136 l140 b137 n138 n139)).bind fun p147=>(opB (A.cell p147.leaves 0)).bind fun q5w=>oV A p147.leaves 1 fun l150 n151 b152 n153 n154 l155=>bif (A.bnot q5w)then (E.call 1000090 (kR l150 n151 l155 b152 n153 n154)).bind fun p156=>(opL (A.cell p156.leaves 0) 1).bind fun l158=>oE A p156.leaves 1 fun n159 n160 s161 n162 l163 l164=>oV A p156.leaves 7 fun l165 n166 b167 n168 n169 l170=>bif (A.fits l146 [[(.sl 1 l158),(.int .i64 n159),(.int .i64 n160),(.str s161),(.int .i64 n162),(.sl 1 l163),(.sl 6 l164)]] 112)then some (.inl [(.sl 4 l165),(.int .i64 n166),(.bool b167),(.int .i64 n168),(.int .i64 n169),(.sl 2 l170),(.str s141),(.str s142),(.sl 6 l143),(.sl 6 l144),(.sl 6 l145),(.sl 7 (A.rapp l146 [[(.sl 1 l158),(.int .i64 n159),(.int .i64 n160),(.str s161),(.int .i64 n162),(.sl 1 l163),(.sl 6 l164)]]))]) else none else some (.inr (.val [(.str s142),(.sl 6 l143),(.sl 6 l144),(.sl 6 l145),(.sl 7 l146),(.sl 4 l150),(.int .i64 n151),(.bool b152),(.int .i64 n153),(.int .i64 n154),(.sl 2 l155)])) else some (.inr (.val [(.str s142),(.sl 6 l143),(.sl 6 l144),(.sl 6 l145),(.sl 7 l146),(.sl 4 l135),(.int .i64 n136),(.bool b137),(.int .i64 n138),(.int .i64 n139),(.sl 2 l140)]))) [(.sl 4 l127),(.int .i64 n128),(.bool q4s),(.int .i64 n130),(.int .i64 n131),(.sl 2 l133),(.str s120),(.str s121),(.sl 6 l122),(.sl 6 l123),(.sl 6 l124),(.sl 7 [])]
theorem q4n (toks:LL)(at_:Int)(en_:LL)(b_:Bool)(a_ w_:Int):(x3f A Tryz.prog cs 39 0 [.ptr 0 0] [.cells (.ty 47) [.d (.sl 4 toks), .d (.int .i64 at_), .own 1, .ifo 51 b_ [.int .i64 a_, .int .i64 w_]], .arr 66 2 en_]).run E=b39 A E toks at_ en_ b_ a_ w_:=by kernel_rfl
def b87 (toks:LL)(at_:Int)(en_:LL)(b_:Bool)(a_ w_:Int)(rows:LL):Option PRes:=E.lp (fun ds1=>zI A ds1 0 fun n2=>zI A ds1 1 fun n3=>oR A ds1 2 fun l4 n5 b6=>zI A ds1 5 fun n7=>zI A ds1 6 fun n8=>zL A ds1 7 1 fun l9=>zL A ds1 8 2 fun l10=>bif (A.ilt n3 n2)then iT (A.inr n3 (A.rlen l9)) <| zS A (A.rown l9 (A.nat n3)) 0 fun s11=>zC E 1000037 (kRS s11 l4 n5 l10 b6 n7 n8) fun p12=>yB A p12 0 fun b14=>oV A p12.leaves 1 fun l15 n16 b17 n18 n19 l20=>bif (A.bnot b14)then zC E 1000042 (kRF n16 2 l15 n16 l20 b17 n18 n19) fun p21=>oV A p21.leaves 0 fun l23 n24 b25 n26 n27 l28=>iL [nI n2,nI (zW A (A.add n3 1)), .sl 4 l23,nI n24, .bool b25,nI n26,nI n27, .sl 1 l9, .sl 2 l28] else iL [nI n2,nI (zW A (A.add n3 1)), .sl 4 l15,nI n16, .bool b17,nI n18,nI n19, .sl 1 l9, .sl 2 l20] else some (.inr (.val [.sl 4 l4,nI n5, .bool b6,nI n7,nI n8, .sl 1 l9, .sl 2 l10]))) [nI (A.rlen rows),nI 0, .sl 4 toks,nI at_, .bool b_,nI a_,nI w_, .sl 1 rows, .sl 2 en_]
theorem q4k (toks:LL)(at_:Int)(en_:LL)(b_:Bool)(a_ w_:Int)(rows:LL):(x3f A Tryz.prog cs 87 0 [.ptr 0 0, .own 1] [.cells (.ty 47) [.d (.sl 4 toks), .d (.int .i64 at_), .own 2, .ifo 51 b_ [.int .i64 a_, .int .i64 w_]], .arr 9 1 rows, .arr 66 2 en_]).run E=b87 A E toks at_ en_ b_ a_ w_ rows:=by kernel_rfl
def g7 (A:Sy)(E:Env)(s_:ByteArray):Option PRes:=(E.call 14 [(.d (.str s_)),(.d (.int .i64 6000))]).bind fun p1=>oP A p1.leaves 0 fun l3 n4=>(opI (A.cell p1.leaves 2) .i64).bind fun n5=>bif (A.bnot (A.ieq n5 0))then some (.val [(.sl 2 []),(.sl 5 []),(.int .i64 n4),(.int .i64 n5)]) else E.lp (fun ds6=>oV A ds6 0 fun l7 n8 b9 n10 n11 l12=>(opL (A.cell ds6 6) 5).bind fun l13=>(E.call 1000037 (kRS (bs [101,110,117,109]) l7 n8 l12 b9 n10 n11)).bind fun p14=>(opB (A.cell p14.leaves 0)).bind fun b16=>oV A p14.leaves 1 fun l17 n18 b19 n20 n21 l22=>bif b16 then (E.call 1000038 (kR l17 n18 l22 b19 n20 n21)).bind fun p23=>(opS (A.cell p23.leaves 0)).bind fun s25=>(opL (A.cell p23.leaves 1) 1).bind fun l26=>oV A p23.leaves 2 fun l27 n28 b29 n30 n31 l32=>bif (A.fits l32 [[(.str s25),(.sl 1 l26)]] 40)then some (.inl [(.sl 4 l27),(.int .i64 n28),(.bool b29),(.int .i64 n30),(.int .i64 n31),(.sl 2 (A.rapp l32 [[(.str s25),(.sl 1 l26)]])),(.sl 5 l13)]) else none else E.lp (fun ds33=>oV A ds33 0 fun l34 n35 b36 n37 n38 l39=>(opL (A.cell ds33 6) 5).bind fun l40=>(E.call 1000037 (kRS (bs [110,111,100,101]) l34 n35 l39 b36 n37 n38)).bind fun p41=>(opB (A.cell p41.leaves 0)).bind fun b43=>oV A p41.leaves 1 fun l44 n45 b46 n47 n48 l49=>bif b43 then (E.call 1000039 (kR l44 n45 l49 b46 n47 n48)).bind fun p50=>(opS (A.cell p50.leaves 0)).bind fun s52=>(opL (A.cell p50.leaves 1) 6).bind fun l53=>(opL (A.cell p50.leaves 2) 6).bind fun l54=>(opL (A.cell p50.leaves 3) 6).bind fun l55=>(opL (A.cell p50.leaves 4) 7).bind fun l56=>oV A p50.leaves 5 fun l57 n58 b59 n60 n61 l62=>bif (A.fits l40 [[(.str s52),(.sl 6 l53),(.sl 6 l54),(.sl 6 l55),(.sl 7 l56)]] 112)then some (.inl [(.sl 4 l57),(.int .i64 n58),(.bool b59),(.int .i64 n60),(.int .i64 n61),(.sl 2 l62),(.sl 5 (A.rapp l40 [[(.str s52),(.sl 6 l53),(.sl 6 l54),(.sl 6 l55),(.sl 7 l56)]]))]) else none else bif b46 then bif (A.inr n45 (A.rlen l44))then oT A (A.row l44 n45) 0 fun n63 s64 n65 n66=>bif (A.bnot (A.ieq n63 6))then (E.call 1000042 (kRF n45 2 l44 n45 l49 b46 n47 n48)).bind fun p67=>oV A p67.leaves 0 fun l69 n70 b71 n72 n73 l74=>(E.call 1000016 (kAs b71 n72 n73)).bind fun p75=>(opB (A.cell p75.leaves 0)).bind fun b77=>(opI (A.cell p75.leaves 1) .i64).bind fun n78=>(opI (A.cell p75.leaves 2) .i64).bind fun n79=>bif b77 then some (.inr (.inr (.val [(.sl 2 []),(.sl 5 []),(.int .i64 n78),(.int .i64 n79)]))) else (E.call 17 [(.agg [(.d (.sl 2 l74)),(.d (.sl 5 l40))])]).bind fun p80=>(opI (A.cell p80.leaves 0) .i64).bind fun n82=>bif (A.bnot (A.ieq n82 0))then some (.inr (.inr (.val [(.sl 2 []),(.sl 5 []),(.int .i64 (A.slen s_)),(.int .i64 n82)]))) else some (.inr (.inr (.val [(.sl 2 l74),(.sl 5 l40),(.int .i64 (A.slen s_)),(.int .i64 0)]))) else (E.call 1000016 (kAs b46 n47 n48)).bind fun p83=>(opB (A.cell p83.leaves 0)).bind fun b85=>(opI (A.cell p83.leaves 1) .i64).bind fun n86=>(opI (A.cell p83.leaves 2) .i64).bind fun n87=>bif b85 then some (.inr (.inr (.val [(.sl 2 []),(.sl 5 []),(.int .i64 n86),(.int .i64 n87)]))) else (E.call 17 [(.agg [(.d (.sl 2 l49)),(.d (.sl 5 l40))])]).bind fun p88=>(opI (A.cell p88.leaves 0) .i64).bind fun n90=>bif (A.bnot (A.ieq n90 0))then some (.inr (.inr (.val [(.sl 2 []),(.sl 5 []),(.int .i64 (A.slen s_)),(.int .i64 n90)]))) else some (.inr (.inr (.val [(.sl 2 l49),(.sl 5 l40),(.int .i64 (A.slen s_)),(.int .i64 0)]))) else none else (E.call 1000016 (kAs b46 n47 n48)).bind fun p91=>(opB (A.cell p91.leaves 0)).bind fun b93=>(opI (A.cell p91.leaves 1) .i64).bind fun n94=>(opI (A.cell p91.leaves 2) .i64).bind fun n95=>bif b93 then some (.inr (.inr (.val [(.sl 2 []),(.sl 5 []),(.int .i64 n94),(.int .i64 n95)]))) else (E.call 17 [(.agg [(.d (.sl 2 l49)),(.d (.sl 5 l40))])]).bind fun p96=>(opI (A.cell p96.leaves 0) .i64).bind fun n98=>bif (A.bnot (A.ieq n98 0))then some (.inr (.inr (.val [(.sl 2 []),(.sl 5 []),(.int .i64 (A.slen s_)),(.int .i64 n98)]))) else some (.inr (.inr (.val [(.sl 2 l49),(.sl 5 l40),(.int .i64 (A.slen s_)),(.int .i64 0)])))) [(.sl 4 l17),(.int .i64 n18),(.bool b19),(.int .i64 n20),(.int .i64 n21),(.sl 2 l22),(.sl 5 l13)]
 ) [(.sl 4 l3),(.int .i64 0),(.bool true),(.int .i64 0),(.int .i64 0),(.sl 2 []),(.sl 5 [])]
theorem q7m (s_:ByteArray):(x1o A Tryz.prog cs 7 [.d (.str s_)]).run E=g7 A E s_:=by kernel_rfl
def g8 (A:Sy)(E:Env)(s_:ByteArray):Option PRes:=(E.call 18 [(.d (.str s_)),(.d (.int .i64 6000))]).bind fun p1=>oP A p1.leaves 0 fun l3 n4=>(opI (A.cell p1.leaves 2) .i64).bind fun n5=>bif (A.bnot (A.ieq n5 0))then some (.val [(.sl 2 []),(.sl 5 []),(.int .i64 n4),(.int .i64 n5)]) else E.lp (fun ds6=>(opS (A.cell ds6 0)).bind fun s7=>(opL (A.cell ds6 1) 4).bind fun l8=>oR A ds6 2 fun l9 n10 b11=>(opI (A.cell ds6 5) .i64).bind fun n12=>(opL (A.cell ds6 6) 2).bind fun l13=>(opL (A.cell ds6 7) 5).bind fun l14=>(E.call 1000019 (rS (bs [101,110,117,109]) l9 n10 b11)).bind fun p15=>(opB (A.cell p15.leaves 0)).bind fun b17=>oR A p15.leaves 1 fun l18 n19 b20=>bif b17 then (E.call 1000020 (qR l18 n19 b20 l13 n12)).bind fun p21=>(opS (A.cell p21.leaves 0)).bind fun s23=>(opL (A.cell p21.leaves 1) 1).bind fun l24=>oW A p21.leaves 2 fun n25 l26 n27 b28 l29=>bif (A.fits l29 [[(.str s23),(.sl 1 l24)]] 40)then some (.inl [(.str s7),(.sl 4 l8),(.sl 4 l26),(.int .i64 n27),(.bool b28),(.int .i64 n25),(.sl 2 (A.rapp l29 [[(.str s23),(.sl 1 l24)]])),(.sl 5 l14)]) else none else E.lp (fun ds30=>(opS (A.cell ds30 0)).bind fun s31=>(opL (A.cell ds30 1) 4).bind fun l32=>oR A ds30 2 fun l33 n34 b35=>(opI (A.cell ds30 5) .i64).bind fun n36=>(opL (A.cell ds30 6) 2).bind fun l37=>(opL (A.cell ds30 7) 5).bind fun l38=>(E.call 1000019 (rS (bs [110,111,100,101]) l33 n34 b35)).bind fun p39=>(opB (A.cell p39.leaves 0)).bind fun b41=>oR A p39.leaves 1 fun l42 n43 b44=>bif b41 then (E.call 1000021 (qR l42 n43 b44 l37 n36)).bind fun p45=>(opS (A.cell p45.leaves 0)).bind fun s47=>(opL (A.cell p45.leaves 1) 6).bind fun l48=>(opL (A.cell p45.leaves 2) 6).bind fun l49=>(opL (A.cell p45.leaves 3) 6).bind fun l50=>(opL (A.cell p45.leaves 4) 7).bind fun l51=>oW A p45.leaves 5 fun n52 l53 n54 b55 l56=>bif (A.fits l38 [[(.str s47),(.sl 6 l48),(.sl 6 l49),(.sl 6 l50),(.sl 7 l51)]] 112)then some (.inl [(.str s31),(.sl 4 l32),(.sl 4 l53),(.int .i64 n54),(.bool b55),(.int .i64 n52),(.sl 2 l56),(.sl 5 (A.rapp l38 [[(.str s47),(.sl 6 l48),(.sl 6 l49),(.sl 6 l50),(.sl 7 l51)]]))]) else none else x0q (bif (A.bnot b44)then bif (A.inr n43 (A.rlen l32))then (opI (A.cell (A.row l32 n43) 0) .i64).bind fun n57=>some (.inl [(.bool (A.bnot (A.ieq n57 6)))]) else none else some (.inl [(.bool false)])) fun ds58=>(opB (A.cell ds58 0)).bind fun b59=>bif b59 then x0q (some (.inl [(.bool (A.ieq n36 0))])) fun ds60=>(opB (A.cell ds60 0)).bind fun b61=>bif b61 then bif (A.inr n43 (A.rlen l32))then (opI (A.cell (A.skip 3 (A.row l32 n43)) 0) .i64).bind fun n62=>some (.inr (.inr (.val [(.sl 2 []),(.sl 5 []),(.int .i64 n62),(.int .i64 2)]))) else none else bif (A.inr n43 (A.rlen l32))then (opI (A.cell (A.skip 3 (A.row l32 n43)) 0) .i64).bind fun n63=>some (.inr (.inr (.val [(.sl 2 []),(.sl 5 []),(.int .i64 n63),(.int .i64 n36)]))) else none else x0q (bif b44 then some (.inl [(.bool (A.ieq n36 0))]) else some (.inl [(.bool false)])) fun ds64=>(opB (A.cell ds64 0)).bind fun b65=>bif b65 then bif b44 then bif (A.inr n43 (A.rlen l32))then (opI (A.cell (A.skip 3 (A.row l32 n43)) 0) .i64).bind fun n66=>some (.inr (.inr (.val [(.sl 2 []),(.sl 5 []),(.int .i64 n66),(.int .i64 2)]))) else none else (E.call 12 [(.agg [(.d (.sl 2 l37)),(.d (.sl 5 l38))])]).bind fun p67=>(opI (A.cell p67.leaves 0) .i64).bind fun n69=>bif (A.bnot (A.ieq n69 0))then some (.inr (.inr (.val [(.sl 2 []),(.sl 5 []),(.int .i64 (A.slen s31)),(.int .i64 n69)]))) else some (.inr (.inr (.val [(.sl 2 l37),(.sl 5 l38),(.int .i64 (A.slen s31)),(.int .i64 0)]))) else bif b44 then bif (A.inr n43 (A.rlen l32))then (opI (A.cell (A.skip 3 (A.row l32 n43)) 0) .i64).bind fun n70=>some (.inr (.inr (.val [(.sl 2 []),(.sl 5 []),(.int .i64 n70),(.int .i64 n36)]))) else none else (E.call 12 [(.agg [(.d (.sl 2 l37)),(.d (.sl 5 l38))])]).bind fun p71=>(opI (A.cell p71.leaves 0) .i64).bind fun n73=>bif (A.bnot (A.ieq n73 0))then some (.inr (.inr (.val [(.sl 2 []),(.sl 5 []),(.int .i64 (A.slen s31)),(.int .i64 n73)]))) else some (.inr (.inr (.val [(.sl 2 l37),(.sl 5 l38),(.int .i64 (A.slen s31)),(.int .i64 0)])))
 ) [(.str s7),(.sl 4 l8),(.sl 4 l18),(.int .i64 n19),(.bool b20),(.int .i64 n12),(.sl 2 l13),(.sl 5 l14)]) [(.str s_),(.sl 4 l3),(.sl 4 l3),(.int .i64 0),(.bool false),(.int .i64 0),(.sl 2 []),(.sl 5 [])]
theorem q7l (s_:ByteArray):(x1o A Tryz.prog cs 8 [.d (.str s_)]).run E=g8 A E s_:=by kernel_rfl
end
end Go.Vm
end

section
set_option maxRecDepth 1000000
set_option maxHeartbeats 0
namespace Go.Vm
open Go.Proofs
noncomputable section
variable (A : Sy) (E : Env)
def b60 (A:Sy)(E:Env)(toks:LL)(at_:Int)(bad:Bool)(en_:LL)(e_:Int):Option PRes:=iT (A.inr at_ (A.rlen toks)) <| oT A (A.row toks at_) 0 fun n1 s2 n3 n4=>x0q (bif bad then vB true else vB (A.bnot (A.ieq n1 2))) fun ds5=>zB A ds5 0 fun b6=>bif b6 then vL [.str (bs []),nI e_, .sl 4 toks,nI at_, .bool true, .sl 2 en_] else vL [.str s2,nI e_, .sl 4 toks,nI (zW A (A.add at_ 1)), .bool bad, .sl 2 en_]
theorem v2v (toks:LL)(at_:Int)(bad:Bool)(en_:LL)(e_:Int):(x3f A Tryz.prog cs 60 0 [.ptr 0 0] [.cells (.ty 63) [.ptr 1 0, .own 2, .d (.int .i64 e_)], .cells (.ty 61) [.d (.sl 4 toks), .d (.int .i64 at_), .d (.bool bad)], .arr 66 2 en_]).run E=b60 A E toks at_ bad en_ e_:=by kernel_rfl
def b20 (A:Sy)(E:Env)(toks:LL)(at_:Int)(bad:Bool)(en_:LL)(e_:Int):Option PRes:=(E.call 1000058 (rP toks at_ bad)).bind fun p1=>(opS (A.cell p1.leaves 0)).bind fun s3=>oR A p1.leaves 1 fun l4 n5 b6=>(E.call 1000059 (rS (bs [123]) l4 n5 b6)).bind fun p7=>oR A p7.leaves 0 fun l9 n10 b11=>(E.call 1000060 (qR l9 n10 b11 en_ e_)).bind fun p12=>(opS (A.cell p12.leaves 0)).bind fun s14=>oW A p12.leaves 1 fun n15 l16 n17 b18 l19=>E.lp (fun ds20=>oW A ds20 0 fun n21 l22 n23 b24 l25=>(opS (A.cell ds20 5)).bind fun s26=>(opS (A.cell ds20 6)).bind fun s27=>(opL (A.cell ds20 7) 1).bind fun l28=>(E.call 1000019 (rS (bs [44]) l22 n23 b24)).bind fun p29=>(opB (A.cell p29.leaves 0)).bind fun b31=>oR A p29.leaves 1 fun l32 n33 b34=>bif b31 then (E.call 1000060 (qR l32 n33 b34 l25 n21)).bind fun p35=>(opS (A.cell p35.leaves 0)).bind fun s37=>oW A p35.leaves 1 fun n38 l39 n40 b41 l42=>bif (A.fits l28 [[(.str s37)]] 16)then some (.inl [(.int .i64 n38),(.sl 4 l39),(.int .i64 n40),(.bool b41),(.sl 2 l42),(.str s26),(.str s27),(.sl 1 (A.rapp l28 [[(.str s37)]]))]) else none else (E.call 1000059 (rS (bs [125]) l32 n33 b34)).bind fun p43=>oR A p43.leaves 0 fun l45 n46 b47=>(E.call 1000059 (rS (bs [59]) l45 n46 b47)).bind fun p48=>oR A p48.leaves 0 fun l50 n51 b52=>some (.inr (.val [(.str s27),(.sl 1 l28),(.int .i64 n21),(.sl 4 l50),(.int .i64 n51),(.bool b52),(.sl 2 l25)]))) [(.int .i64 n15),(.sl 4 l16),(.int .i64 n17),(.bool b18),(.sl 2 l19),(.str (bs [])),(.str s3),(.sl 1 [[(.str s14)]])]
theorem q4q (toks:LL)(at_:Int)(bad:Bool)(en_:LL)(e_:Int):(x3f A Tryz.prog cs 20 0 [.ptr 0 0] [.cells (.ty 63) [.ptr 1 0, .own 2, .d (.int .i64 e_)], .cells (.ty 61) [.d (.sl 4 toks), .d (.int .i64 at_), .d (.bool bad)], .arr 66 2 en_]).run E=b20 A E toks at_ bad en_ e_:=by kernel_rfl
def q5x (A:Sy)(E:Env)(toks:LL)(at_:Int)(bad:Bool)(en_:LL)(e_:Int):Option PRes:=(E.call 1000019 (rS (bs [105,110,116]) toks at_ bad)).bind fun p1=>(opB (A.cell p1.leaves 0)).bind fun b3=>oR A p1.leaves 1 fun l4 n5 b6=>bif b3 then some (.val [(.int .i64 1),(.int .i64 0),(.int .i64 0),(.int .i64 e_),(.sl 4 l4),(.int .i64 n5),(.bool b6),(.sl 2 en_)]) else (E.call 1000019 (rS (bs [98,111,111,108]) l4 n5 b6)).bind fun p7=>(opB (A.cell p7.leaves 0)).bind fun b9=>oR A p7.leaves 1 fun l10 n11 b12=>bif b9 then some (.val [(.int .i64 2),(.int .i64 0),(.int .i64 0),(.int .i64 e_),(.sl 4 l10),(.int .i64 n11),(.bool b12),(.sl 2 en_)]) else bif (A.inr n11 (A.rlen l10))then oT A (A.row l10 n11) 0 fun n13 s14 n15 n16=>E.lp (fun ds17=>(opI (A.cell ds17 0) .i64).bind fun n18=>oW A ds17 1 fun n19 l20 n21 b22 l23=>(opI (A.cell ds17 6) .i64).bind fun n24=>(opI (A.cell ds17 7) .i64).bind fun n25=>(opI (A.cell ds17 8) .i64).bind fun n26=>oT A ds17 9 fun n27 s28 n29 n30=>x0q (bif (A.ilt n18 (A.rlen l23))then some (.inl [(.bool (A.ieq n27 1))]) else some (.inl [(.bool false)])) fun ds31=>(opB (A.cell ds31 0)).bind fun b32=>bif b32 then bif (A.inr n18 (A.rlen l23))then (opS (A.cell (A.rown l23 (A.nat n18)) 0)).bind fun s33=>bif (A.seq s33 s28)then (E.call 1000058 (rP l20 n21 b22)).bind fun p34=>(opS (A.cell p34.leaves 0)).bind fun s36=>oR A p34.leaves 1 fun l37 n38 b39=>some (.inr (.val [(.int .i64 3),(.int .i64 n18),(.int .i64 0),(.int .i64 n19),(.sl 4 l37),(.int .i64 n38),(.bool b39),(.sl 2 l23)])) else some (.inl [(.int .i64 (A.wrap .i64 (A.add n18 1))),(.int .i64 n19),(.sl 4 l20),(.int .i64 n21),(.bool b22),(.sl 2 l23),(.int .i64 n24),(.int .i64 n25),(.int .i64 n26),(.int .i64 n27),(.str s28),(.int .i64 n29),(.int .i64 n30)]) else none else some (.inr (.val [(.int .i64 0),(.int .i64 0),(.int .i64 0),(.int .i64 n19),(.sl 4 l20),(.int .i64 n21),(.bool true),(.sl 2 l23)]))) [(.int .i64 0),(.int .i64 e_),(.sl 4 l10),(.int .i64 n11),(.bool b12),(.sl 2 en_),(.int .i64 0),(.int .i64 0),(.int .i64 0),(.int .i64 n13),(.str s14),(.int .i64 n15),(.int .i64 n16)] else none
theorem u1o (toks:LL)(at_:Int)(bad:Bool)(en_:LL)(e_:Int):(x3f A Tryz.prog cs 148 0 [.ptr 0 0] [.cells (.ty 63) [.ptr 1 0, .own 2, .d (.int .i64 e_)], .cells (.ty 61) [.d (.sl 4 toks), .d (.int .i64 at_), .d (.bool bad)], .arr 66 2 en_]).run E=q5x A E toks at_ bad en_ e_:=by kernel_rfl
def q5y (A:Sy)(E:Env)(toks:LL)(at_:Int)(bad:Bool)(en_:LL)(e_:Int):Option PRes:=(E.call 1000148 (qR toks at_ bad en_ e_)).bind fun p1=>(opI (A.cell p1.leaves 0) .i64).bind fun n3=>(opI (A.cell p1.leaves 1) .i64).bind fun n4=>(opI (A.cell p1.leaves 2) .i64).bind fun n5=>oW A p1.leaves 3 fun n6 l7 n8 b9 l10=>(E.call 1000019 (rS (bs [91]) l7 n8 b9)).bind fun p11=>(opB (A.cell p11.leaves 0)).bind fun b13=>oR A p11.leaves 1 fun l14 n15 b16=>bif b13 then bif (A.inr n15 (A.rlen l14))then oT A (A.row l14 n15) 0 fun n17 s18 n19 n20=>x0q (bif b16 then some (.inl [(.bool true)]) else some (.inl [(.bool (A.bnot (A.ieq n17 3)))])) fun ds21=>(opB (A.cell ds21 0)).bind fun b22=>x0q (bif b22 then some (.inl [(.bool true)]) else some (.inl [(.bool (A.ilt n19 1))])) fun ds23=>(opB (A.cell ds23 0)).bind fun b24=>x0q (bif b24 then some (.inl [(.bool true)]) else some (.inl [(.bool (A.ilt 8 n19))])) fun ds25=>(opB (A.cell ds25 0)).bind fun b26=>bif b26 then some (.val [(.int .i64 n3),(.int .i64 n4),(.int .i64 n5),(.int .i64 n6),(.sl 4 l14),(.int .i64 n15),(.bool true),(.sl 2 l10)]) else (E.call 1000059 [(.d (.int .i64 0)),(.d (.int .i64 2)),(.ptr 0 0),(.d (.str (bs [93]))),(.fn 61 [(.d (.sl 4 l14)),(.d (.int .i64 (A.wrap .i64 (A.add n15 1)))),(.d (.bool b16))])]).bind fun p27=>oR A p27.leaves 0 fun l29 n30 b31=>some (.val [(.int .i64 n3),(.int .i64 n4),(.int .i64 n19),(.int .i64 n6),(.sl 4 l29),(.int .i64 n30),(.bool b31),(.sl 2 l10)]) else none else some (.val [(.int .i64 n3),(.int .i64 n4),(.int .i64 n5),(.int .i64 n6),(.sl 4 l14),(.int .i64 n15),(.bool b16),(.sl 2 l10)])
theorem u1q (toks:LL)(at_:Int)(bad:Bool)(en_:LL)(e_:Int):(x3f A Tryz.prog cs 110 0 [.ptr 0 0] [.cells (.ty 63) [.ptr 1 0, .own 2, .d (.int .i64 e_)], .cells (.ty 61) [.d (.sl 4 toks), .d (.int .i64 at_), .d (.bool bad)], .arr 66 2 en_]).run E=q5y A E toks at_ bad en_ e_:=by kernel_rfl
def b61 (A:Sy)(E:Env)(toks:LL)(at_:Int)(bad:Bool)(en_:LL)(e_:Int)(f_:Bool):Option PRes:=E.lp (fun ds1=>(opB (A.cell ds1 0)).bind fun b2=>oW A ds1 1 fun n3 l4 n5 b6 l7=>(opL (A.cell ds1 6) 6).bind fun l8=>bif (A.bnot b6)then (E.call 1000058 (rP l4 n5 b6)).bind fun p9=>(opS (A.cell p9.leaves 0)).bind fun s11=>oR A p9.leaves 1 fun l12 n13 b14=>(E.call 1000059 (rS (bs [58]) l12 n13 b14)).bind fun p15=>oR A p15.leaves 0 fun l17 n18 b19=>(E.call 1000110 (qR l17 n18 b19 l7 n3)).bind fun p20=>(opI (A.cell p20.leaves 0) .i64).bind fun n22=>(opI (A.cell p20.leaves 1) .i64).bind fun n23=>(opI (A.cell p20.leaves 2) .i64).bind fun n24=>oW A p20.leaves 3 fun n25 l26 n27 b28 l29=>(E.call 1000019 (rS (bs [119,104,101,110]) l26 n27 b28)).bind fun p30=>(opB (A.cell p30.leaves 0)).bind fun b32=>oR A p30.leaves 1 fun l33 n34 b35=>bif b32 then (E.call 1000111 (rP l33 n34 b35)).bind fun p36=>(opS (A.cell p36.leaves 0)).bind fun s38=>(opS (A.cell p36.leaves 1)).bind fun s39=>oR A p36.leaves 2 fun l40 n41 b42=>bif (A.fits l8 [[(.str s11),(.int .i64 n22),(.int .i64 n23),(.int .i64 n24),(.str s38),(.str s39)]] 72)then bif b42 then some (.inr (.val [(.sl 6 (A.rapp l8 [[(.str s11),(.int .i64 n22),(.int .i64 n23),(.int .i64 n24),(.str s38),(.str s39)]])),(.int .i64 n25),(.sl 4 l40),(.int .i64 n41),(.bool b42),(.sl 2 l29)])) else bif (A.inr n41 (A.rlen l40))then (opI (A.cell (A.row l40 n41) 0) .i64).bind fun n43=>x0q (bif (A.ieq n43 5)then bif (A.inr n41 (A.rlen l40))then (opS (A.cell (A.skip 1 (A.row l40 n41)) 0)).bind fun s44=>some (.inl [(.bool (A.seq s44 (bs [59])))]) else none else some (.inl [(.bool false)])) fun ds45=>(opB (A.cell ds45 0)).bind fun b46=>x0q (bif b46 then bif b2 then bif (A.inr (A.wrap .i64 (A.add n41 1)) (A.rlen l40))then (opI (A.cell (A.row l40 (A.wrap .i64 (A.add n41 1))) 0) .i64).bind fun n47=>bif (A.ieq n47 1)then bif (A.inr (A.wrap .i64 (A.add n41 1)) (A.rlen l40))then (opS (A.cell (A.skip 1 (A.row l40 (A.wrap .i64 (A.add n41 1)))) 0)).bind fun s48=>some (.inl [(.bool (A.bnot (A.seq s48 (bs [108,101,116]))))]) else none else some (.inl [(.bool (A.bnot false))]) else none else some (.inl [(.bool (A.bnot false))]) else some (.inl [(.bool false)])) fun ds49=>(opB (A.cell ds49 0)).bind fun b50=>bif b50 then bif (A.bnot true)then some (.inr (.val [(.sl 6 (A.rapp l8 [[(.str s11),(.int .i64 n22),(.int .i64 n23),(.int .i64 n24),(.str s38),(.str s39)]])),(.int .i64 n25),(.sl 4 l40),(.int .i64 (A.wrap .i64 (A.add n41 1))),(.bool b42),(.sl 2 l29)])) else some (.inl [(.bool b2),(.int .i64 n25),(.sl 4 l40),(.int .i64 (A.wrap .i64 (A.add n41 1))),(.bool b42),(.sl 2 l29),(.sl 6 (A.rapp l8 [[(.str s11),(.int .i64 n22),(.int .i64 n23),(.int .i64 n24),(.str s38),(.str s39)]]))]) else bif (A.bnot false)then some (.inr (.val [(.sl 6 (A.rapp l8 [[(.str s11),(.int .i64 n22),(.int .i64 n23),(.int .i64 n24),(.str s38),(.str s39)]])),(.int .i64 n25),(.sl 4 l40),(.int .i64 n41),(.bool b42),(.sl 2 l29)])) else some (.inl [(.bool b2),(.int .i64 n25),(.sl 4 l40),(.int .i64 n41),(.bool b42),(.sl 2 l29),(.sl 6 (A.rapp l8 [[(.str s11),(.int .i64 n22),(.int .i64 n23),(.int .i64 n24),(.str s38),(.str s39)]]))]) else none else none else bif (A.fits l8 [[(.str s11),(.int .i64 n22),(.int .i64 n23),(.int .i64 n24),(.str (bs [])),(.str (bs []))]] 72)then bif b35 then some (.inr (.val [(.sl 6 (A.rapp l8 [[(.str s11),(.int .i64 n22),(.int .i64 n23),(.int .i64 n24),(.str (bs [])),(.str (bs []))]])),(.int .i64 n25),(.sl 4 l33),(.int .i64 n34),(.bool b35),(.sl 2 l29)])) else bif (A.inr n34 (A.rlen l33))then (opI (A.cell (A.row l33 n34) 0) .i64).bind fun n51=>x0q (bif (A.ieq n51 5)then bif (A.inr n34 (A.rlen l33))then (opS (A.cell (A.skip 1 (A.row l33 n34)) 0)).bind fun s52=>some (.inl [(.bool (A.seq s52 (bs [59])))]) else none else some (.inl [(.bool false)])) fun ds53=>(opB (A.cell ds53 0)).bind fun b54=>x0q (bif b54 then bif b2 then bif (A.inr (A.wrap .i64 (A.add n34 1)) (A.rlen l33))then (opI (A.cell (A.row l33 (A.wrap .i64 (A.add n34 1))) 0) .i64).bind fun n55=>bif (A.ieq n55 1)then
 bif (A.inr (A.wrap .i64 (A.add n34 1)) (A.rlen l33))then (opS (A.cell (A.skip 1 (A.row l33 (A.wrap .i64 (A.add n34 1)))) 0)).bind fun s56=>some (.inl [(.bool (A.bnot (A.seq s56 (bs [108,101,116]))))]) else none else some (.inl [(.bool (A.bnot false))]) else none else some (.inl [(.bool (A.bnot false))]) else some (.inl [(.bool false)])) fun ds57=>(opB (A.cell ds57 0)).bind fun b58=>bif b58 then bif (A.bnot true)then some (.inr (.val [(.sl 6 (A.rapp l8 [[(.str s11),(.int .i64 n22),(.int .i64 n23),(.int .i64 n24),(.str (bs [])),(.str (bs []))]])),(.int .i64 n25),(.sl 4 l33),(.int .i64 (A.wrap .i64 (A.add n34 1))),(.bool b35),(.sl 2 l29)])) else some (.inl [(.bool b2),(.int .i64 n25),(.sl 4 l33),(.int .i64 (A.wrap .i64 (A.add n34 1))),(.bool b35),(.sl 2 l29),(.sl 6 (A.rapp l8 [[(.str s11),(.int .i64 n22),(.int .i64 n23),(.int .i64 n24),(.str (bs [])),(.str (bs []))]]))]) else bif (A.bnot false)then some (.inr (.val [(.sl 6 (A.rapp l8 [[(.str s11),(.int .i64 n22),(.int .i64 n23),(.int .i64 n24),(.str (bs [])),(.str (bs []))]])),(.int .i64 n25),(.sl 4 l33),(.int .i64 n34),(.bool b35),(.sl 2 l29)])) else some (.inl [(.bool b2),(.int .i64 n25),(.sl 4 l33),(.int .i64 n34),(.bool b35),(.sl 2 l29),(.sl 6 (A.rapp l8 [[(.str s11),(.int .i64 n22),(.int .i64 n23),(.int .i64 n24),(.str (bs [])),(.str (bs []))]]))]) else none else none else some (.inr (.val [(.sl 6 l8),(.int .i64 n3),(.sl 4 l4),(.int .i64 n5),(.bool b6),(.sl 2 l7)]))) [(.bool f_),(.int .i64 e_),(.sl 4 toks),(.int .i64 at_),(.bool bad),(.sl 2 en_),(.sl 6 [])]
theorem q4m (toks:LL)(at_:Int)(bad:Bool)(en_:LL)(e_:Int)(f_:Bool):(x3f A Tryz.prog cs 61 0 [.ptr 0 0, .d (.bool f_)] [.cells (.ty 63) [.ptr 1 0, .own 2, .d (.int .i64 e_)], .cells (.ty 61) [.d (.sl 4 toks), .d (.int .i64 at_), .d (.bool bad)], .arr 66 2 en_]).run E=b61 A E toks at_ bad en_ e_ f_:=by kernel_rfl
def b62 (A:Sy)(E:Env)(toks:LL)(at_:Int)(bad:Bool)(en_:LL)(e_:Int):Option PRes:=(E.call 1000058 (rP toks at_ bad)).bind fun p1=>(opS (A.cell p1.leaves 0)).bind fun s3=>oR A p1.leaves 1 fun l4 n5 b6=>E.lp (fun ds7=>oW A ds7 0 fun n8 l9 n10 b11 l12=>(opI (A.cell ds7 5) .i64).bind fun n13=>(opI (A.cell ds7 6) .i64).bind fun n14=>(opS (A.cell ds7 7)).bind fun s15=>(opI (A.cell ds7 8) .i64).bind fun n16=>(opL (A.cell ds7 9) 1).bind fun l17=>(opI (A.cell ds7 10) .i64).bind fun n18=>(opI (A.cell ds7 11) .i64).bind fun n19=>(opS (A.cell ds7 12)).bind fun s20=>(opI (A.cell ds7 13) .i64).bind fun n21=>(E.call 1000019 (rS (bs [44]) l9 n10 b11)).bind fun p22=>(opB (A.cell p22.leaves 0)).bind fun b24=>oR A p22.leaves 1 fun l25 n26 b27=>bif b24 then (E.call 1000058 (rP l25 n26 b27)).bind fun p28=>(opS (A.cell p28.leaves 0)).bind fun s30=>oR A p28.leaves 1 fun l31 n32 b33=>bif (A.fits l17 [[(.str s30)]] 16)then some (.inl [(.int .i64 n8),(.sl 4 l31),(.int .i64 n32),(.bool b33),(.sl 2 l12),(.int .i64 n13),(.int .i64 n14),(.str s15),(.int .i64 n16),(.sl 1 (A.rapp l17 [[(.str s30)]])),(.int .i64 n18),(.int .i64 n19),(.str s20),(.int .i64 n21)]) else none else (E.call 1000059 (rS (bs [61]) l25 n26 b27)).bind fun p34=>oR A p34.leaves 0 fun l36 n37 b38=>bif b38 then some (.inr (.val [(.sl 1 l17),(.int .i64 n18),(.int .i64 n19),(.str s20),(.int .i64 n21),(.sl 1 []),(.sl 6 []),(.int .i64 n8),(.sl 4 l36),(.int .i64 n37),(.bool b38),(.sl 2 l12)])) else (E.call 113 [(.d (.sl 4 l36)),(.d (.int .i64 n37))]).bind fun p39=>oE A p39.leaves 0 fun n41 n42 s43 n44 l45 l46=>(opI (A.cell p39.leaves 6) .i64).bind fun n47=>(opI (A.cell p39.leaves 7) .i64).bind fun n48=>bif (A.bnot (A.ieq n48 0))then some (.inr (.val [(.sl 1 l17),(.int .i64 n18),(.int .i64 n19),(.str s20),(.int .i64 n21),(.sl 1 []),(.sl 6 []),(.int .i64 n48),(.sl 4 l36),(.int .i64 n47),(.bool true),(.sl 2 l12)])) else (E.call 1000059 (rS (bs [59]) l36 n47 b38)).bind fun p49=>oR A p49.leaves 0 fun l51 n52 b53=>some (.inr (.val [(.sl 1 l17),(.int .i64 n41),(.int .i64 n42),(.str s43),(.int .i64 n44),(.sl 1 l45),(.sl 6 l46),(.int .i64 n8),(.sl 4 l51),(.int .i64 n52),(.bool b53),(.sl 2 l12)]))) [(.int .i64 e_),(.sl 4 l4),(.int .i64 n5),(.bool b6),(.sl 2 en_),(.int .i64 0),(.int .i64 0),(.str (bs [])),(.int .i64 0),(.sl 1 [[(.str s3)]]),(.int .i64 0),(.int .i64 0),(.str (bs [])),(.int .i64 0)]
theorem q4l (toks:LL)(at_:Int)(bad:Bool)(en_:LL)(e_:Int):(x3f A Tryz.prog cs 62 0 [.ptr 0 0] [.cells (.ty 63) [.ptr 1 0, .own 2, .d (.int .i64 e_)], .cells (.ty 61) [.d (.sl 4 toks), .d (.int .i64 at_), .d (.bool bad)], .arr 66 2 en_]).run E=b62 A E toks at_ bad en_ e_:=by kernel_rfl
def b21 (A:Sy)(E:Env)(toks:LL)(at_:Int)(bad:Bool)(en_:LL)(e_:Int):Option PRes:=(E.call 1000058 (rP toks at_ bad)).bind fun p1=>(opS (A.cell p1.leaves 0)).bind fun s3=>oR A p1.leaves 1 fun l4 n5 b6=>(E.call 1000059 (rS (bs [40]) l4 n5 b6)).bind fun p7=>oR A p7.leaves 0 fun l9 n10 b11=>x0q ((E.call 1000019 (rS (bs [41]) l9 n10 b11)).bind fun p12=>(opB (A.cell p12.leaves 0)).bind fun b14=>oR A p12.leaves 1 fun l15 n16 b17=>bif (A.bnot b14)then (E.call 1000061 (qRB false l15 n16 b17 en_ e_)).bind fun p18=>(opL (A.cell p18.leaves 0) 6).bind fun l20=>oW A p18.leaves 1 fun n21 l22 n23 b24 l25=>(E.call 1000059 (rS (bs [41]) l22 n23 b24)).bind fun p26=>oR A p26.leaves 0 fun l28 n29 b30=>some (.inl [(.int .i64 n21),(.sl 4 l28),(.int .i64 n29),(.bool b30),(.sl 2 l25),(.str (bs [])),(.str s3),(.sl 6 l20)]) else some (.inl [(.int .i64 e_),(.sl 4 l15),(.int .i64 n16),(.bool b17),(.sl 2 en_),(.str (bs [])),(.str s3),(.sl 6 [])])) fun ds31=>oW A ds31 0 fun n32 l33 n34 b35 l36=>(opS (A.cell ds31 5)).bind fun s37=>(opS (A.cell ds31 6)).bind fun s38=>(opL (A.cell ds31 7) 6).bind fun l39=>(E.call 1000059 (rS (bs [114,101,116,117,114,110,115]) l33 n34 b35)).bind fun p40=>oR A p40.leaves 0 fun l42 n43 b44=>(E.call 1000059 (rS (bs [40]) l42 n43 b44)).bind fun p45=>oR A p45.leaves 0 fun l47 n48 b49=>(E.call 1000061 (qRB false l47 n48 b49 l36 n32)).bind fun p50=>(opL (A.cell p50.leaves 0) 6).bind fun l52=>oW A p50.leaves 1 fun n53 l54 n55 b56 l57=>(E.call 1000059 (rS (bs [41]) l54 n55 b56)).bind fun p58=>oR A p58.leaves 0 fun l60 n61 b62=>x0q ((E.call 1000019 (rS (bs [118,97,114]) l60 n61 b62)).bind fun p63=>(opB (A.cell p63.leaves 0)).bind fun b65=>oR A p63.leaves 1 fun l66 n67 b68=>bif b65 then (E.call 1000061 (qRB true l66 n67 b68 l57 n53)).bind fun p69=>(opL (A.cell p69.leaves 0) 6).bind fun l71=>oW A p69.leaves 1 fun n72 l73 n74 b75 l76=>(E.call 1000059 (rS (bs [59]) l73 n74 b75)).bind fun p77=>oR A p77.leaves 0 fun l79 n80 b81=>some (.inl [(.int .i64 n72),(.sl 4 l79),(.int .i64 n80),(.bool b81),(.sl 2 l76),(.str s37),(.str s38),(.sl 6 l39),(.sl 6 l52),(.sl 6 l71)]) else some (.inl [(.int .i64 n53),(.sl 4 l66),(.int .i64 n67),(.bool b68),(.sl 2 l57),(.str s37),(.str s38),(.sl 6 l39),(.sl 6 l52),(.sl 6 [])])) fun ds82=>oW A ds82 0 fun n83 l84 n85 b86 l87=>(opS (A.cell ds82 5)).bind fun s88=>(opS (A.cell ds82 6)).bind fun s89=>(opL (A.cell ds82 7) 6).bind fun l90=>(opL (A.cell ds82 8) 6).bind fun l91=>(opL (A.cell ds82 9) 6).bind fun l92=>(E.call 1000059 (rS (bs [108,101,116]) l84 n85 b86)).bind fun p93=>oR A p93.leaves 0 fun l95 n96 b97=>E.lp (fun ds98=>oW A ds98 0 fun n99 l100 n101 b102 l103=>(opS (A.cell ds98 5)).bind fun s104=>(opS (A.cell ds98 6)).bind fun s105=>(opL (A.cell ds98 7) 6).bind fun l106=>(opL (A.cell ds98 8) 6).bind fun l107=>(opL (A.cell ds98 9) 6).bind fun l108=>(opL (A.cell ds98 10) 7).bind fun l109=>bif (A.bnot b102)then (E.call 1000019 (rS (bs [116,101,108]) l100 n101 b102)).bind fun p110=>(opB (A.cell p110.leaves 0)).bind fun b112=>oR A p110.leaves 1 fun l113 n114 b115=>bif (A.bnot b112)then (E.call 1000062 (qR l113 n114 b115 l103 n99)).bind fun p116=>(opL (A.cell p116.leaves 0) 1).bind fun l118=>oE A p116.leaves 1 fun n119 n120 s121 n122 l123 l124=>oW A p116.leaves 7 fun n125 l126 n127 b128 l129=>bif (A.fits l109 [[(.sl 1 l118),(.int .i64 n119),(.int .i64 n120),(.str s121),(.int .i64 n122),(.sl 1 l123),(.sl 6 l124)]] 112)then some (.inl [(.int .i64 n125),(.sl 4 l126),(.int .i64 n127),(.bool b128),(.sl 2 l129),(.str s104),(.str s105),(.sl 6 l106),(.sl 6 l107),(.sl 6 l108),(.sl 7 (A.rapp l109 [[(.sl 1 l118),(.int .i64 n119),(.int .i64 n120),(.str s121),(.int .i64 n122),(.sl 1 l123),(.sl 6 l124)]]))]) else none else some (.inr (.val [(.str s105),(.sl 6 l106),(.sl 6 l107),(.sl 6 l108),(.sl 7 l109),(.int .i64 n99),(.sl 4 l113),(.int .i64 n114),(.bool b115),(.sl 2 l103)])) else some (.inr (.val [(.str s105),(.sl 6 l106),(.sl 6 l107),(.sl 6 l108),(.sl 7 l109),(.int .i64 n99),(.sl 4 l100),(.int .i64 n101),(.bool b102),(.sl 2 l103)]))
 ) [(.int .i64 n83),(.sl 4 l95),(.int .i64 n96),(.bool b97),(.sl 2 l87),(.str s88),(.str s89),(.sl 6 l90),(.sl 6 l91),(.sl 6 l92),(.sl 7 [])]
theorem q4p (toks:LL)(at_:Int)(bad:Bool)(en_:LL)(e_:Int):(x3f A Tryz.prog cs 21 0 [.ptr 0 0] [.cells (.ty 63) [.ptr 1 0, .own 2, .d (.int .i64 e_)], .cells (.ty 61) [.d (.sl 4 toks), .d (.int .i64 at_), .d (.bool bad)], .arr 66 2 en_]).run E=b21 A E toks at_ bad en_ e_:=by kernel_rfl
end
end Go.Vm
end

section
set_option maxRecDepth 1000000
set_option maxHeartbeats 0
namespace Go.Vm
open Go.Proofs
noncomputable section
variable (A : Sy) (E : Env)
def k0i (op_:Int):Option PRes:=bif (A.ieq op_ 1)then vL [.str (bs [45])] else bif (A.ieq op_ 4)then vL [.str (bs [45])] else bif (A.ieq op_ 2)then vL [.str (bs [110,111,116])] else bif (A.ieq op_ 3)then vL [.str (bs [43])] else bif (A.ieq op_ 5)then vL [.str (bs [42])] else bif (A.ieq op_ 6)then vL [.str (bs [47])] else bif (A.ieq op_ 7)then vL [.str (bs [109,111,100])] else bif (A.ieq op_ 8)then vL [.str (bs [97,110,100])] else bif (A.ieq op_ 9)then vL [.str (bs [111,114])] else bif (A.ieq op_ 10)then vL [.str (bs [120,111,114])] else zC E 278 [.d (nI op_)] fun p1=>yS A p1 0 fun s3=>vL [.str s3]
theorem w2k (op_:Int):(x1o A Tryz.prog cs 275 [.d (.int .i64 op_)]).run E=k0i A E op_:=by kernel_rfl
def k0h (A:Sy)(E:Env)(op_:Int):Option PRes:=bif (A.ieq op_ 11)then vL [.str (bs [61])] else bif (A.ieq op_ 12)then vL [.str (bs [60,62])] else bif (A.ieq op_ 13)then vL [.str (bs [60])] else bif (A.ieq op_ 14)then vL [.str (bs [60,61])] else bif (A.ieq op_ 15)then vL [.str (bs [62])] else bif (A.ieq op_ 16)then vL [.str (bs [62,61])] else vL [.str (bs [])]
theorem w2j (op_:Int):(x1o A Tryz.prog cs 278 [.d (.int .i64 op_)]).run E=k0h A E op_:=by kernel_rfl
def k0j (A:Sy)(E:Env)(op_ a_0 a_1:Int)(a_2:ByteArray)(a_3:Int)(a_4 a_5:LL)(b_0 b_1:Int)(b_2:ByteArray)(b_3:Int)(b_4 b_5:LL):Option PRes:=some (.val [(.int .i64 6),(.int .i64 0),(.str (bs [])),(.int .i64 op_),(.sl 1 []),(.sl 6 [[(.int .i64 a_0),(.int .i64 a_1),(.str a_2),(.int .i64 a_3),(.sl 1 a_4),(.sl 6 a_5)],[(.int .i64 b_0),(.int .i64 b_1),(.str b_2),(.int .i64 b_3),(.sl 1 b_4),(.sl 6 b_5)]])])
theorem w2l (op_ a_0 a_1:Int)(a_2:ByteArray)(a_3:Int)(a_4 a_5:LL)(b_0 b_1:Int)(b_2:ByteArray)(b_3:Int)(b_4 b_5:LL):(x1o A Tryz.prog cs 270 [.d (.int .i64 op_), .agg [.d (.int .i64 a_0), .d (.int .i64 a_1), .d (.str a_2), .d (.int .i64 a_3), .d (.sl 1 a_4), .d (.sl 6 a_5)], .agg [.d (.int .i64 b_0), .d (.int .i64 b_1), .d (.str b_2), .d (.int .i64 b_3), .d (.sl 1 b_4), .d (.sl 6 b_5)]]).run E=k0j A E op_ a_0 a_1 a_2 a_3 a_4 a_5 b_0 b_1 b_2 b_3 b_4 b_5:=by kernel_rfl
def k0k (A:Sy)(E:Env)(op_ a_0 a_1:Int)(a_2:ByteArray)(a_3:Int)(a_4 a_5:LL)(b_0 b_1:Int)(b_2:ByteArray)(b_3:Int)(b_4 b_5:LL):Option PRes:=some (.val [(.int .i64 6),(.int .i64 0),(.str (bs [])),(.int .i64 op_),(.sl 1 []),(.sl 6 [[(.int .i64 a_0),(.int .i64 a_1),(.str a_2),(.int .i64 a_3),(.sl 1 a_4),(.sl 6 a_5)],[(.int .i64 b_0),(.int .i64 b_1),(.str b_2),(.int .i64 b_3),(.sl 1 b_4),(.sl 6 b_5)]])])
theorem w2m (op_ a_0 a_1:Int)(a_2:ByteArray)(a_3:Int)(a_4 a_5:LL)(b_0 b_1:Int)(b_2:ByteArray)(b_3:Int)(b_4 b_5:LL):(x1o A Tryz.prog cs 236 [.d (.int .i64 op_), .agg [.d (.int .i64 a_0), .d (.int .i64 a_1), .d (.str a_2), .d (.int .i64 a_3), .d (.sl 1 a_4), .d (.sl 6 a_5)], .agg [.d (.int .i64 b_0), .d (.int .i64 b_1), .d (.str b_2), .d (.int .i64 b_3), .d (.sl 1 b_4), .d (.sl 6 b_5)]]).run E=k0k A E op_ a_0 a_1 a_2 a_3 a_4 a_5 b_0 b_1 b_2 b_3 b_4 b_5:=by kernel_rfl
end
end Go.Vm
end

section
set_option maxRecDepth 1000000
set_option maxHeartbeats 0
namespace Go.Vm
open Go.Proofs
noncomputable section
variable (A : Sy) (E : Env)
def k0x (A:Sy)(E:Env)(l_:LL)(at_:Int):Option PRes:=x0q (bif (A.ile 0 at_)then vB (A.ilt at_ (A.rlen l_)) else vB false) fun ds1=>zB A ds1 0 fun b2=>x0q (bif b2 then iT (A.inr (zW A (A.sub (A.rlen l_) 1)) (A.rlen l_)) <| zI A (A.row l_ (zW A (A.sub (A.rlen l_) 1))) 0 fun n3=>vB (A.ieq n3 6) else vB false) fun ds4=>zB A ds4 0 fun b5=>vL [.bool b5]
theorem w2z (l_:LL)(at_:Int):(x1o A Tryz.prog cs 203 [.d (.sl 4 l_), .d (.int .i64 at_)]).run E=k0x A E l_ at_:=by kernel_rfl
def k1k (l_:LL)(at_:Int):Option PRes:=zC E 203 [.d (.sl 4 l_), .d (nI at_)] fun p1=>yB A p1 0 fun b3=>bif (A.bnot b3)then vL [nI 0,nI 0, .str (bs []),nI 0, .sl 1 [], .sl 6 [],nI 0,nI 1] else zC E 204 [.d (.sl 4 l_), .d (nI at_)] fun p4=>oE A p4.leaves 0 fun n6 n7 s8 n9 l10 l11=>yI A p4 6 fun n12=>yB A p4 7 fun b13=>bif (A.bnot b13)then vL [nI 0,nI 0, .str (bs []),nI 0, .sl 1 [], .sl 6 [],nI n12,nI 2] else zC E 176 [kE n6 n7 s8 n9 l10 l11] fun p14=>yI A p14 0 fun n16=>x0q (bif (A.ilt 12 n16)then vB true else zC E 175 [kE n6 n7 s8 n9 l10 l11] fun p17=>yI A p17 0 fun n19=>vB (A.ilt 60 n19)) fun ds20=>zB A ds20 0 fun b21=>bif b21 then vL [nI 0,nI 0, .str (bs []),nI 0, .sl 1 [], .sl 6 [],nI at_,nI 3] else zC E 143 [kE n6 n7 s8 n9 l10 l11] fun p22=>yB A p22 0 fun b24=>bif (A.bnot b24)then vL [nI 0,nI 0, .str (bs []),nI 0, .sl 1 [], .sl 6 [],nI at_,nI 1] else vL [nI n6,nI n7, .str s8,nI n9, .sl 1 l10, .sl 6 l11,nI n12,nI 0]
theorem w3m (l_:LL)(at_:Int):(x1o A Tryz.prog cs 171 [.d (.sl 4 l_), .d (.int .i64 at_)]).run E=k1k A E l_ at_:=by kernel_rfl
def k2j (l_:LL)(at_:Int):Option PRes:=x0q (bif (A.ilt at_ 0)then vB true else vB (A.ile (A.rlen l_) at_)) fun ds1=>zB A ds1 0 fun b2=>x0q (bif b2 then vB true else iT (A.inr (zW A (A.sub (A.rlen l_) 1)) (A.rlen l_)) <| zI A (A.row l_ (zW A (A.sub (A.rlen l_) 1))) 0 fun n3=>vB (A.bnot (A.ieq n3 6))) fun ds4=>zB A ds4 0 fun b5=>bif b5 then vL [nI 0,nI 0, .str (bs []),nI 0, .sl 1 [], .sl 6 [],nI 0,nI 1] else zC E 1000150 (rP l_ at_ false) fun p6=>oE A p6.leaves 0 fun n8 n9 s10 n11 l12 l13=>oR A p6.leaves 6 fun l14 n15 b16=>bif b16 then vL [nI 0,nI 0, .str (bs []),nI 0, .sl 1 [], .sl 6 [],nI n15,nI 2] else zC E 151 [kE n8 n9 s10 n11 l12 l13] fun p17=>yI A p17 0 fun n19=>x0q (bif (A.ilt 12 n19)then vB true else zC E 152 [kE n8 n9 s10 n11 l12 l13] fun p20=>yI A p20 0 fun n22=>vB (A.ilt 60 n22)) fun ds23=>zB A ds23 0 fun b24=>bif b24 then vL [nI 0,nI 0, .str (bs []),nI 0, .sl 1 [], .sl 6 [],nI at_,nI 3] else zC E 118 [kE n8 n9 s10 n11 l12 l13] fun p25=>yB A p25 0 fun b27=>bif (A.bnot b27)then vL [nI 0,nI 0, .str (bs []),nI 0, .sl 1 [], .sl 6 [],nI at_,nI 1] else vL [nI n8,nI n9, .str s10,nI n11, .sl 1 l12, .sl 6 l13,nI n15,nI 0]
theorem w4l (l_:LL)(at_:Int):(x1o A Tryz.prog cs 113 [.d (.sl 4 l_), .d (.int .i64 at_)]).run E=k2j A E l_ at_:=by kernel_rfl
def k1h (e_0 e_1:Int)(e_2:ByteArray)(e_3:Int)(e_4 e_5:LL):Option PRes:=E.lp (fun ds1=>zI A ds1 0 fun n2=>zL A ds1 1 6 fun l3=>zI A ds1 2 fun n4=>zI A ds1 3 fun n5=>bif (A.ilt n5 n4)then iT (A.inr n5 (A.rlen l3)) <| oE A (A.row l3 n5) 0 fun n6 n7 s8 n9 l10 l11=>zC E 176 [kE n6 n7 s8 n9 l10 l11] fun p12=>yI A p12 0 fun n14=>iL [nI (A.imax n2 n14), .sl 6 l3,nI n4,nI (zW A (A.add n5 1))] else some (.inr (.val [nI (zW A (A.add n2 1))]))) [nI 0, .sl 6 e_5,nI (A.rlen e_5),nI 0]
theorem w3j (e_0 e_1:Int)(e_2:ByteArray)(e_3:Int)(e_4 e_5:LL):(x1o A Tryz.prog cs 176 [.agg [.d (.int .i64 e_0), .d (.int .i64 e_1), .d (.str e_2), .d (.int .i64 e_3), .d (.sl 1 e_4), .d (.sl 6 e_5)]]).run E=k1h A E e_0 e_1 e_2 e_3 e_4 e_5:=by kernel_rfl
def q7q (e_0 e_1:Int)(e_2:ByteArray)(e_3:Int)(e_4 e_5:LL):Option PRes:=bif (A.ieq e_0 1)then zC E 229 [kE e_0 e_1 e_2 e_3 e_4 e_5] fun p1=>oQ A p1.leaves 0 fun b3 b4 b5 n6 n7 n8=>vL [.bool b3, .bool b4, .bool b5,nI n6,nI n7,nI n8, .bool true] else bif (A.ieq e_0 2)then zC E 229 [kE e_0 e_1 e_2 e_3 e_4 e_5] fun p9=>oQ A p9.leaves 0 fun b11 b12 b13 n14 n15 n16=>vL [.bool b11, .bool b12, .bool b13,nI n14,nI n15,nI n16, .bool true] else bif (A.ieq e_0 3)then zC E 229 [kE e_0 e_1 e_2 e_3 e_4 e_5] fun p17=>oQ A p17.leaves 0 fun b19 b20 b21 n22 n23 n24=>vL [.bool b19, .bool b20, .bool b21,nI n22,nI n23,nI n24, .bool true] else bif (A.ieq e_0 4)then zC E 229 [kE e_0 e_1 e_2 e_3 e_4 e_5] fun p25=>oQ A p25.leaves 0 fun b27 b28 b29 n30 n31 n32=>vL [.bool b27, .bool b28, .bool b29,nI n30,nI n31,nI n32, .bool true] else bif (A.ieq e_0 17)then zC E 229 [kE e_0 e_1 e_2 e_3 e_4 e_5] fun p33=>oQ A p33.leaves 0 fun b35 b36 b37 n38 n39 n40=>vL [.bool b35, .bool b36, .bool b37,nI n38,nI n39,nI n40, .bool true] else bif (A.ieq e_0 5)then zC E 230 [kE e_0 e_1 e_2 e_3 e_4 e_5, .d (nI 1)] fun p41=>oQ A p41.leaves 0 fun b43 b44 b45 n46 n47 n48=>x0q (bif (A.ieq e_3 1)then vB true else vB (A.ieq e_3 2)) fun ds49=>zB A ds49 0 fun b50=>vL [.bool b43, .bool b44, .bool b50,nI n46,nI n47,nI n48, .bool true] else bif (A.ieq e_0 6)then zC E 230 [kE e_0 e_1 e_2 e_3 e_4 e_5, .d (nI 2)] fun p51=>oQ A p51.leaves 0 fun b53 b54 b55 n56 n57 n58=>x0q (bif (A.ile 3 e_3)then vB (A.ile e_3 16) else vB false) fun ds59=>zB A ds59 0 fun b60=>vL [.bool b53, .bool b54, .bool b60,nI n56,nI n57,nI n58, .bool true] else bif (A.ieq e_0 7)then zC E 230 [kE e_0 e_1 e_2 e_3 e_4 e_5, .d (nI 3)] fun p61=>oQ A p61.leaves 0 fun b63 b64 b65 n66 n67 n68=>vL [.bool b63, .bool b64, .bool b65,nI n66,nI n67,nI n68, .bool true] else bif (A.ieq e_0 16)then zC E 230 [kE e_0 e_1 e_2 e_3 e_4 e_5, .d (nI 3)] fun p69=>oQ A p69.leaves 0 fun b71 b72 b73 n74 n75 n76=>vL [.bool b71, .bool b72, .bool b73,nI n74,nI n75,nI n76, .bool true] else bif (A.ieq e_0 8)then zC E 230 [kE e_0 e_1 e_2 e_3 e_4 e_5, .d (nI 2)] fun p77=>oQ A p77.leaves 0 fun b79 b80 b81 n82 n83 n84=>vL [.bool b79, .bool b80, .bool b81,nI n82,nI n83,nI n84, .bool true] else bif (A.ieq e_0 9)then zC E 230 [kE e_0 e_1 e_2 e_3 e_4 e_5, .d (nI 2)] fun p85=>oQ A p85.leaves 0 fun b87 b88 b89 n90 n91 n92=>vL [.bool b87, .bool b88, .bool b89,nI n90,nI n91,nI n92, .bool true] else bif (A.ieq e_0 15)then zC E 230 [kE e_0 e_1 e_2 e_3 e_4 e_5, .d (nI 2)] fun p93=>oQ A p93.leaves 0 fun b95 b96 b97 n98 n99 n100=>vL [.bool b95, .bool b96, .bool b97,nI n98,nI n99,nI n100, .bool true] else bif (A.ieq e_0 10)then zC E 230 [kE e_0 e_1 e_2 e_3 e_4 e_5, .d (nI 1)] fun p101=>oQ A p101.leaves 0 fun b103 b104 b105 n106 n107 n108=>vL [.bool b103, .bool b104, .bool b105,nI n106,nI n107,nI n108, .bool true] else bif (A.ieq e_0 11)then zC E 230 [kE e_0 e_1 e_2 e_3 e_4 e_5, .d (nI 1)] fun p109=>oQ A p109.leaves 0 fun w9o b112 b113 n114 n115 n116=>zC E 95 [.d (.str e_2)] fun p117=>yB A p117 0 fun b119=>vL [.bool w9o, .bool b119, .bool b113,nI n114,nI n115,nI 1, .bool true] else bif (A.ieq e_0 12)then zC E 230 [kE e_0 e_1 e_2 e_3 e_4 e_5, .d (nI (A.rlen e_4))] fun p120=>oQ A p120.leaves 0 fun b122 b123 b124 n125 n126 n127=>zC E 95 [.d (.str e_2)] fun p128=>yB A p128 0 fun w9n=>vL [.bool b122, .bool w9n, .bool b124,nI n125,nI n126,nI 6, .bool true] else bif (A.ieq e_0 13)then bif (A.ieq e_1 0)then zC E 95 [.d (.str e_2)] fun p131=>yB A p131 0 fun b133=>bif (A.ieq e_1 0)then vL [.bool true, .bool b133, .bool (A.ieq e_3 0),nI e_1,nI 6,nI 0, .bool true] else vL [.bool true, .bool b133, .bool (A.ieq e_3 0),nI e_1,nI 7,nI 0, .bool true] else zC E 95 [.d (.str e_2)] fun p134=>yB A p134 0 fun b136=>bif (A.ieq e_1 0)then vL [.bool (A.ieq e_1 1), .bool b136, .bool (A.ieq e_3 0),nI e_1,nI 6,nI 0, .bool true] else vL [.bool (A.ieq e_1 1), .bool b136, .bool (A.ieq e_3 0),nI e_1,nI 7,nI 0, .bool true] else bif (A.ieq e_0 14)then zC E 230 [kE e_0 e_1 e_2 e_3 e_4 e_5, .d (nI 1)] fun p137=>
 oQ A p137.leaves 0 fun b139 b140 b141 n142 n143 n144=>vL [.bool b139, .bool b140, .bool b141,nI n142,nI 8,nI n144, .bool true] else vL [.bool false, .bool false, .bool false,nI 0,nI 0,nI 0, .bool false]
theorem v0n (e_0 e_1:Int)(e_2:ByteArray)(e_3:Int)(e_4 e_5:LL):(x1o A Tryz.prog cs 207 [.agg [.d (.int .i64 e_0), .d (.int .i64 e_1), .d (.str e_2), .d (.int .i64 e_3), .d (.sl 1 e_4), .d (.sl 6 e_5)]]).run E=q7q A E e_0 e_1 e_2 e_3 e_4 e_5:=by kernel_rfl
def k0o (e_0 e_1:Int)(e_2:ByteArray)(e_3:Int)(e_4 e_5:LL):Option PRes:=zC E 230 [kE e_0 e_1 e_2 e_3 e_4 e_5, .d (nI 0)] fun p1=>oQ A p1.leaves 0 fun b3 b4 b5 n6 n7 n8=>bif (A.ieq e_0 1)then vL [.bool (A.ile 0 e_1), .bool b4, .bool b5,nI n6,nI n7,nI n8] else bif (A.ieq e_0 2)then x0q (bif (A.ieq e_1 0)then vB true else vB (A.ieq e_1 1)) fun ds9=>zB A ds9 0 fun b10=>vL [.bool b10, .bool b4, .bool b5,nI n6,nI n7,nI n8] else bif (A.ieq e_0 3)then zC E 95 [.d (.str e_2)] fun p11=>yB A p11 0 fun b13=>vL [.bool b3, .bool b13, .bool b5,nI n6,nI n7,nI n8] else bif (A.ieq e_0 4)then zC E 97 [.d (.str e_2)] fun p14=>yB A p14 0 fun b16=>vL [.bool b3, .bool b16, .bool b5,nI n6,nI n7,nI n8] else bif (A.ieq e_0 17)then zC E 126 [.d (.str e_2)] fun p17=>yB A p17 0 fun b19=>vL [.bool b3, .bool b19, .bool b5,nI n6,nI n7,nI n8] else vL [.bool b3, .bool b4, .bool b5,nI n6,nI n7,nI n8]
theorem w2q (e_0 e_1:Int)(e_2:ByteArray)(e_3:Int)(e_4 e_5:LL):(x1o A Tryz.prog cs 229 [.agg [.d (.int .i64 e_0), .d (.int .i64 e_1), .d (.str e_2), .d (.int .i64 e_3), .d (.sl 1 e_4), .d (.sl 6 e_5)]]).run E=k0o A E e_0 e_1 e_2 e_3 e_4 e_5:=by kernel_rfl
def k0n (A:Sy)(E:Env)(e_0 e_1:Int)(e_2:ByteArray)(e_3:Int)(e_4 e_5:LL)(n_:Int):Option PRes:=vL [.bool (A.ieq e_1 0), .bool (A.seq e_2 (bs [])), .bool (A.ieq e_3 0),nI n_,nI n_,nI 0]
theorem w2p (e_0 e_1:Int)(e_2:ByteArray)(e_3:Int)(e_4 e_5:LL)(n_:Int):(x1o A Tryz.prog cs 230 [.agg [.d (.int .i64 e_0), .d (.int .i64 e_1), .d (.str e_2), .d (.int .i64 e_3), .d (.sl 1 e_4), .d (.sl 6 e_5)], .d (.int .i64 n_)]).run E=k0n A E e_0 e_1 e_2 e_3 e_4 e_5 n_:=by kernel_rfl
def k0u (s_:ByteArray):Option PRes:=zC E 97 [.d (.str s_)] fun p1=>yB A p1 0 fun b3=>x0q (bif b3 then vB true else vB (A.seq s_ (bs [116,114,117,101]))) fun ds4=>zB A ds4 0 fun b5=>x0q (bif b5 then vB true else vB (A.seq s_ (bs [102,97,108,115,101]))) fun ds6=>zB A ds6 0 fun b7=>vL [.bool b7]
theorem w2w (s_:ByteArray):(x1o A Tryz.prog cs 209 [.d (.str s_)]).run E=k0u A E s_:=by kernel_rfl
def k0m (A:Sy)(E:Env)(e_0 e_1:Int)(e_2:ByteArray)(e_3:Int)(e_4 e_5:LL):Option PRes:=bif (A.ieq e_0 1)then vL [.bool true] else bif (A.ieq e_0 2)then vL [.bool true] else bif (A.ieq e_0 4)then vL [.bool true] else bif (A.ieq e_0 5)then x0q (bif (A.ieq e_3 1)then vB (A.ieq (A.rlen e_5) 1) else vB false) fun ds1=>zB A ds1 0 fun b2=>x0q (bif b2 then iT (A.inr 0 (A.rlen e_5)) <| zI A (A.row e_5 0) 0 fun n3=>vB (A.ieq n3 1) else vB false) fun ds4=>zB A ds4 0 fun b5=>vL [.bool b5] else vL [.bool false]
theorem w2o (e_0 e_1:Int)(e_2:ByteArray)(e_3:Int)(e_4 e_5:LL):(x1o A Tryz.prog cs 231 [.agg [.d (.int .i64 e_0), .d (.int .i64 e_1), .d (.str e_2), .d (.int .i64 e_3), .d (.sl 1 e_4), .d (.sl 6 e_5)]]).run E=k0m A E e_0 e_1 e_2 e_3 e_4 e_5:=by kernel_rfl
def k1p (e_0 e_1:Int)(e_2:ByteArray)(e_3:Int)(e_4 e_5:LL):Option PRes:=E.lp (fun ds1=>zI A ds1 0 fun n2=>zI A ds1 1 fun n3=>oE A ds1 2 fun n4 n5 s6 n7 l8 l9=>bif (A.ilt n3 (A.rlen l9))then iT (A.inr n3 (A.rlen l9)) <| oE A (A.row l9 n3) 0 fun n10 n11 s12 n13 l14 l15=>zC E 152 [kE n10 n11 s12 n13 l14 l15] fun p16=>yI A p16 0 fun n18=>iL [nI (zW A (A.add n2 n18)),nI (zW A (A.add n3 1)),nI n4,nI n5, .str s6,nI n7, .sl 1 l8, .sl 6 l9] else some (.inr (.val [nI n2]))) [nI 1,nI 0,nI e_0,nI e_1, .str e_2,nI e_3, .sl 1 e_4, .sl 6 e_5]
theorem w3r (e_0 e_1:Int)(e_2:ByteArray)(e_3:Int)(e_4 e_5:LL):(x1o A Tryz.prog cs 152 [.agg [.d (.int .i64 e_0), .d (.int .i64 e_1), .d (.str e_2), .d (.int .i64 e_3), .d (.sl 1 e_4), .d (.sl 6 e_5)]]).run E=k1p A E e_0 e_1 e_2 e_3 e_4 e_5:=by kernel_rfl
def k1q (e_0 e_1:Int)(e_2:ByteArray)(e_3:Int)(e_4 e_5:LL):Option PRes:=E.lp (fun ds1=>zI A ds1 0 fun n2=>zI A ds1 1 fun n3=>oE A ds1 2 fun n4 n5 s6 n7 l8 l9=>bif (A.ilt n3 (A.rlen l9))then iT (A.inr n3 (A.rlen l9)) <| oE A (A.row l9 n3) 0 fun n10 n11 s12 n13 l14 l15=>zC E 151 [kE n10 n11 s12 n13 l14 l15] fun p16=>yI A p16 0 fun n18=>iL [nI (A.imax n2 n18),nI (zW A (A.add n3 1)),nI n4,nI n5, .str s6,nI n7, .sl 1 l8, .sl 6 l9] else some (.inr (.val [nI (zW A (A.add n2 1))]))) [nI 0,nI 0,nI e_0,nI e_1, .str e_2,nI e_3, .sl 1 e_4, .sl 6 e_5]
theorem w3s (e_0 e_1:Int)(e_2:ByteArray)(e_3:Int)(e_4 e_5:LL):(x1o A Tryz.prog cs 151 [.agg [.d (.int .i64 e_0), .d (.int .i64 e_1), .d (.str e_2), .d (.int .i64 e_3), .d (.sl 1 e_4), .d (.sl 6 e_5)]]).run E=k1q A E e_0 e_1 e_2 e_3 e_4 e_5:=by kernel_rfl
def k2i (e_0 e_1:Int)(e_2:ByteArray)(e_3:Int)(e_4 e_5:LL):Option PRes:=E.lp (fun ds1=>zI A ds1 0 fun n2=>oE A ds1 1 fun n3 n4 s5 n6 l7 l8=>zL A ds1 7 6 fun l9=>bif (A.ilt n2 (A.rlen l8))then iT (A.inr n2 (A.rlen l8)) <| oE A (A.row l8 n2) 0 fun n10 n11 s12 n13 l14 l15=>zC E 114 [kE n10 n11 s12 n13 l14 l15] fun p16=>yL A p16 0 6 fun l18=>iT (A.fits l9 l18 88) <| iL [nI (zW A (A.add n2 1)),nI n3,nI n4, .str s5,nI n6, .sl 1 l7, .sl 6 l8, .sl 6 (A.rapp l9 l18)] else some (.inr (.own 81 6 l9))) [nI 0,nI e_0,nI e_1, .str e_2,nI e_3, .sl 1 e_4, .sl 6 e_5, .sl 6 [[nI e_0,nI e_1, .str e_2,nI e_3, .sl 1 e_4, .sl 6 e_5]]]
theorem w4k (e_0 e_1:Int)(e_2:ByteArray)(e_3:Int)(e_4 e_5:LL):(x1o A Tryz.prog cs 114 [.agg [.d (.int .i64 e_0), .d (.int .i64 e_1), .d (.str e_2), .d (.int .i64 e_3), .d (.sl 1 e_4), .d (.sl 6 e_5)]]).run E=k2i A E e_0 e_1 e_2 e_3 e_4 e_5:=by kernel_rfl
def k1n (e_0 e_1:Int)(e_2:ByteArray)(e_3:Int)(e_4 e_5:LL):Option PRes:=x0q (bif (A.ilt e_0 1)then vB true else vB (A.ilt 17 e_0)) fun ds1=>zB A ds1 0 fun b2=>x0q (bif b2 then vB true else zC E 182 [kE e_0 e_1 e_2 e_3 e_4 e_5] fun p3=>yB A p3 0 fun b5=>vB (A.bnot b5)) fun ds6=>zB A ds6 0 fun b7=>x0q (bif b7 then vB true else zC E 183 [kE e_0 e_1 e_2 e_3 e_4 e_5] fun p8=>yB A p8 0 fun b10=>vB (A.bnot b10)) fun ds11=>zB A ds11 0 fun b12=>x0q (bif b12 then vB true else zC E 184 [kE e_0 e_1 e_2 e_3 e_4 e_5] fun p13=>yB A p13 0 fun b15=>vB (A.bnot b15)) fun ds16=>zB A ds16 0 fun b17=>bif b17 then vL [.bool false] else zC E 185 [kE e_0 e_1 e_2 e_3 e_4 e_5] fun p18=>yI A p18 0 fun n20=>yI A p18 1 fun n21=>x0q (bif (A.ile n20 (A.rlen e_5))then vB (A.ile (A.rlen e_5) n21) else vB false) fun ds22=>zB A ds22 0 fun b23=>x0q (bif b23 then bif (A.bnot (A.ieq e_0 8))then vB true else iT (A.inr 0 (A.rlen e_5)) <| oE A (A.row e_5 0) 0 fun n24 n25 s26 n27 l28 l29=>zC E 186 [kE n24 n25 s26 n27 l28 l29] fun p30=>yB A p30 0 fun b32=>vB b32 else vB false) fun ds33=>zB A ds33 0 fun b34=>vL [.bool b34]
theorem w3p (e_0 e_1:Int)(e_2:ByteArray)(e_3:Int)(e_4 e_5:LL):(x1o A Tryz.prog cs 154 [.agg [.d (.int .i64 e_0), .d (.int .i64 e_1), .d (.str e_2), .d (.int .i64 e_3), .d (.sl 1 e_4), .d (.sl 6 e_5)]]).run E=k1n A E e_0 e_1 e_2 e_3 e_4 e_5:=by kernel_rfl
def k2f (e_0 e_1:Int)(e_2:ByteArray)(e_3:Int)(e_4 e_5:LL):Option PRes:=zC E 152 [kE e_0 e_1 e_2 e_3 e_4 e_5] fun p1=>yI A p1 0 fun n3=>x0q (bif (A.ilt 60 n3)then vB true else zC E 151 [kE e_0 e_1 e_2 e_3 e_4 e_5] fun p4=>yI A p4 0 fun n6=>vB (A.ilt 12 n6)) fun ds7=>zB A ds7 0 fun b8=>bif b8 then vL [.bool false] else zC E 114 [kE e_0 e_1 e_2 e_3 e_4 e_5] fun p9=>yL A p9 0 6 fun l11=>E.lp (fun ds12=>zL A ds12 0 6 fun l13=>zI A ds12 1 fun n14=>bif (A.ilt n14 (A.rlen l13))then iT (A.inr n14 (A.rlen l13)) <| oE A (A.row l13 n14) 0 fun n15 n16 s17 n18 l19 l20=>zC E 154 [kE n15 n16 s17 n18 l19 l20] fun p21=>yB A p21 0 fun b23=>bif (A.bnot b23)then some (.inr (.val [.bool false])) else iL [.sl 6 l13,nI (zW A (A.add n14 1))] else some (.inr (.val [.bool true]))) [.sl 6 l11,nI 0]
theorem w4h (e_0 e_1:Int)(e_2:ByteArray)(e_3:Int)(e_4 e_5:LL):(x1o A Tryz.prog cs 118 [.agg [.d (.int .i64 e_0), .d (.int .i64 e_1), .d (.str e_2), .d (.int .i64 e_3), .d (.sl 1 e_4), .d (.sl 6 e_5)]]).run E=k2f A E e_0 e_1 e_2 e_3 e_4 e_5:=by kernel_rfl
def g65 (a_0 a_1:Int)(a_2:ByteArray)(a_3:Int)(a_4 a_5:LL)(b_0 b_1:Int)(b_2:ByteArray)(b_3:Int)(b_4 b_5:LL):Option PRes:=x0q (bif (A.bnot (A.ieq a_0 b_0))then vB true else vB (A.bnot (A.ieq a_1 b_1))) fun ds1=>zB A ds1 0 fun b2=>x0q (bif b2 then vB true else vB (A.bnot (A.seq a_2 b_2))) fun ds3=>zB A ds3 0 fun b4=>x0q (bif b4 then vB true else vB (A.bnot (A.ieq a_3 b_3))) fun ds5=>zB A ds5 0 fun b6=>x0q (bif b6 then vB true else zC E 63 [.d (.sl 1 a_4), .d (.sl 1 b_4)] fun p7=>yB A p7 0 fun b9=>vB (A.bnot b9)) fun ds10=>zB A ds10 0 fun b11=>x0q (bif b11 then vB true else vB (A.bnot (A.ieq (A.rlen a_5) (A.rlen b_5)))) fun ds12=>zB A ds12 0 fun b13=>bif b13 then vL [.bool false] else E.lp (fun ds14=>zI A ds14 0 fun n15=>oE A ds14 1 fun n16 n17 s18 n19 l20 l21=>oE A ds14 7 fun n22 n23 s24 n25 l26 l27=>bif (A.ilt n15 (A.rlen l21))then iT (A.inr n15 (A.rlen l21)) <| oE A (A.row l21 n15) 0 fun n28 n29 s30 n31 l32 l33=>iT (A.inr n15 (A.rlen l27)) <| oE A (A.row l27 n15) 0 fun n34 n35 s36 n37 l38 l39=>zC E 65 [kE n28 n29 s30 n31 l32 l33,kE n34 n35 s36 n37 l38 l39] fun p40=>yB A p40 0 fun b42=>bif (A.bnot b42)then some (.inr (.val [.bool false])) else iL [nI (zW A (A.add n15 1)),nI n16,nI n17, .str s18,nI n19, .sl 1 l20, .sl 6 l21,nI n22,nI n23, .str s24,nI n25, .sl 1 l26, .sl 6 l27] else some (.inr (.val [.bool true]))) [nI 0,nI a_0,nI a_1, .str a_2,nI a_3, .sl 1 a_4, .sl 6 a_5,nI b_0,nI b_1, .str b_2,nI b_3, .sl 1 b_4, .sl 6 b_5]
theorem q2m (a_0 a_1:Int)(a_2:ByteArray)(a_3:Int)(a_4 a_5:LL)(b_0 b_1:Int)(b_2:ByteArray)(b_3:Int)(b_4 b_5:LL):(x1o A Tryz.prog cs 65 [.agg [.d (.int .i64 a_0), .d (.int .i64 a_1), .d (.str a_2), .d (.int .i64 a_3), .d (.sl 1 a_4), .d (.sl 6 a_5)], .agg [.d (.int .i64 b_0), .d (.int .i64 b_1), .d (.str b_2), .d (.int .i64 b_3), .d (.sl 1 b_4), .d (.sl 6 b_5)]]).run E=g65 A E a_0 a_1 a_2 a_3 a_4 a_5 b_0 b_1 b_2 b_3 b_4 b_5:=by kernel_rfl
def k1e (A:Sy)(E:Env)(e_0 e_1:Int)(e_2:ByteArray)(e_3:Int)(e_4 e_5:LL):Option PRes:=bif (A.ieq e_0 5)then bif (A.ieq e_0 6)then x0q (bif (A.ilt e_3 3)then vB true else vB (A.ilt 16 e_3)) fun ds1=>zB A ds1 0 fun b2=>bif b2 then vL [.bool false] else bif (A.ieq e_0 1)then vL [.bool (A.ile 0 e_1)] else x0q (bif (A.ieq e_0 2)then vB true else vB (A.ieq e_0 13)) fun ds3=>zB A ds3 0 fun b4=>bif b4 then x0q (bif (A.ieq e_1 0)then vB true else vB (A.ieq e_1 1)) fun ds5=>zB A ds5 0 fun b6=>vL [.bool b6] else vL [.bool (A.ieq e_1 0)] else x0q (bif (A.ilt e_3 1)then vB true else vB (A.ilt 2 e_3)) fun ds7=>zB A ds7 0 fun b8=>bif b8 then vL [.bool false] else bif (A.ieq e_0 1)then vL [.bool (A.ile 0 e_1)] else x0q (bif (A.ieq e_0 2)then vB true else vB (A.ieq e_0 13)) fun ds9=>zB A ds9 0 fun b10=>bif b10 then x0q (bif (A.ieq e_1 0)then vB true else vB (A.ieq e_1 1)) fun ds11=>zB A ds11 0 fun b12=>vL [.bool b12] else vL [.bool (A.ieq e_1 0)] else bif (A.ieq e_0 6)then x0q (bif (A.ilt e_3 3)then vB true else vB (A.ilt 16 e_3)) fun ds13=>zB A ds13 0 fun b14=>bif b14 then vL [.bool false] else bif (A.ieq e_0 1)then vL [.bool (A.ile 0 e_1)] else x0q (bif (A.ieq e_0 2)then vB true else vB (A.ieq e_0 13)) fun ds15=>zB A ds15 0 fun b16=>bif b16 then x0q (bif (A.ieq e_1 0)then vB true else vB (A.ieq e_1 1)) fun ds17=>zB A ds17 0 fun b18=>vL [.bool b18] else vL [.bool (A.ieq e_1 0)] else x0q (bif (A.ilt e_3 0)then vB true else vB (A.ilt 0 e_3)) fun ds19=>zB A ds19 0 fun b20=>bif b20 then vL [.bool false] else bif (A.ieq e_0 1)then vL [.bool (A.ile 0 e_1)] else x0q (bif (A.ieq e_0 2)then vB true else vB (A.ieq e_0 13)) fun ds21=>zB A ds21 0 fun b22=>bif b22 then x0q (bif (A.ieq e_1 0)then vB true else vB (A.ieq e_1 1)) fun ds23=>zB A ds23 0 fun b24=>vL [.bool b24] else vL [.bool (A.ieq e_1 0)]
theorem w3g (e_0 e_1:Int)(e_2:ByteArray)(e_3:Int)(e_4 e_5:LL):(x1o A Tryz.prog cs 182 [.agg [.d (.int .i64 e_0), .d (.int .i64 e_1), .d (.str e_2), .d (.int .i64 e_3), .d (.sl 1 e_4), .d (.sl 6 e_5)]]).run E=k1e A E e_0 e_1 e_2 e_3 e_4 e_5:=by kernel_rfl
def k1d (e_0 e_1:Int)(e_2:ByteArray)(e_3:Int)(e_4 e_5:LL):Option PRes:=bif (A.ieq e_0 3)then zC E 68 [.d (.str e_2)] fun p1=>yB A p1 0 fun b3=>vL [.bool b3] else bif (A.ieq e_0 11)then zC E 68 [.d (.str e_2)] fun p4=>yB A p4 0 fun b6=>vL [.bool b6] else bif (A.ieq e_0 12)then zC E 68 [.d (.str e_2)] fun p7=>yB A p7 0 fun b9=>vL [.bool b9] else bif (A.ieq e_0 13)then zC E 68 [.d (.str e_2)] fun p10=>yB A p10 0 fun b12=>vL [.bool b12] else bif (A.ieq e_0 4)then zC E 69 [.d (.str e_2)] fun p13=>yB A p13 0 fun b15=>vL [.bool b15] else bif (A.ieq e_0 17)then zC E 146 [.d (.str e_2)] fun p16=>yB A p16 0 fun b18=>vL [.bool b18] else vL [.bool (A.seq e_2 (bs []))]
theorem w3f (e_0 e_1:Int)(e_2:ByteArray)(e_3:Int)(e_4 e_5:LL):(x1o A Tryz.prog cs 183 [.agg [.d (.int .i64 e_0), .d (.int .i64 e_1), .d (.str e_2), .d (.int .i64 e_3), .d (.sl 1 e_4), .d (.sl 6 e_5)]]).run E=k1d A E e_0 e_1 e_2 e_3 e_4 e_5:=by kernel_rfl
def k1c (e_0 e_1:Int)(e_2:ByteArray)(e_3:Int)(e_4 e_5:LL):Option PRes:=E.lp (fun ds1=>zI A ds1 0 fun n2=>oE A ds1 1 fun n3 n4 s5 n6 l7 l8=>bif (A.ilt n2 (A.rlen l7))then iT (A.inr n2 (A.rlen l7)) <| zS A (A.row l7 n2) 0 fun s9=>zC E 212 [.d (.str s9)] fun p10=>yB A p10 0 fun b12=>bif (A.bnot b12)then some (.inr (.val [.bool false])) else iL [nI (zW A (A.add n2 1)),nI n3,nI n4, .str s5,nI n6, .sl 1 l7, .sl 6 l8] else bif (A.ieq n3 11)then some (.inr (.val [.bool (A.ieq (A.rlen l7) 1)])) else bif (A.ieq n3 12)then x0q (bif (A.ile 1 (A.rlen l7))then vB (A.ile (A.rlen l7) 6) else vB false) fun ds13=>zB A ds13 0 fun b14=>x0q (bif b14 then zC E 30 [.d (.sl 1 l7)] fun p15=>yB A p15 0 fun b17=>vB b17 else vB false) fun ds18=>zB A ds18 0 fun b19=>some (.inr (.val [.bool b19])) else some (.inr (.val [.bool (A.ieq (A.rlen l7) 0)]))) [nI 0,nI e_0,nI e_1, .str e_2,nI e_3, .sl 1 e_4, .sl 6 e_5]
theorem w3e (e_0 e_1:Int)(e_2:ByteArray)(e_3:Int)(e_4 e_5:LL):(x1o A Tryz.prog cs 184 [.agg [.d (.int .i64 e_0), .d (.int .i64 e_1), .d (.str e_2), .d (.int .i64 e_3), .d (.sl 1 e_4), .d (.sl 6 e_5)]]).run E=k1c A E e_0 e_1 e_2 e_3 e_4 e_5:=by kernel_rfl
def q3d (A:Sy)(E:Env)(e_0 e_1:Int)(e_2:ByteArray)(e_3:Int)(e_4 e_5:LL):Option PRes:=bif (A.ieq e_0 5)then vL [nI 1,nI 1] else bif (A.ieq e_0 10)then vL [nI 1,nI 1] else bif (A.ieq e_0 11)then vL [nI 1,nI 1] else bif (A.ieq e_0 6)then vL [nI 2,nI 2] else bif (A.ieq e_0 8)then vL [nI 2,nI 2] else bif (A.ieq e_0 9)then vL [nI 2,nI 2] else bif (A.ieq e_0 15)then vL [nI 2,nI 2] else bif (A.ieq e_0 7)then vL [nI 3,nI 3] else bif (A.ieq e_0 16)then vL [nI 3,nI 3] else bif (A.ieq e_0 12)then vL [nI (A.rlen e_4),nI (A.rlen e_4)] else bif (A.ieq e_0 13)then vL [nI e_1,nI (zW A (A.add 6 e_1))] else bif (A.ieq e_0 14)then vL [nI 1,nI 8] else vL [nI 0,nI 0]
theorem z3p (e_0 e_1:Int)(e_2:ByteArray)(e_3:Int)(e_4 e_5:LL):(x1o A Tryz.prog cs 185 [.agg [.d (.int .i64 e_0), .d (.int .i64 e_1), .d (.str e_2), .d (.int .i64 e_3), .d (.sl 1 e_4), .d (.sl 6 e_5)]]).run E=q3d A E e_0 e_1 e_2 e_3 e_4 e_5:=by kernel_rfl
def k1b (e_0 e_1:Int)(e_2:ByteArray)(e_3:Int)(e_4 e_5:LL):Option PRes:=bif (A.bnot (A.ieq e_0 14))then zC E 213 [kE e_0 e_1 e_2 e_3 e_4 e_5] fun p1=>yB A p1 0 fun b3=>vL [.bool b3] else E.lp (fun ds4=>zI A ds4 0 fun n5=>oE A ds4 1 fun n6 n7 s8 n9 l10 l11=>bif (A.ilt n5 (A.rlen l11))then iT (A.inr n5 (A.rlen l11)) <| oE A (A.row l11 n5) 0 fun n12 n13 s14 n15 l16 l17=>zC E 213 [kE n12 n13 s14 n15 l16 l17] fun p18=>yB A p18 0 fun b20=>bif (A.bnot b20)then some (.inr (.val [.bool false])) else iL [nI (zW A (A.add n5 1)),nI n6,nI n7, .str s8,nI n9, .sl 1 l10, .sl 6 l11] else some (.inr (.val [.bool true]))) [nI 0,nI e_0,nI e_1, .str e_2,nI e_3, .sl 1 e_4, .sl 6 e_5]
theorem w3d (e_0 e_1:Int)(e_2:ByteArray)(e_3:Int)(e_4 e_5:LL):(x1o A Tryz.prog cs 186 [.agg [.d (.int .i64 e_0), .d (.int .i64 e_1), .d (.str e_2), .d (.int .i64 e_3), .d (.sl 1 e_4), .d (.sl 6 e_5)]]).run E=k1b A E e_0 e_1 e_2 e_3 e_4 e_5:=by kernel_rfl
def k0s (s_:ByteArray):Option PRes:=zC E 69 [.d (.str s_)] fun p1=>yB A p1 0 fun b3=>x0q (bif b3 then vB true else vB (A.seq s_ (bs [116,114,117,101]))) fun ds4=>zB A ds4 0 fun b5=>x0q (bif b5 then vB true else vB (A.seq s_ (bs [102,97,108,115,101]))) fun ds6=>zB A ds6 0 fun b7=>vL [.bool b7]
theorem w2u (s_:ByteArray):(x1o A Tryz.prog cs 212 [.d (.str s_)]).run E=k0s A E s_:=by kernel_rfl
def g30 (l_:LL):Option PRes:=E.lp (fun ds1=>zL A ds1 0 1 fun l2=>zI A ds1 1 fun n3=>bif (A.ilt n3 (A.rlen l2))then E.lp (fun ds4=>zL A ds4 0 1 fun l5=>zI A ds4 1 fun n6=>zI A ds4 2 fun n7=>bif (A.ilt n7 n6)then iT (A.inr n7 (A.rlen l5)) <| zS A (A.row l5 n7) 0 fun s8=>iT (A.inr n6 (A.rlen l5)) <| zS A (A.row l5 n6) 0 fun s9=>bif (A.seq s8 s9)then some (.inr (.inr (.val [.bool false]))) else iL [.sl 1 l5,nI n6,nI (zW A (A.add n7 1))] else some (.inr (.inl [.sl 1 l5,nI (zW A (A.add n6 1))]))) [.sl 1 l2,nI n3,nI 0] else some (.inr (.val [.bool true]))) [.sl 1 l_,nI 0]
theorem q2y (l_:LL):(x1o A Tryz.prog cs 30 [.d (.sl 1 l_)]).run E=g30 A E l_:=by kernel_rfl
def k0r (A:Sy)(E:Env)(e_0 e_1:Int)(e_2:ByteArray)(e_3:Int)(e_4 e_5:LL):Option PRes:=bif (A.ieq e_0 5)then x0q (bif (A.ieq e_3 1)then vB (A.ieq (A.rlen e_5) 1) else vB false) fun ds1=>zB A ds1 0 fun b2=>x0q (bif b2 then iT (A.inr 0 (A.rlen e_5)) <| zI A (A.row e_5 0) 0 fun n3=>vB (A.ieq n3 1) else vB false) fun ds4=>zB A ds4 0 fun b5=>vL [.bool b5] else x0q (bif (A.ieq e_0 1)then vB true else vB (A.ieq e_0 2)) fun ds6=>zB A ds6 0 fun b7=>x0q (bif b7 then vB true else vB (A.ieq e_0 4)) fun ds8=>zB A ds8 0 fun b9=>vL [.bool b9]
theorem w2t (e_0 e_1:Int)(e_2:ByteArray)(e_3:Int)(e_4 e_5:LL):(x1o A Tryz.prog cs 213 [.agg [.d (.int .i64 e_0), .d (.int .i64 e_1), .d (.str e_2), .d (.int .i64 e_3), .d (.sl 1 e_4), .d (.sl 6 e_5)]]).run E=k0r A E e_0 e_1 e_2 e_3 e_4 e_5:=by kernel_rfl
def g63 (a_ b_:LL):Option PRes:=bif (A.bnot (A.ieq (A.rlen a_) (A.rlen b_)))then vL [.bool false] else E.lp (fun ds1=>zL A ds1 0 1 fun l2=>zL A ds1 1 1 fun l3=>zI A ds1 2 fun n4=>bif (A.ilt n4 (A.rlen l2))then iT (A.inr n4 (A.rlen l2)) <| zS A (A.row l2 n4) 0 fun s5=>iT (A.inr n4 (A.rlen l3)) <| zS A (A.row l3 n4) 0 fun s6=>bif (A.bnot (A.seq s5 s6))then some (.inr (.val [.bool false])) else iL [.sl 1 l2, .sl 1 l3,nI (zW A (A.add n4 1))] else some (.inr (.val [.bool true]))) [.sl 1 a_, .sl 1 b_,nI 0]
theorem q2o (a_ b_:LL):(x1o A Tryz.prog cs 63 [.d (.sl 1 a_), .d (.sl 1 b_)]).run E=g63 A E a_ b_:=by kernel_rfl
def k1g (e_0 e_1:Int)(e_2:ByteArray)(e_3:Int)(e_4 e_5:LL):Option PRes:=zC E 207 [kE e_0 e_1 e_2 e_3 e_4 e_5] fun p1=>oQ A p1.leaves 0 fun b3 b4 b5 n6 n7 n8=>yB A p1 6 fun b9=>x0q (bif (A.bnot b9)then vB true else vB (A.bnot b3)) fun ds10=>zB A ds10 0 fun b11=>x0q (bif b11 then vB true else vB (A.bnot b4)) fun ds12=>zB A ds12 0 fun b13=>x0q (bif b13 then vB true else vB (A.bnot b5)) fun ds14=>zB A ds14 0 fun b15=>x0q (bif b15 then vB true else vB (A.ilt (A.rlen e_5) n6)) fun ds16=>zB A ds16 0 fun b17=>x0q (bif b17 then vB true else vB (A.ilt n7 (A.rlen e_5))) fun ds18=>zB A ds18 0 fun b19=>bif b19 then vL [.bool false] else x0q (bif (A.ilt n8 (A.rlen e_4))then vB true else bif (A.ilt 0 n8)then vB (A.ieq (A.rlen e_4) 0) else vB false) fun ds20=>zB A ds20 0 fun b21=>x0q (bif b21 then vB true else zC E 54 [.d (.sl 1 e_4)] fun p22=>yB A p22 0 fun b24=>vB (A.bnot b24)) fun ds25=>zB A ds25 0 fun b26=>bif b26 then vL [.bool false] else zC E 144 [.d (.sl 1 e_4), .fn 208 []] fun p27=>yB A p27 0 fun b29=>bif b29 then vL [.bool false] else x0q (bif (A.bnot (A.ieq e_0 8))then vB true else iT (A.inr 0 (A.rlen e_5)) <| oE A (A.row e_5 0) 0 fun n30 n31 s32 n33 l34 l35=>zC E 210 [kE n30 n31 s32 n33 l34 l35] fun p36=>yB A p36 0 fun b38=>vB b38) fun ds39=>zB A ds39 0 fun b40=>vL [.bool b40]
theorem w3i (e_0 e_1:Int)(e_2:ByteArray)(e_3:Int)(e_4 e_5:LL):(x1o A Tryz.prog cs 178 [.agg [.d (.int .i64 e_0), .d (.int .i64 e_1), .d (.str e_2), .d (.int .i64 e_3), .d (.sl 1 e_4), .d (.sl 6 e_5)]]).run E=k1g A E e_0 e_1 e_2 e_3 e_4 e_5:=by kernel_rfl
def k0t (e_0 e_1:Int)(e_2:ByteArray)(e_3:Int)(e_4 e_5:LL):Option PRes:=bif (A.bnot (A.ieq e_0 14))then zC E 231 [kE e_0 e_1 e_2 e_3 e_4 e_5] fun p1=>yB A p1 0 fun b3=>vL [.bool b3] else zC E 232 [.d (.sl 6 e_5), .fn 233 []] fun p4=>yB A p4 0 fun b6=>vL [.bool (A.bnot b6)]
theorem w2v (e_0 e_1:Int)(e_2:ByteArray)(e_3:Int)(e_4 e_5:LL):(x1o A Tryz.prog cs 210 [.agg [.d (.int .i64 e_0), .d (.int .i64 e_1), .d (.str e_2), .d (.int .i64 e_3), .d (.sl 1 e_4), .d (.sl 6 e_5)]]).run E=k0t A E e_0 e_1 e_2 e_3 e_4 e_5:=by kernel_rfl
def g54 (l_:LL):Option PRes:=E.lp (fun ds1=>zL A ds1 0 1 fun l2=>zI A ds1 1 fun n3=>zI A ds1 2 fun n4=>zL A ds1 3 2 fun l5=>bif (A.ilt n4 n3)then iT (A.inr n4 (A.rlen l2)) <| zS A (A.row l2 n4) 0 fun s6=>(opI (some (A.mval (nI 0) (.str s6) l5)) .i64).bind fun n7=>bif (A.ilt 0 n7)then some (.inr (.val [.bool false])) else (opI (some (A.mval (nI 0) (.str s6) l5)) .i64).bind fun n8=>iL [.sl 1 l2,nI n3,nI (zW A (A.add n4 1)), .sl 2 (A.mput (.str s6) (nI (zW A (A.add n8 1))) l5)] else some (.inr (.val [.bool true]))) [.sl 1 l_,nI (A.rlen l_),nI 0, .sl 2 []]
theorem q2r (l_:LL):(x1o A Tryz.prog cs 54 [.d (.sl 1 l_)]).run E=g54 A E l_:=by kernel_rfl
def k1i (e_0 e_1:Int)(e_2:ByteArray)(e_3:Int)(e_4 e_5:LL):Option PRes:=zC E 1000206 [.d (nI 0), .d (nI 2),kE e_0 e_1 e_2 e_3 e_4 e_5, .yld 0 (u5d 175), .agg [.any, .any, .any, .ptr 1 0, .any, .any, .any, .any, .any, .any], .fn 3 [.d (nI 0)]] fun p1=>yB A p1 0 fun b3=>bif b3 then yB A p1 1 fun b4=>yI A p1 2 fun n5=>yI A p1 3 fun n6=>vL [nI n5] else yB A p1 1 fun b7=>yI A p1 2 fun n8=>vL [nI n8]
theorem w3k (e_0 e_1:Int)(e_2:ByteArray)(e_3:Int)(e_4 e_5:LL):(x1o A Tryz.prog cs 175 [.agg [.d (.int .i64 e_0), .d (.int .i64 e_1), .d (.str e_2), .d (.int .i64 e_3), .d (.sl 1 e_4), .d (.sl 6 e_5)]]).run E=k1i A E e_0 e_1 e_2 e_3 e_4 e_5:=by kernel_rfl
def k1t (e_0 e_1:Int)(e_2:ByteArray)(e_3:Int)(e_4 e_5:LL):Option PRes:=zC E 175 [kE e_0 e_1 e_2 e_3 e_4 e_5] fun p1=>yI A p1 0 fun n3=>x0q (bif (A.ilt 60 n3)then vB true else zC E 176 [kE e_0 e_1 e_2 e_3 e_4 e_5] fun p4=>yI A p4 0 fun n6=>vB (A.ilt 12 n6)) fun ds7=>zB A ds7 0 fun b8=>bif b8 then vL [.bool false] else zC E 1000206 [.d (nI 0), .d (nI 2),kE e_0 e_1 e_2 e_3 e_4 e_5, .yld 0 (u5d 143), .agg [.any, .any, .ptr 1 0, .any, .any, .any, .any, .any, .any, .any, .any, .any, .any, .any, .any, .any, .any, .any], .fn 4 [.d (.bool false)]] fun p9=>yB A p9 0 fun b11=>bif b11 then yB A p9 1 fun b12=>yB A p9 2 fun b13=>vL [.bool b13] else yB A p9 1 fun b14=>yB A p9 2 fun b15=>vL [.bool true]
theorem w3v (e_0 e_1:Int)(e_2:ByteArray)(e_3:Int)(e_4 e_5:LL):(x1o A Tryz.prog cs 143 [.agg [.d (.int .i64 e_0), .d (.int .i64 e_1), .d (.str e_2), .d (.int .i64 e_3), .d (.sl 1 e_4), .d (.sl 6 e_5)]]).run E=k1t A E e_0 e_1 e_2 e_3 e_4 e_5:=by kernel_rfl
def u4m (k_ n_:Int)(s_:ByteArray)(o_:Int)(ar_ su_:LL)(m_:Int):Option PRes:=bif (A.bnot true)then vL [.bool false, .bool false,nI (zW A (A.add m_ 1))] else E.lp (fun ds1=>zL A ds1 0 6 fun l2=>zI A ds1 1 fun n3=>zI A ds1 2 fun n4=>zI A ds1 3 fun n5=>bif (A.ilt n4 n3)then iT (A.inr n4 (A.rlen l2)) <| oE A (A.row l2 n4) 0 fun n6 n7 s8 n9 l10 l11=>zC E 1000206 [.d (nI 0), .d (nI 2),kE n6 n7 s8 n9 l10 l11, .yld 0 (u5d 175), .agg [.any, .any, .any, .ptr 1 0, .any, .any, .any, .any, .any, .any], .fn 3 [.d (nI n5)]] fun p12=>yB A p12 0 fun b14=>bif b14 then yB A p12 1 fun b15=>yI A p12 2 fun n16=>yI A p12 3 fun n17=>iT (A.bnot b15) <| some (.inr (.val [.bool true, .bool false,nI n16,nI n17])) else yB A p12 1 fun b18=>yI A p12 2 fun n19=>bif (A.bnot b18)then some (.inr (.val [.bool false, .bool false,nI n19])) else iL [.sl 6 l2,nI n3,nI (zW A (A.add n4 1)),nI n19] else some (.inr (.val [.bool false, .bool true,nI n5]))) [.sl 6 su_,nI (A.rlen su_),nI 0,nI (zW A (A.add m_ 1))]
theorem u1j (k_ n_:Int)(s_:ByteArray)(o_:Int)(ar_ su_:LL)(m_:Int):(x3f A Tryz.prog cs 206 0 [.agg [.d (.int .i64 k_), .d (.int .i64 n_), .d (.str s_), .d (.int .i64 o_), .d (.sl 1 ar_), .d (.sl 6 su_)], .yld 0 (u5d 175)] [.cells (.rcd .ready) [.any, .any, .any, .ptr 1 0, .any, .any, .any, .any, .any, .any], .cells (.ty 3) [.d (.int .i64 m_)]]).run E=u4m A E k_ n_ s_ o_ ar_ su_ m_:=by kernel_rfl
def u4n (k_ n_:Int)(s_:ByteArray)(o_:Int)(ar_ su_:LL)(b_:Bool):Option PRes:=zC E 178 [kE k_ n_ s_ o_ ar_ su_] fun p1=>yB A p1 0 fun b3=>bif (A.bnot b3)then bif (A.bnot false)then vL [.bool true, .bool false, .bool false] else E.lp (fun ds4=>zL A ds4 0 6 fun l5=>zI A ds4 1 fun n6=>zI A ds4 2 fun n7=>zB A ds4 3 fun b8=>bif (A.ilt n7 n6)then iT (A.inr n7 (A.rlen l5)) <| oE A (A.row l5 n7) 0 fun n9 n10 s11 n12 l13 l14=>none else some (.inr (.val [.bool true, .bool true, .bool b8]))) [.sl 6 su_,nI (A.rlen su_),nI 0, .bool false] else bif (A.bnot true)then vL [.bool false, .bool false, .bool b_] else E.lp (fun ds15=>zL A ds15 0 6 fun l16=>zI A ds15 1 fun n17=>zI A ds15 2 fun n18=>zB A ds15 3 fun b19=>bif (A.ilt n18 n17)then iT (A.inr n18 (A.rlen l16)) <| oE A (A.row l16 n18) 0 fun n20 n21 s22 n23 l24 l25=>zC E 1000206 [.d (nI 0), .d (nI 2),kE n20 n21 s22 n23 l24 l25, .yld 0 (u5d 143), .agg [.any, .any, .ptr 1 0, .any, .any, .any, .any, .any, .any, .any, .any, .any, .any, .any, .any, .any, .any, .any], .fn 4 [.d (.bool b19)]] fun p26=>yB A p26 0 fun b28=>bif b28 then yB A p26 1 fun b29=>yB A p26 2 fun b30=>iT (A.bnot b29) <| some (.inr (.val [.bool true, .bool false, .bool b30])) else yB A p26 1 fun b31=>yB A p26 2 fun b32=>bif (A.bnot b31)then some (.inr (.val [.bool false, .bool false, .bool b32])) else iL [.sl 6 l16,nI n17,nI (zW A (A.add n18 1)), .bool b32] else some (.inr (.val [.bool false, .bool true, .bool b19]))) [.sl 6 su_,nI (A.rlen su_),nI 0, .bool b_]
theorem u1k (k_ n_:Int)(s_:ByteArray)(o_:Int)(ar_ su_:LL)(b_:Bool):(x3f A Tryz.prog cs 206 0 [.agg [.d (.int .i64 k_), .d (.int .i64 n_), .d (.str s_), .d (.int .i64 o_), .d (.sl 1 ar_), .d (.sl 6 su_)], .yld 0 (u5d 143)] [.cells (.rcd .ready) [.any, .any, .ptr 1 0, .any, .any, .any, .any, .any, .any, .any, .any, .any, .any, .any, .any, .any, .any, .any], .cells (.ty 4) [.d (.bool b_)]]).run E=u4n A E k_ n_ s_ o_ ar_ su_ b_:=by kernel_rfl
def k0w (l_:LL)(from_:Int):Option PRes:=zC E 1000228 (kP 285 l_ from_) fun p1=>yB A p1 0 fun b3=>bif b3 then yI A p1 1 fun n4=>oP A p1.leaves 2 fun l5 n6=>vL [nI 0,nI 0, .str (bs []),nI 0, .sl 1 [], .sl 6 [],nI n4, .bool false] else oE A p1.leaves 1 fun n7 n8 s9 n10 l11 l12=>oP A p1.leaves 7 fun l13 n14=>vL [nI n7,nI n8, .str s9,nI n10, .sl 1 l11, .sl 6 l12,nI n14, .bool true]
theorem w2y (l_:LL)(from_:Int):(x1o A Tryz.prog cs 204 [.d (.sl 4 l_), .d (.int .i64 from_)]).run E=k0w A E l_ from_:=by kernel_rfl
def z3q (A:Sy)(E:Env)(s:LL):Option PRes:=E.lp (fun ds1=>zL A ds1 0 1 fun l2=>zI A ds1 1 fun n3=>zI A ds1 2 fun n4=>bif (A.ilt n4 n3)then iT (A.inr n4 (A.rlen l2)) <| zS A (A.row l2 n4) 0 fun s5=>zC E 208 [.d (.str s5)] fun p6=>yB A p6 0 fun b8=>bif b8 then some (.inr (.val [.bool (A.ile 0 n4)])) else iL [.sl 1 l2,nI n3,nI (zW A (A.add n4 1))] else some (.inr (.val [.bool (A.ile 0 (-1))]))) [.sl 1 s,nI (A.rlen s),nI 0]
theorem y8v (A:Sy)(E:Env)(s:LL):(x1o A Tryz.prog cs 144 [.d (.sl 1 s), .fn 208 []]).run E=z3q A E s:=by kernel_rfl
def k0v (s_:ByteArray):Option PRes:=zC E 209 [.d (.str s_)] fun p1=>yB A p1 0 fun b3=>vL [.bool (A.bnot b3)]
theorem w2x (s_:ByteArray):(x1o A Tryz.prog cs 208 [.d (.str s_)]).run E=k0v A E s_:=by kernel_rfl
def u3i (A:Sy)(E:Env)(s:LL):Option PRes:=zC E 244 [.d (.sl 6 s), .fn 233 []] fun p1=>yI A p1 0 fun n3=>vL [.bool (A.ile 0 n3)]
theorem u0q (A:Sy)(E:Env)(s:LL):(x1o A Tryz.prog cs 232 [.d (.sl 6 s), .fn 233 []]).run E=u3i A E s:=by kernel_rfl
def z3o (A:Sy)(E:Env)(s:LL):Option PRes:=E.lp (fun ds1=>zL A ds1 0 6 fun l2=>zI A ds1 1 fun n3=>zI A ds1 2 fun n4=>bif (A.ilt n4 n3)then iT (A.inr n4 (A.rlen l2)) <| oE A (A.row l2 n4) 0 fun n5 n6 s7 n8 l9 l10=>zC E 233 [kE n5 n6 s7 n8 l9 l10] fun p11=>yB A p11 0 fun b13=>bif b13 then some (.inr (.val [nI n4])) else iL [.sl 6 l2,nI n3,nI (zW A (A.add n4 1))] else some (.inr (.val [nI (-1)]))) [.sl 6 s,nI (A.rlen s),nI 0]
theorem y8u (A:Sy)(E:Env)(s:LL):(x1o A Tryz.prog cs 244 [.d (.sl 6 s), .fn 233 []]).run E=z3o A E s:=by kernel_rfl
def k0l (x_0 x_1:Int)(x_2:ByteArray)(x_3:Int)(x_4 x_5:LL):Option PRes:=zC E 231 [kE x_0 x_1 x_2 x_3 x_4 x_5] fun p1=>yB A p1 0 fun b3=>vL [.bool (A.bnot b3)]
theorem w2n (x_0 x_1:Int)(x_2:ByteArray)(x_3:Int)(x_4 x_5:LL):(x1o A Tryz.prog cs 233 [.agg [.d (.int .i64 x_0), .d (.int .i64 x_1), .d (.str x_2), .d (.int .i64 x_3), .d (.sl 1 x_4), .d (.sl 6 x_5)]]).run E=k0l A E x_0 x_1 x_2 x_3 x_4 x_5:=by kernel_rfl
def k0y (l_:LL)(at_:Int):Option PRes:=zC E 203 [.d (.sl 4 l_), .d (nI at_)] fun p1=>yB A p1 0 fun b3=>bif (A.bnot b3)then vL [.str (bs []), .str (bs []),nI 0, .bool false] else zC E 226 [.d (.sl 4 l_), .d (nI at_)] fun p4=>yS A p4 0 fun s6=>yS A p4 1 fun s7=>yI A p4 2 fun n8=>yB A p4 3 fun b9=>bif (A.bnot b9)then vL [.str (bs []), .str (bs []),nI n8, .bool false] else vL [.str s6, .str s7,nI n8, .bool true]
theorem w3a (l_:LL)(at_:Int):(x1o A Tryz.prog cs 202 [.d (.sl 4 l_), .d (.int .i64 at_)]).run E=k0y A E l_ at_:=by kernel_rfl
def k0p (l_:LL)(from_:Int):Option PRes:=zC E 1000241 (kP 285 l_ from_) fun p1=>yB A p1 0 fun b3=>bif b3 then yI A p1 1 fun n4=>oP A p1.leaves 2 fun l5 n6=>vL [.str (bs []), .str (bs []),nI n4, .bool false] else yS A p1 1 fun s7=>yS A p1 2 fun s8=>oP A p1.leaves 3 fun l9 n10=>vL [.str s7, .str s8,nI n10, .bool true]
theorem w2r (l_:LL)(from_:Int):(x1o A Tryz.prog cs 226 [.d (.sl 4 l_), .d (.int .i64 from_)]).run E=k0p A E l_ from_:=by kernel_rfl
end
end Go.Vm
end
