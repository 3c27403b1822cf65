/- Part GD of the proof. What is proved by the whole: the statement that the claim names, with no condition. -/
import Derived.Test.YtnppfpelgmmanaaGC
set_option linter.all false
section
namespace Go.Vm
structure CfgO where
 inl:List FuncId
 mint:List FuncId
 osl:List Nat:=[]
 dead:List FuncId:=[]
 own:List (Nat × List (Nat × TypeId)):=[]
 stop:List Nat:=[]
def panV (p:V):V:= .tup [.tup [],p]
def panOf:V→Option V
 | .tup [.tup [],p]=>some p
 |_=>none
inductive Callee where
 |fn (f:FuncId)
 |yld (b:Nat) (R:RecI)
section
variable (A : Sy) (P : Program)
def appendT (h:List Box)(t:TypeId)(a b:V):Tree (List Nat × List Box × V):=
 match elT P t with
 |some (e,sz,by_,z)=>match decide (z.cells.size=sz),decide (0 < sz),rowsV h sz b with
  |true,true,some news=>match a with
   | .own c=>match h[c]? with
     |some (.arr e' sz' rows)=>match decide (e'=e),decide (sz'=sz)with
      |true,true=>chk (A.fits rows news by_) (.ret ([c],(h.map (Box.kill [c])).set c (.arr e sz (A.rapp rows news)), .own c))
      |_,_=> .fail
     |_=> .fail
   | .nils=>chk (A.fits [] news by_) (.ret ([],h++[.arr e sz news], .own h.length))
   |_=> .fail
  |_,_,_=> .fail
 |none=> .fail
def storeT (h:List Box)(t:TypeId)(a v:V):Tree (List Box):=
 match v.cellsV,v.liveC h with
 |some ns,true=>match a with
  | .ptr b off=>match h[b]? with
    |some (.cells (.ty bt) vs)=>match ns.all (V.oneB h),decide (szO P t=some ns.length),decide (off+ns.length≤vs.length)with
     |true,true,true=> .ret (h.set b (.cells (.ty bt) (vs.take off++ns++vs.drop (off+ns.length))))
     |_,_,_=> .fail
    |_=> .fail
  | .pml b sz i off=>match h[b]?,shOf P 9 t with
    |some (.arr e sz' rows),some ss=>match decide (sz'=sz),toDs ss ns with
     |true,some ds=>match decide (szO P t=some ds.length),decide (off+ds.length≤sz)with
      |true,true=>chk (A.inrn i rows) (.ret (h.set b (.arr e sz (A.rput rows i off ds))))
      |_,_=> .fail
     |_,_=> .fail
    |_,_=> .fail
  |_=> .fail
 |_,_=> .fail
def isZ:Operand→Bool
 | .const (.int _ n)=>decide (n=0)
 |_=>false
def makeT (h:List Box)(t:TypeId)(z0:Bool)(a b:V):Tree (List Box × V):=
 match elT P t,a,b with
 |some (e,sz,by_,z), .d (.int _ n), .d (.int _ m)=>match z0 with
  |true=>chk (A.ieq n 0) (chk (A.mkok0 m by_) (.ret (h++[.arr e sz []], .own h.length)))
  |false=>match shOf P 9 e with
   |some ss=>match zeroOK ss z.cells.toList,decide (ss.length=sz)with
    |true,true=>chk (A.mkok n m by_) (.ret (h++[.arr e sz (A.rep n (ss.map zeroD))], .own h.length))
    |_,_=> .fail
   |none=> .fail
 |_,_,_=> .fail
def putT (h:List Box)(t:TypeId)(a q v:V):Tree (List Box):=
 match mapO P t,a,q with
 |some (e,kk), .map b, .d k=>match h[b]?,shOf P 9 e,kk.fitsB k with
  |some (.mp kk' rows),some [s],true=>match decide (kk'=kk),v.toD s with
   |true,some x=> .ret (h.set b (.mp kk (A.mput k x rows)))
   |_,_=> .fail
  |_,_,_=> .fail
 |_,_,_=> .fail
def delT (h:List Box)(t:TypeId)(a q:V):Tree (List Box):=
 match mapO P t,a,q with
 |some (_,kk), .map b, .d k=>match h[b]?,kk.fitsB k with
  |some (.mp kk' rows),true=>match decide (kk'=kk)with
   |true=> .ret (h.set b (.mp kk (A.mdel k rows)))
   |_=> .fail
  |_,_=> .fail
 |_,_,_=> .fail
def appzT (h:List Box)(t tn:TypeId)(a b:V):Tree (List Box × V):=
 match elT P t,P.underlying tn,a,b with
 |some (e,sz,by_,z),some (.int _), .nils, .d (.int _ n)=>match shOf P 9 e with
  |some ss=>match zeroOK ss z.cells.toList,decide (ss.length=sz),decide (0 < sz)with
   |true,true,true=>chk (A.mkz n by_) (.ret (h++[.arr e sz (A.rep n (ss.map zeroD))], .own h.length))
   |_,_,_=> .fail
  |none=> .fail
 |_,_,_,_=> .fail
def headT (h:List Box)(t:TypeId)(a:V)(hi:Option V):Tree (List Nat × List Box × V):=
 match a with
 | .own b=>match h[b]? with
   |some (.arr e' sz rows)=>match elO P t,bndV (A.rlen rows) hi with
    |some (_,sz'),some r=>match decide (sz'=sz)with
     |true=>chk (A.cutok 0 r (A.rlen rows)) (.ret ([b],(h.map (Box.kill [b])).set b (.arr e' sz (A.head rows r)), .own b))
     |false=> .fail
    |_,_=> .fail
   |_=> .fail
 |_=> .fail
def rangeT (h:List Box)(t:TypeId)(v:V):Tree (List Box × V):=match P.underlying t,v with
 |some .string, .d (.str s)=> .ret (h++[.cells .sit [.d (.str s), .d (.int .i64 0)]], .ptr h.length 0)
 |_,_=> .fail
def nextT (h:List Box)(v:V)(isS:Bool):Tree (List Box × V):=match v,isS with
 | .ptr b 0,true=>match h[b]? with
   |some (.cells .sit [.d (.str s), .d (.int .i64 p)])=> .ite (A.ilt p (A.slen s))
     (.ret (h.set b (.cells .sit [.d (.str s), .d (.int .i64 (A.add p (A.rwid s p)))]), .tup [.d (.bool true), .d (.int .i64 p), .d (.int .i32 (A.rdec s p))]))
     (.ret (h, .tup [.d (.bool false)]))
   |_=> .fail
 |_,_=> .fail
def oslT (h:List Box)(t:TypeId)(v:V)(lo hi:Option V):Tree V:=match v with
 | .own b=>match h[b]? with
   |some (.arr _ sz rows)=>match elO P t,bndV 0 lo,bndV (A.rlen rows) hi with
    |some (_,sz'),some l,some r=>match decide (sz'=sz)with
     |true=>chk (A.cutok l r (A.rlen rows)) (.ret (.osl b sz l (A.sub r l)))
     |false=> .fail
    |_,_,_=> .fail
   |_=> .fail
 |_=> .fail
def dstT (h:List Box):V→Option (Nat × Int × Int)
 | .own b=>match h[b]? with
   |some (.arr _ 1 rows)=>some (b,0,A.rlen rows)
   |_=>none
 | .osl b 1 lo n=>some (b,lo,n)
 |_=>none
def copyT (h:List Box)(t:TypeId)(v w:V):Tree (List Box × V):=match elO P t,dstT A h v,rowsV h 1 w with
 |some (_,1),some (b,lo,n),some news=>match h[b]? with
  |some (.arr e' 1 rows)=>chk (A.cutok lo (A.add lo n) (A.rlen rows)) (.ret (h.set b (.arr e' 1 (A.rcopy rows lo n news)), .d (.int .i64 (A.imin n (A.rlen news)))))
  |_=> .fail
 |_,_,_=> .fail
def clearT (h:List Box)(t:TypeId)(v:V):Tree (List Box × V):=match elT P t,v with
 |some (e,1,_,z), .osl b 1 lo n=>match h[b]?,shOf P 9 e with
  |some (.arr e' 1 rows),some [s]=>match zeroOK [s] z.cells.toList with
   |true=>chk (A.cutok lo (A.add lo n) (A.rlen rows)) (.ret (h.set b (.arr e' 1 (A.rcopy rows lo n (A.rep n [zeroD s]))), .tup []))
   |false=> .fail
  |_,_=> .fail
 |_,_=> .fail
def plainT (h:List Box)(ρ:Operand→V)(o:Oper):Tree (List Nat × List Box × V):=(opPT A P h ρ o).bind fun x=> .ret ([],h,x)
def opT (h:List Box)(ρ:Operand→V)(o:Oper):Tree (List Nat × List Box × V):=
 match o.op with
 | .assign y=>match ρ y with
   | .nils=>match elO P o.type with
     |some (e,sz)=> .ret ([],h++[.arr e sz []], .own h.length)
     |none=> .ret ([],h, .nils)
   |v=> .ret ([],h,v)
 | .box t y=>match (ρ y).cellsV,(ρ y).liveC h with
   |some vs,true=> .ret ([],h++[.cells (.ty t) vs], .ptr h.length 0)
   |_,_=> .fail
 | .alloc t=>match zeroO P t with
   |some z=>match (ofConst z).cellsV with
    |some vs=> .ret ([],h++[.cells (.ty t) vs], .ptr h.length 0)
    |none=> .fail
   |none=> .fail
 | .store t y z=>(storeT A P h t (ρ y) (ρ z)).bind fun h'=> .ret ([],h', .any)
 | .makeSlice t y z=>(makeT A P h t (isZ y) (ρ y) (ρ z)).bind fun r=> .ret ([],r.1,r.2)
 | .makeMap t r=>match r,mapO P t with
   |none,some (_,kk)=> .ret ([],h++[.mp kk []], .map h.length)
   |_,_=> .fail
 | .mapUpdate t y z r=>(putT A P h t (ρ y) (ρ z) (ρ r)).bind fun h'=> .ret ([],h', .any)
 | .insert t y z r=>(putT A P h t (ρ y) (ρ z) (ρ r)).bind fun h'=> .ret ([],h', .any)
 | .buildSlice t n parts=>match litV P t n (parts.toList.map fun q=>(q.1,ρ q.2)),(parts.toList.all fun q=>(ρ q.2).liveC h)with
   |some (e,sz,vs),true=>match shOf P 9 e with
    |some ss=>match rowsOf ss sz n vs,decide (n≤16777216)with
     |some rows,true=> .ret ([],h++[.arr e sz rows], .own h.length)
     |_,_=> .fail
    |none=> .fail
   |_,_=> .fail
 | .call c=>match c with
   |⟨.builtin .append,⟨[y,z]⟩,⟨[t,t']⟩⟩=>match decide (t'=t)with
    |true=>appendT A P h t (ρ y) (ρ z)
    |false=>(appzT A P h t t' (ρ y) (ρ z)).bind fun r=> .ret ([],r.1,r.2)
   |⟨.builtin .delete,⟨[y,z]⟩,⟨[t,_]⟩⟩=>(delT A P h t (ρ y) (ρ z)).bind fun h'=> .ret ([],h', .any)
   |⟨.builtin .clear,⟨[y]⟩,⟨[t]⟩⟩=>(clearT A P h t (ρ y)).bind fun r=> .ret ([],r.1,r.2)
   |⟨.builtin .copy,⟨[y,z]⟩,⟨[t,_]⟩⟩=>(copyT A P h t (ρ y) (ρ z)).bind fun r=> .ret ([],r.1,r.2)
   |_=>plainT A P h ρ o
 | .range t y=>(rangeT P h t (ρ y)).bind fun r=> .ret ([],r.1,r.2)
 | .next i s=>(nextT A h (ρ i) s).bind fun r=> .ret ([],r.1,r.2)
 | .slice t y lo hi mx=>match ρ y,lo,mx with
   | .own _,none,none=>headT A P h t (ρ y) (hi.map ρ)
   |_,_,_=>plainT A P h ρ o
 |_=>plainT A P h ρ o
def mkVs:List TypeId→List D→Option (List V)
 | [],[]=>some []
 | [],_::_=>none
 |t::ts,ds=>match shOf P 9 t,aggB P t with
  |some ss,true=>match decide (ss.length≤ds.length),mkVs ts (ds.drop ss.length)with
   |true,some vs=>some (.agg ((ds.take ss.length).map .d)::vs)
   |_,_=>none
  |some [_],false=>match ds with
   |d::ds=>match mkVs ts ds with
    |some vs=>some (.d d::vs)
    |none=>none
   | []=>none
  |_,_=>none
def mkV (ts:List TypeId)(ds:List D):Option V:=match mkVs P ts ds with
 |some [v]=>some v
 |some vs=>some (.tup vs)
 |none=>none
def shR:List TypeId→Option (List Sh)
 | []=>some []
 |t::ts=>match shOf P 9 t,shR ts with
  |some a,some b=>some (a++b)
  |_,_=>none
def Sh.flat:Sh→Bool
 | .sl _=>false
 |_=>true
def kvT (f:FuncId)(vs:List V):Tree V:=match Nat.beq f gP,vs with
 |true,[.d (.str s), .d (.int .i64 a), .d (.int .i64 b)]=>match decide (a=10∧b=64)with
  |true=>chk (A.ile (A.slen s) 1000000) (.ret (.tup [.d (.int .i64 (A.pnum s)), .ifn (A.pok s)]))
  |false=> .fail
 |_,_=> .fail
def KV (P:Program):Prop:=(sigP P gP).isSome=true→ ∀s:ByteArray,s.size≤1000000→PCall P gP [.d (.str s), .d (.int .i64 10), .d (.int .i64 64)] (.tup [.d (.int .i64 (pnumI s)), .ifn (pokB s)])
def callT (f:FuncId)(vs:List V)(ts:List TypeId):Tree V:=match shR P ts with
 |some ss=> .call f vs fun ds=>(openRT A ss ds 0).bind fun xs=>match mkV P ts xs with
  |some v=> .ret v
  |none=> .fail
 |none=>kvT A f vs
def out1 (t:TypeId)(v:V):Option (List D):=match shOf P 9 t,aggB P t,v with
 |some ss,true, .agg cs=>toDs ss cs
 |some [s],false,v=>match v.toD s with
  |some x=>some [x]
  |none=>none
 |_,_,_=>none
def can1 (t:TypeId)(v:V):V:=match out1 P t v,aggB P t with
 |some ds,true=> .agg (ds.map .d)
 |some [d],false=> .d d
 |_,_=>v
def canL:List TypeId→List V→List V
 |t::ts,v::vs=>can1 P t v::canL ts vs
 |_,vs=>vs
def parP (f:FuncId):List TypeId:=match gG.contains f with
 |true=>[]
 |false=>match P.funcs[f]? with
  |some fn=>fn.params.toList
  |none=>[]
def callOf (P:Program)(ρ:Operand→V)(o:Oper):Option (FuncId × List V):=match o.op with
 | .call ⟨.value y,args,_⟩=>match bindV (match y with
   | .func f=> .fn f []
   |y=>ρ y) (args.toList.map ρ)with
   |some (f,vs)=>match extO P f with
    |none=>some (f,vs)
    |some _=>none
   |none=>none
 |_=>none
def yldOf (ρ:Operand→V)(o:Oper):Option (Nat × RecI × List V):=match o.op with
 | .call ⟨.value y,args,_⟩=>match ρ y with
   | .yld b R=>some (b,R,args.toList.map ρ)
   |_=>none
 |_=>none
variable (ent : Callee → List V → List Box → Tree (List Nat × V × List Box)) (C : CfgO) (n0 : Nat) (M0 : List Nat)
def pureCallT (s:VSt)(o:Oper)(f:FuncId):Tree VSt:=
 let s1:=s.frz (fzl s o)
 match callOf P s1.get o,sigP P f with
 |some (_,vs0),some ts=>match canL P (parP P f) vs0 with
  |vs=>match vs.all V.pureB with
  |true=>match C.mint.contains f with
   |true=>match ts with
    | [t]=>match elO P t with
      |some (e,sz)=> .mint f vs e sz fun rows=> .ret (s1.next [] (s1.h++[.arr e sz rows]) o.dst (.own s1.h.length))
      |none=> .fail
    |_=> .fail
   |false=>match shR P ts with
    |some ss=>match ss.all Sh.flat with
     |true=>(callT A P f vs ts).bind fun v=> .ret (s.next [] s.h o.dst v)
     |false=>(callT A P f vs ts).bind fun v=> .ret (s1.next [] s1.h o.dst v)
    |none=>(callT A P f vs ts).bind fun v=> .ret (s1.next [] s1.h o.dst v)
  |false=> .fail
 |_,_=> .fail
def stepT1 (s:VSt)(o:Oper):Tree (Option V × VSt):=match callOf P s.get o with
 |some (f,vs)=>match C.inl.contains f,sigP P f with
  |true,some _=>(ent (.fn f) vs s.h).bind fun r=>match okM n0 M0 r.1 with
   |true=>match panOf r.2.1 with
    |none=> .ret (none,s.next r.1 r.2.2 o.dst r.2.1)
    |some p=> .ret (some p,s.next r.1 r.2.2 none .any)
   |false=> .fail
  |_,_=>(pureCallT A P C s o f).bind fun s'=> .ret (none,s')
 |none=>match o.op with
  | .panic y=>match s.get y with
    | .ifc t cs=> .ret (some (.ifc t cs),s)
    |_=> .fail
  |_=>
   let s1:=s.frz (fzl s o)
   (opT A P s1.h s1.get o).bind fun r=>match okM n0 M0 r.1 with
    |true=> .ret (none,s1.next r.1 r.2.1 o.dst r.2.2)
    |false=> .fail
def stepT (s:VSt)(o:Oper):Tree (Option V × VSt):=match noDef o,yldOf s.get o with
 |true,some (b,R,vs)=>(ent (.yld b R) vs s.h).bind fun r=>match okM n0 M0 r.1 with
  |true=> .ret (none,s.next r.1 r.2.2 o.dst r.2.1)
  |false=> .fail
 |true,none=>match o.op,o.dst with
  | .slice t y lo hi none,some d=>match C.osl.contains d with
    |true=>(oslT A P s.h t (s.get y) (lo.map s.get) (hi.map s.get)).bind fun x=> .ret (none,s.next [] s.h o.dst x)
    |false=>stepT1 A P ent C n0 M0 s o
  |_,_=>match callOf P s.get o with
   |some (f,_)=>match C.dead.contains f with
    |true=> .fail
    |false=>stepT1 A P ent C n0 M0 s o
   |none=>stepT1 A P ent C n0 M0 s o
 |false,_=> .fail
def mintB (P:Program):VSt→List (Nat × Nat × TypeId)→VSt
 |s,[]=>s
 |s,(b,off,t)::l=>match s.h[b]?,elO P t with
  |some (.cells k vs),some (e,sz)=>match vs[off]? with
   |some .nils=>mintB P ⟨s.t,(s.h.set b (.cells k (vs.set off (.own s.h.length))))++[.arr e sz []]⟩ l
   |_=>mintB P s l
  |none,some (e,sz)=>match s.t[off]? with
   |some .nils=>mintB P ⟨s.t.set off (.own s.h.length),s.h++[.arr e sz []]⟩ l
   |_=>mintB P s l
  |_,_=>mintB P s l
def mintP (P:Program):VSt→List (Nat × Nat × Nat × Nat × TypeId)→VSt
 |s,[]=>s
 |s,(b,off,b2,off2,t)::l=>match s.h[b]?,s.h[b2]?,elO P t,decide (b=b2)with
  |some (.cells k vs),some (.cells k2 vs2),some (e,sz),false=>match vs[off]?,vs2[off2]? with
   |some .nils,some .nils=>mintP P ⟨s.t,((s.h.set b (.cells k (vs.set off (.own s.h.length)))).set b2 (.cells k2 (vs2.set off2 (.own s.h.length))))++[.arr e sz []]⟩ l
   |_,_=>mintP P s l
  |_,_,_,_=>mintP P s l
def datV (P:Program)(t:TypeId):V→Option V
 | .nils=>match elO P t with
   |some (_,sz)=>some (.d (.sl sz []))
   |none=>none
 | .ifn true=>match shOf P 9 t with
   |some ss=>some (.ifo t true (ss.map zeroD))
   |none=>none
 |_=>none
def datB (P:Program):VSt→List (Nat × Nat × TypeId)→VSt
 |s,[]=>s
 |s,(b,off,t)::l=>match s.h[b]? with
  |some (.cells k vs)=>match vs[off]? with
   |some (.own c)=>datB P (s.frz [c]) l
   |some v=>match datV P t v with
    |some x=>datB P ⟨s.t,s.h.set b (.cells k (vs.set off x))⟩ l
    |none=>datB P s l
   |none=>datB P s l
  |none=>match s.t[off]? with
   |some (.own c)=>datB P (s.frz [c]) l
   |some v=>match datV P t v with
    |some x=>datB P ⟨s.t.set off x,s.h⟩ l
    |none=>datB P s l
   |none=>datB P s l
  |_=>datB P s l
def ownAt (s:VSt)(o:Oper):List (Nat × Nat × TypeId):=match o.dst with
 |some d=>match C.own.lookup d with
  |some l=>l.map fun q=>(s.h.length,q.1,q.2)
  |none=>[]
 |none=>[]
def forceD.{v}{β:Type v}(x:D)(K:D→β):β:=match x with
 | .int k n=>K (.int k n)
 | .bool b=>K (.bool b)
 | .str s=>K (.str s)
 | .sl sz rows=>K (.sl sz rows)
def forceV.{v}{β:Type v}(x:V)(K:V→β):β:=match x with
 | .any=>K .any
 | .nils=>K .nils
 | .d x=>forceD x fun x=>K (.d x)
 | .agg cs=>K (.agg cs)
 | .tup cs=>K (.tup cs)
 | .own b=>K (.own b)
 | .ptr b off=>K (.ptr b off)
 | .mv f b off=>K (.mv f b off)
 | .ifp f b off=>K (.ifp f b off)
 | .pel cs=>K (.pel cs)
 | .pml b sz i off=>K (.pml b sz i off)
 | .nilp=>K .nilp
 | .fn f cs=>K (.fn f cs)
 | .nilf=>K .nilf
 | .ifn b=>K (.ifn b)
 | .ifc t cs=>K (.ifc t cs)
 | .ifo t b cs=>K (.ifo t b cs)
 | .map b=>K (.map b)
 | .yld b R=>K (.yld b R)
 | .osl b s l n=>K (.osl b s l n)
def forceL.{v}{β:Type v}:List V→(List V→β)→β
 | [],K=>K []
 |v::vs,K=>forceV v fun v'=>forceL vs fun vs'=>K (v'::vs')
def forceB.{v}{β:Type v}(x:Box)(K:Box→β):β:=match x with
 | .gone=>K .gone
 | .mp kk rows=>K (.mp kk rows)
 | .cells t vs=>forceL vs fun vs'=>K (.cells t vs')
 | .arr e sz rows=>K (.arr e sz rows)
def forceH.{v}{β:Type v}:List Box→(List Box→β)→β
 | [],K=>K []
 |v::vs,K=>forceB v fun v'=>forceH vs fun vs'=>K (v'::vs')
def forceSp.{u,v}{α:Type u}{β:Type v}:List α→(List α→β)→β
 | [],K=>K []
 |v::vs,K=>forceSp vs fun vs'=>K (v::vs')
def forceS {β:Type}(s:VSt)(K:VSt→Tree β):Tree β:=forceL s.t fun t=>forceH s.h fun h=>K ⟨t,h⟩
def segOp (o:Oper):Bool:=match o.op with
 | .move _=>true
 | .pick .. =>true
 | .load .. =>true
 | .fieldAddr .. =>true
 | .indexAddr .. =>true
 | .index .. =>true
 | .binOp .. =>true
 | .unOp .. =>true
 | .convert .. =>true
 | .extract .. =>true
 | .nilCheck _=>true
 | .lookup .. =>true
 | .call ⟨.builtin .len,_,_⟩=>true
 | .call ⟨.builtin .max,_,_⟩=>true
 | .call ⟨.builtin .min,_,_⟩=>true
 | .call ⟨.value (.func f),_,_⟩=>match C.inl.contains f,sigP P f with
   |false,some ts=>match shR P ts with
    |some ss=>ss.all Sh.flat
    |none=>false
   |_,_=>false
 |_=>false
def segFind (d:Nat):List Oper→Option Nat
 | []=>none
 |o::os=>match segOp P C o with
  |true=>match o.op,o.guard,o.dst with
   | .pick (.tmp d') _ _,none,some _=>match decide (d'=d)with
     |true=>some 1
     |false=>(segFind d os).map (· +1)
   |_,_,_=>(segFind d os).map (· +1)
  |false=>none
def segOf (ops:Array Oper)(o:Oper)(os:List Oper):Option Nat:=match o.dst,o.guard,os with
 |some d,none,o2::_=>match o2.guard with
  |some (j,_)=>match decide (j+(os.length+1)=ops.size)with
   |true=>segFind P C d os
   |false=>none
  |none=>none
 |_,_,_=>none
def segStepT (s:VSt)(o:Oper):Tree V:=match noDef o with
 |false=> .fail
 |true=>match callOf P s.get o with
 |some (f,_)=>match callOf P (s.frz (fzl s o)).get o,sigP P f with
  |some (_,vs0),some ts=>match canL P (parP P f) vs0 with
   |vs=>match vs.all V.pureB,shR P ts with
    |true,some ss=>match ss.all Sh.flat with
     |true=>callT A P f vs ts
     |false=> .fail
    |_,_=> .fail
  |_,_=> .fail
 |none=>opPT A P s.h s.get o
def segT (ops:Array Oper):List Oper→VSt→Tree VSt
 | [],s=> .ret s
 |o::os,s=>
  let exec:VSt→Tree VSt:=fun s=>(segStepT A P s o).bind fun x=>forceS (s.next [] s.h o.dst x) (segT ops os)
  let pass:VSt→Tree VSt:=fun s=>forceS (s.next [] s.h o.dst (.tup [])) (segT ops os)
  match o.guard with
  |none=>exec s
  |some (j,want)=>match (ops[j]?).bind (·.dst)with
   |some t=>match s.t[t]? with
    |some (.d (.bool c))=>match want with
     |true=> .ite c (exec (s.setT t true)) (pass (s.setT t false))
     |false=> .ite c (pass (s.setT t true)) (exec (s.setT t false))
    |some (.tup [])=>pass s
    |_=> .fail
   |none=> .fail
def anyAll (t:List V):List Oper→List V
 | []=>t
 |o::os=>anyAll (match o.dst with
  |some d=>t.set d .any
  |none=>t) os
def lastDst (d:Nat):List Oper→Nat
 | []=>d
 |o::os=>lastDst (o.dst.getD d) os
def opsT (ops:Array Oper):Nat→List Oper→VSt→Tree (Option V × VSt)
 |_,[],s=> .ret (none,s)
 |k+1,_::os,s=>opsT ops k os s
 |0,o::os,s=>
  let exec:VSt→Tree (Option V × VSt):=fun s=>(stepT A P ent C n0 M0 s o).bind fun q=>match q.1 with
   |some p=> .ret (some p,q.2)
   |none=>forceS (mintB P q.2 (ownAt C s o)) fun s'=>match segOf P C ops o os with
    |some L=> .cut ((segT A P ops (os.take L) s').bind fun s2=>match s2.t[lastDst 0 (os.take L)]? with
      |some (.d (.bool b))=> .ret (.inl [.bool b])
      |_=> .fail) fun ds=> .cB (A.cell ds 0) fun b=>forceS ⟨(anyAll s'.t (os.take L)).set (lastDst 0 (os.take L)) (.d (.bool b)),s'.h⟩ (opsT ops L os)
    |none=>opsT ops 0 os s'
  let pass:VSt→Tree (Option V × VSt):=fun s=>forceS (s.next [] s.h o.dst (.tup [])) (opsT ops 0 os)
  match o.guard with
  |none=>exec s
  |some (j,want)=>match (ops[j]?).bind (·.dst)with
   |some t=>match s.t[t]? with
    |some (.d (.bool c))=>match want with
     |true=> .ite c (exec (s.setT t true)) (pass (s.setT t false))
     |false=> .ite c (pass (s.setT t true)) (exec (s.setT t false))
    |some (.tup [])=>pass s
    |_=> .fail
   |none=> .fail
end
section
variable {P : Program} {M : List Nat} {h h' h2 : List Box} {ρ : Operand → V} {o : Oper} {x : V} {E : Env} {r : List Nat × List Box × V}
theorem fits_prop {a b:List (List D)}{k:Nat}(h:sy.fits a b k=true):(a.length+b.length)≤maxLen∧(a.length+b.length)*k≤140737488355328:=by
 have h:(a.length+b.length)*(k+1)≤140737488355328:=of_decide_eq_true h
 have h1:(a.length+b.length)*k≤(a.length+b.length)*(k+1):=Nat.mul_le_mul_left _ (by omega)
 have h2:(a.length+b.length)≤(a.length+b.length)*(k+1):=Nat.le_mul_of_pos_right _ (by omega)
 exact⟨by simp only [maxLen];omega,by omega⟩
theorem appendT_sound {y z:Operand}{ts:Array TypeId}{t:TypeId}(hop:o.op= .call { callee:= .builtin .append,args:= #[y,z],argTypes:=ts })(hts:ts= #[t,t])
  (hk:(appendT sy P h t (ρ y) (ρ z)).run E=some r):Gives P r.1 h r.2.1 ρ o r.2.2:=by
 unfold appendT at hk
 split at hk
 ·rename_i e sz by_ zv hel
  split at hk
  ·rename_i news hc1 hc2 hrows
   have hc1:=of_decide_eq_true hc1
   have hc2:=of_decide_eq_true hc2
   split at hk
   ·rename_i c hy
    split at hk
    ·rename_i e' sz' rows hb
     split at hk
     ·rename_i q1 q2
      have q1:=of_decide_eq_true q1
      have q2:=of_decide_eq_true q2
      subst q1;subst q2
      obtain⟨hf,hk⟩:=chk_some hk
      cases hk
      obtain⟨b1,b2⟩:=fits_prop hf
      exact gives_append hop hts hel hc1 hc2 hy hb hrows b1 b2
     ·cases hk
    ·cases hk
   ·rename_i hy
    obtain⟨hf,hk⟩:=chk_some hk
    cases hk
    obtain⟨b1,b2⟩:=fits_prop hf
    exact gives_appendNil hop hts hel hc1 hc2 hy hrows (by simpa using b1) (by simpa using b2)
   ·cases hk
  ·cases hk
 ·cases hk
theorem storeT_sound {t:TypeId}{y z:Operand}(hop:o.op= .store t y z)(hk:(storeT sy P h t (ρ y) (ρ z)).run E=some h'):Gives P [] h h' ρ o .any:=by
 unfold storeT at hk
 split at hk
 ·rename_i ns hn hl
  split at hk
  ·rename_i b off hy
   split at hk
   ·rename_i bt vs hb
    split at hk
    ·rename_i c1 c2 c3
     cases hk
     exact gives_store_box hop hy hb hn c1 (of_decide_eq_true c2) (of_decide_eq_true c3) hl
    ·cases hk
   ·cases hk
  ·rename_i b sz i off hy
   split at hk
   ·rename_i e sz' rows ss hb hss
    split at hk
    ·rename_i ds c1 hd
     have c1:=of_decide_eq_true c1
     subst c1
     split at hk
     ·rename_i c2 c3
      obtain⟨hi,hk⟩:=chk_some hk
      cases hk
      exact gives_store_pml hop hy hb (of_decide_eq_true hi) hn hd (of_decide_eq_true c2) (of_decide_eq_true c3) hl
     ·cases hk
    ·cases hk
   ·cases hk
  ·cases hk
 ·cases hk
theorem big_of (a:Int)(b:Nat)(h0:0≤a)(hab:a*(b+1)≤140737488355328):b*a.toNat≤281474976710656∧a.toNat≤maxLen:=by
 obtain⟨n,rfl⟩:=Int.eq_ofNat_of_zero_le h0
 have hab':n*(b+1)≤140737488355328:=Int.ofNat_le.1 (by rw[Int.natCast_mul,Int.natCast_add];exact hab)
 have h1:n*b≤n*(b+1):=Nat.mul_le_mul_left _ (by omega)
 have h2:n≤n*(b+1):=Nat.le_mul_of_pos_right _ (by omega)
 rw[Int.toNat_natCast,Nat.mul_comm]
 exact⟨by omega,by simp only [maxLen];omega⟩
theorem makeT_sound {t:TypeId}{y z:Operand}{z0:Bool}{r:List Box × V}(hop:o.op= .makeSlice t y z)(hk:(makeT sy P h t z0 (ρ y) (ρ z)).run E=some r):Gives P [] h r.1 ρ o r.2:=by
 unfold makeT at hk
 split at hk
 ·rename_i e sz by_ zv k1 n k2 m hel hy hz
  split at hk
  ·obtain⟨hn,hk⟩:=chk_some hk
   obtain⟨hi,hk⟩:=chk_some hk
   cases hk
   have hn:n=0:=of_decide_eq_true hn
   subst hn
   have hi:0≤m∧m*(by_+1)≤140737488355328:=of_decide_eq_true hi
   obtain⟨b1,b2⟩:=big_of _ _ hi.1 hi.2
   exact gives_makeCap hop hel hy hz hi.1 b1 b2
  ·split at hk
   ·rename_i ss hss
    split at hk
    ·rename_i q1 q2
     obtain⟨hi,hk⟩:=chk_some hk
     cases hk
     have hi:n=m∧0≤n∧n*(by_+1)≤140737488355328:=of_decide_eq_true hi
     obtain⟨b1,b2⟩:=big_of _ _ hi.2.1 hi.2.2
     exact gives_makeFull hop hel q1 (of_decide_eq_true q2) hy hz hi.1 hi.2.1 b1 b2
    ·cases hk
   ·cases hk
 ·cases hk
theorem putT_sound {t:TypeId}{y z q:Operand}(hop:o.op= .mapUpdate t y z q∨o.op= .insert t y z q)(hk:(putT sy P h t (ρ y) (ρ z) (ρ q)).run E=some h'):Gives P [] h h' ρ o .any:=by
 unfold putT at hk
 split at hk
 ·rename_i e kk b k hm hy hz
  split at hk
  ·rename_i kk' rows s hb hsh hf
   split at hk
   ·rename_i x hkk hx
    have:=of_decide_eq_true hkk
    subst this
    cases hk
    exact gives_mapUpdate hop hy hb hm hz (fits_of hf) hx
   ·cases hk
  ·cases hk
 ·cases hk
theorem delT_sound {t t':TypeId}{y z:Operand}(hop:o.op= .call { callee:= .builtin .delete,args:= #[y,z],argTypes:= #[t,t'] })(hk:(delT sy P h t (ρ y) (ρ z)).run E=some h'):Gives P [] h h' ρ o .any:=by
 unfold delT at hk
 split at hk
 ·rename_i e kk b k hm hy hz
  split at hk
  ·rename_i kk' rows hb hf
   split at hk
   ·rename_i hkk
    have:=of_decide_eq_true hkk
    subst this
    cases hk
    exact gives_delete hop hy hb hm hz (fits_of hf)
   ·cases hk
  ·cases hk
 ·cases hk
theorem appzT_sound {y z:Operand}{t tn:TypeId}{r:List Box × V}(hop:o.op= .call { callee:= .builtin .append,args:= #[y,z],argTypes:= #[t,tn] })(hk:(appzT sy P h t tn (ρ y) (ρ z)).run E=some r):Gives P [] h r.1 ρ o r.2:=by
 unfold appzT at hk
 split at hk
 ·rename_i e sz by_ zv kn k n hel htn hy hz
  split at hk
  ·rename_i ss hss
   split at hk
   ·rename_i q1 q2 q3
    obtain⟨hi,hk⟩:=chk_some hk
    cases hk
    have hi:0 < n∧n*(by_+1)≤140737488355328:=of_decide_eq_true hi
    obtain⟨b1,b2⟩:=big_of _ _ (Int.le_of_lt hi.1) hi.2
    exact gives_appendZeros hop hel htn q1 (of_decide_eq_true q2) (of_decide_eq_true q3) hy hz hi.1 (by rw[Nat.mul_comm];exact b1) b2
   ·cases hk
  ·cases hk
 ·cases hk
theorem headT_sound {t:TypeId}{y:Operand}{hi:Option Operand}(hop:o.op= .slice t y none hi none)(hk:(headT sy P h t (ρ y) (hi.map ρ)).run E=some r):Gives P r.1 h r.2.1 ρ o r.2.2:=by
 unfold headT at hk
 split at hk
 ·rename_i b hy
  split at hk
  ·rename_i e' sz rows hb
   split at hk
   ·rename_i e sz' r hel hr
    split at hk
    ·rename_i hsz
     have:=of_decide_eq_true hsz
     subst this
     obtain⟨hi,hk⟩:=chk_some hk
     cases hk
     have hi:=cutok_prop hi
     exact gives_sliceOwn hop hel hy hb rfl hr rfl hi.2.1 hi.2.2
    ·cases hk
   ·cases hk
  ·cases hk
 ·cases hk
theorem rangeT_sound {t:TypeId}{y:Operand}{r:List Box × V}(hop:o.op= .range t y)(hk:(rangeT P h t (ρ y)).run E=some r):Gives P [] h r.1 ρ o r.2:=by
 unfold rangeT at hk
 split at hk
 ·rename_i s hu hy;cases hk;exact gives_range hop hu hy
 ·cases hk
theorem nextT_sound {i:Operand}{s:Bool}{r:List Box × V}(hop:o.op= .next i s)(hk:(nextT sy h (ρ i) s).run E=some r):Gives P [] h r.1 ρ o r.2:=by
 unfold nextT at hk
 split at hk
 ·rename_i b hy
  split at hk
  ·rename_i s p hb
   simp only [Tree.run]at hk
   split at hk
   ·rename_i hc
    cases hk
    exact gives_next_more hop hy hb (of_decide_eq_true hc)
   ·rename_i hc
    cases hk
    exact gives_next_over hop hy hb (of_decide_eq_false hc)
  ·cases hk
 ·cases hk
theorem oslT_sound {t:TypeId}{y:Operand}{lo hi:Option Operand}(hop:o.op= .slice t y lo hi none)(hk:(oslT sy P h t (ρ y) (lo.map ρ) (hi.map ρ)).run E=some x):Gives P [] h h ρ o x:=by
 unfold oslT at hk
 split at hk
 ·rename_i b hy
  split at hk
  ·rename_i e' sz rows hb
   split at hk
   ·rename_i e sz' l r hel hl hr
    split at hk
    ·rename_i hsz
     have:=of_decide_eq_true hsz
     subst this
     obtain⟨hi,hk⟩:=chk_some hk
     cases hk
     have hi:=cutok_prop hi
     exact gives_sliceOsl hop hel hy hb hl hr hi.1 hi.2.1 hi.2.2
    ·cases hk
   ·cases hk
  ·cases hk
 ·cases hk
theorem copyT_sound {y z:Operand}{t t':TypeId}{r:List Box × V}(hop:o.op= .call { callee:= .builtin .copy,args:= #[y,z],argTypes:= #[t,t'] })(hk:(copyT sy P h t (ρ y) (ρ z)).run E=some r):Gives P [] h r.1 ρ o r.2:=by
 unfold copyT at hk
 split at hk
 ·rename_i e b lo n news hel hd hz
  split at hk
  ·rename_i e' rows hb
   obtain⟨hi,hk⟩:=chk_some hk
   cases hk
   have hi:0≤lo∧lo≤lo+n∧lo+n≤(rows.length:Int):=cutok_prop hi
   exact gives_copyB hop hel (by rw[←hd];rfl) hb hz hi.1 (by omega) hi.2.2
  ·cases hk
 ·cases hk
theorem clearT_sound {y:Operand}{t:TypeId}{r:List Box × V}(hop:o.op= .call { callee:= .builtin .clear,args:= #[y],argTypes:= #[t] })(hk:(clearT sy P h t (ρ y)).run E=some r):Gives P [] h r.1 ρ o r.2:=by
 unfold clearT at hk
 split at hk
 ·rename_i e by_ z b lo n hel hy
  split at hk
  ·rename_i e' rows s hb hs
   split at hk
   ·rename_i hz
    obtain⟨hi,hk⟩:=chk_some hk
    cases hk
    have hi:0≤lo∧lo≤lo+n∧lo+n≤(rows.length:Int):=cutok_prop hi
    have:=gives_clear hop hel hz hy hb hi.2.2
    have e1:sy.rcopy rows lo n (sy.rep n [zeroD s])=rows.take lo.toNat++List.replicate n.toNat [zeroD s]++rows.drop (lo.toNat+n.toNat):=by
     simp [sy]
    rw[e1]
    exact this
   ·cases hk
  ·cases hk
 ·cases hk
theorem plainT_sound (hE:E.Ok)(hk:(plainT sy P h ρ o).run E=some r):Gives P r.1 h r.2.1 ρ o r.2.2:=by
 unfold plainT at hk
 obtain⟨x,h1,hk⟩:=run_bind_some hE hk
 cases hk
 exact opPT_sound hE h1 h (Pre.refl h)
theorem opT_sound (hE:E.Ok)(hk:(opT sy P h ρ o).run E=some r):Gives P r.1 h r.2.1 ρ o r.2.2:=by
 unfold opT at hk
 split at hk
 ·rename_i y hop
  split at hk
  ·rename_i hy
   split at hk
   ·cases hk;exact gives_mint (.inr hop) hy
   ·cases hk;have:=gives_copy (P:=P) (h:=h) (ρ:=ρ) (.inr hop);rwa [hy]at this
  ·cases hk;exact gives_copy (.inr hop)
 ·rename_i t y hop
  split at hk
  ·rename_i vs hv hl;cases hk;exact gives_box hop hv hl
  ·cases hk
 ·rename_i t hop
  split at hk
  ·rename_i z hz
   split at hk
   ·rename_i vs hv;cases hk;exact gives_alloc hop hz hv
   ·cases hk
  ·cases hk
 ·rename_i t y z hop
  obtain⟨h1,q1,hk⟩:=run_bind_some hE hk
  cases hk
  exact storeT_sound hop q1
 ·rename_i t y z hop
  obtain⟨h1,q1,hk⟩:=run_bind_some hE hk
  cases hk
  exact makeT_sound hop q1
 ·rename_i t r hop
  split at hk
  ·cases hk;exact gives_makeMap hop
  ·cases hk
 ·rename_i t y z r hop
  obtain⟨h1,q1,hk⟩:=run_bind_some hE hk
  cases hk
  exact putT_sound (.inl hop) q1
 ·rename_i t y z r hop
  obtain⟨h1,q1,hk⟩:=run_bind_some hE hk
  cases hk
  exact putT_sound (.inr hop) q1
 ·rename_i t n parts hop
  split at hk
  ·rename_i e sz vs hlit hl
   split at hk
   ·rename_i ss hss
    split at hk
    ·rename_i rows hr hn
     cases hk
     exact gives_buildSlice hop hlit hl hr (by have:=of_decide_eq_true hn;simp only [maxLen];omega)
    ·cases hk
   ·cases hk
  ·cases hk
 ·rename_i c hop
  split at hk
  ·rename_i y z t t'
   split at hk
   ·rename_i ht
    have ht:=of_decide_eq_true ht
    subst ht
    exact appendT_sound hop rfl hk
   ·obtain⟨h1,q1,hk⟩:=run_bind_some hE hk
    cases hk
    exact appzT_sound hop q1
  ·obtain⟨h1,q1,hk⟩:=run_bind_some hE hk
   cases hk
   exact delT_sound hop q1
  ·obtain⟨h1,q1,hk⟩:=run_bind_some hE hk
   cases hk
   exact clearT_sound hop q1
  ·obtain⟨h1,q1,hk⟩:=run_bind_some hE hk
   cases hk
   exact copyT_sound hop q1
  ·exact plainT_sound hE hk
 ·rename_i t y hop
  obtain⟨h1,q1,hk⟩:=run_bind_some hE hk
  cases hk
  exact rangeT_sound hop q1
 ·rename_i i s hop
  obtain⟨h1,q1,hk⟩:=run_bind_some hE hk
  cases hk
  exact nextT_sound hop q1
 ·rename_i t y lo hi mx hop
  split at hk
  ·exact headT_sound hop hk
  ·exact plainT_sound hE hk
 ·exact plainT_sound hE hk
theorem Keep.trans {M M':List Nat}{g g1 g2:Gh}{h h1 h2:List Box}{w w1 w2:World}(k1:Keep M g h w g1 h1 w1)(k2:Keep M' g1 h1 w1 g2 h2 w2):Keep (M++M') g h w g2 h2 w2:=by
 refine⟨k2.heap,⟨fun b o hz=>k2.le.Z b o (k1.le.Z b o hz),Nat.le_trans k1.le.n k2.le.n,fun b hb hm=> ?_,fun b hb hm=> ?_,fun b hb=>(k2.le.cd b (Nat.lt_of_lt_of_le hb k1.le.n)).trans (k1.le.cd b hb)⟩,k1.fr.trans' k2.fr k1.own,fun b o hz=> ?_,fun k hk=> ?_⟩
 ·simp only [List.mem_append,not_or]at hm
  exact(k2.le.blk b (Nat.lt_of_lt_of_le hb k1.le.n) hm.2).trans (k1.le.blk b hb hm.1)
 ·simp only [List.mem_append,not_or]at hm
  exact(k2.le.val b (Nat.lt_of_lt_of_le hb k1.le.n) hm.2).trans (k1.le.val b hb hm.1)
 ·rcases k2.znew b o hz with q|q|q
  ·exact k1.znew b o q
  ·exact .inr (.inl (Nat.le_trans k1.fr.size q))
  ·rcases k1.own b q with q|q
   ·exact .inr (.inr q)
   ·exact .inr (.inl q)
 ·rcases k2.own k hk with q|q
  ·exact k1.own k q
  ·exact .inr (Nat.le_trans k1.fr.size q)
theorem scB_rep {w:World}{g:Gh}{n:Nat}{u:Value}{v:V}(hr:Rep w g u v):v.scB n=true→Rep w (g.cut n) u v:=by
 have aux: ∀(us:Array Value) (cs:List V),(∀(i:Nat) u c,us[i]? =some u→cs[i]? =some c→c.scB n=true→Rep w (g.cut n) u c)→V.scL n cs=true→
     ∀(i:Nat) u c,us[i]? =some u→cs[i]? =some c→Rep w (g.cut n) u c:=by
  intro us cs ih hs i u c hu hc
  rw[scL_all]at hs
  exact ih i u c hu hc (List.all_eq_true.1 hs c (List.mem_of_getElem? hc))
 induction hr with
 |any u=>intro _;exact .any u
 |nils=>intro _;exact .nils
 |d h=>intro _;exact .d h
 |agg us cs hl h ih=>intro hs;exact .agg us cs hl (aux us cs ih (by simpa [V.scB]using hs))
 |tup us cs hl h ih=>intro hs;exact .tup us cs hl (aux us cs ih (by simpa [V.scB]using hs))
 |fn f us cs hl h ih=>intro hs;exact .fn f us cs hl (aux us cs ih (by simpa [V.scB]using hs))
 |own b hb=>intro hs;exact .own (g:=g.cut n) b (show b < n by simpa [V.scB]using hs)
 |map b hb=>intro hs;exact .map (g:=g.cut n) b (show b < n by simpa [V.scB]using hs)
 |ptr b off hb=>intro hs;exact .ptr (g:=g.cut n) b off (show b < n by simpa [V.scB]using hs)
 |mv f b off hb=>intro hs;exact .mv (g:=g.cut n) f b off (show b < n by simpa [V.scB]using hs)
 |ifp f b off hb=>intro hs;exact .ifp (g:=g.cut n) f b off (show b < n by simpa [V.scB]using hs)
 |pml b sz i off hb=>intro hs;exact .pml (g:=g.cut n) b sz i off (show b < n by simpa [V.scB]using hs)
 |yld b R hb hc=>intro hs;exact .yld (g:=g.cut n) b R (show b < n by simpa [V.scB]using hs) hc
 |osl b sz lo k u hb hu=>intro hs;exact .osl (g:=g.cut n) b sz lo k u (show b < n by simpa [V.scB]using hs) hu
 |pel blk off cs U hZ hc hr=>intro _;exact .pel blk off cs U hZ hc hr
 |nilp=>intro _;exact .nilp
 |nilf=>intro _;exact .nilf
 |ifn0=>intro _;exact .ifn0
 |ifn1 t p=>intro _;exact .ifn1 t p
 |ifc t us cs hl h=>intro _;exact .ifc t us cs hl h
 |ifo0 t cs=>intro _;exact .ifo0 t cs
 |ifo1 t us cs hl h=>intro _;exact .ifo1 t us cs hl h
theorem scB_box {w:World}{g:Gh}{n b:Nat}{x:Box}(hs:x.scB n=true)(hr:BoxRep w g b x):BoxRep w (g.cut n) b x:=by
 cases x with
 |gone=>trivial
 |mp kk rows=>exact hr
 |arr e sz rows=>exact hr
 |cells t vs=>
  obtain⟨us,o,h1,h0,h2,h3⟩:=hr
  refine⟨us,o,h1,h0,h2,fun i u v hu hv=>scB_rep (h3 i u v hu hv) ?_⟩
  have:vs.all (V.scB n)=true:=by rw[←scL_all];exact hs
  exact List.all_eq_true.1 this v (List.mem_of_getElem? hv)
theorem Keep.cutN {M:List Nat}{g g1:Gh}{h h1:List Box}{w w1:World}(k:Keep M g h w g1 h1 w1){n:Nat}(hn:g.n≤n)(hn1:n≤h1.length)(hs:(h1.take n).all (Box.scB n)=true):Keep M g h w (g1.cut n) (h1.take n) w1:=by
 have hget: ∀(b:Nat) x,(h1.take n)[b]? =some x→h1[b]? =some x:=fun b x hx=>by
  rw[List.getElem?_take]at hx
  split at hx
  ·exact hx
  ·cases hx
 have hat: ∀(b:Nat) (x:Box),x.at? (g1.cut n) b=x.at? g1 b:=fun b x=>by cases x<;>rfl
 have hown: ∀q,Owned (g1.cut n) (h1.take n) q→Owned g1 h1 q:=fun q ⟨b,x,hx,hq⟩=>⟨b,x,hget b x hx,by rwa [hat]at hq⟩
 refine⟨⟨by simp [Gh.cut];omega,fun b x hx=>scB_box (List.all_eq_true.1 hs x (List.mem_of_getElem? hx)) (k.heap.rep b x (hget b x hx)),fun b c x y q hx hy h2 h3=> ?_,fun q o hq hz=>k.heap.zsep q o (hown q hq) hz,k.heap.zlt,k.heap.tab⟩,
  ⟨k.le.Z,hn,k.le.blk,k.le.val,k.le.cd⟩,k.fr,k.znew,fun q hq=>k.own q (hown q hq)⟩
 rw[hat]at h2 h3
 exact k.heap.sep b c x y q (hget b x hx) (hget c y hy) h2 h3
theorem Keep.of_fr {g:Gh}{h:List Box}{w w':World}(hs:SimH g h w)(hfr:Fr (fun _=>False) w w'):Keep [] g h w g h w':=by
 have ho:Over [] w g w' g:=⟨Gh.Le.refl _ _,fun b o hz=>hfr.cell (hs.zlt b o hz) (fun h=>h)⟩
 refine⟨⟨hs.n,fun b x hx=> ?_,hs.sep,hs.zsep,fun b o hz=>Nat.lt_of_lt_of_le (hs.zlt b o hz) hfr.size,hs.tab.over ho⟩,Gh.Le.refl _ _,hfr.mono (fun _ h=>h.elim),fun b o hz=> .inl hz,fun k hk=> .inl hk⟩
 have:=BoxRep.over ho (by rw[hs.n];exact(List.getElem?_eq_some_iff.1 hx).1) (by simp) (fun k hk=>hfr.block k ((hs.rep b x hx).lt hk) (fun h=>h)) (hs.rep b x hx)
 rwa [Box.kill_nil]at this
theorem MCall.pcall {f:FuncId}{args:List V}{e:TypeId}{sz:Nat}{rows:List (List D)}(hc:MCall P f args e sz rows):PCall P f args (.d (.sl sz rows)):=by
 intro g w us hs hu
 refine(hc g w us hs hu).mono ?_
 rintro _ w' ⟨u,g',rfl,hr,hk⟩
 obtain⟨g2,hk2,hr2⟩:=freeze_step hk.heap (b:=0) rfl
 have hn:g.n=0:=hs.n
 have:=(hk.trans hk2).cutN (n:=0) (by omega) (by omega) rfl
 exact⟨u,g2.cut 0,rfl,scB_rep (hr2 u _ hr) rfl,by simpa using this⟩
def D.flat:D→Bool
 | .sl .. =>false
 |_=>true
def V.flatC:V→Bool
 | .d x=>x.flat
 |_=>false
def V.flatB:V→Bool
 | .agg cs=>cs.all V.flatC
 |v=>v.flatC
def V.flatT:V→Bool
 | .tup cs=>cs.all V.flatB
 |v=>v.flatB
theorem flatD_rep {w w':World}{Z Z':Nat→Nat→Prop}{u:Value}{x:D}(hf:x.flat=true)(hr:RepD w Z u x):RepD w' Z' u x:=by
 cases hr<;>first|exact .int _ _|exact .bool _|exact .str _|simp [D.flat]at hf
theorem flatC_rep {w w':World}{g g':Gh}{u:Value}{v:V}(hf:v.flatC=true)(hr:Rep w g u v):Rep w' g' u v:=by
 cases hr<;>first|(simp [V.flatC]at hf;done)|skip
 rename_i x h
 exact .d (flatD_rep hf h)
theorem flatB_rep {w w':World}{g g':Gh}{u:Value}{v:V}(hf:v.flatB=true)(hr:Rep w g u v):Rep w' g' u v:=by
 cases v with
 |agg cs=>
  cases hr with
  |agg us cs hl h=>exact .agg us cs hl fun i u c hu hc=>flatC_rep (List.all_eq_true.1 hf c (List.mem_of_getElem? hc)) (h i u c hu hc)
 |d x=>exact flatC_rep hf hr
 |_=>simp [V.flatB,V.flatC]at hf
theorem flatT_rep {w w':World}{g g':Gh}{u:Value}{v:V}(hf:v.flatT=true)(hr:Rep w g u v):Rep w' g' u v:=by
 cases v with
 |tup cs=>
  cases hr with
  |tup us cs hl h=>exact .tup us cs hl fun i u c hu hc=>flatB_rep (List.all_eq_true.1 hf c (List.mem_of_getElem? hc)) (h i u c hu hc)
 |agg cs=>exact flatB_rep hf hr
 |d x=>exact flatB_rep hf hr
 |_=>simp [V.flatT,V.flatB,V.flatC]at hf
theorem out1_rep {t:TypeId}{v:V}{w:World}{g:Gh}{u:Value}(hr:Rep w g u v):Rep w g u (can1 P t v):=by
 unfold can1
 split
 ·rename_i ds h1 h2
  unfold out1 at h1
  split at h1
  ·rename_i ss cs _ _
   obtain⟨q1,q2⟩:=toDs_spec h1
   cases hr with
   |agg us _ hl hr=>
    refine .agg us _ (by simp [hl,q1]) fun i u c hu hc=> ?_
    rw[List.getElem?_map,Option.map_eq_some_iff]at hc
    obtain⟨x,hx,rfl⟩:=hc
    have hi:=(Array.getElem?_eq_some_iff.1 hu).1
    have hcs:=List.getElem?_eq_getElem (l:=cs) (i:=i) (by omega)
    obtain⟨s,hs⟩:=q2 i _ x hcs hx
    exact .d (toD_rep (hr i u _ hu hcs) hs)
  ·rename_i hf;rw[h2]at hf;cases hf
  ·cases h1
 ·rename_i d h1 h2
  unfold out1 at h1
  split at h1
  ·rename_i ht;rw[h2]at ht;cases ht
  ·split at h1
   ·rename_i hx;cases h1;exact .d (toD_rep hr hx)
   ·cases h1
  ·cases h1
 ·exact hr
theorem canL_reps: ∀ {ts:List TypeId} {vs:List V} {w:World} {g:Gh} {us:List Value},Reps w g us vs→Reps w g us (canL P ts vs)
 | [],vs,w,g,us,h=>by cases vs<;>exact h
 |_::_,[],w,g,us,h=>h
 |t::ts,v::vs,w,g,[],h=>by have:=h.1;simp at this
 |t::ts,v::vs,w,g,u::us,h=>by
  have h2:=canL_reps (ts:=ts) (vs:=vs) (us:=us) (w:=w) (g:=g) ⟨by have:=h.1;simpa using this,fun i u v h1 h2=>h.2 (i+1) u v (by simpa using h1) (by simpa using h2)⟩
  refine⟨by have:=h2.1;simp [canL,this],fun i u' v' h1 h3=> ?_⟩
  cases i with
  |zero=>simp [canL]at h1 h3;subst h1;subst h3;exact out1_rep (h.2 0 _ _ rfl rfl)
  |succ i=>exact h2.2 i u' v' (by simpa using h1) (by simpa [canL]using h3)
theorem HCall.can {M:List Nat}{f:FuncId}{ts:List TypeId}{vs:List V}{h h':List Box}{r:V}(hc:HCall P M f (canL P ts vs) h r h'):HCall P M f vs h r h':=
 fun g w us hs hu=>hc g w us hs (canL_reps hu)
theorem call_borrow {En:Ent}{s s1:VSt}{a:Act}{w:World}{y:Operand}{f:FuncId}{vs:List V}{args:Array Operand}{ts:Array TypeId}{pts:List TypeId}{v:V}(hs:SimE En s a w)(hs1:SimE En s1 a w)
  (hop:o.op= .call { callee:= .value y,args:=args,argTypes:=ts }) (hc:bindV (s1.get y) (args.toList.map s1.get)=some (f,vs)) (hp:(canL P pts vs).all V.pureB=true) (hg:goodF P f=true)
  (hcall:PCall P f (canL P pts vs) v) (hflat:v.flatT=true) {K:Act→World→Prop} {Q:Exit→Act→World→Prop} (hK: ∀a' w',SimE En (s.next [] s.h o.dst v) a' w'→K a' w'):o.wp P a w K Q:=by
 obtain⟨g,hs⟩:=hs
 obtain⟨g1,hs1⟩:=hs1
 obtain⟨us,hargs,hrun⟩:=bind_run hop hg hs1.get hc
 have hargs:=canL_reps (P:=P) (ts:=pts) hargs
 have hcl:=hcall (g0 g1.Z) w _ (simH_nil hs1.heap.zlt hs1.heap.tab) ⟨hargs.1,fun i u v h1 h2=>pureB_rep (g:=g1) (g':=g0 g1.Z) rfl (List.all_eq_true.1 hp _ (List.mem_of_getElem? h2)) (hargs.2 i u v h1 h2)⟩
 unfold Oper.wp
 rw[hrun,Oper.upon_enter]
 refine hcl.mono ?_
 rintro e w' ⟨u,g',rfl,hu,hk⟩
 have hfr:Fr (fun _=>False) w w':=hk.fr.mono fun k hk=>by obtain⟨b,x,hx,_⟩:=hk;simp at hx
 exact hK _ _ ⟨g,hs.next (Keep.of_fr hs.heap hfr) (by simp [okM]) (flatT_rep hflat hu) o.dst⟩
def PGood (P:Program)(f:FuncId)(args:List V):PRes→Prop
 | .val ds=> ∃ts ss v,sigP P f=some ts∧shR P ts=some ss∧ds.length=ss.length∧mkV P ts ds=some v∧PCall P f args v
 | .own e sz rows=> ∃t,sigP P f=some [t]∧elO P t=some (e,sz)∧MCall P f args e sz rows
def EnvGood (P:Program)(E:Env):Prop:=KV P∧ ∀f args p,goodF P f=true→args.all V.pureB=true→E.call f args=some p→PGood P f args p
theorem elO_sh {t e:TypeId}{sz:Nat}(h:elO P t=some (e,sz)):shOf P 9 t=some [.sl sz]∧aggB P t=false:=by
 obtain⟨hu,hn⟩:=elO_spec h
 constructor
 ·simp only [shOf,hu,hn,Option.map_some]
 ·unfold aggB;rw[hu]
theorem mkVs_pure: ∀ {ts:List TypeId} {ds:List D} {vs:List V},mkVs P ts ds=some vs→vs.all V.pureB=true∧vs.length=ts.length
 | [],[],vs,h=>by cases h;exact⟨rfl,rfl⟩
 | [],_::_,vs,h=>by cases h
 |t::ts,ds,vs,h=>by
  unfold mkVs at h
  split at h
  ·split at h
   ·rename_i vs' _ h2
    cases h
    obtain⟨q1,q2⟩:=mkVs_pure h2
    simp only [List.all_cons,q1,Bool.and_true,List.length_cons,q2,and_true]
    show(List.map V.d _).all V.pureC=true
    rw[List.all_eq_true]
    intro x hx
    obtain⟨d,_,rfl⟩:=List.mem_map.1 hx
    rfl
   ·cases h
  ·split at h
   ·split at h
    ·rename_i vs' h2
     cases h
     obtain⟨q1,q2⟩:=mkVs_pure h2
     simp only [List.all_cons,q1,Bool.and_true,List.length_cons,q2,and_true]
     rfl
    ·cases h
   ·cases h
  ·cases h
theorem mkV_pure {ts:List TypeId}{ds:List D}{v:V}(h:mkV P ts ds=some v):v.pureT=true:=by
 unfold mkV at h
 split at h
 ·rename_i v' hv
  cases h
  have:=(mkVs_pure hv).1
  simp only [List.all_cons,List.all_nil,Bool.and_true]at this
  cases v<;>first|exact this|skip
  simp only [V.pureB,V.pureT,List.all_eq_true]at this ⊢
  intro c hc
  have:=this c hc
  cases c<;>simp_all [V.pureC,V.pureB]
 ·rename_i vs _ hv
  cases h
  exact(mkVs_pure hv).1
 ·cases h
theorem allflat {ss:List Sh}{ds:List D}(hf:ss.all Sh.flat=true)(hr: ∀(i:Nat) d s,ds[i]? =some d→ss[i]? =some s→(s.flat=true→d.flat=true))(hl:ds.length=ss.length): ∀d∈ds,d.flat=true:=by
 intro d hd
 obtain⟨i,hi⟩:=List.mem_iff_getElem?.1 hd
 have hi':i < ss.length:=by rw[←hl];exact(List.getElem?_eq_some_iff.1 hi).1
 exact hr i d ss[i] hi (List.getElem?_eq_getElem hi') (List.all_eq_true.1 hf _ (List.getElem_mem hi'))
theorem mkVs_flat: ∀ {ts:List TypeId} {ds:List D} {vs:List V},mkVs P ts ds=some vs→(∀d∈ds,d.flat=true)→vs.all V.flatB=true
 | [],[],vs,h,_=>by cases h;rfl
 | [],_::_,vs,h,_=>by cases h
 |t::ts,ds,vs,h,hd=>by
  unfold mkVs at h
  split at h
  ·split at h
   ·rename_i vs' _ h2
    cases h
    simp only [List.all_cons,mkVs_flat h2 (fun d hq=>hd d (List.mem_of_mem_drop hq)),Bool.and_true]
    simp only [V.flatB,List.all_eq_true,List.mem_map]
    rintro _ ⟨d,hq,rfl⟩
    exact hd d (List.mem_of_mem_take hq)
   ·cases h
  ·split at h
   ·split at h
    ·rename_i d ds _ vs' h2
     cases h
     simp only [List.all_cons,mkVs_flat h2 (fun q hq=>hd q (List.mem_cons_of_mem _ hq)),Bool.and_true]
     exact hd d (List.mem_cons_self ..)
    ·cases h
   ·cases h
  ·cases h
theorem mkV_flat {ts:List TypeId}{ds:List D}{v:V}(h:mkV P ts ds=some v)(hd: ∀d∈ds,d.flat=true):v.flatT=true:=by
 unfold mkV at h
 split at h
 ·rename_i v' hv
  cases h
  have:=mkVs_flat hv hd
  simp only [List.all_cons,List.all_nil,Bool.and_true]at this
  cases v<;>first|exact this|simp [V.flatB,V.flatC]at this
 ·rename_i vs _ hv
  cases h
  exact mkVs_flat hv hd
 ·cases h
theorem openT_sh {s:Sh}{v:Option D}{x:D}(hk:(openT s v).run E=some x):s.flat=true→x.flat=true:=by
 intro hf
 cases s<;>simp only [openT,Tree.run,Sh.flat]at hk hf<;>first|(cases hf;done)|(obtain⟨n,h1,h2⟩:=Option.bind_eq_some_iff.1 hk;cases h2;rfl)
theorem openRT_sh (hE:E.Ok): ∀ {ss:List Sh} {cs:List D} {j:Nat} {xs:List D},(openRT sy ss cs j).run E=some xs→ ∀(i:Nat) d s,xs[i]? =some d→ss[i]? =some s→(s.flat=true→d.flat=true)
 | [],cs,j,xs,hk=>by cases hk;simp
 |s::ss,cs,j,xs,hk=>by
  unfold openRT at hk
  obtain⟨x,h1,hk⟩:=run_bind_some hE hk
  obtain⟨xs',h2,hk⟩:=run_bind_some hE hk
  cases hk
  intro i d s' hd hs hf
  cases i with
  |zero=>simp at hd hs;subst hd;subst hs;exact openT_sh h1 hf
  |succ i=>exact openRT_sh hE h2 i d s' (by simpa using hd) (by simpa using hs) hf
theorem kvT_sound (hV:KV P){f:FuncId}{vs:List V}{v:V}(hs:(sigP P f).isSome=true)(hk:(kvT sy f vs).run E=some v):PCall P f vs v∧v.pureT=true:=by
 unfold kvT at hk
 split at hk
 ·rename_i s a b hf
  split at hk
  ·rename_i hd
   obtain⟨rfl,rfl⟩:=of_decide_eq_true hd
   obtain⟨hi,hk⟩:=chk_some hk
   cases hk
   have hf:=Nat.eq_of_beq_eq_true hf
   subst hf
   have hi:((s.size:Int)≤1000000):=of_decide_eq_true hi
   exact⟨hV hs s (by omega),rfl⟩
  ·cases hk
 ·cases hk
theorem callT_sound (hE:E.Ok)(hG:EnvGood P E){f:FuncId}{vs:List V}{ts:List TypeId}{v:V}(hp:vs.all V.pureB=true)(hs:sigP P f=some ts)(hk:(callT sy P f vs ts).run E=some v):
  PCall P f vs v∧v.pureT=true∧ ∀ss,shR P ts=some ss→ss.all Sh.flat=true→v.flatT=true:=by
 unfold callT at hk
 split at hk
 ·rename_i ss hss
  simp only [Tree.run]at hk
  ·obtain⟨p,hpc,hk⟩:=Option.bind_eq_some_iff.1 hk
   obtain⟨xs,h1,hk⟩:=run_bind_some hE hk
   obtain⟨q1,q2⟩:=openRT_run hE h1
   split at hk
   ·rename_i v' hv
    cases hk
    have hgood:=hG.2 f vs p (sigP_some hs) hp hpc
    have key: ∀ds:List D,ds.length=ss.length→(∀(i:Nat) x,xs[i]? =some x→ds[0+i]? =some x)→xs=ds:=by
     intro ds hl hx
     apply List.ext_getElem?
     intro i
     cases hxi:xs[i]? with
     |some x=>have:=hx i x hxi;rw[Nat.zero_add]at this;rw[this]
     |none=>
      have:=List.getElem?_eq_none_iff.1 hxi
      exact(List.getElem?_eq_none_iff.2 (by omega)).symm
    refine⟨?_,mkV_pure hv,fun ss' hss' hf=> ?_⟩
    ·cases p with
     |val ds=>
      obtain⟨ts',ss',v2,e1,e2,e3,e4,e5⟩:=hgood
      rw[hs]at e1;cases e1
      rw[hss]at e2;cases e2
      have:=key ds e3 q2
      subst this
      rw[hv]at e4;cases e4
      exact e5
     |own e sz rows=>
      obtain⟨t,e1,e2,e3⟩:=hgood
      rw[hs]at e1;cases e1
      obtain⟨f1,f2⟩:=elO_sh e2
      have:ss= [.sl sz]:=by
       simp only [shR,f1]at hss
       cases hss;rfl
      subst this
      have:=key [.sl sz rows] rfl q2
      subst this
      have:mkV P [t] [.sl sz rows]=some (.d (.sl sz rows)):=by simp [mkV,mkVs,f1,f2]
      rw[this]at hv;cases hv
      exact e3.pcall
    ·rw[hss]at hss';cases hss'
     exact mkV_flat hv (allflat hf (openRT_sh hE h1) q1)
   ·cases hk
 ·rename_i hss
  obtain⟨q1,q2⟩:=kvT_sound hG.1 (by rw[hs];rfl) hk
  exact⟨q1,q2,fun ss h=>by rw[hss]at h;cases h⟩
theorem callOf_some {f:FuncId}{vs:List V}(hc:callOf P ρ o=some (f,vs))(hf: ∀f,ρ (.func f)= .fn f []):
  ∃y args ts,o.op= .call { callee:= .value y,args:=args,argTypes:=ts }∧bindV (ρ y) (args.toList.map ρ)=some (f,vs):=by
 unfold callOf at hc
 split at hc
 ·rename_i y args ts hop
  split at hc
  ·rename_i f' vs' hcv
   split at hc
   ·cases hc
    refine⟨y,args,ts,hop,?_⟩
    split at hcv
    ·rw[hf];exact hcv
    ·exact hcv
   ·cases hc
  ·cases hc
 ·cases hc
def PanE (En:Ent)(p:V)(t:List V)(h:List Box)(e:Exit)(a:Act)(w:World):Prop:= ∃g u,e= .panic [{ v:=u,recovered:=false }]∧Rep w g u p∧Sim En ⟨t,h⟩ a w g
def PanX (En:Ent)(p:V)(h:List Box)(e:Exit)(a:Act)(w:World):Prop:= ∃t,PanE En p t h e a w
def OpR (En:Ent)(q:Option V × VSt)(e:Exit)(a:Act)(w:World):Prop:=match q.1 with
 |none=>e= .normal∧SimE En q.2 a w
 |some p=>PanE En p q.2.t q.2.h e a w
def OpRX (En:Ent)(q:Option V × VSt)(e:Exit)(a:Act)(w:World):Prop:=match q.1 with
 |none=>e= .normal∧SimE En q.2 a w
 |some p=>PanX En p q.2.h e a w
theorem OpR.unk {En:Ent}{q:Option V × VSt}{e:Exit}{a:Act}{w:World}(h:OpR En q e a w):OpRX En q e a w:=by
 obtain⟨p,s⟩:=q
 cases p with
 |none=>exact h
 |some p=>exact⟨_,h⟩
theorem pan_call {En:Ent}{s:VSt}{a:Act}{w:World}{y:Operand}{f:FuncId}{vs:List V}{args:Array Operand}{ts:Array TypeId}{M:List Nat}{p:V}{h':List Box}
  (hop:o.op= .call { callee:= .value y,args:=args,argTypes:=ts }) (hb:bindV (s.get y) (args.toList.map s.get)=some (f,vs)) (hf:goodF P f=true)
  (hc:XCall P M f vs s.h (PanV p) h') (hM:okM En.g.n En.M M=true) (hs:SimE En s a w) {K:Act→World→Prop} {Q:Exit→Act→World→Prop} (hQ: ∀e a' w',PanE En p (s.next M h' none .any).t h' e a' w'→Q e a' w'):o.wp P a w K Q:=by
 obtain⟨g,hs⟩:=hs
 obtain⟨us,hargs,hrun⟩:=bind_run hop hf hs.get hb
 unfold Oper.wp
 rw[hrun,Oper.upon_enter]
 refine(hc g w _ hs.heap hargs).mono ?_
 rintro e w' ⟨g',⟨u,rfl,hr⟩,hk⟩
 have:=hs.next hk hM (.any undef) none
 exact hQ _ _ _ ⟨g',u,rfl,hr,this⟩
def HRound (P:Program)(M:List Nat)(b:Nat)(R:RecI)(args:List V)(h:List Box)(r:V)(h':List Box):Prop:=
 ∀(g:Gh) (w:World) (us:List Value),SimH g h w→Reps w g us args→b < g.n→g.rc b=some R→
  ∃fn tmps assign body,(Instr.yield (g.blk b) us.toArray).run P w= .ok (.round (g.blk b) fn tmps assign body) w∧
   RoundIn Fence.wide 0 P (g.blk b) fn tmps assign body w fun e w'=> ∃u g',e= .returned u∧Rep w' g' u r∧Keep M g h w g' h' w'
def HEnd (P:Program)(M:List Nat)(f:FuncId)(args:List V)(h:List Box)(v:V)(h':List Box):Prop:=match panOf v with
 |some p=>XCall P M f args h (PanV p) h'
 |none=>HCall P M f args h v h'
theorem HEnd.none {P:Program}{M:List Nat}{f:FuncId}{args:List V}{h h':List Box}{v:V}(hp:panOf v=none)(hc:HEnd P M f args h v h'):HCall P M f args h v h':=by
 unfold HEnd at hc;rw[hp]at hc;exact hc
theorem HEnd.some {P:Program}{M:List Nat}{f:FuncId}{args:List V}{h h':List Box}{v p:V}(hp:panOf v= .some p)(hc:HEnd P M f args h v h'):XCall P M f args h (PanV p) h':=by
 unfold HEnd at hc;rw[hp]at hc;exact hc
def EntGood (P:Program)(E:Env)(ent:Callee→List V→List Box→Tree (List Nat × V × List Box)):Prop:=
 (∀f vs h r,(ent (.fn f) vs h).run E=some r→HEnd P r.1 f vs h r.2.1 r.2.2)∧ ∀b R vs h r,(ent (.yld b R) vs h).run E=some r→HRound P r.1 b R vs h r.2.1 r.2.2
theorem forceD_eq.{v}{β:Type v}(x:D)(K:D→β):forceD x K=K x:=by cases x<;>rfl
theorem forceV_eq.{v}{β:Type v}(x:V)(K:V→β):forceV x K=K x:=by cases x<;>first|rfl|(unfold forceV;exact forceD_eq _ _)
theorem forceL_eq.{v}{β:Type v}: ∀(l:List V) (K:List V→β),forceL l K=K l
 | [],_=>rfl
 |v::vs,K=>by unfold forceL;rw[forceV_eq,forceL_eq vs]
theorem forceB_eq.{v}{β:Type v}(x:Box)(K:Box→β):forceB x K=K x:=by cases x<;>first|rfl|(unfold forceB;exact forceL_eq _ _)
theorem forceH_eq.{v}{β:Type v}: ∀(l:List Box) (K:List Box→β),forceH l K=K l
 | [],_=>rfl
 |v::vs,K=>by unfold forceH;rw[forceB_eq,forceH_eq vs]
theorem forceSp_eq.{u,v}{α:Type u}{β:Type v}: ∀(l:List α) (K:List α→β),forceSp l K=K l
 | [],_=>rfl
 |v::vs,K=>by unfold forceSp;rw[forceSp_eq vs]
theorem forceS_eq {β:Type}(s:VSt)(K:VSt→Tree β):forceS s K=K s:=by unfold forceS;rw[forceL_eq,forceH_eq]
theorem bind_val {w:World}{g:Gh}{u:Value}{v:V}{as vs:List V}{f:FuncId}(h0:Rep w g u v)(b0:bindV v as=some (f,vs)): ∃x y,u= .func (.func f) x y:=by
 cases h0<;>first|(cases b0;done)|skip
 all_goals (cases b0;exact⟨_,_,rfl⟩)
theorem bind_same {w:World}{g g1:Gh}{u:Value}{v v1:V}{as as1 vs vs1:List V}{f f1:FuncId}(h0:Rep w g u v)(h1:Rep w g1 u v1)(b0:bindV v as=some (f,vs))(b1:bindV v1 as1=some (f1,vs1)):f1=f:=by
 obtain⟨_,_,e0⟩:=bind_val h0 b0
 obtain⟨_,_,e1⟩:=bind_val h1 b1
 rw[e0]at e1
 cases e1;rfl
theorem pureCallT_sound (hE:E.Ok)(hG:EnvGood P E){C:CfgO}{En:Ent}{s s':VSt}{a:Act}{w:World}{f:FuncId}{vs0:List V}(hc0:callOf P s.get o=some (f,vs0))(hk:(pureCallT sy P C s o f).run E=some s')(hs:SimE En s a w)
  {K:Act→World→Prop} {Q:Exit→Act→World→Prop} (hK: ∀a' w',SimE En s' a' w'→K a' w'):o.wp P a w K Q:=by
 unfold pureCallT at hk
 simp only at hk
 split at hk
 ·rename_i f1 vs ts hc1 hsig
  generalize hcan:canL P (parP P f) vs=vc at hk
  split at hk
  ·rename_i hp
   have hs1:SimE En (s.frz (fzl s o)) a w:=hs.frzs
   obtain⟨y0,args0,ts0,hop0,hy0⟩:=callOf_some hc0 (fun f=>rfl)
   obtain⟨y,args,tys,hop,hy⟩:=callOf_some hc1 (fun f=>rfl)
   have hyy:y0=y:=by rw[hop0]at hop;simp at hop;exact hop.1
   subst hyy
   have hff:f1=f:=by
    obtain⟨g,hsg⟩:=hs
    obtain⟨g1,hsg1⟩:=hs1
    exact bind_same (hsg.get y0) (hsg1.get y0) hy0 hy
   subst hff
   have hg:=sigP_some hsig
   split at hk
   ·split at hk
    ·split at hk
     ·rename_i t e sz hel
      simp only [Tree.run]at hk
      obtain⟨rows,hpc,hk⟩:=Option.bind_eq_some_iff.1 hk
      cases hk
      obtain⟨t',e1,e2,hm⟩:=hG.2 _ _ _ hg hp (opM_some hpc)
      have hh:=hm.hcall hp (s.frz (fzl s o)).h
      rw[←hcan]at hh
      exact(gives_callV hop hy hg hh.can).sim hs1 (by simp [okM]) hK
     ·cases hk
    ·cases hk
   ·split at hk
    ·rename_i ss hss
     split at hk
     ·rename_i hfl
      obtain⟨v,h1,hk⟩:=run_bind_some hE hk
      cases hk
      obtain⟨q1,q2,q3⟩:=callT_sound hE hG hp hsig h1
      exact call_borrow hs hs1 hop hy (by rw[hcan];exact hp) hg (by rw[hcan];exact q1) (q3 ss hss hfl) hK
     ·obtain⟨v,h1,hk⟩:=run_bind_some hE hk
      cases hk
      obtain⟨q1,q2,q3⟩:=callT_sound hE hG hp hsig h1
      have hh:=q1.hcall hp q2 (s.frz (fzl s o)).h
      rw[←hcan]at hh
      exact(gives_callV hop hy hg hh.can).sim hs1 (by simp [okM]) hK
    ·obtain⟨v,h1,hk⟩:=run_bind_some hE hk
     cases hk
     obtain⟨q1,q2,q3⟩:=callT_sound hE hG hp hsig h1
     have hh:=q1.hcall hp q2 (s.frz (fzl s o)).h
     rw[←hcan]at hh
     exact(gives_callV hop hy hg hh.can).sim hs1 (by simp [okM]) hK
  ·cases hk
 ·cases hk
theorem stepT1_sound (hE:E.Ok)(hG:EnvGood P E){ent:Callee→List V→List Box→Tree (List Nat × V × List Box)}(hent:EntGood P E ent){C:CfgO}{En:Ent}{s:VSt}{q:Option V × VSt}{a:Act}{w:World}(hk:(stepT1 sy P ent C En.g.n En.M s o).run E=some q)(hs:SimE En s a w)
  {K:Act→World→Prop} {Q:Exit→Act→World→Prop} (hK: ∀a' w',q.1=none→SimE En q.2 a' w'→K a' w') (hQ: ∀p e a' w',q.1=some p→PanE En p q.2.t q.2.h e a' w'→Q e a' w'):o.wp P a w K Q:=by
 unfold stepT1 at hk
 split at hk
 ·rename_i f vs hc
  split at hk
  ·rename_i hi hsig
   obtain⟨r,h1,hk⟩:=run_bind_some hE hk
   split at hk
   ·rename_i hM
    obtain⟨y,args,tys,hop,hy⟩:=callOf_some hc (fun f=>rfl)
    split at hk
    ·rename_i hp
     cases hk
     exact(gives_callV hop hy (sigP_some hsig) ((hent.1 _ _ _ _ h1).none hp)).sim hs hM fun a' w' h=>hK a' w' rfl h
    ·rename_i p hp
     cases hk
     exact pan_call hop hy (sigP_some hsig) ((hent.1 _ _ _ _ h1).some hp) hM hs fun e a' w' h=>hQ p e a' w' rfl h
   ·cases hk
  ·obtain⟨s',h1,hk⟩:=run_bind_some hE hk
   cases hk
   exact pureCallT_sound hE hG hc h1 hs fun a' w' h=>hK a' w' rfl h
 ·split at hk
  ·rename_i y hop
   split at hk
   ·rename_i t cs hy
    cases hk
    obtain⟨g,hs⟩:=hs
    have hr:=hs.get y
    rw[hy]at hr
    generalize hu0:a.eval y=u0 at hr
    cases hr with
    |ifc _ us _ hl h=>
     have hrun:(execOp a.eval o).run P w= .halt (.panic (.iface t (.agg us))) w:=by
      simp only [execOp,hop,hu0];rfl
     unfold Oper.wp
     rw[hrun,Oper.upon_panic]
     exact hQ _ _ _ _ rfl ⟨g,_,rfl, .ifc t us cs hl h,hs⟩
   ·cases hk
  ·simp only at hk
   obtain⟨r,h1,hk⟩:=run_bind_some hE hk
   split at hk
   ·rename_i hM
    cases hk
    exact(opT_sound hE h1).sim hs.frzs hM fun a' w' h=>hK a' w' rfl h
   ·cases hk
theorem yldOf_some {b:Nat}{R:RecI}{vs:List V}(hc:yldOf ρ o=some (b,R,vs)):
  ∃y args ts,o.op= .call { callee:= .value y,args:=args,argTypes:=ts }∧ρ y= .yld b R∧vs=args.toList.map ρ:=by
 unfold yldOf at hc
 split at hc
 ·rename_i y args ts hop
  split at hc
  ·rename_i heq;cases hc;exact⟨y,args,ts,hop,heq,rfl⟩
  ·cases hc
 ·cases hc
theorem stepT_sound (hE:E.Ok)(hG:EnvGood P E){ro:Option Nat}{ent:Callee→List V→List Box→Tree (List Nat × V × List Box)}(hent:EntGood P E ent){C:CfgO}{En:Ent}{s:VSt}{q:Option V × VSt}{a:Act}{w:World}(hk:(stepT sy P ent C En.g.n En.M s o).run E=some q)(hs:SimE En s a w)
  {K:Act→World→Prop} {Q:Exit→Act→World→Prop} (hK: ∀a' w',q.1=none→SimE En q.2 a' w'→K a' w') (hQ: ∀p e a' w',q.1=some p→PanE En p q.2.t q.2.h e a' w'→Q e a' w'):o.wpIn (Fw ro) 0 P a w K Q:=by
 unfold stepT at hk
 split at hk
 ·rename_i b R vs hnd hy
  obtain⟨y,args,ts,hop,hyy,rfl⟩:=yldOf_some hy
  obtain⟨r,h1,hk⟩:=run_bind_some hE hk
  split at hk
  ·rename_i hM
   cases hk
   have hR:=hent.2 _ _ _ _ _ h1
   obtain⟨g,hs'⟩:=hs
   have hr:=hs'.get y
   rw[hyy]at hr
   generalize hu0:a.eval y=u0 at hr
   cases hr with
   |yld _ _ hb hc=>
    have hargs:Reps w g (args.toList.map a.eval) (args.toList.map s.get):=⟨by simp,fun i u v h1 h2=>by
     rw[List.getElem?_map,Option.map_eq_some_iff]at h1 h2
     obtain⟨q,hq,rfl⟩:=h1
     obtain⟨q',hq',rfl⟩:=h2
     rw[hq]at hq';cases hq'
     exact hs'.get q⟩
    obtain⟨fn,tmps,assign,body,hrun,hround⟩:=hR g w _ hs'.heap hargs hb hc
    refine⟨fun f _=>trivial,?_⟩
    have e:o.semAt (Fw ro).round a.eval=execOp a.eval o:=Oper.semAt_eq _ _ _ (noDef_spec hnd)
    rw[e]
    have hex:(execOp a.eval o).run P w= .ok (.round (g.blk b) fn tmps assign body) w:=by
     have:(args.toList.map a.eval).toArray=args.map a.eval:=by apply Array.ext';simp
     rw[this]at hrun
     simp [execOp,hop,resolve,hu0,Deferred.ofValue,invoke,hrun]
    rw[hex,Oper.uponIn_round]
    refine⟨fun h=>by simp [Fw,Fence.wide]at h,hround.1,fun c cs _=> ?_⟩
    obtain⟨e,w',⟨u,g',rfl,hr,hk⟩,hsteps⟩:=hround.2 c cs (room_wide _)
    exact⟨.returned u,w',hK _ _ rfl ⟨g',hs'.next hk hM hr o.dst⟩,hsteps⟩
  ·cases hk
 ·rename_i hnd _
  split at hk
  ·rename_i t y lo hi d hop hd
   split at hk
   ·obtain⟨x,h1,hk⟩:=run_bind_some hE hk
    cases hk
    exact wpIn_of_wp hnd ((oslT_sound (E:=E) hop h1).sim hs (by simp [okM]) fun a' w' h=>hK a' w' rfl h)
   ·exact wpIn_of_wp hnd (stepT1_sound hE hG hent hk hs hK hQ)
  ·split at hk
   ·split at hk
    ·cases hk
    ·exact wpIn_of_wp hnd (stepT1_sound hE hG hent hk hs hK hQ)
   ·exact wpIn_of_wp hnd (stepT1_sound hE hG hent hk hs hK hQ)
 ·cases hk
theorem segStepT_sound (hE:E.Ok)(hG:EnvGood P E){ro:Option Nat}{En:Ent}{s:VSt}{a:Act}{w:World}(hk:(segStepT sy P s o).run E=some x)(hs:SimE En s a w)
  {K:Act→World→Prop} {Q:Exit→Act→World→Prop} (hK: ∀a' w',SimE En (s.next [] s.h o.dst x) a' w'→K a' w'):o.wpIn (Fw ro) 0 P a w K Q:=by
 unfold segStepT at hk
 split at hk
 ·cases hk
 rename_i hnd
 refine wpIn_of_wp hnd ?_
 split at hk
 ·rename_i f vs hc0
  split at hk
  ·rename_i f1 vs0 ts hc1 hsig
   generalize hcan:canL P (parP P f) vs0=vc at hk
   simp only at hk
   split at hk
   ·rename_i ss hp hss
    split at hk
    ·rename_i hfl
     have hs1:SimE En (s.frz (fzl s o)) a w:=hs.frzs
     obtain⟨y0,args0,ts0,hop0,hy0⟩:=callOf_some hc0 (fun f=>rfl)
     obtain⟨y,args,tys,hop,hy⟩:=callOf_some hc1 (fun f=>rfl)
     have hyy:y0=y:=by rw[hop0]at hop;simp at hop;exact hop.1
     subst hyy
     have hff:f1=f:=by
      obtain⟨g,hsg⟩:=hs
      obtain⟨g1,hsg1⟩:=hs1
      exact bind_same (hsg.get y0) (hsg1.get y0) hy0 hy
     subst hff
     obtain⟨q1,q2,q3⟩:=callT_sound hE hG hp hsig hk
     exact call_borrow hs hs1 hop hy (by rw[hcan];exact hp) (sigP_some hsig) (by rw[hcan];exact q1) (q3 ss hss hfl) hK
    ·cases hk
   ·cases hk
  ·cases hk
 ·exact(opPT_sound hE hk s.h (Pre.refl _)).sim hs (by simp [okM]) hK
theorem set_self' {α:Type}{l:List α}{k:Nat}{v:α}(hv:l[k]? =some v):l.set k v=l:=by
 apply List.ext_getElem?
 intro i
 rw[List.getElem?_set]
 by_cases hi:k=i
 ·subst hi
  rw[if_pos rfl,if_pos (List.getElem?_eq_some_iff.1 hv).1,hv]
 ·rw[if_neg hi]
theorem next_nil (s:VSt)(dst:Option Tmp)(x:V):s.next [] s.h dst x=⟨match dst with|some d=>s.t.set d x|none=>s.t,s.h⟩:=by cases dst<;>rfl
theorem segT_sound (hE:E.Ok)(hG:EnvGood P E){ro:Option Nat}{En:Ent}{ops:Array Oper}{Q:Exit→Act→World→Prop}{s':VSt}{rest:List Oper}: ∀ {os:List Oper} {s:VSt} {a:Act} {w:World},
  (segT sy P ops os s).run E=some s'→SimE En s a w→(∀a' w',SimE En s' a' w'→wpListIn (Fw ro) 0 P ops Q rest a' w')→wpListIn (Fw ro) 0 P ops Q (os++rest) a w
 | [],s,a,w,hk,hs,hq=>by cases hk;exact hq a w hs
 |o::os,s,a,w,hk,hs,hq=>by
  have exec: ∀s,SimE En s a w→((segStepT sy P s o).bind fun x=>forceS (s.next [] s.h o.dst x) (segT sy P ops os)).run E=some s'→o.wpIn (Fw ro) 0 P a w (wpListIn (Fw ro) 0 P ops Q (os++rest)) Q:=by
   intro s hs hk
   obtain⟨x,h1,hk⟩:=run_bind_some hE hk
   rw[forceS_eq]at hk
   exact segStepT_sound hE hG h1 hs fun a' w' hs'=>segT_sound hE hG hk hs' hq
  have pass: ∀s,SimE En s a w→(forceS (s.next [] s.h o.dst (.tup [])) (segT sy P ops os)).run E=some s'→wpListIn (Fw ro) 0 P ops Q (os++rest) (a.put o.dst undef) w:=by
   intro s hs hk
   rw[forceS_eq]at hk
   obtain⟨g,hs'⟩:=hs
   exact segT_sound hE hG hk ⟨g,hs'.next (.refl hs'.heap) (by simp [okM]) (.tup #[] [] rfl (by simp)) o.dst⟩ hq
  unfold segT at hk
  simp only at hk
  split at hk
  ·rename_i hg
   refine listIn_step ?_
   simp only [Region.wanted,hg,if_true]
   exact exec s hs hk
  ·rename_i j want hg
   split at hk
   ·rename_i t ht
    split at hk
    ·rename_i c hc
     obtain⟨hs1,ha⟩:=setT_sim hs hc
     have hy:yielded ops a.tmps j=some c:=by simp [yielded,ht,ha]
     refine listIn_step ?_
     simp only [Region.wanted,hg,hy]
     split at hk<;>cases c
     ·rw[if_neg (by simp)]
      exact pass _ hs1 hk
     ·rw[if_pos (by simp)]
      exact exec _ hs1 hk
     ·rw[if_pos (by simp)]
      exact exec _ hs1 hk
     ·rw[if_neg (by simp)]
      exact pass _ hs1 hk
    ·rename_i hc
     have hy:yielded ops a.tmps j=none:=by
      have hlt:t < s.t.length:=(List.getElem?_eq_some_iff.1 hc).1
      obtain⟨g,hs'⟩:=hs
      have hlt':t < a.tmps.size:=by rw[hs'.size];exact hlt
      have hu:=hs'.tmps t _ _ (Array.getElem?_eq_getElem hlt') hc
      have ha:a.tmps[t]? =some a.tmps[t]:=Array.getElem?_eq_getElem hlt'
      generalize a.tmps[t]=u at hu ha
      cases hu with
      |tup us cs hl h=>simp [yielded,ht,ha]
     refine listIn_step ?_
     simp only [Region.wanted,hg,hy]
     rw[if_neg (by simp)]
     exact pass _ hs hk
    ·cases hk
   ·cases hk
def dsts (os:List Oper):List Nat:=os.filterMap (·.dst)
theorem segT_frame (hE:E.Ok){ops:Array Oper}{s':VSt}: ∀ {os:List Oper} {s:VSt},(segT sy P ops os s).run E=some s'→s'.h=s.h∧s'.t.length=s.t.length∧ ∀k,k ∉ dsts os→s'.t[k]? =s.t[k]?
 | [],s,hk=>by cases hk;exact⟨rfl,rfl,fun _ _=>rfl⟩
 |o::os,s,hk=>by
  have step: ∀x:V,(segT sy P ops os (s.next [] s.h o.dst x)).run E=some s'→s'.h=s.h∧s'.t.length=s.t.length∧ ∀k,k ∉ dsts (o::os)→s'.t[k]? =s.t[k]? :=by
   intro x hk
   obtain⟨q1,q2,q3⟩:=segT_frame hE hk
   rw[next_nil]at q1 q2 q3
   refine⟨q1,by rw[q2];cases o.dst<;>simp,fun k hk'=> ?_⟩
   have hk2:k ∉ dsts os:=fun h=>hk' (by unfold dsts at h ⊢;rw[List.filterMap_cons];cases o.dst<;>simp [h])
   rw[q3 k hk2]
   cases hd:o.dst with
   |none=>rfl
   |some d=>
    have:d≠k:=fun e=>hk' (by unfold dsts;rw[List.filterMap_cons,hd];simp [e])
    simp only
    rw[List.getElem?_set,if_neg this]
  have exec:((segStepT sy P s o).bind fun x=>forceS (s.next [] s.h o.dst x) (segT sy P ops os)).run E=some s'→s'.h=s.h∧s'.t.length=s.t.length∧ ∀k,k ∉ dsts (o::os)→s'.t[k]? =s.t[k]? :=by
   intro hk
   obtain⟨x,h1,hk⟩:=run_bind_some hE hk
   rw[forceS_eq]at hk
   exact step x hk
  have pass:(forceS (s.next [] s.h o.dst (.tup [])) (segT sy P ops os)).run E=some s'→s'.h=s.h∧s'.t.length=s.t.length∧ ∀k,k ∉ dsts (o::os)→s'.t[k]? =s.t[k]? :=by
   intro hk
   rw[forceS_eq]at hk
   exact step _ hk
  unfold segT at hk
  simp only at hk
  split at hk
  ·exact exec hk
  ·split at hk
   ·rename_i t ht
    split at hk
    ·rename_i c hc
     have e: ∀b,c=b→s.setT t b=s:=fun b hb=>by
      subst hb
      show { s with t:=s.t.set t _ }=s
      rw[set_self' hc]
     split at hk<;>cases c<;>simp only [Tree.run,e _ rfl]at hk
     ·exact pass hk
     ·exact exec hk
     ·exact exec hk
     ·exact pass hk
    ·exact pass hk
    ·cases hk
   ·cases hk
theorem anyAll_spec: ∀ {os:List Oper} {t:List V},(anyAll t os).length=t.length∧ ∀(k:Nat) v,(anyAll t os)[k]? =some v→v= .any∨(k ∉ dsts os∧t[k]? =some v)
 | [],t=>⟨rfl,fun k v h=> .inr ⟨by simp [dsts],h⟩⟩
 |o::os,t=>by
  obtain⟨q1,q2⟩:=anyAll_spec (os:=os) (t:=match o.dst with|some d=>t.set d .any|none=>t)
  refine⟨by unfold anyAll;rw[q1];cases o.dst<;>simp,fun k v h=> ?_⟩
  unfold anyAll at h
  rcases q2 k v h with h1|⟨h1,h2⟩
  ·exact .inl h1
  ·cases hd:o.dst with
   |none=>
    rw[hd]at h2
    exact .inr ⟨by unfold dsts at h1 ⊢;rw[List.filterMap_cons,hd];exact h1,h2⟩
   |some d=>
    rw[hd]at h2
    simp only at h2
    rw[List.getElem?_set]at h2
    by_cases hk:d=k
    ·rw[if_pos hk]at h2
     split at h2
     ·cases h2;exact .inl rfl
     ·cases h2
    ·rw[if_neg hk]at h2
     refine .inr ⟨?_,h2⟩
     unfold dsts at h1 ⊢
     rw[List.filterMap_cons,hd]
     simp only [List.mem_cons,not_or]
     exact⟨fun e=>hk e.symm,h1⟩
theorem SimE.less {En:Ent}{s s2:VSt}{a:Act}{w:World}(hs:SimE En s a w)(hh:s2.h=s.h)(hl:s2.t.length=s.t.length)(ht: ∀(k:Nat) v,s2.t[k]? =some v→v= .any∨s.t[k]? =some v):SimE En s2 a w:=by
 obtain⟨g,hs⟩:=hs
 refine⟨g,by rw[hh];exact hs.heap,by rw[hl];exact hs.size,fun i u v hu hv=> ?_,by rw[hh];exact hs.defers,by rw[hh];exact hs.keep,by rw[hl];exact hs.len⟩
 rcases ht i v hv with rfl|h
 ·exact .any u
 ·exact hs.tmps i u v hu h
theorem opsT_skip {A:Sy}{ent:Callee→List V→List Box→Tree (List Nat × V × List Box)}{C:CfgO}{n0:Nat}{M0:List Nat}{ops:Array Oper}: ∀(k:Nat) (os:List Oper) (s:VSt),opsT A P ent C n0 M0 ops k os s=opsT A P ent C n0 M0 ops 0 (os.drop k) s
 |0,_,_=>rfl
 |k+1,[],s=>by simp [opsT]
 |k+1,_::os,s=>by
  show opsT A P ent C n0 M0 ops k os s=opsT A P ent C n0 M0 ops 0 (os.drop k) s
  exact opsT_skip k os s
theorem SimE.mintB {P:Program}{En:Ent}{a:Act}{w:World}: ∀(l:List (Nat × Nat × TypeId)) {s:VSt},SimE En s a w→SimE En (mintB P s l) a w
 | [],_,hs=>hs
 |(b,off,t)::l,s,hs=>by
  unfold Go.Vm.mintB
  split
  ·rename_i k vs e sz hb hel
   split
   ·rename_i hv
    refine SimE.mintB l ?_
    obtain⟨g,hs⟩:=hs
    have hn:g.n=s.h.length:=hs.heap.n
    let v0:Value:= .slice none 0 0
    have hv1:(g.push 0 v0).val g.n=v0:=by simp [Gh.push]
    have hk:=Keep.push (R:=none) (x:= .arr e sz []) hs.heap 0 v0 (w':=w) (Fr.refl _ _) ⟨by simp, .inl ⟨hv1,rfl⟩⟩ (fun k' hk'=>by simp [Box.at?,hv1,v0]at hk')
    have hbl:b < s.h.length:=(List.getElem?_eq_some_iff.1 hb).1
    have hb1:(s.h++[Box.arr e sz []])[b]? =some (.cells k vs):=by rw[List.getElem?_append,if_pos hbl];exact hb
    obtain⟨us,o,h1,h0,h2,h3⟩:=hk.heap.rep b _ hb1
    have hk2:=Keep.turn (g':=g.push 0 v0) (y:= .cells k (vs.set off (.own s.h.length))) hk.heap hb1 [] (.inl ⟨rfl,rfl⟩) rfl rfl rfl (fun _ _=>⟨rfl,rfl⟩) (Fr.refl _ _)
     ⟨us,o,h1,h0,by simpa using h2,fun i u v hu hv'=>by
      rw[List.getElem?_set]at hv'
      split at hv'
      ·rename_i hi
       subst hi
       split at hv'
       ·cases hv'
        have:=h3 off u .nils hu hv
        cases this
        have:=Rep.own (w:=w) (g:=g.push 0 v0) g.n (by simp [Gh.push])
        rwa [hv1,hn]at this
       ·cases hv'
      ·exact h3 i u v hu hv'⟩ (fun k hk=> .inl hk)
    rw[map_kill_nil]at hk2
    have e1:(s.h++[Box.arr e sz []]).set b (.cells k (vs.set off (.own s.h.length)))=s.h.set b (.cells k (vs.set off (.own s.h.length)))++[.arr e sz []]:=by
     rw[List.set_append_left _ _ hbl]
    rw[e1]at hk2
    have s1:=hs.next hk (by simp [okM]) (x:= .any) (u:=undef) (.any undef) none
    have s2:=s1.next hk2 (by simp [okM]) (x:= .any) (u:=undef) (.any undef) none
    exact⟨_,s2⟩
   ·exact SimE.mintB l hs
  ·rename_i e sz hb hel
   split
   ·rename_i hv
    refine SimE.mintB l ?_
    obtain⟨g,hs⟩:=hs
    have hn:g.n=s.h.length:=hs.heap.n
    let v0:Value:= .slice none 0 0
    have hv1:(g.push 0 v0).val g.n=v0:=by simp [Gh.push]
    have hk:=Keep.push (R:=none) (x:= .arr e sz []) hs.heap 0 v0 (w':=w) (Fr.refl _ _) ⟨by simp, .inl ⟨hv1,rfl⟩⟩ (fun k' hk'=>by simp [Box.at?,hv1,v0]at hk')
    have s1:=hs.next hk (by simp [okM]) (x:= .any) (u:=undef) (.any undef) none
    have e1:(s.next [] (s.h++[Box.arr e sz []]) none .any)=⟨s.t,s.h++[Box.arr e sz []]⟩:=rfl
    have e2:a.put none undef=a:=rfl
    rw[e1,e2]at s1
    refine⟨_,s1.heap,by simpa using s1.size,fun i u v hu hv'=> ?_,s1.defers,s1.keep,by simpa using s1.len⟩
    rw[List.getElem?_set]at hv'
    split at hv'
    ·rename_i hi
     subst hi
     split at hv'
     ·cases hv'
      have:=s1.tmps off u .nils hu hv
      cases this
      have:=Rep.own (w:=w) (g:=g.push 0 v0) g.n (by simp [Gh.push])
      rwa [hv1,hn]at this
     ·cases hv'
    ·exact s1.tmps i u v hu hv'
   ·exact SimE.mintB l hs
  ·exact SimE.mintB l hs
theorem SimE.mintP {P:Program}{En:Ent}{a:Act}{w:World}: ∀(l:List (Nat × Nat × Nat × Nat × TypeId)) {s:VSt},SimE En s a w→SimE En (Go.Vm.mintP P s l) a w
 | [],_,hs=>hs
 |(b,off,b2,off2,t)::l,s,hs=>by
  unfold Go.Vm.mintP
  split
  ·rename_i k vs k2 vs2 e sz hb hb2 hel hne
   have hne:=of_decide_eq_false hne
   split
   ·rename_i hv hv2
    refine SimE.mintP l ?_
    obtain⟨g,hs⟩:=hs
    have hn:g.n=s.h.length:=hs.heap.n
    let v0:Value:= .slice none 0 0
    have hv1:(g.push 0 v0).val g.n=v0:=by simp [Gh.push]
    have hk:=Keep.push (R:=none) (x:= .arr e sz []) hs.heap 0 v0 (w':=w) (Fr.refl _ _) ⟨by simp, .inl ⟨hv1,rfl⟩⟩ (fun k' hk'=>by simp [Box.at?,hv1,v0]at hk')
    have own0: ∀u,Rep w (g.push 0 v0) u .nils→Rep w (g.push 0 v0) u (.own s.h.length):=fun u hu=>by
     cases hu
     have:=Rep.own (w:=w) (g:=g.push 0 v0) g.n (by simp [Gh.push])
     rwa [hv1,hn]at this
    have hbl:b < s.h.length:=(List.getElem?_eq_some_iff.1 hb).1
    have hbl2:b2 < s.h.length:=(List.getElem?_eq_some_iff.1 hb2).1
    have hb1:(s.h++[Box.arr e sz []])[b]? =some (.cells k vs):=by rw[List.getElem?_append,if_pos hbl];exact hb
    obtain⟨us,o,h1,h0,h2,h3⟩:=hk.heap.rep b _ hb1
    have hk2:=Keep.turn (g':=g.push 0 v0) (y:= .cells k (vs.set off (.own s.h.length))) hk.heap hb1 [] (.inl ⟨rfl,rfl⟩) rfl rfl rfl (fun _ _=>⟨rfl,rfl⟩) (Fr.refl _ _)
     ⟨us,o,h1,h0,by simpa using h2,fun i u v hu hv'=>by
      rw[List.getElem?_set]at hv'
      split at hv'
      ·rename_i hi
       subst hi
       split at hv'
       ·cases hv'
        exact own0 u (h3 off u .nils hu hv)
       ·cases hv'
      ·exact h3 i u v hu hv'⟩ (fun k hk=> .inl hk)
    rw[map_kill_nil]at hk2
    have e1:(s.h++[Box.arr e sz []]).set b (.cells k (vs.set off (.own s.h.length)))=s.h.set b (.cells k (vs.set off (.own s.h.length)))++[.arr e sz []]:=by
     rw[List.set_append_left _ _ hbl]
    rw[e1]at hk2
    have hb3:(s.h.set b (.cells k (vs.set off (.own s.h.length)))++[Box.arr e sz []])[b2]? =some (.cells k2 vs2):=by
     rw[List.getElem?_append,if_pos (by simpa using hbl2),List.getElem?_set,if_neg hne];exact hb2
    obtain⟨us',o',h1',h0',h2',h3'⟩:=hk2.heap.rep b2 _ hb3
    have hk3:=Keep.turn (g':=g.push 0 v0) (y:= .cells k2 (vs2.set off2 (.own s.h.length))) hk2.heap hb3 [] (.inl ⟨rfl,rfl⟩) rfl rfl rfl (fun _ _=>⟨rfl,rfl⟩) (Fr.refl _ _)
     ⟨us',o',h1',h0',by simpa using h2',fun i u v hu hv'=>by
      rw[List.getElem?_set]at hv'
      split at hv'
      ·rename_i hi
       subst hi
       split at hv'
       ·cases hv'
        exact own0 u (h3' off2 u .nils hu hv2)
       ·cases hv'
      ·exact h3' i u v hu hv'⟩ (fun k hk=> .inl hk)
    rw[map_kill_nil]at hk3
    have e2:(s.h.set b (.cells k (vs.set off (.own s.h.length)))++[Box.arr e sz []]).set b2 (.cells k2 (vs2.set off2 (.own s.h.length)))=(s.h.set b (.cells k (vs.set off (.own s.h.length)))).set b2 (.cells k2 (vs2.set off2 (.own s.h.length)))++[.arr e sz []]:=by
     rw[List.set_append_left _ _ (by simpa using hbl2)]
    rw[e2]at hk3
    have s1:=hs.next hk (by simp [okM]) (x:= .any) (u:=undef) (.any undef) none
    have s2:=s1.next hk2 (by simp [okM]) (x:= .any) (u:=undef) (.any undef) none
    have s3:=s2.next hk3 (by simp [okM]) (x:= .any) (u:=undef) (.any undef) none
    exact⟨_,s3⟩
   ·exact SimE.mintP l hs
  ·exact SimE.mintP l hs
theorem datV_rep {P:Program}{t:TypeId}{v x:V}{w:World}{g:Gh}{u:Value}(h:datV P t v=some x)(hr:Rep w g u v):Rep w g u x:=by
 unfold datV at h
 split at h
 ·split at h<;>cases h
  cases hr
  exact .d (.slnil _)
 ·split at h<;>cases h
  cases hr
  exact .ifo0 _ _
 ·cases h
theorem SimE.datB {P:Program}{En:Ent}{a:Act}{w:World}: ∀(l:List (Nat × Nat × TypeId)) {s:VSt},SimE En s a w→SimE En (Go.Vm.datB P s l) a w
 | [],_,hs=>hs
 |(b,off,t)::l,s,hs=>by
  unfold Go.Vm.datB
  split
  ·rename_i k vs hb
   split
   ·exact SimE.datB l hs.frzs
   ·rename_i v hno hv
    split
    ·rename_i x hx
     refine SimE.datB l ?_
     obtain⟨g,hs⟩:=hs
     obtain⟨us,o,h1,h0,h2,h3⟩:=hs.heap.rep b _ hb
     have hk2:=Keep.turn (g':=g) (y:= .cells k (vs.set off x)) hs.heap hb [] (.inl ⟨rfl,rfl⟩) rfl rfl rfl (fun _ _=>⟨rfl,rfl⟩) (Fr.refl _ _)
      ⟨us,o,h1,h0,by simpa using h2,fun i u v' hu hv'=>by
       rw[List.getElem?_set]at hv'
       split at hv'
       ·rename_i hi
        subst hi
        split at hv'
        ·cases hv'
         exact datV_rep hx (h3 off u v hu hv)
        ·cases hv'
       ·exact h3 i u v' hu hv'⟩ (fun k hk=> .inl hk)
     rw[map_kill_nil]at hk2
     exact⟨_,hs.next hk2 (by simp [okM]) (x:= .any) (u:=undef) (.any undef) none⟩
    ·exact SimE.datB l hs
   ·exact SimE.datB l hs
  ·split
   ·exact SimE.datB l hs.frzs
   ·rename_i v hno hv
    split
    ·rename_i x hx
     refine SimE.datB l ?_
     obtain⟨g,hs⟩:=hs
     refine⟨g,hs.heap,by simpa using hs.size,fun i u v' hu hv'=> ?_,hs.defers,hs.keep,by simpa using hs.len⟩
     rw[List.getElem?_set]at hv'
     split at hv'
     ·rename_i hi
      subst hi
      split at hv'
      ·cases hv'
       exact datV_rep hx (hs.tmps off u v hu hv)
      ·cases hv'
     ·exact hs.tmps i u v' hu hv'
    ·exact SimE.datB l hs
   ·exact SimE.datB l hs
  ·exact SimE.datB l hs
theorem opsT_sound (hE:E.Ok)(hG:EnvGood P E){ro:Option Nat}{ent:Callee→List V→List Box→Tree (List Nat × V × List Box)}(hent:EntGood P E ent){C:CfgO}{En:Ent}{ops:Array Oper}{Q:Exit→Act→World→Prop}{r:Option V × VSt}: ∀(n:Nat) {os:List Oper} {s:VSt} {a:Act} {w:World},os.length≤n→
  (opsT sy P ent C En.g.n En.M ops 0 os s).run E=some r→SimE En s a w→(∀e a' w',OpR En r e a' w'→Q e a' w')→wpListIn (Fw ro) 0 P ops Q os a w
 |_,[],s,a,w,_,hk,hs,hq=>by cases hk;exact hq .normal a w ⟨rfl,hs⟩
 |0,_::_,s,a,w,hn,_,_,_=>by simp at hn
 |n+1,o::os,s,a,w,hn,hk,hs,hq=>by
  have hn:os.length≤n:=by simpa using hn
  have exec: ∀s,SimE En s a w→((stepT sy P ent C En.g.n En.M s o).bind fun q=>match q.1 with
   |some p=> .ret (some p,q.2)
   |none=>forceS (mintB P q.2 (ownAt C s o)) fun s'=>match segOf P C ops o os with
    |some L=> .cut ((segT sy P ops (os.take L) s').bind fun s2=>match s2.t[lastDst 0 (os.take L)]? with
      |some (.d (.bool b))=> .ret (.inl [.bool b])
      |_=> .fail) fun ds=> .cB (sy.cell ds 0) fun b=>forceS ⟨(anyAll s'.t (os.take L)).set (lastDst 0 (os.take L)) (.d (.bool b)),s'.h⟩ (opsT sy P ent C En.g.n En.M ops L os)
    |none=>opsT sy P ent C En.g.n En.M ops 0 os s').run E=some r→o.wpIn (Fw ro) 0 P a w (wpListIn (Fw ro) 0 P ops Q os) Q:=by
   intro s hs hk
   obtain⟨q1,h1,hk⟩:=run_bind_some hE hk
   obtain⟨p1,s1⟩:=q1
   cases p1 with
   |some p=>
    cases hk
    exact stepT_sound hE hG hent h1 hs (fun a' w' h=>(by cases h)) fun p' e a' w' hp hpe=>hq e a' w' (by cases hp;exact hpe)
   |none=>
   simp only at hk
   rw[forceS_eq]at hk
   refine stepT_sound hE hG hent h1 hs (fun a' w' _ hs'=> ?_) (fun p e a' w' h=>by cases h)
   simp only at hs'
   have hs':=hs'.mintB (P:=P) (ownAt C s o)
   generalize mintB P s1 (ownAt C s o)=s1 at hk hs'
   split at hk
   ·rename_i L _
    simp only [Tree.run]at hk
    obtain⟨q,h2,hk⟩:=Option.bind_eq_some_iff.1 hk
    obtain⟨s2,h3,h4⟩:=run_bind_some hE h2
    have hre:os=os.take L++os.drop L:=(List.take_append_drop L os).symm
    generalize os.take L=seg at h3 h4 hk hre
    rw[hre]
    refine segT_sound hE hG h3 hs' fun a2 w2 hs2=> ?_
    split at h4
    ·rename_i b hb
     cases h4
     have hk:(forceS ⟨(anyAll s1.t seg).set (lastDst 0 seg) (.d (.bool b)),s1.h⟩ (opsT sy P ent C En.g.n En.M ops L os)).run E=some r:=hk
     rw[forceS_eq,opsT_skip]at hk
     obtain⟨f1,f2,f3⟩:=segT_frame hE h3
     obtain⟨g1,g2⟩:=anyAll_spec (os:=seg) (t:=s1.t)
     refine opsT_sound hE hG hent n (by simp;omega) hk ?_ hq
     refine hs2.less f1.symm (by simp [g1,f2]) fun k v hv=> ?_
     simp only at hv
     rw[List.getElem?_set]at hv
     by_cases hkd:lastDst 0 seg=k
     ·rw[if_pos hkd]at hv
      split at hv
      ·cases hv;right;rw[←hkd];exact hb
      ·cases hv
     ·rw[if_neg hkd]at hv
      rcases g2 k v hv with h5|⟨h5,h6⟩
      ·exact .inl h5
      ·right;rw[f3 k h5];exact h6
    ·cases h4
   ·exact opsT_sound hE hG hent n hn hk hs' hq
  have pass: ∀s,SimE En s a w→(forceS (s.next [] s.h o.dst (.tup [])) (opsT sy P ent C En.g.n En.M ops 0 os)).run E=some r→wpListIn (Fw ro) 0 P ops Q os (a.put o.dst undef) w:=by
   intro s hs hk
   rw[forceS_eq]at hk
   obtain⟨g,hs'⟩:=hs
   exact opsT_sound hE hG hent n hn hk ⟨g,hs'.next (.refl hs'.heap) (by simp [okM]) (.tup #[] [] rfl (by simp)) o.dst⟩ hq
  unfold opsT at hk
  simp only at hk
  split at hk
  ·rename_i hg
   refine listIn_step ?_
   simp only [Region.wanted,hg,if_true]
   exact exec s hs hk
  ·rename_i j want hg
   split at hk
   ·rename_i t ht
    split at hk
    ·rename_i c hc
     obtain⟨hs1,ha⟩:=setT_sim hs hc
     have hy:yielded ops a.tmps j=some c:=by simp [yielded,ht,ha]
     refine listIn_step ?_
     simp only [Region.wanted,hg,hy]
     split at hk<;>cases c
     ·rw[if_neg (by simp)]
      exact pass _ hs1 hk
     ·rw[if_pos (by simp)]
      exact exec _ hs1 hk
     ·rw[if_pos (by simp)]
      exact exec _ hs1 hk
     ·rw[if_neg (by simp)]
      exact pass _ hs1 hk
    ·rename_i hc
     have hy:yielded ops a.tmps j=none:=by
      have hlt:t < s.t.length:=(List.getElem?_eq_some_iff.1 hc).1
      obtain⟨g,hs'⟩:=hs
      have hlt':t < a.tmps.size:=by rw[hs'.size];exact hlt
      have hu:=hs'.tmps t _ _ (Array.getElem?_eq_getElem hlt') hc
      have ha:a.tmps[t]? =some a.tmps[t]:=Array.getElem?_eq_getElem hlt'
      generalize a.tmps[t]=u at hu ha
      cases hu with
      |tup us cs hl h=>simp [yielded,ht,ha]
     refine listIn_step ?_
     simp only [Region.wanted,hg,hy]
     rw[if_neg (by simp)]
     exact pass _ hs hk
    ·cases hk
   ·cases hk
end
section
variable (A : Sy) (P : Program) (C : CfgO)
def opXT (h:List Box)(ρ:Operand→V)(o:Oper):Tree V:=match callOf P ρ o with
 |some (f,vs0)=>match canL P (parP P f) vs0 with
  |vs=>match C.inl.contains f,vs.all V.pureB,sigP P f with
  |false,true,some ts=>callT A P f vs ts
  |_,_,_=> .fail
 |none=>opPT A P h ρ o
def guardT {β:Type}(ops:Array Oper)(o:Oper)(t:List V)(exec pass:List V→Tree β):Tree β:=match o.guard with
 |none=>exec t
 |some (j,want)=>match (ops[j]?).bind (·.dst)with
  |some k=>match t[k]? with
   |some (.d (.bool c))=>match want with
    |true=> .ite c (exec (t.set k (.d (.bool true)))) (pass (t.set k (.d (.bool false))))
    |false=> .ite c (pass (t.set k (.d (.bool true)))) (exec (t.set k (.d (.bool false))))
   |some (.tup [])=>pass t
   |_=> .fail
  |none=> .fail
def preT (ops:Array Oper)(h0:List Box):List Oper→List V→List Box→Tree (List V × List Box)
 | [],t,hb=> .ret (t,hb)
 |o::os,t,hb=>guardT ops o t (fun t=>match allocV P o,hb with
   |some b,[]=>forceL (putV t o.dst (.ptr h0.length 0)) fun t=>preT ops h0 os t [b]
   |some _,_=> .fail
   |none,_=>(opXT A P C h0 (VSt.get ⟨t,h0⟩) o).bind fun x=>forceL (putV t o.dst x) fun t=>preT ops h0 os t hb)
  (fun t=>forceL (putV t o.dst (.tup [])) fun t=>preT ops h0 os t hb)
def stT (hW:List Box)(W:List Nat)(n0:Nat)(hh:List Box)(t:TypeId)(a v:V):Tree (Nat × Box):=
 match v.cellsV,v.liveC hW with
 |some ns,true=>match a with
  | .ptr b off=>match W.contains b&&decide (b < n0),hh[b]? with
    |true,some (.cells (.ty bt) vs)=>match ns.all (V.oneB hW),decide (szO P t=some ns.length),decide (off+ns.length≤vs.length)with
     |true,true,true=> .ret (b, .cells (.ty bt) (vs.take off++ns++vs.drop (off+ns.length)))
     |_,_,_=> .fail
    |_,_=> .fail
  | .pml b sz i off=>match W.contains b&&decide (b < n0),hh[b]?,shOf P 9 t with
    |true,some (.arr e sz' rows),some ss=>match decide (sz'=sz),toDs ss ns with
     |true,some ds=>match decide (szO P t=some ds.length),decide (off+ds.length≤sz)with
      |true,true=>chk (A.inrn i rows) (.ret (b, .arr e sz (A.rput rows i off ds)))
      |_,_=> .fail
     |_,_=> .fail
    |_,_,_=> .fail
  |_=> .fail
 |_,_=> .fail
def pre2T (ops:Array Oper)(W:List Nat)(h0:List Box):Nat→List Oper→Bool→List V→List Box→Tree (List V × List Box)
 |_,[],_,t,hh=> .ret (t,hh)
 |k,o::os,cl,t,hh=>guardT ops o t (fun t=>match o.op with
   | .store ty y z=>(stT A P (hideB h0 W) W h0.length hh ty (VSt.get ⟨t,h0⟩ y) (VSt.get ⟨t,h0⟩ z)).bind fun r=>forceL (putV t o.dst .any) fun t=>forceH (hh.set r.1 r.2) fun hh=>pre2T ops W h0 (k+1) os false t hh
   |_=>match allocV P o with
    |some b=>match decide (hh.length=h0.length)with
     |true=>forceL (putV t o.dst (.ptr h0.length 0)) fun t=>pre2T ops W h0 (k+1) os cl t (hh++[b])
     |false=> .fail
    |none=>match cl&&early ops k with
     |true=>(opXT A P C h0 (VSt.get ⟨t,h0⟩) o).bind fun x=>forceL (putV t o.dst x) fun t=>pre2T ops W h0 (k+1) os cl t hh
     |false=>(opXT A P C (hideB h0 W) (VSt.get ⟨t,h0⟩) o).bind fun x=>forceL (putV t o.dst x) fun t=>pre2T ops W h0 (k+1) os cl t hh)
  (fun t=>forceL (putV t o.dst (.tup [])) fun t=>pre2T ops W h0 (k+1) os cl t hh)
variable (ent : Callee → List V → List Box → Tree (List Nat × V × List Box)) (n0 : Nat) (M0 : List Nat)
def iceT (ops:Array Oper)(s:VSt):VSt:=s.frz (ops.toList.flatMap fun o=>match o.op with
 | .call ⟨.value f,args,_⟩=>fzl s o++(match f with
   | .func f=>match C.inl.contains f with
     |true=>[]
     |false=>args.toList.flatMap fun y=>match addrV P ops s 12 y with
      |some (.own b)=>[b]
      |_=>[]
   |_=>[])
 |_=>[])
def drawS (o:Oper):Bool:=(match o.op with
    | .call ⟨.value (.func f),_,_⟩=>C.inl.contains f
    |_=>false) || (match o.dst with
    |some d=>C.stop.contains d
    |none=>false)
def drawMs (ops:Array Oper):Nat:=(ops.toList.takeWhile fun o=>calm o&& !drawS C o).length
def drawOKs (ops:Array Oper):Bool:=sufOK ops (drawMs C ops)&&backOK ops (drawMs C ops)&&lexOK ops (drawMs C ops) (drawMs C ops) 0 (Array.replicate ops.size false)&&seqOK ops (ops.size - drawMs C ops) (drawMs C ops) (listedTo ops.size (drawMs C ops))
def drawT0 (ops:Array Oper)(s:VSt):Tree (Option V × VSt):=match drawOKs C ops with
 |true=>forceS (iceT P C ops s) fun s=>forceSp (ops.toList.take (drawMs C ops)) fun l1=>forceSp (ops.toList.drop (drawMs C ops)) fun l2=>(preT A P C ops s.h l1 s.t []).bind fun r=>forceS ⟨r.1,s.h++r.2⟩ fun s=>opsT A P ent C n0 M0 ops 0 l2 s
 |false=>match drawOK2 ops with
  |true=>forceS (iceT P C ops s) fun s=>forceSp (ops.toList.flatMap (stBox P ops s)) fun W=>(pre2T A P C ops W s.h 0 ops.toList true s.t s.h).bind fun r=> .ret (none,⟨r.1,r.2⟩)
  |false=> .fail
end
section
variable {P : Program} {M : List Nat} {h h' h2 h0 hh : List Box} {ρ ρ2 : Operand → V} {o : Oper} {x : V} {ops : Array Oper} {W : List Nat} {E : Env} {C : CfgO}
theorem opPT_congr (he: ∀y,y∈o.op.operands.toList→ρ y=ρ2 y)(hk:(opPT sy P h ρ o).run E=some x):(opPT sy P h ρ2 o).run E=some x:=by
 unfold opPT at hk ⊢
 cases hop:o.op<;>simp only [hop]at hk ⊢ <;>(try (cases hk;done))
 case move y=>rw[←he y (by simp [hop,Op.operands])];exact hk
 case assign y=>rw[←he y (by simp [hop,Op.operands])];exact hk
 case pick c a b=>rw[←he c (by simp [hop,Op.operands]),←he a (by simp [hop,Op.operands]),←he b (by simp [hop,Op.operands])];exact hk
 case build t parts=>
  have e1:(parts.toList.map fun q=>(q.1,ρ q.2))=parts.toList.map fun q=>(q.1,ρ2 q.2):=List.map_congr_left fun q hq=>by
   rw[he q.2 (by simp only [hop,Op.operands];exact List.mem_map.2 ⟨q,hq,rfl⟩)]
  have e2:(parts.toList.all fun q=>(ρ q.2).liveC h)=parts.toList.all fun q=>(ρ2 q.2).liveC h:=by
   rw[Bool.eq_iff_iff,List.all_eq_true,List.all_eq_true]
   refine⟨fun hh q hq=> ?_,fun hh q hq=> ?_⟩
   ·rw[←he q.2 (by simp only [hop,Op.operands];exact List.mem_map.2 ⟨q,hq,rfl⟩)];exact hh q hq
   ·rw[he q.2 (by simp only [hop,Op.operands];exact List.mem_map.2 ⟨q,hq,rfl⟩)];exact hh q hq
  rw[←e1,←e2];exact hk
 case buildSlice t n parts=>
  have e1:(parts.toList.map fun q=>(q.1,ρ q.2))=parts.toList.map fun q=>(q.1,ρ2 q.2):=List.map_congr_left fun q hq=>by
   rw[he q.2 (by simp only [hop,Op.operands];exact List.mem_map.2 ⟨q,hq,rfl⟩)]
  have e2:(parts.toList.all fun q=>(ρ q.2).liveC h)=parts.toList.all fun q=>(ρ2 q.2).liveC h:=by
   rw[Bool.eq_iff_iff,List.all_eq_true,List.all_eq_true]
   refine⟨fun hh q hq=> ?_,fun hh q hq=> ?_⟩
   ·rw[←he q.2 (by simp only [hop,Op.operands];exact List.mem_map.2 ⟨q,hq,rfl⟩)];exact hh q hq
   ·rw[he q.2 (by simp only [hop,Op.operands];exact List.mem_map.2 ⟨q,hq,rfl⟩)];exact hh q hq
  rw[←e1,←e2];exact hk
 case load t y=>rw[←he y (by simp [hop,Op.operands])];exact hk
 case nilCheck y=>rw[←he y (by simp [hop,Op.operands])];exact hk
 case binOp op t y z u=>rw[←he y (by simp [hop,Op.operands]),←he z (by simp [hop,Op.operands])];exact hk
 case unOp op t y=>rw[←he y (by simp [hop,Op.operands])];exact hk
 case convert s t y=>rw[←he y (by simp [hop,Op.operands])];exact hk
 case makeFunc fn first caps=>
  have e1:caps.toList.map ρ=caps.toList.map ρ2:=List.map_congr_left fun q hq=>he q (by simp [hop,Op.operands];right;simpa using hq)
  have e2: ∀y∈first.toList,ρ y=ρ2 y:=fun y hy=>he y (by simp [hop,Op.operands];left;simpa using hy)
  obtain⟨l⟩:=first
  cases fn<;>(try (cases hk;done))
  match l,hk,e2 with
  | [],hk,_=>simp only at hk ⊢;rw[←e1];exact hk
  | [y],hk,e2=>simp only at hk ⊢;rw[←e2 y (by simp)];exact hk
  |_::_::_,hk,_=>cases hk
 case typeAssert y _ _ _=>rw[←he y (by simp [hop,Op.operands])];exact hk
 case makeInterface t y=>rw[←he y (by simp [hop,Op.operands])];exact hk
 case slice t y lo hi mx=>
  have e1:lo.map ρ=lo.map ρ2:=by cases lo with
   |none=>rfl
   |some q=>simp [he q (by simp [hop,Op.operands])]
  have e2:hi.map ρ=hi.map ρ2:=by cases hi with
   |none=>rfl
   |some q=>simp [he q (by simp [hop,Op.operands])]
  rw[←he y (by simp [hop,Op.operands]),←e1,←e2]
  cases mx with
  |none=>exact hk
  |some m=>cases hi with
   |none=>exact hk
   |some r=>
    simp only at hk ⊢
    rw[←he r (by simp [hop,Op.operands]),←he m (by simp [hop,Op.operands])];exact hk
 case fieldAddr s y f=>rw[←he y (by simp [hop,Op.operands])];exact hk
 case field t y f=>rw[←he y (by simp [hop,Op.operands])];exact hk
 case lookup t y z c=>rw[←he y (by simp [hop,Op.operands]),←he z (by simp [hop,Op.operands])];exact hk
 case indexAddr t y z=>rw[←he y (by simp [hop,Op.operands]),←he z (by simp [hop,Op.operands])];exact hk
 case index t y z=>rw[←he y (by simp [hop,Op.operands]),←he z (by simp [hop,Op.operands])];exact hk
 case extract y i=>rw[←he y (by simp [hop,Op.operands])];exact hk
 case call c=>
  obtain⟨cal,args,ts⟩:=c
  have hargs:args.toList.map ρ=args.toList.map ρ2:=List.map_congr_left fun q hq=>he q (by
   simp only [hop,Op.operands,Call.operands,Array.toList_append,List.mem_append];right;exact hq)
  cases cal with
  |value q=>
   have hmem: ∀q,q∈args.toList→ρ q=ρ2 q:=fun q hq=>he q (by
    simp only [hop,Op.operands,Call.operands,Array.toList_append,List.mem_append];right;exact hq)
   have hq:ρ q=ρ2 q:=he q (by simp [hop,Op.operands,Call.operands])
   obtain⟨l⟩:=args
   match l,hk,hmem with
   | [],hk,_=>cases hk
   | [_],hk,_=>cases hk
   | [y,z],hk,hmem=>simp only at hk ⊢;rw[←hq,←hmem y (by simp),←hmem z (by simp)];exact hk
   |_::_::_::_,hk,_=>cases hk
  |invoke r m=>cases hk
  |builtin b=>
   have hmem: ∀q,q∈args.toList→ρ q=ρ2 q:=fun q hq=>he q (by
    simp only [hop,Op.operands,Call.operands,Array.toList_append,List.mem_append];right;exact hq)
   obtain⟨l⟩:=args
   cases b<;>(try (cases hk;done))
   case len=>
    match l,hk,hmem with
    | [y],hk,hmem=>simp only at hk ⊢;rw[←hmem y (by simp)];exact hk
   case cap=>
    match l,hk,hmem with
    | [y],hk,hmem=>simp only at hk ⊢;rw[←hmem y (by simp)];exact hk
   case max=>
    match l,hk,hmem with
    | [y,z],hk,hmem=>simp only at hk ⊢;rw[←hmem y (by simp),←hmem z (by simp)];exact hk
   case min=>
    match l,hk,hmem with
    | [y,z],hk,hmem=>simp only at hk ⊢;rw[←hmem y (by simp),←hmem z (by simp)];exact hk
theorem callOf_congr (he: ∀y,y∈o.op.operands.toList→ρ y=ρ2 y):callOf P ρ o=callOf P ρ2 o:=by
 unfold callOf
 split
 ·rename_i y args ts hop
  have hargs:args.toList.map ρ=args.toList.map ρ2:=List.map_congr_left fun q hq=>he q (by
   simp only [hop,Op.operands,Call.operands,Array.toList_append,List.mem_append];right;exact hq)
  have hy:ρ y=ρ2 y:=he y (by simp [hop,Op.operands,Call.operands])
  rw[hargs]
  cases y<;>first|rfl|simp only [hy]
 ·rfl
theorem opXT_sound (hE:E.Ok)(hG:EnvGood P E)(hf: ∀f,ρ (.func f)= .fn f [])(hk:(opXT sy P C h ρ o).run E=some x): ∀h2,Pre h h2→Gives P [] h2 h2 (restr o ρ) o x:=by
 have hc0:=callOf_congr (P:=P) (ρ:=ρ) (ρ2:=restr o ρ) (o:=o) (fun y hy=>(restr_at hf hy).symm)
 unfold opXT at hk
 rw[hc0]at hk
 split at hk
 ·rename_i f vs hc
  simp only at hk
  split at hk
  ·rename_i hp hs
   obtain⟨y,args,ts,hop,hy⟩:=callOf_some hc (restr_func o ρ)
   obtain⟨q1,q2,_⟩:=callT_sound hE hG hp hs hk
   exact fun h2 _=>gives_callV hop hy (sigP_some hs) (q1.hcall hp q2 h2).can
  ·cases hk
 ·exact opPT_sound hE (opPT_congr (fun y hy=>(restr_at hf hy).symm) hk)
theorem guardT_run {β:Type}{t:List V}{exec pass:List V→Tree β}{r:β}(hk:(guardT ops o t exec pass).run E=some r):
  (wantV ops o t=some true∧(exec t).run E=some r)∨(wantV ops o t=some false∧(pass t).run E=some r):=by
 unfold guardT at hk
 split at hk
 ·rename_i hg
  exact .inl ⟨by simp [wantV,hg],hk⟩
 ·rename_i j want hg
  split at hk
  ·rename_i k hjk
   split at hk
   ·rename_i c hc
    have hw:wantV ops o t=some (c == want):=by simp [wantV,hg,hjk,hc]
    split at hk<;>cases c<;>simp only [Tree.run,set_self hc]at hk
    ·exact .inr ⟨by rw[hw];rfl,hk⟩
    ·exact .inl ⟨by rw[hw];rfl,hk⟩
    ·exact .inl ⟨by rw[hw];rfl,hk⟩
    ·exact .inr ⟨by rw[hw];rfl,hk⟩
   ·rename_i hc
    exact .inr ⟨by simp [wantV,hg,hjk,hc],hk⟩
   ·cases hk
  ·cases hk
theorem preT_lex (hE:E.Ok)(hG:EnvGood P E){r:List V × List Box}: ∀ {os:List Oper} {t:List V} {hb:List Box},(preT sy P C ops h0 os t hb).run E=some r→vLex P ops h0 (fun t hb=>(t,hb)=r) os t hb
 | [],_,_,hk=>by cases hk;rfl
 |o::os,t,hb,hk=>by
  unfold preT at hk
  rcases guardT_run hk with⟨hw,hk⟩|⟨hw,hk⟩
  ·cases hal:allocV P o with
   |some b=>
    simp only [hal]at hk
    cases hb with
    |nil=>simp only [forceL_eq]at hk;exact⟨_,_, .inl ⟨hw, .inr ⟨rfl,rfl,b,hal,rfl⟩⟩,preT_lex hE hG hk⟩
    |cons=>cases hk
   |none=>
    simp only [hal]at hk
    obtain⟨x,h1,hk⟩:=run_bind_some hE hk
    rw[forceL_eq]at hk
    exact⟨x,hb, .inl ⟨hw, .inl ⟨rfl,opXT_sound hE hG (fun f=>rfl) h1⟩⟩,preT_lex hE hG hk⟩
  ·rw[forceL_eq]at hk
   exact⟨.tup [],hb, .inr ⟨hw,rfl,rfl⟩,preT_lex hE hG hk⟩
theorem stT_sound {t:TypeId}{y z:Operand}{r:Nat × Box}(hop:o.op= .store t y z)(hk:(stT sy P (hideB h0 W) W h0.length hh t (ρ y) (ρ z)).run E=some r):
  ∃c,hh[r.1]? =some c∧r.1∈W∧r.1 < h0.length∧(∀h2,PreW W h0 h2→h2[r.1]? =some c→Gives P [] h2 (h2.set r.1 r.2) ρ o .any):=by
 unfold stT at hk
 split at hk
 ·rename_i ns hn hl
  split at hk
  ·rename_i b off hy
   split at hk
   ·rename_i bt vs hW hb
    simp only [Bool.and_eq_true,List.contains_eq_mem,decide_eq_true_eq]at hW
    split at hk
    ·rename_i c1 c2 c3
     cases hk
     exact⟨_,hb,hW.1,hW.2,fun h2 hp hb2=>gives_store_box hop hy hb2 hn (List.all_eq_true.2 fun q hq=>oneB_pre hp.pre (List.all_eq_true.1 c1 q hq)) (of_decide_eq_true c2) (of_decide_eq_true c3) (liveC_pre hp.pre hl)⟩
    ·cases hk
   ·cases hk
  ·rename_i b sz i off hy
   split at hk
   ·rename_i e sz' rows ss hW hb hss
    simp only [Bool.and_eq_true,List.contains_eq_mem,decide_eq_true_eq]at hW
    split at hk
    ·rename_i ds c1 hd
     have c1:=of_decide_eq_true c1
     subst c1
     split at hk
     ·rename_i c2 c3
      obtain⟨hi,hk⟩:=chk_some hk
      cases hk
      exact⟨_,hb,hW.1,hW.2,fun h2 hp hb2=>gives_store_pml hop hy hb2 (of_decide_eq_true hi) hn hd (of_decide_eq_true c2) (of_decide_eq_true c3) (liveC_pre hp.pre hl)⟩
     ·cases hk
    ·cases hk
   ·cases hk
  ·cases hk
 ·cases hk
theorem pre2T_lex (hE:E.Ok)(hG:EnvGood P E){r:List V × List Box}: ∀ {os:List Oper} {k:Nat} {cl:Bool} {t:List V} {hh:List Box},PreW W h0 hh→(cl=true→Pre h0 hh)→(pre2T sy P C ops W h0 k os cl t hh).run E=some r→vLex2 P ops W h0 (fun t hh=>(t,hh)=r) k os t hh
 | [],_,_,_,_,_,_,hk=>by cases hk;rfl
 |o::os,k,cl,t,hh,hpw,hpc,hk=>by
  unfold pre2T at hk
  rcases guardT_run hk with⟨hw,hk⟩|⟨hw,hk⟩
  ·split at hk
   ·rename_i ty y z hop
    have e1:restr o (VSt.get ⟨t,h0⟩) y=VSt.get ⟨t,h0⟩ y:=restr_at (fun f=>rfl) (by rw[hop];simp [Op.operands])
    have e2:restr o (VSt.get ⟨t,h0⟩) z=VSt.get ⟨t,h0⟩ z:=restr_at (fun f=>rfl) (by rw[hop];simp [Op.operands])
    rw[←e1,←e2]at hk
    obtain⟨⟨b,c'⟩,h1,hk⟩:=run_bind_some hE hk
    obtain⟨c,hb,hbW,hbn,hg⟩:=stT_sound hop h1
    simp only [forceL_eq,forceH_eq]at hk
    refine⟨.any,_,⟨.st b c c',⟨hw,by simp [isSt,hop],hg⟩,⟨hb,hpw,hbW,hbn⟩,rfl⟩,pre2T_lex hE hG ((preW_set hbW c').2 hpw) (fun h=>by cases h) hk⟩
   ·split at hk
    ·rename_i b hal
     split at hk
     ·rename_i hl
      have hl:=of_decide_eq_true hl
      rw[forceL_eq]at hk
      exact⟨_,_,⟨.alloc b,⟨hw,rfl,hal⟩,hl,rfl⟩,pre2T_lex hE hG ((preW_app hl b).2 hpw) (fun hc=>(pre_app hl b).2 (hpc hc)) hk⟩
     ·cases hk
    ·split at hk
     ·rename_i hce
      simp only [Bool.and_eq_true]at hce
      obtain⟨x,h1,hk⟩:=run_bind_some hE hk
      rw[forceL_eq]at hk
      exact⟨x,hh,⟨.early,⟨hw,hce.2,opXT_sound hE hG (fun f=>rfl) h1⟩,hpc hce.1,rfl⟩,pre2T_lex hE hG hpw hpc hk⟩
     ·obtain⟨x,h1,hk⟩:=run_bind_some hE hk
      rw[forceL_eq]at hk
      have h1:=opXT_sound hE hG (fun f=>rfl) h1
      exact⟨x,hh,⟨.late,⟨hw,fun h2 hp=>h1 h2 hp.pre⟩,hpw,rfl⟩,pre2T_lex hE hG hpw hpc hk⟩
  ·rw[forceL_eq]at hk
   exact⟨.tup [],hh,⟨.no,⟨hw,rfl⟩,trivial,rfl⟩,pre2T_lex hE hG hpw hpc hk⟩
theorem drawT0_sound (hnd: ∀(i:Nat) o,ops[i]? =some o→noDef o=true){ro:Option Nat}(hE:E.Ok)(hG:EnvGood P E){ent:Callee→List V→List Box→Tree (List Nat × V × List Box)}(hent:EntGood P E ent){En:Ent}{id:Nat}{Q:Exit→Act→World→Prop}{s:VSt}{q:Option V × VSt}{a:Act}{w:World}(hm:P.follows .mixedOrders=true)
  (hk:(drawT0 sy P C ent En.g.n En.M ops s).run E=some q) (hs:SimE En s a w) (hq: ∀e a' w',OpRX En q e a' w'→Q e a' w'):(Code.region id ops true).wpIn (Fw ro) 0 P Q a w:=by
 unfold drawT0 at hk
 split at hk
 ·rename_i hB
  rw[forceS_eq,forceSp_eq,forceSp_eq]at hk
  have hs:SimE En (iceT P C ops s) a w:=hs.frzs
  generalize iceT P C ops s=s at hk hs
  obtain⟨r,h1,hk⟩:=run_bind_some hE hk
  rw[forceS_eq]at hk
  simp only [drawOKs,Bool.and_eq_true]at hB
  obtain⟨⟨⟨q1,q2⟩,q3⟩,q4⟩:=hB
  have hml:drawMs C ops≤ops.size:=by simp only [backOK,Bool.and_eq_true,decide_eq_true_eq]at q2;exact q2.1
  have hlen:(ops.toList.take (drawMs C ops)).length=drawMs C ops:=by simp [hml]
  have hany:=vAny_lex (P:=P) (h0:=s.h) q1 (ops.toList.take (drawMs C ops)) 0 (Array.replicate ops.size false) s.t [] (fun k ok hok hk=>by have hlt:=(Array.getElem?_eq_some_iff.1 hok).1;simp [Array.getElem?_replicate,hlt]at hk) (fun j hj=>by
   rw[hlen]at hj
   rw[List.getElem?_take,if_pos hj,Nat.zero_add];simp) (by rw[hlen];exact q3) (preT_lex hE hG h1)
  rw[hlen]at hany
  refine wpIn_region_any hm ?_
  have:=vAny_sound (ro:=ro) (Q:=Q) (E:=En) hnd q2 (rest:=ops.size - drawMs C ops) (fun t hb a w hk' hs=> ?_) (drawMs C ops) _ s.t [] a w.drew hany (by simp) (fun k hk=>by simp [Array.getElem?_replicate];split<;>rfl) (by rw[List.append_nil];exact hs.drew)
  ·rw[Nat.sub_add_cancel hml]at this;exact this
  ·have hl2:(ops.toList.drop (drawMs C ops)).length=ops.size - drawMs C ops:=by simp
   subst hk'
   have:=seq_any (ro:=ro) (P:=P) (Q:=Q) (ops.toList.drop (drawMs C ops)) (drawMs C ops) (listedTo ops.size (drawMs C ops)) a w (fun j=>by simp) (by rw[hl2];exact q4) (opsT_sound hE hG hent _ (Nat.le_refl _) hk hs fun e a2 w2 h=>hq e a2 w2 h.unk)
   rwa [hl2]at this
 ·split at hk
  ·rename_i hB
   rw[forceS_eq,forceSp_eq]at hk
   have hs:SimE En (iceT P C ops s) a w:=hs.frzs
   generalize iceT P C ops s=s at hk hs
   obtain⟨r,h1,hk⟩:=run_bind_some hE hk
   cases hk
   simp only [drawOK2,Bool.and_eq_true]at hB
   have hlex:=pre2T_lex hE hG (fun b x _ h=>h) (fun _=>Pre.refl s.h) h1
   have hany:=vAny2_lex hB.1 ops.toList 0 (Array.replicate ops.size false) s.t s.h (fun j=>by simp) (by simpa using hB.2) hlex
   refine wpIn_region_any hm ?_
   have:=vAny2_sound (ro:=ro) (Q:=Q) (E:=En) hnd (fun t hh a w hk' hs=>by subst hk';exact hq .normal a w ⟨rfl,hs⟩) ops.toList.length _ s.t s.h a w.drew hany hs.drew
   simpa using this
  ·cases hk
end
end Go.Vm
end
