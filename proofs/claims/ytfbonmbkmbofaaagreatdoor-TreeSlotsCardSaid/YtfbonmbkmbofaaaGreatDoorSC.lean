/- Part SC of the proof. What is proved by the whole: the statement that the claim names, with no condition. -/
import Derived.Test.YtfbonmbkmbofaaaGreatDoorSB
set_option linter.all false
section
namespace Go.Vm
structure Sy where
 wrap:IntKind->Int->Int
 add:Int->Int->Int
 sub:Int->Int->Int
 mul:Int->Int->Int
 ieq:Int->Int->Bool
 ilt:Int->Int->Bool
 ile:Int->Int->Bool
 seq:BA->BA->Bool
 slt:BA->BA->Bool
 beq:Bool->Bool->Bool
 bor:Bool->Bool->Bool
 bnot:Bool->Bool
 imax:Int->Int->Int
 imin:Int->Int->Int
 rlen:LL->Int
 slen:BA->Int
 sapp:BA->BA->BA
 sfit:BA->BA->Bool
 inr:Int->Int->Bool
 row:LL->Int->List D
 nat:Int->Nat
 rown:LL->Nat->List D
 cell:List D->Nat->Option D
 skip:Nat->List D->List D
 inrn:Nat->LL->Bool
 rput:LL->Nat->Nat->List D->LL
 rapp:LL->LL->LL
 fits:LL->LL->Nat->Bool
 cutok:Int->Int->Int->Bool
 cut:LL->Int->Int->LL
 scut:BA->Int->Int->BA
 sbyte:BA->Int->Int
 mkok:Int->Int->Nat->Bool
 mkok0:Int->Nat->Bool
 mkz:Int->Nat->Bool
 rep:Int->List D->LL
 mval:D->D->LL->D
 mhas:D->LL->Bool
 mput:D->D->LL->LL
 mdel:D->LL->LL
 head:LL->Int->LL
 deq:List D->List D->Bool
 rdec:BA->Int->Int
 rwid:BA->Int->Int
 rcopy:LL->Int->Int->LL->LL
 quo:Int->Int->Int
 rem:Int->Int->Int
 band:IntKind->Int->Int->Int
 bior:IntKind->Int->Int->Int
 bxor:IntKind->Int->Int->Int
 bandn:IntKind->Int->Int->Int
 shl:IntKind->Int->Int->Int
 shr:IntKind->Int->Int->Int
 sidx:BA->Int->Int
 scnt:BA->Int->Int
 pnum:BA->Int
 pok:BA->Bool
 isby:LL->Bool
 bstr:LL->BA
def byN:List D->Option Int
 | [.int .u8 n]=>some n
 |_=>none
def isbyR (rows:LL):Bool:=rows.all fun r=>(byN r).isSome
def bstrR (rows:LL):BA:=strOfNums (rows.map fun r=>(byN r).getD 0)
def sy:Sy where
 isby:=isbyR
 bstr:=bstrR
 wrap k n:=k.wrap n
 add a b:=a+b
 sub a b:=a - b
 mul a b:=a*b
 ieq a b:=decide (a=b)
 ilt a b:=decide (a < b)
 ile a b:=decide (a<=b)
 seq a b:=a.toList == b.toList
 slt a b:=Op.bytesLess a.toList b.toList
 beq a b:=a == b
 bor a b:=a || b
 bnot a:= !a
 imax a b:=max a b
 imin a b:=min a b
 rlen r:=r.length
 slen s:=s.size
 sapp a b:=a++b
 sfit s u:=decide (s.size+u.size<=9223372036854775807)
 inr i n:=decide (0<=i/\i < n)
 row rows i:=rows.getD i.toNat []
 nat i:=i.toNat
 rown rows i:=rows.getD i []
 cell cs j:=cs[j]?
 skip k cs:=cs.drop k
 inrn i rows:=decide (i < rows.length)
 rput rows i off ds:=rows.set i ((rows.getD i []).take off++ds++(rows.getD i []).drop (off+ds.length))
 rapp a b:=a++b
 fits a b k:=decide ((a.length+b.length)*(k+1)<=140737488355328)
 cutok l r n:=decide (0<=l/\l<=r/\r<=n)
 cut rows l r:=(rows.take r.toNat).drop l.toNat
 scut s l r:=s.extract l.toNat r.toNat
 sbyte s i:=((s.data.getD i.toNat 0).toNat:Int)
 mkok n m k:=decide (n=m/\0<=n/\n*(k+1)<=140737488355328)
 mkok0 m k:=decide (0<=m/\m*(k+1)<=140737488355328)
 mkz n k:=decide (0 < n/\n*(k+1)<=140737488355328)
 rep n ds:=List.replicate n.toNat ds
 mval z k rows:=mval z k rows
 mhas k rows:=mhas k rows
 mput k x rows:=mput k x rows
 mdel k rows:=mdel k rows
 head rows r:=rows.take r.toNat
 deq xs ys:=eqDs xs ys
 rdec s p:=decR s p
 rwid s p:=decW s p
 rcopy rows lo n news:=rows.take lo.toNat++news.take (min n.toNat news.length)++rows.drop (lo.toNat+min n.toNat news.length)
 quo a b:=a.tdiv b
 rem a b:=a.tmod b
 band k a b:=bandI k a b
 bior k a b:=borI k a b
 bxor k a b:=bxorI k a b
 bandn k a b:=bandnI k a b
 shl k a b:=shlI k a b
 shr k a b:=shrI k a b
 sidx s c:=Lib.indexByte s.data.toList c.toNat.toUInt8
 scnt s c:=(Lib.countByte s.data.toList c.toNat.toUInt8:Nat)
 pnum s:=pnumI s
 pok s:=pokB s
section
variable (A : Sy) (P : Program)
def openT (s:Sh)(v:Option D):Tree D:=match s with
 | .int k=> .cI v k fun n=> .ret (.int k n)
 | .bool=> .cB v fun b=> .ret (.bool b)
 | .str=> .cS v fun t=> .ret (.str t)
 | .sl sz=> .cL v sz fun r=> .ret (.sl sz r)
def openRT:List Sh->List D->Nat->Tree (List D)
 | [],_,_=> .ret []
 |s::ss,cs,j=>(openT s (A.cell cs j)).bind fun x=>(openRT ss cs (j+1)).bind fun xs=> .ret (x::xs)
def loadT (h:List Box)(t:TypeId)(v:V):Tree V:=
 match shOf P 9 t,szO P t,(P.underlying t).isSome,aggB P t with
 |sh,some n,true,ag=>match v with
  | .ptr b off=>match h[b]? with
    |some (.cells (.ty _) vs)=>match ag with
     |true=>match decide (off+n<=vs.length)with
      |true=> .ret (.agg ((vs.drop off).take n))
      |false=> .fail
     |false=>match vs[off]? with
      |some v=> .ret v
      |none=> .fail
    |_=> .fail
  | .pel cs=>match sh,ag with
    |some ss,true=>match decide (ss.length=n)with
     |true=>(openRT A ss cs 0).bind fun xs=> .ret (.agg (xs.map .d))
     |false=> .fail
    |some [s],false=>(openT s (A.cell cs 0)).bind fun x=> .ret (.d x)
    |_,_=> .fail
  | .pml b sz i off=>match h[b]? with
    |some (.arr _ sz' rows)=>match decide (sz'=sz),sh,ag with
     |true,some ss,true=>match decide (ss.length=n)with
      |true=>chk (A.inrn i rows) ((openRT A ss (A.rown rows i) off).bind fun xs=> .ret (.agg (xs.map .d)))
      |false=> .fail
     |true,some [s],false=>(openT s (A.cell (A.rown rows i) off)).bind fun x=> .ret (.d x)
     |_,_,_=> .fail
    |_=> .fail
  |_=> .fail
 |_,_,_,_=> .fail
def indexT (h:List Box)(t:TypeId)(v i:V):Tree V:=
 match elO P t,i with
 |some (_,sz), .d (.int _ i)=>match v with
  | .d (.sl sz' rows)=>match decide (sz'=sz)with
    |true=>chk (A.inr i (A.rlen rows)) (.ret (.pel (A.row rows i)))
    |false=> .fail
  | .own b=>match h[b]? with
    |some (.arr _ sz' rows)=>match decide (sz'=sz)with
     |true=>chk (A.inr i (A.rlen rows)) (.ret (.pml b sz (A.nat i) 0))
     |false=> .fail
    |_=> .fail
  | .osl b sz' lo n=>match decide (sz'=sz)with
    |true=>chk (A.inr i n) (.ret (.pml b sz (A.nat (A.add lo i)) 0))
    |false=> .fail
  |_=> .fail
 |_,_=> .fail
def binIA (op:BinOp)(k:IntKind)(a b:Int):Option D:=match op with
 | .add=>some (.int k (A.wrap k (A.add a b)))
 | .sub=>some (.int k (A.wrap k (A.sub a b)))
 | .mul=>some (.int k (A.wrap k (A.mul a b)))
 | .eql=>some (.bool (A.ieq a b))
 | .neq=>some (.bool (A.bnot (A.ieq a b)))
 | .lss=>some (.bool (A.ilt a b))
 | .leq=>some (.bool (A.ile a b))
 | .gtr=>some (.bool (A.ilt b a))
 | .geq=>some (.bool (A.ile b a))
 |_=>none
def binStrA (op:BinOp)(a b:BA):Option Bool:=match op with
 | .eql=>some (A.seq a b)
 | .neq=>some (A.bnot (A.seq a b))
 | .lss=>some (A.slt a b)
 | .leq=>some (A.bor (A.slt a b) (A.seq a b))
 | .gtr=>some (A.bnot (A.bor (A.slt a b) (A.seq a b)))
 | .geq=>some (A.bnot (A.slt a b))
 |_=>none
def bitIA (op:BinOp)(k:IntKind)(a b:Int):Option Int:=match op with
 | .and=>some (A.band k a b)
 | .or=>some (A.bior k a b)
 | .xor=>some (A.bxor k a b)
 | .andNot=>some (A.bandn k a b)
 |_=>none
def intT (op:BinOp)(k k':IntKind)(n m:Int):Tree V:=match op with
 | .shl=>chk (A.ile 0 m) (.ret (.d (.int k (A.shl k n m))))
 | .shr=>chk (A.ile 0 m) (.ret (.d (.int k (A.shr k n m))))
 | .quo=>match decide (k'=k)with
   |true=>chk (A.bnot (A.ieq m 0)) (.ret (.d (.int k (A.wrap k (A.quo n m)))))
   |false=> .fail
 | .rem=>match decide (k'=k)with
   |true=>chk (A.bnot (A.ieq m 0)) (.ret (.d (.int k (A.rem n m))))
   |false=> .fail
 |op=>match decide (k'=k),binIA A op k n m,bitIA A op k n m with
  |true,some d,_=> .ret (.d d)
  |true,none,some c=> .ret (.d (.int k c))
  |_,_,_=> .fail
def ifcB (t:TypeId):Bool:=match P.underlying t with
 |some (.interface _)=>true
 |_=>false
def byteB (s:TypeId):Bool:=match P.underlying s with
 |some (.slice e)=>match P.underlying e with
  |some (.int .u8)=>true
  |_=>false
 |_=>false
def nilT (op:BinOp)(a b:V):Tree V:=match op,a,b with
 | .eql, .ifn c, .ifn true=> .ret (.d (.bool c))
 | .neq, .ifn c, .ifn true=> .ret (.d (.bool (A.bnot c)))
 | .eql, .ifc .., .ifn true=> .ret (.d (.bool false))
 | .neq, .ifc .., .ifn true=> .ret (.d (.bool true))
 | .eql, .ifo _ b _, .ifn true=> .ret (.d (.bool b))
 | .neq, .ifo _ b _, .ifn true=> .ret (.d (.bool (A.bnot b)))
 |_,_,_=> .fail
def binT (op:BinOp)(t:TypeId)(a b:V):Tree V:=
 match a,b with
 | .d (.int k n), .d (.int k' m)=>intT A op k k' n m
 | .d (.str s), .d (.str u)=>match op with
   | .add=>chk (A.sfit s u) (.ret (.d (.str (A.sapp s u))))
   |_=>match binStrA A op s u with
    |some c=> .ret (.d (.bool c))
    |none=> .fail
 | .d (.bool c), .d (.bool d)=>match P.underlying t,op with
   |some .bool, .eql=> .ret (.d (.bool (A.beq c d)))
   |some .bool, .neq=> .ret (.d (.bool (A.bnot (A.beq c d))))
   |_,_=> .fail
 | .agg xs, .agg ys=>match allDs xs,allDs ys with
   |some cs,some ds=>match shD cs,shD ds with
    |some ss,some ss'=>match decide (ss'=ss),op,stokB P t ss with
     |true, .eql,true=> .ret (.d (.bool (A.deq cs ds)))
     |true, .neq,true=> .ret (.d (.bool (A.bnot (A.deq cs ds))))
     |_,_,_=> .fail
    |_,_=> .fail
   |_,_=> .fail
 | .d (.sl _ rows), .nils=>match P.underlying t,op with
   |some (.slice _), .eql=>chk (A.ilt 0 (A.rlen rows)) (.ret (.d (.bool false)))
   |some (.slice _), .neq=>chk (A.ilt 0 (A.rlen rows)) (.ret (.d (.bool true)))
   |_,_=> .fail
 | .nils, .nils=>match P.underlying t,op with
   |some (.slice _), .eql=> .ret (.d (.bool true))
   |some (.slice _), .neq=> .ret (.d (.bool false))
   |_,_=> .fail
 |_,_=> .fail
def addFT (v:V)(k:Nat):Option V:=match v with
 | .ptr b off=>some (.ptr b (off+k))
 | .pel cs=>some (.pel (match k with
   |0=>cs
   |k=>A.skip k cs))
 | .pml b sz i off=>some (.pml b sz i (off+k))
 |_=>none
def lenT (h:List Box):V->Option Int
 | .nils=>some 0
 | .d (.sl _ rows)=>some (A.rlen rows)
 | .d (.str s)=>some (A.slen s)
 | .own b=>match h[b]? with
   |some (.arr _ _ rows)=>some (A.rlen rows)
   |_=>none
 | .osl _ _ _ n=>some n
 |_=>none
def vlenT (h:List Box)(t:TypeId)(v:V):Tree V:=
 match v,P.underlying t,lenT A h v with
 | .d (.str _),some .string,some n=> .ret (.d (.int .i64 n))
 | .d (.str _),_,_=> .fail
 |_,some (.slice _),some n=> .ret (.d (.int .i64 n))
 | .map b,some (.map _ _),_=>match h[b]?,mapO P t with
   |some (.mp _ rows),some _=> .ret (.d (.int .i64 (A.rlen rows)))
   |_,_=> .fail
 |_,_,_=> .fail
def sliceT (t:TypeId)(v:V)(lo hi:Option V):Tree V:=
 match v with
 | .d (.sl sz' rows)=>match elO P t,bndV 0 lo,bndV (A.rlen rows) hi with
   |some (_,sz),some l,some r=>match decide (sz'=sz)with
    |true=>chk (A.cutok l r (A.rlen rows)) (.ret (.d (.sl sz (A.cut rows l r))))
    |false=> .fail
   |_,_,_=> .fail
 | .d (.str s)=>match P.underlying t,bndV 0 lo,bndV (A.slen s) hi with
   |some .string,some l,some r=>chk (A.cutok l r (A.slen s)) (.ret (.d (.str (A.scut s l r))))
   |_,_,_=> .fail
 | .nils=>match elO P t,bndV 0 lo,bndV 0 hi with
   |some _,some l,some r=>chk (A.cutok l r 0) (.ret .nils)
   |_,_,_=> .fail
 |_=> .fail
def slice3T (t:TypeId)(v:V)(lo:Option V)(hi mx:V):Tree V:=
 match v with
 | .d (.sl sz' rows)=>match elO P t,bndV 0 lo,bndV 0 (some hi),bndV 0 (some mx)with
   |some (_,sz),some l,some r,some m=>match decide (sz'=sz)with
    |true=>chk (A.cutok l r m) (chk (A.cutok r m (A.rlen rows)) (.ret (.d (.sl sz (A.cut rows l r)))))
    |false=> .fail
   |_,_,_,_=> .fail
 |_=> .fail
def lookupT (h:List Box)(t:TypeId)(v q:V)(c:Bool):Tree V:=
 match mapO P t,v,q with
 |some (e,kk), .map b, .d k=>match h[b]?,zeroO P e,shOf P 9 e,kk.fitsB k with
  |some (.mp kk' rows),some z,some [s],true=>match decide (kk'=kk),zeroOK [s] [z]with
   |true,true=>(openT s (some (A.mval (zeroD s) k rows))).bind fun x=>match c with
    |true=> .ret (.tup [.d x, .d (.bool (A.mhas k rows))])
    |false=> .ret (.d x)
   |_,_=> .fail
  |_,_,_,_=> .fail
 |_,_,_=> .fail
def extO (f:FuncId):Option Nat:=match P.funcs[f]? with
 |some fn=>match fn.body with
  |some _=>none
  |none=>match fn.origin == "",fn.name == "internal/bytealg.IndexByteString",fn.name == "internal/bytealg.CountString" with
   |true,true,_=>some 0
   |true,false,true=>some 1
   |_,_,_=>none
 |none=>none
def opPT (h:List Box)(O:Operand->V)(o:Oper):Tree V:=
 match o.op with
 | .move y=> .ret (O y)
 | .assign y=> .ret (O y)
 | .pick c a b=>match O c with
   | .d (.bool t)=> .ite t (.ret (O a)) (.ret (O b))
   |_=> .fail
 | .load t y=>loadT A P h t (O y)
 | .fieldAddr s y f=>match fldO P s f with
   |some k=>match addFT A (O y) k with
    |some v=> .ret v
    |none=> .fail
   |none=> .fail
 | .field t y f=>match P.underlying t,O y with
   |some (.struct fs), .agg cs=>match fs[f]? with
    |some fl=>match aggB P fl.type,(P.underlying fl.type).isSome,szO P fl.type with
     |false,true,_=>match cs[fl.offset]? with
      |some v=> .ret v
      |none=> .fail
     |true,true,some n=>match decide (fl.offset+n<=cs.length)with
      |true=> .ret (.agg ((cs.drop fl.offset).take n))
      |false=> .fail
     |_,_,_=> .fail
    |none=> .fail
   |_,_=> .fail
 | .indexAddr t y z=>match arrO P t z with
   |some (k,i0)=>match O z with
    | .d (.int _ i)=>match decide (i=i0)with
      |true=>match addFT A (O y) k with
       |some v=> .ret v
       |none=> .fail
      |false=> .fail
    |_=> .fail
   |none=>indexT A P h t (O y) (O z)
 | .index t y z=>match P.underlying t,O y,O z with
   |some .string, .d (.str s), .d (.int _ i)=>chk (A.inr i (A.slen s)) (.ret (.d (.int .u8 (A.sbyte s i))))
   |_,_,_=> .fail
 | .binOp op t y z _=>match z,ifcB P t with
   | .const .nilIface,true=>nilT A op (O y) (O z)
   |_,_=>binT A P op t (O y) (O z)
 | .unOp op _ y=>match op,O y with
   | .not, .d (.bool b)=> .ret (.d (.bool (A.bnot b)))
   | .neg, .d (.int k n)=> .ret (.d (.int k (A.wrap k (A.sub 0 n))))
   |_,_=> .fail
 | .convert s t y=>match P.underlying t,(P.underlying s).isSome,O y with
   |some (.int k'),true, .d (.int _ n)=> .ret (.d (.int k' (A.wrap k' n)))
   |some .string,true, .d (.sl 1 rows)=>match byteB P s with
    |true=>chk (A.isby rows) (.ret (.d (.str (A.bstr rows))))
    |false=> .fail
   |_,_,_=> .fail
 | .extract y i=>match O y with
   | .tup cs=>match cs[i]? with
     |some v=> .ret v
     |none=> .fail
   |_=> .fail
 | .nilCheck y=>match (O y).solid with
   |true=> .ret (O y)
   |false=> .fail
 | .build t parts=>match placesO P t with
   |some (zs,place)=>match fillV place zs (parts.toList.map fun q=>(q.1,O q.2)),(parts.toList.all fun q=>(O q.2).liveC h)with
    |some vs,true=> .ret (.agg vs)
    |_,_=> .fail
   |none=> .fail
 | .lookup t y z c=>lookupT A P h t (O y) (O z) c
 | .slice t y lo hi mx=>match mx with
   |none=>sliceT A P t (O y) (lo.map O) (hi.map O)
   |some m=>match hi with
    |some r=>slice3T A P t (O y) (lo.map O) (O r) (O m)
    |none=> .fail
 | .makeInterface t y=>match P.underlying t,O y with
   |some (.struct _), .agg cs=>match allDs cs with
    |some ds=> .ret (.ifc t ds)
    |none=> .fail
   |some (.pointer _), .ptr b off=> .ret (.ifp t b off)
   |_,_=> .fail
 | .typeAssert y _ t ok=>match P.underlying t,O y,ok with
   |some (.struct _), .ifc t' cs,true=>match decide (t'=t)with
    |true=> .ret (.tup [.agg (cs.map .d), .d (.bool true)])
    |false=> .fail
   |_,_,_=> .fail
 | .makeFunc fn first caps=>match fn,first with
   | .func f,⟨[]⟩=> .ret (.fn f (caps.toList.map O))
   | .func f,⟨[y]⟩=>match O y,caps with
     | .ptr b off,⟨[]⟩=> .ret (.mv f b off)
     |_,_=> .fail
   |_,_=> .fail
 | .buildSlice t n parts=>match litV P t n (parts.toList.map fun q=>(q.1,O q.2)),(parts.toList.all fun q=>(O q.2).liveC h)with
   |some (e,sz,vs),true=>match shOf P 9 e with
    |some ss=>match rowsOf ss sz n vs with
     |some rows=> .ret (.d (.sl sz rows))
     |none=> .fail
    |none=> .fail
   |_,_=> .fail
 | .call c=>match c with
   |⟨.builtin .len,⟨[y]⟩,ts⟩=>match ts[0]? with
    |some t=>vlenT A P h t (O y)
    |none=> .fail
   |⟨.builtin .cap,⟨[y]⟩,ts⟩=>match ts[0]?,O y with
    |some t, .nils=>match P.underlying t with
     |some (.slice _)=> .ret (.d (.int .i64 0))
     |_=> .fail
    |_,_=> .fail
   |⟨.builtin .max,⟨[y,z]⟩,_⟩=>match O y,O z with
    | .d (.int k a), .d (.int k' b)=>match decide (k'=k)with
      |true=> .ret (.d (.int k (A.imax a b)))
      |false=> .fail
    |_,_=> .fail
   |⟨.builtin .min,⟨[y,z]⟩,_⟩=>match O y,O z with
    | .d (.int k a), .d (.int k' b)=>match decide (k'=k)with
      |true=> .ret (.d (.int k (A.imin a b)))
      |false=> .fail
    |_,_=> .fail
   |⟨.value q,⟨[y,z]⟩,_⟩=>match O q with
    | .fn f []=>match extO P f,O y,O z with
      |some 0, .d (.str s), .d (.int .u8 c)=> .ret (.d (.int .i64 (A.sidx s c)))
      |some 1, .d (.str s), .d (.int .u8 c)=> .ret (.d (.int .i64 (A.scnt s c)))
      |_,_,_=> .fail
    |_=> .fail
   |_=> .fail
 |_=> .fail
end
section
variable {P : Program} {M : List Nat} {h h' h2 : List Box} {O : Operand -> V} {o : Oper} {x : V} {E : Env}
def openT_run {s:Sh}{v:Option D}{x:D}(hk:(openT s v).run E=some x):v=some x:=by
 cases s<;>simp only[openT,Tree.run]at hk<;>obtain⟨n,h1,h2⟩:=Option.bind_eq_some_iff.1 hk<;>cases h2
 ·exact opI_some h1
 ·exact opB_some h1
 ·exact opS_some h1
 ·exact opL_some h1
def openRT_run (hE:E.Ok): ∀ {ss:List Sh} {cs:List D} {j:Nat} {xs:List D},(openRT sy ss cs j).run E=some xs->
  xs.length=ss.length/\ ∀(i:Nat) x,xs[i]? =some x->cs[j+i]? =some x
 | [],cs,j,xs,hk=>by cases hk;exact⟨rfl,by simp⟩
 |s::ss,cs,j,xs,hk=>by
  unfold openRT at hk;obtain⟨x,h1,hk⟩:=run_bind_some hE hk;obtain⟨xs',h2,hk⟩:=run_bind_some hE hk;cases hk;have h1:=openT_run h1;obtain⟨h3,h4⟩:=openRT_run hE h2;refine⟨by simp[h3],fun i y hy=> ?_⟩
  cases i with
  |zero=>simp at hy;subst hy;simpa using(show cs[j]? =some x from h1)
  |succ i=>have:=h4 i y (by simpa using hy);rwa [show j+1+i=j+(i+1) by omega]at this
def loadT_sound (hE:E.Ok){t:TypeId}{y:Operand}(hop:o.op= .load t y)(hk:(loadT sy P h t (O y)).run E=some x): ∀h2,Pre h h2->Gives P [] h2 h2 O o x:=by
 unfold loadT at hk;split at hk
 ·have hn:= ‹szO P t=some _›;have hu:= ‹(P.underlying t).isSome=true›;split at hk
  ·rename_i b off hy;split at hk
   ·rename_i bt vs hb;split at hk
    ·split at hk
     ·rename_i hle;cases hk;exact fun h2 hp=>gives_load_boxN hop hy (hp.at hb nofun) hn (by simpa using hle) hu ‹aggB P t=_›
     ·cases hk
    ·split at hk
     ·rename_i v hv;cases hk;exact fun h2 hp=>gives_load_box1 hop hy (hp.at hb nofun) hv hu ‹aggB P t=_›
     ·cases hk
   ·cases hk
  ·rename_i cs hy;split at hk
   ·split at hk
    ·rename_i hl;obtain⟨xs,hk1,hk⟩:=run_bind_some hE hk;cases hk;obtain⟨h1,h3⟩:=openRT_run hE hk1;exact fun h2 hp=>gives_load_pelN hop hy (fun i x hx=>by have:=h3 i x hx;rwa [Nat.zero_add]at this) (by rw[hn,h1];simpa using(of_decide_eq_true hl).symm) hu ‹aggB P t=_›
    ·cases hk
   ·obtain⟨x,hk1,hk⟩:=run_bind_some hE hk;cases hk;exact fun h2 hp=>gives_load_pel1 hop hy (openT_run hk1) hu ‹aggB P t=_›
   ·cases hk
  ·rename_i b sz i off hy;split at hk
   ·rename_i e sz' rows hb;split at hk
    ·rename_i hsz _ _;have hsz:=of_decide_eq_true hsz;subst hsz;split at hk
     ·rename_i hl;obtain⟨hi,hk⟩:=chk_some hk;obtain⟨xs,hk1,hk⟩:=run_bind_some hE hk;cases hk;obtain⟨h1,h3⟩:=openRT_run hE hk1;exact fun h2 hp=>gives_load_pmlN hop hy (hp.at hb nofun) h3 (by rw[hn,h1];simpa using(of_decide_eq_true hl).symm) hu ‹aggB P t=_› (of_decide_eq_true hi)
     ·cases hk
    ·rename_i hsz _ _;have hsz:=of_decide_eq_true hsz;subst hsz;obtain⟨x,hk1,hk⟩:=run_bind_some hE hk;cases hk;exact fun h2 hp=>gives_load_pml1 hop hy (hp.at hb nofun) (openT_run hk1) hu ‹aggB P t=_›
    ·cases hk
   ·cases hk
  ·cases hk
 ·cases hk
def inr_prop {i n:Int}(h:sy.inr i n=true):0<=i/\i < n:=of_decide_eq_true h
def cutok_prop {l r n:Int}(h:sy.cutok l r n=true):0<=l/\l<=r/\r<=n:=of_decide_eq_true h
def indexT_sound {t:TypeId}{y z:Operand}(hop:o.op= .indexAddr t y z)(hk:(indexT sy P h t (O y) (O z)).run E=some x): ∀h2,Pre h h2->Gives P [] h2 h2 O o x:=by
 unfold indexT at hk;split at hk
 ·rename_i e sz kd i hel hz;split at hk
  ·rename_i sz' rows hy;split at hk
   ·rename_i hsz;have hsz:=of_decide_eq_true hsz;subst hsz;obtain⟨hi,hk⟩:=chk_some hk;cases hk;have hi:=inr_prop hi;exact fun h2 hp=>gives_index_sl hop hel hy hz hi.1 hi.2
   ·cases hk
  ·rename_i b hy;split at hk
   ·rename_i e' sz' rows hb;split at hk
    ·rename_i hsz;have hsz:=of_decide_eq_true hsz;subst hsz;obtain⟨hi,hk⟩:=chk_some hk;cases hk;have hi:=inr_prop hi;exact fun h2 hp=>gives_index_own hop hel hy (hp.at hb nofun) hz hi.1 hi.2
    ·cases hk
   ·cases hk
  ·rename_i b sz' lo n hy;split at hk
   ·rename_i hsz;have hsz:=of_decide_eq_true hsz;subst hsz;obtain⟨hi,hk⟩:=chk_some hk;cases hk;have hi:=inr_prop hi;exact fun h2 hp=>gives_index_osl hop hel hy hz hi.1 hi.2
   ·cases hk
  ·cases hk
 ·cases hk
def binIA_eq (op:BinOp)(k:IntKind)(a b:Int):binIA sy op k a b=binI op k a b:=by
 have e:decide (a=b)=(a == b):=by rw[Bool.eq_iff_iff];simp
 cases op<;>simp only[binIA,binI,sy,e]<;>rfl
def bitIA_eq (op:BinOp)(k:IntKind)(a b:Int):bitIA sy op k a b=bitI op k a b:=by cases op<;>rfl
def ieq_ne {m n:Int}(h:sy.bnot (sy.ieq m n)=true):m≠n:=by
 intro e;subst e;simp[sy]at h
def binStrA_eq (op:BinOp)(a b:BA):binStrA sy op a b=binStr op a b:=by cases op<;>rfl
def gives_nilE {op:BinOp}{t u:TypeId}{y:Operand}{b c:Bool}(hop:o.op= .binOp op t y (.const .nilIface) u)(hu:ifcB P t=true)(h1:O y= .ifn b\/(b=false/\ ∃t cs,O y= .ifc t cs)\/ ∃t cs,O y= .ifo t b cs)(h2:O (.const .nilIface)= .ifn true)
  (hd:(match op with| .eql=>some b| .neq=>some (!b)|_=>none)=some c):Gives P [] h h O o (.d (.bool c)):=
 .pure fun g O' w hs hy=>by
  obtain⟨ms,hu⟩: ∃ms,P.underlying t=some (.interface ms):=by
   unfold ifcB at hu;split at hu
   ·exact⟨_, ‹_›⟩
   ·cases hu
  have r1:Rep w g (O' y) (.ifn b):=by
   have r1:=hy y;rcases h1 with h1|⟨rfl,t,cs,h1⟩|⟨t,cs,h1⟩<;>rw[h1]at r1
   ·exact r1
   ·generalize O' y=v at r1;cases r1;exact .ifn1 _ _
   ·generalize O' y=v at r1;cases r1 with
    |ifo0=>exact .ifn0
    |ifo1=>exact .ifn1 _ _
  have r2:=hy (.const .nilIface);rw[h2]at r2;have e2:O' (.const .nilIface)= .nilIface:=by
   generalize O' (.const .nilIface)=v at r2;cases r2;rfl
  have q0:(Op.equal t .nilIface .nilIface).run P w= .ok true w:=by
   show(Op.equalIn (9999+1) t _ _).run P w=_;unfold Op.equalIn;simp only[Sem.run_bind,run_underlying hu,Result.andThen_ok,Sem.run_pure]
  have q1: ∀a v,(Op.equal t (.iface a v) .nilIface).run P w= .ok false w:=fun a v=>by
   show(Op.equalIn (9999+1) t _ _).run P w=_;unfold Op.equalIn;simp only[Sem.run_bind,run_underlying hu,Result.andThen_ok,Sem.run_pure]
  refine⟨.bool c,?_, .d (.bool _)⟩;generalize hv:O' y=v at r1;cases r1 with
  |ifn0=>cases op<;>cases hd<;>simp[execOp,hop,e2,hv,eqGuard_nil_constR,binOp,q0]
  |ifn1 a v=>cases op<;>cases hd<;>simp[execOp,hop,e2,hv,eqGuard,binOp,q1]
def gives_nilS {op:BinOp}{t u e:TypeId}{y z:Operand}{b c:Bool}(hop:o.op= .binOp op t y z u)(hu:P.underlying t=some (.slice e))(h2:O z= .nils)(h1:(b=true/\O y= .nils)\/(b=false/\ ∃sz rows,O y= .d (.sl sz rows)/\0 < rows.length))
  (hd:(match op with| .eql=>some b| .neq=>some (!b)|_=>none)=some c):Gives P [] h h O o (.d (.bool c)):=
 .pure fun g O' w hs hy=>by
  have r2:=hy z;rw[h2]at r2;have e2:O' z= .slice none 0 0:=by
   generalize O' z=v at r2;cases r2;rfl
  have q0:(Op.equal t (.slice none 0 0) (.slice none 0 0)).run P w= .ok true w:=by
   show(Op.equalIn (9999+1) t _ _).run P w=_;unfold Op.equalIn;simp only[Sem.run_bind,run_underlying hu,Result.andThen_ok,Sem.run_pure,Option.isNone]
  have q1: ∀a n k,(Op.equal t (.slice (some a) n k) (.slice none 0 0)).run P w= .ok false w:=fun a n k=>by
   show(Op.equalIn (9999+1) t _ _).run P w=_;unfold Op.equalIn;simp only[Sem.run_bind,run_underlying hu,Result.andThen_ok,Sem.run_pure]
  refine⟨.bool c,?_, .d (.bool _)⟩;rcases h1 with⟨rfl,h1⟩|⟨rfl,sz,rows,h1,hl⟩
  ·have r1:=hy y;rw[h1]at r1;have e1:O' y= .slice none 0 0:=by
    generalize O' y=v at r1;cases r1;rfl
   cases op<;>cases hd<;>simp[execOp,hop,e1,e2,eqGuard,binOp,q0]
  ·rcases rep_sl_inv (h1▸hy y)with⟨e1,rfl⟩|⟨a,cap,e1,rfl⟩|⟨blk,off,cap,U,e1,_⟩
   ·simp at hl
   ·simp at hl
   ·cases op<;>cases hd<;>simp[execOp,hop,e1,e2,eqGuard,binOp,q1]
def binT_sound {op:BinOp}{t u:TypeId}{y z:Operand}(hop:o.op= .binOp op t y z u)(hk:(binT sy P op t (O y) (O z)).run E=some x): ∀h2,Pre h h2->Gives P [] h2 h2 O o x:=by
 unfold binT at hk;split at hk
 ·rename_i k n k' m hy hz;unfold intT at hk;split at hk
  ·obtain⟨hi,hk⟩:=chk_some hk;cases hk;exact fun h2 hp=>gives_shl hop hy hz (of_decide_eq_true hi)
  ·obtain⟨hi,hk⟩:=chk_some hk;cases hk;exact fun h2 hp=>gives_shr hop hy hz (of_decide_eq_true hi)
  ·split at hk
   ·rename_i hkk;have:=of_decide_eq_true hkk;subst this;obtain⟨hi,hk⟩:=chk_some hk;cases hk;exact fun h2 hp=>gives_quo hop hy hz (ieq_ne hi)
   ·cases hk
  ·split at hk
   ·rename_i hkk;have:=of_decide_eq_true hkk;subst this;obtain⟨hi,hk⟩:=chk_some hk;cases hk;exact fun h2 hp=>gives_rem hop hy hz (ieq_ne hi)
   ·cases hk
  ·split at hk
   ·rename_i hkk hd;have:=of_decide_eq_true hkk;subst this;cases hk;rw[binIA_eq]at hd;exact fun h2 hp=>gives_binI hop hy hz hd
   ·rename_i hkk hd0 hd;have:=of_decide_eq_true hkk;subst this;cases hk;rw[bitIA_eq]at hd;exact fun h2 hp=>gives_bits hop hy hz hd
   ·cases hk
 ·rename_i s u' hy hz;split at hk
  ·obtain⟨hi,hk⟩:=chk_some hk;cases hk;exact fun h2 hp=>gives_addS hop hy hz (of_decide_eq_true hi)
  ·split at hk
   ·rename_i c hc;cases hk;rw[binStrA_eq]at hc;exact fun h2 hp=>gives_binS hop hy hz hc
   ·cases hk
 ·rename_i c d hy hz;split at hk
  ·cases hk;exact fun h2 hp=>gives_binB hop hy hz ‹_› rfl
  ·cases hk;exact fun h2 hp=>gives_binB hop hy hz ‹_› rfl
  ·cases hk
 ·rename_i xs ys hy hz;split at hk
  ·rename_i cs ds h1 h2;split at hk
   ·rename_i ss ss' h3 h4;split at hk
    ·have he:=of_decide_eq_true ‹decide (ss'=ss)=true›;subst he;cases hk;exact fun h2' hp=>gives_binE hop (by rw[hy,allDs_spec h1]) (by rw[hz,allDs_spec h2]) ‹stokB P t _=true› h3 h4 rfl
    ·have he:=of_decide_eq_true ‹decide (ss'=ss)=true›;subst he;cases hk;exact fun h2' hp=>gives_binE hop (by rw[hy,allDs_spec h1]) (by rw[hz,allDs_spec h2]) ‹stokB P t _=true› h3 h4 rfl
    ·cases hk
   ·cases hk
  ·cases hk
 ·rename_i sz rows hy hz;split at hk
  ·rename_i hu;obtain⟨hi,hk⟩:=chk_some hk;cases hk;have hi:(0:Int) < (rows.length:Int):=of_decide_eq_true hi;exact fun h2 hp=>gives_nilS (b:=false) hop hu hz (.inr ⟨rfl,_,_,hy,by omega⟩) rfl
  ·rename_i hu;obtain⟨hi,hk⟩:=chk_some hk;cases hk;have hi:(0:Int) < (rows.length:Int):=of_decide_eq_true hi;exact fun h2 hp=>gives_nilS (b:=false) hop hu hz (.inr ⟨rfl,_,_,hy,by omega⟩) rfl
  ·cases hk
 ·rename_i hy hz;split at hk
  ·rename_i hu;cases hk;exact fun h2 hp=>gives_nilS (b:=true) hop hu hz (.inl ⟨rfl,hy⟩) rfl
  ·rename_i hu;cases hk;exact fun h2 hp=>gives_nilS (b:=true) hop hu hz (.inl ⟨rfl,hy⟩) rfl
  ·cases hk
 ·cases hk
def addFT_eq (v:V)(k:Nat):addFT sy v k=addF v k:=by
 cases v<;>simp only[addFT,addF]
 cases k<;>simp[sy]
def lenT_eq (h:List Box)(v:V):lenT sy h v=lenV h v:=by cases v<;>rfl
def vlenT_sound {y:Operand}{t:TypeId}{ts:Array TypeId}(hop:o.op= .call { callee:= .builtin .len,args:= #[y],argTypes:=ts })(ht:ts[0]? =some t)(hk:(vlenT sy P h t (O y)).run E=some x):
  ∀h2,Pre h h2->Gives P [] h2 h2 O o x:=by
 unfold vlenT at hk;rw[lenT_eq]at hk;split at hk
 ·rename_i s n hv hu hn;cases hk;exact fun h2 hp=>gives_len hop ht (lenV_pre hp hn) (fun _ _=>hu) (fun hh=>(hh s hv).elim)
 ·cases hk
 ·rename_i hno;cases hk;exact fun h2 hp=>gives_len hop ht (lenV_pre hp ‹lenV h (O y)=some _›) (fun s hs=>(hno s hs).elim) (fun _=>⟨_, ‹P.underlying t=some (.slice _)›⟩)
 ·rename_i b _ _ hv _ _;split at hk
  ·cases hk;exact fun h2 hp=>gives_lenM hop ht ‹mapO P t=some _› ‹O y= .map _› (hp.at ‹h[_]? =some _› nofun)
  ·cases hk
 ·cases hk
def sliceT_sound {t:TypeId}{y:Operand}{lo hi:Option Operand}(hop:o.op= .slice t y lo hi none)(hk:(sliceT sy P t (O y) (lo.map O) (hi.map O)).run E=some x): ∀h2,Pre h h2->Gives P [] h2 h2 O o x:=by
 unfold sliceT at hk;split at hk
 ·rename_i sz' rows hy;split at hk
  ·rename_i e sz l r hel hl hr;split at hk
   ·rename_i hsz;have:=of_decide_eq_true hsz;subst this;obtain⟨hi,hk⟩:=chk_some hk;cases hk;have hi:=cutok_prop hi;exact fun h2 hp=>gives_slice hop hel hy hl hr hi.1 hi.2.1 hi.2.2
   ·cases hk
  ·cases hk
 ·rename_i s hy;split at hk
  ·rename_i l r hu hl hr;obtain⟨hi,hk⟩:=chk_some hk;cases hk;have hi:=cutok_prop hi;exact fun h2 hp=>gives_sliceS hop hu hy hl hr hi.1 hi.2.1 hi.2.2
  ·cases hk
 ·rename_i hy;split at hk
  ·rename_i z l r hel hl hr;obtain⟨e,sz⟩:=z;obtain⟨hi,hk⟩:=chk_some hk;cases hk;have hi:=cutok_prop hi;exact fun h2 hp=>gives_sliceNil hop hel hy hl hr (by omega) (by omega)
  ·cases hk
 ·cases hk
def slice3T_sound {t:TypeId}{y:Operand}{lo:Option Operand}{hi mx:Operand}(hop:o.op= .slice t y lo (some hi) (some mx))(hk:(slice3T sy P t (O y) (lo.map O) (O hi) (O mx)).run E=some x): ∀h2,Pre h h2->Gives P [] h2 h2 O o x:=by
 unfold slice3T at hk;split at hk
 ·rename_i sz' rows hy;split at hk
  ·rename_i e sz l r m hel hl hr hm;split at hk
   ·rename_i hsz;have:=of_decide_eq_true hsz;subst this;obtain⟨hi,hk⟩:=chk_some hk;obtain⟨hj,hk⟩:=chk_some hk;cases hk;have hi:=cutok_prop hi;have hj:=cutok_prop hj;exact fun h2 hp=>gives_slice3 hop hel hy hl hr hm hi.1 hi.2.1 hi.2.2 hj.2.2
   ·cases hk
  ·cases hk
 ·cases hk
def lookupT_sound (hE:E.Ok){t:TypeId}{y z:Operand}{c:Bool}(hop:o.op= .lookup t y z c)(hk:(lookupT sy P h t (O y) (O z) c).run E=some x): ∀h2,Pre h h2->Gives P [] h2 h2 O o x:=by
 unfold lookupT at hk;split at hk
 ·rename_i e kk b k hm hy hz;split at hk
  ·rename_i kk' rows zv s hb hze hsh hf;split at hk
   ·rename_i hkk hzk;have:=of_decide_eq_true hkk;subst this;obtain⟨x,h1,hk⟩:=run_bind_some hE hk;have h1:=openT_run h1;cases h1;have:=fun h2 (hp:Pre h h2)=>gives_lookup (c:=c) hop hy (hp.at hb nofun) hm hze hzk hz (fits_of hf)
    cases c<;>cases hk<;>exact this
   ·cases hk
  ·cases hk
 ·cases hk
def extO_spec {f:FuncId}(hx:extO P f=some 0): ∃fn,P.funcs[f]? =some fn/\fn.body=none/\fn.origin= "" /\fn.name= "internal/bytealg.IndexByteString" :=by
 unfold extO at hx;split at hx
 ·rename_i fn hf;split at hx
  ·cases hx
  ·rename_i hb;split at hx
   ·rename_i h1 h2;exact⟨fn,hf,hb,eq_of_beq h1,eq_of_beq h2⟩
   ·cases hx
   ·cases hx
 ·cases hx
def extO_spec1 {f:FuncId}(hx:extO P f=some 1): ∃fn,P.funcs[f]? =some fn/\fn.body=none/\fn.origin= "" /\fn.name= "internal/bytealg.CountString" :=by
 unfold extO at hx;split at hx
 ·rename_i fn hf;split at hx
  ·cases hx
  ·rename_i hb;split at hx
   ·cases hx
   ·rename_i h1 _ h2;exact⟨fn,hf,hb,eq_of_beq h1,eq_of_beq h2⟩
   ·cases hx
 ·cases hx
def nilT_sound {op:BinOp}{t u:TypeId}{y:Operand}(hop:o.op= .binOp op t y (.const .nilIface) u)(hu:ifcB P t=true)(hk:(nilT sy op (O y) (O (.const .nilIface))).run E=some x):Gives P [] h h O o x:=by
 unfold nilT at hk;split at hk
 ·rename_i b h1 h2;cases hk;exact gives_nilE hop hu (.inl h1) h2 rfl
 ·rename_i b h1 h2;cases hk;exact gives_nilE hop hu (.inl h1) h2 rfl
 ·rename_i h1 h2;cases hk;exact gives_nilE (b:=false) hop hu (.inr (.inl ⟨rfl,_,_,h1⟩)) h2 rfl
 ·rename_i h1 h2;cases hk;exact gives_nilE (b:=false) hop hu (.inr (.inl ⟨rfl,_,_,h1⟩)) h2 rfl
 ·rename_i t b cs h1 h2;cases hk;exact gives_nilE hop hu (.inr (.inr ⟨_,_,h1⟩)) h2 rfl
 ·rename_i t b cs h1 h2;cases hk;exact gives_nilE hop hu (.inr (.inr ⟨_,_,h1⟩)) h2 rfl
 ·cases hk
def gives_assert {y:Operand}{xt t:TypeId}{fs:Array Field}{cs:List D}(hop:o.op= .typeAssert y xt t true)(hu:P.underlying t=some (.struct fs))(hy1:O y= .ifc t cs):Gives P [] h h O o (.tup [.agg (cs.map .d), .d (.bool true)]):=
 .pure fun g O' w hs hy=>by
  have hr:=hy y;rw[hy1]at hr;generalize hu0:O' y=u0 at hr;cases hr with
  |ifc _ us _ hl hr=>
   refine⟨.tuple #[.agg us, .bool true],?_, .tup _ _ rfl fun i u c h1 h2=> ?_⟩
   ·simp[execOp,hop,hu0,Instr.typeAssert,Sem.run_bind,run_underlying hu,Result.andThen_ok,Sem.run_pure]
   ·match i,h1,h2 with
    |0,h1,h2=>
     cases h1;cases h2;refine .agg us _ (by simpa using hl) fun i u c h1 h2=> ?_
     rw[List.getElem?_map,Option.map_eq_some_iff]at h2;obtain⟨x,hx,rfl⟩:=h2;exact .d (hr i u x h1 hx)
    |1,h1,h2=>
     cases h1;cases h2;exact .d (.bool true)
def gives_makeIface {t:TypeId}{y:Operand}{fs:Array Field}{cs:List V}{ds:List D}(hop:o.op= .makeInterface t y)(hu:P.underlying t=some (.struct fs))(hy1:O y= .agg cs)(hd:allDs cs=some ds):Gives P [] h h O o (.ifc t ds):=
 .pure fun g O' w hs hy=>by
  have hr:=hy y;rw[hy1]at hr;have e:=allDs_spec hd;subst e;generalize hu0:O' y=u0 at hr;cases hr with
  |agg us _ hl hr=>
   refine⟨.iface t (.agg us),?_, .ifc t us ds (by simpa using hl) fun i u c h1 h2=> ?_⟩
   ·simp[execOp,hop,hu0,Instr.makeInterface,Sem.run_bind,run_underlying hu,Result.andThen_ok,Sem.run_pure]
   ·have:=hr i u (.d c) h1 (by rw[List.getElem?_map,h2];rfl)
    cases this with
    |d h=>exact h
def gives_makeIfaceP {t e:TypeId}{y:Operand}{b off:Nat}(hop:o.op= .makeInterface t y)(hu:P.underlying t=some (.pointer e))(hy1:O y= .ptr b off):Gives P [] h h O o (.ifp t b off):=
 .pure fun g O' w hs hy=>by
  have hr:=hy y;rw[hy1]at hr;generalize hu0:O' y=u0 at hr;cases hr with
  |ptr _ _ hb=>
   refine⟨.iface t (.pointer (some ⟨g.blk b,off,none⟩)),?_, .ifp t b off hb⟩;simp[execOp,hop,hu0,Instr.makeInterface,Sem.run_bind,run_underlying hu,Result.andThen_ok,Sem.run_pure]
def byN_some {r:List D}(h:(byN r).isSome=true): ∃n,r= [.int .u8 n]/\byN r=some n:=by
 unfold byN at h ⊢;split at h
 ·exact⟨_,rfl,rfl⟩
 ·cases h
def gives_convB {s t:TypeId}{y:Operand}{rows:LL}(hop:o.op= .convert s t y)(hy1:O y= .d (.sl 1 rows))(hu:P.underlying t=some .string)(hb:byteB P s=true)(hi:sy.isby rows=true):Gives P [] h h O o (.d (.str (sy.bstr rows))):=
 .pure fun g O' w hs hy=>by
  obtain⟨e,hs1,he⟩: ∃e,P.underlying s=some (.slice e)/\P.underlying e=some (.int .u8):=by
   unfold byteB at hb;split at hb
   ·rename_i e h1;split at hb
    ·exact⟨e,h1, ‹_›⟩
    ·cases hb
   ·cases hb
  have hr:=hy y;rw[hy1]at hr;generalize hu0:O' y=u0 at hr;cases hr with
  |d hr=>
   refine⟨.string (sy.bstr rows),?_, .d (.str _)⟩;have run: ∀v,(convert s t u0).run P w= .ok v w->(execOp O' o).run P w= .ok (.value v) w:=fun v hv=>by
    simp[execOp,hop,hu0,hv,Result.andThen_ok]
   refine run _ ?_;cases hr with
   |slnil=>exact run_convert_bytes_nil w s e hs1 he 0 0 t hu
   |slemp a cap=>
    rw[run_convert_bytes_string w s t e _ 0 cap hs1 he hu,run_bytesToString w a 0 cap [] (by simpa using run_loadCells_list (P:=P) w a [] (fun j v hj=>by simp at hj))]
    rfl
   |sl blk off n cap _ _ U hn hcap hlen hZ hc hr=>
    have key: ∀i,i < n->w.cell? ⟨blk,off+i,none⟩=some (.int .u8 ((rows.map fun r=>(byN r).getD 0).getD i 0)):=fun i hi'=>by
     have hx:rows[i]? =some rows[i]:=List.getElem?_eq_getElem (by omega)
     obtain⟨m,h1,h2⟩:=byN_some (List.all_eq_true.1 hi rows[i] (List.getElem_mem (by omega)))
     have hc':=hc i rows[i] 0 (.int .u8 m) hx (by rw[h1];rfl)
     have hr':=hr i rows[i] 0 (.int .u8 m) hx (by rw[h1];rfl)
     rw[show off+(i*1+0)=off+i by omega]at hc'
     rw[hc'];generalize U i 0=u at hr';cases hr';rw[List.getD_eq_getElem?_getD,List.getElem?_map,hx,Option.map_some,Option.getD_some,h2,Option.getD_some]
    exact run_convert_bytes_arg w s e hs1 he blk off n cap (rows.map fun r=>(byN r).getD 0) (by simpa using hn) key t hu
def opPT_sound (hE:E.Ok)(hk:(opPT sy P h O o).run E=some x): ∀h2,Pre h h2->Gives P [] h2 h2 O o x:=by
 unfold opPT at hk;split at hk
 ·rename_i y hop;cases hk;exact fun h2 hp=>gives_copy (.inl hop)
 ·rename_i y hop;cases hk;exact fun h2 hp=>gives_copy (.inr hop)
 ·rename_i c a b hop;split at hk
  ·rename_i t ht;have:=fun h2 (hp:Pre h h2)=>gives_pick (P:=P) (h:=h2) hop ht
   cases t<;>cases hk<;>exact this
  ·cases hk
 ·rename_i t y hop;exact loadT_sound hE hop hk
 ·rename_i s y f hop;split at hk
  ·rename_i k hfk;rw[addFT_eq]at hk;split at hk
   ·rename_i v hv;cases hk;exact fun h2 hp=>gives_fieldAddr hop hfk hv
   ·cases hk
  ·cases hk
 ·rename_i t y f hop;split at hk
  ·rename_i fs cs hu hy;split at hk
   ·rename_i fl hf;split at hk
    ·rename_i ha hx;split at hk
     ·rename_i v hv;cases hk;exact fun h2 hp=>gives_field hop hu hf hy hx ha hv
     ·cases hk
    ·rename_i n ha hx hn;split at hk
     ·rename_i hd;cases hk;exact fun h2 hp=>gives_fieldA hop hu hf hy hx ha hn (of_decide_eq_true hd)
     ·cases hk
    ·cases hk
   ·cases hk
  ·cases hk
 ·rename_i t y z hop;split at hk
  ·rename_i k i0 hak;split at hk
   ·rename_i kd i hz;split at hk
    ·rename_i hi;have hi:=of_decide_eq_true hi;subst hi;rw[addFT_eq]at hk;split at hk
     ·rename_i v hv;cases hk;exact fun h2 hp=>gives_index_arr hop hak hz hv
     ·cases hk
    ·cases hk
   ·cases hk
  ·exact indexT_sound hop hk
 ·rename_i t y z hop;split at hk
  ·rename_i s kd i hu hy hz;obtain⟨hi,hk⟩:=chk_some hk;cases hk;have hi:=inr_prop hi;exact fun h2 hp=>gives_indexS hop hu hy hz hi.1 hi.2
  ·cases hk
 ·rename_i op t y z u hop;split at hk
  ·rename_i hu;exact fun h2 hp=>nilT_sound hop hu hk
  ·exact binT_sound hop hk
 ·rename_i op t y hop;split at hk
  ·rename_i b hy;cases hk;exact fun h2 hp=>gives_not hop hy
  ·rename_i k n hy;cases hk;exact fun h2 hp=>gives_neg hop hy
  ·cases hk
 ·rename_i s t y hop;split at hk
  ·rename_i k' k n hu hs hy;cases hk;exact fun h2 hp=>gives_convI hop hy hu hs
  ·rename_i rows hu hs hy;split at hk
   ·rename_i hb;obtain⟨hi,hk⟩:=chk_some hk;cases hk;exact fun h2 hp=>gives_convB hop hy hu hb hi
   ·cases hk
  ·cases hk
 ·rename_i y i hop;split at hk
  ·rename_i cs hy;split at hk
   ·rename_i v hv;cases hk;exact fun h2 hp=>gives_extract hop hy hv
   ·cases hk
  ·cases hk
 ·rename_i y hop;split at hk
  ·rename_i hs;cases hk;exact fun h2 hp=>gives_nilCheck hop hs
  ·cases hk
 ·rename_i t parts hop;split at hk
  ·rename_i zs place hpl;split at hk
   ·rename_i vs hfv hlv;cases hk;refine fun h2 hp=>gives_build hop hpl hfv ?_
    rw[List.all_eq_true]at hlv ⊢;exact fun q hq=>liveC_pre hp (hlv q hq)
   ·cases hk
  ·cases hk
 ·rename_i t y z c hop;exact lookupT_sound hE hop hk
 ·rename_i t y lo hi mx hop;split at hk
  ·exact sliceT_sound hop hk
  ·split at hk
   ·exact slice3T_sound hop hk
   ·cases hk
 ·rename_i t y hop;split at hk
  ·rename_i hu hy;split at hk
   ·rename_i hd;cases hk;exact fun h2 hp=>gives_makeIface hop hu hy hd
   ·cases hk
  ·rename_i hu hy;cases hk;exact fun h2 hp=>gives_makeIfaceP hop hu hy
  ·cases hk
 ·rename_i y xt t ok hop;split at hk
  ·rename_i hu hy;split at hk
   ·rename_i hd;have hd:=of_decide_eq_true hd;subst hd;cases hk;exact fun h2 hp=>gives_assert hop hu hy
   ·cases hk
  ·cases hk
 ·rename_i fn first caps hop;split at hk
  ·cases hk;exact fun h2 hp=>gives_makeFunc hop
  ·split at hk
   ·rename_i hy;cases hk;exact fun h2 hp=>gives_makeBound hop hy
   ·cases hk
  ·cases hk
 ·rename_i t n parts hop;split at hk
  ·rename_i e sz vs hlit hl;split at hk
   ·rename_i ss hss;split at hk
    ·rename_i rows hr;cases hk;refine fun h2 hp=>gives_buildSliceD hop hlit ?_ hr
     rw[List.all_eq_true]at hl ⊢;exact fun q hq=>liveC_pre hp (hl q hq)
    ·cases hk
   ·cases hk
  ·cases hk
 ·rename_i c hop;split at hk
  ·rename_i y ts;split at hk
   ·rename_i t ht;exact vlenT_sound hop ht hk
   ·cases hk
  ·rename_i y ts;split at hk
   ·rename_i t ht hy;split at hk
    ·rename_i e hu;cases hk;exact fun h2 hp=>gives_capNil hop ht hu hy
    ·cases hk
   ·cases hk
  ·rename_i y z ts;split at hk
   ·rename_i k a k' b hy hz;split at hk
    ·rename_i hkk;have:=of_decide_eq_true hkk;subst this;cases hk;exact fun h2 hp=>gives_max hop hy hz
    ·cases hk
   ·cases hk
  ·rename_i y z ts;split at hk
   ·rename_i k a k' b hy hz;split at hk
    ·rename_i hkk;have:=of_decide_eq_true hkk;subst this;cases hk;exact fun h2 hp=>gives_min hop hy hz
    ·cases hk
   ·cases hk
  ·split at hk
   ·rename_i f hq;split at hk
    ·rename_i s c hx hy hz;cases hk;obtain⟨fn,hf,hb,ho,hn⟩:=extO_spec hx;obtain⟨k1,k2⟩:=find_idx hn ho;exact fun h2 hp=>gives_ext hop hq hf hb (by rw[hn];rfl) k1 k2 hy hz (fun w=>Lib.run_indexByteString s c w)
    ·rename_i s c hx hy hz;cases hk;obtain⟨fn,hf,hb,ho,hn⟩:=extO_spec1 hx;obtain⟨k1,k2⟩:=find_cnt hn ho;exact fun h2 hp=>gives_ext hop hq hf hb (by rw[hn];rfl) k1 k2 hy hz (fun w=>Lib.run_countString s c w)
    ·cases hk
   ·cases hk
  ·cases hk
 ·cases hk
end
section
variable {P : Program} {M : List Nat} {h h' : List Box}
def inv (L:List Nat)(n b:Nat):Option Nat:=match L.idxOf? b with
 |some i=>some i
 |none=>if b < n then none else some (L.length+(b - n))
def inv_ext {L:List Nat}{n:Nat}(hnd:L.Nodup)(hlt: ∀b∈L,b < n)(i:Nat):inv L n (ext L n i)=some i:=by
 unfold inv ext;cases h:L[i]? with
 |some b=>simp only[idxOf_at hnd h]
 |none=>
  have hi:L.length<=i:=List.getElem?_eq_none_iff.1 h;have hno:L.idxOf? (n+(i - L.length))=none:=by
   cases hq:L.idxOf? (n+(i - L.length))with
   |none=>rfl
   |some j=>have:=hlt _ (List.mem_of_getElem? (idxOf_some hq));omega
  simp only[hno];rw[if_neg (by omega)]
  congr 1;omega
def ext_inv {L:List Nat}{n b i:Nat}(hlt: ∀b∈L,b < n)(h:inv L n b=some i):ext L n i=b:=by
 unfold inv at h;unfold ext;cases hq:L.idxOf? b with
 |some j=>
  rw[hq]at h;cases h;rw[idxOf_some hq]
 |none=>
  rw[hq]at h;simp only at h;split at h
  ·cases h
  ·cases h;rw[List.getElem?_eq_none (by omega)]
   simp only;omega
def inv_none {L:List Nat}{n b:Nat}(h:inv L n b=none):b ∉ L/\b < n:=by
 unfold inv at h;cases hq:L.idxOf? b with
 |some j=>rw[hq]at h;cases h
 |none=>
  rw[hq]at h;simp only at h;split at h
  ·exact⟨idxOf_none hq,by assumption⟩
  ·cases h
def amongH (h:List Box)(L M':List Nat)(h':List Box):List Box:=
 (h.zipIdx.map fun xb=>match L.idxOf? xb.2 with
  |some i=>(h'.getD i .gone).ren (ext L h.length)
  |none=>xb.1.kill M')++(h'.drop L.length).map (Box.ren (ext L h.length))
def among_at {L M':List Nat}{b:Nat}{x:Box}(hlt: ∀b∈L,b < h.length)(hl:L.length<=h'.length)(hx:(amongH h L M' h')[b]? =some x):
  (∃i y,inv L h.length b=some i/\h'[i]? =some y/\x=y.ren (ext L h.length))\/(inv L h.length b=none/\ ∃y,h[b]? =some y/\x=y.kill M'):=by
 unfold amongH at hx
 by_cases hb:b < h.length
 ·rw[List.getElem?_append_left (by simpa using hb),List.getElem?_map,Option.map_eq_some_iff]at hx
  obtain⟨⟨y,k⟩,hy,rfl⟩:=hx;rw[List.getElem?_zipIdx,Option.map_eq_some_iff]at hy;obtain⟨y',hy',he⟩:=hy;simp only[Nat.zero_add,Prod.mk.injEq]at he;obtain⟨rfl,rfl⟩:=he;simp only;cases hq:L.idxOf? b with
  |some i=>
   left
   have hi:i < L.length:=(List.getElem?_eq_some_iff.1 (idxOf_some hq)).1;refine⟨i,h'[i]'(by omega),by unfold inv;rw[hq],List.getElem?_eq_getElem (by omega),?_⟩
   simp only;rw[List.getD_eq_getElem?_getD,List.getElem?_eq_getElem (by omega)];rfl
  |none=>
   right
   refine⟨?_,y',hy',rfl⟩;unfold inv;rw[hq];simp only;rw[if_pos hb]
 ·left
  rw[List.getElem?_append_right (by simp;omega),List.getElem?_map,Option.map_eq_some_iff]at hx
  obtain⟨y,hy,rfl⟩:=hx;simp only[List.length_map,List.length_zipIdx]at hy;rw[List.getElem?_drop]at hy;refine⟨_,y,?_,hy,rfl⟩;have hq:L.idxOf? b=none:=by
   cases hq:L.idxOf? b with
   |none=>rfl
   |some j=>exact absurd (hlt _ (List.mem_of_getElem? (idxOf_some hq))) hb
  unfold inv;rw[hq];simp only;rw[if_neg hb]
def kill_at (M':List Nat)(x:Box)(g:Gh)(b:Nat):(x.kill M').at? g b=x.at? g b:=by cases x<;>rfl
def XCall (P:Program)(M:List Nat)(f:FuncId)(args:List V)(h:List Box)(R:Ending->World->Gh->Prop)(h':List Box):Prop:=
 ∀(g:Gh) (w:World) (us:List Value),SimH g h w->Reps w g us args->
  Calls P f us.toArray w fun e w'=> ∃g',R e w' g'/\Keep M g h w g' h' w'
def RetV (r:V)(e:Ending)(w:World)(g:Gh):Prop:= ∃u,e= .returned u/\Rep w g u r
def PanV (p:V)(e:Ending)(w:World)(g:Gh):Prop:= ∃u,e= .panicked [{ v:=u,recovered:=false }]/\Rep w g u p
def XCall.ret {f:FuncId}{args:List V}{r:V}:XCall P M f args h (RetV r) h'↔HCall P M f args h r h':=by
 constructor
 ·intro hc g w us hs hu;refine(hc g w us hs hu).mono ?_
  rintro e w' ⟨g',⟨u,he,hr⟩,hk⟩
  exact⟨u,g',he,hr,hk⟩
 ·intro hc g w us hs hu;refine(hc g w us hs hu).mono ?_
  rintro e w' ⟨u,g',he,hr,hk⟩
  exact⟨g',⟨u,he,hr⟩,hk⟩
def XCall.among {f:FuncId}{args:List V}{L:List Nat}{R R':Ending->World->Gh->Prop}(hL:reachOK h L args=true)
  (hR: ∀(g g':Gh) e w,(∀b o,g.Z b o->g'.Z b o)->(∀b,b < g.n->g'.blk (ext L h.length b)=g.blk b/\g'.val (ext L h.length b)=g.val b/\ext L h.length b < g'.n/\g'.cd (ext L h.length b)=g.cd b)->R e w g->R' e w g')
  (hc:XCall P M f (args.map (V.ren (tau L))) (smallH h L) R h'):
  XCall P (M.map (ext L h.length)) f args h R' (amongH h L (M.map (ext L h.length)) h'):=by
 obtain⟨q1,q2,q3,q4⟩:=reachOK_spec hL;intro g w us hs hu;generalize hσe:ext L h.length=σ;generalize hMe:M.map σ=M'
 let g2:Gh:= { Z:=g.Z,n:=L.length,blk:=fun i=>g.blk (σ i),val:=fun i=>g.val (σ i),cd:=fun i=>g.cd (σ i) }
 have hσ2: ∀b,b < g2.n->g2.blk b=g.blk (σ b)/\g2.val b=g.val (σ b)/\g2.cd b=g.cd (σ b):=fun b _=>⟨rfl,rfl,rfl⟩
 have hσL: ∀ {i b:Nat},L[i]? =some b->σ i=b:=fun hi=>by rw[<-hσe];simp[ext,hi]
 have hbox: ∀(i:Nat) x,(smallH h L)[i]? =some x-> ∃b y,L[i]? =some b/\σ i=b/\h[b]? =some y/\y.inB L=true/\x=y.ren (tau L)/\i < L.length:=by
  intro i x hx;simp only[smallH,List.getElem?_map,Option.map_eq_some_iff]at hx;obtain⟨b,hb,rfl⟩:=hx;have hlt:=q2 b (List.mem_of_getElem? hb);refine⟨b,h[b],hb,hσL hb,List.getElem?_eq_getElem hlt,?_,?_,(List.getElem?_eq_some_iff.1 hb).1⟩
  ·have:=q4 b (List.mem_of_getElem? hb)
   rwa [List.getD_eq_getElem?_getD,List.getElem?_eq_getElem hlt]at this
  ·rw[List.getD_eq_getElem?_getD,List.getElem?_eq_getElem hlt];rfl
 have hat2: ∀(i:Nat) (y:Box),(y.ren (tau L)).at? g2 i=y.at? g (σ i):=fun i y=>by cases y<;>rfl
 have hown2: ∀k,Owned g2 (smallH h L) k-> ∃b y,b∈L/\h[b]? =some y/\y.at? g b=some k:=by
  rintro k ⟨i,x,hx,hk'⟩
  obtain⟨b,y,hb,e,hy,_,rfl,_⟩:=hbox i x hx;rw[hat2,e]at hk';exact⟨b,y,List.mem_of_getElem? hb,hy,hk'⟩
 have hown2': ∀k,Owned g2 (smallH h L) k->Owned g h k:=fun k hk=>by
  obtain⟨b,y,_,hy,hk'⟩:=hown2 k hk;exact⟨b,y,hy,hk'⟩
 have hs2:SimH g2 (smallH h L) w:=by
  refine⟨by simp[smallH,g2],fun i x hx=> ?_,fun i j x y k hx hy hkx hky=> ?_,fun k o hk' hz=>hs.zsep k o (hown2' k hk') hz,hs.zlt,hs.tab⟩
  ·obtain⟨b,y,hb,e,hy,hin,rfl,hi⟩:=hbox i x hx;refine back_box (g:=g) (g0:=g2) (σ:=σ) rfl hσ2 hi (Box.ren_sc hin) ?_;rw[<-hσe,Box.ren_ren hin,hσe,e];exact hs.rep b y hy
  ·obtain⟨b,y',hb,e,hy',_,rfl,_⟩:=hbox i x hx;obtain⟨c,z',hc,e',hz',_,rfl,_⟩:=hbox j y hy;rw[hat2,e]at hkx;rw[hat2,e']at hky;have:=hs.sep b c y' z' k hy' hz' hkx hky;subst this;have a1:=idxOf_at q1 hb;have a2:=idxOf_at q1 hc;rw[a1]at a2;exact Option.some.inj a2
 have hu2:Reps w g2 us (args.map (V.ren (tau L))):=by
  refine⟨by rw[List.length_map];exact hu.1,fun i u v h1 h2=> ?_⟩
  rw[List.getElem?_map,Option.map_eq_some_iff]at h2;obtain⟨v0,hv0,rfl⟩:=h2;have hin:v0.inB L=true:=by
   have: ∀ {cs:List V},V.inLs L cs=true-> ∀c∈cs,c.inB L=true:=by
    intro cs
    induction cs with
    |nil=>intro _ c hc;simp at hc
    |cons d ds ih=>
     intro hd c hc;have hd:(d.inB L&&V.inLs L ds)=true:=hd;rw[Bool.and_eq_true]at hd;rcases List.mem_cons.1 hc with rfl|hc
     ·exact hd.1
     ·exact ih hd.2 c hc
   exact this q3 v0 (List.mem_of_getElem? hv0)
  refine ren_back (g:=g) (g0:=g2) (σ:=σ) rfl hσ2 (hu.2 i u v0 h1 hv0) ?_ (V.ren_sc hin);rw[<-hσe,V.ren_ren hin]
 refine(hc g2 w us hs2 hu2).mono ?_
 rintro e0 w' ⟨g3,hru,hk⟩
 have hn3:g3.n=h'.length:=hk.heap.n;have hl3:L.length<=h'.length:=by rw[<-hn3];exact hk.le.n
 have hgn:g.n=h.length:=hs.n
 let g4:Gh:= { Z:=g3.Z,n:=h.length+(h'.length - L.length),blk:=fun b=>match inv L h.length b with
  |some i=>g3.blk i
  |none=>g.blk b,val:=fun b=>match inv L h.length b with
  |some i=>g3.val i
  |none=>g.val b,cd:=fun b=>match inv L h.length b with
  |some i=>g3.cd i
  |none=>g.cd b }
 have hie: ∀i,inv L h.length (σ i)=some i:=fun i=>by rw[<-hσe];exact inv_ext q1 q2 i
 have hei: ∀ {b i:Nat},inv L h.length b=some i->σ i=b:=fun hb=>by rw[<-hσe];exact ext_inv q2 hb
 have hσ4: ∀b,b < g3.n->g4.blk (σ b)=g3.blk b/\g4.val (σ b)=g3.val b/\σ b < g4.n/\g4.cd (σ b)=g3.cd b:=by
  intro i hi;refine⟨by simp only[g4,hie],by simp only[g4,hie],?_,by simp only[g4,hie]⟩
  show σ i < h.length+(h'.length - L.length);rw[<-hσe];unfold ext;cases hq:L[i]? with
  |some b=>have:=q2 b (List.mem_of_getElem? hq);simp only;omega
  |none=>have:=List.getElem?_eq_none_iff.1 hq;simp only;omega
 have h4o: ∀b,inv L h.length b=none->g4.blk b=g.blk b/\g4.val b=g.val b/\g4.cd b=g.cd b:=fun b hb=>by
  refine⟨?_,?_,?_⟩<;>simp only[g4,hb]
 have hMb: ∀b,inv L h.length b=none->b ∉ M':=by
  intro b hb hm;rw[<-hMe,List.mem_map]at hm;obtain⟨i,_,rfl⟩:=hm;rw[hie]at hb;cases hb
 have hle:g.Le (· ∈M') g4:=by
  refine⟨hk.le.Z,by show g.n<=h.length+_;omega,fun b hb hm=> ?_,fun b hb hm=> ?_,fun b hb=> ?_⟩
  ·cases hq:inv L h.length b with
   |none=>exact(h4o b hq).1
   |some i=>
    have he:=hei hq;have hi:i < L.length:=by
     have:=hσ4
     by_cases hi:i < L.length
     ·exact hi
     ·exfalso;rw[<-hσe]at he;unfold ext at he;rw[List.getElem?_eq_none (by omega)]at he
      simp only at he;omega
    simp only[g4,hq];rw[hk.le.blk i hi (fun him=>hm (by rw[<-hMe,<-he];exact List.mem_map_of_mem him))]
    show g.blk (σ i)=g.blk b;rw[he]
  ·cases hq:inv L h.length b with
   |none=>exact(h4o b hq).2.1
   |some i=>
    have he:=hei hq;have hi:i < L.length:=by
     by_cases hi:i < L.length
     ·exact hi
     ·exfalso;rw[<-hσe]at he;unfold ext at he;rw[List.getElem?_eq_none (by omega)]at he
      simp only at he;omega
    simp only[g4,hq];rw[hk.le.val i hi (fun him=>hm (by rw[<-hMe,<-he];exact List.mem_map_of_mem him))]
    show g.val (σ i)=g.val b;rw[he]
  ·cases hq:inv L h.length b with
   |none=>exact(h4o b hq).2.2
   |some i=>
    have he:=hei hq;have hi:i < L.length:=by
     by_cases hi:i < L.length
     ·exact hi
     ·exfalso;rw[<-hσe]at he;unfold ext at he;rw[List.getElem?_eq_none (by omega)]at he
      simp only at he;omega
    simp only[g4,hq];rw[hk.le.cd i hi];show g.cd (σ i)=g.cd b;rw[he]
 have ho:Over M' w g w' g4:=⟨hle,fun b o hz=>hk.fr.cell (hs.zlt b o hz) (fun hk'=>hs.zsep b o (hown2' b hk') hz)⟩
 have hout: ∀ {b:Nat} {y:Box} {k:Nat},inv L h.length b=none->h[b]? =some y->y.at? g b=some k-> ¬Owned g2 (smallH h L) k:=by
  intro b y k hb hy hk' hO;obtain⟨c,z,hc,hz,hkz⟩:=hown2 k hO;have:=hs.sep b c y z k hy hz hk' hkz;subst this;exact(inv_none hb).1 hc
 have hat4: ∀ {b:Nat} (y:Box),inv L h.length b=none->(y.kill M').at? g4 b=y.at? g b:=by
  intro b y hb;rw[kill_at];obtain⟨e1,e2,_⟩:=h4o b hb;cases y<;>simp only[Box.at?,e1,e2]
 have hat3: ∀ {b i:Nat} (y:Box),inv L h.length b=some i->i < g3.n->(y.ren σ).at? g4 b=y.at? g3 i:=by
  intro b i y hb hi;rw[<-hei hb];exact ren_at σ (hσ4 i hi).1 (hσ4 i hi).2.1 y
 have hA: ∀ {b:Nat} {x:Box},(amongH h L M' h')[b]? =some x->(∃i y,inv L h.length b=some i/\h'[i]? =some y/\x=y.ren σ)\/(inv L h.length b=none/\ ∃y,h[b]? =some y/\x=y.kill M'):=fun hx=>by
  rw[<-hσe];exact among_at q2 hl3 hx
 refine⟨g4,hR g3 g4 e0 w' (fun _ _ hz=>hz) (by rw[hσe];exact hσ4) hru,⟨?_,hle,hk.fr.mono hown2',fun b o hz=> ?_,?_⟩⟩
 ·refine⟨?_,fun b x hx=> ?_,fun b c x y k hx hy hkx hky=> ?_,?_,hk.heap.zlt,hk.heap.tab⟩
  ·show h.length+(h'.length - L.length)=_;simp[amongH]
  ·rcases hA hx with⟨i,y,hb,hy,rfl⟩|⟨hb,y,hy,rfl⟩
   ·have hi:i < g3.n:=by rw[hn3];exact(List.getElem?_eq_some_iff.1 hy).1
    rw[<-hei hb];exact ren_box (g:=g3) (g':=g4) (σ:=σ) (fun _ _ hz=>hz) hσ4 hi (hk.heap.rep i y hy)
   ·exact BoxRep.over ho (by rw[hgn];exact(inv_none hb).2) (hMb b hb) (fun k hk'=>hk.fr.block k ((hs.rep b y hy).lt hk') (hout hb hy hk')) (hs.rep b y hy)
  ·rcases hA hx with⟨i,x',hb,hx',rfl⟩|⟨hb,x',hx',rfl⟩<;>rcases hA hy with⟨j,y',hc',hy',rfl⟩|⟨hc',y',hy',rfl⟩
   ·rw[hat3 x' hb (by rw[hn3];exact(List.getElem?_eq_some_iff.1 hx').1)]at hkx
    rw[hat3 y' hc' (by rw[hn3];exact(List.getElem?_eq_some_iff.1 hy').1)]at hky
    have:=hk.heap.sep i j x' y' k hx' hy' hkx hky;subst this;rw[<-hei hb,<-hei hc']
   ·rw[hat3 x' hb (by rw[hn3];exact(List.getElem?_eq_some_iff.1 hx').1)]at hkx
    rw[hat4 y' hc']at hky;exfalso;rcases hk.own k ⟨i,x',hx',hkx⟩with h1|h1
    ·exact hout hc' hy' hky h1
    ·have:=(hs.rep c y' hy').lt hky;omega
   ·rw[hat3 y' hc' (by rw[hn3];exact(List.getElem?_eq_some_iff.1 hy').1)]at hky
    rw[hat4 x' hb]at hkx;exfalso;rcases hk.own k ⟨j,y',hy',hky⟩with h1|h1
    ·exact hout hb hx' hkx h1
    ·have:=(hs.rep b x' hx').lt hkx;omega
   ·rw[hat4 x' hb]at hkx;rw[hat4 y' hc']at hky;exact hs.sep b c x' y' k hx' hy' hkx hky
  ·rintro k o ⟨b,x,hx,hkx⟩ hz
   rcases hA hx with⟨i,x',hb,hx',rfl⟩|⟨hb,x',hx',rfl⟩
   ·rw[hat3 x' hb (by rw[hn3];exact(List.getElem?_eq_some_iff.1 hx').1)]at hkx
    exact hk.heap.zsep k o ⟨i,x',hx',hkx⟩ hz
   ·rw[hat4 x' hb]at hkx;rcases hk.znew k o hz with h1|h1|h1
    ·exact hs.zsep k o ⟨b,x',hx',hkx⟩ h1
    ·have:=(hs.rep b x' hx').lt hkx;omega
    ·exact hout hb hx' hkx h1
 ·rcases hk.znew b o hz with h1|h1|h1
  ·exact .inl h1
  ·exact .inr (.inl h1)
  ·exact .inr (.inr (hown2' b h1))
 ·rintro k ⟨b,x,hx,hkx⟩
  rcases hA hx with⟨i,x',hb,hx',rfl⟩|⟨hb,x',hx',rfl⟩
  ·rw[hat3 x' hb (by rw[hn3];exact(List.getElem?_eq_some_iff.1 hx').1)]at hkx
   rcases hk.own k ⟨i,x',hx',hkx⟩with h1|h1
   ·exact .inl (hown2' k h1)
   ·exact .inr h1
  ·rw[hat4 x' hb]at hkx;exact .inl ⟨b,x',hx',hkx⟩
def HCall.among {f:FuncId}{args:List V}{L:List Nat}{r:V}(hL:reachOK h L args=true)(hc:HCall P M f (args.map (V.ren (tau L))) (smallH h L) r h'):
  HCall P (M.map (ext L h.length)) f args h (r.ren (ext L h.length)) (amongH h L (M.map (ext L h.length)) h'):=
 XCall.ret.1 (XCall.among hL (fun _ _ _ _ hz hσ ⟨u,he,hr⟩=>⟨u,he,ren_rep hz hσ hr⟩) (XCall.ret.2 hc))
def XCall.amongP {f:FuncId}{args:List V}{L:List Nat}{p:V}(hL:reachOK h L args=true)(hc:XCall P M f (args.map (V.ren (tau L))) (smallH h L) (PanV p) h'):
  XCall P (M.map (ext L h.length)) f args h (PanV (p.ren (ext L h.length))) (amongH h L (M.map (ext L h.length)) h'):=
 XCall.among hL (fun _ _ _ _ hz hσ ⟨u,he,hr⟩=>⟨u,he,ren_rep hz hσ hr⟩) hc
end
structure CfgO where
 inl:List FuncId
 mint:List FuncId
 osl:List Nat:=[]
 dead:List FuncId:=[]
 own:List (Nat × List (Nat × TypeId)):=[]
 stop:List Nat:=[]
def panV (p:V):V:= .tup [.tup [],p]
def panOf:V->Option V
 | .tup [.tup [],p]=>some p
 |_=>none
inductive Callee where
 |fn (f:FuncId)
 |yld (b:Nat) (R:RecI)
section
variable (A : Sy) (P : Program)
def appendT (h:List Box)(t:TypeId)(a b:V):Tree (List Nat × List Box × V):=
 match elT P t with
 |some (e,sz,by_,z)=>match decide (z.cells.size=sz),decide (0 < sz),rowsV h sz b with
  |true,true,some news=>match a with
   | .own c=>match h[c]? with
     |some (.arr e' sz' rows)=>match decide (e'=e),decide (sz'=sz)with
      |true,true=>chk (A.fits rows news by_) (.ret ([c],(h.map (Box.kill [c])).set c (.arr e sz (A.rapp rows news)), .own c))
      |_,_=> .fail
     |_=> .fail
   | .nils=>chk (A.fits [] news by_) (.ret ([],h++[.arr e sz news], .own h.length))
   |_=> .fail
  |_,_,_=> .fail
 |none=> .fail
def storeT (h:List Box)(t:TypeId)(a v:V):Tree (List Box):=
 match v.cellsV,v.liveC h with
 |some ns,true=>match a with
  | .ptr b off=>match h[b]? with
    |some (.cells (.ty bt) vs)=>match ns.all (V.oneB h),decide (szO P t=some ns.length),decide (off+ns.length<=vs.length)with
     |true,true,true=> .ret (h.set b (.cells (.ty bt) (vs.take off++ns++vs.drop (off+ns.length))))
     |_,_,_=> .fail
    |_=> .fail
  | .pml b sz i off=>match h[b]?,shOf P 9 t with
    |some (.arr e sz' rows),some ss=>match decide (sz'=sz),toDs ss ns with
     |true,some ds=>match decide (szO P t=some ds.length),decide (off+ds.length<=sz)with
      |true,true=>chk (A.inrn i rows) (.ret (h.set b (.arr e sz (A.rput rows i off ds))))
      |_,_=> .fail
     |_,_=> .fail
    |_,_=> .fail
  |_=> .fail
 |_,_=> .fail
def isZ:Operand->Bool
 | .const (.int _ n)=>decide (n=0)
 |_=>false
def makeT (h:List Box)(t:TypeId)(z0:Bool)(a b:V):Tree (List Box × V):=
 match elT P t,a,b with
 |some (e,sz,by_,z), .d (.int _ n), .d (.int _ m)=>match z0 with
  |true=>chk (A.ieq n 0) (chk (A.mkok0 m by_) (.ret (h++[.arr e sz []], .own h.length)))
  |false=>match shOf P 9 e with
   |some ss=>match zeroOK ss z.cells.toList,decide (ss.length=sz)with
    |true,true=>chk (A.mkok n m by_) (.ret (h++[.arr e sz (A.rep n (ss.map zeroD))], .own h.length))
    |_,_=> .fail
   |none=> .fail
 |_,_,_=> .fail
def putT (h:List Box)(t:TypeId)(a q v:V):Tree (List Box):=
 match mapO P t,a,q with
 |some (e,kk), .map b, .d k=>match h[b]?,shOf P 9 e,kk.fitsB k with
  |some (.mp kk' rows),some [s],true=>match decide (kk'=kk),v.toD s with
   |true,some x=> .ret (h.set b (.mp kk (A.mput k x rows)))
   |_,_=> .fail
  |_,_,_=> .fail
 |_,_,_=> .fail
def delT (h:List Box)(t:TypeId)(a q:V):Tree (List Box):=
 match mapO P t,a,q with
 |some (_,kk), .map b, .d k=>match h[b]?,kk.fitsB k with
  |some (.mp kk' rows),true=>match decide (kk'=kk)with
   |true=> .ret (h.set b (.mp kk (A.mdel k rows)))
   |_=> .fail
  |_,_=> .fail
 |_,_,_=> .fail
def appzT (h:List Box)(t tn:TypeId)(a b:V):Tree (List Box × V):=
 match elT P t,P.underlying tn,a,b with
 |some (e,sz,by_,z),some (.int _), .nils, .d (.int _ n)=>match shOf P 9 e with
  |some ss=>match zeroOK ss z.cells.toList,decide (ss.length=sz),decide (0 < sz)with
   |true,true,true=>chk (A.mkz n by_) (.ret (h++[.arr e sz (A.rep n (ss.map zeroD))], .own h.length))
   |_,_,_=> .fail
  |none=> .fail
 |_,_,_,_=> .fail
def headT (h:List Box)(t:TypeId)(a:V)(hi:Option V):Tree (List Nat × List Box × V):=
 match a with
 | .own b=>match h[b]? with
   |some (.arr e' sz rows)=>match elO P t,bndV (A.rlen rows) hi with
    |some (_,sz'),some r=>match decide (sz'=sz)with
     |true=>chk (A.cutok 0 r (A.rlen rows)) (.ret ([b],(h.map (Box.kill [b])).set b (.arr e' sz (A.head rows r)), .own b))
     |false=> .fail
    |_,_=> .fail
   |_=> .fail
 |_=> .fail
def rangeT (h:List Box)(t:TypeId)(v:V):Tree (List Box × V):=match P.underlying t,v with
 |some .string, .d (.str s)=> .ret (h++[.cells .sit [.d (.str s), .d (.int .i64 0)]], .ptr h.length 0)
 |_,_=> .fail
def nextT (h:List Box)(v:V)(isS:Bool):Tree (List Box × V):=match v,isS with
 | .ptr b 0,true=>match h[b]? with
   |some (.cells .sit [.d (.str s), .d (.int .i64 p)])=> .ite (A.ilt p (A.slen s))
     (.ret (h.set b (.cells .sit [.d (.str s), .d (.int .i64 (A.add p (A.rwid s p)))]), .tup [.d (.bool true), .d (.int .i64 p), .d (.int .i32 (A.rdec s p))]))
     (.ret (h, .tup [.d (.bool false)]))
   |_=> .fail
 |_,_=> .fail
def oslT (h:List Box)(t:TypeId)(v:V)(lo hi:Option V):Tree V:=match v with
 | .own b=>match h[b]? with
   |some (.arr _ sz rows)=>match elO P t,bndV 0 lo,bndV (A.rlen rows) hi with
    |some (_,sz'),some l,some r=>match decide (sz'=sz)with
     |true=>chk (A.cutok l r (A.rlen rows)) (.ret (.osl b sz l (A.sub r l)))
     |false=> .fail
    |_,_,_=> .fail
   |_=> .fail
 |_=> .fail
def dstT (h:List Box):V->Option (Nat × Int × Int)
 | .own b=>match h[b]? with
   |some (.arr _ 1 rows)=>some (b,0,A.rlen rows)
   |_=>none
 | .osl b 1 lo n=>some (b,lo,n)
 |_=>none
def copyT (h:List Box)(t:TypeId)(v w:V):Tree (List Box × V):=match elO P t,dstT A h v,rowsV h 1 w with
 |some (_,1),some (b,lo,n),some news=>match h[b]? with
  |some (.arr e' 1 rows)=>chk (A.cutok lo (A.add lo n) (A.rlen rows)) (.ret (h.set b (.arr e' 1 (A.rcopy rows lo n news)), .d (.int .i64 (A.imin n (A.rlen news)))))
  |_=> .fail
 |_,_,_=> .fail
def clearT (h:List Box)(t:TypeId)(v:V):Tree (List Box × V):=match elT P t,v with
 |some (e,1,_,z), .osl b 1 lo n=>match h[b]?,shOf P 9 e with
  |some (.arr e' 1 rows),some [s]=>match zeroOK [s] z.cells.toList with
   |true=>chk (A.cutok lo (A.add lo n) (A.rlen rows)) (.ret (h.set b (.arr e' 1 (A.rcopy rows lo n (A.rep n [zeroD s]))), .tup []))
   |false=> .fail
  |_,_=> .fail
 |_,_=> .fail
def plainT (h:List Box)(O:Operand->V)(o:Oper):Tree (List Nat × List Box × V):=(opPT A P h O o).bind fun x=> .ret ([],h,x)
def opT (h:List Box)(O:Operand->V)(o:Oper):Tree (List Nat × List Box × V):=
 match o.op with
 | .assign y=>match O y with
   | .nils=>match elO P o.type with
     |some (e,sz)=> .ret ([],h++[.arr e sz []], .own h.length)
     |none=> .ret ([],h, .nils)
   |v=> .ret ([],h,v)
 | .box t y=>match (O y).cellsV,(O y).liveC h with
   |some vs,true=> .ret ([],h++[.cells (.ty t) vs], .ptr h.length 0)
   |_,_=> .fail
 | .alloc t=>match zeroO P t with
   |some z=>match (ofConst z).cellsV with
    |some vs=> .ret ([],h++[.cells (.ty t) vs], .ptr h.length 0)
    |none=> .fail
   |none=> .fail
 | .store t y z=>(storeT A P h t (O y) (O z)).bind fun h'=> .ret ([],h', .any)
 | .makeSlice t y z=>(makeT A P h t (isZ y) (O y) (O z)).bind fun r=> .ret ([],r.1,r.2)
 | .makeMap t r=>match r,mapO P t with
   |none,some (_,kk)=> .ret ([],h++[.mp kk []], .map h.length)
   |_,_=> .fail
 | .mapUpdate t y z r=>(putT A P h t (O y) (O z) (O r)).bind fun h'=> .ret ([],h', .any)
 | .insert t y z r=>(putT A P h t (O y) (O z) (O r)).bind fun h'=> .ret ([],h', .any)
 | .buildSlice t n parts=>match litV P t n (parts.toList.map fun q=>(q.1,O q.2)),(parts.toList.all fun q=>(O q.2).liveC h)with
   |some (e,sz,vs),true=>match shOf P 9 e with
    |some ss=>match rowsOf ss sz n vs,decide (n<=16777216)with
     |some rows,true=> .ret ([],h++[.arr e sz rows], .own h.length)
     |_,_=> .fail
    |none=> .fail
   |_,_=> .fail
 | .call c=>match c with
   |⟨.builtin .append,⟨[y,z]⟩,⟨[t,t']⟩⟩=>match decide (t'=t)with
    |true=>appendT A P h t (O y) (O z)
    |false=>(appzT A P h t t' (O y) (O z)).bind fun r=> .ret ([],r.1,r.2)
   |⟨.builtin .delete,⟨[y,z]⟩,⟨[t,_]⟩⟩=>(delT A P h t (O y) (O z)).bind fun h'=> .ret ([],h', .any)
   |⟨.builtin .clear,⟨[y]⟩,⟨[t]⟩⟩=>(clearT A P h t (O y)).bind fun r=> .ret ([],r.1,r.2)
   |⟨.builtin .copy,⟨[y,z]⟩,⟨[t,_]⟩⟩=>(copyT A P h t (O y) (O z)).bind fun r=> .ret ([],r.1,r.2)
   |_=>plainT A P h O o
 | .range t y=>(rangeT P h t (O y)).bind fun r=> .ret ([],r.1,r.2)
 | .next i s=>(nextT A h (O i) s).bind fun r=> .ret ([],r.1,r.2)
 | .slice t y lo hi mx=>match O y,lo,mx with
   | .own _,none,none=>headT A P h t (O y) (hi.map O)
   |_,_,_=>plainT A P h O o
 |_=>plainT A P h O o
def mkVs:List TypeId->List D->Option (List V)
 | [],[]=>some []
 | [],_::_=>none
 |t::ts,ds=>match shOf P 9 t,aggB P t with
  |some ss,true=>match decide (ss.length<=ds.length),mkVs ts (ds.drop ss.length)with
   |true,some vs=>some (.agg ((ds.take ss.length).map .d)::vs)
   |_,_=>none
  |some [_],false=>match ds with
   |d::ds=>match mkVs ts ds with
    |some vs=>some (.d d::vs)
    |none=>none
   | []=>none
  |_,_=>none
def mkV (ts:List TypeId)(ds:List D):Option V:=match mkVs P ts ds with
 |some [v]=>some v
 |some vs=>some (.tup vs)
 |none=>none
def shR:List TypeId->Option (List Sh)
 | []=>some []
 |t::ts=>match shOf P 9 t,shR ts with
  |some a,some b=>some (a++b)
  |_,_=>none
def Sh.flat:Sh->Bool
 | .sl _=>false
 |_=>true
def kvT (f:FuncId)(vs:List V):Tree V:=match Nat.beq f gP,vs with
 |true,[.d (.str s), .d (.int .i64 a), .d (.int .i64 b)]=>match decide (a=10/\b=64)with
  |true=>chk (A.ile (A.slen s) 1000000) (.ret (.tup [.d (.int .i64 (A.pnum s)), .ifn (A.pok s)]))
  |false=> .fail
 |_,_=> .fail
def KV (P:Program):Prop:=(sigP P gP).isSome=true-> ∀s:BA,s.size<=1000000->PCall P gP [.d (.str s), .d (.int .i64 10), .d (.int .i64 64)] (.tup [.d (.int .i64 (pnumI s)), .ifn (pokB s)])
def callT (f:FuncId)(vs:List V)(ts:List TypeId):Tree V:=match shR P ts with
 |some ss=> .call f vs fun ds=>(openRT A ss ds 0).bind fun xs=>match mkV P ts xs with
  |some v=> .ret v
  |none=> .fail
 |none=>kvT A f vs
def out1 (t:TypeId)(v:V):Option (List D):=match shOf P 9 t,aggB P t,v with
 |some ss,true, .agg cs=>toDs ss cs
 |some [s],false,v=>match v.toD s with
  |some x=>some [x]
  |none=>none
 |_,_,_=>none
def can1 (t:TypeId)(v:V):V:=match out1 P t v,aggB P t with
 |some ds,true=> .agg (ds.map .d)
 |some [d],false=> .d d
 |_,_=>v
def canL:List TypeId->List V->List V
 |t::ts,v::vs=>can1 P t v::canL ts vs
 |_,vs=>vs
def parP (f:FuncId):List TypeId:=match gG.contains f with
 |true=>[]
 |false=>match P.funcs[f]? with
  |some fn=>fn.params.toList
  |none=>[]
def callOf (P:Program)(O:Operand->V)(o:Oper):Option (FuncId × List V):=match o.op with
 | .call ⟨.value y,args,_⟩=>match bindV (match y with
   | .func f=> .fn f []
   |y=>O y) (args.toList.map O)with
   |some (f,vs)=>match extO P f with
    |none=>some (f,vs)
    |some _=>none
   |none=>none
 |_=>none
def yldOf (O:Operand->V)(o:Oper):Option (Nat × RecI × List V):=match o.op with
 | .call ⟨.value y,args,_⟩=>match O y with
   | .yld b R=>some (b,R,args.toList.map O)
   |_=>none
 |_=>none
variable (ent : Callee -> List V -> List Box -> Tree (List Nat × V × List Box)) (C : CfgO) (n0 : Nat) (M0 : List Nat)
def pureCallT (s:VSt)(o:Oper)(f:FuncId):Tree VSt:=
 let s1:=s.frz (fzl s o)
 match callOf P s1.get o,sigP P f with
 |some (_,vs0),some ts=>match canL P (parP P f) vs0 with
  |vs=>match vs.all V.pureB with
  |true=>match C.mint.contains f with
   |true=>match ts with
    | [t]=>match elO P t with
      |some (e,sz)=> .mint f vs e sz fun rows=> .ret (s1.next [] (s1.h++[.arr e sz rows]) o.dst (.own s1.h.length))
      |none=> .fail
    |_=> .fail
   |false=>match shR P ts with
    |some ss=>match ss.all Sh.flat with
     |true=>(callT A P f vs ts).bind fun v=> .ret (s.next [] s.h o.dst v)
     |false=>(callT A P f vs ts).bind fun v=> .ret (s1.next [] s1.h o.dst v)
    |none=>(callT A P f vs ts).bind fun v=> .ret (s1.next [] s1.h o.dst v)
  |false=> .fail
 |_,_=> .fail
def stepT1 (s:VSt)(o:Oper):Tree (Option V × VSt):=match callOf P s.get o with
 |some (f,vs)=>match C.inl.contains f,sigP P f with
  |true,some _=>(ent (.fn f) vs s.h).bind fun r=>match okM n0 M0 r.1 with
   |true=>match panOf r.2.1 with
    |none=> .ret (none,s.next r.1 r.2.2 o.dst r.2.1)
    |some p=> .ret (some p,s.next r.1 r.2.2 none .any)
   |false=> .fail
  |_,_=>(pureCallT A P C s o f).bind fun s'=> .ret (none,s')
 |none=>match o.op with
  | .panic y=>match s.get y with
    | .ifc t cs=> .ret (some (.ifc t cs),s)
    |_=> .fail
  |_=>
   let s1:=s.frz (fzl s o)
   (opT A P s1.h s1.get o).bind fun r=>match okM n0 M0 r.1 with
    |true=> .ret (none,s1.next r.1 r.2.1 o.dst r.2.2)
    |false=> .fail
def iceA (s:VSt)(o:Oper):VSt:=match o.dst,o.op with
 |some d, .call ⟨.value _,args,_⟩=>match C.stop.contains d with
  |true=>s.frz (args.toList.flatMap fun y=>match s.get y with
   | .agg cs=>(V.agg cs).owns
   |_=>[])
  |false=>s
 |_,_=>s
def stepT (s:VSt)(o:Oper):Tree (Option V × VSt):=match noDef o,yldOf s.get o with
 |true,some (b,R,vs)=>(ent (.yld b R) vs s.h).bind fun r=>match okM n0 M0 r.1 with
  |true=> .ret (none,s.next r.1 r.2.2 o.dst r.2.1)
  |false=> .fail
 |true,none=>match o.op,o.dst with
  | .slice t y lo hi none,some d=>match C.osl.contains d with
    |true=>(oslT A P s.h t (s.get y) (lo.map s.get) (hi.map s.get)).bind fun x=> .ret (none,s.next [] s.h o.dst x)
    |false=>stepT1 A P ent C n0 M0 s o
  |_,_=>match callOf P s.get o with
   |some (f,_)=>match C.dead.contains f with
    |true=> .fail
    |false=>stepT1 A P ent C n0 M0 (iceA C s o) o
   |none=>stepT1 A P ent C n0 M0 s o
 |false,_=> .fail
def mintB (P:Program):VSt->List (Nat × Nat × TypeId)->VSt
 |s,[]=>s
 |s,(b,off,t)::l=>match s.h[b]?,elO P t with
  |some (.cells k vs),some (e,sz)=>match vs[off]? with
   |some .nils=>mintB P ⟨s.t,(s.h.set b (.cells k (vs.set off (.own s.h.length))))++[.arr e sz []]⟩ l
   |_=>mintB P s l
  |none,some (e,sz)=>match s.t[off]? with
   |some .nils=>mintB P ⟨s.t.set off (.own s.h.length),s.h++[.arr e sz []]⟩ l
   |_=>mintB P s l
  |_,_=>mintB P s l
def mintP (P:Program):VSt->List (Nat × Nat × Nat × Nat × TypeId)->VSt
 |s,[]=>s
 |s,(b,off,b2,off2,t)::l=>match s.h[b]?,s.h[b2]?,elO P t,decide (b=b2)with
  |some (.cells k vs),some (.cells k2 vs2),some (e,sz),false=>match vs[off]?,vs2[off2]? with
   |some .nils,some .nils=>mintP P ⟨s.t,((s.h.set b (.cells k (vs.set off (.own s.h.length)))).set b2 (.cells k2 (vs2.set off2 (.own s.h.length))))++[.arr e sz []]⟩ l
   |_,_=>mintP P s l
  |_,_,_,_=>mintP P s l
def datV (P:Program)(t:TypeId):V->Option V
 | .nils=>match elO P t with
   |some (_,sz)=>some (.d (.sl sz []))
   |none=>none
 | .ifn true=>match shOf P 9 t with
   |some ss=>some (.ifo t true (ss.map zeroD))
   |none=>none
 |_=>none
def datB (P:Program):VSt->List (Nat × Nat × TypeId)->VSt
 |s,[]=>s
 |s,(b,off,t)::l=>match s.h[b]? with
  |some (.cells k vs)=>match vs[off]? with
   |some (.own c)=>datB P (s.frz [c]) l
   |some v=>match datV P t v with
    |some x=>datB P ⟨s.t,s.h.set b (.cells k (vs.set off x))⟩ l
    |none=>datB P s l
   |none=>datB P s l
  |none=>match s.t[off]? with
   |some (.own c)=>datB P (s.frz [c]) l
   |some v=>match datV P t v with
    |some x=>datB P ⟨s.t.set off x,s.h⟩ l
    |none=>datB P s l
   |none=>datB P s l
  |_=>datB P s l
def ownAt (s:VSt)(o:Oper):List (Nat × Nat × TypeId):=match o.dst with
 |some d=>match C.own.lookup d with
  |some l=>l.map fun q=>(s.h.length,q.1,q.2)
  |none=>[]
 |none=>[]
def forceD.{v}{β:Type v}(x:D)(K:D->β):β:=match x with
 | .int k n=>K (.int k n)
 | .bool b=>K (.bool b)
 | .str s=>K (.str s)
 | .sl sz rows=>K (.sl sz rows)
def forceV.{v}{β:Type v}(x:V)(K:V->β):β:=match x with
 | .any=>K .any
 | .nils=>K .nils
 | .d x=>forceD x fun x=>K (.d x)
 | .agg cs=>K (.agg cs)
 | .tup cs=>K (.tup cs)
 | .own b=>K (.own b)
 | .ptr b off=>K (.ptr b off)
 | .mv f b off=>K (.mv f b off)
 | .ifp f b off=>K (.ifp f b off)
 | .pel cs=>K (.pel cs)
 | .pml b sz i off=>K (.pml b sz i off)
 | .nilp=>K .nilp
 | .fn f cs=>K (.fn f cs)
 | .nilf=>K .nilf
 | .ifn b=>K (.ifn b)
 | .ifc t cs=>K (.ifc t cs)
 | .ifo t b cs=>K (.ifo t b cs)
 | .map b=>K (.map b)
 | .yld b R=>K (.yld b R)
 | .osl b s l n=>K (.osl b s l n)
def forceL.{v}{β:Type v}:List V->(List V->β)->β
 | [],K=>K []
 |v::vs,K=>forceV v fun v'=>forceL vs fun vs'=>K (v'::vs')
def forceB.{v}{β:Type v}(x:Box)(K:Box->β):β:=match x with
 | .gone=>K .gone
 | .mp kk rows=>K (.mp kk rows)
 | .cells t vs=>forceL vs fun vs'=>K (.cells t vs')
 | .arr e sz rows=>K (.arr e sz rows)
def forceH.{v}{β:Type v}:List Box->(List Box->β)->β
 | [],K=>K []
 |v::vs,K=>forceB v fun v'=>forceH vs fun vs'=>K (v'::vs')
def forceSp.{u,v}{α:Type u}{β:Type v}:List α->(List α->β)->β
 | [],K=>K []
 |v::vs,K=>forceSp vs fun vs'=>K (v::vs')
def forceS {β:Type}(s:VSt)(K:VSt->Tree β):Tree β:=forceL s.t fun t=>forceH s.h fun h=>K ⟨t,h⟩
def segOp (o:Oper):Bool:=match o.op with
 | .move _=>true
 | .pick .. =>true
 | .load .. =>true
 | .fieldAddr .. =>true
 | .indexAddr .. =>true
 | .index .. =>true
 | .binOp .. =>true
 | .unOp .. =>true
 | .convert .. =>true
 | .extract .. =>true
 | .nilCheck _=>true
 | .lookup .. =>true
 | .call ⟨.builtin .len,_,_⟩=>true
 | .call ⟨.builtin .max,_,_⟩=>true
 | .call ⟨.builtin .min,_,_⟩=>true
 | .call ⟨.value (.func f),_,_⟩=>match C.inl.contains f,sigP P f with
   |false,some ts=>match shR P ts with
    |some ss=>ss.all Sh.flat
    |none=>false
   |_,_=>false
 |_=>false
def segFind (d:Nat):List Oper->Option Nat
 | []=>none
 |o::os=>match segOp P C o with
  |true=>match o.op,o.guard,o.dst with
   | .pick (.tmp d') _ _,none,some _=>match decide (d'=d)with
     |true=>some 1
     |false=>(segFind d os).map (· +1)
   |_,_,_=>(segFind d os).map (· +1)
  |false=>none
def segOf (ops:Array Oper)(o:Oper)(os:List Oper):Option Nat:=match o.dst,o.guard,os with
 |some d,none,o2::_=>match o2.guard with
  |some (j,_)=>match decide (j+(os.length+1)=ops.size)with
   |true=>segFind P C d os
   |false=>none
  |none=>none
 |_,_,_=>none
def segStepT (s:VSt)(o:Oper):Tree V:=match noDef o with
 |false=> .fail
 |true=>match callOf P s.get o with
 |some (f,_)=>match callOf P (s.frz (fzl s o)).get o,sigP P f with
  |some (_,vs0),some ts=>match canL P (parP P f) vs0 with
   |vs=>match vs.all V.pureB,shR P ts with
    |true,some ss=>match ss.all Sh.flat with
     |true=>callT A P f vs ts
     |false=> .fail
    |_,_=> .fail
  |_,_=> .fail
 |none=>opPT A P s.h s.get o
def segT (ops:Array Oper):List Oper->VSt->Tree VSt
 | [],s=> .ret s
 |o::os,s=>
  let exec:VSt->Tree VSt:=fun s=>(segStepT A P s o).bind fun x=>forceS (s.next [] s.h o.dst x) (segT ops os)
  let pass:VSt->Tree VSt:=fun s=>forceS (s.next [] s.h o.dst (.tup [])) (segT ops os)
  match o.guard with
  |none=>exec s
  |some (j,want)=>match (ops[j]?).bind (·.dst)with
   |some t=>match s.t[t]? with
    |some (.d (.bool c))=>match want with
     |true=> .ite c (exec (s.setT t true)) (pass (s.setT t false))
     |false=> .ite c (pass (s.setT t true)) (exec (s.setT t false))
    |some (.tup [])=>pass s
    |_=> .fail
   |none=> .fail
def anyAll (t:List V):List Oper->List V
 | []=>t
 |o::os=>anyAll (match o.dst with
  |some d=>t.set d .any
  |none=>t) os
def lastDst (d:Nat):List Oper->Nat
 | []=>d
 |o::os=>lastDst (o.dst.getD d) os
def opsT (ops:Array Oper):Nat->List Oper->VSt->Tree (Option V × VSt)
 |_,[],s=> .ret (none,s)
 |k+1,_::os,s=>opsT ops k os s
 |0,o::os,s=>
  let exec:VSt->Tree (Option V × VSt):=fun s=>(stepT A P ent C n0 M0 s o).bind fun q=>match q.1 with
   |some p=> .ret (some p,q.2)
   |none=>forceS (mintB P q.2 (ownAt C s o)) fun s'=>match segOf P C ops o os with
    |some L=> .cut ((segT A P ops (os.take L) s').bind fun s2=>match s2.t[lastDst 0 (os.take L)]? with
      |some (.d (.bool b))=> .ret (.inl [.bool b])
      |_=> .fail) fun ds=> .cB (A.cell ds 0) fun b=>forceS ⟨(anyAll s'.t (os.take L)).set (lastDst 0 (os.take L)) (.d (.bool b)),s'.h⟩ (opsT ops L os)
    |none=>opsT ops 0 os s'
  let pass:VSt->Tree (Option V × VSt):=fun s=>forceS (s.next [] s.h o.dst (.tup [])) (opsT ops 0 os)
  match o.guard with
  |none=>exec s
  |some (j,want)=>match (ops[j]?).bind (·.dst)with
   |some t=>match s.t[t]? with
    |some (.d (.bool c))=>match want with
     |true=> .ite c (exec (s.setT t true)) (pass (s.setT t false))
     |false=> .ite c (pass (s.setT t true)) (exec (s.setT t false))
    |some (.tup [])=>pass s
    |_=> .fail
   |none=> .fail
end
section
variable {P : Program} {M : List Nat} {h h' h2 : List Box} {O : Operand -> V} {o : Oper} {x : V} {E : Env} {r : List Nat × List Box × V}
def fits_prop {a b:LL}{k:Nat}(h:sy.fits a b k=true):(a.length+b.length)<=maxLen/\(a.length+b.length)*k<=140737488355328:=by
 have h:(a.length+b.length)*(k+1)<=140737488355328:=of_decide_eq_true h;have h1:(a.length+b.length)*k<=(a.length+b.length)*(k+1):=Nat.mul_le_mul_left _ (by omega)
 have h2:(a.length+b.length)<=(a.length+b.length)*(k+1):=Nat.le_mul_of_pos_right _ (by omega)
 exact⟨by simp only[maxLen];omega,by omega⟩
def appendT_sound {y z:Operand}{ts:Array TypeId}{t:TypeId}(hop:o.op= .call { callee:= .builtin .append,args:= #[y,z],argTypes:=ts })(hts:ts= #[t,t])
  (hk:(appendT sy P h t (O y) (O z)).run E=some r):Gives P r.1 h r.2.1 O o r.2.2:=by
 unfold appendT at hk;split at hk
 ·rename_i e sz by_ zv hel;split at hk
  ·rename_i news hc1 hc2 hrows;have hc1:=of_decide_eq_true hc1;have hc2:=of_decide_eq_true hc2;split at hk
   ·rename_i c hy;split at hk
    ·rename_i e' sz' rows hb;split at hk
     ·rename_i q1 q2;have q1:=of_decide_eq_true q1;have q2:=of_decide_eq_true q2;subst q1;subst q2;obtain⟨hf,hk⟩:=chk_some hk;cases hk;obtain⟨b1,b2⟩:=fits_prop hf;exact gives_append hop hts hel hc1 hc2 hy hb hrows b1 b2
     ·cases hk
    ·cases hk
   ·rename_i hy;obtain⟨hf,hk⟩:=chk_some hk;cases hk;obtain⟨b1,b2⟩:=fits_prop hf;exact gives_appendNil hop hts hel hc1 hc2 hy hrows (by simpa using b1) (by simpa using b2)
   ·cases hk
  ·cases hk
 ·cases hk
def storeT_sound {t:TypeId}{y z:Operand}(hop:o.op= .store t y z)(hk:(storeT sy P h t (O y) (O z)).run E=some h'):Gives P [] h h' O o .any:=by
 unfold storeT at hk;split at hk
 ·rename_i ns hn hl;split at hk
  ·rename_i b off hy;split at hk
   ·rename_i bt vs hb;split at hk
    ·rename_i c1 c2 c3;cases hk;exact gives_store_box hop hy hb hn c1 (of_decide_eq_true c2) (of_decide_eq_true c3) hl
    ·cases hk
   ·cases hk
  ·rename_i b sz i off hy;split at hk
   ·rename_i e sz' rows ss hb hss;split at hk
    ·rename_i ds c1 hd;have c1:=of_decide_eq_true c1;subst c1;split at hk
     ·rename_i c2 c3;obtain⟨hi,hk⟩:=chk_some hk;cases hk;exact gives_store_pml hop hy hb (of_decide_eq_true hi) hn hd (of_decide_eq_true c2) (of_decide_eq_true c3) hl
     ·cases hk
    ·cases hk
   ·cases hk
  ·cases hk
 ·cases hk
def big_of (a:Int)(b:Nat)(h0:0<=a)(hab:a*(b+1)<=140737488355328):b*a.toNat<=281474976710656/\a.toNat<=maxLen:=by
 obtain⟨n,rfl⟩:=Int.eq_ofNat_of_zero_le h0;have hab':n*(b+1)<=140737488355328:=Int.ofNat_le.1 (by rw[Int.natCast_mul,Int.natCast_add];exact hab)
 have h1:n*b<=n*(b+1):=Nat.mul_le_mul_left _ (by omega)
 have h2:n<=n*(b+1):=Nat.le_mul_of_pos_right _ (by omega)
 rw[Int.toNat_natCast,Nat.mul_comm];exact⟨by omega,by simp only[maxLen];omega⟩
def makeT_sound {t:TypeId}{y z:Operand}{z0:Bool}{r:List Box × V}(hop:o.op= .makeSlice t y z)(hk:(makeT sy P h t z0 (O y) (O z)).run E=some r):Gives P [] h r.1 O o r.2:=by
 unfold makeT at hk;split at hk
 ·rename_i e sz by_ zv k1 n k2 m hel hy hz;split at hk
  ·obtain⟨hn,hk⟩:=chk_some hk;obtain⟨hi,hk⟩:=chk_some hk;cases hk;have hn:n=0:=of_decide_eq_true hn;subst hn;have hi:0<=m/\m*(by_+1)<=140737488355328:=of_decide_eq_true hi;obtain⟨b1,b2⟩:=big_of _ _ hi.1 hi.2;exact gives_makeCap hop hel hy hz hi.1 b1 b2
  ·split at hk
   ·rename_i ss hss;split at hk
    ·rename_i q1 q2;obtain⟨hi,hk⟩:=chk_some hk;cases hk;have hi:n=m/\0<=n/\n*(by_+1)<=140737488355328:=of_decide_eq_true hi;obtain⟨b1,b2⟩:=big_of _ _ hi.2.1 hi.2.2;exact gives_makeFull hop hel q1 (of_decide_eq_true q2) hy hz hi.1 hi.2.1 b1 b2
    ·cases hk
   ·cases hk
 ·cases hk
def putT_sound {t:TypeId}{y z q:Operand}(hop:o.op= .mapUpdate t y z q\/o.op= .insert t y z q)(hk:(putT sy P h t (O y) (O z) (O q)).run E=some h'):Gives P [] h h' O o .any:=by
 unfold putT at hk;split at hk
 ·rename_i e kk b k hm hy hz;split at hk
  ·rename_i kk' rows s hb hsh hf;split at hk
   ·rename_i x hkk hx;have:=of_decide_eq_true hkk;subst this;cases hk;exact gives_mapUpdate hop hy hb hm hz (fits_of hf) hx
   ·cases hk
  ·cases hk
 ·cases hk
def delT_sound {t t':TypeId}{y z:Operand}(hop:o.op= .call { callee:= .builtin .delete,args:= #[y,z],argTypes:= #[t,t'] })(hk:(delT sy P h t (O y) (O z)).run E=some h'):Gives P [] h h' O o .any:=by
 unfold delT at hk;split at hk
 ·rename_i e kk b k hm hy hz;split at hk
  ·rename_i kk' rows hb hf;split at hk
   ·rename_i hkk;have:=of_decide_eq_true hkk;subst this;cases hk;exact gives_delete hop hy hb hm hz (fits_of hf)
   ·cases hk
  ·cases hk
 ·cases hk
def appzT_sound {y z:Operand}{t tn:TypeId}{r:List Box × V}(hop:o.op= .call { callee:= .builtin .append,args:= #[y,z],argTypes:= #[t,tn] })(hk:(appzT sy P h t tn (O y) (O z)).run E=some r):Gives P [] h r.1 O o r.2:=by
 unfold appzT at hk;split at hk
 ·rename_i e sz by_ zv kn k n hel htn hy hz;split at hk
  ·rename_i ss hss;split at hk
   ·rename_i q1 q2 q3;obtain⟨hi,hk⟩:=chk_some hk;cases hk;have hi:0 < n/\n*(by_+1)<=140737488355328:=of_decide_eq_true hi;obtain⟨b1,b2⟩:=big_of _ _ (Int.le_of_lt hi.1) hi.2;exact gives_appendZeros hop hel htn q1 (of_decide_eq_true q2) (of_decide_eq_true q3) hy hz hi.1 (by rw[Nat.mul_comm];exact b1) b2
   ·cases hk
  ·cases hk
 ·cases hk
def headT_sound {t:TypeId}{y:Operand}{hi:Option Operand}(hop:o.op= .slice t y none hi none)(hk:(headT sy P h t (O y) (hi.map O)).run E=some r):Gives P r.1 h r.2.1 O o r.2.2:=by
 unfold headT at hk;split at hk
 ·rename_i b hy;split at hk
  ·rename_i e' sz rows hb;split at hk
   ·rename_i e sz' r hel hr;split at hk
    ·rename_i hsz;have:=of_decide_eq_true hsz;subst this;obtain⟨hi,hk⟩:=chk_some hk;cases hk;have hi:=cutok_prop hi;exact gives_sliceOwn hop hel hy hb rfl hr rfl hi.2.1 hi.2.2
    ·cases hk
   ·cases hk
  ·cases hk
 ·cases hk
def rangeT_sound {t:TypeId}{y:Operand}{r:List Box × V}(hop:o.op= .range t y)(hk:(rangeT P h t (O y)).run E=some r):Gives P [] h r.1 O o r.2:=by
 unfold rangeT at hk;split at hk
 ·rename_i s hu hy;cases hk;exact gives_range hop hu hy
 ·cases hk
def nextT_sound {i:Operand}{s:Bool}{r:List Box × V}(hop:o.op= .next i s)(hk:(nextT sy h (O i) s).run E=some r):Gives P [] h r.1 O o r.2:=by
 unfold nextT at hk;split at hk
 ·rename_i b hy;split at hk
  ·rename_i s p hb;simp only[Tree.run]at hk;split at hk
   ·rename_i hc;cases hk;exact gives_next_more hop hy hb (of_decide_eq_true hc)
   ·rename_i hc;cases hk;exact gives_next_over hop hy hb (of_decide_eq_false hc)
  ·cases hk
 ·cases hk
def oslT_sound {t:TypeId}{y:Operand}{lo hi:Option Operand}(hop:o.op= .slice t y lo hi none)(hk:(oslT sy P h t (O y) (lo.map O) (hi.map O)).run E=some x):Gives P [] h h O o x:=by
 unfold oslT at hk;split at hk
 ·rename_i b hy;split at hk
  ·rename_i e' sz rows hb;split at hk
   ·rename_i e sz' l r hel hl hr;split at hk
    ·rename_i hsz;have:=of_decide_eq_true hsz;subst this;obtain⟨hi,hk⟩:=chk_some hk;cases hk;have hi:=cutok_prop hi;exact gives_sliceOsl hop hel hy hb hl hr hi.1 hi.2.1 hi.2.2
    ·cases hk
   ·cases hk
  ·cases hk
 ·cases hk
def copyT_sound {y z:Operand}{t t':TypeId}{r:List Box × V}(hop:o.op= .call { callee:= .builtin .copy,args:= #[y,z],argTypes:= #[t,t'] })(hk:(copyT sy P h t (O y) (O z)).run E=some r):Gives P [] h r.1 O o r.2:=by
 unfold copyT at hk;split at hk
 ·rename_i e b lo n news hel hd hz;split at hk
  ·rename_i e' rows hb;obtain⟨hi,hk⟩:=chk_some hk;cases hk;have hi:0<=lo/\lo<=lo+n/\lo+n<=(rows.length:Int):=cutok_prop hi;exact gives_copyB hop hel (by rw[<-hd];rfl) hb hz hi.1 (by omega) hi.2.2
  ·cases hk
 ·cases hk
def clearT_sound {y:Operand}{t:TypeId}{r:List Box × V}(hop:o.op= .call { callee:= .builtin .clear,args:= #[y],argTypes:= #[t] })(hk:(clearT sy P h t (O y)).run E=some r):Gives P [] h r.1 O o r.2:=by
 unfold clearT at hk;split at hk
 ·rename_i e by_ z b lo n hel hy;split at hk
  ·rename_i e' rows s hb hs;split at hk
   ·rename_i hz;obtain⟨hi,hk⟩:=chk_some hk;cases hk;have hi:0<=lo/\lo<=lo+n/\lo+n<=(rows.length:Int):=cutok_prop hi;have:=gives_clear hop hel hz hy hb hi.2.2;have e1:sy.rcopy rows lo n (sy.rep n [zeroD s])=rows.take lo.toNat++List.replicate n.toNat [zeroD s]++rows.drop (lo.toNat+n.toNat):=by
     simp[sy]
    rw[e1];exact this
   ·cases hk
  ·cases hk
 ·cases hk
def plainT_sound (hE:E.Ok)(hk:(plainT sy P h O o).run E=some r):Gives P r.1 h r.2.1 O o r.2.2:=by
 unfold plainT at hk;obtain⟨x,h1,hk⟩:=run_bind_some hE hk;cases hk;exact opPT_sound hE h1 h (Pre.refl h)
def opT_sound (hE:E.Ok)(hk:(opT sy P h O o).run E=some r):Gives P r.1 h r.2.1 O o r.2.2:=by
 unfold opT at hk;split at hk
 ·rename_i y hop;split at hk
  ·rename_i hy;split at hk
   ·cases hk;exact gives_mint (.inr hop) hy
   ·cases hk;have:=gives_copy (P:=P) (h:=h) (O:=O) (.inr hop);rwa [hy]at this
  ·cases hk;exact gives_copy (.inr hop)
 ·rename_i t y hop;split at hk
  ·rename_i vs hv hl;cases hk;exact gives_box hop hv hl
  ·cases hk
 ·rename_i t hop;split at hk
  ·rename_i z hz;split at hk
   ·rename_i vs hv;cases hk;exact gives_alloc hop hz hv
   ·cases hk
  ·cases hk
 ·rename_i t y z hop;obtain⟨h1,q1,hk⟩:=run_bind_some hE hk;cases hk;exact storeT_sound hop q1
 ·rename_i t y z hop;obtain⟨h1,q1,hk⟩:=run_bind_some hE hk;cases hk;exact makeT_sound hop q1
 ·rename_i t r hop;split at hk
  ·cases hk;exact gives_makeMap hop
  ·cases hk
 ·rename_i t y z r hop;obtain⟨h1,q1,hk⟩:=run_bind_some hE hk;cases hk;exact putT_sound (.inl hop) q1
 ·rename_i t y z r hop;obtain⟨h1,q1,hk⟩:=run_bind_some hE hk;cases hk;exact putT_sound (.inr hop) q1
 ·rename_i t n parts hop;split at hk
  ·rename_i e sz vs hlit hl;split at hk
   ·rename_i ss hss;split at hk
    ·rename_i rows hr hn;cases hk;exact gives_buildSlice hop hlit hl hr (by have:=of_decide_eq_true hn;simp only[maxLen];omega)
    ·cases hk
   ·cases hk
  ·cases hk
 ·rename_i c hop;split at hk
  ·rename_i y z t t';split at hk
   ·rename_i ht;have ht:=of_decide_eq_true ht;subst ht;exact appendT_sound hop rfl hk
   ·obtain⟨h1,q1,hk⟩:=run_bind_some hE hk;cases hk;exact appzT_sound hop q1
  ·obtain⟨h1,q1,hk⟩:=run_bind_some hE hk;cases hk;exact delT_sound hop q1
  ·obtain⟨h1,q1,hk⟩:=run_bind_some hE hk;cases hk;exact clearT_sound hop q1
  ·obtain⟨h1,q1,hk⟩:=run_bind_some hE hk;cases hk;exact copyT_sound hop q1
  ·exact plainT_sound hE hk
 ·rename_i t y hop;obtain⟨h1,q1,hk⟩:=run_bind_some hE hk;cases hk;exact rangeT_sound hop q1
 ·rename_i i s hop;obtain⟨h1,q1,hk⟩:=run_bind_some hE hk;cases hk;exact nextT_sound hop q1
 ·rename_i t y lo hi mx hop;split at hk
  ·exact headT_sound hop hk
  ·exact plainT_sound hE hk
 ·exact plainT_sound hE hk
def Keep.trans {M M':List Nat}{g g1 g2:Gh}{h h1 h2:List Box}{w w1 w2:World}(k1:Keep M g h w g1 h1 w1)(k2:Keep M' g1 h1 w1 g2 h2 w2):Keep (M++M') g h w g2 h2 w2:=by
 refine⟨k2.heap,⟨fun b o hz=>k2.le.Z b o (k1.le.Z b o hz),Nat.le_trans k1.le.n k2.le.n,fun b hb hm=> ?_,fun b hb hm=> ?_,fun b hb=>(k2.le.cd b (Nat.lt_of_lt_of_le hb k1.le.n)).trans (k1.le.cd b hb)⟩,k1.fr.trans' k2.fr k1.own,fun b o hz=> ?_,fun k hk=> ?_⟩
 ·simp only[List.mem_append,not_or]at hm;exact(k2.le.blk b (Nat.lt_of_lt_of_le hb k1.le.n) hm.2).trans (k1.le.blk b hb hm.1)
 ·simp only[List.mem_append,not_or]at hm;exact(k2.le.val b (Nat.lt_of_lt_of_le hb k1.le.n) hm.2).trans (k1.le.val b hb hm.1)
 ·rcases k2.znew b o hz with q|q|q
  ·exact k1.znew b o q
  ·exact .inr (.inl (Nat.le_trans k1.fr.size q))
  ·rcases k1.own b q with q|q
   ·exact .inr (.inr q)
   ·exact .inr (.inl q)
 ·rcases k2.own k hk with q|q
  ·exact k1.own k q
  ·exact .inr (Nat.le_trans k1.fr.size q)
def scB_rep {w:World}{g:Gh}{n:Nat}{u:Value}{v:V}(hr:Rep w g u v):v.scB n=true->Rep w (g.cut n) u v:=by
 have aux: ∀(us:Array Value) (cs:List V),(∀(i:Nat) u c,us[i]? =some u->cs[i]? =some c->c.scB n=true->Rep w (g.cut n) u c)->V.scL n cs=true->
     ∀(i:Nat) u c,us[i]? =some u->cs[i]? =some c->Rep w (g.cut n) u c:=by
  intro us cs ih hs i u c hu hc;rw[scL_all]at hs;exact ih i u c hu hc (List.all_eq_true.1 hs c (List.mem_of_getElem? hc))
 induction hr with
 |any u=>intro _;exact .any u
 |nils=>intro _;exact .nils
 |d h=>intro _;exact .d h
 |agg us cs hl h ih=>intro hs;exact .agg us cs hl (aux us cs ih (by simpa[V.scB]using hs))
 |tup us cs hl h ih=>intro hs;exact .tup us cs hl (aux us cs ih (by simpa[V.scB]using hs))
 |fn f us cs hl h ih=>intro hs;exact .fn f us cs hl (aux us cs ih (by simpa[V.scB]using hs))
 |own b hb=>intro hs;exact .own (g:=g.cut n) b (show b < n by simpa[V.scB]using hs)
 |map b hb=>intro hs;exact .map (g:=g.cut n) b (show b < n by simpa[V.scB]using hs)
 |ptr b off hb=>intro hs;exact .ptr (g:=g.cut n) b off (show b < n by simpa[V.scB]using hs)
 |mv f b off hb=>intro hs;exact .mv (g:=g.cut n) f b off (show b < n by simpa[V.scB]using hs)
 |ifp f b off hb=>intro hs;exact .ifp (g:=g.cut n) f b off (show b < n by simpa[V.scB]using hs)
 |pml b sz i off hb=>intro hs;exact .pml (g:=g.cut n) b sz i off (show b < n by simpa[V.scB]using hs)
 |yld b R hb hc=>intro hs;exact .yld (g:=g.cut n) b R (show b < n by simpa[V.scB]using hs) hc
 |osl b sz lo k u hb hu=>intro hs;exact .osl (g:=g.cut n) b sz lo k u (show b < n by simpa[V.scB]using hs) hu
 |pel blk off cs U hZ hc hr=>intro _;exact .pel blk off cs U hZ hc hr
 |nilp=>intro _;exact .nilp
 |nilf=>intro _;exact .nilf
 |ifn0=>intro _;exact .ifn0
 |ifn1 t p=>intro _;exact .ifn1 t p
 |ifc t us cs hl h=>intro _;exact .ifc t us cs hl h
 |ifo0 t cs=>intro _;exact .ifo0 t cs
 |ifo1 t us cs hl h=>intro _;exact .ifo1 t us cs hl h
def scB_box {w:World}{g:Gh}{n b:Nat}{x:Box}(hs:x.scB n=true)(hr:BoxRep w g b x):BoxRep w (g.cut n) b x:=by
 cases x with
 |gone=>trivial
 |mp kk rows=>exact hr
 |arr e sz rows=>exact hr
 |cells t vs=>
  obtain⟨us,o,h1,h0,h2,h3⟩:=hr;refine⟨us,o,h1,h0,h2,fun i u v hu hv=>scB_rep (h3 i u v hu hv) ?_⟩
  have:vs.all (V.scB n)=true:=by rw[<-scL_all];exact hs
  exact List.all_eq_true.1 this v (List.mem_of_getElem? hv)
def Keep.cutN {M:List Nat}{g g1:Gh}{h h1:List Box}{w w1:World}(k:Keep M g h w g1 h1 w1){n:Nat}(hn:g.n<=n)(hn1:n<=h1.length)(hs:(h1.take n).all (Box.scB n)=true):Keep M g h w (g1.cut n) (h1.take n) w1:=by
 have hget: ∀(b:Nat) x,(h1.take n)[b]? =some x->h1[b]? =some x:=fun b x hx=>by
  rw[List.getElem?_take]at hx;split at hx
  ·exact hx
  ·cases hx
 have hat: ∀(b:Nat) (x:Box),x.at? (g1.cut n) b=x.at? g1 b:=fun b x=>by cases x<;>rfl
 have hown: ∀q,Owned (g1.cut n) (h1.take n) q->Owned g1 h1 q:=fun q ⟨b,x,hx,hq⟩=>⟨b,x,hget b x hx,by rwa [hat]at hq⟩
 refine⟨⟨by simp[Gh.cut];omega,fun b x hx=>scB_box (List.all_eq_true.1 hs x (List.mem_of_getElem? hx)) (k.heap.rep b x (hget b x hx)),fun b c x y q hx hy h2 h3=> ?_,fun q o hq hz=>k.heap.zsep q o (hown q hq) hz,k.heap.zlt,k.heap.tab⟩,
  ⟨k.le.Z,hn,k.le.blk,k.le.val,k.le.cd⟩,k.fr,k.znew,fun q hq=>k.own q (hown q hq)⟩
 rw[hat]at h2 h3;exact k.heap.sep b c x y q (hget b x hx) (hget c y hy) h2 h3
def Keep.of_fr {g:Gh}{h:List Box}{w w':World}(hs:SimH g h w)(hfr:Fr (fun _=>False) w w'):Keep [] g h w g h w':=by
 have ho:Over [] w g w' g:=⟨Gh.Le.refl _ _,fun b o hz=>hfr.cell (hs.zlt b o hz) (fun h=>h)⟩
 refine⟨⟨hs.n,fun b x hx=> ?_,hs.sep,hs.zsep,fun b o hz=>Nat.lt_of_lt_of_le (hs.zlt b o hz) hfr.size,hs.tab.over ho⟩,Gh.Le.refl _ _,hfr.mono (fun _ h=>h.elim),fun b o hz=> .inl hz,fun k hk=> .inl hk⟩
 have:=BoxRep.over ho (by rw[hs.n];exact(List.getElem?_eq_some_iff.1 hx).1) (by simp) (fun k hk=>hfr.block k ((hs.rep b x hx).lt hk) (fun h=>h)) (hs.rep b x hx)
 rwa [Box.kill_nil]at this
def MCall.pcall {f:FuncId}{args:List V}{e:TypeId}{sz:Nat}{rows:LL}(hc:MCall P f args e sz rows):PCall P f args (.d (.sl sz rows)):=by
 intro g w us hs hu;refine(hc g w us hs hu).mono ?_
 rintro _ w' ⟨u,g',rfl,hr,hk⟩
 obtain⟨g2,hk2,hr2⟩:=freeze_step hk.heap (b:=0) rfl;have hn:g.n=0:=hs.n;have:=(hk.trans hk2).cutN (n:=0) (by omega) (by omega) rfl
 exact⟨u,g2.cut 0,rfl,scB_rep (hr2 u _ hr) rfl,by simpa using this⟩
def D.flat:D->Bool
 | .sl .. =>false
 |_=>true
def V.flatC:V->Bool
 | .d x=>x.flat
 |_=>false
def V.flatB:V->Bool
 | .agg cs=>cs.all V.flatC
 |v=>v.flatC
def V.flatT:V->Bool
 | .tup cs=>cs.all V.flatB
 |v=>v.flatB
def flatD_rep {w w':World}{Z Z':Nat->Nat->Prop}{u:Value}{x:D}(hf:x.flat=true)(hr:RepD w Z u x):RepD w' Z' u x:=by
 cases hr<;>first|exact .int _ _|exact .bool _|exact .str _|simp[D.flat]at hf
def flatC_rep {w w':World}{g g':Gh}{u:Value}{v:V}(hf:v.flatC=true)(hr:Rep w g u v):Rep w' g' u v:=by
 cases hr<;>first|(simp[V.flatC]at hf;done)|skip
 rename_i x h;exact .d (flatD_rep hf h)
def flatB_rep {w w':World}{g g':Gh}{u:Value}{v:V}(hf:v.flatB=true)(hr:Rep w g u v):Rep w' g' u v:=by
 cases v with
 |agg cs=>
  cases hr with
  |agg us cs hl h=>exact .agg us cs hl fun i u c hu hc=>flatC_rep (List.all_eq_true.1 hf c (List.mem_of_getElem? hc)) (h i u c hu hc)
 |d x=>exact flatC_rep hf hr
 |_=>simp[V.flatB,V.flatC]at hf
def flatT_rep {w w':World}{g g':Gh}{u:Value}{v:V}(hf:v.flatT=true)(hr:Rep w g u v):Rep w' g' u v:=by
 cases v with
 |tup cs=>
  cases hr with
  |tup us cs hl h=>exact .tup us cs hl fun i u c hu hc=>flatB_rep (List.all_eq_true.1 hf c (List.mem_of_getElem? hc)) (h i u c hu hc)
 |agg cs=>exact flatB_rep hf hr
 |d x=>exact flatB_rep hf hr
 |_=>simp[V.flatT,V.flatB,V.flatC]at hf
def out1_rep {t:TypeId}{v:V}{w:World}{g:Gh}{u:Value}(hr:Rep w g u v):Rep w g u (can1 P t v):=by
 unfold can1;split
 ·rename_i ds h1 h2;unfold out1 at h1;split at h1
  ·rename_i ss cs _ _;obtain⟨q1,q2⟩:=toDs_spec h1;cases hr with
   |agg us _ hl hr=>
    refine .agg us _ (by simp[hl,q1]) fun i u c hu hc=> ?_
    rw[List.getElem?_map,Option.map_eq_some_iff]at hc;obtain⟨x,hx,rfl⟩:=hc;have hi:=(Array.getElem?_eq_some_iff.1 hu).1;have hcs:=List.getElem?_eq_getElem (l:=cs) (i:=i) (by omega)
    obtain⟨s,hs⟩:=q2 i _ x hcs hx;exact .d (toD_rep (hr i u _ hu hcs) hs)
  ·rename_i hf;rw[h2]at hf;cases hf
  ·cases h1
 ·rename_i d h1 h2;unfold out1 at h1;split at h1
  ·rename_i ht;rw[h2]at ht;cases ht
  ·split at h1
   ·rename_i hx;cases h1;exact .d (toD_rep hr hx)
   ·cases h1
  ·cases h1
 ·exact hr
def canL_reps: ∀ {ts:List TypeId} {vs:List V} {w:World} {g:Gh} {us:List Value},Reps w g us vs->Reps w g us (canL P ts vs)
 | [],vs,w,g,us,h=>by cases vs<;>exact h
 |_::_,[],w,g,us,h=>h
 |t::ts,v::vs,w,g,[],h=>by have:=h.1;simp at this
 |t::ts,v::vs,w,g,u::us,h=>by
  have h2:=canL_reps (ts:=ts) (vs:=vs) (us:=us) (w:=w) (g:=g) ⟨by have:=h.1;simpa using this,fun i u v h1 h2=>h.2 (i+1) u v (by simpa using h1) (by simpa using h2)⟩
  refine⟨by have:=h2.1;simp[canL,this],fun i u' v' h1 h3=> ?_⟩
  cases i with
  |zero=>simp[canL]at h1 h3;subst h1;subst h3;exact out1_rep (h.2 0 _ _ rfl rfl)
  |succ i=>exact h2.2 i u' v' (by simpa using h1) (by simpa[canL]using h3)
def HCall.can {M:List Nat}{f:FuncId}{ts:List TypeId}{vs:List V}{h h':List Box}{r:V}(hc:HCall P M f (canL P ts vs) h r h'):HCall P M f vs h r h':=
 fun g w us hs hu=>hc g w us hs (canL_reps hu)
def call_borrow {En:Ent}{s s1:VSt}{a:Act}{w:World}{y:Operand}{f:FuncId}{vs:List V}{args:Array Operand}{ts:Array TypeId}{pts:List TypeId}{v:V}(hs:SimE En s a w)(hs1:SimE En s1 a w)
  (hop:o.op= .call { callee:= .value y,args:=args,argTypes:=ts }) (hc:bindV (s1.get y) (args.toList.map s1.get)=some (f,vs)) (hp:(canL P pts vs).all V.pureB=true) (hg:goodF P f=true)
  (hcall:PCall P f (canL P pts vs) v) (hflat:v.flatT=true) {K:Act->World->Prop} {Q:Exit->Act->World->Prop} (hK: ∀a' w',SimE En (s.next [] s.h o.dst v) a' w'->K a' w'):o.wp P a w K Q:=by
 obtain⟨g,hs⟩:=hs;obtain⟨g1,hs1⟩:=hs1;obtain⟨us,hargs,hrun⟩:=bind_run hop hg hs1.get hc;have hargs:=canL_reps (P:=P) (ts:=pts) hargs;have hcl:=hcall (g0 g1.Z) w _ (simH_nil hs1.heap.zlt hs1.heap.tab) ⟨hargs.1,fun i u v h1 h2=>pureB_rep (g:=g1) (g':=g0 g1.Z) rfl (List.all_eq_true.1 hp _ (List.mem_of_getElem? h2)) (hargs.2 i u v h1 h2)⟩
 unfold Oper.wp;rw[hrun,Oper.upon_enter];refine hcl.mono ?_
 rintro e w' ⟨u,g',rfl,hu,hk⟩
 have hfr:Fr (fun _=>False) w w':=hk.fr.mono fun k hk=>by obtain⟨b,x,hx,_⟩:=hk;simp at hx
 exact hK _ _ ⟨g,hs.next (Keep.of_fr hs.heap hfr) (by simp[okM]) (flatT_rep hflat hu) o.dst⟩
def PGood (P:Program)(f:FuncId)(args:List V):PRes->Prop
 | .val ds=> ∃ts ss v,sigP P f=some ts/\shR P ts=some ss/\ds.length=ss.length/\mkV P ts ds=some v/\PCall P f args v
 | .own e sz rows=> ∃t,sigP P f=some [t]/\elO P t=some (e,sz)/\MCall P f args e sz rows
def EnvGood (P:Program)(E:Env):Prop:=KV P/\ ∀f args p,goodF P f=true->args.all V.pureB=true->E.call f args=some p->PGood P f args p
def elO_sh {t e:TypeId}{sz:Nat}(h:elO P t=some (e,sz)):shOf P 9 t=some [.sl sz]/\aggB P t=false:=by
 obtain⟨hu,hn⟩:=elO_spec h;constructor
 ·simp only[shOf,hu,hn,Option.map_some]
 ·unfold aggB;rw[hu]
def mkVs_pure: ∀ {ts:List TypeId} {ds:List D} {vs:List V},mkVs P ts ds=some vs->vs.all V.pureB=true/\vs.length=ts.length
 | [],[],vs,h=>by cases h;exact⟨rfl,rfl⟩
 | [],_::_,vs,h=>by cases h
 |t::ts,ds,vs,h=>by
  unfold mkVs at h;split at h
  ·split at h
   ·rename_i vs' _ h2;cases h;obtain⟨q1,q2⟩:=mkVs_pure h2;simp only[List.all_cons,q1,Bool.and_true,List.length_cons,q2,and_true];show(List.map V.d _).all V.pureC=true;rw[List.all_eq_true];intro x hx;obtain⟨d,_,rfl⟩:=List.mem_map.1 hx;rfl
   ·cases h
  ·split at h
   ·split at h
    ·rename_i vs' h2;cases h;obtain⟨q1,q2⟩:=mkVs_pure h2;simp only[List.all_cons,q1,Bool.and_true,List.length_cons,q2,and_true];rfl
    ·cases h
   ·cases h
  ·cases h
def mkV_pure {ts:List TypeId}{ds:List D}{v:V}(h:mkV P ts ds=some v):v.pureT=true:=by
 unfold mkV at h;split at h
 ·rename_i v' hv;cases h;have:=(mkVs_pure hv).1;simp only[List.all_cons,List.all_nil,Bool.and_true]at this;cases v<;>first|exact this|skip
  simp only[V.pureB,V.pureT,List.all_eq_true]at this ⊢;intro c hc;have:=this c hc;cases c<;>simp_all [V.pureC]
 ·rename_i vs _ hv;cases h;exact(mkVs_pure hv).1
 ·cases h
def allflat {ss:List Sh}{ds:List D}(hf:ss.all Sh.flat=true)(hr: ∀(i:Nat) d s,ds[i]? =some d->ss[i]? =some s->(s.flat=true->d.flat=true))(hl:ds.length=ss.length): ∀d∈ds,d.flat=true:=by
 intro d hd;obtain⟨i,hi⟩:=List.mem_iff_getElem?.1 hd;have hi':i < ss.length:=by rw[<-hl];exact(List.getElem?_eq_some_iff.1 hi).1
 exact hr i d ss[i] hi (List.getElem?_eq_getElem hi') (List.all_eq_true.1 hf _ (List.getElem_mem hi'))
def mkVs_flat: ∀ {ts:List TypeId} {ds:List D} {vs:List V},mkVs P ts ds=some vs->(∀d∈ds,d.flat=true)->vs.all V.flatB=true
 | [],[],vs,h,_=>by cases h;rfl
 | [],_::_,vs,h,_=>by cases h
 |t::ts,ds,vs,h,hd=>by
  unfold mkVs at h;split at h
  ·split at h
   ·rename_i vs' _ h2;cases h;simp only[List.all_cons,mkVs_flat h2 (fun d hq=>hd d (List.mem_of_mem_drop hq)),Bool.and_true]
    simp only[V.flatB,List.all_eq_true,List.mem_map]
    rintro _ ⟨d,hq,rfl⟩
    exact hd d (List.mem_of_mem_take hq)
   ·cases h
  ·split at h
   ·split at h
    ·rename_i d ds _ vs' h2;cases h;simp only[List.all_cons,mkVs_flat h2 (fun q hq=>hd q (List.mem_cons_of_mem _ hq)),Bool.and_true]
     exact hd d (List.mem_cons_self ..)
    ·cases h
   ·cases h
  ·cases h
def mkV_flat {ts:List TypeId}{ds:List D}{v:V}(h:mkV P ts ds=some v)(hd: ∀d∈ds,d.flat=true):v.flatT=true:=by
 unfold mkV at h;split at h
 ·rename_i v' hv;cases h;have:=mkVs_flat hv hd;simp only[List.all_cons,List.all_nil,Bool.and_true]at this;cases v<;>first|exact this|simp[V.flatB,V.flatC]at this
 ·rename_i vs _ hv;cases h;exact mkVs_flat hv hd
 ·cases h
def openT_sh {s:Sh}{v:Option D}{x:D}(hk:(openT s v).run E=some x):s.flat=true->x.flat=true:=by
 intro hf;cases s<;>simp only[openT,Tree.run,Sh.flat]at hk hf<;>first|(cases hf;done)|(obtain⟨n,h1,h2⟩:=Option.bind_eq_some_iff.1 hk;cases h2;rfl)
def openRT_sh (hE:E.Ok): ∀ {ss:List Sh} {cs:List D} {j:Nat} {xs:List D},(openRT sy ss cs j).run E=some xs-> ∀(i:Nat) d s,xs[i]? =some d->ss[i]? =some s->(s.flat=true->d.flat=true)
 | [],cs,j,xs,hk=>by cases hk;simp
 |s::ss,cs,j,xs,hk=>by
  unfold openRT at hk;obtain⟨x,h1,hk⟩:=run_bind_some hE hk;obtain⟨xs',h2,hk⟩:=run_bind_some hE hk;cases hk;intro i d s' hd hs hf;cases i with
  |zero=>simp at hd hs;subst hd;subst hs;exact openT_sh h1 hf
  |succ i=>exact openRT_sh hE h2 i d s' (by simpa using hd) (by simpa using hs) hf
def kvT_sound (hV:KV P){f:FuncId}{vs:List V}{v:V}(hs:(sigP P f).isSome=true)(hk:(kvT sy f vs).run E=some v):PCall P f vs v/\v.pureT=true:=by
 unfold kvT at hk;split at hk
 ·rename_i s a b hf;split at hk
  ·rename_i hd;obtain⟨rfl,rfl⟩:=of_decide_eq_true hd;obtain⟨hi,hk⟩:=chk_some hk;cases hk;have hf:=Nat.eq_of_beq_eq_true hf;subst hf;have hi:((s.size:Int)<=1000000):=of_decide_eq_true hi;exact⟨hV hs s (by omega),rfl⟩
  ·cases hk
 ·cases hk
def callT_sound (hE:E.Ok)(hG:EnvGood P E){f:FuncId}{vs:List V}{ts:List TypeId}{v:V}(hp:vs.all V.pureB=true)(hs:sigP P f=some ts)(hk:(callT sy P f vs ts).run E=some v):
  PCall P f vs v/\v.pureT=true/\ ∀ss,shR P ts=some ss->ss.all Sh.flat=true->v.flatT=true:=by
 unfold callT at hk;split at hk
 ·rename_i ss hss;simp only[Tree.run]at hk
  ·obtain⟨p,hpc,hk⟩:=Option.bind_eq_some_iff.1 hk;obtain⟨xs,h1,hk⟩:=run_bind_some hE hk;obtain⟨q1,q2⟩:=openRT_run hE h1;split at hk
   ·rename_i v' hv;cases hk;have hgood:=hG.2 f vs p (sigP_some hs) hp hpc;have key: ∀ds:List D,ds.length=ss.length->(∀(i:Nat) x,xs[i]? =some x->ds[0+i]? =some x)->xs=ds:=by
     intro ds hl hx;apply List.ext_getElem?;intro i;cases hxi:xs[i]? with
     |some x=>have:=hx i x hxi;rw[Nat.zero_add]at this;rw[this]
     |none=>
      have:=List.getElem?_eq_none_iff.1 hxi;exact(List.getElem?_eq_none_iff.2 (by omega)).symm
    refine⟨?_,mkV_pure hv,fun ss' hss' hf=> ?_⟩
    ·cases p with
     |val ds=>
      obtain⟨ts',ss',v2,e1,e2,e3,e4,e5⟩:=hgood;rw[hs]at e1;cases e1;rw[hss]at e2;cases e2;have:=key ds e3 q2;subst this;rw[hv]at e4;cases e4;exact e5
     |own e sz rows=>
      obtain⟨t,e1,e2,e3⟩:=hgood;rw[hs]at e1;cases e1;obtain⟨f1,f2⟩:=elO_sh e2;have:ss= [.sl sz]:=by
       simp only[shR,f1]at hss;cases hss;rfl
      subst this;have:=key [.sl sz rows] rfl q2;subst this;have:mkV P [t] [.sl sz rows]=some (.d (.sl sz rows)):=by simp[mkV,mkVs,f1,f2]
      rw[this]at hv;cases hv;exact e3.pcall
    ·rw[hss]at hss';cases hss';exact mkV_flat hv (allflat hf (openRT_sh hE h1) q1)
   ·cases hk
 ·rename_i hss;obtain⟨q1,q2⟩:=kvT_sound hG.1 (by rw[hs];rfl) hk
  exact⟨q1,q2,fun ss h=>by rw[hss]at h;cases h⟩
def callOf_some {f:FuncId}{vs:List V}(hc:callOf P O o=some (f,vs))(hf: ∀f,O (.func f)= .fn f []):
  ∃y args ts,o.op= .call { callee:= .value y,args:=args,argTypes:=ts }/\bindV (O y) (args.toList.map O)=some (f,vs):=by
 unfold callOf at hc;split at hc
 ·rename_i y args ts hop;split at hc
  ·rename_i f' vs' hcv;split at hc
   ·cases hc;refine⟨y,args,ts,hop,?_⟩;split at hcv
    ·rw[hf];exact hcv
    ·exact hcv
   ·cases hc
  ·cases hc
 ·cases hc
def PanE (En:Ent)(p:V)(t:List V)(h:List Box)(e:Exit)(a:Act)(w:World):Prop:= ∃g u,e= .panic [{ v:=u,recovered:=false }]/\Rep w g u p/\Sim En ⟨t,h⟩ a w g
def PanX (En:Ent)(p:V)(h:List Box)(e:Exit)(a:Act)(w:World):Prop:= ∃t,PanE En p t h e a w
def OpR (En:Ent)(q:Option V × VSt)(e:Exit)(a:Act)(w:World):Prop:=match q.1 with
 |none=>e= .normal/\SimE En q.2 a w
 |some p=>PanE En p q.2.t q.2.h e a w
def OpRX (En:Ent)(q:Option V × VSt)(e:Exit)(a:Act)(w:World):Prop:=match q.1 with
 |none=>e= .normal/\SimE En q.2 a w
 |some p=>PanX En p q.2.h e a w
def OpR.unk {En:Ent}{q:Option V × VSt}{e:Exit}{a:Act}{w:World}(h:OpR En q e a w):OpRX En q e a w:=by
 obtain⟨p,s⟩:=q;cases p with
 |none=>exact h
 |some p=>exact⟨_,h⟩
def pan_call {En:Ent}{s:VSt}{a:Act}{w:World}{y:Operand}{f:FuncId}{vs:List V}{args:Array Operand}{ts:Array TypeId}{M:List Nat}{p:V}{h':List Box}
  (hop:o.op= .call { callee:= .value y,args:=args,argTypes:=ts }) (hb:bindV (s.get y) (args.toList.map s.get)=some (f,vs)) (hf:goodF P f=true)
  (hc:XCall P M f vs s.h (PanV p) h') (hM:okM En.g.n En.M M=true) (hs:SimE En s a w) {K:Act->World->Prop} {Q:Exit->Act->World->Prop} (hQ: ∀e a' w',PanE En p (s.next M h' none .any).t h' e a' w'->Q e a' w'):o.wp P a w K Q:=by
 obtain⟨g,hs⟩:=hs;obtain⟨us,hargs,hrun⟩:=bind_run hop hf hs.get hb;unfold Oper.wp;rw[hrun,Oper.upon_enter];refine(hc g w _ hs.heap hargs).mono ?_
 rintro e w' ⟨g',⟨u,rfl,hr⟩,hk⟩
 have:=hs.next hk hM (.any undef) none;exact hQ _ _ _ ⟨g',u,rfl,hr,this⟩
def HRound (P:Program)(M:List Nat)(b:Nat)(R:RecI)(args:List V)(h:List Box)(r:V)(h':List Box):Prop:=
 ∀(g:Gh) (w:World) (us:List Value),SimH g h w->Reps w g us args->b < g.n->g.rc b=some R->
  ∃fn tmps assign body,(Instr.yield (g.blk b) us.toArray).run P w= .ok (.round (g.blk b) fn tmps assign body) w/\
   RoundIn Fence.wide 0 P (g.blk b) fn tmps assign body w fun e w'=> ∃u g',e= .returned u/\Rep w' g' u r/\Keep M g h w g' h' w'
def HEnd (P:Program)(M:List Nat)(f:FuncId)(args:List V)(h:List Box)(v:V)(h':List Box):Prop:=match panOf v with
 |some p=>XCall P M f args h (PanV p) h'
 |none=>HCall P M f args h v h'
def HEnd.none {P:Program}{M:List Nat}{f:FuncId}{args:List V}{h h':List Box}{v:V}(hp:panOf v=none)(hc:HEnd P M f args h v h'):HCall P M f args h v h':=by
 unfold HEnd at hc;rw[hp]at hc;exact hc
def HEnd.some {P:Program}{M:List Nat}{f:FuncId}{args:List V}{h h':List Box}{v p:V}(hp:panOf v= .some p)(hc:HEnd P M f args h v h'):XCall P M f args h (PanV p) h':=by
 unfold HEnd at hc;rw[hp]at hc;exact hc
def EntGood (P:Program)(E:Env)(ent:Callee->List V->List Box->Tree (List Nat × V × List Box)):Prop:=
 (∀f vs h r,(ent (.fn f) vs h).run E=some r->HEnd P r.1 f vs h r.2.1 r.2.2)/\ ∀b R vs h r,(ent (.yld b R) vs h).run E=some r->HRound P r.1 b R vs h r.2.1 r.2.2
def forceD_eq.{v}{β:Type v}(x:D)(K:D->β):forceD x K=K x:=by cases x<;>rfl
def forceV_eq.{v}{β:Type v}(x:V)(K:V->β):forceV x K=K x:=by cases x<;>first|rfl|(unfold forceV;exact forceD_eq _ _)
def forceL_eq.{v}{β:Type v}: ∀(l:List V) (K:List V->β),forceL l K=K l
 | [],_=>rfl
 |v::vs,K=>by unfold forceL;rw[forceV_eq,forceL_eq vs]
def forceB_eq.{v}{β:Type v}(x:Box)(K:Box->β):forceB x K=K x:=by cases x<;>first|rfl|(unfold forceB;exact forceL_eq _ _)
def forceH_eq.{v}{β:Type v}: ∀(l:List Box) (K:List Box->β),forceH l K=K l
 | [],_=>rfl
 |v::vs,K=>by unfold forceH;rw[forceB_eq,forceH_eq vs]
def forceSp_eq.{u,v}{α:Type u}{β:Type v}: ∀(l:List α) (K:List α->β),forceSp l K=K l
 | [],_=>rfl
 |v::vs,K=>by unfold forceSp;rw[forceSp_eq vs]
def forceS_eq {β:Type}(s:VSt)(K:VSt->Tree β):forceS s K=K s:=by unfold forceS;rw[forceL_eq,forceH_eq]
def bind_val {w:World}{g:Gh}{u:Value}{v:V}{as vs:List V}{f:FuncId}(h0:Rep w g u v)(b0:bindV v as=some (f,vs)): ∃x y,u= .func (.func f) x y:=by
 cases h0<;>first|(cases b0;done)|skip
 all_goals (cases b0;exact⟨_,_,rfl⟩)
def bind_same {w:World}{g g1:Gh}{u:Value}{v v1:V}{as as1 vs vs1:List V}{f f1:FuncId}(h0:Rep w g u v)(h1:Rep w g1 u v1)(b0:bindV v as=some (f,vs))(b1:bindV v1 as1=some (f1,vs1)):f1=f:=by
 obtain⟨_,_,e0⟩:=bind_val h0 b0;obtain⟨_,_,e1⟩:=bind_val h1 b1;rw[e0]at e1;cases e1;rfl
def pureCallT_sound (hE:E.Ok)(hG:EnvGood P E){C:CfgO}{En:Ent}{s s':VSt}{a:Act}{w:World}{f:FuncId}{vs0:List V}(hc0:callOf P s.get o=some (f,vs0))(hk:(pureCallT sy P C s o f).run E=some s')(hs:SimE En s a w)
  {K:Act->World->Prop} {Q:Exit->Act->World->Prop} (hK: ∀a' w',SimE En s' a' w'->K a' w'):o.wp P a w K Q:=by
 unfold pureCallT at hk;simp only at hk;split at hk
 ·rename_i f1 vs ts hc1 hsig;generalize hcan:canL P (parP P f) vs=vc at hk;split at hk
  ·rename_i hp;have hs1:SimE En (s.frz (fzl s o)) a w:=hs.frzs;obtain⟨y0,args0,ts0,hop0,hy0⟩:=callOf_some hc0 (fun f=>rfl)
   obtain⟨y,args,tys,hop,hy⟩:=callOf_some hc1 (fun f=>rfl)
   have hyy:y0=y:=by rw[hop0]at hop;simp at hop;exact hop.1
   subst hyy;have hff:f1=f:=by
    obtain⟨g,hsg⟩:=hs;obtain⟨g1,hsg1⟩:=hs1;exact bind_same (hsg.get y0) (hsg1.get y0) hy0 hy
   subst hff;have hg:=sigP_some hsig;split at hk
   ·split at hk
    ·split at hk
     ·rename_i t e sz hel;simp only[Tree.run]at hk;obtain⟨rows,hpc,hk⟩:=Option.bind_eq_some_iff.1 hk;cases hk;obtain⟨t',e1,e2,hm⟩:=hG.2 _ _ _ hg hp (opM_some hpc);have hh:=hm.hcall hp (s.frz (fzl s o)).h;rw[<-hcan]at hh;exact(gives_callV hop hy hg hh.can).sim hs1 (by simp[okM]) hK
     ·cases hk
    ·cases hk
   ·split at hk
    ·rename_i ss hss;split at hk
     ·rename_i hfl;obtain⟨v,h1,hk⟩:=run_bind_some hE hk;cases hk;obtain⟨q1,q2,q3⟩:=callT_sound hE hG hp hsig h1;exact call_borrow hs hs1 hop hy (by rw[hcan];exact hp) hg (by rw[hcan];exact q1) (q3 ss hss hfl) hK
     ·obtain⟨v,h1,hk⟩:=run_bind_some hE hk;cases hk;obtain⟨q1,q2,q3⟩:=callT_sound hE hG hp hsig h1;have hh:=q1.hcall hp q2 (s.frz (fzl s o)).h;rw[<-hcan]at hh;exact(gives_callV hop hy hg hh.can).sim hs1 (by simp[okM]) hK
    ·obtain⟨v,h1,hk⟩:=run_bind_some hE hk;cases hk;obtain⟨q1,q2,q3⟩:=callT_sound hE hG hp hsig h1;have hh:=q1.hcall hp q2 (s.frz (fzl s o)).h;rw[<-hcan]at hh;exact(gives_callV hop hy hg hh.can).sim hs1 (by simp[okM]) hK
  ·cases hk
 ·cases hk
def stepT1_sound (hE:E.Ok)(hG:EnvGood P E){ent:Callee->List V->List Box->Tree (List Nat × V × List Box)}(hent:EntGood P E ent){C:CfgO}{En:Ent}{s:VSt}{q:Option V × VSt}{a:Act}{w:World}(hk:(stepT1 sy P ent C En.g.n En.M s o).run E=some q)(hs:SimE En s a w)
  {K:Act->World->Prop} {Q:Exit->Act->World->Prop} (hK: ∀a' w',q.1=none->SimE En q.2 a' w'->K a' w') (hQ: ∀p e a' w',q.1=some p->PanE En p q.2.t q.2.h e a' w'->Q e a' w'):o.wp P a w K Q:=by
 unfold stepT1 at hk;split at hk
 ·rename_i f vs hc;split at hk
  ·rename_i hi hsig;obtain⟨r,h1,hk⟩:=run_bind_some hE hk;split at hk
   ·rename_i hM;obtain⟨y,args,tys,hop,hy⟩:=callOf_some hc (fun f=>rfl)
    split at hk
    ·rename_i hp;cases hk;exact(gives_callV hop hy (sigP_some hsig) ((hent.1 _ _ _ _ h1).none hp)).sim hs hM fun a' w' h=>hK a' w' rfl h
    ·rename_i p hp;cases hk;exact pan_call hop hy (sigP_some hsig) ((hent.1 _ _ _ _ h1).some hp) hM hs fun e a' w' h=>hQ p e a' w' rfl h
   ·cases hk
  ·obtain⟨s',h1,hk⟩:=run_bind_some hE hk;cases hk;exact pureCallT_sound hE hG hc h1 hs fun a' w' h=>hK a' w' rfl h
 ·split at hk
  ·rename_i y hop;split at hk
   ·rename_i t cs hy;cases hk;obtain⟨g,hs⟩:=hs;have hr:=hs.get y;rw[hy]at hr;generalize hu0:a.eval y=u0 at hr;cases hr with
    |ifc _ us _ hl h=>
     have hrun:(execOp a.eval o).run P w= .halt (.panic (.iface t (.agg us))) w:=by
      simp only[execOp,hop,hu0];rfl
     unfold Oper.wp;rw[hrun,Oper.upon_panic];exact hQ _ _ _ _ rfl ⟨g,_,rfl, .ifc t us cs hl h,hs⟩
   ·cases hk
  ·simp only at hk;obtain⟨r,h1,hk⟩:=run_bind_some hE hk;split at hk
   ·rename_i hM;cases hk;exact(opT_sound hE h1).sim hs.frzs hM fun a' w' h=>hK a' w' rfl h
   ·cases hk
def yldOf_some {b:Nat}{R:RecI}{vs:List V}(hc:yldOf O o=some (b,R,vs)):
  ∃y args ts,o.op= .call { callee:= .value y,args:=args,argTypes:=ts }/\O y= .yld b R/\vs=args.toList.map O:=by
 unfold yldOf at hc;split at hc
 ·rename_i y args ts hop;split at hc
  ·rename_i heq;cases hc;exact⟨y,args,ts,hop,heq,rfl⟩
  ·cases hc
 ·cases hc
def SimE.iceA {C:CfgO}{En:Ent}{s:VSt}{o:Oper}{a:Act}{w:World}(hs:SimE En s a w):SimE En (Go.Vm.iceA C s o) a w:=by
 unfold Go.Vm.iceA;split
 ·split
  ·exact hs.frzs
  ·exact hs
 ·exact hs
def stepT_sound (hE:E.Ok)(hG:EnvGood P E){ro:Option Nat}{ent:Callee->List V->List Box->Tree (List Nat × V × List Box)}(hent:EntGood P E ent){C:CfgO}{En:Ent}{s:VSt}{q:Option V × VSt}{a:Act}{w:World}(hk:(stepT sy P ent C En.g.n En.M s o).run E=some q)(hs:SimE En s a w)
  {K:Act->World->Prop} {Q:Exit->Act->World->Prop} (hK: ∀a' w',q.1=none->SimE En q.2 a' w'->K a' w') (hQ: ∀p e a' w',q.1=some p->PanE En p q.2.t q.2.h e a' w'->Q e a' w'):o.wpIn (Fw ro) 0 P a w K Q:=by
 unfold stepT at hk;split at hk
 ·rename_i b R vs hnd hy;obtain⟨y,args,ts,hop,hyy,rfl⟩:=yldOf_some hy;obtain⟨r,h1,hk⟩:=run_bind_some hE hk;split at hk
  ·rename_i hM;cases hk;have hR:=hent.2 _ _ _ _ _ h1;obtain⟨g,hs'⟩:=hs;have hr:=hs'.get y;rw[hyy]at hr;generalize hu0:a.eval y=u0 at hr;cases hr with
   |yld _ _ hb hc=>
    have hargs:Reps w g (args.toList.map a.eval) (args.toList.map s.get):=⟨by simp,fun i u v h1 h2=>by
     rw[List.getElem?_map,Option.map_eq_some_iff]at h1 h2;obtain⟨q,hq,rfl⟩:=h1;obtain⟨q',hq',rfl⟩:=h2;rw[hq]at hq';cases hq';exact hs'.get q⟩
    obtain⟨fn,tmps,assign,body,hrun,hround⟩:=hR g w _ hs'.heap hargs hb hc;refine⟨fun f _=>trivial,?_⟩
    have e:o.semAt (Fw ro).round a.eval=execOp a.eval o:=Oper.semAt_eq _ _ _ (noDef_spec hnd);rw[e];have hex:(execOp a.eval o).run P w= .ok (.round (g.blk b) fn tmps assign body) w:=by
     have:(args.toList.map a.eval).toArray=args.map a.eval:=by apply Array.ext';simp
     rw[this]at hrun;simp[execOp,hop,resolve,hu0,Deferred.ofValue,invoke,hrun]
    rw[hex,Oper.uponIn_round];refine⟨fun h=>by simp[Fw,Fence.wide]at h,hround.1,fun c cs _=> ?_⟩
    obtain⟨e,w',⟨u,g',rfl,hr,hk⟩,hsteps⟩:=hround.2 c cs (room_wide _);exact⟨.returned u,w',hK _ _ rfl ⟨g',hs'.next hk hM hr o.dst⟩,hsteps⟩
  ·cases hk
 ·rename_i hnd _;split at hk
  ·rename_i t y lo hi d hop hd;split at hk
   ·obtain⟨x,h1,hk⟩:=run_bind_some hE hk;cases hk;exact wpIn_of_wp hnd ((oslT_sound (E:=E) hop h1).sim hs (by simp[okM]) fun a' w' h=>hK a' w' rfl h)
   ·exact wpIn_of_wp hnd (stepT1_sound hE hG hent hk hs hK hQ)
  ·split at hk
   ·split at hk
    ·cases hk
    ·exact wpIn_of_wp hnd (stepT1_sound hE hG hent hk hs.iceA hK hQ)
   ·exact wpIn_of_wp hnd (stepT1_sound hE hG hent hk hs hK hQ)
 ·cases hk
def segStepT_sound (hE:E.Ok)(hG:EnvGood P E){ro:Option Nat}{En:Ent}{s:VSt}{a:Act}{w:World}(hk:(segStepT sy P s o).run E=some x)(hs:SimE En s a w)
  {K:Act->World->Prop} {Q:Exit->Act->World->Prop} (hK: ∀a' w',SimE En (s.next [] s.h o.dst x) a' w'->K a' w'):o.wpIn (Fw ro) 0 P a w K Q:=by
 unfold segStepT at hk;split at hk
 ·cases hk
 rename_i hnd;refine wpIn_of_wp hnd ?_;split at hk
 ·rename_i f vs hc0;split at hk
  ·rename_i f1 vs0 ts hc1 hsig;generalize hcan:canL P (parP P f) vs0=vc at hk;simp only at hk;split at hk
   ·rename_i ss hp hss;split at hk
    ·rename_i hfl;have hs1:SimE En (s.frz (fzl s o)) a w:=hs.frzs;obtain⟨y0,args0,ts0,hop0,hy0⟩:=callOf_some hc0 (fun f=>rfl)
     obtain⟨y,args,tys,hop,hy⟩:=callOf_some hc1 (fun f=>rfl)
     have hyy:y0=y:=by rw[hop0]at hop;simp at hop;exact hop.1
     subst hyy;have hff:f1=f:=by
      obtain⟨g,hsg⟩:=hs;obtain⟨g1,hsg1⟩:=hs1;exact bind_same (hsg.get y0) (hsg1.get y0) hy0 hy
     subst hff;obtain⟨q1,q2,q3⟩:=callT_sound hE hG hp hsig hk;exact call_borrow hs hs1 hop hy (by rw[hcan];exact hp) (sigP_some hsig) (by rw[hcan];exact q1) (q3 ss hss hfl) hK
    ·cases hk
   ·cases hk
  ·cases hk
 ·exact(opPT_sound hE hk s.h (Pre.refl _)).sim hs (by simp[okM]) hK
def set_self' {α:Type}{l:List α}{k:Nat}{v:α}(hv:l[k]? =some v):l.set k v=l:=by
 apply List.ext_getElem?;intro i;rw[List.getElem?_set]
 by_cases hi:k=i
 ·subst hi;rw[if_pos rfl,if_pos (List.getElem?_eq_some_iff.1 hv).1,hv]
 ·rw[if_neg hi]
def next_nil (s:VSt)(dst:Option Tmp)(x:V):s.next [] s.h dst x=⟨match dst with|some d=>s.t.set d x|none=>s.t,s.h⟩:=by cases dst<;>rfl
def segT_sound (hE:E.Ok)(hG:EnvGood P E){ro:Option Nat}{En:Ent}{ops:Array Oper}{Q:Exit->Act->World->Prop}{s':VSt}{rest:List Oper}: ∀ {os:List Oper} {s:VSt} {a:Act} {w:World},
  (segT sy P ops os s).run E=some s'->SimE En s a w->(∀a' w',SimE En s' a' w'->wpListIn (Fw ro) 0 P ops Q rest a' w')->wpListIn (Fw ro) 0 P ops Q (os++rest) a w
 | [],s,a,w,hk,hs,hq=>by cases hk;exact hq a w hs
 |o::os,s,a,w,hk,hs,hq=>by
  have exec: ∀s,SimE En s a w->((segStepT sy P s o).bind fun x=>forceS (s.next [] s.h o.dst x) (segT sy P ops os)).run E=some s'->o.wpIn (Fw ro) 0 P a w (wpListIn (Fw ro) 0 P ops Q (os++rest)) Q:=by
   intro s hs hk;obtain⟨x,h1,hk⟩:=run_bind_some hE hk;rw[forceS_eq]at hk;exact segStepT_sound hE hG h1 hs fun a' w' hs'=>segT_sound hE hG hk hs' hq
  have pass: ∀s,SimE En s a w->(forceS (s.next [] s.h o.dst (.tup [])) (segT sy P ops os)).run E=some s'->wpListIn (Fw ro) 0 P ops Q (os++rest) (a.put o.dst undef) w:=by
   intro s hs hk;rw[forceS_eq]at hk;obtain⟨g,hs'⟩:=hs;exact segT_sound hE hG hk ⟨g,hs'.next (.refl hs'.heap) (by simp[okM]) (.tup #[] [] rfl (by simp)) o.dst⟩ hq
  unfold segT at hk;simp only at hk;split at hk
  ·rename_i hg;refine listIn_step ?_;simp only[Region.wanted,hg,if_true];exact exec s hs hk
  ·rename_i j want hg;split at hk
   ·rename_i t ht;split at hk
    ·rename_i c hc;obtain⟨hs1,ha⟩:=setT_sim hs hc;have hy:yielded ops a.tmps j=some c:=by simp[yielded,ht,ha]
     refine listIn_step ?_;simp only[Region.wanted,hg,hy];split at hk<;>cases c
     ·rw[if_neg (by simp)]
      exact pass _ hs1 hk
     ·rw[if_pos (by simp)]
      exact exec _ hs1 hk
     ·rw[if_pos (by simp)]
      exact exec _ hs1 hk
     ·rw[if_neg (by simp)]
      exact pass _ hs1 hk
    ·rename_i hc;have hy:yielded ops a.tmps j=none:=by
      have hlt:t < s.t.length:=(List.getElem?_eq_some_iff.1 hc).1;obtain⟨g,hs'⟩:=hs;have hlt':t < a.tmps.size:=by rw[hs'.size];exact hlt
      have hu:=hs'.tmps t _ _ (Array.getElem?_eq_getElem hlt') hc;have ha:a.tmps[t]? =some a.tmps[t]:=Array.getElem?_eq_getElem hlt';generalize a.tmps[t]=u at hu ha;cases hu with
      |tup us cs hl h=>simp[yielded,ht,ha]
     refine listIn_step ?_;simp only[Region.wanted,hg,hy];rw[if_neg (by simp)]
     exact pass _ hs hk
    ·cases hk
   ·cases hk
def dsts (os:List Oper):List Nat:=os.filterMap (·.dst)
def segT_frame (hE:E.Ok){ops:Array Oper}{s':VSt}: ∀ {os:List Oper} {s:VSt},(segT sy P ops os s).run E=some s'->s'.h=s.h/\s'.t.length=s.t.length/\ ∀k,k ∉ dsts os->s'.t[k]? =s.t[k]?
 | [],s,hk=>by cases hk;exact⟨rfl,rfl,fun _ _=>rfl⟩
 |o::os,s,hk=>by
  have step: ∀x:V,(segT sy P ops os (s.next [] s.h o.dst x)).run E=some s'->s'.h=s.h/\s'.t.length=s.t.length/\ ∀k,k ∉ dsts (o::os)->s'.t[k]? =s.t[k]? :=by
   intro x hk;obtain⟨q1,q2,q3⟩:=segT_frame hE hk;rw[next_nil]at q1 q2 q3;refine⟨q1,by rw[q2];cases o.dst<;>simp,fun k hk'=> ?_⟩
   have hk2:k ∉ dsts os:=fun h=>hk' (by unfold dsts at h ⊢;rw[List.filterMap_cons];cases o.dst<;>simp[h])
   rw[q3 k hk2];cases hd:o.dst with
   |none=>rfl
   |some d=>
    have:d≠k:=fun e=>hk' (by unfold dsts;rw[List.filterMap_cons,hd];simp[e])
    simp only;rw[List.getElem?_set,if_neg this]
  have exec:((segStepT sy P s o).bind fun x=>forceS (s.next [] s.h o.dst x) (segT sy P ops os)).run E=some s'->s'.h=s.h/\s'.t.length=s.t.length/\ ∀k,k ∉ dsts (o::os)->s'.t[k]? =s.t[k]? :=by
   intro hk;obtain⟨x,h1,hk⟩:=run_bind_some hE hk;rw[forceS_eq]at hk;exact step x hk
  have pass:(forceS (s.next [] s.h o.dst (.tup [])) (segT sy P ops os)).run E=some s'->s'.h=s.h/\s'.t.length=s.t.length/\ ∀k,k ∉ dsts (o::os)->s'.t[k]? =s.t[k]? :=by
   intro hk;rw[forceS_eq]at hk;exact step _ hk
  unfold segT at hk;simp only at hk;split at hk
  ·exact exec hk
  ·split at hk
   ·rename_i t ht;split at hk
    ·rename_i c hc;have e: ∀b,c=b->s.setT t b=s:=fun b hb=>by
      subst hb;show { s with t:=s.t.set t _ }=s
      rw[set_self' hc]
     split at hk<;>cases c<;>simp only[Tree.run,e _ rfl]at hk
     ·exact pass hk
     ·exact exec hk
     ·exact exec hk
     ·exact pass hk
    ·exact pass hk
    ·cases hk
   ·cases hk
def anyAll_spec: ∀ {os:List Oper} {t:List V},(anyAll t os).length=t.length/\ ∀(k:Nat) v,(anyAll t os)[k]? =some v->v= .any\/(k ∉ dsts os/\t[k]? =some v)
 | [],t=>⟨rfl,fun k v h=> .inr ⟨by simp[dsts],h⟩⟩
 |o::os,t=>by
  obtain⟨q1,q2⟩:=anyAll_spec (os:=os) (t:=match o.dst with|some d=>t.set d .any|none=>t)
  refine⟨by unfold anyAll;rw[q1];cases o.dst<;>simp,fun k v h=> ?_⟩
  unfold anyAll at h;rcases q2 k v h with h1|⟨h1,h2⟩
  ·exact .inl h1
  ·cases hd:o.dst with
   |none=>
    rw[hd]at h2;exact .inr ⟨by unfold dsts at h1 ⊢;rw[List.filterMap_cons,hd];exact h1,h2⟩
   |some d=>
    rw[hd]at h2;simp only at h2;rw[List.getElem?_set]at h2
    by_cases hk:d=k
    ·rw[if_pos hk]at h2;split at h2
     ·cases h2;exact .inl rfl
     ·cases h2
    ·rw[if_neg hk]at h2;refine .inr ⟨?_,h2⟩;unfold dsts at h1 ⊢;rw[List.filterMap_cons,hd];simp only[List.mem_cons,not_or];exact⟨fun e=>hk e.symm,h1⟩
def SimE.less {En:Ent}{s s2:VSt}{a:Act}{w:World}(hs:SimE En s a w)(hh:s2.h=s.h)(hl:s2.t.length=s.t.length)(ht: ∀(k:Nat) v,s2.t[k]? =some v->v= .any\/s.t[k]? =some v):SimE En s2 a w:=by
 obtain⟨g,hs⟩:=hs;refine⟨g,by rw[hh];exact hs.heap,by rw[hl];exact hs.size,fun i u v hu hv=> ?_,by rw[hh];exact hs.defers,by rw[hh];exact hs.keep,by rw[hl];exact hs.len⟩
 rcases ht i v hv with rfl|h
 ·exact .any u
 ·exact hs.tmps i u v hu h
def opsT_skip {A:Sy}{ent:Callee->List V->List Box->Tree (List Nat × V × List Box)}{C:CfgO}{n0:Nat}{M0:List Nat}{ops:Array Oper}: ∀(k:Nat) (os:List Oper) (s:VSt),opsT A P ent C n0 M0 ops k os s=opsT A P ent C n0 M0 ops 0 (os.drop k) s
 |0,_,_=>rfl
 |k+1,[],s=>by simp[opsT]
 |k+1,_::os,s=>by
  show opsT A P ent C n0 M0 ops k os s=opsT A P ent C n0 M0 ops 0 (os.drop k) s;exact opsT_skip k os s
def SimE.mintB {P:Program}{En:Ent}{a:Act}{w:World}: ∀(l:List (Nat × Nat × TypeId)) {s:VSt},SimE En s a w->SimE En (mintB P s l) a w
 | [],_,hs=>hs
 |(b,off,t)::l,s,hs=>by
  unfold Go.Vm.mintB;split
  ·rename_i k vs e sz hb hel;split
   ·rename_i hv;refine SimE.mintB l ?_;obtain⟨g,hs⟩:=hs;have hn:g.n=s.h.length:=hs.heap.n
    let v0:Value:= .slice none 0 0
    have hv1:(g.push 0 v0).val g.n=v0:=by simp[Gh.push]
    have hk:=Keep.push (R:=none) (x:= .arr e sz []) hs.heap 0 v0 (w':=w) (Fr.refl _ _) ⟨by simp, .inl ⟨hv1,rfl⟩⟩ (fun k' hk'=>by simp[Box.at?,hv1,v0]at hk')
    have hbl:b < s.h.length:=(List.getElem?_eq_some_iff.1 hb).1;have hb1:(s.h++[Box.arr e sz []])[b]? =some (.cells k vs):=by rw[List.getElem?_append,if_pos hbl];exact hb
    obtain⟨us,o,h1,h0,h2,h3⟩:=hk.heap.rep b _ hb1;have hk2:=Keep.turn (g':=g.push 0 v0) (y:= .cells k (vs.set off (.own s.h.length))) hk.heap hb1 [] (.inl ⟨rfl,rfl⟩) rfl rfl rfl (fun _ _=>⟨rfl,rfl⟩) (Fr.refl _ _)
     ⟨us,o,h1,h0,by simpa using h2,fun i u v hu hv'=>by
      rw[List.getElem?_set]at hv';split at hv'
      ·rename_i hi;subst hi;split at hv'
       ·cases hv';have:=h3 off u .nils hu hv;cases this;have:=Rep.own (w:=w) (g:=g.push 0 v0) g.n (by simp[Gh.push])
        rwa [hv1,hn]at this
       ·cases hv'
      ·exact h3 i u v hu hv'⟩ (fun k hk=> .inl hk)
    rw[map_kill_nil]at hk2;have e1:(s.h++[Box.arr e sz []]).set b (.cells k (vs.set off (.own s.h.length)))=s.h.set b (.cells k (vs.set off (.own s.h.length)))++[.arr e sz []]:=by
     rw[List.set_append_left _ _ hbl]
    rw[e1]at hk2;have s1:=hs.next hk (by simp[okM]) (x:= .any) (u:=undef) (.any undef) none
    have s2:=s1.next hk2 (by simp[okM]) (x:= .any) (u:=undef) (.any undef) none
    exact⟨_,s2⟩
   ·exact SimE.mintB l hs
  ·rename_i e sz hb hel;split
   ·rename_i hv;refine SimE.mintB l ?_;obtain⟨g,hs⟩:=hs;have hn:g.n=s.h.length:=hs.heap.n
    let v0:Value:= .slice none 0 0
    have hv1:(g.push 0 v0).val g.n=v0:=by simp[Gh.push]
    have hk:=Keep.push (R:=none) (x:= .arr e sz []) hs.heap 0 v0 (w':=w) (Fr.refl _ _) ⟨by simp, .inl ⟨hv1,rfl⟩⟩ (fun k' hk'=>by simp[Box.at?,hv1,v0]at hk')
    have s1:=hs.next hk (by simp[okM]) (x:= .any) (u:=undef) (.any undef) none
    have e1:(s.next [] (s.h++[Box.arr e sz []]) none .any)=⟨s.t,s.h++[Box.arr e sz []]⟩:=rfl;have e2:a.put none undef=a:=rfl;rw[e1,e2]at s1;refine⟨_,s1.heap,by simpa using s1.size,fun i u v hu hv'=> ?_,s1.defers,s1.keep,by simpa using s1.len⟩
    rw[List.getElem?_set]at hv';split at hv'
    ·rename_i hi;subst hi;split at hv'
     ·cases hv';have:=s1.tmps off u .nils hu hv;cases this;have:=Rep.own (w:=w) (g:=g.push 0 v0) g.n (by simp[Gh.push])
      rwa [hv1,hn]at this
     ·cases hv'
    ·exact s1.tmps i u v hu hv'
   ·exact SimE.mintB l hs
  ·exact SimE.mintB l hs
def SimE.mintP {P:Program}{En:Ent}{a:Act}{w:World}: ∀(l:List (Nat × Nat × Nat × Nat × TypeId)) {s:VSt},SimE En s a w->SimE En (Go.Vm.mintP P s l) a w
 | [],_,hs=>hs
 |(b,off,b2,off2,t)::l,s,hs=>by
  unfold Go.Vm.mintP;split
  ·rename_i k vs k2 vs2 e sz hb hb2 hel hne;have hne:=of_decide_eq_false hne;split
   ·rename_i hv hv2;refine SimE.mintP l ?_;obtain⟨g,hs⟩:=hs;have hn:g.n=s.h.length:=hs.heap.n
    let v0:Value:= .slice none 0 0
    have hv1:(g.push 0 v0).val g.n=v0:=by simp[Gh.push]
    have hk:=Keep.push (R:=none) (x:= .arr e sz []) hs.heap 0 v0 (w':=w) (Fr.refl _ _) ⟨by simp, .inl ⟨hv1,rfl⟩⟩ (fun k' hk'=>by simp[Box.at?,hv1,v0]at hk')
    have own0: ∀u,Rep w (g.push 0 v0) u .nils->Rep w (g.push 0 v0) u (.own s.h.length):=fun u hu=>by
     cases hu;have:=Rep.own (w:=w) (g:=g.push 0 v0) g.n (by simp[Gh.push])
     rwa [hv1,hn]at this
    have hbl:b < s.h.length:=(List.getElem?_eq_some_iff.1 hb).1;have hbl2:b2 < s.h.length:=(List.getElem?_eq_some_iff.1 hb2).1;have hb1:(s.h++[Box.arr e sz []])[b]? =some (.cells k vs):=by rw[List.getElem?_append,if_pos hbl];exact hb
    obtain⟨us,o,h1,h0,h2,h3⟩:=hk.heap.rep b _ hb1;have hk2:=Keep.turn (g':=g.push 0 v0) (y:= .cells k (vs.set off (.own s.h.length))) hk.heap hb1 [] (.inl ⟨rfl,rfl⟩) rfl rfl rfl (fun _ _=>⟨rfl,rfl⟩) (Fr.refl _ _)
     ⟨us,o,h1,h0,by simpa using h2,fun i u v hu hv'=>by
      rw[List.getElem?_set]at hv';split at hv'
      ·rename_i hi;subst hi;split at hv'
       ·cases hv';exact own0 u (h3 off u .nils hu hv)
       ·cases hv'
      ·exact h3 i u v hu hv'⟩ (fun k hk=> .inl hk)
    rw[map_kill_nil]at hk2;have e1:(s.h++[Box.arr e sz []]).set b (.cells k (vs.set off (.own s.h.length)))=s.h.set b (.cells k (vs.set off (.own s.h.length)))++[.arr e sz []]:=by
     rw[List.set_append_left _ _ hbl]
    rw[e1]at hk2;have hb3:(s.h.set b (.cells k (vs.set off (.own s.h.length)))++[Box.arr e sz []])[b2]? =some (.cells k2 vs2):=by
     rw[List.getElem?_append,if_pos (by simpa using hbl2),List.getElem?_set,if_neg hne];exact hb2
    obtain⟨us',o',h1',h0',h2',h3'⟩:=hk2.heap.rep b2 _ hb3;have hk3:=Keep.turn (g':=g.push 0 v0) (y:= .cells k2 (vs2.set off2 (.own s.h.length))) hk2.heap hb3 [] (.inl ⟨rfl,rfl⟩) rfl rfl rfl (fun _ _=>⟨rfl,rfl⟩) (Fr.refl _ _)
     ⟨us',o',h1',h0',by simpa using h2',fun i u v hu hv'=>by
      rw[List.getElem?_set]at hv';split at hv'
      ·rename_i hi;subst hi;split at hv'
       ·cases hv';exact own0 u (h3' off2 u .nils hu hv2)
       ·cases hv'
      ·exact h3' i u v hu hv'⟩ (fun k hk=> .inl hk)
    rw[map_kill_nil]at hk3;have e2:(s.h.set b (.cells k (vs.set off (.own s.h.length)))++[Box.arr e sz []]).set b2 (.cells k2 (vs2.set off2 (.own s.h.length)))=(s.h.set b (.cells k (vs.set off (.own s.h.length)))).set b2 (.cells k2 (vs2.set off2 (.own s.h.length)))++[.arr e sz []]:=by
     rw[List.set_append_left _ _ (by simpa using hbl2)]
    rw[e2]at hk3;have s1:=hs.next hk (by simp[okM]) (x:= .any) (u:=undef) (.any undef) none
    have s2:=s1.next hk2 (by simp[okM]) (x:= .any) (u:=undef) (.any undef) none
    have s3:=s2.next hk3 (by simp[okM]) (x:= .any) (u:=undef) (.any undef) none
    exact⟨_,s3⟩
   ·exact SimE.mintP l hs
  ·exact SimE.mintP l hs
def datV_rep {P:Program}{t:TypeId}{v x:V}{w:World}{g:Gh}{u:Value}(h:datV P t v=some x)(hr:Rep w g u v):Rep w g u x:=by
 unfold datV at h;split at h
 ·split at h<;>cases h
  cases hr;exact .d (.slnil _)
 ·split at h<;>cases h
  cases hr;exact .ifo0 _ _
 ·cases h
def SimE.datB {P:Program}{En:Ent}{a:Act}{w:World}: ∀(l:List (Nat × Nat × TypeId)) {s:VSt},SimE En s a w->SimE En (Go.Vm.datB P s l) a w
 | [],_,hs=>hs
 |(b,off,t)::l,s,hs=>by
  unfold Go.Vm.datB;split
  ·rename_i k vs hb;split
   ·exact SimE.datB l hs.frzs
   ·rename_i v hno hv;split
    ·rename_i x hx;refine SimE.datB l ?_;obtain⟨g,hs⟩:=hs;obtain⟨us,o,h1,h0,h2,h3⟩:=hs.heap.rep b _ hb;have hk2:=Keep.turn (g':=g) (y:= .cells k (vs.set off x)) hs.heap hb [] (.inl ⟨rfl,rfl⟩) rfl rfl rfl (fun _ _=>⟨rfl,rfl⟩) (Fr.refl _ _)
      ⟨us,o,h1,h0,by simpa using h2,fun i u v' hu hv'=>by
       rw[List.getElem?_set]at hv';split at hv'
       ·rename_i hi;subst hi;split at hv'
        ·cases hv';exact datV_rep hx (h3 off u v hu hv)
        ·cases hv'
       ·exact h3 i u v' hu hv'⟩ (fun k hk=> .inl hk)
     rw[map_kill_nil]at hk2;exact⟨_,hs.next hk2 (by simp[okM]) (x:= .any) (u:=undef) (.any undef) none⟩
    ·exact SimE.datB l hs
   ·exact SimE.datB l hs
  ·split
   ·exact SimE.datB l hs.frzs
   ·rename_i v hno hv;split
    ·rename_i x hx;refine SimE.datB l ?_;obtain⟨g,hs⟩:=hs;refine⟨g,hs.heap,by simpa using hs.size,fun i u v' hu hv'=> ?_,hs.defers,hs.keep,by simpa using hs.len⟩
     rw[List.getElem?_set]at hv';split at hv'
     ·rename_i hi;subst hi;split at hv'
      ·cases hv';exact datV_rep hx (hs.tmps off u v hu hv)
      ·cases hv'
     ·exact hs.tmps i u v' hu hv'
    ·exact SimE.datB l hs
   ·exact SimE.datB l hs
  ·exact SimE.datB l hs
def opsT_sound (hE:E.Ok)(hG:EnvGood P E){ro:Option Nat}{ent:Callee->List V->List Box->Tree (List Nat × V × List Box)}(hent:EntGood P E ent){C:CfgO}{En:Ent}{ops:Array Oper}{Q:Exit->Act->World->Prop}{r:Option V × VSt}: ∀(n:Nat) {os:List Oper} {s:VSt} {a:Act} {w:World},os.length<=n->
  (opsT sy P ent C En.g.n En.M ops 0 os s).run E=some r->SimE En s a w->(∀e a' w',OpR En r e a' w'->Q e a' w')->wpListIn (Fw ro) 0 P ops Q os a w
 |_,[],s,a,w,_,hk,hs,hq=>by cases hk;exact hq .normal a w ⟨rfl,hs⟩
 |0,_::_,s,a,w,hn,_,_,_=>by simp at hn
 |n+1,o::os,s,a,w,hn,hk,hs,hq=>by
  have hn:os.length<=n:=by simpa using hn
  have exec: ∀s,SimE En s a w->((stepT sy P ent C En.g.n En.M s o).bind fun q=>match q.1 with
   |some p=> .ret (some p,q.2)
   |none=>forceS (mintB P q.2 (ownAt C s o)) fun s'=>match segOf P C ops o os with
    |some L=> .cut ((segT sy P ops (os.take L) s').bind fun s2=>match s2.t[lastDst 0 (os.take L)]? with
      |some (.d (.bool b))=> .ret (.inl [.bool b])
      |_=> .fail) fun ds=> .cB (sy.cell ds 0) fun b=>forceS ⟨(anyAll s'.t (os.take L)).set (lastDst 0 (os.take L)) (.d (.bool b)),s'.h⟩ (opsT sy P ent C En.g.n En.M ops L os)
    |none=>opsT sy P ent C En.g.n En.M ops 0 os s').run E=some r->o.wpIn (Fw ro) 0 P a w (wpListIn (Fw ro) 0 P ops Q os) Q:=by
   intro s hs hk;obtain⟨q1,h1,hk⟩:=run_bind_some hE hk;obtain⟨p1,s1⟩:=q1;cases p1 with
   |some p=>
    cases hk;exact stepT_sound hE hG hent h1 hs (fun a' w' h=>(by cases h)) fun p' e a' w' hp hpe=>hq e a' w' (by cases hp;exact hpe)
   |none=>
   simp only at hk;rw[forceS_eq]at hk;refine stepT_sound hE hG hent h1 hs (fun a' w' _ hs'=> ?_) (fun p e a' w' h=>by cases h)
   simp only at hs';have hs':=hs'.mintB (P:=P) (ownAt C s o);generalize mintB P s1 (ownAt C s o)=s1 at hk hs';split at hk
   ·rename_i L _;simp only[Tree.run]at hk;obtain⟨q,h2,hk⟩:=Option.bind_eq_some_iff.1 hk;obtain⟨s2,h3,h4⟩:=run_bind_some hE h2;have hre:os=os.take L++os.drop L:=(List.take_append_drop L os).symm;generalize os.take L=seg at h3 h4 hk hre;rw[hre];refine segT_sound hE hG h3 hs' fun a2 w2 hs2=> ?_
    split at h4
    ·rename_i b hb;cases h4;have hk:(forceS ⟨(anyAll s1.t seg).set (lastDst 0 seg) (.d (.bool b)),s1.h⟩ (opsT sy P ent C En.g.n En.M ops L os)).run E=some r:=hk;rw[forceS_eq,opsT_skip]at hk;obtain⟨f1,f2,f3⟩:=segT_frame hE h3;obtain⟨g1,g2⟩:=anyAll_spec (os:=seg) (t:=s1.t);refine opsT_sound hE hG hent n (by simp;omega) hk ?_ hq
     refine hs2.less f1.symm (by simp[g1,f2]) fun k v hv=> ?_
     simp only at hv;rw[List.getElem?_set]at hv
     by_cases hkd:lastDst 0 seg=k
     ·rw[if_pos hkd]at hv;split at hv
      ·cases hv;right;rw[<-hkd];exact hb
      ·cases hv
     ·rw[if_neg hkd]at hv;rcases g2 k v hv with h5|⟨h5,h6⟩
      ·exact .inl h5
      ·right;rw[f3 k h5];exact h6
    ·cases h4
   ·exact opsT_sound hE hG hent n hn hk hs' hq
  have pass: ∀s,SimE En s a w->(forceS (s.next [] s.h o.dst (.tup [])) (opsT sy P ent C En.g.n En.M ops 0 os)).run E=some r->wpListIn (Fw ro) 0 P ops Q os (a.put o.dst undef) w:=by
   intro s hs hk;rw[forceS_eq]at hk;obtain⟨g,hs'⟩:=hs;exact opsT_sound hE hG hent n hn hk ⟨g,hs'.next (.refl hs'.heap) (by simp[okM]) (.tup #[] [] rfl (by simp)) o.dst⟩ hq
  unfold opsT at hk;simp only at hk;split at hk
  ·rename_i hg;refine listIn_step ?_;simp only[Region.wanted,hg,if_true];exact exec s hs hk
  ·rename_i j want hg;split at hk
   ·rename_i t ht;split at hk
    ·rename_i c hc;obtain⟨hs1,ha⟩:=setT_sim hs hc;have hy:yielded ops a.tmps j=some c:=by simp[yielded,ht,ha]
     refine listIn_step ?_;simp only[Region.wanted,hg,hy];split at hk<;>cases c
     ·rw[if_neg (by simp)]
      exact pass _ hs1 hk
     ·rw[if_pos (by simp)]
      exact exec _ hs1 hk
     ·rw[if_pos (by simp)]
      exact exec _ hs1 hk
     ·rw[if_neg (by simp)]
      exact pass _ hs1 hk
    ·rename_i hc;have hy:yielded ops a.tmps j=none:=by
      have hlt:t < s.t.length:=(List.getElem?_eq_some_iff.1 hc).1;obtain⟨g,hs'⟩:=hs;have hlt':t < a.tmps.size:=by rw[hs'.size];exact hlt
      have hu:=hs'.tmps t _ _ (Array.getElem?_eq_getElem hlt') hc;have ha:a.tmps[t]? =some a.tmps[t]:=Array.getElem?_eq_getElem hlt';generalize a.tmps[t]=u at hu ha;cases hu with
      |tup us cs hl h=>simp[yielded,ht,ha]
     refine listIn_step ?_;simp only[Region.wanted,hg,hy];rw[if_neg (by simp)]
     exact pass _ hs hk
    ·cases hk
   ·cases hk
end
end Go.Vm
end
