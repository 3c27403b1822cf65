/- Part KC of the proof. What is proved by the whole: the statement that the claim names, with no condition. -/
import Derived.Test.YtggdkkdfeblooaaGreatDoorKB
set_option linter.all false
section
namespace Go.Vm
structure Sy where
 wrap:IntKind->Int->Int
 add:Int->Int->Int
 sub:Int->Int->Int
 mul:Int->Int->Int
 ieq:Int->Int->Bool
 ilt:Int->Int->Bool
 ile:Int->Int->Bool
 seq:BA->BA->Bool
 slt:BA->BA->Bool
 beq:Bool->Bool->Bool
 bor:Bool->Bool->Bool
 bnot:Bool->Bool
 imax:Int->Int->Int
 imin:Int->Int->Int
 rlen:LL->Int
 slen:BA->Int
 sapp:BA->BA->BA
 sfit:BA->BA->Bool
 inr:Int->Int->Bool
 row:LL->Int->List D
 nat:Int->Nat
 rown:LL->Nat->List D
 cell:List D->Nat->Option D
 skip:Nat->List D->List D
 inrn:Nat->LL->Bool
 rput:LL->Nat->Nat->List D->LL
 rapp:LL->LL->LL
 fits:LL->LL->Nat->Bool
 cutok:Int->Int->Int->Bool
 cut:LL->Int->Int->LL
 scut:BA->Int->Int->BA
 sbyte:BA->Int->Int
 mkok:Int->Int->Nat->Bool
 mkok0:Int->Nat->Bool
 mkz:Int->Nat->Bool
 rep:Int->List D->LL
 mval:D->D->LL->D
 mhas:D->LL->Bool
 mput:D->D->LL->LL
 mdel:D->LL->LL
 head:LL->Int->LL
 deq:List D->List D->Bool
 rdec:BA->Int->Int
 rwid:BA->Int->Int
 rcopy:LL->Int->Int->LL->LL
 quo:Int->Int->Int
 rem:Int->Int->Int
 band:IntKind->Int->Int->Int
 bior:IntKind->Int->Int->Int
 bxor:IntKind->Int->Int->Int
 bandn:IntKind->Int->Int->Int
 shl:IntKind->Int->Int->Int
 shr:IntKind->Int->Int->Int
 sidx:BA->Int->Int
 scnt:BA->Int->Int
 pnum:BA->Int
 pok:BA->Bool
 isby:LL->Bool
 bstr:LL->BA
def byN:List D->Option Int
 | [.int .u8 n]=>some n
 |_=>none
def isbyR (rows:LL):Bool:=rows.all fun r=>(byN r).isSome
def q6v (rows:LL):BA:=strOfNums (rows.map fun r=>(byN r).getD 0)
def sy:Sy where
 isby:=isbyR
 bstr:=q6v
 wrap k n:=k.wrap n
 add a b:=a+b
 sub a b:=a - b
 mul a b:=a*b
 ieq a b:=decide (a=b)
 ilt a b:=decide (a < b)
 ile a b:=decide (a<=b)
 seq a b:=a.toList == b.toList
 slt a b:=Op.bytesLess a.toList b.toList
 beq a b:=a == b
 bor a b:=a || b
 bnot a:= !a
 imax a b:=max a b
 imin a b:=min a b
 rlen r:=r.length
 slen s:=s.size
 sapp a b:=a++b
 sfit s u:=decide (s.size+u.size<=9223372036854775807)
 inr i n:=decide (0<=i/\i < n)
 row rows i:=rows.getD i.toNat []
 nat i:=i.toNat
 rown rows i:=rows.getD i []
 cell cs j:=cs[j]?
 skip k cs:=cs.drop k
 inrn i rows:=decide (i < rows.length)
 rput rows i off ds:=rows.set i ((rows.getD i []).take off++ds++(rows.getD i []).drop (off+ds.length))
 rapp a b:=a++b
 fits a b k:=decide ((a.length+b.length)*(k+1)<=140737488355328)
 cutok l r n:=decide (0<=l/\l<=r/\r<=n)
 cut rows l r:=(rows.take r.toNat).drop l.toNat
 scut s l r:=s.extract l.toNat r.toNat
 sbyte s i:=((s.data.getD i.toNat 0).toNat:Int)
 mkok n m k:=decide (n=m/\0<=n/\n*(k+1)<=140737488355328)
 mkok0 m k:=decide (0<=m/\m*(k+1)<=140737488355328)
 mkz n k:=decide (0 < n/\n*(k+1)<=140737488355328)
 rep n ds:=List.replicate n.toNat ds
 mval z k rows:=mval z k rows
 mhas k rows:=mhas k rows
 mput k x rows:=mput k x rows
 mdel k rows:=mdel k rows
 head rows r:=rows.take r.toNat
 deq xs ys:=y7u xs ys
 rdec s p:=u2n s p
 rwid s p:=w6b s p
 rcopy rows lo n news:=rows.take lo.toNat++news.take (min n.toNat news.length)++rows.drop (lo.toNat+min n.toNat news.length)
 quo a b:=a.tdiv b
 rem a b:=a.tmod b
 band k a b:=q7h k a b
 bior k a b:=borI k a b
 bxor k a b:=q6u k a b
 bandn k a b:=w1y k a b
 shl k a b:=k9c k a b
 shr k a b:=k9b k a b
 sidx s c:=Lib.indexByte s.data.toList c.toNat.toUInt8
 scnt s c:=(Lib.countByte s.data.toList c.toNat.toUInt8:Nat)
 pnum s:=z9w s
 pok s:=w8u s
section
variable (A : Sy) (P : Program)
def y6g (s:Sh)(v:Option D):Tree D:=match s with
 | .int k=> .cI v k fun n=> .ret (.int k n)
 | .bool=> .cB v fun b=> .ret (.bool b)
 | .str=> .cS v fun t=> .ret (.str t)
 | .sl sz=> .cL v sz fun r=> .ret (.sl sz r)
def x7z:List Sh->List D->Nat->Tree (List D)
 | [],_,_=> .ret []
 |s::ss,cs,j=>(y6g s (A.cell cs j)).bind fun x=>(x7z ss cs (j+1)).bind fun xs=> .ret (x::xs)
def q3r (h:List Box)(t:TypeId)(v:V):Tree V:=
 match z3p P 9 t,szO P t,(P.underlying t).isSome,y4c P t with
 |sh,some n,true,ag=>match v with
  | .ptr b off=>match h[b]? with
    |some (.cells (.ty _) vs)=>match ag with
     |true=>match decide (off+n<=vs.length)with
      |true=> .ret (.agg ((vs.drop off).take n))
      |false=> .fail
     |false=>match vs[off]? with
      |some v=> .ret v
      |none=> .fail
    |_=> .fail
  | .pel cs=>match sh,ag with
    |some ss,true=>match decide (ss.length=n)with
     |true=>(x7z A ss cs 0).bind fun xs=> .ret (.agg (xs.map .d))
     |false=> .fail
    |some [s],false=>(y6g s (A.cell cs 0)).bind fun x=> .ret (.d x)
    |_,_=> .fail
  | .pml b sz i off=>match h[b]? with
    |some (.arr _ sz' rows)=>match decide (sz'=sz),sh,ag with
     |true,some ss,true=>match decide (ss.length=n)with
      |true=>chk (A.inrn i rows) ((x7z A ss (A.rown rows i) off).bind fun xs=> .ret (.agg (xs.map .d)))
      |false=> .fail
     |true,some [s],false=>(y6g s (A.cell (A.rown rows i) off)).bind fun x=> .ret (.d x)
     |_,_,_=> .fail
    |_=> .fail
  |_=> .fail
 |_,_,_,_=> .fail
def v8u (h:List Box)(t:TypeId)(v i:V):Tree V:=
 match elO P t,i with
 |some (_,sz), .d (.int _ i)=>match v with
  | .d (.sl sz' rows)=>match decide (sz'=sz)with
    |true=>chk (A.inr i (A.rlen rows)) (.ret (.pel (A.row rows i)))
    |false=> .fail
  | .own b=>match h[b]? with
    |some (.arr _ sz' rows)=>match decide (sz'=sz)with
     |true=>chk (A.inr i (A.rlen rows)) (.ret (.pml b sz (A.nat i) 0))
     |false=> .fail
    |_=> .fail
  | .osl b sz' lo n=>match decide (sz'=sz)with
    |true=>chk (A.inr i n) (.ret (.pml b sz (A.nat (A.add lo i)) 0))
    |false=> .fail
  |_=> .fail
 |_,_=> .fail
def q7f (op:BinOp)(k:IntKind)(a b:Int):Option D:=match op with
 | .add=>some (.int k (A.wrap k (A.add a b)))
 | .sub=>some (.int k (A.wrap k (A.sub a b)))
 | .mul=>some (.int k (A.wrap k (A.mul a b)))
 | .eql=>some (.bool (A.ieq a b))
 | .neq=>some (.bool (A.bnot (A.ieq a b)))
 | .lss=>some (.bool (A.ilt a b))
 | .leq=>some (.bool (A.ile a b))
 | .gtr=>some (.bool (A.ilt b a))
 | .geq=>some (.bool (A.ile b a))
 |_=>none
def w1u (op:BinOp)(a b:BA):Option Bool:=match op with
 | .eql=>some (A.seq a b)
 | .neq=>some (A.bnot (A.seq a b))
 | .lss=>some (A.slt a b)
 | .leq=>some (A.bor (A.slt a b) (A.seq a b))
 | .gtr=>some (A.bnot (A.bor (A.slt a b) (A.seq a b)))
 | .geq=>some (A.bnot (A.slt a b))
 |_=>none
def k6o (op:BinOp)(k:IntKind)(a b:Int):Option Int:=match op with
 | .and=>some (A.band k a b)
 | .or=>some (A.bior k a b)
 | .xor=>some (A.bxor k a b)
 | .andNot=>some (A.bandn k a b)
 |_=>none
def intT (op:BinOp)(k k':IntKind)(n m:Int):Tree V:=match op with
 | .shl=>chk (A.ile 0 m) (.ret (.d (.int k (A.shl k n m))))
 | .shr=>chk (A.ile 0 m) (.ret (.d (.int k (A.shr k n m))))
 | .quo=>match decide (k'=k)with
   |true=>chk (A.bnot (A.ieq m 0)) (.ret (.d (.int k (A.wrap k (A.quo n m)))))
   |false=> .fail
 | .rem=>match decide (k'=k)with
   |true=>chk (A.bnot (A.ieq m 0)) (.ret (.d (.int k (A.rem n m))))
   |false=> .fail
 |op=>match decide (k'=k),q7f A op k n m,k6o A op k n m with
  |true,some d,_=> .ret (.d d)
  |true,none,some c=> .ret (.d (.int k c))
  |_,_,_=> .fail
def k7o (t:TypeId):Bool:=match P.underlying t with
 |some (.interface _)=>true
 |_=>false
def q6t (s:TypeId):Bool:=match P.underlying s with
 |some (.slice e)=>match P.underlying e with
  |some (.int .u8)=>true
  |_=>false
 |_=>false
def nilT (op:BinOp)(a b:V):Tree V:=match op,a,b with
 | .eql, .ifn c, .ifn true=> .ret (.d (.bool c))
 | .neq, .ifn c, .ifn true=> .ret (.d (.bool (A.bnot c)))
 | .eql, .ifc .., .ifn true=> .ret (.d (.bool false))
 | .neq, .ifc .., .ifn true=> .ret (.d (.bool true))
 | .eql, .ifo _ b _, .ifn true=> .ret (.d (.bool b))
 | .neq, .ifo _ b _, .ifn true=> .ret (.d (.bool (A.bnot b)))
 |_,_,_=> .fail
def binT (op:BinOp)(t:TypeId)(a b:V):Tree V:=
 match a,b with
 | .d (.int k n), .d (.int k' m)=>intT A op k k' n m
 | .d (.str s), .d (.str u)=>match op with
   | .add=>chk (A.sfit s u) (.ret (.d (.str (A.sapp s u))))
   |_=>match w1u A op s u with
    |some c=> .ret (.d (.bool c))
    |none=> .fail
 | .d (.bool c), .d (.bool d)=>match P.underlying t,op with
   |some .bool, .eql=> .ret (.d (.bool (A.beq c d)))
   |some .bool, .neq=> .ret (.d (.bool (A.bnot (A.beq c d))))
   |_,_=> .fail
 | .agg xs, .agg ys=>match y8n xs,y8n ys with
   |some cs,some ds=>match shD cs,shD ds with
    |some ss,some ss'=>match decide (ss'=ss),op,v5w P t ss with
     |true, .eql,true=> .ret (.d (.bool (A.deq cs ds)))
     |true, .neq,true=> .ret (.d (.bool (A.bnot (A.deq cs ds))))
     |_,_,_=> .fail
    |_,_=> .fail
   |_,_=> .fail
 |_,_=> .fail
def w7l (v:V)(k:Nat):Option V:=match v with
 | .ptr b off=>some (.ptr b (off+k))
 | .pel cs=>some (.pel (match k with
   |0=>cs
   |k=>A.skip k cs))
 | .pml b sz i off=>some (.pml b sz i (off+k))
 |_=>none
def lenT (h:List Box):V->Option Int
 | .nils=>some 0
 | .d (.sl _ rows)=>some (A.rlen rows)
 | .d (.str s)=>some (A.slen s)
 | .own b=>match h[b]? with
   |some (.arr _ _ rows)=>some (A.rlen rows)
   |_=>none
 | .osl _ _ _ n=>some n
 |_=>none
def q0z (h:List Box)(t:TypeId)(v:V):Tree V:=
 match v,P.underlying t,lenT A h v with
 | .d (.str _),some .string,some n=> .ret (.d (.int .i64 n))
 | .d (.str _),_,_=> .fail
 |_,some (.slice _),some n=> .ret (.d (.int .i64 n))
 | .map b,some (.map _ _),_=>match h[b]?,v2f P t with
   |some (.mp _ rows),some _=> .ret (.d (.int .i64 (A.rlen rows)))
   |_,_=> .fail
 |_,_,_=> .fail
def v6b (t:TypeId)(v:V)(lo hi:Option V):Tree V:=
 match v with
 | .d (.sl sz' rows)=>match elO P t,y3k 0 lo,y3k (A.rlen rows) hi with
   |some (_,sz),some l,some r=>match decide (sz'=sz)with
    |true=>chk (A.cutok l r (A.rlen rows)) (.ret (.d (.sl sz (A.cut rows l r))))
    |false=> .fail
   |_,_,_=> .fail
 | .d (.str s)=>match P.underlying t,y3k 0 lo,y3k (A.slen s) hi with
   |some .string,some l,some r=>chk (A.cutok l r (A.slen s)) (.ret (.d (.str (A.scut s l r))))
   |_,_,_=> .fail
 | .nils=>match elO P t,y3k 0 lo,y3k 0 hi with
   |some _,some l,some r=>chk (A.cutok l r 0) (.ret .nils)
   |_,_,_=> .fail
 |_=> .fail
def u5a (h:List Box)(t:TypeId)(v q:V)(c:Bool):Tree V:=
 match v2f P t,v,q with
 |some (e,kk), .map b, .d k=>match h[b]?,z3k P e,z3p P 9 e,kk.j2a k with
  |some (.mp kk' rows),some z,some [s],true=>match decide (kk'=kk),y4d [s] [z]with
   |true,true=>(y6g s (some (A.mval (y8b s) k rows))).bind fun x=>match c with
    |true=> .ret (.tup [.d x, .d (.bool (A.mhas k rows))])
    |false=> .ret (.d x)
   |_,_=> .fail
  |_,_,_,_=> .fail
 |_,_,_=> .fail
def q8t (f:FuncId):Option Nat:=match P.funcs[f]? with
 |some fn=>match fn.body with
  |some _=>none
  |none=>match fn.origin == "",fn.name == "internal/bytealg.IndexByteString",fn.name == "internal/bytealg.CountString" with
   |true,true,_=>some 0
   |true,false,true=>some 1
   |_,_,_=>none
 |none=>none
def w8x (h:List Box)(ρ:Operand->V)(o:Oper):Tree V:=
 match o.op with
 | .move y=> .ret (ρ y)
 | .assign y=> .ret (ρ y)
 | .pick c a b=>match ρ c with
   | .d (.bool t)=> .ite t (.ret (ρ a)) (.ret (ρ b))
   |_=> .fail
 | .load t y=>q3r A P h t (ρ y)
 | .fieldAddr s y f=>match k2q P s f with
   |some k=>match w7l A (ρ y) k with
    |some v=> .ret v
    |none=> .fail
   |none=> .fail
 | .field t y f=>match P.underlying t,ρ y with
   |some (.struct fs), .agg cs=>match fs[f]? with
    |some fl=>match y4c P fl.type,(P.underlying fl.type).isSome,szO P fl.type with
     |false,true,_=>match cs[fl.offset]? with
      |some v=> .ret v
      |none=> .fail
     |true,true,some n=>match decide (fl.offset+n<=cs.length)with
      |true=> .ret (.agg ((cs.drop fl.offset).take n))
      |false=> .fail
     |_,_,_=> .fail
    |none=> .fail
   |_,_=> .fail
 | .indexAddr t y z=>match k8i P t z with
   |some (k,i0)=>match ρ z with
    | .d (.int _ i)=>match decide (i=i0)with
      |true=>match w7l A (ρ y) k with
       |some v=> .ret v
       |none=> .fail
      |false=> .fail
    |_=> .fail
   |none=>v8u A P h t (ρ y) (ρ z)
 | .index t y z=>match P.underlying t,ρ y,ρ z with
   |some .string, .d (.str s), .d (.int _ i)=>chk (A.inr i (A.slen s)) (.ret (.d (.int .u8 (A.sbyte s i))))
   |_,_,_=> .fail
 | .binOp op t y z _=>match z,k7o P t with
   | .const .nilIface,true=>nilT A op (ρ y) (ρ z)
   |_,_=>binT A P op t (ρ y) (ρ z)
 | .unOp op _ y=>match op,ρ y with
   | .not, .d (.bool b)=> .ret (.d (.bool (A.bnot b)))
   | .neg, .d (.int k n)=> .ret (.d (.int k (A.wrap k (A.sub 0 n))))
   |_,_=> .fail
 | .convert s t y=>match P.underlying t,(P.underlying s).isSome,ρ y with
   |some (.int k'),true, .d (.int _ n)=> .ret (.d (.int k' (A.wrap k' n)))
   |some .string,true, .d (.sl 1 rows)=>match q6t P s with
    |true=>chk (A.isby rows) (.ret (.d (.str (A.bstr rows))))
    |false=> .fail
   |_,_,_=> .fail
 | .extract y i=>match ρ y with
   | .tup cs=>match cs[i]? with
     |some v=> .ret v
     |none=> .fail
   |_=> .fail
 | .nilCheck y=>match (ρ y).j2i with
   |true=> .ret (ρ y)
   |false=> .fail
 | .build t parts=>match z6t P t with
   |some (zs,place)=>match u2a place zs (parts.toList.map fun q=>(q.1,ρ q.2)),(parts.toList.all fun q=>(ρ q.2).j0g h)with
    |some vs,true=> .ret (.agg vs)
    |_,_=> .fail
   |none=> .fail
 | .lookup t y z c=>u5a A P h t (ρ y) (ρ z) c
 | .slice t y lo hi mx=>match mx with
   |none=>v6b A P t (ρ y) (lo.map ρ) (hi.map ρ)
   |some _=> .fail
 | .makeInterface t y=>match P.underlying t,ρ y with
   |some (.struct _), .agg cs=>match y8n cs with
    |some ds=> .ret (.ifc t ds)
    |none=> .fail
   |some (.pointer _), .ptr b off=> .ret (.ifp t b off)
   |_,_=> .fail
 | .typeAssert y _ t ok=>match P.underlying t,ρ y,ok with
   |some (.struct _), .ifc t' cs,true=>match decide (t'=t)with
    |true=> .ret (.tup [.agg (cs.map .d), .d (.bool true)])
    |false=> .fail
   |_,_,_=> .fail
 | .makeFunc fn first caps=>match fn,first with
   | .func f,⟨[]⟩=> .ret (.fn f (caps.toList.map ρ))
   | .func f,⟨[y]⟩=>match ρ y,caps with
     | .ptr b off,⟨[]⟩=> .ret (.mv f b off)
     |_,_=> .fail
   |_,_=> .fail
 | .buildSlice t n parts=>match q3s P t n (parts.toList.map fun q=>(q.1,ρ q.2)),(parts.toList.all fun q=>(ρ q.2).j0g h)with
   |some (e,sz,vs),true=>match z3p P 9 e with
    |some ss=>match y7k ss sz n vs with
     |some rows=> .ret (.d (.sl sz rows))
     |none=> .fail
    |none=> .fail
   |_,_=> .fail
 | .call c=>match c with
   |⟨.builtin .len,⟨[y]⟩,ts⟩=>match ts[0]? with
    |some t=>q0z A P h t (ρ y)
    |none=> .fail
   |⟨.builtin .cap,⟨[y]⟩,ts⟩=>match ts[0]?,ρ y with
    |some t, .nils=>match P.underlying t with
     |some (.slice _)=> .ret (.d (.int .i64 0))
     |_=> .fail
    |_,_=> .fail
   |⟨.builtin .max,⟨[y,z]⟩,_⟩=>match ρ y,ρ z with
    | .d (.int k a), .d (.int k' b)=>match decide (k'=k)with
      |true=> .ret (.d (.int k (A.imax a b)))
      |false=> .fail
    |_,_=> .fail
   |⟨.builtin .min,⟨[y,z]⟩,_⟩=>match ρ y,ρ z with
    | .d (.int k a), .d (.int k' b)=>match decide (k'=k)with
      |true=> .ret (.d (.int k (A.imin a b)))
      |false=> .fail
    |_,_=> .fail
   |⟨.value q,⟨[y,z]⟩,_⟩=>match ρ q with
    | .fn f []=>match q8t P f,ρ y,ρ z with
      |some 0, .d (.str s), .d (.int .u8 c)=> .ret (.d (.int .i64 (A.sidx s c)))
      |some 1, .d (.str s), .d (.int .u8 c)=> .ret (.d (.int .i64 (A.scnt s c)))
      |_,_,_=> .fail
    |_=> .fail
   |_=> .fail
 |_=> .fail
end
section
variable {P : Program} {M : List Nat} {h h' h2 : List Box} {ρ : Operand -> V} {o : Oper} {x : V} {E : Env}
def y4n {s:Sh}{v:Option D}{x:D}(hk:(y6g s v).run E=some x):v=some x:=by
 cases s<;>simp only[y6g,Tree.run]at hk<;>obtain⟨n,h1,h2⟩:=a1l.1 hk<;>cases h2
 ·exact w4m h1
 ·exact w4n h1
 ·exact w4k h1
 ·exact w4l h1
def x9r (hE:E.Ok): ∀ {ss:List Sh} {cs:List D} {j:Nat} {xs:List D},(x7z sy ss cs j).run E=some xs->
  xs.length=ss.length/\ ∀(i:Nat) x,xs[i]? =some x->cs[j+i]? =some x
 | [],cs,j,xs,hk=>by cases hk;exact⟨rfl,by simp⟩
 |s::ss,cs,j,xs,hk=>by
  unfold x7z at hk;obtain⟨x,h1,hk⟩:=x0c hE hk;obtain⟨xs',h2,hk⟩:=x0c hE hk;cases hk;have h1:=y4n h1;obtain⟨h3,h4⟩:=x9r hE h2;refine⟨by simp[h3],fun i y hy=> ?_⟩
  cases i with
  |zero=>simp at hy;subst hy;simpa using(show cs[j]? =some x from h1)
  |succ i=>have:=h4 i y (by simpa using hy);rwa [show j+1+i=j+(i+1) by omega]at this
def u5b (hE:E.Ok){t:TypeId}{y:Operand}(hop:o.op= .load t y)(hk:(q3r sy P h t (ρ y)).run E=some x): ∀h2,Pre h h2->x0p P [] h2 h2 ρ o x:=by
 unfold q3r at hk;split at hk
 ·have hn:= ‹szO P t=some _›;have hu:= ‹(P.underlying t).isSome=true›;split at hk
  ·rename_i b off hy;split at hk
   ·rename_i bt vs hb;split at hk
    ·split at hk
     ·rename_i hle;cases hk;exact fun h2 hp=>z1t hop hy (hp.at hb nofun) hn (by simpa using hle) hu ‹y4c P t=_›
     ·cases hk
    ·split at hk
     ·rename_i v hv;cases hk;exact fun h2 hp=>z1u hop hy (hp.at hb nofun) hv hu ‹y4c P t=_›
     ·cases hk
   ·cases hk
  ·rename_i cs hy;split at hk
   ·split at hk
    ·rename_i hl;obtain⟨xs,hk1,hk⟩:=x0c hE hk;cases hk;obtain⟨h1,h3⟩:=x9r hE hk1;exact fun h2 hp=>z1r hop hy (fun i x hx=>by have:=h3 i x hx;rwa [a1z]at this) (by rw[hn,h1];simpa using(a0e hl).symm) hu ‹y4c P t=_›
    ·cases hk
   ·obtain⟨x,hk1,hk⟩:=x0c hE hk;cases hk;exact fun h2 hp=>z1s hop hy (y4n hk1) hu ‹y4c P t=_›
   ·cases hk
  ·rename_i b sz i off hy;split at hk
   ·rename_i e sz' rows hb;split at hk
    ·rename_i hsz _ _;have hsz:=a0e hsz;subst hsz;split at hk
     ·rename_i hl;obtain⟨hi,hk⟩:=x1b hk;obtain⟨xs,hk1,hk⟩:=x0c hE hk;cases hk;obtain⟨h1,h3⟩:=x9r hE hk1;exact fun h2 hp=>z1p hop hy (hp.at hb nofun) h3 (by rw[hn,h1];simpa using(a0e hl).symm) hu ‹y4c P t=_› (a0e hi)
     ·cases hk
    ·rename_i hsz _ _;have hsz:=a0e hsz;subst hsz;obtain⟨x,hk1,hk⟩:=x0c hE hk;cases hk;exact fun h2 hp=>z1q hop hy (hp.at hb nofun) (y4n hk1) hu ‹y4c P t=_›
    ·cases hk
   ·cases hk
  ·cases hk
 ·cases hk
def y9f {i n:Int}(h:sy.inr i n=true):0<=i/\i < n:=a0e h
def y0e {l r n:Int}(h:sy.cutok l r n=true):0<=l/\l<=r/\r<=n:=a0e h
def u1e {t:TypeId}{y z:Operand}(hop:o.op= .indexAddr t y z)(hk:(v8u sy P h t (ρ y) (ρ z)).run E=some x): ∀h2,Pre h h2->x0p P [] h2 h2 ρ o x:=by
 unfold v8u at hk;split at hk
 ·rename_i e sz kd i hel hz;split at hk
  ·rename_i sz' rows hy;split at hk
   ·rename_i hsz;have hsz:=a0e hsz;subst hsz;obtain⟨hi,hk⟩:=x1b hk;cases hk;have hi:=y9f hi;exact fun h2 hp=>z4b hop hel hy hz hi.1 hi.2
   ·cases hk
  ·rename_i b hy;split at hk
   ·rename_i e' sz' rows hb;split at hk
    ·rename_i hsz;have hsz:=a0e hsz;subst hsz;obtain⟨hi,hk⟩:=x1b hk;cases hk;have hi:=y9f hi;exact fun h2 hp=>z1v hop hel hy (hp.at hb nofun) hz hi.1 hi.2
    ·cases hk
   ·cases hk
  ·rename_i b sz' lo n hy;split at hk
   ·rename_i hsz;have hsz:=a0e hsz;subst hsz;obtain⟨hi,hk⟩:=x1b hk;cases hk;have hi:=y9f hi;exact fun h2 hp=>z1w hop hel hy hz hi.1 hi.2
   ·cases hk
  ·cases hk
 ·cases hk
def w7b (op:BinOp)(k:IntKind)(a b:Int):q7f sy op k a b=k8f op k a b:=by
 have e:decide (a=b)=(a == b):=by rw[a1g];simp
 cases op<;>simp only[q7f,k8f,sy,e]<;>rfl
def w7a (op:BinOp)(k:IntKind)(a b:Int):k6o sy op k a b=bitI op k a b:=by cases op<;>rfl
def w9e {m n:Int}(h:sy.bnot (sy.ieq m n)=true):m≠n:=by
 intro e;subst e;simp[sy]at h
def v3w (op:BinOp)(a b:BA):w1u sy op a b=w1v op a b:=by cases op<;>rfl
def x7m {op:BinOp}{t u:TypeId}{y:Operand}{b c:Bool}(hop:o.op= .binOp op t y (.const .nilIface) u)(hu:k7o P t=true)(h1:ρ y= .ifn b\/(b=false/\ ∃t cs,ρ y= .ifc t cs)\/ ∃t cs,ρ y= .ifo t b cs)(h2:ρ (.const .nilIface)= .ifn true)
  (hd:(match op with| .eql=>some b| .neq=>some (!b)|_=>none)=some c):x0p P [] h h ρ o (.d (.bool c)):=
 .pure fun g ρ' w hs hy=>by
  obtain⟨ms,hu⟩: ∃ms,P.underlying t=some (.interface ms):=by
   unfold k7o at hu;split at hu
   ·exact⟨_, ‹_›⟩
   ·cases hu
  have r1:Rep w g (ρ' y) (.ifn b):=by
   have r1:=hy y;rcases h1 with h1|⟨rfl,t,cs,h1⟩|⟨t,cs,h1⟩<;>rw[h1]at r1
   ·exact r1
   ·generalize ρ' y=v at r1;cases r1;exact .ifn1 _ _
   ·generalize ρ' y=v at r1;cases r1 with
    |ifo0=>exact .ifn0
    |ifo1=>exact .ifn1 _ _
  have r2:=hy (.const .nilIface);rw[h2]at r2;have e2:ρ' (.const .nilIface)= .nilIface:=by
   generalize ρ' (.const .nilIface)=v at r2;cases r2;rfl
  have q0:(Op.equal t .nilIface .nilIface).run P w= .ok true w:=by
   show(Op.equalIn (9999+1) t _ _).run P w=_;unfold Op.equalIn;simp only[Sem.run_bind,run_underlying hu,Result.andThen_ok,Sem.run_pure]
  have q1: ∀a v,(Op.equal t (.iface a v) .nilIface).run P w= .ok false w:=fun a v=>by
   show(Op.equalIn (9999+1) t _ _).run P w=_;unfold Op.equalIn;simp only[Sem.run_bind,run_underlying hu,Result.andThen_ok,Sem.run_pure]
  refine⟨.bool c,?_, .d (.bool _)⟩;generalize hv:ρ' y=v at r1;cases r1 with
  |ifn0=>cases op<;>cases hd<;>simp[execOp,hop,e2,hv,eqGuard_nil_constR,binOp,q0]
  |ifn1 a v=>cases op<;>cases hd<;>simp[execOp,hop,e2,hv,eqGuard,binOp,q1]
def v3v {op:BinOp}{t u:TypeId}{y z:Operand}(hop:o.op= .binOp op t y z u)(hk:(binT sy P op t (ρ y) (ρ z)).run E=some x): ∀h2,Pre h h2->x0p P [] h2 h2 ρ o x:=by
 unfold binT at hk;split at hk
 ·rename_i k n k' m hy hz;unfold intT at hk;split at hk
  ·obtain⟨hi,hk⟩:=x1b hk;cases hk;exact fun h2 hp=>v9b hop hy hz (a0e hi)
  ·obtain⟨hi,hk⟩:=x1b hk;cases hk;exact fun h2 hp=>v9a hop hy hz (a0e hi)
  ·split at hk
   ·rename_i hkk;have:=a0e hkk;subst this;obtain⟨hi,hk⟩:=x1b hk;cases hk;exact fun h2 hp=>v9d hop hy hz (w9e hi)
   ·cases hk
  ·split at hk
   ·rename_i hkk;have:=a0e hkk;subst this;obtain⟨hi,hk⟩:=x1b hk;cases hk;exact fun h2 hp=>v9c hop hy hz (w9e hi)
   ·cases hk
  ·split at hk
   ·rename_i hkk hd;have:=a0e hkk;subst this;cases hk;rw[w7b]at hd;exact fun h2 hp=>v2q hop hy hz hd
   ·rename_i hkk hd0 hd;have:=a0e hkk;subst this;cases hk;rw[w7a]at hd;exact fun h2 hp=>v2o hop hy hz hd
   ·cases hk
 ·rename_i s u' hy hz;split at hk
  ·obtain⟨hi,hk⟩:=x1b hk;cases hk;exact fun h2 hp=>v2r hop hy hz (a0e hi)
  ·split at hk
   ·rename_i c hc;cases hk;rw[v3w]at hc;exact fun h2 hp=>v2p hop hy hz hc
   ·cases hk
 ·rename_i c d hy hz;split at hk
  ·cases hk;exact fun h2 hp=>z5k hop hy hz ‹_› rfl
  ·cases hk;exact fun h2 hp=>z5k hop hy hz ‹_› rfl
  ·cases hk
 ·rename_i xs ys hy hz;split at hk
  ·rename_i cs ds h1 h2;split at hk
   ·rename_i ss ss' h3 h4;split at hk
    ·have he:=a0e ‹decide (ss'=ss)=true›;subst he;cases hk;exact fun h2' hp=>z5j hop (by rw[hy,x6k h1]) (by rw[hz,x6k h2]) ‹v5w P t _=true› h3 h4 rfl
    ·have he:=a0e ‹decide (ss'=ss)=true›;subst he;cases hk;exact fun h2' hp=>z5j hop (by rw[hy,x6k h1]) (by rw[hz,x6k h2]) ‹v5w P t _=true› h3 h4 rfl
    ·cases hk
   ·cases hk
  ·cases hk
 ·cases hk
def v0u (v:V)(k:Nat):w7l sy v k=addF v k:=by
 cases v<;>simp only[w7l,addF]
 cases k<;>simp[sy]
def q3v (h:List Box)(v:V):lenT sy h v=q3t h v:=by cases v<;>rfl
def u4a {y:Operand}{t:TypeId}{ts:Array TypeId}(hop:o.op= .call { callee:= .builtin .len,args:= #[y],argTypes:=ts })(ht:ts[0]? =some t)(hk:(q0z sy P h t (ρ y)).run E=some x):
  ∀h2,Pre h h2->x0p P [] h2 h2 ρ o x:=by
 unfold q0z at hk;rw[q3v]at hk;split at hk
 ·rename_i s n hv hu hn;cases hk;exact fun h2 hp=>u1m hop ht (u8y hp hn) (fun _ _=>hu) (fun hh=>(hh s hv).elim)
 ·cases hk
 ·rename_i hno;cases hk;exact fun h2 hp=>u1m hop ht (u8y hp ‹q3t h (ρ y)=some _›) (fun s hs=>(hno s hs).elim) (fun _=>⟨_, ‹P.underlying t=some (.slice _)›⟩)
 ·rename_i b _ _ hv _ _;split at hk
  ·cases hk;exact fun h2 hp=>v2n hop ht ‹v2f P t=some _› ‹ρ y= .map _› (hp.at ‹h[_]? =some _› nofun)
  ·cases hk
 ·cases hk
def z9m {t:TypeId}{y:Operand}{lo hi:Option Operand}(hop:o.op= .slice t y lo hi none)(hk:(v6b sy P t (ρ y) (lo.map ρ) (hi.map ρ)).run E=some x): ∀h2,Pre h h2->x0p P [] h2 h2 ρ o x:=by
 unfold v6b at hk;split at hk
 ·rename_i sz' rows hy;split at hk
  ·rename_i e sz l r hel hl hr;split at hk
   ·rename_i hsz;have:=a0e hsz;subst this;obtain⟨hi,hk⟩:=x1b hk;cases hk;have hi:=y0e hi;exact fun h2 hp=>u5l hop hel hy hl hr hi.1 hi.2.1 hi.2.2
   ·cases hk
  ·cases hk
 ·rename_i s hy;split at hk
  ·rename_i l r hu hl hr;obtain⟨hi,hk⟩:=x1b hk;cases hk;have hi:=y0e hi;exact fun h2 hp=>u1k hop hu hy hl hr hi.1 hi.2.1 hi.2.2
  ·cases hk
 ·rename_i hy;split at hk
  ·rename_i z l r hel hl hr;obtain⟨e,sz⟩:=z;obtain⟨hi,hk⟩:=x1b hk;cases hk;have hi:=y0e hi;exact fun h2 hp=>z3x hop hel hy hl hr (by omega) (by omega)
  ·cases hk
 ·cases hk
def z7d (hE:E.Ok){t:TypeId}{y z:Operand}{c:Bool}(hop:o.op= .lookup t y z c)(hk:(u5a sy P h t (ρ y) (ρ z) c).run E=some x): ∀h2,Pre h h2->x0p P [] h2 h2 ρ o x:=by
 unfold u5a at hk;split at hk
 ·rename_i e kk b k hm hy hz;split at hk
  ·rename_i kk' rows zv s hb hze hsh hf;split at hk
   ·rename_i hkk hzk;have:=a0e hkk;subst this;obtain⟨x,h1,hk⟩:=x0c hE hk;have h1:=y4n h1;cases h1;have:=fun h2 (hp:Pre h h2)=>u1l (c:=c) hop hy (hp.at hb nofun) hm hze hzk hz (u5u hf)
    cases c<;>cases hk<;>exact this
   ·cases hk
  ·cases hk
 ·cases hk
def v9x {f:FuncId}(hx:q8t P f=some 0): ∃fn,P.funcs[f]? =some fn/\fn.body=none/\fn.origin= "" /\fn.name= "internal/bytealg.IndexByteString" :=by
 unfold q8t at hx;split at hx
 ·rename_i fn hf;split at hx
  ·cases hx
  ·rename_i hb;split at hx
   ·rename_i h1 h2;exact⟨fn,hf,hb,eq_of_beq h1,eq_of_beq h2⟩
   ·cases hx
   ·cases hx
 ·cases hx
def v2w {f:FuncId}(hx:q8t P f=some 1): ∃fn,P.funcs[f]? =some fn/\fn.body=none/\fn.origin= "" /\fn.name= "internal/bytealg.CountString" :=by
 unfold q8t at hx;split at hx
 ·rename_i fn hf;split at hx
  ·cases hx
  ·rename_i hb;split at hx
   ·cases hx
   ·rename_i h1 _ h2;exact⟨fn,hf,hb,eq_of_beq h1,eq_of_beq h2⟩
   ·cases hx
 ·cases hx
def v2b {op:BinOp}{t u:TypeId}{y:Operand}(hop:o.op= .binOp op t y (.const .nilIface) u)(hu:k7o P t=true)(hk:(nilT sy op (ρ y) (ρ (.const .nilIface))).run E=some x):x0p P [] h h ρ o x:=by
 unfold nilT at hk;split at hk
 ·rename_i b h1 h2;cases hk;exact x7m hop hu (.inl h1) h2 rfl
 ·rename_i b h1 h2;cases hk;exact x7m hop hu (.inl h1) h2 rfl
 ·rename_i h1 h2;cases hk;exact x7m (b:=false) hop hu (.inr (.inl ⟨rfl,_,_,h1⟩)) h2 rfl
 ·rename_i h1 h2;cases hk;exact x7m (b:=false) hop hu (.inr (.inl ⟨rfl,_,_,h1⟩)) h2 rfl
 ·rename_i t b cs h1 h2;cases hk;exact x7m hop hu (.inr (.inr ⟨_,_,h1⟩)) h2 rfl
 ·rename_i t b cs h1 h2;cases hk;exact x7m hop hu (.inr (.inr ⟨_,_,h1⟩)) h2 rfl
 ·cases hk
def u1s {y:Operand}{xt t:TypeId}{fs:Array Field}{cs:List D}(hop:o.op= .typeAssert y xt t true)(hu:P.underlying t=some (.struct fs))(hy1:ρ y= .ifc t cs):x0p P [] h h ρ o (.tup [.agg (cs.map .d), .d (.bool true)]):=
 .pure fun g ρ' w hs hy=>by
  have hr:=hy y;rw[hy1]at hr;generalize hu0:ρ' y=u0 at hr;cases hr with
  |ifc _ us _ hl hr=>
   refine⟨.tuple #[.agg us, .bool true],?_, .tup _ _ rfl fun i u c h1 h2=> ?_⟩
   ·simp[execOp,hop,hu0,Instr.typeAssert,Sem.run_bind,run_underlying hu,Result.andThen_ok,Sem.run_pure]
   ·match i,h1,h2 with
    |0,h1,h2=>
     cases h1;cases h2;refine .agg us _ (by simpa using hl) fun i u c h1 h2=> ?_
     rw[a0o,a0n]at h2;obtain⟨x,hx,rfl⟩:=h2;exact .d (hr i u x h1 hx)
    |1,h1,h2=>
     cases h1;cases h2;exact .d (.bool true)
def z1n {t:TypeId}{y:Operand}{fs:Array Field}{cs:List V}{ds:List D}(hop:o.op= .makeInterface t y)(hu:P.underlying t=some (.struct fs))(hy1:ρ y= .agg cs)(hd:y8n cs=some ds):x0p P [] h h ρ o (.ifc t ds):=
 .pure fun g ρ' w hs hy=>by
  have hr:=hy y;rw[hy1]at hr;have e:=x6k hd;subst e;generalize hu0:ρ' y=u0 at hr;cases hr with
  |agg us _ hl hr=>
   refine⟨.iface t (.agg us),?_, .ifc t us ds (by simpa using hl) fun i u c h1 h2=> ?_⟩
   ·simp[execOp,hop,hu0,Instr.makeInterface,Sem.run_bind,run_underlying hu,Result.andThen_ok,Sem.run_pure]
   ·have:=hr i u (.d c) h1 (by rw[a0o,h2];rfl)
    cases this with
    |d h=>exact h
def y8j {t e:TypeId}{y:Operand}{b off:Nat}(hop:o.op= .makeInterface t y)(hu:P.underlying t=some (.pointer e))(hy1:ρ y= .ptr b off):x0p P [] h h ρ o (.ifp t b off):=
 .pure fun g ρ' w hs hy=>by
  have hr:=hy y;rw[hy1]at hr;generalize hu0:ρ' y=u0 at hr;cases hr with
  |ptr _ _ hb=>
   refine⟨.iface t (.pointer (some ⟨g.blk b,off,none⟩)),?_, .ifp t b off hb⟩;simp[execOp,hop,hu0,Instr.makeInterface,Sem.run_bind,run_underlying hu,Result.andThen_ok,Sem.run_pure]
def w6y {r:List D}(h:(byN r).isSome=true): ∃n,r= [.int .u8 n]/\byN r=some n:=by
 unfold byN at h ⊢;split at h
 ·exact⟨_,rfl,rfl⟩
 ·cases h
def u5p {s t:TypeId}{y:Operand}{rows:LL}(hop:o.op= .convert s t y)(hy1:ρ y= .d (.sl 1 rows))(hu:P.underlying t=some .string)(hb:q6t P s=true)(hi:sy.isby rows=true):x0p P [] h h ρ o (.d (.str (sy.bstr rows))):=
 .pure fun g ρ' w hs hy=>by
  obtain⟨e,hs1,he⟩: ∃e,P.underlying s=some (.slice e)/\P.underlying e=some (.int .u8):=by
   unfold q6t at hb;split at hb
   ·rename_i e h1;split at hb
    ·exact⟨e,h1, ‹_›⟩
    ·cases hb
   ·cases hb
  have hr:=hy y;rw[hy1]at hr;generalize hu0:ρ' y=u0 at hr;cases hr with
  |d hr=>
   refine⟨.string (sy.bstr rows),?_, .d (.str _)⟩;have run: ∀v,(convert s t u0).run P w= .ok v w->(execOp ρ' o).run P w= .ok (.value v) w:=fun v hv=>by
    simp[execOp,hop,hu0,hv,Result.andThen_ok]
   refine run _ ?_;cases hr with
   |slnil=>exact run_convert_bytes_nil w s e hs1 he 0 0 t hu
   |slemp a cap=>
    rw[run_convert_bytes_string w s t e _ 0 cap hs1 he hu,run_bytesToString w a 0 cap [] (by simpa using run_loadCells_list (P:=P) w a [] (fun j v hj=>by simp at hj))]
    rfl
   |sl blk off n cap _ _ U hn hcap hlen hZ hc hr=>
    have key: ∀i,i < n->w.cell? ⟨blk,off+i,none⟩=some (.int .u8 ((rows.map fun r=>(byN r).getD 0).getD i 0)):=fun i hi'=>by
     have hx:rows[i]? =some rows[i]:=a0b (by omega)
     obtain⟨m,h1,h2⟩:=w6y (a0l.1 hi rows[i] (a1j (by omega)))
     have hc':=hc i rows[i] 0 (.int .u8 m) hx (by rw[h1];rfl)
     have hr':=hr i rows[i] 0 (.int .u8 m) hx (by rw[h1];rfl)
     rw[show off+(i*1+0)=off+i by omega]at hc'
     rw[hc'];generalize U i 0=u at hr';cases hr';rw[a0i,a0o,hx,Option.map_some,Option.getD_some,h2,Option.getD_some]
    exact run_convert_bytes_arg w s e hs1 he blk off n cap (rows.map fun r=>(byN r).getD 0) (by simpa using hn) key t hu
def y6i (hE:E.Ok)(hk:(w8x sy P h ρ o).run E=some x): ∀h2,Pre h h2->x0p P [] h2 h2 ρ o x:=by
 unfold w8x at hk;split at hk
 ·rename_i y hop;cases hk;exact fun h2 hp=>y2u (.inl hop)
 ·rename_i y hop;cases hk;exact fun h2 hp=>y2u (.inr hop)
 ·rename_i c a b hop;split at hk
  ·rename_i t ht;have:=fun h2 (hp:Pre h h2)=>v2l (P:=P) (h:=h2) hop ht
   cases t<;>cases hk<;>exact this
  ·cases hk
 ·rename_i t y hop;exact u5b hE hop hk
 ·rename_i s y f hop;split at hk
  ·rename_i k hfk;rw[v0u]at hk;split at hk
   ·rename_i v hv;cases hk;exact fun h2 hp=>z1y hop hfk hv
   ·cases hk
  ·cases hk
 ·rename_i t y f hop;split at hk
  ·rename_i fs cs hu hy;split at hk
   ·rename_i fl hf;split at hk
    ·rename_i ha hx;split at hk
     ·rename_i v hv;cases hk;exact fun h2 hp=>u5n hop hu hf hy hx ha hv
     ·cases hk
    ·rename_i n ha hx hn;split at hk
     ·rename_i hd;cases hk;exact fun h2 hp=>u1o hop hu hf hy hx ha hn (a0e hd)
     ·cases hk
    ·cases hk
   ·cases hk
  ·cases hk
 ·rename_i t y z hop;split at hk
  ·rename_i k i0 hak;split at hk
   ·rename_i kd i hz;split at hk
    ·rename_i hi;have hi:=a0e hi;subst hi;rw[v0u]at hk;split at hk
     ·rename_i v hv;cases hk;exact fun h2 hp=>z1x hop hak hz hv
     ·cases hk
    ·cases hk
   ·cases hk
  ·exact u1e hop hk
 ·rename_i t y z hop;split at hk
  ·rename_i s kd i hu hy hz;obtain⟨hi,hk⟩:=x1b hk;cases hk;have hi:=y9f hi;exact fun h2 hp=>u1n hop hu hy hz hi.1 hi.2
  ·cases hk
 ·rename_i op t y z u hop;split at hk
  ·rename_i hu;exact fun h2 hp=>v2b hop hu hk
  ·exact v3v hop hk
 ·rename_i op t y hop;split at hk
  ·rename_i b hy;cases hk;exact fun h2 hp=>v9e hop hy
  ·rename_i k n hy;cases hk;exact fun h2 hp=>v9f hop hy
  ·cases hk
 ·rename_i s t y hop;split at hk
  ·rename_i k' k n hu hs hy;cases hk;exact fun h2 hp=>u5o hop hy hu hs
  ·rename_i rows hu hs hy;split at hk
   ·rename_i hb;obtain⟨hi,hk⟩:=x1b hk;cases hk;exact fun h2 hp=>u5p hop hy hu hb hi
   ·cases hk
  ·cases hk
 ·rename_i y i hop;split at hk
  ·rename_i cs hy;split at hk
   ·rename_i v hv;cases hk;exact fun h2 hp=>z7n hop hy hv
   ·cases hk
  ·cases hk
 ·rename_i y hop;split at hk
  ·rename_i hs;cases hk;exact fun h2 hp=>z3y hop hs
  ·cases hk
 ·rename_i t parts hop;split at hk
  ·rename_i zs place hpl;split at hk
   ·rename_i vs hfv hlv;cases hk;refine fun h2 hp=>u5q hop hpl hfv ?_
    rw[a0l]at hlv ⊢;exact fun q hq=>y4y hp (hlv q hq)
   ·cases hk
  ·cases hk
 ·rename_i t y z c hop;exact z7d hE hop hk
 ·rename_i t y lo hi mx hop;split at hk
  ·exact z9m hop hk
  ·cases hk
 ·rename_i t y hop;split at hk
  ·rename_i hu hy;split at hk
   ·rename_i hd;cases hk;exact fun h2 hp=>z1n hop hu hy hd
   ·cases hk
  ·rename_i hu hy;cases hk;exact fun h2 hp=>y8j hop hu hy
  ·cases hk
 ·rename_i y xt t ok hop;split at hk
  ·rename_i hu hy;split at hk
   ·rename_i hd;have hd:=a0e hd;subst hd;cases hk;exact fun h2 hp=>u1s hop hu hy
   ·cases hk
  ·cases hk
 ·rename_i fn first caps hop;split at hk
  ·cases hk;exact fun h2 hp=>z3z hop
  ·split at hk
   ·rename_i hy;cases hk;exact fun h2 hp=>z1o hop hy
   ·cases hk
  ·cases hk
 ·rename_i t n parts hop;split at hk
  ·rename_i e sz vs hlit hl;split at hk
   ·rename_i ss hss;split at hk
    ·rename_i rows hr;cases hk;refine fun h2 hp=>y6v hop hlit ?_ hr
     rw[a0l]at hl ⊢;exact fun q hq=>y4y hp (hl q hq)
    ·cases hk
   ·cases hk
  ·cases hk
 ·rename_i c hop;split at hk
  ·rename_i y ts;split at hk
   ·rename_i t ht;exact u4a hop ht hk
   ·cases hk
  ·rename_i y ts;split at hk
   ·rename_i t ht hy;split at hk
    ·rename_i e hu;cases hk;exact fun h2 hp=>u1r hop ht hu hy
    ·cases hk
   ·cases hk
  ·rename_i y z ts;split at hk
   ·rename_i k a k' b hy hz;split at hk
    ·rename_i hkk;have:=a0e hkk;subst this;cases hk;exact fun h2 hp=>v9h hop hy hz
    ·cases hk
   ·cases hk
  ·rename_i y z ts;split at hk
   ·rename_i k a k' b hy hz;split at hk
    ·rename_i hkk;have:=a0e hkk;subst this;cases hk;exact fun h2 hp=>v9g hop hy hz
    ·cases hk
   ·cases hk
  ·split at hk
   ·rename_i f hq;split at hk
    ·rename_i s c hx hy hz;cases hk;obtain⟨fn,hf,hb,ho,hn⟩:=v9x hx;obtain⟨k1,k2⟩:=w5p hn ho;exact fun h2 hp=>u1p hop hq hf hb (by rw[hn];rfl) k1 k2 hy hz (fun w=>Lib.run_indexByteString s c w)
    ·rename_i s c hx hy hz;cases hk;obtain⟨fn,hf,hb,ho,hn⟩:=v2w hx;obtain⟨k1,k2⟩:=w5q hn ho;exact fun h2 hp=>u1p hop hq hf hb (by rw[hn];rfl) k1 k2 hy hz (fun w=>Lib.run_countString s c w)
    ·cases hk
   ·cases hk
  ·cases hk
 ·cases hk
end
section
variable {P : Program} {M : List Nat} {h h' : List Box}
def inv (L:List Nat)(n b:Nat):Option Nat:=match L.idxOf? b with
 |some i=>some i
 |none=>if b < n then none else some (L.length+(b - n))
def q4i {L:List Nat}{n:Nat}(hnd:L.Nodup)(hlt: ∀b∈L,b < n)(i:Nat):inv L n (ext L n i)=some i:=by
 unfold inv ext;cases h:L[i]? with
 |some b=>simp only[y5i hnd h]
 |none=>
  have hi:L.length<=i:=List.getElem?_eq_none_iff.1 h;have hno:L.idxOf? (n+(i - L.length))=none:=by
   cases hq:L.idxOf? (n+(i - L.length))with
   |none=>rfl
   |some j=>have:=hlt _ (a0j (x5b hq));omega
  simp only[hno];rw[if_neg (by omega)]
  congr 1;omega
def q4v {L:List Nat}{n b i:Nat}(hlt: ∀b∈L,b < n)(h:inv L n b=some i):ext L n i=b:=by
 unfold inv at h;unfold ext;cases hq:L.idxOf? b with
 |some j=>
  rw[hq]at h;cases h;rw[x5b hq]
 |none=>
  rw[hq]at h;simp only at h;split at h
  ·cases h
  ·cases h;rw[a2c (by omega)]
   simp only;omega
def u9d {L:List Nat}{n b:Nat}(h:inv L n b=none):b ∉ L/\b < n:=by
 unfold inv at h;cases hq:L.idxOf? b with
 |some j=>rw[hq]at h;cases h
 |none=>
  rw[hq]at h;simp only at h;split at h
  ·exact⟨y6s hq,by assumption⟩
  ·cases h
def x6s (h:List Box)(L M':List Nat)(h':List Box):List Box:=
 (h.zipIdx.map fun xb=>match L.idxOf? xb.2 with
  |some i=>(h'.getD i .gone).ren (ext L h.length)
  |none=>xb.1.kill M')++(h'.drop L.length).map (Box.ren (ext L h.length))
def w7i {L M':List Nat}{b:Nat}{x:Box}(hlt: ∀b∈L,b < h.length)(hl:L.length<=h'.length)(hx:(x6s h L M' h')[b]? =some x):
  (∃i y,inv L h.length b=some i/\h'[i]? =some y/\x=y.ren (ext L h.length))\/(inv L h.length b=none/\ ∃y,h[b]? =some y/\x=y.kill M'):=by
 unfold x6s at hx
 by_cases hb:b < h.length
 ·rw[List.getElem?_append_left (by simpa using hb),a0o,a0n]at hx
  obtain⟨⟨y,k⟩,hy,rfl⟩:=hx;rw[List.getElem?_zipIdx,a0n]at hy;obtain⟨y',hy',he⟩:=hy;simp only[a1z,Prod.mk.injEq]at he;obtain⟨rfl,rfl⟩:=he;simp only;cases hq:L.idxOf? b with
  |some i=>
   left
   have hi:i < L.length:=(a0c.1 (x5b hq)).1;refine⟨i,h'[i]'(by omega),by unfold inv;rw[hq],a0b (by omega),?_⟩
   simp only;rw[a0i,a0b (by omega)];rfl
  |none=>
   right
   refine⟨?_,y',hy',rfl⟩;unfold inv;rw[hq];simp only;rw[if_pos hb]
 ·left
  rw[List.getElem?_append_right (by simp;omega),a0o,a0n]at hx
  obtain⟨y,hy,rfl⟩:=hx;simp only[a1f,List.length_zipIdx]at hy;rw[a1x]at hy;refine⟨_,y,?_,hy,rfl⟩;have hq:L.idxOf? b=none:=by
   cases hq:L.idxOf? b with
   |none=>rfl
   |some j=>exact absurd (hlt _ (a0j (x5b hq))) hb
  unfold inv;rw[hq];simp only;rw[if_neg hb]
def q4c (M':List Nat)(x:Box)(g:Gh)(b:Nat):(x.kill M').at? g b=x.at? g b:=by cases x<;>rfl
def x9d (P:Program)(M:List Nat)(f:FuncId)(args:List V)(h:List Box)(R:Ending->World->Gh->Prop)(h':List Box):Prop:=
 ∀(g:Gh) (w:World) (us:List Value),SimH g h w->z5x w g us args->
  Calls P f us.toArray w fun e w'=> ∃g',R e w' g'/\Keep M g h w g' h' w'
def RetV (r:V)(e:Ending)(w:World)(g:Gh):Prop:= ∃u,e= .returned u/\Rep w g u r
def q7u (p:V)(e:Ending)(w:World)(g:Gh):Prop:= ∃u,e= .panicked [{ v:=u,recovered:=false }]/\Rep w g u p
def x9d.ret {f:FuncId}{args:List V}{r:V}:x9d P M f args h (RetV r) h'↔y1b P M f args h r h':=by
 constructor
 ·intro hc g w us hs hu;refine(hc g w us hs hu).mono ?_
  rintro e w' ⟨g',⟨u,he,hr⟩,hk⟩
  exact⟨u,g',he,hr,hk⟩
 ·intro hc g w us hs hu;refine(hc g w us hs hu).mono ?_
  rintro e w' ⟨u,g',he,hr,hk⟩
  exact⟨g',⟨u,he,hr⟩,hk⟩
def x9d.j2d {f:FuncId}{args:List V}{L:List Nat}{R R':Ending->World->Gh->Prop}(hL:x8u h L args=true)
  (hR: ∀(g g':Gh) e w,(∀b o,g.Z b o->g'.Z b o)->(∀b,b < g.n->g'.blk (ext L h.length b)=g.blk b/\g'.val (ext L h.length b)=g.val b/\ext L h.length b < g'.n/\g'.cd (ext L h.length b)=g.cd b)->R e w g->R' e w g')
  (hc:x9d P M f (args.map (V.ren (tau L))) (x5j h L) R h'):
  x9d P (M.map (ext L h.length)) f args h R' (x6s h L (M.map (ext L h.length)) h'):=by
 obtain⟨q1,q2,q3,q4⟩:=y7o hL;intro g w us hs hu;generalize hσe:ext L h.length=σ;generalize hMe:M.map σ=M'
 let g2:Gh:= { Z:=g.Z,n:=L.length,blk:=fun i=>g.blk (σ i),val:=fun i=>g.val (σ i),cd:=fun i=>g.cd (σ i) }
 have hσ2: ∀b,b < g2.n->g2.blk b=g.blk (σ b)/\g2.val b=g.val (σ b)/\g2.cd b=g.cd (σ b):=fun b _=>⟨rfl,rfl,rfl⟩
 have hσL: ∀ {i b:Nat},L[i]? =some b->σ i=b:=fun hi=>by rw[<-hσe];simp[ext,hi]
 have hbox: ∀(i:Nat) x,(x5j h L)[i]? =some x-> ∃b y,L[i]? =some b/\σ i=b/\h[b]? =some y/\y.inB L=true/\x=y.ren (tau L)/\i < L.length:=by
  intro i x hx;simp only[x5j,a0o,a0n]at hx;obtain⟨b,hb,rfl⟩:=hx;have hlt:=q2 b (a0j hb);refine⟨b,h[b],hb,hσL hb,a0b hlt,?_,?_,(a0c.1 hb).1⟩
  ·have:=q4 b (a0j hb)
   rwa [a0i,a0b hlt]at this
  ·rw[a0i,a0b hlt];rfl
 have hat2: ∀(i:Nat) (y:Box),(y.ren (tau L)).at? g2 i=y.at? g (σ i):=fun i y=>by cases y<;>rfl
 have hown2: ∀k,x2r g2 (x5j h L) k-> ∃b y,b∈L/\h[b]? =some y/\y.at? g b=some k:=by
  rintro k ⟨i,x,hx,hk'⟩
  obtain⟨b,y,hb,e,hy,_,rfl,_⟩:=hbox i x hx;rw[hat2,e]at hk';exact⟨b,y,a0j hb,hy,hk'⟩
 have hown2': ∀k,x2r g2 (x5j h L) k->x2r g h k:=fun k hk=>by
  obtain⟨b,y,_,hy,hk'⟩:=hown2 k hk;exact⟨b,y,hy,hk'⟩
 have hs2:SimH g2 (x5j h L) w:=by
  refine⟨by simp[x5j,g2],fun i x hx=> ?_,fun i j x y k hx hy hkx hky=> ?_,fun k o hk' hz=>hs.zsep k o (hown2' k hk') hz,hs.zlt,hs.tab⟩
  ·obtain⟨b,y,hb,e,hy,hin,rfl,hi⟩:=hbox i x hx;refine v0p (g:=g) (g0:=g2) (σ:=σ) rfl hσ2 hi (Box.j1a hin) ?_;rw[<-hσe,Box.j0q hin,hσe,e];exact hs.rep b y hy
  ·obtain⟨b,y',hb,e,hy',_,rfl,_⟩:=hbox i x hx;obtain⟨c,z',hc,e',hz',_,rfl,_⟩:=hbox j y hy;rw[hat2,e]at hkx;rw[hat2,e']at hky;have:=hs.sep b c y' z' k hy' hz' hkx hky;subst this;have a1:=y5i q1 hb;have a2:=y5i q1 hc;rw[a1]at a2;exact Option.some.inj a2
 have hu2:z5x w g2 us (args.map (V.ren (tau L))):=by
  refine⟨by rw[a1f];exact hu.1,fun i u v h1 h2=> ?_⟩
  rw[a0o,a0n]at h2;obtain⟨v0,hv0,rfl⟩:=h2;have hin:v0.inB L=true:=by
   have: ∀ {cs:List V},V.j1n L cs=true-> ∀c∈cs,c.inB L=true:=by
    intro cs
    induction cs with
    |nil=>intro _ c hc;simp at hc
    |cons d ds ih=>
     intro hd c hc;have hd:(d.inB L&&V.j1n L ds)=true:=hd;rw[a0g]at hd;rcases a1n.1 hc with rfl|hc
     ·exact hd.1
     ·exact ih hd.2 c hc
   exact this q3 v0 (a0j hv0)
  refine z6n (g:=g) (g0:=g2) (σ:=σ) rfl hσ2 (hu.2 i u v0 h1 hv0) ?_ (V.j1a hin);rw[<-hσe,V.j0q hin]
 refine(hc g2 w us hs2 hu2).mono ?_
 rintro e0 w' ⟨g3,hru,hk⟩
 have hn3:g3.n=h'.length:=hk.heap.n;have hl3:L.length<=h'.length:=by rw[<-hn3];exact hk.le.n
 have hgn:g.n=h.length:=hs.n
 let g4:Gh:= { Z:=g3.Z,n:=h.length+(h'.length - L.length),blk:=fun b=>match inv L h.length b with
  |some i=>g3.blk i
  |none=>g.blk b,val:=fun b=>match inv L h.length b with
  |some i=>g3.val i
  |none=>g.val b,cd:=fun b=>match inv L h.length b with
  |some i=>g3.cd i
  |none=>g.cd b }
 have hie: ∀i,inv L h.length (σ i)=some i:=fun i=>by rw[<-hσe];exact q4i q1 q2 i
 have hei: ∀ {b i:Nat},inv L h.length b=some i->σ i=b:=fun hb=>by rw[<-hσe];exact q4v q2 hb
 have hσ4: ∀b,b < g3.n->g4.blk (σ b)=g3.blk b/\g4.val (σ b)=g3.val b/\σ b < g4.n/\g4.cd (σ b)=g3.cd b:=by
  intro i hi;refine⟨by simp only[g4,hie],by simp only[g4,hie],?_,by simp only[g4,hie]⟩
  show σ i < h.length+(h'.length - L.length);rw[<-hσe];unfold ext;cases hq:L[i]? with
  |some b=>have:=q2 b (a0j hq);simp only;omega
  |none=>have:=List.getElem?_eq_none_iff.1 hq;simp only;omega
 have h4o: ∀b,inv L h.length b=none->g4.blk b=g.blk b/\g4.val b=g.val b/\g4.cd b=g.cd b:=fun b hb=>by
  refine⟨?_,?_,?_⟩<;>simp only[g4,hb]
 have hMb: ∀b,inv L h.length b=none->b ∉ M':=by
  intro b hb hm;rw[<-hMe,a2b]at hm;obtain⟨i,_,rfl⟩:=hm;rw[hie]at hb;cases hb
 have hle:g.Le (· ∈M') g4:=by
  refine⟨hk.le.Z,by show g.n<=h.length+_;omega,fun b hb hm=> ?_,fun b hb hm=> ?_,fun b hb=> ?_⟩
  ·cases hq:inv L h.length b with
   |none=>exact(h4o b hq).1
   |some i=>
    have he:=hei hq;have hi:i < L.length:=by
     have:=hσ4
     by_cases hi:i < L.length
     ·exact hi
     ·exfalso;rw[<-hσe]at he;unfold ext at he;rw[a2c (by omega)]at he
      simp only at he;omega
    simp only[g4,hq];rw[hk.le.blk i hi (fun him=>hm (by rw[<-hMe,<-he];exact List.mem_map_of_mem him))]
    show g.blk (σ i)=g.blk b;rw[he]
  ·cases hq:inv L h.length b with
   |none=>exact(h4o b hq).2.1
   |some i=>
    have he:=hei hq;have hi:i < L.length:=by
     by_cases hi:i < L.length
     ·exact hi
     ·exfalso;rw[<-hσe]at he;unfold ext at he;rw[a2c (by omega)]at he
      simp only at he;omega
    simp only[g4,hq];rw[hk.le.val i hi (fun him=>hm (by rw[<-hMe,<-he];exact List.mem_map_of_mem him))]
    show g.val (σ i)=g.val b;rw[he]
  ·cases hq:inv L h.length b with
   |none=>exact(h4o b hq).2.2
   |some i=>
    have he:=hei hq;have hi:i < L.length:=by
     by_cases hi:i < L.length
     ·exact hi
     ·exfalso;rw[<-hσe]at he;unfold ext at he;rw[a2c (by omega)]at he
      simp only at he;omega
    simp only[g4,hq];rw[hk.le.cd i hi];show g.cd (σ i)=g.cd b;rw[he]
 have ho:Over M' w g w' g4:=⟨hle,fun b o hz=>hk.fr.cell (hs.zlt b o hz) (fun hk'=>hs.zsep b o (hown2' b hk') hz)⟩
 have hout: ∀ {b:Nat} {y:Box} {k:Nat},inv L h.length b=none->h[b]? =some y->y.at? g b=some k-> ¬x2r g2 (x5j h L) k:=by
  intro b y k hb hy hk' hO;obtain⟨c,z,hc,hz,hkz⟩:=hown2 k hO;have:=hs.sep b c y z k hy hz hk' hkz;subst this;exact(u9d hb).1 hc
 have hat4: ∀ {b:Nat} (y:Box),inv L h.length b=none->(y.kill M').at? g4 b=y.at? g b:=by
  intro b y hb;rw[q4c];obtain⟨e1,e2,_⟩:=h4o b hb;cases y<;>simp only[Box.at?,e1,e2]
 have hat3: ∀ {b i:Nat} (y:Box),inv L h.length b=some i->i < g3.n->(y.ren σ).at? g4 b=y.at? g3 i:=by
  intro b i y hb hi;rw[<-hei hb];exact k0u σ (hσ4 i hi).1 (hσ4 i hi).2.1 y
 have hA: ∀ {b:Nat} {x:Box},(x6s h L M' h')[b]? =some x->(∃i y,inv L h.length b=some i/\h'[i]? =some y/\x=y.ren σ)\/(inv L h.length b=none/\ ∃y,h[b]? =some y/\x=y.kill M'):=fun hx=>by
  rw[<-hσe];exact w7i q2 hl3 hx
 refine⟨g4,hR g3 g4 e0 w' (fun _ _ hz=>hz) (by rw[hσe];exact hσ4) hru,⟨?_,hle,hk.fr.mono hown2',fun b o hz=> ?_,?_⟩⟩
 ·refine⟨?_,fun b x hx=> ?_,fun b c x y k hx hy hkx hky=> ?_,?_,hk.heap.zlt,hk.heap.tab⟩
  ·show h.length+(h'.length - L.length)=_;simp[x6s]
  ·rcases hA hx with⟨i,y,hb,hy,rfl⟩|⟨hb,y,hy,rfl⟩
   ·have hi:i < g3.n:=by rw[hn3];exact(a0c.1 hy).1
    rw[<-hei hb];exact q2o (g:=g3) (g':=g4) (σ:=σ) (fun _ _ hz=>hz) hσ4 hi (hk.heap.rep i y hy)
   ·exact x1r.over ho (by rw[hgn];exact(u9d hb).2) (hMb b hb) (fun k hk'=>hk.fr.block k ((hs.rep b y hy).lt hk') (hout hb hy hk')) (hs.rep b y hy)
  ·rcases hA hx with⟨i,x',hb,hx',rfl⟩|⟨hb,x',hx',rfl⟩<;>rcases hA hy with⟨j,y',hc',hy',rfl⟩|⟨hc',y',hy',rfl⟩
   ·rw[hat3 x' hb (by rw[hn3];exact(a0c.1 hx').1)]at hkx
    rw[hat3 y' hc' (by rw[hn3];exact(a0c.1 hy').1)]at hky
    have:=hk.heap.sep i j x' y' k hx' hy' hkx hky;subst this;rw[<-hei hb,<-hei hc']
   ·rw[hat3 x' hb (by rw[hn3];exact(a0c.1 hx').1)]at hkx
    rw[hat4 y' hc']at hky;exfalso;rcases hk.own k ⟨i,x',hx',hkx⟩with h1|h1
    ·exact hout hc' hy' hky h1
    ·have:=(hs.rep c y' hy').lt hky;omega
   ·rw[hat3 y' hc' (by rw[hn3];exact(a0c.1 hy').1)]at hky
    rw[hat4 x' hb]at hkx;exfalso;rcases hk.own k ⟨j,y',hy',hky⟩with h1|h1
    ·exact hout hb hx' hkx h1
    ·have:=(hs.rep b x' hx').lt hkx;omega
   ·rw[hat4 x' hb]at hkx;rw[hat4 y' hc']at hky;exact hs.sep b c x' y' k hx' hy' hkx hky
  ·rintro k o ⟨b,x,hx,hkx⟩ hz
   rcases hA hx with⟨i,x',hb,hx',rfl⟩|⟨hb,x',hx',rfl⟩
   ·rw[hat3 x' hb (by rw[hn3];exact(a0c.1 hx').1)]at hkx
    exact hk.heap.zsep k o ⟨i,x',hx',hkx⟩ hz
   ·rw[hat4 x' hb]at hkx;rcases hk.znew k o hz with h1|h1|h1
    ·exact hs.zsep k o ⟨b,x',hx',hkx⟩ h1
    ·have:=(hs.rep b x' hx').lt hkx;omega
    ·exact hout hb hx' hkx h1
 ·rcases hk.znew b o hz with h1|h1|h1
  ·exact .inl h1
  ·exact .inr (.inl h1)
  ·exact .inr (.inr (hown2' b h1))
 ·rintro k ⟨b,x,hx,hkx⟩
  rcases hA hx with⟨i,x',hb,hx',rfl⟩|⟨hb,x',hx',rfl⟩
  ·rw[hat3 x' hb (by rw[hn3];exact(a0c.1 hx').1)]at hkx
   rcases hk.own k ⟨i,x',hx',hkx⟩with h1|h1
   ·exact .inl (hown2' k h1)
   ·exact .inr h1
  ·rw[hat4 x' hb]at hkx;exact .inl ⟨b,x',hx',hkx⟩
def y1b.j2d {f:FuncId}{args:List V}{L:List Nat}{r:V}(hL:x8u h L args=true)(hc:y1b P M f (args.map (V.ren (tau L))) (x5j h L) r h'):
  y1b P (M.map (ext L h.length)) f args h (r.ren (ext L h.length)) (x6s h L (M.map (ext L h.length)) h'):=
 x9d.ret.1 (x9d.j2d hL (fun _ _ _ _ hz hσ ⟨u,he,hr⟩=>⟨u,he,u4n hz hσ hr⟩) (x9d.ret.2 hc))
def x9d.j2h {f:FuncId}{args:List V}{L:List Nat}{p:V}(hL:x8u h L args=true)(hc:x9d P M f (args.map (V.ren (tau L))) (x5j h L) (q7u p) h'):
  x9d P (M.map (ext L h.length)) f args h (q7u (p.ren (ext L h.length))) (x6s h L (M.map (ext L h.length)) h'):=
 x9d.j2d hL (fun _ _ _ _ hz hσ ⟨u,he,hr⟩=>⟨u,he,u4n hz hσ hr⟩) hc
end
structure CfgO where
 inl:List FuncId
 mint:List FuncId
 osl:List Nat:=[]
 dead:List FuncId:=[]
 own:List (Nat × List (Nat × TypeId)):=[]
 stop:List Nat:=[]
def v7n (p:V):V:= .tup [.tup [],p]
def y1l:V->Option V
 | .tup [.tup [],p]=>some p
 |_=>none
inductive Callee where
 |fn (f:FuncId)
 |yld (b:Nat) (R:RecI)
section
variable (A : Sy) (P : Program)
def y9o (h:List Box)(t:TypeId)(a b:V):Tree (List Nat × List Box × V):=
 match elT P t with
 |some (e,sz,by_,z)=>match decide (z.cells.size=sz),decide (0 < sz),z9o h sz b with
  |true,true,some news=>match a with
   | .own c=>match h[c]? with
     |some (.arr e' sz' rows)=>match decide (e'=e),decide (sz'=sz)with
      |true,true=>chk (A.fits rows news by_) (.ret ([c],(h.map (Box.kill [c])).set c (.arr e sz (A.rapp rows news)), .own c))
      |_,_=> .fail
     |_=> .fail
   | .nils=>chk (A.fits [] news by_) (.ret ([],h++[.arr e sz news], .own h.length))
   |_=> .fail
  |_,_,_=> .fail
 |none=> .fail
def isFul (h:List Box):V->Bool
 | .own c=>match h[c]? with
   |some (.ful ..)=>true
   |_=>false
 |_=>false
def z8p (h:List Box)(t:TypeId)(a b:V):Tree (List Nat × List Box × V):=match elT P t,a with
 |some (e,sz,by_,z), .own c=>match h[c]?,decide (z.cells.size=sz/\0 < sz),z9o h sz b with
  |some (.ful sz' rows),true,some news=>match decide (sz'=sz)with
   |true=>chk (A.ilt 0 (A.rlen news)) (chk (A.fits rows news by_) (.ret ([],h++[.arr e sz (A.rapp rows news)], .own h.length)))
   |false=> .fail
  |_,_,_=> .fail
 |_,_=> .fail
def y7e (h:List Box)(t:TypeId)(a b:V):Tree (List Nat × List Box × V):=match isFul h a with
 |true=>z8p A P h t a b
 |false=>y9o A P h t a b
def fulT (h:List Box)(t:TypeId)(v r m:V):Tree (List Nat × List Box × V):=match v with
 | .d (.sl sz' rows)=>match elO P t,y3k 0 (some r),y3k 0 (some m)with
   |some (_,sz),some r,some m=>match decide (sz'=sz)with
    |true=>chk (A.ieq r m) (chk (A.cutok 0 r (A.rlen rows)) (.ret ([],h++[.ful sz (A.cut rows 0 r)], .own h.length)))
    |false=> .fail
   |_,_,_=> .fail
 |_=> .fail
def z4n (h:List Box)(t:TypeId)(a v:V):Tree (List Box):=
 match v.j0f,v.j0g h with
 |some ns,true=>match a with
  | .ptr b off=>match h[b]? with
    |some (.cells (.ty bt) vs)=>match ns.all (V.j1t h),decide (szO P t=some ns.length),decide (off+ns.length<=vs.length)with
     |true,true,true=> .ret (h.set b (.cells (.ty bt) (vs.take off++ns++vs.drop (off+ns.length))))
     |_,_,_=> .fail
    |_=> .fail
  | .pml b sz i off=>match h[b]?,z3p P 9 t with
    |some (.arr e sz' rows),some ss=>match decide (sz'=sz),v4d ss ns with
     |true,some ds=>match decide (szO P t=some ds.length),decide (off+ds.length<=sz)with
      |true,true=>chk (A.inrn i rows) (.ret (h.set b (.arr e sz (A.rput rows i off ds))))
      |_,_=> .fail
     |_,_=> .fail
    |_,_=> .fail
  |_=> .fail
 |_,_=> .fail
def isZ:Operand->Bool
 | .const (.int _ n)=>decide (n=0)
 |_=>false
def q3p (h:List Box)(t:TypeId)(z0:Bool)(a b:V):Tree (List Box × V):=
 match elT P t,a,b with
 |some (e,sz,by_,z), .d (.int _ n), .d (.int _ m)=>match z0 with
  |true=>chk (A.ieq n 0) (chk (A.mkok0 m by_) (.ret (h++[.arr e sz []], .own h.length)))
  |false=>match z3p P 9 e with
   |some ss=>match y4d ss z.cells.toList,decide (ss.length=sz)with
    |true,true=>chk (A.mkok n m by_) (.ret (h++[.arr e sz (A.rep n (ss.map y8b))], .own h.length))
    |_,_=> .fail
   |none=> .fail
 |_,_,_=> .fail
def q2r (h:List Box)(t:TypeId)(a q v:V):Tree (List Box):=
 match v2f P t,a,q with
 |some (e,kk), .map b, .d k=>match h[b]?,z3p P 9 e,kk.j2a k with
  |some (.mp kk' rows),some [s],true=>match decide (kk'=kk),v.toD s with
   |true,some x=> .ret (h.set b (.mp kk (A.mput k x rows)))
   |_,_=> .fail
  |_,_,_=> .fail
 |_,_,_=> .fail
def delT (h:List Box)(t:TypeId)(a q:V):Tree (List Box):=
 match v2f P t,a,q with
 |some (_,kk), .map b, .d k=>match h[b]?,kk.j2a k with
  |some (.mp kk' rows),true=>match decide (kk'=kk)with
   |true=> .ret (h.set b (.mp kk (A.mdel k rows)))
   |_=> .fail
  |_,_=> .fail
 |_,_,_=> .fail
def q4l (h:List Box)(t:TypeId)(a:V)(hi:Option V):Tree (List Nat × List Box × V):=
 match a with
 | .own b=>match h[b]? with
   |some (.arr e' sz rows)=>match elO P t,y3k (A.rlen rows) hi with
    |some (_,sz'),some r=>match decide (sz'=sz)with
     |true=>chk (A.cutok 0 r (A.rlen rows)) (.ret ([b],(h.map (Box.kill [b])).set b (.arr e' sz (A.head rows r)), .own b))
     |false=> .fail
    |_,_=> .fail
   |_=> .fail
 |_=> .fail
def v7a (h:List Box)(t:TypeId)(v:V):Tree (List Box × V):=match P.underlying t,v with
 |some .string, .d (.str s)=> .ret (h++[.cells .sit [.d (.str s), .d (.int .i64 0)]], .ptr h.length 0)
 |_,_=> .fail
def q3j (h:List Box)(v:V)(isS:Bool):Tree (List Box × V):=match v,isS with
 | .ptr b 0,true=>match h[b]? with
   |some (.cells .sit [.d (.str s), .d (.int .i64 p)])=> .ite (A.ilt p (A.slen s))
     (.ret (h.set b (.cells .sit [.d (.str s), .d (.int .i64 (A.add p (A.rwid s p)))]), .tup [.d (.bool true), .d (.int .i64 p), .d (.int .i32 (A.rdec s p))]))
     (.ret (h, .tup [.d (.bool false)]))
   |_=> .fail
 |_,_=> .fail
def z9x (h:List Box)(ρ:Operand->V)(o:Oper):Tree (List Nat × List Box × V):=(w8x A P h ρ o).bind fun x=> .ret ([],h,x)
def opT (h:List Box)(ρ:Operand->V)(o:Oper):Tree (List Nat × List Box × V):=
 match o.op with
 | .assign y=>match ρ y with
   | .nils=>match elO P o.type with
     |some (e,sz)=> .ret ([],h++[.arr e sz []], .own h.length)
     |none=> .ret ([],h, .nils)
   |v=> .ret ([],h,v)
 | .box t y=>match (ρ y).j0f,(ρ y).j0g h with
   |some vs,true=> .ret ([],h++[.cells (.ty t) vs], .ptr h.length 0)
   |_,_=> .fail
 | .alloc t=>match z3k P t with
   |some z=>match (x5l z).j0f with
    |some vs=> .ret ([],h++[.cells (.ty t) vs], .ptr h.length 0)
    |none=> .fail
   |none=> .fail
 | .store t y z=>(z4n A P h t (ρ y) (ρ z)).bind fun h'=> .ret ([],h', .any)
 | .makeSlice t y z=>(q3p A P h t (isZ y) (ρ y) (ρ z)).bind fun r=> .ret ([],r.1,r.2)
 | .makeMap t r=>match r,v2f P t with
   |none,some (_,kk)=> .ret ([],h++[.mp kk []], .map h.length)
   |_,_=> .fail
 | .mapUpdate t y z r=>(q2r A P h t (ρ y) (ρ z) (ρ r)).bind fun h'=> .ret ([],h', .any)
 | .insert t y z r=>(q2r A P h t (ρ y) (ρ z) (ρ r)).bind fun h'=> .ret ([],h', .any)
 | .buildSlice t n parts=>match q3s P t n (parts.toList.map fun q=>(q.1,ρ q.2)),(parts.toList.all fun q=>(ρ q.2).j0g h)with
   |some (e,sz,vs),true=>match z3p P 9 e with
    |some ss=>match y7k ss sz n vs,decide (n<=16777216)with
     |some rows,true=> .ret ([],h++[.arr e sz rows], .own h.length)
     |_,_=> .fail
    |none=> .fail
   |_,_=> .fail
 | .call c=>match c with
   |⟨.builtin .append,⟨[y,z]⟩,⟨[t,t']⟩⟩=>match decide (t'=t)with
    |true=>y7e A P h t (ρ y) (ρ z)
    |false=> .fail
   |⟨.builtin .delete,⟨[y,z]⟩,⟨[t,_]⟩⟩=>(delT A P h t (ρ y) (ρ z)).bind fun h'=> .ret ([],h', .any)
   |_=>z9x A P h ρ o
 | .range t y=>(v7a P h t (ρ y)).bind fun r=> .ret ([],r.1,r.2)
 | .next i s=>(q3j A h (ρ i) s).bind fun r=> .ret ([],r.1,r.2)
 | .slice t y lo hi mx=>match ρ y,lo,mx with
   | .own _,none,none=>q4l A P h t (ρ y) (hi.map ρ)
   |v,none,some m=>match hi with
    |some r=>fulT A P h t v (ρ r) (ρ m)
    |none=> .fail
   |_,_,_=>z9x A P h ρ o
 |_=>z9x A P h ρ o
def u4w:List TypeId->List D->Option (List V)
 | [],[]=>some []
 | [],_::_=>none
 |t::ts,ds=>match z3p P 9 t,y4c P t with
  |some ss,true=>match decide (ss.length<=ds.length),u4w ts (ds.drop ss.length)with
   |true,some vs=>some (.agg ((ds.take ss.length).map .d)::vs)
   |_,_=>none
  |some [_],false=>match ds with
   |d::ds=>match u4w ts ds with
    |some vs=>some (.d d::vs)
    |none=>none
   | []=>none
  |_,_=>none
def mkV (ts:List TypeId)(ds:List D):Option V:=match u4w P ts ds with
 |some [v]=>some v
 |some vs=>some (.tup vs)
 |none=>none
def shR:List TypeId->Option (List Sh)
 | []=>some []
 |t::ts=>match z3p P 9 t,shR ts with
  |some a,some b=>some (a++b)
  |_,_=>none
def Sh.flat:Sh->Bool
 | .sl _=>false
 |_=>true
def kvT (f:FuncId)(vs:List V):Tree V:=match Nat.beq f gP,vs with
 |true,[.d (.str s), .d (.int .i64 a), .d (.int .i64 b)]=>match decide (a=10/\b=64)with
  |true=>chk (A.ile (A.slen s) 1000000) (.ret (.tup [.d (.int .i64 (A.pnum s)), .ifn (A.pok s)]))
  |false=> .fail
 |_,_=> .fail
def KV (P:Program):Prop:= ∀s:BA,s.size<=1000000->y8o P gP [.d (.str s), .d (.int .i64 10), .d (.int .i64 64)] (.tup [.d (.int .i64 (z9w s)), .ifn (w8u s)])
def u2u (f:FuncId)(vs:List V)(ts:List TypeId):Tree V:=match shR P ts with
 |some ss=> .call f vs fun ds=>(x7z A ss ds 0).bind fun xs=>match mkV P ts xs with
  |some v=> .ret v
  |none=> .fail
 |none=>kvT A f vs
def q8k (t:TypeId)(v:V):Option (List D):=match z3p P 9 t,y4c P t,v with
 |some ss,true, .agg cs=>v4d ss cs
 |some [s],false,v=>match v.toD s with
  |some x=>some [x]
  |none=>none
 |_,_,_=>none
def can1 (t:TypeId)(v:V):V:=match q8k P t v,y4c P t with
 |some ds,true=> .agg (ds.map .d)
 |some [d],false=> .d d
 |_,_=>v
def u3u:List TypeId->List V->List V
 |t::ts,v::vs=>can1 P t v::u3u ts vs
 |_,vs=>vs
def w8w (f:FuncId):List TypeId:=match gG.contains f with
 |true=>[]
 |false=>match P.funcs[f]? with
  |some fn=>fn.params.toList
  |none=>[]
def x5z (P:Program)(ρ:Operand->V)(o:Oper):Option (FuncId × List V):=match o.op with
 | .call ⟨.value y,args,_⟩=>match z8n (match y with
   | .func f=> .fn f []
   |y=>ρ y) (args.toList.map ρ)with
   |some (f,vs)=>match q8t P f with
    |none=>some (f,vs)
    |some _=>none
   |none=>none
 |_=>none
def q0s (ρ:Operand->V)(o:Oper):Option (Nat × RecI × List V):=match o.op with
 | .call ⟨.value y,args,_⟩=>match ρ y with
   | .yld b R=>some (b,R,args.toList.map ρ)
   |_=>none
 |_=>none
variable (ent : Callee -> List V -> List Box -> Tree (List Nat × V × List Box)) (C : CfgO) (n0 : Nat) (M0 : List Nat)
def z0q (s:VSt)(o:Oper)(f:FuncId):Tree VSt:=
 let s1:=s.frz (fzl s o)
 match x5z P s1.get o,z3o P f with
 |some (_,vs0),some ts=>match u3u P (w8w P f) vs0 with
  |vs=>match vs.all V.j0e with
  |true=>match C.mint.contains f with
   |true=>match ts with
    | [t]=>match elO P t with
      |some (e,sz)=> .mint f vs e sz fun rows=> .ret (s1.next [] (s1.h++[.arr e sz rows]) o.dst (.own s1.h.length))
      |none=> .fail
    |_=> .fail
   |false=>match shR P ts with
    |some ss=>match ss.all Sh.flat with
     |true=>(u2u A P f vs ts).bind fun v=> .ret (s.next [] s.h o.dst v)
     |false=>(u2u A P f vs ts).bind fun v=> .ret (s1.next [] s1.h o.dst v)
    |none=>(u2u A P f vs ts).bind fun v=> .ret (s1.next [] s1.h o.dst v)
  |false=> .fail
 |_,_=> .fail
def v5x (s:VSt)(o:Oper):Tree (Option V × VSt):=match x5z P s.get o with
 |some (f,vs)=>match C.inl.contains f,z3o P f with
  |true,some _=>(ent (.fn f) vs s.h).bind fun r=>match okM n0 M0 r.1 with
   |true=>match y1l r.2.1 with
    |none=> .ret (none,s.next r.1 r.2.2 o.dst r.2.1)
    |some p=> .ret (some p,s.next r.1 r.2.2 none .any)
   |false=> .fail
  |_,_=>(z0q A P C s o f).bind fun s'=> .ret (none,s')
 |none=>match o.op with
  | .panic y=>match s.get y with
    | .ifc t cs=> .ret (some (.ifc t cs),s)
    |_=> .fail
  |_=>
   let s1:=s.frz (fzl s o)
   (opT A P s1.h s1.get o).bind fun r=>match okM n0 M0 r.1 with
    |true=> .ret (none,s1.next r.1 r.2.1 o.dst r.2.2)
    |false=> .fail
def w3p (s:VSt)(o:Oper):Tree (Option V × VSt):=match z1a o,q0s s.get o with
 |true,some (b,R,vs)=>(ent (.yld b R) vs s.h).bind fun r=>match okM n0 M0 r.1 with
  |true=> .ret (none,s.next r.1 r.2.2 o.dst r.2.1)
  |false=> .fail
 |true,none=>v5x A P ent C n0 M0 s o
 |false,_=> .fail
def mintB (P:Program):VSt->List (Nat × Nat × TypeId)->VSt
 |s,[]=>s
 |s,(b,off,t)::l=>match s.h[b]?,elO P t with
  |some (.cells k vs),some (e,sz)=>match vs[off]? with
   |some .nils=>mintB P ⟨s.t,(s.h.set b (.cells k (vs.set off (.own s.h.length))))++[.arr e sz []]⟩ l
   |_=>mintB P s l
  |none,some (e,sz)=>match s.t[off]? with
   |some .nils=>mintB P ⟨s.t.set off (.own s.h.length),s.h++[.arr e sz []]⟩ l
   |_=>mintB P s l
  |_,_=>mintB P s l
def mintP (P:Program):VSt->List (Nat × Nat × Nat × Nat × TypeId)->VSt
 |s,[]=>s
 |s,(b,off,b2,off2,t)::l=>match s.h[b]?,s.h[b2]?,elO P t,decide (b=b2)with
  |some (.cells k vs),some (.cells k2 vs2),some (e,sz),false=>match vs[off]?,vs2[off2]? with
   |some .nils,some .nils=>mintP P ⟨s.t,((s.h.set b (.cells k (vs.set off (.own s.h.length)))).set b2 (.cells k2 (vs2.set off2 (.own s.h.length))))++[.arr e sz []]⟩ l
   |_,_=>mintP P s l
  |_,_,_,_=>mintP P s l
def k8e (P:Program)(t:TypeId):V->Option V
 | .nils=>match elO P t with
   |some (_,sz)=>some (.d (.sl sz []))
   |none=>none
 | .ifn true=>match z3p P 9 t with
   |some ss=>some (.ifo t true (ss.map y8b))
   |none=>none
 |_=>none
def datB (P:Program):VSt->List (Nat × Nat × TypeId)->VSt
 |s,[]=>s
 |s,(b,off,t)::l=>match s.h[b]? with
  |some (.cells k vs)=>match vs[off]? with
   |some (.own c)=>datB P (s.frz [c]) l
   |some v=>match k8e P t v with
    |some x=>datB P ⟨s.t,s.h.set b (.cells k (vs.set off x))⟩ l
    |none=>datB P s l
   |none=>datB P s l
  |none=>match s.t[off]? with
   |some (.own c)=>datB P (s.frz [c]) l
   |some v=>match k8e P t v with
    |some x=>datB P ⟨s.t.set off x,s.h⟩ l
    |none=>datB P s l
   |none=>datB P s l
  |_=>datB P s l
def w4g (s:VSt)(o:Oper):List (Nat × Nat × TypeId):=match o.dst with
 |some d=>match C.own.lookup d with
  |some l=>l.map fun q=>(s.h.length,q.1,q.2)
  |none=>[]
 |none=>[]
def forceD.{v}{β:Type v}(x:D)(K:D->β):β:=match x with
 | .int k n=>K (.int k n)
 | .bool b=>K (.bool b)
 | .str s=>K (.str s)
 | .sl sz rows=>K (.sl sz rows)
def forceV.{v}{β:Type v}(x:V)(K:V->β):β:=match x with
 | .any=>K .any
 | .nils=>K .nils
 | .d x=>forceD x fun x=>K (.d x)
 | .agg cs=>K (.agg cs)
 | .tup cs=>K (.tup cs)
 | .own b=>K (.own b)
 | .ptr b off=>K (.ptr b off)
 | .mv f b off=>K (.mv f b off)
 | .ifp f b off=>K (.ifp f b off)
 | .pel cs=>K (.pel cs)
 | .pml b sz i off=>K (.pml b sz i off)
 | .nilp=>K .nilp
 | .fn f cs=>K (.fn f cs)
 | .nilf=>K .nilf
 | .ifn b=>K (.ifn b)
 | .ifc t cs=>K (.ifc t cs)
 | .ifo t b cs=>K (.ifo t b cs)
 | .map b=>K (.map b)
 | .yld b R=>K (.yld b R)
 | .osl b s l n=>K (.osl b s l n)
def forceL.{v}{β:Type v}:List V->(List V->β)->β
 | [],K=>K []
 |v::vs,K=>forceV v fun v'=>forceL vs fun vs'=>K (v'::vs')
def forceB.{v}{β:Type v}(x:Box)(K:Box->β):β:=match x with
 | .gone=>K .gone
 | .mp kk rows=>K (.mp kk rows)
 | .cells t vs=>forceL vs fun vs'=>K (.cells t vs')
 | .arr e sz rows=>K (.arr e sz rows)
 | .ful sz rows=>K (.ful sz rows)
def forceH.{v}{β:Type v}:List Box->(List Box->β)->β
 | [],K=>K []
 |v::vs,K=>forceB v fun v'=>forceH vs fun vs'=>K (v'::vs')
def forceSp.{u,v}{α:Type u}{β:Type v}:List α->(List α->β)->β
 | [],K=>K []
 |v::vs,K=>forceSp vs fun vs'=>K (v::vs')
def x5t {β:Type}(s:VSt)(K:VSt->Tree β):Tree β:=forceL s.t fun t=>forceH s.h fun h=>K ⟨t,h⟩
def k9f (o:Oper):Bool:=match o.op with
 | .move _=>true
 | .pick .. =>true
 | .load .. =>true
 | .fieldAddr .. =>true
 | .indexAddr .. =>true
 | .index .. =>true
 | .binOp .. =>true
 | .unOp .. =>true
 | .convert .. =>true
 | .extract .. =>true
 | .nilCheck _=>true
 | .lookup .. =>true
 | .call ⟨.builtin .len,_,_⟩=>true
 | .call ⟨.builtin .max,_,_⟩=>true
 | .call ⟨.builtin .min,_,_⟩=>true
 | .call ⟨.value (.func f),_,_⟩=>match C.inl.contains f,z3o P f with
   |false,some ts=>match shR P ts with
    |some ss=>ss.all Sh.flat
    |none=>false
   |_,_=>false
 |_=>false
def u4k (d:Nat):List Oper->Option Nat
 | []=>none
 |o::os=>match k9f P C o with
  |true=>match o.op,o.guard,o.dst with
   | .pick (.tmp d') _ _,none,some _=>match decide (d'=d)with
     |true=>some 1
     |false=>(u4k d os).map (· +1)
   |_,_,_=>(u4k d os).map (· +1)
  |false=>none
def k0r (ops:Array Oper)(o:Oper)(os:List Oper):Option Nat:=match o.dst,o.guard,os with
 |some d,none,o2::_=>match o2.guard with
  |some (j,_)=>match decide (j+(os.length+1)=ops.size)with
   |true=>u4k P C d os
   |false=>none
  |none=>none
 |_,_,_=>none
def y4i (s:VSt)(o:Oper):Tree V:=match z1a o with
 |false=> .fail
 |true=>match x5z P s.get o with
 |some (f,_)=>match x5z P (s.frz (fzl s o)).get o,z3o P f with
  |some (_,vs0),some ts=>match u3u P (w8w P f) vs0 with
   |vs=>match vs.all V.j0e,shR P ts with
    |true,some ss=>match ss.all Sh.flat with
     |true=>u2u A P f vs ts
     |false=> .fail
    |_,_=> .fail
  |_,_=> .fail
 |none=>w8x A P s.h s.get o
def v1l (ops:Array Oper):List Oper->VSt->Tree VSt
 | [],s=> .ret s
 |o::os,s=>
  let exec:VSt->Tree VSt:=fun s=>(y4i A P s o).bind fun x=>x5t (s.next [] s.h o.dst x) (v1l ops os)
  let pass:VSt->Tree VSt:=fun s=>x5t (s.next [] s.h o.dst (.tup [])) (v1l ops os)
  match o.guard with
  |none=>exec s
  |some (j,want)=>match (ops[j]?).bind (·.dst)with
   |some t=>match s.t[t]? with
    |some (.d (.bool c))=>match want with
     |true=> .ite c (exec (s.j1p t true)) (pass (s.j1p t false))
     |false=> .ite c (pass (s.j1p t true)) (exec (s.j1p t false))
    |some (.tup [])=>pass s
    |_=> .fail
   |none=> .fail
def y7y (t:List V):List Oper->List V
 | []=>t
 |o::os=>y7y (match o.dst with
  |some d=>t.set d .any
  |none=>t) os
def y3u (d:Nat):List Oper->Nat
 | []=>d
 |o::os=>y3u (o.dst.getD d) os
def u0c (ops:Array Oper):Nat->List Oper->VSt->Tree (Option V × VSt)
 |_,[],s=> .ret (none,s)
 |k+1,_::os,s=>u0c ops k os s
 |0,o::os,s=>
  let exec:VSt->Tree (Option V × VSt):=fun s=>(w3p A P ent C n0 M0 s o).bind fun q=>match q.1 with
   |some p=> .ret (some p,q.2)
   |none=>x5t (mintB P q.2 (w4g C s o)) fun s'=>match k0r P C ops o os with
    |some L=> .cut ((v1l A P ops (os.take L) s').bind fun s2=>match s2.t[y3u 0 (os.take L)]? with
      |some (.d (.bool b))=> .ret (.inl [.bool b])
      |_=> .fail) fun ds=> .cB (A.cell ds 0) fun b=>x5t ⟨(y7y s'.t (os.take L)).set (y3u 0 (os.take L)) (.d (.bool b)),s'.h⟩ (u0c ops L os)
    |none=>u0c ops 0 os s'
  let pass:VSt->Tree (Option V × VSt):=fun s=>x5t (s.next [] s.h o.dst (.tup [])) (u0c ops 0 os)
  match o.guard with
  |none=>exec s
  |some (j,want)=>match (ops[j]?).bind (·.dst)with
   |some t=>match s.t[t]? with
    |some (.d (.bool c))=>match want with
     |true=> .ite c (exec (s.j1p t true)) (pass (s.j1p t false))
     |false=> .ite c (pass (s.j1p t true)) (exec (s.j1p t false))
    |some (.tup [])=>pass s
    |_=> .fail
   |none=> .fail
end
section
variable {P : Program} {M : List Nat} {h h' h2 : List Box} {ρ : Operand -> V} {o : Oper} {x : V} {E : Env} {r : List Nat × List Box × V}
def z2g {a b:LL}{k:Nat}(h:sy.fits a b k=true):(a.length+b.length)<=maxLen/\(a.length+b.length)*k<=140737488355328:=by
 have h:(a.length+b.length)*(k+1)<=140737488355328:=a0e h;have h1:(a.length+b.length)*k<=(a.length+b.length)*(k+1):=Nat.mul_le_mul_left _ (by omega)
 have h2:(a.length+b.length)<=(a.length+b.length)*(k+1):=Nat.le_mul_of_pos_right _ (by omega)
 exact⟨by simp only[maxLen];omega,by omega⟩
def y5t {y z:Operand}{ts:Array TypeId}{t:TypeId}(hop:o.op= .call { callee:= .builtin .append,args:= #[y,z],argTypes:=ts })(hts:ts= #[t,t])
  (hk:(y7e sy P h t (ρ y) (ρ z)).run E=some r):x0p P r.1 h r.2.1 ρ o r.2.2:=by
 unfold y7e at hk;split at hk
 ·unfold z8p at hk;split at hk
  ·rename_i e sz by_ zv c hel hy;split at hk
   ·rename_i sz' rows news hb hq hrows;obtain⟨q1,q2⟩:=a0e hq;split at hk
    ·rename_i hd;have hd:=a0e hd;subst hd;obtain⟨hn,hk⟩:=x1b hk;obtain⟨hf,hk⟩:=x1b hk;cases hk;obtain⟨b1,b2⟩:=z2g hf;have hn:(0:Int) < news.length:=a0e hn;exact z2a hop hts hel q1 q2 hy hb hrows (by omega) b1 b2
    ·cases hk
   ·cases hk
  ·cases hk
 unfold y9o at hk;split at hk
 ·rename_i e sz by_ zv hel;split at hk
  ·rename_i news hc1 hc2 hrows;have hc1:=a0e hc1;have hc2:=a0e hc2;split at hk
   ·rename_i c hy;split at hk
    ·rename_i e' sz' rows hb;split at hk
     ·rename_i q1 q2;have q1:=a0e q1;have q2:=a0e q2;subst q1;subst q2;obtain⟨hf,hk⟩:=x1b hk;cases hk;obtain⟨b1,b2⟩:=z2g hf;exact u1t hop hts hel hc1 hc2 hy hb hrows b1 b2
     ·cases hk
    ·cases hk
   ·rename_i hy;obtain⟨hf,hk⟩:=x1b hk;cases hk;obtain⟨b1,b2⟩:=z2g hf;exact z1z hop hts hel hc1 hc2 hy hrows (by simpa using b1) (by simpa using b2)
   ·cases hk
  ·cases hk
 ·cases hk
def y7i {t:TypeId}{y z:Operand}(hop:o.op= .store t y z)(hk:(z4n sy P h t (ρ y) (ρ z)).run E=some h'):x0p P [] h h' ρ o .any:=by
 unfold z4n at hk;split at hk
 ·rename_i ns hn hl;split at hk
  ·rename_i b off hy;split at hk
   ·rename_i bt vs hb;split at hk
    ·rename_i c1 c2 c3;cases hk;exact y2e hop hy hb hn c1 (a0e c2) (a0e c3) hl
    ·cases hk
   ·cases hk
  ·rename_i b sz i off hy;split at hk
   ·rename_i e sz' rows ss hb hss;split at hk
    ·rename_i ds c1 hd;have c1:=a0e c1;subst c1;split at hk
     ·rename_i c2 c3;obtain⟨hi,hk⟩:=x1b hk;cases hk;exact y2d hop hy hb (a0e hi) hn hd (a0e c2) (a0e c3) hl
     ·cases hk
    ·cases hk
   ·cases hk
  ·cases hk
 ·cases hk
def q0i (a:Int)(b:Nat)(h0:0<=a)(hab:a*(b+1)<=140737488355328):b*a.toNat<=281474976710656/\a.toNat<=maxLen:=by
 obtain⟨n,rfl⟩:=Int.eq_ofNat_of_zero_le h0;have hab':n*(b+1)<=140737488355328:=Int.ofNat_le.1 (by rw[Int.natCast_mul,Int.natCast_add];exact hab)
 have h1:n*b<=n*(b+1):=Nat.mul_le_mul_left _ (by omega)
 have h2:n<=n*(b+1):=Nat.le_mul_of_pos_right _ (by omega)
 rw[a0m,Nat.mul_comm];exact⟨by omega,by simp only[maxLen];omega⟩
def u4z {t:TypeId}{y z:Operand}{z0:Bool}{r:List Box × V}(hop:o.op= .makeSlice t y z)(hk:(q3p sy P h t z0 (ρ y) (ρ z)).run E=some r):x0p P [] h r.1 ρ o r.2:=by
 unfold q3p at hk;split at hk
 ·rename_i e sz by_ zv k1 n k2 m hel hy hz;split at hk
  ·obtain⟨hn,hk⟩:=x1b hk;obtain⟨hi,hk⟩:=x1b hk;cases hk;have hn:n=0:=a0e hn;subst hn;have hi:0<=m/\m*(by_+1)<=140737488355328:=a0e hi;obtain⟨b1,b2⟩:=q0i _ _ hi.1 hi.2;exact z7m hop hel hy hz hi.1 b1 b2
  ·split at hk
   ·rename_i ss hss;split at hk
    ·rename_i q1 q2;obtain⟨hi,hk⟩:=x1b hk;cases hk;have hi:n=m/\0<=n/\n*(by_+1)<=140737488355328:=a0e hi;obtain⟨b1,b2⟩:=q0i _ _ hi.2.1 hi.2.2;exact z4a hop hel q1 (a0e q2) hy hz hi.1 hi.2.1 b1 b2
    ·cases hk
   ·cases hk
 ·cases hk
def y6d {t:TypeId}{y z q:Operand}(hop:o.op= .mapUpdate t y z q\/o.op= .insert t y z q)(hk:(q2r sy P h t (ρ y) (ρ z) (ρ q)).run E=some h'):x0p P [] h h' ρ o .any:=by
 unfold q2r at hk;split at hk
 ·rename_i e kk b k hm hy hz;split at hk
  ·rename_i kk' rows s hb hsh hf;split at hk
   ·rename_i x hkk hx;have:=a0e hkk;subst this;cases hk;exact z1m hop hy hb hm hz (u5u hf) hx
   ·cases hk
  ·cases hk
 ·cases hk
def v3c {t t':TypeId}{y z:Operand}(hop:o.op= .call { callee:= .builtin .delete,args:= #[y,z],argTypes:= #[t,t'] })(hk:(delT sy P h t (ρ y) (ρ z)).run E=some h'):x0p P [] h h' ρ o .any:=by
 unfold delT at hk;split at hk
 ·rename_i e kk b k hm hy hz;split at hk
  ·rename_i kk' rows hb hf;split at hk
   ·rename_i hkk;have:=a0e hkk;subst this;cases hk;exact u1q hop hy hb hm hz (u5u hf)
   ·cases hk
  ·cases hk
 ·cases hk
def v2u {t:TypeId}{y q m:Operand}(hop:o.op= .slice t y none (some q) (some m))(hk:(fulT sy P h t (ρ y) (ρ q) (ρ m)).run E=some r):x0p P r.1 h r.2.1 ρ o r.2.2:=by
 unfold fulT at hk;split at hk
 ·rename_i sz' rows hy;split at hk
  ·rename_i e sz a b hel ha hb;split at hk
   ·rename_i hd;have hd:=a0e hd;subst hd;obtain⟨h1,hk⟩:=x1b hk;obtain⟨h2,hk⟩:=x1b hk;cases hk;have h1:a=b:=a0e h1;obtain⟨_,h3,h4⟩:=y0e h2;have:=v9i (h:=h) hop hel hy ha hb h1 h3 (by rw[<-h1];exact h4)
    exact this
   ·cases hk
  ·cases hk
 ·cases hk
def u5k {t:TypeId}{y:Operand}{hi:Option Operand}(hop:o.op= .slice t y none hi none)(hk:(q4l sy P h t (ρ y) (hi.map ρ)).run E=some r):x0p P r.1 h r.2.1 ρ o r.2.2:=by
 unfold q4l at hk;split at hk
 ·rename_i b hy;split at hk
  ·rename_i e' sz rows hb;split at hk
   ·rename_i e sz' r hel hr;split at hk
    ·rename_i hsz;have:=a0e hsz;subst this;obtain⟨hi,hk⟩:=x1b hk;cases hk;have hi:=y0e hi;exact z3w hop hel hy hb rfl hr rfl hi.2.1 hi.2.2
    ·cases hk
   ·cases hk
  ·cases hk
 ·cases hk
def z9q {t:TypeId}{y:Operand}{r:List Box × V}(hop:o.op= .range t y)(hk:(v7a P h t (ρ y)).run E=some r):x0p P [] h r.1 ρ o r.2:=by
 unfold v7a at hk;split at hk
 ·rename_i s hu hy;cases hk;exact u5m hop hu hy
 ·cases hk
def u4v {i:Operand}{s:Bool}{r:List Box × V}(hop:o.op= .next i s)(hk:(q3j sy h (ρ i) s).run E=some r):x0p P [] h r.1 ρ o r.2:=by
 unfold q3j at hk;split at hk
 ·rename_i b hy;split at hk
  ·rename_i s p hb;simp only[Tree.run]at hk;split at hk
   ·rename_i hc;cases hk;exact z1l hop hy hb (a0e hc)
   ·rename_i hc;cases hk;exact z1k hop hy hb (of_decide_eq_false hc)
  ·cases hk
 ·cases hk
def y1x (hE:E.Ok)(hk:(z9x sy P h ρ o).run E=some r):x0p P r.1 h r.2.1 ρ o r.2.2:=by
 unfold z9x at hk;obtain⟨x,h1,hk⟩:=x0c hE hk;cases hk;exact y6i hE h1 h (Pre.refl h)
def v7p (hE:E.Ok)(hk:(opT sy P h ρ o).run E=some r):x0p P r.1 h r.2.1 ρ o r.2.2:=by
 unfold opT at hk;split at hk
 ·rename_i y hop;split at hk
  ·rename_i hy;split at hk
   ·cases hk;exact v2m (.inr hop) hy
   ·cases hk;have:=y2u (P:=P) (h:=h) (ρ:=ρ) (.inr hop);rwa [hy]at this
  ·cases hk;exact y2u (.inr hop)
 ·rename_i t y hop;split at hk
  ·rename_i vs hv hl;cases hk;exact v9j hop hv hl
  ·cases hk
 ·rename_i t hop;split at hk
  ·rename_i z hz;split at hk
   ·rename_i vs hv;cases hk;exact y0w hop hz hv
   ·cases hk
  ·cases hk
 ·rename_i t y z hop;obtain⟨h1,q1,hk⟩:=x0c hE hk;cases hk;exact y7i hop q1
 ·rename_i t y z hop;obtain⟨h1,q1,hk⟩:=x0c hE hk;cases hk;exact u4z hop q1
 ·rename_i t r hop;split at hk
  ·cases hk;exact z7l hop
  ·cases hk
 ·rename_i t y z r hop;obtain⟨h1,q1,hk⟩:=x0c hE hk;cases hk;exact y6d (.inl hop) q1
 ·rename_i t y z r hop;obtain⟨h1,q1,hk⟩:=x0c hE hk;cases hk;exact y6d (.inr hop) q1
 ·rename_i t n parts hop;split at hk
  ·rename_i e sz vs hlit hl;split at hk
   ·rename_i ss hss;split at hk
    ·rename_i rows hr hn;cases hk;exact y1g hop hlit hl hr (by have:=a0e hn;simp only[maxLen];omega)
    ·cases hk
   ·cases hk
  ·cases hk
 ·rename_i c hop;split at hk
  ·rename_i y z t t';split at hk
   ·rename_i ht;have ht:=a0e ht;subst ht;exact y5t hop rfl hk
   ·cases hk
  ·obtain⟨h1,q1,hk⟩:=x0c hE hk;cases hk;exact v3c hop q1
  ·exact y1x hE hk
 ·rename_i t y hop;obtain⟨h1,q1,hk⟩:=x0c hE hk;cases hk;exact z9q hop q1
 ·rename_i i s hop;obtain⟨h1,q1,hk⟩:=x0c hE hk;cases hk;exact u4v hop q1
 ·rename_i t y lo hi mx hop;split at hk
  ·exact u5k hop hk
  ·split at hk
   ·exact v2u hop hk
   ·cases hk
  ·exact y1x hE hk
 ·exact y1x hE hk
def Keep.trans {M M':List Nat}{g g1 g2:Gh}{h h1 h2:List Box}{w w1 w2:World}(k1:Keep M g h w g1 h1 w1)(k2:Keep M' g1 h1 w1 g2 h2 w2):Keep (M++M') g h w g2 h2 w2:=by
 refine⟨k2.heap,⟨fun b o hz=>k2.le.Z b o (k1.le.Z b o hz),a1b k1.le.n k2.le.n,fun b hb hm=> ?_,fun b hb hm=> ?_,fun b hb=>(k2.le.cd b (a1c hb k1.le.n)).trans (k1.le.cd b hb)⟩,k1.fr.trans' k2.fr k1.own,fun b o hz=> ?_,fun k hk=> ?_⟩
 ·simp only[a1o,not_or]at hm;exact(k2.le.blk b (a1c hb k1.le.n) hm.2).trans (k1.le.blk b hb hm.1)
 ·simp only[a1o,not_or]at hm;exact(k2.le.val b (a1c hb k1.le.n) hm.2).trans (k1.le.val b hb hm.1)
 ·rcases k2.znew b o hz with q|q|q
  ·exact k1.znew b o q
  ·exact .inr (.inl (a1b k1.fr.size q))
  ·rcases k1.own b q with q|q
   ·exact .inr (.inr q)
   ·exact .inr (.inl q)
 ·rcases k2.own k hk with q|q
  ·exact k1.own k q
  ·exact .inr (a1b k1.fr.size q)
def x7u {w:World}{g:Gh}{n:Nat}{u:Value}{v:V}(hr:Rep w g u v):v.scB n=true->Rep w (g.cut n) u v:=by
 have aux: ∀(us:Array Value) (cs:List V),(∀(i:Nat) u c,us[i]? =some u->cs[i]? =some c->c.scB n=true->Rep w (g.cut n) u c)->V.scL n cs=true->
     ∀(i:Nat) u c,us[i]? =some u->cs[i]? =some c->Rep w (g.cut n) u c:=by
  intro us cs ih hs i u c hu hc;rw[z0g]at hs;exact ih i u c hu hc (a0l.1 hs c (a0j hc))
 induction hr with
 |any u=>intro _;exact .any u
 |nils=>intro _;exact .nils
 |d h=>intro _;exact .d h
 |agg us cs hl h ih=>intro hs;exact .agg us cs hl (aux us cs ih (by simpa[V.scB]using hs))
 |tup us cs hl h ih=>intro hs;exact .tup us cs hl (aux us cs ih (by simpa[V.scB]using hs))
 |fn f us cs hl h ih=>intro hs;exact .fn f us cs hl (aux us cs ih (by simpa[V.scB]using hs))
 |own b hb=>intro hs;exact .own (g:=g.cut n) b (show b < n by simpa[V.scB]using hs)
 |map b hb=>intro hs;exact .map (g:=g.cut n) b (show b < n by simpa[V.scB]using hs)
 |ptr b off hb=>intro hs;exact .ptr (g:=g.cut n) b off (show b < n by simpa[V.scB]using hs)
 |mv f b off hb=>intro hs;exact .mv (g:=g.cut n) f b off (show b < n by simpa[V.scB]using hs)
 |ifp f b off hb=>intro hs;exact .ifp (g:=g.cut n) f b off (show b < n by simpa[V.scB]using hs)
 |pml b sz i off hb=>intro hs;exact .pml (g:=g.cut n) b sz i off (show b < n by simpa[V.scB]using hs)
 |yld b R hb hc=>intro hs;exact .yld (g:=g.cut n) b R (show b < n by simpa[V.scB]using hs) hc
 |osl b sz lo k u hb hu=>intro hs;exact .osl (g:=g.cut n) b sz lo k u (show b < n by simpa[V.scB]using hs) hu
 |pel blk off cs U hZ hc hr=>intro _;exact .pel blk off cs U hZ hc hr
 |nilp=>intro _;exact .nilp
 |nilf=>intro _;exact .nilf
 |ifn0=>intro _;exact .ifn0
 |ifn1 t p=>intro _;exact .ifn1 t p
 |ifc t us cs hl h=>intro _;exact .ifc t us cs hl h
 |ifo0 t cs=>intro _;exact .ifo0 t cs
 |ifo1 t us cs hl h=>intro _;exact .ifo1 t us cs hl h
def q2m {w:World}{g:Gh}{n b:Nat}{x:Box}(hs:x.scB n=true)(hr:x1r w g b x):x1r w (g.cut n) b x:=by
 cases x with
 |gone=>trivial
 |mp kk rows=>exact hr
 |arr e sz rows=>exact hr
 |ful sz rows=>exact hr
 |cells t vs=>
  obtain⟨us,o,h1,h0,h2,h3⟩:=hr;refine⟨us,o,h1,h0,h2,fun i u v hu hv=>x7u (h3 i u v hu hv) ?_⟩
  have:vs.all (V.scB n)=true:=by rw[<-z0g];exact hs
  exact a0l.1 this v (a0j hv)
def Keep.j2o {M:List Nat}{g g1:Gh}{h h1:List Box}{w w1:World}(k:Keep M g h w g1 h1 w1){n:Nat}(hn:g.n<=n)(hn1:n<=h1.length)(hs:(h1.take n).all (Box.scB n)=true):Keep M g h w (g1.cut n) (h1.take n) w1:=by
 have hget: ∀(b:Nat) x,(h1.take n)[b]? =some x->h1[b]? =some x:=fun b x hx=>by
  rw[a1s]at hx;split at hx
  ·exact hx
  ·cases hx
 have hat: ∀(b:Nat) (x:Box),x.at? (g1.cut n) b=x.at? g1 b:=fun b x=>by cases x<;>rfl
 have hown: ∀q,x2r (g1.cut n) (h1.take n) q->x2r g1 h1 q:=fun q ⟨b,x,hx,hq⟩=>⟨b,x,hget b x hx,by rwa [hat]at hq⟩
 refine⟨⟨by simp[Gh.cut];omega,fun b x hx=>q2m (a0l.1 hs x (a0j hx)) (k.heap.rep b x (hget b x hx)),fun b c x y q hx hy h2 h3=> ?_,fun q o hq hz=>k.heap.zsep q o (hown q hq) hz,k.heap.zlt,k.heap.tab⟩,
  ⟨k.le.Z,hn,k.le.blk,k.le.val,k.le.cd⟩,k.fr,k.znew,fun q hq=>k.own q (hown q hq)⟩
 rw[hat]at h2 h3;exact k.heap.sep b c x y q (hget b x hx) (hget c y hy) h2 h3
def Keep.j2e {g:Gh}{h:List Box}{w w':World}(hs:SimH g h w)(hfr:Fr (fun _=>False) w w'):Keep [] g h w g h w':=by
 have ho:Over [] w g w' g:=⟨Gh.Le.refl _ _,fun b o hz=>hfr.cell (hs.zlt b o hz) (fun h=>h)⟩
 refine⟨⟨hs.n,fun b x hx=> ?_,hs.sep,hs.zsep,fun b o hz=>a1c (hs.zlt b o hz) hfr.size,hs.tab.over ho⟩,Gh.Le.refl _ _,hfr.mono (fun _ h=>h.elim),fun b o hz=> .inl hz,fun k hk=> .inl hk⟩
 have:=x1r.over ho (by rw[hs.n];exact(a0c.1 hx).1) (by simp) (fun k hk=>hfr.block k ((hs.rep b x hx).lt hk) (fun h=>h)) (hs.rep b x hx)
 rwa [Box.j0c]at this
def v4a.j2s {f:FuncId}{args:List V}{e:TypeId}{sz:Nat}{rows:LL}(hc:v4a P f args e sz rows):y8o P f args (.d (.sl sz rows)):=by
 intro g w us hs hu;refine(hc g w us hs hu).mono ?_
 rintro _ w' ⟨u,g',rfl,hr,hk⟩
 obtain⟨g2,hk2,hr2⟩:=z2e hk.heap (b:=0) rfl;have hn:g.n=0:=hs.n;have:=(hk.trans hk2).j2o (n:=0) (by omega) (by omega) rfl
 exact⟨u,g2.cut 0,rfl,x7u (hr2 u _ hr) rfl,by simpa using this⟩
def D.flat:D->Bool
 | .sl .. =>false
 |_=>true
def V.j1l:V->Bool
 | .d x=>x.flat
 |_=>false
def V.j1i:V->Bool
 | .agg cs=>cs.all V.j1l
 |v=>v.j1l
def V.j1z:V->Bool
 | .tup cs=>cs.all V.j1i
 |v=>v.j1i
def v9s {w w':World}{Z Z':Nat->Nat->Prop}{u:Value}{x:D}(hf:x.flat=true)(hr:RepD w Z u x):RepD w' Z' u x:=by
 cases hr<;>first|exact .int _ _|exact .bool _|exact .str _|simp[D.flat]at hf
def u1x {w w':World}{g g':Gh}{u:Value}{v:V}(hf:v.j1l=true)(hr:Rep w g u v):Rep w' g' u v:=by
 cases hr<;>first|(simp[V.j1l]at hf;done)|skip
 rename_i x h;exact .d (v9s hf h)
def z2f {w w':World}{g g':Gh}{u:Value}{v:V}(hf:v.j1i=true)(hr:Rep w g u v):Rep w' g' u v:=by
 cases v with
 |agg cs=>
  cases hr with
  |agg us cs hl h=>exact .agg us cs hl fun i u c hu hc=>u1x (a0l.1 hf c (a0j hc)) (h i u c hu hc)
 |d x=>exact u1x hf hr
 |_=>simp[V.j1i,V.j1l]at hf
def v9r {w w':World}{g g':Gh}{u:Value}{v:V}(hf:v.j1z=true)(hr:Rep w g u v):Rep w' g' u v:=by
 cases v with
 |tup cs=>
  cases hr with
  |tup us cs hl h=>exact .tup us cs hl fun i u c hu hc=>z2f (a0l.1 hf c (a0j hc)) (h i u c hu hc)
 |agg cs=>exact z2f hf hr
 |d x=>exact z2f hf hr
 |_=>simp[V.j1z,V.j1i,V.j1l]at hf
def w4h {t:TypeId}{v:V}{w:World}{g:Gh}{u:Value}(hr:Rep w g u v):Rep w g u (can1 P t v):=by
 unfold can1;split
 ·rename_i ds h1 h2;unfold q8k at h1;split at h1
  ·rename_i ss cs _ _;obtain⟨q1,q2⟩:=y1p h1;cases hr with
   |agg us _ hl hr=>
    refine .agg us _ (by simp[hl,q1]) fun i u c hu hc=> ?_
    rw[a0o,a0n]at hc;obtain⟨x,hx,rfl⟩:=hc;have hi:=(a0r.1 hu).1;have hcs:=a0b (l:=cs) (i:=i) (by omega)
    obtain⟨s,hs⟩:=q2 i _ x hcs hx;exact .d (y1q (hr i u _ hu hcs) hs)
  ·rename_i hf;rw[h2]at hf;cases hf
  ·cases h1
 ·rename_i d h1 h2;unfold q8k at h1;split at h1
  ·rename_i ht;rw[h2]at ht;cases ht
  ·split at h1
   ·rename_i hx;cases h1;exact .d (y1q hr hx)
   ·cases h1
  ·cases h1
 ·exact hr
def z2s: ∀ {ts:List TypeId} {vs:List V} {w:World} {g:Gh} {us:List Value},z5x w g us vs->z5x w g us (u3u P ts vs)
 | [],vs,w,g,us,h=>by cases vs<;>exact h
 |_::_,[],w,g,us,h=>h
 |t::ts,v::vs,w,g,[],h=>by have:=h.1;simp at this
 |t::ts,v::vs,w,g,u::us,h=>by
  have h2:=z2s (ts:=ts) (vs:=vs) (us:=us) (w:=w) (g:=g) ⟨by have:=h.1;simpa using this,fun i u v h1 h2=>h.2 (i+1) u v (by simpa using h1) (by simpa using h2)⟩
  refine⟨by have:=h2.1;simp[u3u,this],fun i u' v' h1 h3=> ?_⟩
  cases i with
  |zero=>simp[u3u]at h1 h3;subst h1;subst h3;exact w4h (h.2 0 _ _ rfl rfl)
  |succ i=>exact h2.2 i u' v' (by simpa using h1) (by simpa[u3u]using h3)
def y1b.can {M:List Nat}{f:FuncId}{ts:List TypeId}{vs:List V}{h h':List Box}{r:V}(hc:y1b P M f (u3u P ts vs) h r h'):y1b P M f vs h r h':=
 fun g w us hs hu=>hc g w us hs (z2s hu)
def y3y {En:Ent}{s s1:VSt}{a:Act}{w:World}{y:Operand}{f:FuncId}{vs:List V}{args:Array Operand}{ts:Array TypeId}{pts:List TypeId}{v:V}(hs:x1t En s a w)(hs1:x1t En s1 a w)
  (hop:o.op= .call { callee:= .value y,args:=args,argTypes:=ts }) (hc:z8n (s1.get y) (args.toList.map s1.get)=some (f,vs)) (hp:(u3u P pts vs).all V.j0e=true) (hg:x4o P f=true)
  (hcall:y8o P f (u3u P pts vs) v) (hflat:v.j1z=true) {K:Act->World->Prop} {Q:Exit->Act->World->Prop} (hK: ∀a' w',x1t En (s.next [] s.h o.dst v) a' w'->K a' w'):o.wp P a w K Q:=by
 obtain⟨g,hs⟩:=hs;obtain⟨g1,hs1⟩:=hs1;obtain⟨us,hargs,hrun⟩:=z8m hop hg hs1.get hc;have hargs:=z2s (P:=P) (ts:=pts) hargs;have hcl:=hcall (g0 g1.Z) w _ (y8t hs1.heap.zlt hs1.heap.tab) ⟨hargs.1,fun i u v h1 h2=>x9l (g:=g1) (g':=g0 g1.Z) rfl (a0l.1 hp _ (a0j h2)) (hargs.2 i u v h1 h2)⟩
 unfold Oper.wp;rw[hrun,Oper.upon_enter];refine hcl.mono ?_
 rintro e w' ⟨u,g',rfl,hu,hk⟩
 have hfr:Fr (fun _=>False) w w':=hk.fr.mono fun k hk=>by obtain⟨b,x,hx,_⟩:=hk;simp at hx
 exact hK _ _ ⟨g,hs.next (Keep.j2e hs.heap hfr) (by simp[okM]) (v9r hflat hu) o.dst⟩
def u3n (P:Program)(f:FuncId)(args:List V):PRes->Prop
 | .val ds=> ∃ts ss v,z3o P f=some ts/\shR P ts=some ss/\ds.length=ss.length/\mkV P ts ds=some v/\y8o P f args v
 | .own e sz rows=> ∃t,z3o P f=some [t]/\elO P t=some (e,sz)/\v4a P f args e sz rows
def x2l (P:Program)(E:Env):Prop:=KV P/\ ∀f args p,x4o P f=true->args.all V.j0e=true->E.call f args=some p->u3n P f args p
def k5p {t e:TypeId}{sz:Nat}(h:elO P t=some (e,sz)):z3p P 9 t=some [.sl sz]/\y4c P t=false:=by
 obtain⟨hu,hn⟩:=y2w h;constructor
 ·simp only[z3p,hu,hn,Option.map_some]
 ·unfold y4c;rw[hu]
def y2b: ∀ {ts:List TypeId} {ds:List D} {vs:List V},u4w P ts ds=some vs->vs.all V.j0e=true/\vs.length=ts.length
 | [],[],vs,h=>by cases h;exact⟨rfl,rfl⟩
 | [],_::_,vs,h=>by cases h
 |t::ts,ds,vs,h=>by
  unfold u4w at h;split at h
  ·split at h
   ·rename_i vs' _ h2;cases h;obtain⟨q1,q2⟩:=y2b h2;simp only[a1r,q1,a2a,a0a,q2,and_true];show(List.map V.d _).all V.j0i=true;rw[a0l];intro x hx;obtain⟨d,_,rfl⟩:=a2b.1 hx;rfl
   ·cases h
  ·split at h
   ·split at h
    ·rename_i vs' h2;cases h;obtain⟨q1,q2⟩:=y2b h2;simp only[a1r,q1,a2a,a0a,q2,and_true];rfl
    ·cases h
   ·cases h
  ·cases h
def u8p {ts:List TypeId}{ds:List D}{v:V}(h:mkV P ts ds=some v):v.j0o=true:=by
 unfold mkV at h;split at h
 ·rename_i v' hv;cases h;have:=(y2b hv).1;simp only[a1r,List.all_nil,a2a]at this;cases v<;>first|exact this|skip
  simp only[V.j0e,V.j0o,a0l]at this ⊢;intro c hc;have:=this c hc;cases c<;>simp_all [V.j0i]
 ·rename_i vs _ hv;cases h;exact(y2b hv).1
 ·cases h
def q7l {ss:List Sh}{ds:List D}(hf:ss.all Sh.flat=true)(hr: ∀(i:Nat) d s,ds[i]? =some d->ss[i]? =some s->(s.flat=true->d.flat=true))(hl:ds.length=ss.length): ∀d∈ds,d.flat=true:=by
 intro d hd;obtain⟨i,hi⟩:=List.mem_iff_getElem?.1 hd;have hi':i < ss.length:=by rw[<-hl];exact(a0c.1 hi).1
 exact hr i d ss[i] hi (a0b hi') (a0l.1 hf _ (a1j hi'))
def y4v: ∀ {ts:List TypeId} {ds:List D} {vs:List V},u4w P ts ds=some vs->(∀d∈ds,d.flat=true)->vs.all V.j1i=true
 | [],[],vs,h,_=>by cases h;rfl
 | [],_::_,vs,h,_=>by cases h
 |t::ts,ds,vs,h,hd=>by
  unfold u4w at h;split at h
  ·split at h
   ·rename_i vs' _ h2;cases h;simp only[a1r,y4v h2 (fun d hq=>hd d (List.mem_of_mem_drop hq)),a2a]
    simp only[V.j1i,a0l,a2b]
    rintro _ ⟨d,hq,rfl⟩
    exact hd d (List.mem_of_mem_take hq)
   ·cases h
  ·split at h
   ·split at h
    ·rename_i d ds _ vs' h2;cases h;simp only[a1r,y4v h2 (fun q hq=>hd q (a0v _ hq)),a2a]
     exact hd d (a0t ..)
    ·cases h
   ·cases h
  ·cases h
def w4v {ts:List TypeId}{ds:List D}{v:V}(h:mkV P ts ds=some v)(hd: ∀d∈ds,d.flat=true):v.j1z=true:=by
 unfold mkV at h;split at h
 ·rename_i v' hv;cases h;have:=y4v hv hd;simp only[a1r,List.all_nil,a2a]at this;cases v<;>first|exact this|simp[V.j1i,V.j1l]at this
 ·rename_i vs _ hv;cases h;exact y4v hv hd
 ·cases h
def w4i {s:Sh}{v:Option D}{x:D}(hk:(y6g s v).run E=some x):s.flat=true->x.flat=true:=by
 intro hf;cases s<;>simp only[y6g,Tree.run,Sh.flat]at hk hf<;>first|(cases hf;done)|(obtain⟨n,h1,h2⟩:=a1l.1 hk;cases h2;rfl)
def u0d (hE:E.Ok): ∀ {ss:List Sh} {cs:List D} {j:Nat} {xs:List D},(x7z sy ss cs j).run E=some xs-> ∀(i:Nat) d s,xs[i]? =some d->ss[i]? =some s->(s.flat=true->d.flat=true)
 | [],cs,j,xs,hk=>by cases hk;simp
 |s::ss,cs,j,xs,hk=>by
  unfold x7z at hk;obtain⟨x,h1,hk⟩:=x0c hE hk;obtain⟨xs',h2,hk⟩:=x0c hE hk;cases hk;intro i d s' hd hs hf;cases i with
  |zero=>simp at hd hs;subst hd;subst hs;exact w4i h1 hf
  |succ i=>exact u0d hE h2 i d s' (by simpa using hd) (by simpa using hs) hf
def v8n (hV:KV P){f:FuncId}{vs:List V}{v:V}(hk:(kvT sy f vs).run E=some v):y8o P f vs v/\v.j0o=true:=by
 unfold kvT at hk;split at hk
 ·rename_i s a b hf;split at hk
  ·rename_i hd;obtain⟨rfl,rfl⟩:=a0e hd;obtain⟨hi,hk⟩:=x1b hk;cases hk;have hf:=Nat.eq_of_beq_eq_true hf;subst hf;have hi:((s.size:Int)<=1000000):=a0e hi;exact⟨hV s (by omega),rfl⟩
  ·cases hk
 ·cases hk
def x6i (hE:E.Ok)(hG:x2l P E){f:FuncId}{vs:List V}{ts:List TypeId}{v:V}(hp:vs.all V.j0e=true)(hs:z3o P f=some ts)(hk:(u2u sy P f vs ts).run E=some v):
  y8o P f vs v/\v.j0o=true/\ ∀ss,shR P ts=some ss->ss.all Sh.flat=true->v.j1z=true:=by
 unfold u2u at hk;split at hk
 ·rename_i ss hss;simp only[Tree.run]at hk
  ·obtain⟨p,hpc,hk⟩:=a1l.1 hk;obtain⟨xs,h1,hk⟩:=x0c hE hk;obtain⟨q1,q2⟩:=x9r hE h1;split at hk
   ·rename_i v' hv;cases hk;have hgood:=hG.2 f vs p (x3w hs) hp hpc;have key: ∀ds:List D,ds.length=ss.length->(∀(i:Nat) x,xs[i]? =some x->ds[0+i]? =some x)->xs=ds:=by
     intro ds hl hx;apply List.ext_getElem?;intro i;cases hxi:xs[i]? with
     |some x=>have:=hx i x hxi;rw[a1z]at this;rw[this]
     |none=>
      have:=List.getElem?_eq_none_iff.1 hxi;exact(List.getElem?_eq_none_iff.2 (by omega)).symm
    refine⟨?_,u8p hv,fun ss' hss' hf=> ?_⟩
    ·cases p with
     |val ds=>
      obtain⟨ts',ss',v2,e1,e2,e3,e4,e5⟩:=hgood;rw[hs]at e1;cases e1;rw[hss]at e2;cases e2;have:=key ds e3 q2;subst this;rw[hv]at e4;cases e4;exact e5
     |own e sz rows=>
      obtain⟨t,e1,e2,e3⟩:=hgood;rw[hs]at e1;cases e1;obtain⟨f1,f2⟩:=k5p e2;have:ss= [.sl sz]:=by
       simp only[shR,f1]at hss;cases hss;rfl
      subst this;have:=key [.sl sz rows] rfl q2;subst this;have:mkV P [t] [.sl sz rows]=some (.d (.sl sz rows)):=by simp[mkV,u4w,f1,f2]
      rw[this]at hv;cases hv;exact e3.j2s
    ·rw[hss]at hss';cases hss';exact w4v hv (q7l hf (u0d hE h1) q1)
   ·cases hk
 ·rename_i hss;obtain⟨q1,q2⟩:=v8n hG.1 hk;exact⟨q1,q2,fun ss h=>by rw[hss]at h;cases h⟩
def x3u {f:FuncId}{vs:List V}(hc:x5z P ρ o=some (f,vs))(hf: ∀f,ρ (.func f)= .fn f []):
  ∃y args ts,o.op= .call { callee:= .value y,args:=args,argTypes:=ts }/\z8n (ρ y) (args.toList.map ρ)=some (f,vs):=by
 unfold x5z at hc;split at hc
 ·rename_i y args ts hop;split at hc
  ·rename_i f' vs' hcv;split at hc
   ·cases hc;refine⟨y,args,ts,hop,?_⟩;split at hcv
    ·rw[hf];exact hcv
    ·exact hcv
   ·cases hc
  ·cases hc
 ·cases hc
def q7v (En:Ent)(p:V)(t:List V)(h:List Box)(e:Exit)(a:Act)(w:World):Prop:= ∃g u,e= .panic [{ v:=u,recovered:=false }]/\Rep w g u p/\Sim En ⟨t,h⟩ a w g
def PanX (En:Ent)(p:V)(h:List Box)(e:Exit)(a:Act)(w:World):Prop:= ∃t,q7v En p t h e a w
def OpR (En:Ent)(q:Option V × VSt)(e:Exit)(a:Act)(w:World):Prop:=match q.1 with
 |none=>e= .normal/\x1t En q.2 a w
 |some p=>q7v En p q.2.t q.2.h e a w
def q9b (En:Ent)(q:Option V × VSt)(e:Exit)(a:Act)(w:World):Prop:=match q.1 with
 |none=>e= .normal/\x1t En q.2 a w
 |some p=>PanX En p q.2.h e a w
def OpR.unk {En:Ent}{q:Option V × VSt}{e:Exit}{a:Act}{w:World}(h:OpR En q e a w):q9b En q e a w:=by
 obtain⟨p,s⟩:=q;cases p with
 |none=>exact h
 |some p=>exact⟨_,h⟩
def u8d {En:Ent}{s:VSt}{a:Act}{w:World}{y:Operand}{f:FuncId}{vs:List V}{args:Array Operand}{ts:Array TypeId}{M:List Nat}{p:V}{h':List Box}
  (hop:o.op= .call { callee:= .value y,args:=args,argTypes:=ts }) (hb:z8n (s.get y) (args.toList.map s.get)=some (f,vs)) (hf:x4o P f=true)
  (hc:x9d P M f vs s.h (q7u p) h') (hM:okM En.g.n En.M M=true) (hs:x1t En s a w) {K:Act->World->Prop} {Q:Exit->Act->World->Prop} (hQ: ∀e a' w',q7v En p (s.next M h' none .any).t h' e a' w'->Q e a' w'):o.wp P a w K Q:=by
 obtain⟨g,hs⟩:=hs;obtain⟨us,hargs,hrun⟩:=z8m hop hf hs.get hb;unfold Oper.wp;rw[hrun,Oper.upon_enter];refine(hc g w _ hs.heap hargs).mono ?_
 rintro e w' ⟨g',⟨u,rfl,hr⟩,hk⟩
 have:=hs.next hk hM (.any undef) none;exact hQ _ _ _ ⟨g',u,rfl,hr,this⟩
def q0o (P:Program)(M:List Nat)(b:Nat)(R:RecI)(args:List V)(h:List Box)(r:V)(h':List Box):Prop:=
 ∀(g:Gh) (w:World) (us:List Value),SimH g h w->z5x w g us args->b < g.n->g.rc b=some R->
  ∃fn tmps assign body,(Instr.yield (g.blk b) us.toArray).run P w= .ok (.round (g.blk b) fn tmps assign body) w/\
   RoundIn Fence.wide 0 P (g.blk b) fn tmps assign body w fun e w'=> ∃u g',e= .returned u/\Rep w' g' u r/\Keep M g h w g' h' w'
def z8s (P:Program)(M:List Nat)(f:FuncId)(args:List V)(h:List Box)(v:V)(h':List Box):Prop:=match y1l v with
 |some p=>x9d P M f args h (q7u p) h'
 |none=>y1b P M f args h v h'
def z8s.none {P:Program}{M:List Nat}{f:FuncId}{args:List V}{h h':List Box}{v:V}(hp:y1l v=none)(hc:z8s P M f args h v h'):y1b P M f args h v h':=by
 unfold z8s at hc;rw[hp]at hc;exact hc
def z8s.some {P:Program}{M:List Nat}{f:FuncId}{args:List V}{h h':List Box}{v p:V}(hp:y1l v= .some p)(hc:z8s P M f args h v h'):x9d P M f args h (q7u p) h':=by
 unfold z8s at hc;rw[hp]at hc;exact hc
def x7b (P:Program)(E:Env)(ent:Callee->List V->List Box->Tree (List Nat × V × List Box)):Prop:=
 (∀f vs h r,(ent (.fn f) vs h).run E=some r->z8s P r.1 f vs h r.2.1 r.2.2)/\ ∀b R vs h r,(ent (.yld b R) vs h).run E=some r->q0o P r.1 b R vs h r.2.1 r.2.2
def forceD_eq.{v}{β:Type v}(x:D)(K:D->β):forceD x K=K x:=by cases x<;>rfl
def forceV_eq.{v}{β:Type v}(x:V)(K:V->β):forceV x K=K x:=by cases x<;>first|rfl|(unfold forceV;exact forceD_eq _ _)
def forceL_eq.{v}{β:Type v}: ∀(l:List V) (K:List V->β),forceL l K=K l
 | [],_=>rfl
 |v::vs,K=>by unfold forceL;rw[forceV_eq,forceL_eq vs]
def forceB_eq.{v}{β:Type v}(x:Box)(K:Box->β):forceB x K=K x:=by cases x<;>first|rfl|(unfold forceB;exact forceL_eq _ _)
def forceH_eq.{v}{β:Type v}: ∀(l:List Box) (K:List Box->β),forceH l K=K l
 | [],_=>rfl
 |v::vs,K=>by unfold forceH;rw[forceB_eq,forceH_eq vs]
def forceSp_eq.{u,v}{α:Type u}{β:Type v}: ∀(l:List α) (K:List α->β),forceSp l K=K l
 | [],_=>rfl
 |v::vs,K=>by unfold forceSp;rw[forceSp_eq vs]
def x4g {β:Type}(s:VSt)(K:VSt->Tree β):x5t s K=K s:=by unfold x5t;rw[forceL_eq,forceH_eq]
def v0m {w:World}{g:Gh}{u:Value}{v:V}{as vs:List V}{f:FuncId}(h0:Rep w g u v)(b0:z8n v as=some (f,vs)): ∃x y,u= .func (.func f) x y:=by
 cases h0<;>first|(cases b0;done)|skip
 all_goals (cases b0;exact⟨_,_,rfl⟩)
def u3i {w:World}{g g1:Gh}{u:Value}{v v1:V}{as as1 vs vs1:List V}{f f1:FuncId}(h0:Rep w g u v)(h1:Rep w g1 u v1)(b0:z8n v as=some (f,vs))(b1:z8n v1 as1=some (f1,vs1)):f1=f:=by
 obtain⟨_,_,e0⟩:=v0m h0 b0;obtain⟨_,_,e1⟩:=v0m h1 b1;rw[e0]at e1;cases e1;rfl
def z0p (hE:E.Ok)(hG:x2l P E){C:CfgO}{En:Ent}{s s':VSt}{a:Act}{w:World}{f:FuncId}{vs0:List V}(hc0:x5z P s.get o=some (f,vs0))(hk:(z0q sy P C s o f).run E=some s')(hs:x1t En s a w)
  {K:Act->World->Prop} {Q:Exit->Act->World->Prop} (hK: ∀a' w',x1t En s' a' w'->K a' w'):o.wp P a w K Q:=by
 unfold z0q at hk;simp only at hk;split at hk
 ·rename_i f1 vs ts hc1 hsig;generalize hcan:u3u P (w8w P f) vs=vc at hk;split at hk
  ·rename_i hp;have hs1:x1t En (s.frz (fzl s o)) a w:=hs.frzs;obtain⟨y0,args0,ts0,hop0,hy0⟩:=x3u hc0 (fun f=>rfl)
   obtain⟨y,args,tys,hop,hy⟩:=x3u hc1 (fun f=>rfl)
   have hyy:y0=y:=by rw[hop0]at hop;simp at hop;exact hop.1
   subst hyy;have hff:f1=f:=by
    obtain⟨g,hsg⟩:=hs;obtain⟨g1,hsg1⟩:=hs1;exact u3i (hsg.get y0) (hsg1.get y0) hy0 hy
   subst hff;have hg:=x3w hsig;split at hk
   ·split at hk
    ·split at hk
     ·rename_i t e sz hel;simp only[Tree.run]at hk;obtain⟨rows,hpc,hk⟩:=a1l.1 hk;cases hk;obtain⟨t',e1,e2,hm⟩:=hG.2 _ _ _ hg hp (y8y hpc);have hh:=hm.hcall hp (s.frz (fzl s o)).h;rw[<-hcan]at hh;exact(x6d hop hy hg hh.can).sim hs1 (by simp[okM]) hK
     ·cases hk
    ·cases hk
   ·split at hk
    ·rename_i ss hss;split at hk
     ·rename_i hfl;obtain⟨v,h1,hk⟩:=x0c hE hk;cases hk;obtain⟨q1,q2,q3⟩:=x6i hE hG hp hsig h1;exact y3y hs hs1 hop hy (by rw[hcan];exact hp) hg (by rw[hcan];exact q1) (q3 ss hss hfl) hK
     ·obtain⟨v,h1,hk⟩:=x0c hE hk;cases hk;obtain⟨q1,q2,q3⟩:=x6i hE hG hp hsig h1;have hh:=q1.hcall hp q2 (s.frz (fzl s o)).h;rw[<-hcan]at hh;exact(x6d hop hy hg hh.can).sim hs1 (by simp[okM]) hK
    ·obtain⟨v,h1,hk⟩:=x0c hE hk;cases hk;obtain⟨q1,q2,q3⟩:=x6i hE hG hp hsig h1;have hh:=q1.hcall hp q2 (s.frz (fzl s o)).h;rw[<-hcan]at hh;exact(x6d hop hy hg hh.can).sim hs1 (by simp[okM]) hK
  ·cases hk
 ·cases hk
def z9d (hE:E.Ok)(hG:x2l P E){ent:Callee->List V->List Box->Tree (List Nat × V × List Box)}(hent:x7b P E ent){C:CfgO}{En:Ent}{s:VSt}{q:Option V × VSt}{a:Act}{w:World}(hk:(v5x sy P ent C En.g.n En.M s o).run E=some q)(hs:x1t En s a w)
  {K:Act->World->Prop} {Q:Exit->Act->World->Prop} (hK: ∀a' w',q.1=none->x1t En q.2 a' w'->K a' w') (hQ: ∀p e a' w',q.1=some p->q7v En p q.2.t q.2.h e a' w'->Q e a' w'):o.wp P a w K Q:=by
 unfold v5x at hk;split at hk
 ·rename_i f vs hc;split at hk
  ·rename_i hi hsig;obtain⟨r,h1,hk⟩:=x0c hE hk;split at hk
   ·rename_i hM;obtain⟨y,args,tys,hop,hy⟩:=x3u hc (fun f=>rfl)
    split at hk
    ·rename_i hp;cases hk;exact(x6d hop hy (x3w hsig) ((hent.1 _ _ _ _ h1).none hp)).sim hs hM fun a' w' h=>hK a' w' rfl h
    ·rename_i p hp;cases hk;exact u8d hop hy (x3w hsig) ((hent.1 _ _ _ _ h1).some hp) hM hs fun e a' w' h=>hQ p e a' w' rfl h
   ·cases hk
  ·obtain⟨s',h1,hk⟩:=x0c hE hk;cases hk;exact z0p hE hG hc h1 hs fun a' w' h=>hK a' w' rfl h
 ·split at hk
  ·rename_i y hop;split at hk
   ·rename_i t cs hy;cases hk;obtain⟨g,hs⟩:=hs;have hr:=hs.get y;rw[hy]at hr;generalize hu0:a.eval y=u0 at hr;cases hr with
    |ifc _ us _ hl h=>
     have hrun:(execOp a.eval o).run P w= .halt (.panic (.iface t (.agg us))) w:=by
      simp only[execOp,hop,hu0];rfl
     unfold Oper.wp;rw[hrun,Oper.upon_panic];exact hQ _ _ _ _ rfl ⟨g,_,rfl, .ifc t us cs hl h,hs⟩
   ·cases hk
  ·simp only at hk;obtain⟨r,h1,hk⟩:=x0c hE hk;split at hk
   ·rename_i hM;cases hk;exact(v7p hE h1).sim hs.frzs hM fun a' w' h=>hK a' w' rfl h
   ·cases hk
def v0x {b:Nat}{R:RecI}{vs:List V}(hc:q0s ρ o=some (b,R,vs)):
  ∃y args ts,o.op= .call { callee:= .value y,args:=args,argTypes:=ts }/\ρ y= .yld b R/\vs=args.toList.map ρ:=by
 unfold q0s at hc;split at hc
 ·rename_i y args ts hop;split at hc
  ·rename_i heq;cases hc;exact⟨y,args,ts,hop,heq,rfl⟩
  ·cases hc
 ·cases hc
def z0b (hE:E.Ok)(hG:x2l P E){ro:Option Nat}{ent:Callee->List V->List Box->Tree (List Nat × V × List Box)}(hent:x7b P E ent){C:CfgO}{En:Ent}{s:VSt}{q:Option V × VSt}{a:Act}{w:World}(hk:(w3p sy P ent C En.g.n En.M s o).run E=some q)(hs:x1t En s a w)
  {K:Act->World->Prop} {Q:Exit->Act->World->Prop} (hK: ∀a' w',q.1=none->x1t En q.2 a' w'->K a' w') (hQ: ∀p e a' w',q.1=some p->q7v En p q.2.t q.2.h e a' w'->Q e a' w'):o.wpIn (Fw ro) 0 P a w K Q:=by
 unfold w3p at hk;split at hk
 ·rename_i b R vs hnd hy;obtain⟨y,args,ts,hop,hyy,rfl⟩:=v0x hy;obtain⟨r,h1,hk⟩:=x0c hE hk;split at hk
  ·rename_i hM;cases hk;have hR:=hent.2 _ _ _ _ _ h1;obtain⟨g,hs'⟩:=hs;have hr:=hs'.get y;rw[hyy]at hr;generalize hu0:a.eval y=u0 at hr;cases hr with
   |yld _ _ hb hc=>
    have hargs:z5x w g (args.toList.map a.eval) (args.toList.map s.get):=⟨by simp,fun i u v h1 h2=>by
     rw[a0o,a0n]at h1 h2;obtain⟨q,hq,rfl⟩:=h1;obtain⟨q',hq',rfl⟩:=h2;rw[hq]at hq';cases hq';exact hs'.get q⟩
    obtain⟨fn,tmps,assign,body,hrun,hround⟩:=hR g w _ hs'.heap hargs hb hc;refine⟨fun f _=>trivial,?_⟩
    have e:o.semAt (Fw ro).round a.eval=execOp a.eval o:=Oper.semAt_eq _ _ _ (z5a hnd);rw[e];have hex:(execOp a.eval o).run P w= .ok (.round (g.blk b) fn tmps assign body) w:=by
     have:(args.toList.map a.eval).toArray=args.map a.eval:=by apply Array.ext';simp
     rw[this]at hrun;simp[execOp,hop,resolve,hu0,Deferred.ofValue,invoke,hrun]
    rw[hex,Oper.uponIn_round];refine⟨fun h=>by simp[Fw,Fence.wide]at h,hround.1,fun c cs _=> ?_⟩
    obtain⟨e,w',⟨u,g',rfl,hr,hk⟩,hsteps⟩:=hround.2 c cs (room_wide _);exact⟨.returned u,w',hK _ _ rfl ⟨g',hs'.next hk hM hr o.dst⟩,hsteps⟩
  ·cases hk
 ·rename_i hnd _;exact x9f hnd (z9d hE hG hent hk hs hK hQ)
 ·cases hk
def z3q (hE:E.Ok)(hG:x2l P E){ro:Option Nat}{En:Ent}{s:VSt}{a:Act}{w:World}(hk:(y4i sy P s o).run E=some x)(hs:x1t En s a w)
  {K:Act->World->Prop} {Q:Exit->Act->World->Prop} (hK: ∀a' w',x1t En (s.next [] s.h o.dst x) a' w'->K a' w'):o.wpIn (Fw ro) 0 P a w K Q:=by
 unfold y4i at hk;split at hk
 ·cases hk
 rename_i hnd;refine x9f hnd ?_;split at hk
 ·rename_i f vs hc0;split at hk
  ·rename_i f1 vs0 ts hc1 hsig;generalize hcan:u3u P (w8w P f) vs0=vc at hk;simp only at hk;split at hk
   ·rename_i ss hp hss;split at hk
    ·rename_i hfl;have hs1:x1t En (s.frz (fzl s o)) a w:=hs.frzs;obtain⟨y0,args0,ts0,hop0,hy0⟩:=x3u hc0 (fun f=>rfl)
     obtain⟨y,args,tys,hop,hy⟩:=x3u hc1 (fun f=>rfl)
     have hyy:y0=y:=by rw[hop0]at hop;simp at hop;exact hop.1
     subst hyy;have hff:f1=f:=by
      obtain⟨g,hsg⟩:=hs;obtain⟨g1,hsg1⟩:=hs1;exact u3i (hsg.get y0) (hsg1.get y0) hy0 hy
     subst hff;obtain⟨q1,q2,q3⟩:=x6i hE hG hp hsig hk;exact y3y hs hs1 hop hy (by rw[hcan];exact hp) (x3w hsig) (by rw[hcan];exact q1) (q3 ss hss hfl) hK
    ·cases hk
   ·cases hk
  ·cases hk
 ·exact(y6i hE hk s.h (Pre.refl _)).sim hs (by simp[okM]) hK
def v6e {α:Type}{l:List α}{k:Nat}{v:α}(hv:l[k]? =some v):l.set k v=l:=by
 apply List.ext_getElem?;intro i;rw[a1k]
 by_cases hi:k=i
 ·subst hi;rw[if_pos rfl,if_pos (a0c.1 hv).1,hv]
 ·rw[if_neg hi]
def w4q (s:VSt)(dst:Option Tmp)(x:V):s.next [] s.h dst x=⟨match dst with|some d=>s.t.set d x|none=>s.t,s.h⟩:=by cases dst<;>rfl
def y6c (hE:E.Ok)(hG:x2l P E){ro:Option Nat}{En:Ent}{ops:Array Oper}{Q:Exit->Act->World->Prop}{s':VSt}{rest:List Oper}: ∀ {os:List Oper} {s:VSt} {a:Act} {w:World},
  (v1l sy P ops os s).run E=some s'->x1t En s a w->(∀a' w',x1t En s' a' w'->wpListIn (Fw ro) 0 P ops Q rest a' w')->wpListIn (Fw ro) 0 P ops Q (os++rest) a w
 | [],s,a,w,hk,hs,hq=>by cases hk;exact hq a w hs
 |o::os,s,a,w,hk,hs,hq=>by
  have exec: ∀s,x1t En s a w->((y4i sy P s o).bind fun x=>x5t (s.next [] s.h o.dst x) (v1l sy P ops os)).run E=some s'->o.wpIn (Fw ro) 0 P a w (wpListIn (Fw ro) 0 P ops Q (os++rest)) Q:=by
   intro s hs hk;obtain⟨x,h1,hk⟩:=x0c hE hk;rw[x4g]at hk;exact z3q hE hG h1 hs fun a' w' hs'=>y6c hE hG hk hs' hq
  have pass: ∀s,x1t En s a w->(x5t (s.next [] s.h o.dst (.tup [])) (v1l sy P ops os)).run E=some s'->wpListIn (Fw ro) 0 P ops Q (os++rest) (a.put o.dst undef) w:=by
   intro s hs hk;rw[x4g]at hk;obtain⟨g,hs'⟩:=hs;exact y6c hE hG hk ⟨g,hs'.next (.refl hs'.heap) (by simp[okM]) (.tup #[] [] rfl (by simp)) o.dst⟩ hq
  unfold v1l at hk;simp only at hk;split at hk
  ·rename_i hg;refine x6c ?_;simp only[Region.wanted,hg,if_true];exact exec s hs hk
  ·rename_i j want hg;split at hk
   ·rename_i t ht;split at hk
    ·rename_i c hc;obtain⟨hs1,ha⟩:=y8v hs hc;have hy:yielded ops a.tmps j=some c:=by simp[yielded,ht,ha]
     refine x6c ?_;simp only[Region.wanted,hg,hy];split at hk<;>cases c
     ·rw[if_neg (by simp)]
      exact pass _ hs1 hk
     ·rw[if_pos (by simp)]
      exact exec _ hs1 hk
     ·rw[if_pos (by simp)]
      exact exec _ hs1 hk
     ·rw[if_neg (by simp)]
      exact pass _ hs1 hk
    ·rename_i hc;have hy:yielded ops a.tmps j=none:=by
      have hlt:t < s.t.length:=(a0c.1 hc).1;obtain⟨g,hs'⟩:=hs;have hlt':t < a.tmps.size:=by rw[hs'.size];exact hlt
      have hu:=hs'.tmps t _ _ (a0x hlt') hc;have ha:a.tmps[t]? =some a.tmps[t]:=a0x hlt';generalize a.tmps[t]=u at hu ha;cases hu with
      |tup us cs hl h=>simp[yielded,ht,ha]
     refine x6c ?_;simp only[Region.wanted,hg,hy];rw[if_neg (by simp)]
     exact pass _ hs hk
    ·cases hk
   ·cases hk
def w0e (os:List Oper):List Nat:=os.filterMap (·.dst)
def z4q (hE:E.Ok){ops:Array Oper}{s':VSt}: ∀ {os:List Oper} {s:VSt},(v1l sy P ops os s).run E=some s'->s'.h=s.h/\s'.t.length=s.t.length/\ ∀k,k ∉ w0e os->s'.t[k]? =s.t[k]?
 | [],s,hk=>by cases hk;exact⟨rfl,rfl,fun _ _=>rfl⟩
 |o::os,s,hk=>by
  have step: ∀x:V,(v1l sy P ops os (s.next [] s.h o.dst x)).run E=some s'->s'.h=s.h/\s'.t.length=s.t.length/\ ∀k,k ∉ w0e (o::os)->s'.t[k]? =s.t[k]? :=by
   intro x hk;obtain⟨q1,q2,q3⟩:=z4q hE hk;rw[w4q]at q1 q2 q3;refine⟨q1,by rw[q2];cases o.dst<;>simp,fun k hk'=> ?_⟩
   have hk2:k ∉ w0e os:=fun h=>hk' (by unfold w0e at h ⊢;rw[List.filterMap_cons];cases o.dst<;>simp[h])
   rw[q3 k hk2];cases hd:o.dst with
   |none=>rfl
   |some d=>
    have:d≠k:=fun e=>hk' (by unfold w0e;rw[List.filterMap_cons,hd];simp[e])
    simp only;rw[a1k,if_neg this]
  have exec:((y4i sy P s o).bind fun x=>x5t (s.next [] s.h o.dst x) (v1l sy P ops os)).run E=some s'->s'.h=s.h/\s'.t.length=s.t.length/\ ∀k,k ∉ w0e (o::os)->s'.t[k]? =s.t[k]? :=by
   intro hk;obtain⟨x,h1,hk⟩:=x0c hE hk;rw[x4g]at hk;exact step x hk
  have pass:(x5t (s.next [] s.h o.dst (.tup [])) (v1l sy P ops os)).run E=some s'->s'.h=s.h/\s'.t.length=s.t.length/\ ∀k,k ∉ w0e (o::os)->s'.t[k]? =s.t[k]? :=by
   intro hk;rw[x4g]at hk;exact step _ hk
  unfold v1l at hk;simp only at hk;split at hk
  ·exact exec hk
  ·split at hk
   ·rename_i t ht;split at hk
    ·rename_i c hc;have e: ∀b,c=b->s.j1p t b=s:=fun b hb=>by
      subst hb;show { s with t:=s.t.set t _ }=s
      rw[v6e hc]
     split at hk<;>cases c<;>simp only[Tree.run,e _ rfl]at hk
     ·exact pass hk
     ·exact exec hk
     ·exact exec hk
     ·exact pass hk
    ·exact pass hk
    ·cases hk
   ·cases hk
def z3e: ∀ {os:List Oper} {t:List V},(y7y t os).length=t.length/\ ∀(k:Nat) v,(y7y t os)[k]? =some v->v= .any\/(k ∉ w0e os/\t[k]? =some v)
 | [],t=>⟨rfl,fun k v h=> .inr ⟨by simp[w0e],h⟩⟩
 |o::os,t=>by
  obtain⟨q1,q2⟩:=z3e (os:=os) (t:=match o.dst with|some d=>t.set d .any|none=>t)
  refine⟨by unfold y7y;rw[q1];cases o.dst<;>simp,fun k v h=> ?_⟩
  unfold y7y at h;rcases q2 k v h with h1|⟨h1,h2⟩
  ·exact .inl h1
  ·cases hd:o.dst with
   |none=>
    rw[hd]at h2;exact .inr ⟨by unfold w0e at h1 ⊢;rw[List.filterMap_cons,hd];exact h1,h2⟩
   |some d=>
    rw[hd]at h2;simp only at h2;rw[a1k]at h2
    by_cases hk:d=k
    ·rw[if_pos hk]at h2;split at h2
     ·cases h2;exact .inl rfl
     ·cases h2
    ·rw[if_neg hk]at h2;refine .inr ⟨?_,h2⟩;unfold w0e at h1 ⊢;rw[List.filterMap_cons,hd];simp only[a1n,not_or];exact⟨fun e=>hk e.symm,h1⟩
def x1t.less {En:Ent}{s s2:VSt}{a:Act}{w:World}(hs:x1t En s a w)(hh:s2.h=s.h)(hl:s2.t.length=s.t.length)(ht: ∀(k:Nat) v,s2.t[k]? =some v->v= .any\/s.t[k]? =some v):x1t En s2 a w:=by
 obtain⟨g,hs⟩:=hs;refine⟨g,by rw[hh];exact hs.heap,by rw[hl];exact hs.size,fun i u v hu hv=> ?_,by rw[hh];exact hs.defers,by rw[hh];exact hs.keep,by rw[hl];exact hs.len⟩
 rcases ht i v hv with rfl|h
 ·exact .any u
 ·exact hs.tmps i u v hu h
def u0b {A:Sy}{ent:Callee->List V->List Box->Tree (List Nat × V × List Box)}{C:CfgO}{n0:Nat}{M0:List Nat}{ops:Array Oper}: ∀(k:Nat) (os:List Oper) (s:VSt),u0c A P ent C n0 M0 ops k os s=u0c A P ent C n0 M0 ops 0 (os.drop k) s
 |0,_,_=>rfl
 |k+1,[],s=>by simp[u0c]
 |k+1,_::os,s=>by
  show u0c A P ent C n0 M0 ops k os s=u0c A P ent C n0 M0 ops 0 (os.drop k) s;exact u0b k os s
def x1t.mintB {P:Program}{En:Ent}{a:Act}{w:World}: ∀(l:List (Nat × Nat × TypeId)) {s:VSt},x1t En s a w->x1t En (mintB P s l) a w
 | [],_,hs=>hs
 |(b,off,t)::l,s,hs=>by
  unfold Go.Vm.mintB;split
  ·rename_i k vs e sz hb hel;split
   ·rename_i hv;refine x1t.mintB l ?_;obtain⟨g,hs⟩:=hs;have hn:g.n=s.h.length:=hs.heap.n
    let v0:Value:= .slice none 0 0
    have hv1:(g.push 0 v0).val g.n=v0:=by simp[Gh.push]
    have hk:=Keep.push (R:=none) (x:= .arr e sz []) hs.heap 0 v0 (w':=w) (Fr.refl _ _) ⟨by simp, .inl ⟨hv1,rfl⟩⟩ (fun k' hk'=>by simp[Box.at?,hv1,v0]at hk')
    have hbl:b < s.h.length:=(a0c.1 hb).1;have hb1:(s.h++[Box.arr e sz []])[b]? =some (.cells k vs):=by rw[a0y,if_pos hbl];exact hb
    obtain⟨us,o,h1,h0,h2,h3⟩:=hk.heap.rep b _ hb1;have hk2:=Keep.turn (g':=g.push 0 v0) (y:= .cells k (vs.set off (.own s.h.length))) hk.heap hb1 [] (.inl ⟨rfl,rfl⟩) rfl rfl rfl (fun _ _=>⟨rfl,rfl⟩) (Fr.refl _ _)
     ⟨us,o,h1,h0,by simpa using h2,fun i u v hu hv'=>by
      rw[a1k]at hv';split at hv'
      ·rename_i hi;subst hi;split at hv'
       ·cases hv';have:=h3 off u .nils hu hv;cases this;have:=Rep.own (w:=w) (g:=g.push 0 v0) g.n (by simp[Gh.push])
        rwa [hv1,hn]at this
       ·cases hv'
      ·exact h3 i u v hu hv'⟩ (fun k hk=> .inl hk)
    rw[x2v]at hk2;have e1:(s.h++[Box.arr e sz []]).set b (.cells k (vs.set off (.own s.h.length)))=s.h.set b (.cells k (vs.set off (.own s.h.length)))++[.arr e sz []]:=by
     rw[List.set_append_left _ _ hbl]
    rw[e1]at hk2;have s1:=hs.next hk (by simp[okM]) (x:= .any) (u:=undef) (.any undef) none
    have s2:=s1.next hk2 (by simp[okM]) (x:= .any) (u:=undef) (.any undef) none
    exact⟨_,s2⟩
   ·exact x1t.mintB l hs
  ·rename_i e sz hb hel;split
   ·rename_i hv;refine x1t.mintB l ?_;obtain⟨g,hs⟩:=hs;have hn:g.n=s.h.length:=hs.heap.n
    let v0:Value:= .slice none 0 0
    have hv1:(g.push 0 v0).val g.n=v0:=by simp[Gh.push]
    have hk:=Keep.push (R:=none) (x:= .arr e sz []) hs.heap 0 v0 (w':=w) (Fr.refl _ _) ⟨by simp, .inl ⟨hv1,rfl⟩⟩ (fun k' hk'=>by simp[Box.at?,hv1,v0]at hk')
    have s1:=hs.next hk (by simp[okM]) (x:= .any) (u:=undef) (.any undef) none
    have e1:(s.next [] (s.h++[Box.arr e sz []]) none .any)=⟨s.t,s.h++[Box.arr e sz []]⟩:=rfl;have e2:a.put none undef=a:=rfl;rw[e1,e2]at s1;refine⟨_,s1.heap,by simpa using s1.size,fun i u v hu hv'=> ?_,s1.defers,s1.keep,by simpa using s1.len⟩
    rw[a1k]at hv';split at hv'
    ·rename_i hi;subst hi;split at hv'
     ·cases hv';have:=s1.tmps off u .nils hu hv;cases this;have:=Rep.own (w:=w) (g:=g.push 0 v0) g.n (by simp[Gh.push])
      rwa [hv1,hn]at this
     ·cases hv'
    ·exact s1.tmps i u v hu hv'
   ·exact x1t.mintB l hs
  ·exact x1t.mintB l hs
def x1t.mintP {P:Program}{En:Ent}{a:Act}{w:World}: ∀(l:List (Nat × Nat × Nat × Nat × TypeId)) {s:VSt},x1t En s a w->x1t En (Go.Vm.mintP P s l) a w
 | [],_,hs=>hs
 |(b,off,b2,off2,t)::l,s,hs=>by
  unfold Go.Vm.mintP;split
  ·rename_i k vs k2 vs2 e sz hb hb2 hel hne;have hne:=of_decide_eq_false hne;split
   ·rename_i hv hv2;refine x1t.mintP l ?_;obtain⟨g,hs⟩:=hs;have hn:g.n=s.h.length:=hs.heap.n
    let v0:Value:= .slice none 0 0
    have hv1:(g.push 0 v0).val g.n=v0:=by simp[Gh.push]
    have hk:=Keep.push (R:=none) (x:= .arr e sz []) hs.heap 0 v0 (w':=w) (Fr.refl _ _) ⟨by simp, .inl ⟨hv1,rfl⟩⟩ (fun k' hk'=>by simp[Box.at?,hv1,v0]at hk')
    have own0: ∀u,Rep w (g.push 0 v0) u .nils->Rep w (g.push 0 v0) u (.own s.h.length):=fun u hu=>by
     cases hu;have:=Rep.own (w:=w) (g:=g.push 0 v0) g.n (by simp[Gh.push])
     rwa [hv1,hn]at this
    have hbl:b < s.h.length:=(a0c.1 hb).1;have hbl2:b2 < s.h.length:=(a0c.1 hb2).1;have hb1:(s.h++[Box.arr e sz []])[b]? =some (.cells k vs):=by rw[a0y,if_pos hbl];exact hb
    obtain⟨us,o,h1,h0,h2,h3⟩:=hk.heap.rep b _ hb1;have hk2:=Keep.turn (g':=g.push 0 v0) (y:= .cells k (vs.set off (.own s.h.length))) hk.heap hb1 [] (.inl ⟨rfl,rfl⟩) rfl rfl rfl (fun _ _=>⟨rfl,rfl⟩) (Fr.refl _ _)
     ⟨us,o,h1,h0,by simpa using h2,fun i u v hu hv'=>by
      rw[a1k]at hv';split at hv'
      ·rename_i hi;subst hi;split at hv'
       ·cases hv';exact own0 u (h3 off u .nils hu hv)
       ·cases hv'
      ·exact h3 i u v hu hv'⟩ (fun k hk=> .inl hk)
    rw[x2v]at hk2;have e1:(s.h++[Box.arr e sz []]).set b (.cells k (vs.set off (.own s.h.length)))=s.h.set b (.cells k (vs.set off (.own s.h.length)))++[.arr e sz []]:=by
     rw[List.set_append_left _ _ hbl]
    rw[e1]at hk2;have hb3:(s.h.set b (.cells k (vs.set off (.own s.h.length)))++[Box.arr e sz []])[b2]? =some (.cells k2 vs2):=by
     rw[a0y,if_pos (by simpa using hbl2),a1k,if_neg hne];exact hb2
    obtain⟨us',o',h1',h0',h2',h3'⟩:=hk2.heap.rep b2 _ hb3;have hk3:=Keep.turn (g':=g.push 0 v0) (y:= .cells k2 (vs2.set off2 (.own s.h.length))) hk2.heap hb3 [] (.inl ⟨rfl,rfl⟩) rfl rfl rfl (fun _ _=>⟨rfl,rfl⟩) (Fr.refl _ _)
     ⟨us',o',h1',h0',by simpa using h2',fun i u v hu hv'=>by
      rw[a1k]at hv';split at hv'
      ·rename_i hi;subst hi;split at hv'
       ·cases hv';exact own0 u (h3' off2 u .nils hu hv2)
       ·cases hv'
      ·exact h3' i u v hu hv'⟩ (fun k hk=> .inl hk)
    rw[x2v]at hk3;have e2:(s.h.set b (.cells k (vs.set off (.own s.h.length)))++[Box.arr e sz []]).set b2 (.cells k2 (vs2.set off2 (.own s.h.length)))=(s.h.set b (.cells k (vs.set off (.own s.h.length)))).set b2 (.cells k2 (vs2.set off2 (.own s.h.length)))++[.arr e sz []]:=by
     rw[List.set_append_left _ _ (by simpa using hbl2)]
    rw[e2]at hk3;have s1:=hs.next hk (by simp[okM]) (x:= .any) (u:=undef) (.any undef) none
    have s2:=s1.next hk2 (by simp[okM]) (x:= .any) (u:=undef) (.any undef) none
    have s3:=s2.next hk3 (by simp[okM]) (x:= .any) (u:=undef) (.any undef) none
    exact⟨_,s3⟩
   ·exact x1t.mintP l hs
  ·exact x1t.mintP l hs
def u9t {P:Program}{t:TypeId}{v x:V}{w:World}{g:Gh}{u:Value}(h:k8e P t v=some x)(hr:Rep w g u v):Rep w g u x:=by
 unfold k8e at h;split at h
 ·split at h<;>cases h
  cases hr;exact .d (.slnil _)
 ·split at h<;>cases h
  cases hr;exact .ifo0 _ _
 ·cases h
def x1t.datB {P:Program}{En:Ent}{a:Act}{w:World}: ∀(l:List (Nat × Nat × TypeId)) {s:VSt},x1t En s a w->x1t En (Go.Vm.datB P s l) a w
 | [],_,hs=>hs
 |(b,off,t)::l,s,hs=>by
  unfold Go.Vm.datB;split
  ·rename_i k vs hb;split
   ·exact x1t.datB l hs.frzs
   ·rename_i v hno hv;split
    ·rename_i x hx;refine x1t.datB l ?_;obtain⟨g,hs⟩:=hs;obtain⟨us,o,h1,h0,h2,h3⟩:=hs.heap.rep b _ hb;have hk2:=Keep.turn (g':=g) (y:= .cells k (vs.set off x)) hs.heap hb [] (.inl ⟨rfl,rfl⟩) rfl rfl rfl (fun _ _=>⟨rfl,rfl⟩) (Fr.refl _ _)
      ⟨us,o,h1,h0,by simpa using h2,fun i u v' hu hv'=>by
       rw[a1k]at hv';split at hv'
       ·rename_i hi;subst hi;split at hv'
        ·cases hv';exact u9t hx (h3 off u v hu hv)
        ·cases hv'
       ·exact h3 i u v' hu hv'⟩ (fun k hk=> .inl hk)
     rw[x2v]at hk2;exact⟨_,hs.next hk2 (by simp[okM]) (x:= .any) (u:=undef) (.any undef) none⟩
    ·exact x1t.datB l hs
   ·exact x1t.datB l hs
  ·split
   ·exact x1t.datB l hs.frzs
   ·rename_i v hno hv;split
    ·rename_i x hx;refine x1t.datB l ?_;obtain⟨g,hs⟩:=hs;refine⟨g,hs.heap,by simpa using hs.size,fun i u v' hu hv'=> ?_,hs.defers,hs.keep,by simpa using hs.len⟩
     rw[a1k]at hv';split at hv'
     ·rename_i hi;subst hi;split at hv'
      ·cases hv';exact u9t hx (hs.tmps off u v hu hv)
      ·cases hv'
     ·exact hs.tmps i u v' hu hv'
    ·exact x1t.datB l hs
   ·exact x1t.datB l hs
  ·exact x1t.datB l hs
def x9p (hE:E.Ok)(hG:x2l P E){ro:Option Nat}{ent:Callee->List V->List Box->Tree (List Nat × V × List Box)}(hent:x7b P E ent){C:CfgO}{En:Ent}{ops:Array Oper}{Q:Exit->Act->World->Prop}{r:Option V × VSt}: ∀(n:Nat) {os:List Oper} {s:VSt} {a:Act} {w:World},os.length<=n->
  (u0c sy P ent C En.g.n En.M ops 0 os s).run E=some r->x1t En s a w->(∀e a' w',OpR En r e a' w'->Q e a' w')->wpListIn (Fw ro) 0 P ops Q os a w
 |_,[],s,a,w,_,hk,hs,hq=>by cases hk;exact hq .normal a w ⟨rfl,hs⟩
 |0,_::_,s,a,w,hn,_,_,_=>by simp at hn
 |n+1,o::os,s,a,w,hn,hk,hs,hq=>by
  have hn:os.length<=n:=by simpa using hn
  have exec: ∀s,x1t En s a w->((w3p sy P ent C En.g.n En.M s o).bind fun q=>match q.1 with
   |some p=> .ret (some p,q.2)
   |none=>x5t (mintB P q.2 (w4g C s o)) fun s'=>match k0r P C ops o os with
    |some L=> .cut ((v1l sy P ops (os.take L) s').bind fun s2=>match s2.t[y3u 0 (os.take L)]? with
      |some (.d (.bool b))=> .ret (.inl [.bool b])
      |_=> .fail) fun ds=> .cB (sy.cell ds 0) fun b=>x5t ⟨(y7y s'.t (os.take L)).set (y3u 0 (os.take L)) (.d (.bool b)),s'.h⟩ (u0c sy P ent C En.g.n En.M ops L os)
    |none=>u0c sy P ent C En.g.n En.M ops 0 os s').run E=some r->o.wpIn (Fw ro) 0 P a w (wpListIn (Fw ro) 0 P ops Q os) Q:=by
   intro s hs hk;obtain⟨q1,h1,hk⟩:=x0c hE hk;obtain⟨p1,s1⟩:=q1;cases p1 with
   |some p=>
    cases hk;exact z0b hE hG hent h1 hs (fun a' w' h=>(by cases h)) fun p' e a' w' hp hpe=>hq e a' w' (by cases hp;exact hpe)
   |none=>
   simp only at hk;rw[x4g]at hk;refine z0b hE hG hent h1 hs (fun a' w' _ hs'=> ?_) (fun p e a' w' h=>by cases h)
   simp only at hs';have hs':=hs'.mintB (P:=P) (w4g C s o);generalize mintB P s1 (w4g C s o)=s1 at hk hs';split at hk
   ·rename_i L _;simp only[Tree.run]at hk;obtain⟨q,h2,hk⟩:=a1l.1 hk;obtain⟨s2,h3,h4⟩:=x0c hE h2;have hre:os=os.take L++os.drop L:=(a1u L os).symm;generalize os.take L=seg at h3 h4 hk hre;rw[hre];refine y6c hE hG h3 hs' fun a2 w2 hs2=> ?_
    split at h4
    ·rename_i b hb;cases h4;have hk:(x5t ⟨(y7y s1.t seg).set (y3u 0 seg) (.d (.bool b)),s1.h⟩ (u0c sy P ent C En.g.n En.M ops L os)).run E=some r:=hk;rw[x4g,u0b]at hk;obtain⟨f1,f2,f3⟩:=z4q hE h3;obtain⟨g1,g2⟩:=z3e (os:=seg) (t:=s1.t);refine x9p hE hG hent n (by simp;omega) hk ?_ hq
     refine hs2.less f1.symm (by simp[g1,f2]) fun k v hv=> ?_
     simp only at hv;rw[a1k]at hv
     by_cases hkd:y3u 0 seg=k
     ·rw[if_pos hkd]at hv;split at hv
      ·cases hv;right;rw[<-hkd];exact hb
      ·cases hv
     ·rw[if_neg hkd]at hv;rcases g2 k v hv with h5|⟨h5,h6⟩
      ·exact .inl h5
      ·right;rw[f3 k h5];exact h6
    ·cases h4
   ·exact x9p hE hG hent n hn hk hs' hq
  have pass: ∀s,x1t En s a w->(x5t (s.next [] s.h o.dst (.tup [])) (u0c sy P ent C En.g.n En.M ops 0 os)).run E=some r->wpListIn (Fw ro) 0 P ops Q os (a.put o.dst undef) w:=by
   intro s hs hk;rw[x4g]at hk;obtain⟨g,hs'⟩:=hs;exact x9p hE hG hent n hn hk ⟨g,hs'.next (.refl hs'.heap) (by simp[okM]) (.tup #[] [] rfl (by simp)) o.dst⟩ hq
  unfold u0c at hk;simp only at hk;split at hk
  ·rename_i hg;refine x6c ?_;simp only[Region.wanted,hg,if_true];exact exec s hs hk
  ·rename_i j want hg;split at hk
   ·rename_i t ht;split at hk
    ·rename_i c hc;obtain⟨hs1,ha⟩:=y8v hs hc;have hy:yielded ops a.tmps j=some c:=by simp[yielded,ht,ha]
     refine x6c ?_;simp only[Region.wanted,hg,hy];split at hk<;>cases c
     ·rw[if_neg (by simp)]
      exact pass _ hs1 hk
     ·rw[if_pos (by simp)]
      exact exec _ hs1 hk
     ·rw[if_pos (by simp)]
      exact exec _ hs1 hk
     ·rw[if_neg (by simp)]
      exact pass _ hs1 hk
    ·rename_i hc;have hy:yielded ops a.tmps j=none:=by
      have hlt:t < s.t.length:=(a0c.1 hc).1;obtain⟨g,hs'⟩:=hs;have hlt':t < a.tmps.size:=by rw[hs'.size];exact hlt
      have hu:=hs'.tmps t _ _ (a0x hlt') hc;have ha:a.tmps[t]? =some a.tmps[t]:=a0x hlt';generalize a.tmps[t]=u at hu ha;cases hu with
      |tup us cs hl h=>simp[yielded,ht,ha]
     refine x6c ?_;simp only[Region.wanted,hg,hy];rw[if_neg (by simp)]
     exact pass _ hs hk
    ·cases hk
   ·cases hk
end
section
variable (A : Sy) (P : Program) (C : CfgO)
def w2m (h:List Box)(ρ:Operand->V)(o:Oper):Tree V:=match x5z P ρ o with
 |some (f,vs0)=>match u3u P (w8w P f) vs0 with
  |vs=>match C.inl.contains f,vs.all V.j0e,z3o P f with
  |false,true,some ts=>u2u A P f vs ts
  |_,_,_=> .fail
 |none=>w8x A P h ρ o
def u1i {β:Type}(ops:Array Oper)(o:Oper)(t:List V)(exec pass:List V->Tree β):Tree β:=match o.guard with
 |none=>exec t
 |some (j,want)=>match (ops[j]?).bind (·.dst)with
  |some k=>match t[k]? with
   |some (.d (.bool c))=>match want with
    |true=> .ite c (exec (t.set k (.d (.bool true)))) (pass (t.set k (.d (.bool false))))
    |false=> .ite c (pass (t.set k (.d (.bool true)))) (exec (t.set k (.d (.bool false))))
   |some (.tup [])=>pass t
   |_=> .fail
  |none=> .fail
def q8j (ops:Array Oper)(h0:List Box):List Oper->List V->List Box->Tree (List V × List Box)
 | [],t,hb=> .ret (t,hb)
 |o::os,t,hb=>u1i ops o t (fun t=>match z3f P o,hb with
   |some b,[]=>forceL (x3l t o.dst (.ptr h0.length 0)) fun t=>q8j ops h0 os t [b]
   |some _,_=> .fail
   |none,_=>(w2m A P C h0 (VSt.get ⟨t,h0⟩) o).bind fun x=>forceL (x3l t o.dst x) fun t=>q8j ops h0 os t hb)
  (fun t=>forceL (x3l t o.dst (.tup [])) fun t=>q8j ops h0 os t hb)
def stT (hW:List Box)(W:List Nat)(n0:Nat)(hh:List Box)(t:TypeId)(a v:V):Tree (Nat × Box):=
 match v.j0f,v.j0g hW with
 |some ns,true=>match a with
  | .ptr b off=>match W.contains b&&decide (b < n0),hh[b]? with
    |true,some (.cells (.ty bt) vs)=>match ns.all (V.j1t hW),decide (szO P t=some ns.length),decide (off+ns.length<=vs.length)with
     |true,true,true=> .ret (b, .cells (.ty bt) (vs.take off++ns++vs.drop (off+ns.length)))
     |_,_,_=> .fail
    |_,_=> .fail
  | .pml b sz i off=>match W.contains b&&decide (b < n0),hh[b]?,z3p P 9 t with
    |true,some (.arr e sz' rows),some ss=>match decide (sz'=sz),v4d ss ns with
     |true,some ds=>match decide (szO P t=some ds.length),decide (off+ds.length<=sz)with
      |true,true=>chk (A.inrn i rows) (.ret (b, .arr e sz (A.rput rows i off ds)))
      |_,_=> .fail
     |_,_=> .fail
    |_,_,_=> .fail
  |_=> .fail
 |_,_=> .fail
def z9u (ops:Array Oper)(W:List Nat)(h0:List Box):Nat->List Oper->Bool->List V->List Box->Tree (List V × List Box)
 |_,[],_,t,hh=> .ret (t,hh)
 |k,o::os,cl,t,hh=>u1i ops o t (fun t=>match o.op with
   | .store ty y z=>(stT A P (z1i h0 W) W h0.length hh ty (VSt.get ⟨t,h0⟩ y) (VSt.get ⟨t,h0⟩ z)).bind fun r=>forceL (x3l t o.dst .any) fun t=>forceH (hh.set r.1 r.2) fun hh=>z9u ops W h0 (k+1) os false t hh
   |_=>match z3f P o with
    |some b=>match decide (hh.length=h0.length)with
     |true=>forceL (x3l t o.dst (.ptr h0.length 0)) fun t=>z9u ops W h0 (k+1) os cl t (hh++[b])
     |false=> .fail
    |none=>match cl&&early ops k with
     |true=>(w2m A P C h0 (VSt.get ⟨t,h0⟩) o).bind fun x=>forceL (x3l t o.dst x) fun t=>z9u ops W h0 (k+1) os cl t hh
     |false=>(w2m A P C (z1i h0 W) (VSt.get ⟨t,h0⟩) o).bind fun x=>forceL (x3l t o.dst x) fun t=>z9u ops W h0 (k+1) os cl t hh)
  (fun t=>forceL (x3l t o.dst (.tup [])) fun t=>z9u ops W h0 (k+1) os cl t hh)
variable (ent : Callee -> List V -> List Box -> Tree (List Nat × V × List Box)) (n0 : Nat) (M0 : List Nat)
def w5j (ops:Array Oper)(s:VSt):VSt:=s.frz (ops.toList.flatMap fun o=>match o.op with
 | .call ⟨.value f,args,_⟩=>fzl s o++(match f with
   | .func f=>match C.inl.contains f with
     |true=>[]
     |false=>args.toList.flatMap fun y=>match y7g P ops s 12 y with
      |some (.own b)=>[b]
      |_=>[]
   |_=>[])
 |_=>[])
def drawS (o:Oper):Bool:=(match o.op with
    | .call ⟨.value (.func f),_,_⟩=>C.inl.contains f
    |_=>false) || (match o.dst with
    |some d=>C.stop.contains d
    |none=>false)
def x5c (ops:Array Oper):Nat:=(ops.toList.takeWhile fun o=>calm o&& !drawS C o).length
def u6a (ops:Array Oper):Bool:=w3o ops (x5c C ops)&&u3j ops (x5c C ops)&&v8i ops (x5c C ops) (x5c C ops) 0 (Array.replicate ops.size false)&&v6g ops (ops.size - x5c C ops) (x5c C ops) (y0u ops.size (x5c C ops))
def w0g (ops:Array Oper)(s:VSt):Tree (Option V × VSt):=match u6a C ops with
 |true=>x5t (w5j P C ops s) fun s=>forceSp (ops.toList.take (x5c C ops)) fun l1=>forceSp (ops.toList.drop (x5c C ops)) fun l2=>(q8j A P C ops s.h l1 s.t []).bind fun r=>x5t ⟨r.1,s.h++r.2⟩ fun s=>u0c A P ent C n0 M0 ops 0 l2 s
 |false=>match w0i ops with
  |true=>x5t (w5j P C ops s) fun s=>forceSp (ops.toList.flatMap (k0m P ops s)) fun W=>(z9u A P C ops W s.h 0 ops.toList true s.t s.h).bind fun r=> .ret (none,⟨r.1,r.2⟩)
  |false=> .fail
end
section
variable {P : Program} {M : List Nat} {h h' h2 h0 hh : List Box} {ρ ρ2 : Operand -> V} {o : Oper} {x : V} {ops : Array Oper} {W : List Nat} {E : Env} {C : CfgO}
def v1v (he: ∀y,y∈o.op.operands.toList->ρ y=ρ2 y)(hk:(w8x sy P h ρ o).run E=some x):(w8x sy P h ρ2 o).run E=some x:=by
 unfold w8x at hk ⊢;cases hop:o.op<;>simp only[hop]at hk ⊢ <;>(try (cases hk;done))
 case move y=>rw[<-he y (by simp[hop,Op.operands])];exact hk
 case assign y=>rw[<-he y (by simp[hop,Op.operands])];exact hk
 case pick c a b=>rw[<-he c (by simp[hop,Op.operands]),<-he a (by simp[hop,Op.operands]),<-he b (by simp[hop,Op.operands])];exact hk
 case build t parts=>
  have e1:(parts.toList.map fun q=>(q.1,ρ q.2))=parts.toList.map fun q=>(q.1,ρ2 q.2):=a2g fun q hq=>by
   rw[he q.2 (by simp only[hop,Op.operands];exact a2b.2 ⟨q,hq,rfl⟩)]
  have e2:(parts.toList.all fun q=>(ρ q.2).j0g h)=parts.toList.all fun q=>(ρ2 q.2).j0g h:=by
   rw[a1g,a0l,a0l];refine⟨fun hh q hq=> ?_,fun hh q hq=> ?_⟩
   ·rw[<-he q.2 (by simp only[hop,Op.operands];exact a2b.2 ⟨q,hq,rfl⟩)];exact hh q hq
   ·rw[he q.2 (by simp only[hop,Op.operands];exact a2b.2 ⟨q,hq,rfl⟩)];exact hh q hq
  rw[<-e1,<-e2];exact hk
 case buildSlice t n parts=>
  have e1:(parts.toList.map fun q=>(q.1,ρ q.2))=parts.toList.map fun q=>(q.1,ρ2 q.2):=a2g fun q hq=>by
   rw[he q.2 (by simp only[hop,Op.operands];exact a2b.2 ⟨q,hq,rfl⟩)]
  have e2:(parts.toList.all fun q=>(ρ q.2).j0g h)=parts.toList.all fun q=>(ρ2 q.2).j0g h:=by
   rw[a1g,a0l,a0l];refine⟨fun hh q hq=> ?_,fun hh q hq=> ?_⟩
   ·rw[<-he q.2 (by simp only[hop,Op.operands];exact a2b.2 ⟨q,hq,rfl⟩)];exact hh q hq
   ·rw[he q.2 (by simp only[hop,Op.operands];exact a2b.2 ⟨q,hq,rfl⟩)];exact hh q hq
  rw[<-e1,<-e2];exact hk
 case load t y=>rw[<-he y (by simp[hop,Op.operands])];exact hk
 case nilCheck y=>rw[<-he y (by simp[hop,Op.operands])];exact hk
 case binOp op t y z u=>rw[<-he y (by simp[hop,Op.operands]),<-he z (by simp[hop,Op.operands])];exact hk
 case unOp op t y=>rw[<-he y (by simp[hop,Op.operands])];exact hk
 case convert s t y=>rw[<-he y (by simp[hop,Op.operands])];exact hk
 case makeFunc fn first caps=>
  have e1:caps.toList.map ρ=caps.toList.map ρ2:=a2g fun q hq=>he q (by simp[hop,Op.operands];right;simpa using hq)
  have e2: ∀y∈first.toList,ρ y=ρ2 y:=fun y hy=>he y (by simp[hop,Op.operands];left;simpa using hy)
  obtain⟨l⟩:=first;cases fn<;>(try (cases hk;done))
  match l,hk,e2 with
  | [],hk,_=>simp only at hk ⊢;rw[<-e1];exact hk
  | [y],hk,e2=>simp only at hk ⊢;rw[<-e2 y (by simp)];exact hk
  |_::_::_,hk,_=>cases hk
 case typeAssert y _ _ _=>rw[<-he y (by simp[hop,Op.operands])];exact hk
 case makeInterface t y=>rw[<-he y (by simp[hop,Op.operands])];exact hk
 case slice t y lo hi mx=>
  have e1:lo.map ρ=lo.map ρ2:=by cases lo with
   |none=>rfl
   |some q=>simp[he q (by simp[hop,Op.operands])]
  have e2:hi.map ρ=hi.map ρ2:=by cases hi with
   |none=>rfl
   |some q=>simp[he q (by simp[hop,Op.operands])]
  rw[<-he y (by simp[hop,Op.operands]),<-e1,<-e2];exact hk
 case fieldAddr s y f=>rw[<-he y (by simp[hop,Op.operands])];exact hk
 case field t y f=>rw[<-he y (by simp[hop,Op.operands])];exact hk
 case lookup t y z c=>rw[<-he y (by simp[hop,Op.operands]),<-he z (by simp[hop,Op.operands])];exact hk
 case indexAddr t y z=>rw[<-he y (by simp[hop,Op.operands]),<-he z (by simp[hop,Op.operands])];exact hk
 case index t y z=>rw[<-he y (by simp[hop,Op.operands]),<-he z (by simp[hop,Op.operands])];exact hk
 case extract y i=>rw[<-he y (by simp[hop,Op.operands])];exact hk
 case call c=>
  obtain⟨cal,args,ts⟩:=c;have hargs:args.toList.map ρ=args.toList.map ρ2:=a2g fun q hq=>he q (by
   simp only[hop,Op.operands,Call.operands,Array.toList_append,a1o];right;exact hq)
  cases cal with
  |value q=>
   have hmem: ∀q,q∈args.toList->ρ q=ρ2 q:=fun q hq=>he q (by
    simp only[hop,Op.operands,Call.operands,Array.toList_append,a1o];right;exact hq)
   have hq:ρ q=ρ2 q:=he q (by simp[hop,Op.operands,Call.operands])
   obtain⟨l⟩:=args
   match l,hk,hmem with
   | [],hk,_=>cases hk
   | [_],hk,_=>cases hk
   | [y,z],hk,hmem=>simp only at hk ⊢;rw[<-hq,<-hmem y (by simp),<-hmem z (by simp)];exact hk
   |_::_::_::_,hk,_=>cases hk
  |invoke r m=>cases hk
  |builtin b=>
   have hmem: ∀q,q∈args.toList->ρ q=ρ2 q:=fun q hq=>he q (by
    simp only[hop,Op.operands,Call.operands,Array.toList_append,a1o];right;exact hq)
   obtain⟨l⟩:=args;cases b<;>(try (cases hk;done))
   case len=>
    match l,hk,hmem with
    | [y],hk,hmem=>simp only at hk ⊢;rw[<-hmem y (by simp)];exact hk
   case cap=>
    match l,hk,hmem with
    | [y],hk,hmem=>simp only at hk ⊢;rw[<-hmem y (by simp)];exact hk
   case max=>
    match l,hk,hmem with
    | [y,z],hk,hmem=>simp only at hk ⊢;rw[<-hmem y (by simp),<-hmem z (by simp)];exact hk
   case min=>
    match l,hk,hmem with
    | [y,z],hk,hmem=>simp only at hk ⊢;rw[<-hmem y (by simp),<-hmem z (by simp)];exact hk
def x8p (he: ∀y,y∈o.op.operands.toList->ρ y=ρ2 y):x5z P ρ o=x5z P ρ2 o:=by
 unfold x5z;split
 ·rename_i y args ts hop;have hargs:args.toList.map ρ=args.toList.map ρ2:=a2g fun q hq=>he q (by
   simp only[hop,Op.operands,Call.operands,Array.toList_append,a1o];right;exact hq)
  have hy:ρ y=ρ2 y:=he y (by simp[hop,Op.operands,Call.operands])
  rw[hargs];cases y<;>first|rfl|simp only[hy]
 ·rfl
def x7l (hE:E.Ok)(hG:x2l P E)(hf: ∀f,ρ (.func f)= .fn f [])(hk:(w2m sy P C h ρ o).run E=some x): ∀h2,Pre h h2->x0p P [] h2 h2 (x3n o ρ) o x:=by
 have hc0:=x8p (P:=P) (ρ:=ρ) (ρ2:=x3n o ρ) (o:=o) (fun y hy=>(x7g hf hy).symm)
 unfold w2m at hk;rw[hc0]at hk;split at hk
 ·rename_i f vs hc;simp only at hk;split at hk
  ·rename_i hp hs;obtain⟨y,args,ts,hop,hy⟩:=x3u hc (z4r o ρ);obtain⟨q1,q2,_⟩:=x6i hE hG hp hs hk;exact fun h2 _=>x6d hop hy (x3w hs) (q1.hcall hp q2 h2).can
  ·cases hk
 ·exact y6i hE (v1v (fun y hy=>(x7g hf hy).symm) hk)
def y6u {β:Type}{t:List V}{exec pass:List V->Tree β}{r:β}(hk:(u1i ops o t exec pass).run E=some r):
  (x5v ops o t=some true/\(exec t).run E=some r)\/(x5v ops o t=some false/\(pass t).run E=some r):=by
 unfold u1i at hk;split at hk
 ·rename_i hg;exact .inl ⟨by simp[x5v,hg],hk⟩
 ·rename_i j want hg;split at hk
  ·rename_i k hjk;split at hk
   ·rename_i c hc;have hw:x5v ops o t=some (c == want):=by simp[x5v,hg,hjk,hc]
    split at hk<;>cases c<;>simp only[Tree.run,w3q hc]at hk
    ·exact .inr ⟨by rw[hw];rfl,hk⟩
    ·exact .inl ⟨by rw[hw];rfl,hk⟩
    ·exact .inl ⟨by rw[hw];rfl,hk⟩
    ·exact .inr ⟨by rw[hw];rfl,hk⟩
   ·rename_i hc;exact .inr ⟨by simp[x5v,hg,hjk,hc],hk⟩
   ·cases hk
  ·cases hk
def y8x (hE:E.Ok)(hG:x2l P E){r:List V × List Box}: ∀ {os:List Oper} {t:List V} {hb:List Box},(q8j sy P C ops h0 os t hb).run E=some r->k8o P ops h0 (fun t hb=>(t,hb)=r) os t hb
 | [],_,_,hk=>by cases hk;rfl
 |o::os,t,hb,hk=>by
  unfold q8j at hk;rcases y6u hk with⟨hw,hk⟩|⟨hw,hk⟩
  ·cases hal:z3f P o with
   |some b=>
    simp only[hal]at hk;cases hb with
    |nil=>simp only[forceL_eq]at hk;exact⟨_,_, .inl ⟨hw, .inr ⟨rfl,rfl,b,hal,rfl⟩⟩,y8x hE hG hk⟩
    |cons=>cases hk
   |none=>
    simp only[hal]at hk;obtain⟨x,h1,hk⟩:=x0c hE hk;rw[forceL_eq]at hk;exact⟨x,hb, .inl ⟨hw, .inl ⟨rfl,x7l hE hG (fun f=>rfl) h1⟩⟩,y8x hE hG hk⟩
  ·rw[forceL_eq]at hk;exact⟨.tup [],hb, .inr ⟨hw,rfl,rfl⟩,y8x hE hG hk⟩
def v5z {t:TypeId}{y z:Operand}{r:Nat × Box}(hop:o.op= .store t y z)(hk:(stT sy P (z1i h0 W) W h0.length hh t (ρ y) (ρ z)).run E=some r):
  ∃c,hh[r.1]? =some c/\r.1∈W/\r.1 < h0.length/\(∀h2,y7z W h0 h2->h2[r.1]? =some c->x0p P [] h2 (h2.set r.1 r.2) ρ o .any):=by
 unfold stT at hk;split at hk
 ·rename_i ns hn hl;split at hk
  ·rename_i b off hy;split at hk
   ·rename_i bt vs hW hb;simp only[a0g,List.contains_eq_mem,a0p]at hW;split at hk
    ·rename_i c1 c2 c3;cases hk;exact⟨_,hb,hW.1,hW.2,fun h2 hp hb2=>y2e hop hy hb2 hn (a0l.2 fun q hq=>w4o hp.pre (a0l.1 c1 q hq)) (a0e c2) (a0e c3) (y4y hp.pre hl)⟩
    ·cases hk
   ·cases hk
  ·rename_i b sz i off hy;split at hk
   ·rename_i e sz' rows ss hW hb hss;simp only[a0g,List.contains_eq_mem,a0p]at hW;split at hk
    ·rename_i ds c1 hd;have c1:=a0e c1;subst c1;split at hk
     ·rename_i c2 c3;obtain⟨hi,hk⟩:=x1b hk;cases hk;exact⟨_,hb,hW.1,hW.2,fun h2 hp hb2=>y2d hop hy hb2 (a0e hi) hn hd (a0e c2) (a0e c3) (y4y hp.pre hl)⟩
     ·cases hk
    ·cases hk
   ·cases hk
  ·cases hk
 ·cases hk
def x9m (hE:E.Ok)(hG:x2l P E){r:List V × List Box}: ∀ {os:List Oper} {k:Nat} {cl:Bool} {t:List V} {hh:List Box},y7z W h0 hh->(cl=true->Pre h0 hh)->(z9u sy P C ops W h0 k os cl t hh).run E=some r->q1b P ops W h0 (fun t hh=>(t,hh)=r) k os t hh
 | [],_,_,_,_,_,_,hk=>by cases hk;rfl
 |o::os,k,cl,t,hh,hpw,hpc,hk=>by
  unfold z9u at hk;rcases y6u hk with⟨hw,hk⟩|⟨hw,hk⟩
  ·split at hk
   ·rename_i ty y z hop;have e1:x3n o (VSt.get ⟨t,h0⟩) y=VSt.get ⟨t,h0⟩ y:=x7g (fun f=>rfl) (by rw[hop];simp[Op.operands])
    have e2:x3n o (VSt.get ⟨t,h0⟩) z=VSt.get ⟨t,h0⟩ z:=x7g (fun f=>rfl) (by rw[hop];simp[Op.operands])
    rw[<-e1,<-e2]at hk;obtain⟨⟨b,c'⟩,h1,hk⟩:=x0c hE hk;obtain⟨c,hb,hbW,hbn,hg⟩:=v5z hop h1;simp only[forceL_eq,forceH_eq]at hk;refine⟨.any,_,⟨.st b c c',⟨hw,by simp[isSt,hop],hg⟩,⟨hb,hpw,hbW,hbn⟩,rfl⟩,x9m hE hG ((u8c hbW c').2 hpw) (fun h=>by cases h) hk⟩
   ·split at hk
    ·rename_i b hal;split at hk
     ·rename_i hl;have hl:=a0e hl;rw[forceL_eq]at hk;exact⟨_,_,⟨.alloc b,⟨hw,rfl,hal⟩,hl,rfl⟩,x9m hE hG ((y4m hl b).2 hpw) (fun hc=>(u4o hl b).2 (hpc hc)) hk⟩
     ·cases hk
    ·split at hk
     ·rename_i hce;simp only[a0g]at hce;obtain⟨x,h1,hk⟩:=x0c hE hk;rw[forceL_eq]at hk;exact⟨x,hh,⟨.early,⟨hw,hce.2,x7l hE hG (fun f=>rfl) h1⟩,hpc hce.1,rfl⟩,x9m hE hG hpw hpc hk⟩
     ·obtain⟨x,h1,hk⟩:=x0c hE hk;rw[forceL_eq]at hk;have h1:=x7l hE hG (fun f=>rfl) h1
      exact⟨x,hh,⟨.late,⟨hw,fun h2 hp=>h1 h2 hp.pre⟩,hpw,rfl⟩,x9m hE hG hpw hpc hk⟩
  ·rw[forceL_eq]at hk;exact⟨.tup [],hh,⟨.no,⟨hw,rfl⟩,trivial,rfl⟩,x9m hE hG hpw hpc hk⟩
def u2j (hnd: ∀(i:Nat) o,ops[i]? =some o->z1a o=true){ro:Option Nat}(hE:E.Ok)(hG:x2l P E){ent:Callee->List V->List Box->Tree (List Nat × V × List Box)}(hent:x7b P E ent){En:Ent}{id:Nat}{Q:Exit->Act->World->Prop}{s:VSt}{q:Option V × VSt}{a:Act}{w:World}(hm:P.follows .mixedOrders=true)
  (hk:(w0g sy P C ent En.g.n En.M ops s).run E=some q) (hs:x1t En s a w) (hq: ∀e a' w',q9b En q e a' w'->Q e a' w'):(Code.region id ops true).wpIn (Fw ro) 0 P Q a w:=by
 unfold w0g at hk;split at hk
 ·rename_i hB;rw[x4g,forceSp_eq,forceSp_eq]at hk;have hs:x1t En (w5j P C ops s) a w:=hs.frzs;generalize w5j P C ops s=s at hk hs;obtain⟨r,h1,hk⟩:=x0c hE hk;rw[x4g]at hk;simp only[u6a,a0g]at hB;obtain⟨⟨⟨q1,q2⟩,q3⟩,q4⟩:=hB;have hml:x5c C ops<=ops.size:=by simp only[u3j,a0g,a0p]at q2;exact q2.1
  have hlen:(ops.toList.take (x5c C ops)).length=x5c C ops:=by simp[hml]
  have hany:=u6y (P:=P) (h0:=s.h) q1 (ops.toList.take (x5c C ops)) 0 (Array.replicate ops.size false) s.t [] (fun k ok hok hk=>by have hlt:=(a0r.1 hok).1;simp[Array.getElem?_replicate,hlt]at hk) (fun j hj=>by
   rw[hlen]at hj;rw[a1s,if_pos hj,a1z];simp) (by rw[hlen];exact q3) (y8x hE hG h1)
  rw[hlen]at hany;refine wpIn_region_any hm ?_;have:=z4h (ro:=ro) (Q:=Q) (E:=En) hnd q2 (rest:=ops.size - x5c C ops) (fun t hb a w hk' hs=> ?_) (x5c C ops) _ s.t [] a w.drew hany (by simp) (fun k hk=>by simp[Array.getElem?_replicate];split<;>rfl) (by rw[a0z];exact hs.drew)
  ·rw[Nat.sub_add_cancel hml]at this;exact this
  ·have hl2:(ops.toList.drop (x5c C ops)).length=ops.size - x5c C ops:=by simp
   subst hk';have:=v6f (ro:=ro) (P:=P) (Q:=Q) (ops.toList.drop (x5c C ops)) (x5c C ops) (y0u ops.size (x5c C ops)) a w (fun j=>by simp) (by rw[hl2];exact q4) (x9p hE hG hent _ (a0q _) hk hs fun e a2 w2 h=>hq e a2 w2 h.unk)
   rwa [hl2]at this
 ·split at hk
  ·rename_i hB;rw[x4g,forceSp_eq]at hk;have hs:x1t En (w5j P C ops s) a w:=hs.frzs;generalize w5j P C ops s=s at hk hs;obtain⟨r,h1,hk⟩:=x0c hE hk;cases hk;simp only[w0i,a0g]at hB;have hlex:=x9m hE hG (fun b x _ h=>h) (fun _=>Pre.refl s.h) h1
   have hany:=z8w hB.1 ops.toList 0 (Array.replicate ops.size false) s.t s.h (fun j=>by simp) (by simpa using hB.2) hlex
   refine wpIn_region_any hm ?_;have:=y9s (ro:=ro) (Q:=Q) (E:=En) hnd (fun t hh a w hk' hs=>by subst hk';exact hq .normal a w ⟨rfl,hs⟩) ops.toList.length _ s.t s.h a w.drew hany hs.drew
   simpa using this
  ·cases hk
end
end Go.Vm
end
