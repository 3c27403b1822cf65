/- Part RBB of the proof. What is proved by the whole: the statement that the claim names, with no condition. -/
import Derived.Test.YtdilhaphlahfjaaGreatDoorRBA
import Derived.Laws.StructEq
import Derived.Still
import Derived.WalkKit
import Derived.TacticsIn
import Derived.OrdersIn
import Derived.RangeFuncRecord
import Derived.Deep.LoopGhost
import Derived.Scope
import Derived.Laws.CopyRow
import Derived.Lib.Bytealg
import Derived.Laws.Externs
set_option linter.all false
section
namespace Go.Vm
section
variable {P : Program} {M : List Nat} {h h' : List Box} {B : Operand -> V} {o : Oper} {x : V}
def D.shE:D->Option Sh
 | .int k _=>some (.int k)
 | .bool _=>some .bool
 | .str _=>some .str
 | .sl _ _=>none
def shD:List D->Option (List Sh)
 | []=>some []
 |x::xs=>match x.shE,shD xs with
  |some s,some ss=>some (s::ss)
  |_,_=>none
def z8q (P:Program)(t:TypeId)(s:Sh):Bool:=match P.underlying t,s with
 |some (.int _), .int _=>true
 |some .bool, .bool=>true
 |some .string, .str=>true
 |_,_=>false
def okF (P:Program):Nat->List Field->List Sh->Bool
 |_,[],[]=>true
 |i,f::fs,s::ss=>f.name != "_" &&decide (f.offset=i)&&z8q P f.type s&&okF P (i+1) fs ss
 |_,_,_=>false
def q8b (P:Program)(t:TypeId)(ss:List Sh):Option Nat:=match P.underlying t with
 |some (.struct gs)=>match !P.stoodInHeld t&&okF P 0 gs.toList (ss.take gs.size)&&decide (szO P t=some gs.size)&&y2s P t with
  |true=>some gs.size
  |false=>none
 |_=>none
def okN (P:Program):Nat->List Field->List Sh->Bool
 |_,[],[]=>true
 |i,f::fs,ss=>f.name != "_" &&decide (f.offset=i)&&match q8b P f.type ss with
  |some n=>okN P (i+n) fs (ss.drop n)
  |none=>match ss with
   |s::r=>z8q P f.type s&&okN P (i+1) fs r
   | []=>false
 |_,_,_=>false
def v2l (P:Program)(t:TypeId)(ss:List Sh):Bool:=match P.underlying t with
 |some (.struct fs)=> !P.stoodInHeld t&& !P.eqGuardType P.depth t&&okN P 0 fs.toList ss
 |_=>false
def eqD:D->D->Bool
 | .int _ a, .int _ b=>a == b
 | .bool a, .bool b=>a == b
 | .str a, .str b=>a.toList == b.toList
 |_,_=>false
def y5z:List D->List D->Bool
 |x::xs,y::ys=>eqD x y&&y5z xs ys
 |_,_=>true
def y8h {w:World}{Z:Nat->Nat->Prop}{t:TypeId}{s:Sh}{c e:D}{u v:Value}(d:Nat)(hl:z8q P t s=true)(hc:c.shE=some s)(he:e.shE=some s)(hu:RepD w Z u c)(hv:RepD w Z v e):
  (Op.equalIn (d+1) t u v).run P w= .ok (eqD c e) w:=by
 cases hu with
 |int k n=>
  cases hc;cases hv with
  |int k' n'=>
   simp only[D.shE,Option.some.injEq,Sh.int.injEq]at he;subst he;unfold z8q at hl;split at hl
   ·rw[run_equalIn_int w d t _ _ _ _ ‹_›];rfl
   ·rename_i h1 h2;cases h2
   ·rename_i h1 h2;cases h2
   ·cases hl
  |_=>cases he
 |bool b=>
  cases hc;cases hv with
  |bool b'=>
   unfold z8q at hl;split at hl
   ·rename_i h1 h2;cases h2
   ·rw[run_equalIn_bool' w d t _ _ ‹_›];rfl
   ·rename_i h1 h2;cases h2
   ·cases hl
  |_=>cases he
 |str b=>
  cases hc;cases hv with
  |str b'=>
   unfold z8q at hl;split at hl
   ·rename_i h1 h2;cases h2
   ·rename_i h1 h2;cases h2
   ·rw[run_equalIn_string w d t _ _ ‹_›];rfl
   ·cases hl
  |_=>cases he
 |_=>cases hc
def u6g {t:TypeId}{s:Sh}(hl:z8q P t s=true):(P.underlying t).isSome=true/\y2s P t=false:=by
 unfold z8q at hl;unfold y2s;split at hl<;>simp_all
def y6z: ∀(cs:List D) (i:Nat) {s:Sh} {ss:List Sh},shD (cs.drop i)=some (s::ss)-> ∃c,cs[i]? =some c/\c.shE=some s/\shD (cs.drop (i+1))=some ss/\cs.drop i=c::cs.drop (i+1):=by
 intro cs i s ss h;cases hd:cs.drop i with
 |nil=>rw[hd]at h;simp[shD]at h
 |cons c r=>
  rw[hd]at h;have hr:r=cs.drop (i+1):=by rw[<-List.drop_drop,hd];rfl
  have hi:cs[i]? =some c:=by
   have:=congrArg (·[0]?) hd
   simpa using this
  unfold shD at h;split at h
  ·rename_i s' ss' h1 h2;simp only[Option.some.injEq,List.cons.injEq]at h;obtain⟨rfl,rfl⟩:=h;exact⟨c,hi,h1,hr▸h2,by rw[hr]⟩
  ·cases h
def y5n {w:World}{Z:Nat->Nat->Prop}{xs ys:Array Value}{cs ds:List D}(d:Nat)(hx: ∀(j:Nat) c,cs[j]? =some c-> ∃u,xs[j]? =some u/\RepD w Z u c)
  (hy: ∀(j:Nat) c,ds[j]? =some c-> ∃u,ys[j]? =some u/\RepD w Z u c): ∀(fs:List Field) (ss:List Sh) (i:Nat),okF P i fs ss=true->shD (cs.drop i)=some ss->shD (ds.drop i)=some ss->
  (Op.eqFields (d+1) xs ys fs).run P w= .ok (y5z (cs.drop i) (ds.drop i)) w
 | [],ss,i,ho,h1,h2=>by
   cases ss with
   |cons s ss=>simp[okF]at ho
   |nil=>
    have:cs.drop i= []:=by
     cases hd:cs.drop i with
     |nil=>rfl
     |cons c r=>rw[hd]at h1;unfold shD at h1;split at h1<;>simp at h1
    rw[this];simp[Op.eqFields,y5z]
 |f::fs,[],i,ho,h1,h2=>by simp[okF]at ho
 |f::fs,s::ss,i,ho,h1,h2=>by
  obtain⟨c,hc,hcs,h1',e1⟩:=y6z cs i h1;obtain⟨e,he,hes,h2',e2⟩:=y6z ds i h2;obtain⟨u,hu,ru⟩:=hx i c hc;obtain⟨v,hv,rv⟩:=hy i e he;unfold okF at ho;simp only[a0g,bne_iff_ne,a0u]at ho;obtain⟨⟨⟨hn,hoff⟩,hl⟩,ho⟩:=ho;obtain⟨ha1,ha2⟩:=u6g hl;have ih:=y5n d hx hy fs ss (i+1) ho h1' h2';have p1:(part f.type xs f.offset).run P w= .ok u w:=by
   simp only[part,Sem.run_bind,x1i ha1 ha2,Result.andThen_ok,hoff,hu];simp
  have p2:(part f.type ys f.offset).run P w= .ok v w:=by
   simp only[part,Sem.run_bind,x1i ha1 ha2,Result.andThen_ok,hoff,hv];simp
  rw[e1,e2];unfold Op.eqFields y5z;rw[if_pos hn];simp only[Sem.run_bind,p1,p2,Result.andThen_ok,y8h d hl hcs hes ru rv];cases hq:eqD c e with
  |false=>simp
  |true=>simpa using ih
def v2r: ∀ {cs:List D} {ss:List Sh},shD cs=some ss->cs.length=ss.length
 | [],ss,h=>by cases h;rfl
 |c::cs,ss,h=>by
  unfold shD at h;split at h
  ·rename_i s ss' h1 h2;cases h;simp[v2r h2]
  ·cases h
def z4m: ∀(n:Nat) {cs:List D} {ss:List Sh},shD cs=some ss->shD (cs.take n)=some (ss.take n)/\shD (cs.drop n)=some (ss.drop n)
 |0,cs,ss,h=>⟨by simp[shD],by simpa using h⟩
 |n+1,[],ss,h=>by cases h;exact⟨rfl,rfl⟩
 |n+1,c::cs,ss,h=>by
  unfold shD at h;split at h
  ·rename_i s ss' h1 h2;cases h;obtain⟨h3,h4⟩:=z4m n h2;refine⟨?_,by simpa using h4⟩
   simp only[List.take_succ_cons];unfold shD;rw[h1,h3]
  ·cases h
def z3q: ∀(n:Nat) (xs ys:List D),y5z xs ys=(y5z (xs.take n) (ys.take n)&&y5z (xs.drop n) (ys.drop n))
 |0,xs,ys=>by simp[y5z]
 |n+1,[],ys=>by simp[y5z]
 |n+1,x::xs,[]=>by simp[y5z]
 |n+1,x::xs,y::ys=>by
  simp only[List.take_succ_cons,List.drop_succ_cons,y5z];rw[z3q n xs ys,Bool.and_assoc]
def x9g {w:World}{Z:Nat->Nat->Prop}{xs ys:Array Value}{cs ds:List D}(d:Nat)(hx: ∀(j:Nat) c,cs[j]? =some c-> ∃u,xs[j]? =some u/\RepD w Z u c)
  (hy: ∀(j:Nat) c,ds[j]? =some c-> ∃u,ys[j]? =some u/\RepD w Z u c): ∀(fs:List Field) (ss:List Sh) (i:Nat),okN P i fs ss=true->shD (cs.drop i)=some ss->shD (ds.drop i)=some ss->
  (Op.eqFields (d+2) xs ys fs).run P w= .ok (y5z (cs.drop i) (ds.drop i)) w
 | [],ss,i,ho,h1,h2=>by
   cases ss with
   |cons s ss=>simp[okN]at ho
   |nil=>
    have:cs.drop i= []:=List.length_eq_zero_iff.1 (by rw[v2r h1];rfl)
    rw[this];simp[Op.eqFields,y5z]
 |f::fs,ss,i,ho,h1,h2=>by
  unfold okN at ho;simp only[a0g,bne_iff_ne,a0u]at ho;obtain⟨⟨hn,hoff⟩,ho⟩:=ho;split at ho
  ·rename_i n hnb;unfold q8b at hnb;split at hnb
   ·rename_i gs hu;split at hnb
    ·rename_i hc;cases hnb;simp only[a0g,Bool.not_eq_true',a0u]at hc;obtain⟨⟨⟨s1,s2⟩,s3⟩,s4⟩:=hc;obtain⟨t1,d1⟩:=z4m gs.size h1;obtain⟨t2,d2⟩:=z4m gs.size h2;rw[List.drop_drop]at d1 d2;have ih:=x9g d hx hy fs _ (i+gs.size) ho d1 d2;have hsub: ∀ {zs:Array Value} {es:List D},(∀(j:Nat) c,es[j]? =some c-> ∃u,zs[j]? =some u/\RepD w Z u c)-> ∀(j:Nat) c,((es.drop i).take gs.size)[j]? =some c-> ∃u,(zs.extract i (i+gs.size))[j]? =some u/\RepD w Z u c:=by
      intro zs es hz j c hj;rw[a1t]at hj;split at hj
      ·rename_i hlt;rw[a1v]at hj;obtain⟨u,hu,hr⟩:=hz (i+j) c hj;have hsz:i+j < zs.size:=(a0s.1 hu).1;refine⟨u,?_,hr⟩;rw[Array.getElem?_extract,if_pos (by omega)]
       exact hu
      ·cases hj
     have p: ∀(zs:Array Value),(part f.type zs f.offset).run P w= .ok (.agg (zs.extract i (i+gs.size))) w:=fun zs=>by
      simp only[part,Sem.run_bind,x1i (by rw[hu];rfl) s4,Result.andThen_ok,hoff]
      simp only[if_true,x0z s3,Sem.run_bind,Sem.run_pure,Result.andThen_ok]
     have hf:P.fieldsOf f.type=gs:=by unfold Program.fieldsOf;rw[hu]
     have key:(Op.equalIn (d+2) f.type (.agg (xs.extract i (i+gs.size))) (.agg (ys.extract i (i+gs.size)))).run P w= .ok (y5z ((cs.drop i).take gs.size) ((ds.drop i).take gs.size)) w:=by
      rw[run_equalIn_struct w (d+1) f.type _ _ (by rw[hf];exact hu) s1,hf]
      have:=y5n d (hsub hx) (hsub hy) gs.toList (ss.take gs.size) 0 s2 (by simpa using t1) (by simpa using t2)
      simpa using this
     rw[z3q gs.size (cs.drop i),List.drop_drop,List.drop_drop];unfold Op.eqFields;rw[if_pos hn];simp only[Sem.run_bind,p,Result.andThen_ok,key];cases hq:y5z ((cs.drop i).take gs.size) ((ds.drop i).take gs.size)with
     |false=>simp
     |true=>simpa using ih
    ·cases hnb
   ·cases hnb
  ·split at ho
   ·rename_i s r _;simp only[a0g]at ho;obtain⟨hl,ho⟩:=ho;obtain⟨c,hc,hcs,h1',e1⟩:=y6z cs i h1;obtain⟨e,he,hes,h2',e2⟩:=y6z ds i h2;obtain⟨u,hu,ru⟩:=hx i c hc;obtain⟨v,hv,rv⟩:=hy i e he;obtain⟨ha1,ha2⟩:=u6g hl;have ih:=x9g d hx hy fs r (i+1) ho h1' h2';have p1:(part f.type xs f.offset).run P w= .ok u w:=by
     simp only[part,Sem.run_bind,x1i ha1 ha2,Result.andThen_ok,hoff,hu];simp
    have p2:(part f.type ys f.offset).run P w= .ok v w:=by
     simp only[part,Sem.run_bind,x1i ha1 ha2,Result.andThen_ok,hoff,hv];simp
    rw[e1,e2];unfold Op.eqFields y5z;rw[if_pos hn];simp only[Sem.run_bind,p1,p2,Result.andThen_ok,y8h (d+1) hl hcs hes ru rv];cases hq:eqD c e with
    |false=>simp
    |true=>simpa using ih
   ·cases ho
def u5h {w:World}{g:Gh}{u:Value}{cs:List D}(hr:Rep w g u (.agg (cs.map .d))): ∃us,u= .agg us/\ ∀(j:Nat) c,cs[j]? =some c-> ∃u,us[j]? =some u/\RepD w g.Z u c:=by
 cases hr with
 |agg us cs' hl h=>
  refine⟨us,rfl,fun j c hc=> ?_⟩
  have hj:j < us.size:=by rw[hl];simp;exact(a0c.1 hc).1
  have hu:us[j]? =some us[j]:=a0x hj;exact⟨_,hu,y0q (h j _ (.d c) hu (by simp[hc]))⟩
def z3n {op:BinOp}{t u:TypeId}{y z:Operand}{cs ds:List D}{ss:List Sh}{c:Bool}(hop:o.op= .binOp op t y z u)(hy1:B y= .agg (cs.map .d))(hz1:B z= .agg (ds.map .d))
  (hs:v2l P t ss=true) (h1:shD cs=some ss) (h2:shD ds=some ss) (hd:(match op with| .eql=>some (y5z cs ds)| .neq=>some (!y5z cs ds)|_=>none)=some c):x0o P [] h h B o (.d (.bool c)):=
 .pure fun g B' w _ hy=>by
  obtain⟨xs,e1,hx⟩:=u5h (hy1▸hy y);obtain⟨ys,e2,hyy⟩:=u5h (hz1▸hy z);unfold v2l at hs;split at hs
  ·rename_i fs hu;simp only[a0g,Bool.not_eq_true']at hs;obtain⟨⟨s1,s2⟩,s3⟩:=hs;have hf:P.fieldsOf t=fs:=by unfold Program.fieldsOf;rw[hu]
   have key:(Op.equalIn 10000 t (.agg xs) (.agg ys)).run P w= .ok (y5z cs ds) w:=by
    rw[run_equalIn_struct w 9999 t xs ys (by rw[hf];exact hu) s1,hf]
    exact x9g 9997 hx hyy fs.toList ss 0 s3 h1 h2
   refine⟨.bool c,?_, .d (.bool _)⟩;cases op<;>cases hd<;>
    simp only[execOp,hop,e1,e2,Sem.run_bind,run_eqGuard_agg _ _ _ _ _ _ _ s2,Result.andThen_ok,run_eql_struct,run_neq_struct,key,Sem.run_pure]
  ·cases hs
end
section
variable {P : Program} {M : List Nat} {h h' : List Box} {B : Operand -> V} {o : Oper} {x : V}
def z4c (w:World)(g:Gh)(us:List Value)(vs:List V):Prop:=us.length=vs.length/\ ∀(i:Nat) u v,us[i]? =some u->vs[i]? =some v->Rep w g u v
def x9v (P:Program)(M:List Nat)(f:FuncId)(args:List V)(h:List Box)(r:V)(h':List Box):Prop:=
 ∀(g:Gh) (w:World) (us:List Value),SimH g h w->z4c w g us args->
  Calls P f us.toArray w fun e w'=> ∃u g',e= .returned u/\Rep w' g' u r/\Keep M g h w g' h' w'
def g0 (Z:Nat->Nat->Prop):Gh:= { Z:=Z,n:=0,blk:=fun _=>0,val:=fun _=>undef,cd:=fun _=>none }
def z1n (P:Program)(f:FuncId)(args:List V)(r:V):Prop:=x9v P [] f args [] r []
def V.j0i:V->Bool
 | .any| .nils| .d _| .pel _| .nilp| .nilf| .ifn _| .ifc .. | .ifo .. =>true
 |_=>false
def V.j0e:V->Bool
 | .agg cs=>cs.all V.j0i
 | .tup cs=>cs.all V.j0i
 | .fn _ cs=>cs.all V.j0i
 |v=>v.j0i
def V.j0n:V->Bool
 | .tup cs=>cs.all V.j0e
 |v=>v.j0e
def v3m {w:World}{g g':Gh}(hz:g'.Z=g.Z){u:Value}{v:V}(hp:v.j0i=true)(hr:Rep w g u v):Rep w g' u v:=by
 cases hr with
 |any u=>exact .any u
 |nils=>exact .nils
 |d h=>exact .d (by rwa [hz])
 |pel blk off cs U hZ hc hr=>exact .pel blk off cs U (by rwa [hz]) hc (by rwa [hz])
 |nilp=>exact .nilp
 |nilf=>exact .nilf
 |ifn0=>exact .ifn0
 |ifn1 t p=>exact .ifn1 t p
 |ifc t us cs hl h=>exact .ifc t us cs hl (by rwa [hz])
 |ifo0 t cs=>exact .ifo0 t cs
 |ifo1 t us cs hl h=>exact .ifo1 t us cs hl (by rwa [hz])
 |_=>simp[V.j0i]at hp
def x8o {w:World}{g g':Gh}(hz:g'.Z=g.Z){u:Value}{v:V}(hp:v.j0e=true)(hr:Rep w g u v):Rep w g' u v:=by
 have aux: ∀(us:Array Value) (cs:List V),(∀(i:Nat) u c,us[i]? =some u->cs[i]? =some c->Rep w g u c)->cs.all V.j0i=true->
     ∀(i:Nat) u c,us[i]? =some u->cs[i]? =some c->Rep w g' u c:=fun us cs h ha i u c hu hc=>
  v3m hz (a0l.1 ha c (a0p hc)) (h i u c hu hc)
 cases hr with
 |agg us cs hl h=>exact .agg us cs hl (aux us cs h hp)
 |tup us cs hl h=>exact .tup us cs hl (aux us cs h hp)
 |fn f us cs hl h=>exact .fn f us cs hl (aux us cs h hp)
 |any u=>exact .any u
 |nils=>exact .nils
 |d h=>exact .d (by rwa [hz])
 |pel blk off cs U hZ hc hr=>exact .pel blk off cs U (by rwa [hz]) hc (by rwa [hz])
 |nilp=>exact .nilp
 |nilf=>exact .nilf
 |ifn0=>exact .ifn0
 |ifn1 t p=>exact .ifn1 t p
 |ifc t us cs hl h=>exact .ifc t us cs hl (by rwa [hz])
 |ifo0 t cs=>exact .ifo0 t cs
 |ifo1 t us cs hl h=>exact .ifo1 t us cs hl (by rwa [hz])
 |own b hb=>simp[V.j0e,V.j0i]at hp
 |ptr b off hb=>simp[V.j0e,V.j0i]at hp
 |mv f b off hb=>simp[V.j0e,V.j0i]at hp
 |ifp f b off hb=>simp[V.j0e,V.j0i]at hp
 |pml b sz i off hb=>simp[V.j0e,V.j0i]at hp
 |map b hb=>simp[V.j0e,V.j0i]at hp
 |yld b R hb hc=>simp[V.j0e,V.j0i]at hp
 |osl b sz lo n u hb hu=>simp[V.j0e,V.j0i]at hp
def z7r {w:World}{g g':Gh}(hz:g'.Z=g.Z){u:Value}{v:V}(hp:v.j0n=true)(hr:Rep w g u v):Rep w g' u v:=by
 cases hr with
 |tup us cs hl h=>exact .tup us cs hl fun i u c hu hc=>x8o hz (a0l.1 hp c (a0p hc)) (h i u c hu hc)
 |agg us cs hl h=>exact x8o hz hp (.agg us cs hl h)
 |fn f us cs hl h=>exact x8o hz hp (.fn f us cs hl h)
 |any u=>exact .any u
 |nils=>exact .nils
 |d h=>exact .d (by rwa [hz])
 |pel blk off cs U hZ hc hr=>exact .pel blk off cs U (by rwa [hz]) hc (by rwa [hz])
 |nilp=>exact .nilp
 |nilf=>exact .nilf
 |ifn0=>exact .ifn0
 |ifn1 t p=>exact .ifn1 t p
 |ifc t us cs hl h=>exact .ifc t us cs hl (by rwa [hz])
 |ifo0 t cs=>exact .ifo0 t cs
 |ifo1 t us cs hl h=>exact .ifo1 t us cs hl (by rwa [hz])
 |own b hb=>simp[V.j0n,V.j0e,V.j0i]at hp
 |ptr b off hb=>simp[V.j0n,V.j0e,V.j0i]at hp
 |mv f b off hb=>simp[V.j0n,V.j0e,V.j0i]at hp
 |ifp f b off hb=>simp[V.j0n,V.j0e,V.j0i]at hp
 |pml b sz i off hb=>simp[V.j0n,V.j0e,V.j0i]at hp
 |map b hb=>simp[V.j0n,V.j0e,V.j0i]at hp
 |yld b R hb hc=>simp[V.j0n,V.j0e,V.j0i]at hp
 |osl b sz lo n u hb hu=>simp[V.j0n,V.j0e,V.j0i]at hp
def y6y {Z:Nat->Nat->Prop}{w:World}(hz: ∀b o,Z b o->b < w.heap.size)(ht:z1l Z w):SimH (g0 Z) [] w:=
 ⟨rfl,by simp,by simp,by rintro k o ⟨b,x,hx,_⟩;simp at hx,hz,ht⟩
def z1n.hcall {f:FuncId}{args:List V}{r:V}(hp:z1n P f args r)(ha:args.all V.j0e=true)(hr:r.j0n=true)(h:List Box):x9v P [] f args h r h:=by
 intro g w us hs hu;refine(hp (g0 g.Z) w us (y6y hs.zlt hs.tab) ⟨hu.1,fun i u v h1 h2=>x8o (g:=g) (g':=g0 g.Z) rfl (a0l.1 ha v (a0p h2)) (hu.2 i u v h1 h2)⟩).mono ?_
 rintro e w' ⟨u,g',rfl,hru,hk⟩
 have hfr:Fr (fun _=>False) w w':=hk.fr.mono fun k hk=>by obtain⟨b,x,hx,_⟩:=hk;simp at hx
 let g2:Gh:= { g with Z:=g'.Z }
 have hle:g.Le (· ∈([]:List Nat)) g2:=⟨hk.le.Z,a0q _,fun _ _ _=>rfl,fun _ _ _=>rfl,fun _ _=>rfl⟩
 have ho:Over [] w g w' g2:=⟨hle,fun b o hz=>hfr.cell (hs.zlt b o hz) (fun h=>h)⟩
 have hzn: ∀b o,g'.Z b o->g.Z b o\/w.heap.size<=b:=fun b o hz=>by
  rcases hk.znew b o hz with h1|h1|h1
  ·exact .inl h1
  ·exact .inr h1
  ·obtain⟨c,x,hx,_⟩:=h1;simp at hx
 have hat: ∀(b:Nat) (x:Box),x.at? g2 b=x.at? g b:=fun b x=>by cases x<;>rfl
 have hown: ∀k,x2o g2 h k↔x2o g h k:=fun k=>⟨fun ⟨b,x,h1,h2⟩=>⟨b,x,h1,by rwa [hat]at h2⟩,fun ⟨b,x,h1,h2⟩=>⟨b,x,h1,by rwa [hat]⟩⟩
 refine⟨u,g2,rfl,z7r (g:=g') (g':=g2) rfl hr hru,⟨⟨hs.n,?_,?_,?_,hk.heap.zlt,hk.heap.tab⟩,hle,hfr.mono (fun _ h=>h.elim),fun b o hz=> ?_,fun k hk=> .inl ((hown k).1 hk)⟩⟩
 ·intro b x hx;have:=x1o.over ho (by rw[hs.n];exact(a0c.1 hx).1) (by simp) (fun k hk=>hfr.block k ((hs.rep b x hx).lt hk) (fun h=>h)) (hs.rep b x hx)
  rwa [Box.j0c]at this
 ·intro b c x y k h1 h2 h3 h4;rw[hat]at h3 h4;exact hs.sep b c x y k h1 h2 h3 h4
 ·intro k o hk hz;rw[hown]at hk;rcases hzn k o hz with h1|h1
  ·exact hs.zsep k o hk h1
  ·have:=hs.j0q hk;omega
 ·rcases hzn b o hz with h1|h1
  ·exact .inl h1
  ·exact .inr (.inl h1)
def v1e (P:Program)(f:FuncId)(args:List V)(e:TypeId)(sz:Nat)(rows:LL):Prop:=x9v P [] f args [] (.own 0) [.arr e sz rows]
def v1e.hcall {f:FuncId}{args:List V}{e:TypeId}{sz:Nat}{rows:LL}(hp:v1e P f args e sz rows)(ha:args.all V.j0e=true)(h:List Box):x9v P [] f args h (.own h.length) (h++[.arr e sz rows]):=by
 intro g w us hs hu;refine(hp (g0 g.Z) w us (y6y hs.zlt hs.tab) ⟨hu.1,fun i u v h1 h2=>x8o (g:=g) (g':=g0 g.Z) rfl (a0l.1 ha v (a0p h2)) (hu.2 i u v h1 h2)⟩).mono ?_
 rintro _ w' ⟨u,g',rfl,hru,hk⟩
 have hfr:Fr (fun _=>False) w w':=hk.fr.mono fun k hk=>by obtain⟨b,x,hx,_⟩:=hk;simp at hx
 let g3:Gh:= { Z:=g'.Z,n:=g.n+1,blk:=fun b=>if b=g.n then g'.blk 0 else g.blk b,val:=fun b=>if b=g.n then g'.val 0 else g.val b,cd:=fun b=>if b=g.n then none else g.cd b }
 have hb3: ∀b,b < g.n->g3.blk b=g.blk b/\g3.val b=g.val b:=fun b hb=>by simp[g3,Nat.ne_of_lt hb]
 have hn3:g3.blk g.n=g'.blk 0/\g3.val g.n=g'.val 0:=by simp[g3]
 have hle:g.Le (· ∈([]:List Nat)) g3:=⟨hk.le.Z,Nat.le_succ _,fun b hb _=>(hb3 b hb).1,fun b hb _=>(hb3 b hb).2,fun b hb=>by simp[g3,Nat.ne_of_lt hb]⟩
 have ho:Over [] w g w' g3:=⟨hle,fun b o hz=>hfr.cell (hs.zlt b o hz) (fun h=>h)⟩
 have hzn: ∀b o,g'.Z b o->g.Z b o\/w.heap.size<=b:=fun b o hz=>by
  rcases hk.znew b o hz with h1|h1|h1
  ·exact .inl h1
  ·exact .inr h1
  ·obtain⟨c,x,hx,_⟩:=h1;simp at hx
 have hat: ∀(b:Nat) (x:Box),b < g.n->x.at? g3 b=x.at? g b:=fun b x hb=>Box.at?_congr (hb3 b hb).1 (hb3 b hb).2 x
 have hat0:(Box.arr e sz rows).at? g3 g.n=(Box.arr e sz rows).at? g' 0:=by simp only[Box.at?,hn3.2]
 have hnew: ∀k,(Box.arr e sz rows).at? g3 g.n=some k->w.heap.size<=k/\x2o g' [.arr e sz rows] k:=fun k hk'=>by
  rw[hat0]at hk';have hO:x2o g' [.arr e sz rows] k:=⟨0,_,rfl,hk'⟩;rcases hk.own k hO with h1|h1
  ·obtain⟨c,x,hx,_⟩:=h1;simp at hx
  ·exact⟨h1,hO⟩
 have hget: ∀(b:Nat) y,(h++[Box.arr e sz rows])[b]? =some y->(b < g.n/\h[b]? =some y)\/(b=g.n/\y= .arr e sz rows):=by
  intro b y hy;rw[a0z]at hy;split at hy
  ·rename_i hb;exact .inl ⟨by rw[hs.n];exact hb,hy⟩
  ·rename_i hb;have h0:b - h.length=0:=by
    rcases Nat.eq_zero_or_pos (b - h.length)with h0|h0
    ·exact h0
    ·rw[a2b (by simp;omega)]at hy;cases hy
   rw[h0]at hy;simp at hy;exact .inr ⟨by rw[hs.n];omega,hy.symm⟩
 have hown: ∀k,x2o g3 (h++[.arr e sz rows]) k->x2o g h k\/(w.heap.size<=k/\x2o g' [.arr e sz rows] k):=by
  rintro k ⟨b,y,hy,hk'⟩
  rcases hget b y hy with⟨hb,hy⟩|⟨rfl,rfl⟩
  ·rw[hat b y hb]at hk';exact .inl ⟨b,y,hy,hk'⟩
  ·exact .inr (hnew k hk')
 refine⟨u,g3,rfl,?_,⟨⟨by simp[g3,hs.n],?_,?_,?_,hk.heap.zlt,hk.heap.tab⟩,hle,hfr.mono (fun _ h=>h.elim),fun b o hz=> ?_,fun k hk=> ?_⟩⟩
 ·obtain⟨e1,_⟩:=x5h hru;have:=Rep.own (w:=w') (g:=g3) g.n (by simp[g3])
  rw[hn3.2,<-e1,hs.n]at this;exact this
 ·intro b x hx;rcases hget b x hx with⟨hb,hx⟩|⟨rfl,rfl⟩
  ·have:=x1o.over ho hb (by simp) (fun k hk=>hfr.block k ((hs.rep b x hx).lt hk) (fun h=>h)) (hs.rep b x hx)
   rwa [Box.j0c]at this
  ·have:=hk.heap.rep 0 _ rfl;simp only[x1o,hn3.1,hn3.2]at this ⊢;exact this
 ·intro b c x y k h1 h2 h3 h4;rcases hget b x h1 with⟨hb,h1'⟩|⟨hb,hx⟩<;>rcases hget c y h2 with⟨hc,h2'⟩|⟨hc,hy⟩
  ·rw[hat b x hb]at h3;rw[hat c y hc]at h4;exact hs.sep b c x y k h1' h2' h3 h4
  ·rw[hat b x hb]at h3;have:=(hs.rep b x h1').lt h3;subst hc;subst hy;have:=(hnew k h4).1;omega
  ·rw[hat c y hc]at h4;have:=(hs.rep c y h2').lt h4;subst hb;subst hx;have:=(hnew k h3).1;omega
  ·rw[hb,hc]
 ·intro k o hk' hz;rcases hown k hk' with h1|⟨h1,h2⟩
  ·rcases hzn k o hz with h3|h3
   ·exact hs.zsep k o h1 h3
   ·have:=hs.j0q h1;omega
  ·exact hk.heap.zsep k o h2 hz
 ·rcases hzn b o hz with h1|h1
  ·exact .inl h1
  ·exact .inr (.inl h1)
 ·rcases hown k hk with h1|⟨h1,_⟩
  ·exact .inl h1
  ·exact .inr h1
def x4g (P:Program)(f:FuncId):Bool:=match P.funcs[f]? with
 |some fn=> !(fn.name == "runtime.NumGoroutine")&&fn.body.isSome
 |none=>false
def z1t (P:Program)(f:FuncId):Option (List TypeId):=match x4g P f,P.funcs[f]? with
 |true,some fn=>some fn.resultTypes.toList
 |_,_=>none
def x3l {f:FuncId}{ts:List TypeId}(h:z1t P f=some ts):x4g P f=true:=by
 unfold z1t at h;split at h
 ·assumption
 ·cases h
def x7l {f:FuncId}(hf:x4g P f=true)(args:Array Value)(w:World):(callFunc f args).run P w= .ok (.enter f args) w:=by
 unfold x4g at hf;split at hf
 ·rename_i fn hfn;simp only[a0g,Bool.not_eq_true']at hf;obtain⟨h1,h2⟩:=hf;have h3:fn.body.isNone=false:=by cases hb:fn.body<;>simp_all
  unfold callFunc;simp only[Sem.run_bind,run_program,Result.andThen_ok,hfn,h1,h3,Bool.false_eq_true,if_false,Sem.run_pure]
 ·cases hf
def z6m (v:V)(args:List V):Option (FuncId × List V):=match v with
 | .fn f caps=>some (f,args++caps)
 | .mv f b off=>some (f, .ptr b off::args)
 |_=>none
def z6l {g:Gh}{a:Act}{w:World}{y:Operand}{f:FuncId}{vs:List V}{args:Array Operand}{ts:Array TypeId}(hop:o.op= .call { callee:= .value y,args:=args,argTypes:=ts })(hf:x4g P f=true)
  (hy: ∀y,Rep w g (a.eval y) (B y)) (hb:z6m (B y) (args.toList.map B)=some (f,vs)): ∃us:List Value,z4c w g us vs/\(execOp a.eval o).run P w= .ok (.enter f us.toArray) w:=by
 have hr:=hy y;have hargs:z4c w g (args.toList.map a.eval) (args.toList.map B):=⟨by simp,fun i u v h1 h2=>by
  rw[a0m,a0k]at h1 h2;obtain⟨q,hq,rfl⟩:=h1;obtain⟨q',hq',rfl⟩:=h2;rw[hq]at hq';cases hq';exact hy q⟩
 generalize hu0:a.eval y=u0 at hr;generalize B y=v0 at hr hb;cases hr with
 |fn f0 us cs hl hcap=>
  cases hb;refine⟨args.toList.map a.eval++us.toList,⟨by simp[hl],fun i u v h1 h2=> ?_⟩,?_⟩
  ·rw[a0z]at h1 h2;simp only[a1f]at h1 h2;split at h1
   ·rename_i hi;rw[if_pos hi]at h2;exact hargs.2 i u v h1 h2
   ·rename_i hi;rw[if_neg hi]at h2;exact hcap _ u v (by rwa [a1b]at h1) h2
  ·have:(args.toList.map a.eval++us.toList).toArray=(#[]++args.map a.eval)++us:=by
    apply Array.ext';simp
   rw[this];simp[execOp,hop,resolve,hu0,Deferred.ofValue,invoke,x7l hf]
 |mv f0 b off hb0=>
  cases hb;refine⟨.pointer (some ⟨g.blk b,off,none⟩)::args.toList.map a.eval,⟨by simp,fun i u v h1 h2=> ?_⟩,?_⟩
  ·cases i with
   |zero=>simp at h1 h2;subst h1;subst h2;exact .ptr b off hb0
   |succ i=>exact hargs.2 i u v (by simpa using h1) (by simpa using h2)
  ·have:(Value.pointer (some ⟨g.blk b,off,none⟩)::args.toList.map a.eval).toArray=(#[.pointer (some ⟨g.blk b,off,none⟩)]++args.map a.eval)++ #[]:=by
    apply Array.ext';simp
   rw[this];simp[execOp,hop,resolve,hu0,Deferred.ofValue,invoke,x7l hf]
 |_=>cases hb
def x5l {y:Operand}{f:FuncId}{vs:List V}{args:Array Operand}{ts:Array TypeId}{r:V}(hop:o.op= .call { callee:= .value y,args:=args,argTypes:=ts })(hb:z6m (B y) (args.toList.map B)=some (f,vs))(hf:x4g P f=true)
  (hc:x9v P M f vs h r h'):x0o P M h h' B o r:=by
 intro g a w hs hy K Q hK;obtain⟨us,hargs,hrun⟩:=z6l hop hf hy hb;unfold Oper.wp;rw[hrun,Oper.upon_enter];refine(hc g w _ hs hargs).mono ?_
 rintro e w' ⟨u,g',rfl,hr,hk⟩
 exact hK u w' g' hr hk
structure Ent where
 w:World
 g:Gh
 h:List Box
 M:List Nat
 len:Nat
 ds:List Deferred
 nr:Bool
def y6u (ds:List Deferred)(nr:Bool)(n0:Nat)(a:Act)(g:Gh)(h:List Box)(w:World):Prop:= ∃Ds:List Nat,(a.defers=Ds.map (fun D=> { target:= .collected D,args:= #[] })++ds/\(nr=true->Ds= []))/\Ds.Nodup/\
 ∀D∈Ds,n0<=D/\w.heap[D]? =some (.deferred (some []))/\ ¬x2o g h D/\ ∀o,¬g.Z D o
def y6u.keep {ds:List Deferred}{nr:Bool}{n0:Nat}{a:Act}{M:List Nat}{g g':Gh}{h h':List Box}{w w':World}(hd:y6u ds nr n0 a g h w)(hk:Keep M g h w g' h' w'):y6u ds nr n0 a g' h' w':=by
 obtain⟨Ds,h1,h2,h3⟩:=hd;refine⟨Ds,h1,h2,fun D hD=> ?_⟩
 obtain⟨k1,k2,k3,k4⟩:=h3 D hD;have hlt:D < w.heap.size:=(a0s.1 k2).1;refine⟨k1,(hk.fr.block D hlt k3).trans k2,fun ho=> ?_,fun o hz=> ?_⟩
 ·rcases hk.own D ho with q|q
  ·exact k3 q
  ·omega
 ·rcases hk.znew D o hz with q|q|q
  ·exact k4 o q
  ·omega
  ·exact k3 q
def y6u.put {ds:List Deferred}{nr:Bool}{n0:Nat}{a:Act}{g:Gh}{h:List Box}{w:World}(hd:y6u ds nr n0 a g h w)(d:Option Tmp)(u:Value):y6u ds nr n0 (a.put d u) g h w:=by cases d<;>exact hd
def y6u.less {ds:List Deferred}{nr:Bool}{n0:Nat}{a:Act}{g g':Gh}{h h':List Box}{w:World}(hd:y6u ds nr n0 a g h w)(ho: ∀k,x2o g' h' k->x2o g h k)(hz:g'.Z=g.Z):y6u ds nr n0 a g' h' w:=by
 obtain⟨Ds,h1,h2,h3⟩:=hd;refine⟨Ds,h1,h2,fun D hD=> ?_⟩
 obtain⟨k1,k2,k3,k4⟩:=h3 D hD;exact⟨k1,k2,fun q=>k3 (ho D q),by rw[hz];exact k4⟩
def y6u.none {nr:Bool}{n0:Nat}{t:Array Value}{g:Gh}{h:List Box}{w:World}:y6u [] nr n0 ⟨t,[]⟩ g h w:=⟨[],⟨rfl,fun _=>rfl⟩,List.nodup_nil,by simp⟩
structure Sim (E:Ent) (s:VSt) (a:Act) (w:World) (g:Gh):Prop where
 heap:SimH g s.h w
 size:a.tmps.size=s.t.length
 tmps: ∀(i:Nat) u v,a.tmps[i]? =some u->s.t[i]? =some v->Rep w g u v
 defers:y6u E.ds E.nr E.w.heap.size a g s.h w
 keep:E.g.Le (· ∈E.M) g/\Fr (x2o E.g E.h) E.w w/\(∀b o,g.Z b o->E.g.Z b o\/E.w.heap.size<=b\/x2o E.g E.h b)/\(∀k,x2o g s.h k->x2o E.g E.h k\/E.w.heap.size<=k)
 len:s.t.length=E.len
def x1s (E:Ent)(s:VSt)(a:Act)(w:World):Prop:= ∃g,Sim E s a w g
def okM (n:Nat)(ME M:List Nat):Bool:=M.all fun b=>ME.contains b || decide (n<=b)
def Sim.step {E:Ent}{s:VSt}{a:Act}{w w':World}{g g':Gh}(hs:Sim E s a w g)(hk:Keep M g s.h w g' h' w')(hM:okM E.g.n E.M M=true):
  E.g.Le (· ∈E.M) g'/\Fr (x2o E.g E.h) E.w w'/\(∀b o,g'.Z b o->E.g.Z b o\/E.w.heap.size<=b\/x2o E.g E.h b)/\(∀k,x2o g' h' k->x2o E.g E.h k\/E.w.heap.size<=k):=by
 obtain⟨k1,k2,k3,k4⟩:=hs.keep;have hM': ∀b,b < E.g.n->b∈M->b∈E.M:=fun b hb hm=>by
  have:=a0l.1 hM b hm;simp at this;rcases this with h1|h1
  ·exact h1
  ·omega
 refine⟨⟨fun b o hz=>hk.le.Z b o (k1.Z b o hz),a1a k1.n hk.le.n,fun b hb hm=> ?_,fun b hb hm=> ?_,fun b hb=> ?_⟩,k2.trans' hk.fr k4,fun b o hz=> ?_,fun k hk'=> ?_⟩
 ·exact(hk.le.blk b (a1c hb k1.n) (fun h=>hm (hM' b hb h))).trans (k1.blk b hb hm)
 ·exact(hk.le.val b (a1c hb k1.n) (fun h=>hm (hM' b hb h))).trans (k1.val b hb hm)
 ·exact(hk.le.cd b (a1c hb k1.n)).trans (k1.cd b hb)
 ·rcases hk.znew b o hz with h1|h1|h1
  ·exact k3 b o h1
  ·exact .inr (.inl (a1a k2.size h1))
  ·rcases k4 b h1 with h2|h2
   ·exact .inr (.inr h2)
   ·exact .inr (.inl h2)
 ·rcases hk.own k hk' with h1|h1
  ·exact k4 k h1
  ·exact .inr (a1a k2.size h1)
def VSt.next (s:VSt)(M:List Nat)(h':List Box)(dst:Option Tmp)(x:V):VSt:=
 let t:=match M with
  | []=>s.t
  |_=>s.t.map (V.kill M)
 { t:=match dst with|some d=>t.set d x|none=>t,h:=h' }
def v4e (s:VSt)(M:List Nat)(h':List Box)(dst:Option Tmp)(x:V):
  (s.next M h' dst x).t=match dst with|some d=>(s.t.map (V.kill M)).set d x|none=>s.t.map (V.kill M):=by
 have:(match M with| []=>s.t|_=>s.t.map (V.kill M))=s.t.map (V.kill M):=by
  cases M with
  |nil=>rw[show V.kill []=id from funext V.j0c];simp
  |cons=>rfl
 unfold VSt.next;simp only[this]
def Sim.next {E:Ent}{s:VSt}{a:Act}{w w':World}{g g':Gh}(hs:Sim E s a w g)(hk:Keep M g s.h w g' h' w')(hM:okM E.g.n E.M M=true){u:Value}(hu:Rep w' g' u x)(dst:Option Tmp):
  Sim E (s.next M h' dst x) (a.put dst u) w' g':=by
 have ho:=hk.over hs.heap;have hput:(a.put dst u).tmps=match dst with|some d=>a.tmps.setIfInBounds d u|none=>a.tmps:=by cases dst<;>rfl
 refine⟨hk.heap,?_,?_,(hs.defers.keep hk).put dst u,hs.step hk hM,by rw[v4e,<-hs.len];cases dst<;>simp⟩
 ·rw[v4e,hput];cases dst<;>simp[hs.size]
 ·intro i u' v' h1 h2;rw[v4e]at h2;rw[hput]at h1;have old: ∀ {u' v'},a.tmps[i]? =some u'->(s.t.map (V.kill M))[i]? =some v'->Rep w' g' u' v':=by
   intro u' v' h1 h2;rw[a0m,a0k]at h2;obtain⟨v0,h0,rfl⟩:=h2;exact ho.kill (hs.tmps i u' v0 h1 h0)
  cases dst with
  |none=>exact old h1 h2
  |some d=>
   simp only at h1 h2;rw[Array.getElem?_setIfInBounds]at h1;rw[a1j]at h2
   by_cases hd:d=i
   ·subst hd;rw[if_pos rfl]at h1 h2;split at h1
    ·split at h2
     ·cases h1;cases h2;exact hu
     ·cases h2
    ·cases h1
   ·rw[if_neg hd]at h1 h2;exact old h1 h2
def Sim.get {E:Ent}{s:VSt}{a:Act}{w:World}{g:Gh}(hs:Sim E s a w g)(y:Operand):Rep w g (a.eval y) (s.get y):=by
 cases y with
 |tmp t=>
  simp only[Act.eval,VSt.get]
  by_cases ht:t < s.t.length
  ·have h1:t < a.tmps.size:=by rw[hs.size];exact ht
   exact hs.tmps t (a.tmps.getD t undef) (s.t.getD t .any) (by simp[h1]) (by simp[ht])
  ·have:s.t.getD t .any= .any:=by simp[a2b (Nat.le_of_not_lt ht)]
   rw[this];exact .any _
 |const v=>exact x9k w g v
 |func f=>exact .fn f #[] [] rfl (by simp)
 |global k=>exact .any _
def x0o.sim {E:Ent}{s:VSt}{a:Act}{w:World}(hg:x0o P M s.h h' s.get o x)(hs:x1s E s a w)(hM:okM E.g.n E.M M=true){K:Act->World->Prop}{Q:Exit->Act->World->Prop}
  (hK: ∀a' w',x1s E (s.next M h' o.dst x) a' w'->K a' w'):o.wp P a w K Q:=by
 obtain⟨g,hs⟩:=hs;exact hg g a w hs.heap hs.get K Q fun u w' g' hu hk=>hK _ _ ⟨g',hs.next hk hM hu o.dst⟩
def x1s.frz {E:Ent}{s:VSt}{a:Act}{w:World}{b:Nat}{e:TypeId}{sz:Nat}{rows:LL}(hs:x1s E s a w)(hb:s.h[b]? =some (.arr e sz rows)):
  x1s E { t:=s.t.map (V.frz b (.sl sz rows)),h:=(s.h.map (Box.frz b (.sl sz rows))).set b .gone } a w:=by
 obtain⟨g,hs⟩:=hs;obtain⟨g',hk,hr⟩:=z0g hs.heap hb;refine⟨g',hk.heap,by simpa using hs.size,fun i u v h1 h2=> ?_,hs.defers.keep hk,hs.step hk (by simp[okM]),by simpa using hs.len⟩
 rw[a0m,a0k]at h2;obtain⟨v0,h0,rfl⟩:=h2;exact hr _ _ (hs.tmps i u v0 h1 h0)
def x1s.frp {E:Ent}{s:VSt}{a:Act}{w:World}{b:Nat}{t:TypeId}{vs:List V}{cs:List D}(hs:x1s E s a w)(hb:s.h[b]? =some (.cells (.ty t) vs))(hc:y6s vs=some cs):
  x1s E { t:=s.t.map (V.frp b cs),h:=(s.h.map (Box.frp b cs)).set b .gone } a w:=by
 obtain⟨g,hs⟩:=hs;rw[x5q hc]at hb;obtain⟨g',hk,hr⟩:=z9p hs.heap hb;refine⟨g',hk.heap,by simpa using hs.size,fun i u v h1 h2=> ?_,hs.defers.keep hk,hs.step hk (by simp[okM]),by simpa using hs.len⟩
 rw[a0m,a0k]at h2;obtain⟨v0,h0,rfl⟩:=h2;exact hr _ _ (hs.tmps i u v0 h1 h0)
def VSt.frz (s:VSt):List Nat->VSt
 | []=>s
 |b::bs=>match s.h[b]? with
  |some (.arr _ sz rows)=>VSt.frz { t:=s.t.map (V.frz b (.sl sz rows)),h:=(s.h.map (Box.frz b (.sl sz rows))).set b .gone } bs
  |some (.cells (.ty _) vs)=>match y6s vs with
   |some cs=>VSt.frz { t:=s.t.map (V.frp b cs),h:=(s.h.map (Box.frp b cs)).set b .gone } bs
   |none=>VSt.frz s bs
  |_=>VSt.frz s bs
def x1s.frzs {E:Ent}{a:Act}{w:World}: ∀ {bs:List Nat} {s:VSt},x1s E s a w->x1s E (s.frz bs) a w
 | [],_,h=>h
 |b::bs,s,h=>by
  unfold VSt.frz;split
  ·rename_i e sz rows hb;exact x1s.frzs (h.frz hb)
  ·rename_i t vs hb;split
   ·rename_i cs hc;exact x1s.frzs (h.frp hb hc)
   ·exact x1s.frzs h
  ·exact x1s.frzs h
def x1s.j1m {E:Ent}{s:VSt}{a:Act}{w:World}(hs:x1s E s a w){t:Tmp}{v:V}(hv: ∀u g,a.tmps[t]? =some u->Rep w g u v):x1s E { s with t:=s.t.set t v } a w:=by
 obtain⟨g,hs⟩:=hs;refine⟨g,hs.heap,by simpa using hs.size,fun i u v' h1 h2=> ?_,hs.defers,hs.keep,by simpa using hs.len⟩
 simp only at h2;rw[a1j]at h2
 by_cases hd:t=i
 ·subst hd;rw[if_pos rfl]at h2;split at h2
  ·cases h2;exact hv u g h1
  ·cases h2
 ·rw[if_neg hd]at h2;exact hs.tmps i u v' h1 h2
end
section
variable {P : Program} {M : List Nat} {h h' : List Box} {B : Operand -> V} {o : Oper} {x : V}
mutual
def V.ren (σ:Nat->Nat):V->V
 | .own b=> .own (σ b)
 | .ptr b o=> .ptr (σ b) o
 | .mv f b o=> .mv f (σ b) o
 | .ifp f b o=> .ifp f (σ b) o
 | .pml b s i o=> .pml (σ b) s i o
 | .map b=> .map (σ b)
 | .yld b R=> .yld (σ b) R
 | .osl b s l n=> .osl (σ b) s l n
 | .agg cs=> .agg (V.j0y σ cs)
 | .tup cs=> .tup (V.j0y σ cs)
 | .fn f cs=> .fn f (V.j0y σ cs)
 | .any=> .any
 | .nils=> .nils
 | .d x=> .d x
 | .pel cs=> .pel cs
 | .nilp=> .nilp
 | .nilf=> .nilf
 | .ifn b=> .ifn b
 | .ifc t cs=> .ifc t cs
 | .ifo t b cs=> .ifo t b cs
def V.j0y (σ:Nat->Nat):List V->List V
 | []=>[]
 |c::cs=>c.ren σ::V.j0y σ cs
end
mutual
def V.scB (n:Nat):V->Bool
 | .own b=>decide (b < n)
 | .ptr b _=>decide (b < n)
 | .mv _ b _=>decide (b < n)
 | .ifp _ b _=>decide (b < n)
 | .pml b _ _ _=>decide (b < n)
 | .map b=>decide (b < n)
 | .yld b _=>decide (b < n)
 | .osl b _ _ _=>decide (b < n)
 | .agg cs=>V.scL n cs
 | .tup cs=>V.scL n cs
 | .fn _ cs=>V.scL n cs
 |_=>true
def V.scL (n:Nat):List V->Bool
 | []=>true
 |c::cs=>c.scB n&&V.scL n cs
end
def Box.ren (σ:Nat->Nat):Box->Box
 | .cells t vs=> .cells t (V.j0y σ vs)
 |x=>x
def Box.scB (n:Nat):Box->Bool
 | .cells _ vs=>V.scL n vs
 |_=>true
def x4c (σ:Nat->Nat): ∀cs:List V,V.j0y σ cs=cs.map (V.ren σ)
 | []=>rfl
 |c::cs=>by unfold V.j0y;rw[x4c σ cs];rfl
def y8g (n:Nat): ∀cs:List V,V.scL n cs=cs.all (V.scB n)
 | []=>rfl
 |c::cs=>by unfold V.scL;rw[y8g n cs];rfl
def u2d {w:World}{g g':Gh}{σ:Nat->Nat}(hz: ∀b o,g.Z b o->g'.Z b o)(hσ: ∀b,b < g.n->g'.blk (σ b)=g.blk b/\g'.val (σ b)=g.val b/\σ b < g'.n/\g'.cd (σ b)=g.cd b){u:Value}{v:V}(hr:Rep w g u v):Rep w g' u (v.ren σ):=by
 have aux: ∀(us:Array Value) (cs:List V),(∀(i:Nat) u c,us[i]? =some u->cs[i]? =some c->Rep w g' u (c.ren σ))->
     ∀(i:Nat) u c,us[i]? =some u->(V.j0y σ cs)[i]? =some c->Rep w g' u c:=by
  intro us cs h i u c hu hc;rw[x4c,a0m,a0k]at hc;obtain⟨c',hc',rfl⟩:=hc;exact h i u c' hu hc'
 induction hr with
 |any u=>exact .any u
 |nils=>exact .nils
 |d h=>exact .d (h.mono hz (fun _ _ _=>rfl))
 |agg us cs hl h ih=>exact .agg us _ (by rw[x4c,a1f];exact hl) (aux us cs ih)
 |tup us cs hl h ih=>exact .tup us _ (by rw[x4c,a1f];exact hl) (aux us cs ih)
 |fn f us cs hl h ih=>exact .fn f us _ (by rw[x4c,a1f];exact hl) (aux us cs ih)
 |own b hb=>rw[<-(hσ b hb).2.1];exact .own (σ b) (hσ b hb).2.2.1
 |map b hb=>rw[<-(hσ b hb).2.1];exact .map (σ b) (hσ b hb).2.2.1
 |ptr b off hb=>rw[<-(hσ b hb).1];exact .ptr (σ b) off (hσ b hb).2.2.1
 |mv f b off hb=>rw[<-(hσ b hb).1];exact .mv f (σ b) off (hσ b hb).2.2.1
 |ifp f b off hb=>rw[<-(hσ b hb).1];exact .ifp f (σ b) off (hσ b hb).2.2.1
 |pml b sz i off hb=>rw[<-(hσ b hb).1];exact .pml (σ b) sz i off (hσ b hb).2.2.1
 |yld b R hb hc=>rw[<-(hσ b hb).1];exact .yld (σ b) R (hσ b hb).2.2.1 (v3i (hσ b hb).2.2.2 hc)
 |osl b s l n u hb hu=>exact .osl (σ b) s l n u (hσ b hb).2.2.1 (by rw[(hσ b hb).1];exact hu)
 |pel blk off cs U hZ hc hr=>exact .pel blk off cs U (fun j c h=>hz _ _ (hZ j c h)) hc (fun j c h=>(hr j c h).mono hz (fun _ _ _=>rfl))
 |nilp=>exact .nilp
 |nilf=>exact .nilf
 |ifn0=>exact .ifn0
 |ifn1 t p=>exact .ifn1 t p
 |ifc t us cs hl h=>exact .ifc t us cs hl fun i u c h1 h2=>(h i u c h1 h2).mono hz (fun _ _ _=>rfl)
 |ifo0 t cs=>exact .ifo0 t cs
 |ifo1 t us cs hl h=>exact .ifo1 t us cs hl fun i u c h1 h2=>(h i u c h1 h2).mono hz (fun _ _ _=>rfl)
def z4n {w:World}{g g0:Gh}{σ:Nat->Nat}(hz:g0.Z=g.Z)(hσ: ∀b,b < g0.n->g0.blk b=g.blk (σ b)/\g0.val b=g.val (σ b)/\g0.cd b=g.cd (σ b)){u:Value}{v':V}(hr:Rep w g u v'):
  ∀ {v:V},v'=v.ren σ->v.scB g0.n=true->Rep w g0 u v:=by
 have aux: ∀(us:Array Value) (cs' cs:List V),(∀(i:Nat) u c,us[i]? =some u->cs'[i]? =some c-> ∀ {v:V},c=v.ren σ->v.scB g0.n=true->Rep w g0 u v)->cs'=V.j0y σ cs->V.scL g0.n cs=true->
     ∀(i:Nat) u c,us[i]? =some u->cs[i]? =some c->Rep w g0 u c:=by
  intro us cs' cs h he hs i u c hu hc;rw[y8g]at hs;refine h i u (c.ren σ) hu ?_ rfl (a0l.1 hs c (a0p hc));rw[he,x4c,a0m,hc];rfl
 induction hr with
 |any u=>intro v he hs;cases v<;>simp[V.ren]at he;exact .any u
 |nils=>intro v he hs;cases v<;>simp[V.ren]at he;exact .nils
 |d h=>intro v he hs;cases v<;>simp[V.ren]at he;subst he;exact .d (by rwa [hz])
 |agg us cs hl h ih=>
  intro v he hs;cases v<;>simp[V.ren]at he
  rename_i cs0;exact .agg us cs0 (by rw[hl,he,x4c,a1f]) (aux us cs cs0 ih he (by simpa[V.scB]using hs))
 |tup us cs hl h ih=>
  intro v he hs;cases v<;>simp[V.ren]at he
  rename_i cs0;exact .tup us cs0 (by rw[hl,he,x4c,a1f]) (aux us cs cs0 ih he (by simpa[V.scB]using hs))
 |fn f us cs hl h ih=>
  intro v he hs;cases v<;>simp[V.ren]at he
  rename_i f0 cs0;obtain⟨rfl,he⟩:=he;exact .fn f us cs0 (by rw[hl,he,x4c,a1f]) (aux us cs cs0 ih he (by simpa[V.scB]using hs))
 |own b hb=>
  intro v he hs;cases v<;>simp[V.ren]at he
  rename_i b0;have hb0:b0 < g0.n:=by simpa[V.scB]using hs
  subst he;rw[<-(hσ b0 hb0).2.1];exact .own b0 hb0
 |map b hb=>
  intro v he hs;cases v<;>simp[V.ren]at he
  rename_i b0;have hb0:b0 < g0.n:=by simpa[V.scB]using hs
  subst he;rw[<-(hσ b0 hb0).2.1];exact .map b0 hb0
 |ptr b off hb=>
  intro v he hs;cases v<;>simp[V.ren]at he
  rename_i b0 off0;have hb0:b0 < g0.n:=by simpa[V.scB]using hs
  obtain⟨rfl,rfl⟩:=he;rw[<-(hσ b0 hb0).1];exact .ptr b0 _ hb0
 |mv f b off hb=>
  intro v he hs;cases v<;>simp[V.ren]at he
  rename_i f0 b0 off0;have hb0:b0 < g0.n:=by simpa[V.scB]using hs
  obtain⟨rfl,rfl,rfl⟩:=he;rw[<-(hσ b0 hb0).1];exact .mv _ b0 _ hb0
 |ifp f b off hb=>
  intro v he hs;cases v<;>simp[V.ren]at he
  rename_i f0 b0 off0;have hb0:b0 < g0.n:=by simpa[V.scB]using hs
  obtain⟨rfl,rfl,rfl⟩:=he;rw[<-(hσ b0 hb0).1];exact .ifp _ b0 _ hb0
 |pml b sz i off hb=>
  intro v he hs;cases v<;>simp[V.ren]at he
  rename_i b0 sz0 i0 off0;have hb0:b0 < g0.n:=by simpa[V.scB]using hs
  obtain⟨rfl,rfl,rfl,rfl⟩:=he;rw[<-(hσ b0 hb0).1];exact .pml b0 _ _ _ hb0
 |yld b R hb hc=>
  intro v he hs;cases v<;>simp[V.ren]at he
  rename_i b0 R0;have hb0:b0 < g0.n:=by simpa[V.scB]using hs
  obtain⟨rfl,rfl⟩:=he;rw[<-(hσ b0 hb0).1];exact .yld b0 _ hb0 (v3i (hσ b0 hb0).2.2 hc)
 |osl b s l n u hb hu=>
  intro v he hs;cases v<;>simp[V.ren]at he
  rename_i b0 s0 l0 n0;have hb0:b0 < g0.n:=by simpa[V.scB]using hs
  obtain⟨rfl,rfl,rfl,rfl⟩:=he;exact .osl b0 _ _ _ u hb0 (by rw[(hσ b0 hb0).1];exact hu)
 |pel blk off cs U hZ hc hr=>intro v he hs;cases v<;>simp[V.ren]at he;subst he;exact .pel blk off cs U (by rwa [hz]) hc (by rwa [hz])
 |nilp=>intro v he hs;cases v<;>simp[V.ren]at he;exact .nilp
 |nilf=>intro v he hs;cases v<;>simp[V.ren]at he;exact .nilf
 |ifn0=>intro v he hs;cases v<;>simp[V.ren]at he;subst he;exact .ifn0
 |ifn1 t p=>intro v he hs;cases v<;>simp[V.ren]at he;subst he;exact .ifn1 t p
 |ifc t us cs hl h=>intro v he hs;cases v<;>simp[V.ren]at he;obtain⟨rfl,rfl⟩:=he;exact .ifc _ us _ hl (by rwa [hz])
 |ifo0 t cs=>intro v he hs;cases v<;>simp[V.ren]at he;obtain⟨rfl,rfl,rfl⟩:=he;exact .ifo0 _ _
 |ifo1 t us cs hl h=>intro v he hs;cases v<;>simp[V.ren]at he;obtain⟨rfl,rfl,rfl⟩:=he;exact .ifo1 _ us _ hl (by rwa [hz])
def w7n {w:World}{g g':Gh}{σ:Nat->Nat}(hz: ∀b o,g.Z b o->g'.Z b o)(hσ: ∀b,b < g.n->g'.blk (σ b)=g.blk b/\g'.val (σ b)=g.val b/\σ b < g'.n/\g'.cd (σ b)=g.cd b){b:Nat}(hb:b < g.n){x:Box}(hr:x1o w g b x):x1o w g' (σ b) (x.ren σ):=by
 obtain⟨e1,e2,_,e3⟩:=hσ b hb;cases x with
 |gone=>trivial
 |mp kk rows=>
  obtain⟨ens,clock,h1,h2,h3,h4⟩:=hr;refine⟨ens,clock,by rw[e1];exact h1,by rw[e2,e1];exact h2,h3,fun i e r he hr=> ?_⟩
  obtain⟨k,v,p1,p2,p3,p4⟩:=h4 i e r he hr;exact⟨k,v,p1,p2,p3.mono hz (fun _ _ _=>rfl),p4.mono hz (fun _ _ _=>rfl)⟩
 |cells t vs=>
  obtain⟨us,o,h1,h0,h2,h3⟩:=hr;refine⟨us,o,by rw[e1];exact h1,by rw[e3];exact h0,by rw[x4c,a1f];exact h2,fun i u v hu hv=> ?_⟩
  rw[x4c,a0m,a0k]at hv;obtain⟨v',hv',rfl⟩:=hv;exact u2d hz hσ (h3 i u v' hu hv')
 |arr e sz rows=>
  obtain⟨hl,hr⟩:=hr;refine⟨hl,?_⟩;rcases hr with⟨h1,h2⟩|⟨us,cap,h1,h2,h2',h3,h4,h5⟩
  ·exact .inl ⟨e2.trans h1,h2⟩
  ·refine .inr ⟨us,cap,by rw[e1,e2];exact h1,h2,h2',by rw[e1];exact h3,h4,fun i r j c hi hj=> ?_⟩
   obtain⟨u,hu,hd⟩:=h5 i r j c hi hj;exact⟨u,hu,hd.mono hz (fun _ _ _=>rfl)⟩
def u8a {w:World}{g g0:Gh}{σ:Nat->Nat}(hz:g0.Z=g.Z)(hσ: ∀b,b < g0.n->g0.blk b=g.blk (σ b)/\g0.val b=g.val (σ b)/\g0.cd b=g.cd (σ b)){b:Nat}(hb:b < g0.n){x:Box}(hsc:x.scB g0.n=true)(hr:x1o w g (σ b) (x.ren σ)):x1o w g0 b x:=by
 obtain⟨e1,e2,e3⟩:=hσ b hb;cases x with
 |gone=>trivial
 |mp kk rows=>
  obtain⟨ens,clock,h1,h2,h3,h4⟩:=hr;exact⟨ens,clock,by rw[e1];exact h1,by rw[e2,e1];exact h2,h3,by rw[hz];exact h4⟩
 |cells t vs=>
  obtain⟨us,o,h1,h0,h2,h3⟩:=hr;refine⟨us,o,by rw[e1];exact h1,by rw[e3];exact h0,by rw[x4c,a1f]at h2;exact h2,fun i u v hu hv=> ?_⟩
  refine z4n hz hσ (h3 i u (v.ren σ) hu (by rw[x4c,a0m,hv];rfl)) rfl ?_
  have:vs.all (V.scB g0.n)=true:=by rw[<-y8g];exact hsc
  exact a0l.1 this v (a0p hv)
 |arr e sz rows=>
  obtain⟨hl,hr⟩:=hr;refine⟨hl,?_⟩;rcases hr with⟨h1,h2⟩|⟨us,cap,h1,h2,h2',h3,h4,h5⟩
  ·exact .inl ⟨e2.trans h1,h2⟩
  ·exact .inr ⟨us,cap,by rw[e1,e2];exact h1,h2,h2',by rw[e1];exact h3,h4,by rw[hz];exact h5⟩
def q7i (σ:Nat->Nat){g g':Gh}{b:Nat}(e1:g'.blk (σ b)=g.blk b)(e2:g'.val (σ b)=g.val b)(x:Box):(x.ren σ).at? g' (σ b)=x.at? g b:=by
 cases x<;>simp[Box.ren,Box.at?,e1,e2]
def ext (L:List Nat)(n i:Nat):Nat:=match L[i]? with
 |some b=>b
 |none=>n+(i - L.length)
def x4p {L:List Nat}{b i:Nat}(h:L.idxOf? b=some i):L[i]? =some b:=by
 rw[List.idxOf?,List.findIdx?_eq_some_iff_getElem]at h;obtain⟨hi,h1,_⟩:=h;rw[a0a hi,eq_of_beq h1]
def y4x {L:List Nat}{b:Nat}(h:L.idxOf? b=none):b ∉ L:=by
 rw[List.idxOf?,List.findIdx?_eq_none_iff]at h;intro hb;have:=h b hb;simp at this
def y3p {L:List Nat}(hnd:L.Nodup){b i:Nat}(h:L[i]? =some b):L.idxOf? b=some i:=by
 cases hq:L.idxOf? b with
 |none=>exact absurd (a0p h) (y4x hq)
 |some j=>
  have hj:=x4p hq;obtain⟨hi',e1⟩:=a0c.1 h;obtain⟨hj',e2⟩:=a0c.1 hj;have hpw:=List.pairwise_iff_getElem.1 hnd;rcases Nat.lt_trichotomy i j with hlt|heq|hgt
  ·exact absurd (e1.trans e2.symm) (hpw i j hi' hj' hlt)
  ·rw[heq]
  ·exact absurd (e2.trans e1.symm) (hpw j i hj' hi' hgt)
mutual
def V.refs:V->List Nat
 | .own b=>[b]
 | .ptr b _=>[b]
 | .mv _ b _=>[b]
 | .ifp _ b _=>[b]
 | .pml b _ _ _=>[b]
 | .map b=>[b]
 | .yld b _=>[b]
 | .osl b _ _ _=>[b]
 | .agg cs=>V.j1n cs
 | .tup cs=>V.j1n cs
 | .fn _ cs=>V.j1n cs
 |_=>[]
def V.j1n:List V->List Nat
 | []=>[]
 |c::cs=>c.refs++V.j1n cs
end
mutual
def V.inB (L:List Nat):V->Bool
 | .own b=>L.contains b
 | .ptr b _=>L.contains b
 | .mv _ b _=>L.contains b
 | .ifp _ b _=>L.contains b
 | .pml b _ _ _=>L.contains b
 | .map b=>L.contains b
 | .yld b _=>L.contains b
 | .osl b _ _ _=>L.contains b
 | .agg cs=>V.j1k L cs
 | .tup cs=>V.j1k L cs
 | .fn _ cs=>V.j1k L cs
 |_=>true
def V.j1k (L:List Nat):List V->Bool
 | []=>true
 |c::cs=>c.inB L&&V.j1k L cs
end
def Box.refs:Box->List Nat
 | .cells _ vs=>V.j1n vs
 |_=>[]
def Box.inB (L:List Nat):Box->Bool
 | .cells _ vs=>V.j1k L vs
 |_=>true
def u8f (L:List Nat):List Nat->List Nat
 | []=>L
 |b::bs=>match L.contains b with
  |true=>u8f L bs
  |false=>u8f (L++[b]) bs
def k1e (h:List Box):Nat->List Nat->List Nat
 |0,L=>L
 |n+1,L=>
  let L':=u8f L (L.flatMap fun b=>(h.getD b .gone).refs)
  match decide (L'.length=L.length)with
  |true=>L
  |false=>k1e h n L'
def tau (L:List Nat)(b:Nat):Nat:=match L.idxOf? b with
 |some i=>i
 |none=>0
def z8e:List Nat->Bool
 | []=>true
 |b::bs=> !bs.contains b&&z8e bs
def y8z: ∀ {L:List Nat},z8e L=true->L.Nodup
 | [],_=>List.nodup_nil
 |b::bs,h=>by
  unfold z8e at h;simp only[a0g,Bool.not_eq_true',List.contains_eq_mem,decide_eq_false_iff_not]at h;exact List.nodup_cons.2 ⟨h.1,y8z h.2⟩
def x6k {L:List Nat}{b:Nat}(h:L.contains b=true):L[tau L b]? =some b/\tau L b < L.length:=by
 have hb:b∈L:=by simpa using h
 unfold tau;cases hq:L.idxOf? b with
 |none=>exact absurd hb (y4x hq)
 |some i=>exact⟨x4p hq,(a0c.1 (x4p hq)).1⟩
def y1b {L:List Nat}{n b:Nat}(h:L.contains b=true):ext L n (tau L b)=b:=by
 unfold ext;rw[(x6k h).1]
mutual
def V.j0p {L:List Nat}{n:Nat}: ∀ {v:V},v.inB L=true->(v.ren (tau L)).ren (ext L n)=v
 | .own b,h=>by simp only[V.ren];rw[y1b h]
 | .ptr b o,h=>by simp only[V.ren];rw[y1b h]
 | .mv f b o,h=>by simp only[V.ren];rw[y1b h]
 | .ifp f b o,h=>by simp only[V.ren];rw[y1b h]
 | .pml b s i o,h=>by simp only[V.ren];rw[y1b h]
 | .map b,h=>by simp only[V.ren];rw[y1b h]
 | .yld b R,h=>by simp only[V.ren];rw[y1b h]
 | .osl b s l n,h=>by simp only[V.ren];rw[y1b h]
 | .agg cs,h=>by simp only[V.ren];rw[V.j0l h]
 | .tup cs,h=>by simp only[V.ren];rw[V.j0l h]
 | .fn f cs,h=>by simp only[V.ren];rw[V.j0l h]
 | .any,_=>rfl
 | .nils,_=>rfl
 | .d _,_=>rfl
 | .pel _,_=>rfl
 | .nilp,_=>rfl
 | .nilf,_=>rfl
 | .ifn _,_=>rfl
 | .ifc ..,_=>rfl
 | .ifo ..,_=>rfl
def V.j0l {L:List Nat}{n:Nat}: ∀ {cs:List V},V.j1k L cs=true->V.j0y (ext L n) (V.j0y (tau L) cs)=cs
 | [],_=>rfl
 |c::cs,h=>by
  have h':(c.inB L&&V.j1k L cs)=true:=h;rw[a0g]at h';simp only[V.j0y];rw[V.j0p h'.1,V.j0l h'.2]
end
mutual
def V.j0x {L:List Nat}: ∀ {v:V},v.inB L=true->(v.ren (tau L)).scB L.length=true
 | .own b,h=>by simp only[V.ren,V.scB];exact a0o (x6k h).2
 | .ptr b o,h=>by simp only[V.ren,V.scB];exact a0o (x6k h).2
 | .mv f b o,h=>by simp only[V.ren,V.scB];exact a0o (x6k h).2
 | .ifp f b o,h=>by simp only[V.ren,V.scB];exact a0o (x6k h).2
 | .pml b s i o,h=>by simp only[V.ren,V.scB];exact a0o (x6k h).2
 | .map b,h=>by simp only[V.ren,V.scB];exact a0o (x6k h).2
 | .yld b R,h=>by simp only[V.ren,V.scB];exact a0o (x6k h).2
 | .osl b s l n,h=>by simp only[V.ren,V.scB];exact a0o (x6k h).2
 | .agg cs,h=>by simp only[V.ren,V.scB];exact V.j0r h
 | .tup cs,h=>by simp only[V.ren,V.scB];exact V.j0r h
 | .fn f cs,h=>by simp only[V.ren,V.scB];exact V.j0r h
 | .any,_=>rfl
 | .nils,_=>rfl
 | .d _,_=>rfl
 | .pel _,_=>rfl
 | .nilp,_=>rfl
 | .nilf,_=>rfl
 | .ifn _,_=>rfl
 | .ifc ..,_=>rfl
 | .ifo ..,_=>rfl
def V.j0r {L:List Nat}: ∀ {cs:List V},V.j1k L cs=true->V.scL L.length (V.j0y (tau L) cs)=true
 | [],_=>rfl
 |c::cs,h=>by
  have h':(c.inB L&&V.j1k L cs)=true:=h;rw[a0g]at h';simp only[V.j0y,V.scL];rw[V.j0x h'.1,V.j0r h'.2];rfl
end
def Box.j0p {L:List Nat}{n:Nat}{x:Box}(h:x.inB L=true):(x.ren (tau L)).ren (ext L n)=x:=by
 cases x with
 |cells t vs=>simp only[Box.ren];rw[V.j0l h]
 |_=>rfl
def Box.j0x {L:List Nat}{x:Box}(h:x.inB L=true):(x.ren (tau L)).scB L.length=true:=by
 cases x with
 |cells t vs=>exact V.j0r h
 |_=>rfl
def y5q (h:List Box)(L0:List Nat)(vs:List V):List Nat:=k1e h h.length (u8f L0 (V.j1n vs))
def x4t (h:List Box)(L:List Nat):List Box:=L.map fun b=>(h.getD b .gone).ren (tau L)
def x8b (h:List Box)(L:List Nat)(vs:List V):Bool:=z8e L&&L.all (fun b=>decide (b < h.length))&&V.j1k L vs&&L.all fun b=>(h.getD b .gone).inB L
structure ReachOK (h:List Box) (L:List Nat) (vs:List V):Prop where
 nd:L.Nodup
 lt: ∀b∈L,b < h.length
 vs:V.j1k L vs=true
 bx: ∀b∈L,(h.getD b .gone).inB L=true
def y5r {h:List Box}{L:List Nat}{vs:List V}(hr:x8b h L vs=true):ReachOK h L vs:=by
 unfold x8b at hr;simp only[a0g]at hr;obtain⟨⟨⟨h1,h2⟩,h3⟩,h4⟩:=hr;exact⟨y8z h1,fun b hb=>a0f (a0l.1 h2 b hb),h3,fun b hb=>a0l.1 h4 b hb⟩
def Keep.tell {g g':Gh}{w w':World}{hs:List Box}(hk:Keep M g h w g' hs w')(hg:g.n=h.length){L:List Nat}{vs:List V}(hL:x8b hs L vs=true)(hid: ∀i,i < h.length->L[i]? =some i):
  ∃g'',Keep M g h w g'' (x4t hs L) w'/\ ∀u v,Rep w' g' u v->v.inB L=true->Rep w' g'' u (v.ren (tau L)):=by
 obtain⟨q1,q2,q3,q4⟩:=y5r hL
 let σ:=ext L hs.length
 let g2:Gh:= { Z:=g'.Z,n:=L.length,blk:=fun i=>g'.blk (σ i),val:=fun i=>g'.val (σ i),cd:=fun i=>g'.cd (σ i) }
 have hσ: ∀b,b < g2.n->g2.blk b=g'.blk (σ b)/\g2.val b=g'.val (σ b)/\g2.cd b=g'.cd (σ b):=fun b _=>⟨rfl,rfl,rfl⟩
 have hrep: ∀u v,Rep w' g' u v->v.inB L=true->Rep w' g2 u (v.ren (tau L)):=fun u v hr hv=>
  z4n (g:=g') (g0:=g2) (σ:=σ) rfl hσ hr (V.j0p hv).symm (V.j0x hv)
 have hbox: ∀(i:Nat) x,(x4t hs L)[i]? =some x-> ∃b y,L[i]? =some b/\σ i=b/\hs[b]? =some y/\y.inB L=true/\x=y.ren (tau L)/\i < L.length:=by
  intro i x hx;simp only[x4t,a0m,a0k]at hx;obtain⟨b,hb,rfl⟩:=hx;have hlt:=q2 b (a0p hb);refine⟨b,hs[b],hb,by simp[σ,ext,hb],a0a hlt,?_,?_,(a0c.1 hb).1⟩
  ·have:=q4 b (a0p hb)
   rwa [a0i,a0a hlt]at this
  ·rw[a0i,a0a hlt];rfl
 have hat: ∀(i:Nat) (y:Box),(y.ren (tau L)).at? g2 i=y.at? g' (σ i):=fun i y=>by cases y<;>rfl
 have hown: ∀k,x2o g2 (x4t hs L) k->x2o g' hs k:=by
  rintro k ⟨i,x,hx,hk'⟩
  obtain⟨b,y,hb,e,hy,_,rfl,_⟩:=hbox i x hx;rw[hat,e]at hk';exact⟨b,y,hy,hk'⟩
 refine⟨g2,⟨⟨by simp[x4t,g2],fun i x hx=> ?_,fun i j x y k hx hy hkx hky=> ?_,fun k o hk' hz=>hk.heap.zsep k o (hown k hk') hz,hk.heap.zlt,hk.heap.tab⟩,
  ⟨hk.le.Z,?_,fun b hb hm=> ?_,fun b hb hm=> ?_,fun b hb=> ?_⟩,hk.fr,hk.znew,fun k hk'=>hk.own k (hown k hk')⟩,hrep⟩
 ·obtain⟨b,y,hb,e,hy,hin,rfl,hi⟩:=hbox i x hx;refine u8a (g:=g') (g0:=g2) (σ:=σ) rfl hσ hi (Box.j0x hin) ?_;rw[Box.j0p hin,e];exact hk.heap.rep b y hy
 ·obtain⟨b,y',hb,e,hy',_,rfl,_⟩:=hbox i x hx;obtain⟨c,z',hc,e',hz',_,rfl,_⟩:=hbox j y hy;rw[hat,e]at hkx;rw[hat,e']at hky;have:=hk.heap.sep b c y' z' k hy' hz' hkx hky;subst this;have a1:=y3p q1 hb;have a2:=y3p q1 hc;rw[a1]at a2;exact Option.some.inj a2
 ·show g.n<=L.length;rcases Nat.eq_zero_or_pos h.length with h0|h0
  ·omega
  ·have:=(a0c.1 (hid (h.length - 1) (by omega))).1
   omega
 ·have hi:=hid b (by omega)
  show g'.blk (σ b)=g.blk b;rw[show σ b=b by simp[σ,ext,hi]]
  exact hk.le.blk b hb hm
 ·have hi:=hid b (by omega)
  show g'.val (σ b)=g.val b;rw[show σ b=b by simp[σ,ext,hi]]
  exact hk.le.val b hb hm
 ·have hi:=hid b (by omega)
  show g'.cd (σ b)=g.cd b;rw[show σ b=b by simp[σ,ext,hi]]
  exact hk.le.cd b hb
end
section
variable {P : Program} {M : List Nat} {h h' h2 : List Box} {B : Operand -> V} {o : Oper} {x : V}
def z2r (P:Program):Nat->TypeId->Option (List Sh)
 |0,_=>none
 |n+1,t=>match P.underlying t with
  |some (.int k)=>some [.int k]
  |some .bool=>some [.bool]
  |some .string=>some [.str]
  |some (.slice e)=>(szO P e).map fun sz=>[.sl sz]
  |some (.struct fs)=>fs.toList.foldr (fun f acc=>match z2r P n f.type,acc with
   |some a,some b=>some (a++b)
   |_,_=>none) (some [])
  |some (.array m e)=>(z2r P n e).map fun l=>(List.replicate m l).flatten
  |_=>none
def Pre (h h2:List Box):Prop:= ∀(b:Nat) x,h[b]? =some x->x= .gone\/h2[b]? =some x
def Pre.at (hp:Pre h h2){b:Nat}{x:Box}(hb:h[b]? =some x)(hx:x≠ .gone):h2[b]? =some x:=(hp b x hb).resolve_left hx
def Pre.refl (h:List Box):Pre h h:=fun _ _ h=> .inr h
def k7h (v:V)(k:Nat):Option V:=match v with
 | .ptr b off=>some (.ptr b (off+k))
 | .pel cs=>some (.pel (cs.drop k))
 | .pml b sz i off=>some (.pml b sz i (off+k))
 |_=>none
def u6f {v:V}{n:Int}(hp:Pre h h2)(hn:w8e h v=some n):w8e h2 v=some n:=by
 unfold w8e at hn ⊢;split<;>simp_all
 split at hn
 ·rename_i heq;rw[hp.at heq nofun];simpa using hn
 ·cases hn
def z8o {v:V}(hp:Pre h h2)(hn:v.j0h h=true):v.j0h h2=true:=by
 unfold V.j0h at hn ⊢;split<;>simp_all
 split at hn
 ·rename_i heq;rw[hp.at heq nofun]
 ·cases hn
end
section
variable {P : Program} {M : List Nat} {h h' h2 : List Box} {B : Operand -> V} {o : Oper} {x : V}
def z0a {y z:Operand}{ts:Array TypeId}{t e:TypeId}{sz by_:Nat}{zv:Value}{news:LL}
  (hop:o.op= .call { callee:= .builtin .append,args:= #[y,z],argTypes:=ts }) (hts:ts= #[t,t]) (ht:elT P t=some (e,sz,by_,zv)) (hzs:zv.cells.size=sz) (hsz:0 < sz)
  (hy1:B y= .nils) (hz:v2w h sz (B z)=some news)
  (h63:news.length<=maxLen) (hby:news.length*by_<=140737488355328):
  x0o P [] h (h++[.arr e sz news]) B o (.own h.length):=
 .of_run fun g B' w hs hy=>by
  obtain⟨hu,i,hi,hz0,hz1,hz2⟩:=y3s ht;have hr:=hy y;rw[hy1]at hr;have e1:B' y= .slice none 0 0:=by
   generalize hu0:B' y=u0 at hr;cases hr;rfl
  obtain⟨hnl,hsrc⟩:=z2t hs (hy z) hz;have hown0:w.ownsRow 0 e sz (.slice none 0 0) 0 []:=⟨by simp, .inl ⟨rfl,rfl⟩⟩
  rcases hsrc with⟨e2,rfl⟩|⟨ad,cap,nl,e2,hnlen,hnc,hn1,hnr⟩
  ·obtain⟨hkk,hrr⟩:=y1p (e:=e) (sz:=sz) (rows:=[]) hs (.slice none 0 0) w.heap.size (w':=w) ⟨rfl,rfl,rfl,a0q _,fun _ _ _=>rfl⟩ (.inl rfl) (a0q _) ⟨by simp, .inl ⟨by simp[Gh.push],rfl⟩⟩
   refine⟨_,w,_,?_,hrr,hkk⟩;have hrun:=run_append_owned_none (P:=P) w 0 t o.type e i sz hu hi _ _ [] hown0;simp[execOp,hop,resolve,invoke,builtin,hts,e1,e2,hrun]
  ·obtain⟨v',w',hrun,h2,h3,hnil,h5⟩:=run_append_own_at (P:=P) w 0 t o.type e i zv sz by_ hu hi hz0 hz1 hz2 hzs hsz _ _ [] hown0 ad news.length cap nl hnlen hnc hn1 (by omega) (by rwa [a1y]) (a0t _)
   have hfr:Fr (fun _=>False) w w':=⟨h3.os,h3.tape,h3.output,h3.size,fun k hk _=>h3.block k hk (by simp[Value.ownBlock])⟩
   have hcz: ∀k o,g.Z k o->w'.cell? ⟨k,o,none⟩=w.cell? ⟨k,o,none⟩:=fun k o hz=>hfr.cell (hs.zlt k o hz) (fun h=>h)
   have hv:(g.push w.heap.size v').val g.n=v':=by simp[Gh.push]
   have hbk:(g.push w.heap.size v').blk g.n=w.heap.size:=by simp[Gh.push]
   simp only[a1y,a0h]at h2;have hform:v'= .slice none 0 0\/ ∃n c,v'= .slice (some ⟨w.heap.size,0,none⟩) n c:=by
    rcases h2.2 with⟨q,_⟩|⟨k,cap',cur,q,_⟩
    ·exact .inl q
    ·right
     subst q;simp only[Value.ownBlock,reduceCtorEq,false_or,Option.some.injEq]at h5;subst h5;exact⟨_,_,rfl⟩
   have hb:x1o w' (g.push w.heap.size v') g.n (.arr e sz news):=by
    refine z4v (base:=0) (xs:=nl) (by rw[hv];exact h2) hnl (fun i' r j c hi' hj=> ?_) (fun k hk=> ?_)
    ·obtain⟨u,hu',hd⟩:=hnr i' r j c hi' hj;exact⟨u,hu',hd.mono (fun _ _ h=>h) hcz⟩
    ·rw[hv]at hk;rw[hbk];rcases hform with rfl|⟨n,c,rfl⟩
     ·simp[Value.ownBlock]at hk
     ·simpa[Value.ownBlock]using hk
   obtain⟨hkk,hrr⟩:=y1p (w':=w') hs v' w.heap.size ⟨h3.os,h3.tape,h3.output,h3.size,fun k hk _=>h3.block k hk (by simp[Value.ownBlock])⟩ hform (a0q _) hb
   refine⟨_,w',_,?_,hrr,hkk⟩;simp[execOp,hop,resolve,invoke,builtin,hts,e1,e2,hrun]
def V.j1p:V->List Nat
 | .own b=>[b]
 | .agg cs=>cs.filterMap fun| .own b=>some b|_=>none
 |_=>[]
def V.j2l (h:List Box):V->List Nat
 | .fn _ cs=>cs.flatMap fun v=>match v with
   | .ptr b _=>(match h[b]? with
     |some (.cells (.ty _) vs)=>vs.flatMap V.j1p
     |_=>[])++[b]
   |v=>v.j1p
 |_=>[]
def fzl (s:VSt)(o:Oper):List Nat:=match o.op with
 | .call ⟨.value f,args,_⟩=>(args.toList.flatMap fun y=>(s.get y).j1p++(s.get y).j2l s.h)++(s.get f).j2l s.h
 | .store _ a z=>match s.get a with
   | .pml .. =>(s.get z).j1p
   |_=>[]
 | .buildSlice _ _ parts=>parts.toList.flatMap fun q=>(s.get q.2).j1p
 | .mapUpdate _ _ _ z=>(s.get z).j1p
 | .slice _ y lo _ _=>match lo with
   |some _=>(s.get y).j1p
   |none=>[]
 | .convert _ _ y=>(s.get y).j1p
 |_=>[]
def VSt.j1m (s:VSt)(t:Nat)(b:Bool):VSt:= { s with t:=s.t.set t (.d (.bool b)) }
def y7a {E:Ent}{s:VSt}{a:Act}{w:World}{t:Nat}{c:Bool}(hs:x1s E s a w)(ht:s.t[t]? =some (.d (.bool c))):x1s E (s.j1m t c) a w/\a.tmps[t]? =some (.bool c):=by
 have hlt:t < s.t.length:=(a0c.1 ht).1;obtain⟨g,hs'⟩:=hs;have hlt':t < a.tmps.size:=by rw[hs'.size];exact hlt
 have hu:=hs'.tmps t _ _ (a0x hlt') ht;have e:=x3w hu;refine⟨x1s.j1m ⟨g,hs'⟩ (fun u g' hu'=> ?_),by rw[a0x hlt',e]⟩
 rw[a0x hlt',e]at hu';cases hu';exact .d (.bool c)
end
section
variable {P : Program} {M : List Nat} {h h' h2 : List Box} {B : Operand -> V} {o : Oper} {x : V}
def V.j0v (n:Nat):V->Bool
 | .own b| .map b=>decide (b < n)
 | .pml b _ _ _=>decide (b < n)
 | .ptr b _=>decide (b < n)
 | .mv _ b _=>decide (b < n)
 | .ifp _ b _=>decide (b < n)
 | .yld b _=>decide (b < n)
 | .osl b _ _ _=>decide (b < n)
 | .agg _| .tup _| .fn _ _=>false
 |_=>true
def V.j1x (n:Nat):V->Bool
 | .agg cs=>cs.all (V.j0v n)
 | .tup cs=>cs.all (V.j0v n)
 | .fn _ cs=>cs.all (V.j0v n)
 |v=>v.j0v n
def Gh.cut (g:Gh)(n:Nat):Gh:= { g with n:=n }
def x4e {w:World}{g:Gh}{n:Nat}{u:Value}{v:V}(hv:v.j0v n=true)(hr:Rep w g u v):Rep w (g.cut n) u v:=by
 cases hr with
 |any u=>exact .any u
 |nils=>exact .nils
 |d h=>exact .d h
 |pel blk off cs U hZ hc hr=>exact .pel blk off cs U hZ hc hr
 |nilp=>exact .nilp
 |nilf=>exact .nilf
 |ifn0=>exact .ifn0
 |ifn1 t p=>exact .ifn1 t p
 |ifc t us cs hl h=>exact .ifc t us cs hl h
 |ifo0 t cs=>exact .ifo0 t cs
 |ifo1 t us cs hl h=>exact .ifo1 t us cs hl h
 |own b hb=>exact .own (g:=g.cut n) b (a0f hv)
 |ptr b off hb=>exact .ptr (g:=g.cut n) b off (a0f hv)
 |mv f b off hb=>exact .mv (g:=g.cut n) f b off (a0f hv)
 |ifp f b off hb=>exact .ifp (g:=g.cut n) f b off (a0f hv)
 |pml b sz i off hb=>exact .pml (g:=g.cut n) b sz i off (a0f hv)
 |map b hb=>exact .map (g:=g.cut n) b (a0f hv)
 |yld b R hb hc=>exact .yld (g:=g.cut n) b R (a0f hv) hc
 |osl b sz lo k u hb hu=>exact .osl (g:=g.cut n) b sz lo k u (a0f hv) hu
 |_=>simp[V.j0v]at hv
def x6s {w:World}{g:Gh}{n:Nat}{u:Value}{v:V}(hv:v.j1x n=true)(hr:Rep w g u v):Rep w (g.cut n) u v:=by
 have aux: ∀(us:Array Value) (cs:List V),(∀(i:Nat) u c,us[i]? =some u->cs[i]? =some c->Rep w g u c)->cs.all (V.j0v n)=true->
     ∀(i:Nat) u c,us[i]? =some u->cs[i]? =some c->Rep w (g.cut n) u c:=fun us cs h ha i u c hu hc=>
  x4e (a0l.1 ha c (a0p hc)) (h i u c hu hc)
 cases hr with
 |agg us cs hl h=>exact .agg us cs hl (aux us cs h hv)
 |tup us cs hl h=>exact .tup us cs hl (aux us cs h hv)
 |fn f us cs hl h=>exact .fn f us cs hl (aux us cs h hv)
 |any u=>exact .any u
 |nils=>exact .nils
 |d h=>exact .d h
 |pel blk off cs U hZ hc hr=>exact .pel blk off cs U hZ hc hr
 |nilp=>exact .nilp
 |nilf=>exact .nilf
 |ifn0=>exact .ifn0
 |ifn1 t p=>exact .ifn1 t p
 |ifc t us cs hl h=>exact .ifc t us cs hl h
 |ifo0 t cs=>exact .ifo0 t cs
 |ifo1 t us cs hl h=>exact .ifo1 t us cs hl h
 |own b hb=>exact x4e hv (.own b hb)
 |ptr b off hb=>exact x4e hv (.ptr b off hb)
 |mv f b off hb=>exact x4e hv (.mv f b off hb)
 |ifp f b off hb=>exact x4e hv (.ifp f b off hb)
 |pml b sz i off hb=>exact x4e hv (.pml b sz i off hb)
 |map b hb=>exact x4e hv (.map b hb)
 |yld b R hb hc=>exact x4e hv (.yld b R hb hc)
 |osl b sz lo k u hb hu=>exact x4e hv (.osl b sz lo k u hb hu)
def Wk (n:Nat)(v' v:V):Prop:= ∀(w:World) (g:Gh) (u:Value),Rep w g u v'->Rep w (g.cut n) u v
def Wk.any (n:Nat)(v':V):Wk n v' .any:=fun _ _ u _=> .any u
def Box.j1x (n:Nat):Box->Bool
 | .cells _ vs=>vs.all (V.j1x n)
 |_=>true
end
section
variable {P : Program} {M : List Nat} {h h' h2 h0 : List Box} {B ρ2 : Operand -> V} {o : Oper} {x : V} {ops : Array Oper}
open Classical in
noncomputable def x3m (o:Oper) (B:Operand->V):Operand->V:=fun y=>match y with
 | .func f=> .fn f []
 |y=>if y∈o.op.operands.toList then B y else .any
def z2u (o:Oper)(B:Operand->V)(f:FuncId):x3m o B (.func f)= .fn f []:=rfl
def x9h (hf: ∀f,B (.func f)= .fn f []){y:Operand}(hy:y∈o.op.operands.toList):x3m o B y=B y:=by
 cases y<;>simp only[x3m,hf]<;>rw[if_pos hy]
def v2z {w:World}{g:Gh}{a:Act}(hy: ∀y,y∈o.op.operands.toList->Rep w g (a.eval y) (B y)): ∀y,Rep w g (a.eval y) (x3m o B y):=by
 intro y;cases y with
 |func f=>exact .fn f #[] [] rfl (by simp)
 |_=>simp only[x3m];split<;>first|exact hy _ ‹_› |exact .any _
def x5d (ops:Array Oper)(o:Oper)(t:List V):Option Bool:=match o.guard with
 |none=>some true
 |some (j,want)=>match (ops[j]?).bind (·.dst)with
  |some k=>match t[k]? with
   |some (.d (.bool c))=>some (c == want)
   |some (.tup [])=>some false
   |_=>none
  |none=>none
def x3s {E:Ent}{s:VSt}{a:Act}{w:World}(hs:x1s E s a w){c:Bool}(hw:x5d ops o s.t=some c):Region.wanted o (yielded ops a.tmps)=c:=by
 unfold x5d at hw;split at hw
 ·rename_i hg;cases hw;simp[Region.wanted,hg]
 ·rename_i j want hg;split at hw
  ·rename_i k hk;split at hw
   ·rename_i c' hc;cases hw;have hy:yielded ops a.tmps j=some c':=by simp[yielded,hk,(y7a hs hc).2]
    simp only[Region.wanted,hg,hy];cases c'<;>cases want<;>rfl
   ·rename_i hc;cases hw;have hy:yielded ops a.tmps j=none:=by
     have hlt:k < s.t.length:=(a0c.1 hc).1;obtain⟨g,hs'⟩:=hs;have hlt':k < a.tmps.size:=by rw[hs'.size];exact hlt
     have hu:=hs'.tmps k _ _ (a0x hlt') hc;have ha:a.tmps[k]? =some a.tmps[k]:=a0x hlt';generalize a.tmps[k]=u at hu ha;cases hu with
     |tup us cs hl h=>simp[yielded,hk,ha]
    simp[Region.wanted,hg,hy]
   ·cases hw
  ·cases hw
def x4b (t:List V)(dst:Option Tmp)(x:V):List V:=match dst with
 |some d=>t.set d x
 |none=>t
def Val (P:Program)(h0:List Box)(o:Oper)(t:List V)(x:V):Prop:= ∀h2,Pre h0 h2->x0o P [] h2 h2 (x3m o (VSt.get ⟨t,h0⟩)) o x
def u8d (P:Program)(o:Oper):Option Box:=match o.op with
 | .alloc t=>match z1o P t with
   |some z=>match (x4w z).j0g with
    |some vs=>some (.cells (.ty t) vs)
    |none=>none
   |none=>none
 |_=>none
def Out (P:Program)(ops:Array Oper)(h0:List Box)(o:Oper)(t:List V)(hb:List Box)(x:V)(hb':List Box):Prop:=
 (x5d ops o t=some true/\((hb'=hb/\Val P h0 o t x)\/(hb= []/\x= .ptr h0.length 0/\ ∃b,u8d P o=some b/\hb'= [b])))\/(x5d ops o t=some false/\x= .tup []/\hb'=hb)
def u9c (h0 hb:List Box):Pre h0 (h0++hb):=fun b x hx=> .inr <| by
 rw[a0z,if_pos (a0c.1 hx).1];exact hx
def y6q (t:List V)(h h':List Box):VSt.get ⟨t,h⟩=VSt.get ⟨t,h'⟩:=by funext y;cases y<;>rfl
def x0o.j0o (hg:x0o P M h h' (x3m o B) o x):x0o P M h h' B o x:=
 fun g a w hs hy K Q hK=>hg g a w hs (v2z fun y _=>hy y) K Q hK
def Out.wp {E:Ent}{t:List V}{hb hb':List Box}{a:Act}{w:World}(ho:Out P ops h0 o t hb x hb')(hs:x1s E ⟨t,h0++hb⟩ a w){K:Act->World->Prop}{Q:Exit->Act->World->Prop}
  (hK: ∀a' w',x1s E ⟨x4b t o.dst x,h0++hb'⟩ a' w'->K a' w'):if Region.wanted o (yielded ops a.tmps)then o.wp P a w K Q else K (a.put o.dst undef) w:=by
 have hnext: ∀h' x,VSt.next ⟨t,h0++hb⟩ [] h' o.dst x=⟨x4b t o.dst x,h'⟩:=fun h' x=>by first|(simp only[VSt.next,x4b];done)|(simp only[VSt.next,x4b];cases o.dst<;>rfl)
 rcases ho with⟨hw,hv⟩|⟨hw,rfl,rfl⟩
 ·rw[if_pos (x3s hs hw)];rcases hv with⟨rfl,hv⟩|⟨rfl,rfl,b,hb,rfl⟩
  ·have hg:=hv (h0++hb') (u9c _ _);rw[y6q t h0 (h0++hb')]at hg;refine x0o.sim (s:=⟨t,h0++hb'⟩) hg.j0o hs (by simp[okM]) fun a' w' hs'=>hK a' w' ?_
   rwa [hnext]at hs'
  ·unfold u8d at hb;split at hb
   ·rename_i ty hop;split at hb
    ·rename_i z hz;split at hb
     ·rename_i vs hvs;cases hb;have hg:x0o P [] (h0++[]) ((h0++[])++[.cells (.ty ty) vs]) (VSt.get ⟨t,h0++[]⟩) o (.ptr (h0++[]).length 0):=x9q hop hz hvs;refine x0o.sim (s:=⟨t,h0++[]⟩) hg hs (by simp[okM]) fun a' w' hs'=>hK a' w' ?_
      rw[hnext]at hs'
      simpa using hs'
     ·cases hb
    ·cases hb
   ·cases hb
 ·rw[if_neg (by rw[x3s hs hw];simp)]
  refine hK _ _ ?_;obtain⟨g,hs⟩:=hs;have:=hs.next (.refl hs.heap) (by simp[okM]) (.tup (w:=w) (g:=g) #[] [] rfl (by simp)) o.dst
  rw[hnext]at this;exact⟨g,this⟩
def y0j {d:Option Tmp}(hd: ∀k,d=some k->k ∉ o.looksAt ops)(t:List V):x5d ops o (x4b t d x)=x5d ops o t:=by
 cases d with
 |none=>rfl
 |some k=>
  unfold x5d;split
  ·rfl
  ·rename_i j want hg;split
   ·rename_i q hq;have hne:k≠q:=fun e=>hd k rfl (by subst e;simp[Oper.looksAt,hg,hq])
    simp only[x4b,a1j,if_neg hne]
   ·rfl
def x6y {d:Option Tmp}(hd: ∀k,d=some k->k ∉ o.looksAt ops)(t:List V)(h:List Box):x3m o (VSt.get ⟨x4b t d x,h⟩)=x3m o (VSt.get ⟨t,h⟩):=by
 funext y;cases y with
 |tmp q=>
  simp only[x3m];split
  ·rename_i hy;cases d with
   |none=>rfl
   |some k=>
    have hne:k≠q:=fun e=>hd k rfl (by
     subst e;exact List.mem_append_left _ (List.mem_filterMap.2 ⟨.tmp k,hy,rfl⟩))
    simp[VSt.get,x4b,hne]
  ·rfl
 |const v=>simp only[x3m];rfl
 |func f=>rfl
 |global k=>simp only[x3m];rfl
def x4v {d e:Option Tmp}(hde: ∀k,d=some k->e≠some k)(t:List V)(u v:V):x4b (x4b t d u) e v=x4b (x4b t e v) d u:=by
 cases d with
 |none=>rfl
 |some k=>cases e with
  |none=>rfl
  |some q=>exact List.set_comm _ _ (fun hh=>hde k rfl (by rw[hh]))
def Out.put {oi oj:Oper}{t:List V}{hb hbi hbj:List Box}{xi xj:V}(hap:oi.apart ops oj=true)
  (hi:Out P ops h0 oi t hb xi hbi) (hj:Out P ops h0 oj (x4b t oi.dst xi) hbi xj hbj):
  ∃hb1,Out P ops h0 oj t hb xj hb1/\Out P ops h0 oi (x4b t oj.dst xj) hb1 xi hbj/\x4b (x4b t oj.dst xj) oi.dst xi=x4b (x4b t oi.dst xi) oj.dst xj:=by
 obtain⟨a1,a2,a3⟩:=Oper.apart_spec hap;have hcomm:=x4v a2 t xi xj;have toj: ∀ {x},Val P h0 oj (x4b t oi.dst xi) x↔Val P h0 oj t x:=fun {x}=>by simp only[Val,x6y a1]
 have toi: ∀ {x},Val P h0 oi (x4b t oj.dst xj) x↔Val P h0 oi t x:=fun {x}=>by simp only[Val,x6y a3]
 have wj:=y0j (o:=oj) (x:=xi) a1 t;have wi:=y0j (o:=oi) (x:=xj) a3 t;simp only[Out,wj,toj]at hj;rcases hi with⟨hw,(⟨rfl,hv⟩|⟨rfl,rfl,b,hb1,rfl⟩)⟩|⟨hw,rfl,rfl⟩
 ·refine⟨hbj,hj, .inl ⟨by rw[wi];exact hw, .inl ⟨rfl,toi.2 hv⟩⟩,hcomm.symm⟩
 ·rcases hj with⟨hw',(⟨rfl,hv'⟩|⟨hne,_⟩)⟩|⟨hw',rfl,rfl⟩
  ·exact⟨[], .inl ⟨hw', .inl ⟨rfl,hv'⟩⟩, .inl ⟨by rw[wi];exact hw, .inr ⟨rfl,rfl,b,hb1,rfl⟩⟩,hcomm.symm⟩
  ·cases hne
  ·exact⟨[], .inr ⟨hw',rfl,rfl⟩, .inl ⟨by rw[wi];exact hw, .inr ⟨rfl,rfl,b,hb1,rfl⟩⟩,hcomm.symm⟩
 ·exact⟨hbj,hj, .inr ⟨by rw[wi];exact hw,rfl,rfl⟩,hcomm.symm⟩
end
def Fw (ro:Option Nat):Fence:= { Fence.wide with round:=ro }
def z8g (o:Oper):Bool:=match o.op with
 | .defer _=>false
 |_=>true
def z3e {o:Oper}(h:z8g o=true): ∀c,o.op≠ .defer c:=fun c hc=>by simp[z8g,hc]at h
section
variable {P : Program} {o : Oper} {a : Act} {w : World} {K : Act -> World -> Prop} {Q : Exit -> Act -> World -> Prop} {ro : Option Nat} {n : Nat}
def z3u {f:FuncId}{args:Array Value}{R:Ending->World->Prop}:CallsIn (Fw ro) n P f args w R↔Calls P f args w R:=callsIn_wide (n:=n)
def y4d (hnd:z8g o=true)(h:o.wp P a w K Q):o.wpIn (Fw ro) n P a w K Q:=by
 refine⟨fun f _=>trivial,?_⟩
 have e:o.semAt (Fw ro).round a.eval=execOp a.eval o:=Oper.semAt_eq _ _ _ (z3e hnd);rw[e];unfold Oper.wp at h;generalize (execOp a.eval o).run P w=r at h;cases r with
 |ok x w'=>
  cases x with
  |value v=>exact h
  |skip=>exact h
  |defer d=>exact h
  |enter f args=>exact⟨fun h=>by simp[Fw,Fence.wide]at h,z3u.2 h⟩
  |row row args=>
   refine⟨fun h=>by simp[Fw,Fence.wide]at h,fun c cs _=> ?_⟩
   obtain⟨v,w2,h1,h2⟩:=h c cs;exact⟨v,w2,h1,stepsIn_wide.2 h2⟩
  |_=>first|exact h|exact h.elim
 |halt x w'=>cases x<;>first|exact h|exact h.elim
def x5j {ops:Array Oper}{rest:List Oper}(h:if Region.wanted o (yielded ops a.tmps)then o.wpIn (Fw ro) 0 P a w (wpListIn (Fw ro) 0 P ops Q rest) Q else wpListIn (Fw ro) 0 P ops Q rest (a.put o.dst undef) w):wpListIn (Fw ro) 0 P ops Q (o::rest) a w:=by
 unfold wpListIn;split
 ·rename_i hw;rw[if_pos hw]at h;exact h
 ·rename_i hw;rw[if_neg hw]at h;exact⟨fun _ _=>trivial,h⟩
def u1n {F:Fence}{rm:Nat}{c:Code}(I:Nat->Act->World->Prop)(n₀:Nat)(h₀:I n₀ a w)
  (round: ∀n a w,I n a w->c.wpIn F rm P (Exit.then (fun a' w'=> ∃n',n' < n/\I n' a' w') Q) a w):(Code.loop c).wpIn F rm P Q a w:=by
 refine wpIn_loop (fun a w=> ∃n,I n a w) (fun a w=>leastOf (fun n=>I n a w)) ⟨n₀,h₀⟩ ?_
 intro a w hI;refine wpIn_mono (round _ a w (leastOf_spec hI).1) fun e a' w' hq=> ?_
 cases e with
 |normal=>
  obtain⟨n',hlt,hI'⟩:=hq;exact show(∃n,I n a' w')/\leastOf (fun n=>I n a' w') < leastOf (fun n=>I n a w)from⟨⟨n',hI'⟩,Nat.lt_of_le_of_lt ((leastOf_spec ⟨n',hI'⟩).2 n' hI') hlt⟩
 |_=>exact hq
end
section
variable {P : Program} {M : List Nat} {h h' h2 h0 : List Box} {B ρ2 : Operand -> V} {o : Oper} {x : V} {ops : Array Oper}
def u7a (o:Oper)(i:Nat):Bool:=o.after.any fun e=>Region.binds .any e&&e.on == i
def z0l {o:Oper}{i:Nat}(h:u7a o i=true): ∃e∈o.after,Region.binds .any e=true/\e.on=i:=by
 obtain⟨e,he,hb⟩:=Array.any_eq_true'.1 h;simp only[a0g,beq_iff_eq]at hb;exact⟨e,he,hb.1,hb.2⟩
def x5b (ops:Array Oper):Nat->Oper->Nat->Bool
 |0,o,i=>u7a o i
 |n+1,o,i=>u7a o i || o.after.any fun e=>Region.binds .any e&&(match ops[e.on]? with
  |some ok=>x5b ops n ok i
  |none=>false)
def y5j (ops:Array Oper)(listed:Array Bool):Prop:= ∀(k:Nat) ok,ops[k]? =some ok->listed.getD k false=true-> ∀e∈ok.after,Region.binds .any e=true->listed.getD e.on false=true
def x7t {listed:Array Bool}(hc:y5j ops listed){i:Nat}: ∀(n:Nat) {o:Oper},(∀e∈o.after,Region.binds .any e=true->listed.getD e.on false=true)->x5b ops n o i=true->listed.getD i false=true
 |0,o,ho,h=>by obtain⟨e,he,hb,rfl⟩:=z0l h;exact ho e he hb
 |n+1,o,ho,h=>by
  unfold x5b at h;rw[Bool.or_eq_true]at h;rcases h with h|h
  ·obtain⟨e,he,hb,rfl⟩:=z0l h;exact ho e he hb
  ·obtain⟨e,he,hb⟩:=Array.any_eq_true'.1 h;simp only[a0g]at hb;obtain⟨hb1,hb2⟩:=hb;split at hb2
   ·rename_i ok hok;exact x7t hc n (hc e.on ok hok (ho e he hb1)) hb2
   ·cases hb2
def y5j.step {listed:Array Bool}(hc:y5j ops listed){i:Nat}(hi:i∈Region.ready .any ops listed):y5j ops (listed.setIfInBounds i true):=by
 have mono: ∀k,listed.getD k false=true->(listed.setIfInBounds i true).getD k false=true:=fun k hk=>by
  by_cases h:i=k
  ·subst h;simp only[Array.getD_eq_getD_getElem?,Array.getElem?_setIfInBounds,if_pos];split
   ·rfl
   ·rename_i hlt;rw[Array.getD_eq_getD_getElem?,Array.getElem?_eq_none (Nat.le_of_not_lt hlt)]at hk;exact hk
  ·rw[getD_set_ne false h];exact hk
 intro k ok hok hk e he hb
 by_cases h:i=k
 ·subst h;obtain⟨_,oi',hoi',hall⟩:=mem_ready.1 hi;rw[hok]at hoi';cases hoi';exact mono _ (hall e he hb)
 ·rw[getD_set_ne false h]at hk;exact mono _ (hc k ok hok hk e he hb)
def x8t {i:Nat}{listed:Array Bool}(hi:i∈Region.ready .any ops listed):listed.getD i false=false:=by
 have h0:=(mem_ready.1 hi).1;rcases Nat.lt_or_ge i listed.size with h'|h'
 ·simp[h']at h0 ⊢;exact h0
 ·simp[Array.getElem?_eq_none h']
def calm (o:Oper):Bool:=match o.op with
 | .store .. | .mapUpdate .. | .insert .. | .makeMap .. | .makeSlice .. | .box .. | .panic .. =>false
 | .call ⟨.builtin .append,_,_⟩| .call ⟨.builtin .copy,_,_⟩| .call ⟨.builtin .delete,_,_⟩=>false
 |_=>true
def v9z {α:Type}{l:List α}{k:Nat}{v:α}(hv:l[k]? =some v):l.set k v=l:=by
 apply List.ext_getElem?;intro i;rw[a1j]
 by_cases hi:k=i
 ·subst hi;rw[if_pos rfl,if_pos (a0c.1 hv).1,hv]
 ·rw[if_neg hi]
def x1s.drew {E:Ent}{s:VSt}{a:Act}{w:World}(hs:x1s E s a w):x1s E s a w.drew:=by
 obtain⟨g,hs⟩:=hs;have ho:Over [] w g w.drew g:=⟨Gh.Le.refl _ _,fun _ _ _=>rfl⟩
 have hk:Keep [] g s.h w g s.h w.drew:=⟨⟨hs.heap.n,fun b x hx=>by
  have:=x1o.over ho (by rw[hs.heap.n];exact(a0c.1 hx).1) (by simp) (fun k _=>rfl) (hs.heap.rep b x hx)
  rwa [Box.j0c]at this,hs.heap.sep,hs.heap.zsep,hs.heap.zlt,hs.heap.tab⟩,Gh.Le.refl _ _,Fr.drew _ _,fun _ _ h=> .inl h,fun _ h=> .inl h⟩
 exact⟨g,hk.heap,hs.size,fun i u v h1 h2=>ho.j0b (hs.tmps i u v h1 h2),hs.defers.keep hk,hs.step hk (by simp[okM]),hs.len⟩
end
section
variable {P : Program} {M : List Nat} {h h' h2 h0 hh : List Box} {B ρ2 : Operand -> V} {o : Oper} {x : V} {ops : Array Oper} {W : List Nat}
def isSt (o:Oper):Bool:=match o.op with
 | .store .. =>true
 |_=>false
def early (ops:Array Oper)(i:Nat):Bool:=(List.range ops.size).all fun j=>match ops[j]? with
 |some oj=> !isSt oj || u7a oj i
 |none=>true
def y7r (W:List Nat)(h0 h2:List Box):Prop:= ∀(b:Nat) x,b ∉ W->h0[b]? =some x->h2[b]? =some x
def z9d (h:List Box):List Nat->List Box
 | []=>h
 |b::bs=>z9d (h.set b .gone) bs
def y7k: ∀ {W:List Nat} {h:List Box} {b:Nat} {x:Box},(z9d h W)[b]? =some x->x= .gone\/(b ∉ W/\h[b]? =some x)
 | [],h,b,x,hx=> .inr ⟨by simp,hx⟩
 |c::W,h,b,x,hx=>by
  rcases y7k (W:=W) hx with h1|⟨h1,h2⟩
  ·exact .inl h1
  ·rw[a1j]at h2
   by_cases hc:c=b
   ·subst hc;rw[if_pos rfl]at h2;split at h2
    ·cases h2;exact .inl rfl
    ·cases h2
   ·rw[if_neg hc]at h2;exact .inr ⟨by simp;exact⟨fun e=>hc e.symm,h1⟩,h2⟩
def y7r.pre (hp:y7r W h0 h2):Pre (z9d h0 W) h2:=fun b x hx=>by
 rcases y7k hx with h1|⟨h1,h3⟩
 ·exact .inl h1
 ·exact .inr (hp b x h1 h3)
inductive Eff where
 |no
 |late
 |early
 |alloc (b:Box)
 |st (b:Nat) (c c':Box)
def Eff.ok (W:List Nat)(h0 hh:List Box):Eff->Prop
 | .no=>True
 | .late=>y7r W h0 hh
 | .early=>Pre h0 hh
 | .alloc _=>hh.length=h0.length
 | .st b c _=>hh[b]? =some c/\y7r W h0 hh/\b∈W/\b < h0.length
def Eff.run (hh:List Box):Eff->List Box
 | .alloc b=>hh++[b]
 | .st b _ c'=>hh.set b c'
 |_=>hh
def w6f (P:Program)(ops:Array Oper)(W:List Nat)(h0:List Box)(i:Nat)(o:Oper)(t:List V)(x:V):Eff->Prop
 | .no=>x5d ops o t=some false/\x= .tup []
 | .late=>x5d ops o t=some true/\ ∀h2,y7r W h0 h2->x0o P [] h2 h2 (x3m o (VSt.get ⟨t,h0⟩)) o x
 | .early=>x5d ops o t=some true/\early ops i=true/\ ∀h2,Pre h0 h2->x0o P [] h2 h2 (x3m o (VSt.get ⟨t,h0⟩)) o x
 | .alloc b=>x5d ops o t=some true/\x= .ptr h0.length 0/\u8d P o=some b
 | .st b c c'=>x5d ops o t=some true/\isSt o=true/\ ∀h2,y7r W h0 h2->h2[b]? =some c->x0o P [] h2 (h2.set b c') (x3m o (VSt.get ⟨t,h0⟩)) o x
def w6f.put {i:Nat}{t:List V}{d:Option Tmp}{y:V}(hd: ∀k,d=some k->k ∉ o.looksAt ops)(e:Eff):w6f P ops W h0 i o (x4b t d y) x e↔w6f P ops W h0 i o t x e:=by
 cases e<;>simp only[w6f,y0j hd,x6y hd]
def y7b (hl:hh.length=h0.length)(b:Box):y7r W h0 (hh++[b])↔y7r W h0 hh:=by
 constructor<;>intro hp c x hc hx<;>have hlt:=(a0c.1 hx).1<;>have:=hp c x hc hx
 ·rwa [a0z,if_pos (by omega)]at this
 ·rw[a0z,if_pos (by omega)];exact this
def v3q (hl:hh.length=h0.length)(b:Box):Pre h0 (hh++[b])↔Pre h0 hh:=by
 constructor<;>intro hp c x hx<;>have hlt:=(a0c.1 hx).1<;>rcases hp c x hx with h1|h1
 ·exact .inl h1
 ·rw[a0z,if_pos (by omega)]at h1;exact .inr h1
 ·exact .inl h1
 ·refine .inr ?_;rw[a0z,if_pos (by omega)];exact h1
def w0h {b:Nat}(hb:b∈W)(c:Box):y7r W h0 (hh.set b c)↔y7r W h0 hh:=by
 constructor<;>intro hp k x hk hx<;>have hne:b≠k:=(fun e=>hk (e▸hb))<;>have:=hp k x hk hx
 ·rwa [a1j,if_neg hne]at this
 ·rw[a1j,if_neg hne];exact this
def Eff.isSt:Eff->Bool
 | .st .. =>true
 |_=>false
def Eff.j0t:Eff->Bool
 | .early=>true
 |_=>false
def Eff.swap {e1 e2:Eff}(h1:e1.ok W h0 hh)(h2:e2.ok W h0 (e1.run hh))(hss:e1.isSt=true->e2.isSt=true->False)(hse:e1.isSt=true->e2.j0t=true->False)(hes:e1.j0t=true->e2.isSt=true->False):
  e2.ok W h0 hh/\e1.ok W h0 (e2.run hh)/\e1.run (e2.run hh)=e2.run (e1.run hh):=by
 cases e1 with
 |no=>exact⟨h2,trivial,rfl⟩
 |late=>
  cases e2 with
  |no=>exact⟨h2,h1,rfl⟩
  |late=>exact⟨h2,h1,rfl⟩
  |early=>exact⟨h2,h1,rfl⟩
  |alloc b=>exact⟨h2,(y7b h2 b).2 h1,rfl⟩
  |st b c c'=>exact⟨h2,(w0h h2.2.2.1 c').2 h1,rfl⟩
 |early=>
  cases e2 with
  |no=>exact⟨h2,h1,rfl⟩
  |late=>exact⟨h2,h1,rfl⟩
  |early=>exact⟨h2,h1,rfl⟩
  |alloc b=>exact⟨h2,(v3q h2 b).2 h1,rfl⟩
  |st b c c'=>exact(hes rfl rfl).elim
 |alloc b=>
  have h1:hh.length=h0.length:=h1;cases e2 with
  |no=>exact⟨trivial,h1,rfl⟩
  |late=>exact⟨(y7b h1 b).1 h2,h1,rfl⟩
  |early=>exact⟨(v3q h1 b).1 h2,h1,rfl⟩
  |alloc b'=>
   have h2:(hh++[b]).length=h0.length:=h2;simp at h2;omega
  |st k c c'=>
   obtain⟨q1,q2,q3,q4⟩:=h2;have hk:k < hh.length:=by omega
   refine⟨⟨?_,(y7b h1 b).1 q2,q3,q4⟩,?_,?_⟩
   ·have q1:(hh++[b])[k]? =some c:=q1
    rwa [a0z,if_pos hk]at q1
   ·show(hh.set k c').length=h0.length;simpa using h1
   ·show hh.set k c'++[b]=(hh++[b]).set k c';rw[List.set_append_left _ _ hk]
 |st k c c'=>
  obtain⟨q1,q2,q3,q4⟩:=h1;cases e2 with
  |no=>exact⟨trivial,⟨q1,q2,q3,q4⟩,rfl⟩
  |late=>exact⟨q2,⟨q1,q2,q3,q4⟩,rfl⟩
  |early=>exact(hse rfl rfl).elim
  |alloc b'=>
   have h2:(hh.set k c').length=h0.length:=h2;have h2:hh.length=h0.length:=by simpa using h2
   have hk:k < hh.length:=by omega
   refine⟨h2,⟨?_,(y7b h2 b').2 q2,q3,q4⟩,?_⟩
   ·show(hh++[b'])[k]? =some c;rw[a0z,if_pos hk];exact q1
   ·show(hh++[b']).set k c'=hh.set k c'++[b'];rw[List.set_append_left _ _ hk]
  |st=>exact(hss rfl rfl).elim
def q5m (P:Program)(ops:Array Oper)(W:List Nat)(h0:List Box)(i:Nat)(o:Oper)(t:List V)(hh:List Box)(x:V)(hh':List Box):Prop:=
 ∃e,w6f P ops W h0 i o t x e/\Eff.ok W h0 hh e/\hh'=e.run hh
def v6g {i:Nat}{t:List V}{e:Eff}(hf:w6f P ops W h0 i o t x e):(e.isSt=true->isSt o=true)/\(e.j0t=true->early ops i=true):=by
 cases e with
 |st=>exact⟨fun _=>hf.2.1,fun h=>by simp[Eff.j0t]at h⟩
 |early=>exact⟨fun h=>by simp[Eff.isSt]at h,fun _=>hf.2.1⟩
 |_=>exact⟨fun h=>by simp[Eff.isSt]at h,fun h=>by simp[Eff.j0t]at h⟩
def q5m.put {i j:Nat}{oi oj:Oper}{t:List V}{hi' hj':List Box}{xi xj:V}(hap:oi.apart ops oj=true)(hss:isSt oi=true->isSt oj=true->False)(hse:isSt oi=true->early ops j=true->False)(hes:early ops i=true->isSt oj=true->False)
  (hi:q5m P ops W h0 i oi t hh xi hi') (hj:q5m P ops W h0 j oj (x4b t oi.dst xi) hi' xj hj'):
  ∃hh1,q5m P ops W h0 j oj t hh xj hh1/\q5m P ops W h0 i oi (x4b t oj.dst xj) hh1 xi hj'/\x4b (x4b t oj.dst xj) oi.dst xi=x4b (x4b t oi.dst xi) oj.dst xj:=by
 obtain⟨a1,a2,a3⟩:=Oper.apart_spec hap;obtain⟨e1,f1,k1,rfl⟩:=hi;obtain⟨e2,f2,k2,rfl⟩:=hj;rw[w6f.put a1]at f2;obtain⟨s1,s2⟩:=v6g f1;obtain⟨s3,s4⟩:=v6g f2;obtain⟨q1,q2,q3⟩:=Eff.swap k1 k2 (fun h1 h2=>hss (s1 h1) (s3 h2)) (fun h1 h2=>hse (s1 h1) (s4 h2)) (fun h1 h2=>hes (s2 h1) (s3 h2))
 exact⟨_,⟨e2,f2,q1,rfl⟩,⟨e1,(w6f.put a3 e1).2 f1,q2,q3.symm⟩,(x4v a2 t xi xj).symm⟩
def q5m.wp {E:Ent}{i:Nat}{t:List V}{hh':List Box}{a:Act}{w:World}(ho:q5m P ops W h0 i o t hh x hh')(hs:x1s E ⟨t,hh⟩ a w){K:Act->World->Prop}{Q:Exit->Act->World->Prop}
  (hK: ∀a' w',x1s E ⟨x4b t o.dst x,hh'⟩ a' w'->K a' w'):if Region.wanted o (yielded ops a.tmps)then o.wp P a w K Q else K (a.put o.dst undef) w:=by
 have hnext: ∀h' x,VSt.next ⟨t,hh⟩ [] h' o.dst x=⟨x4b t o.dst x,h'⟩:=fun h' x=>by first|(simp only[VSt.next,x4b];done)|(simp only[VSt.next,x4b];cases o.dst<;>rfl)
 have go: ∀ {h'},x0o P [] hh h' (x3m o (VSt.get ⟨t,h0⟩)) o x->hh'=h'->x5d ops o t=some true->if Region.wanted o (yielded ops a.tmps)then o.wp P a w K Q else K (a.put o.dst undef) w:=by
  intro h' hg he hw;subst he;rw[if_pos (x3s hs hw)];rw[y6q t h0 hh]at hg;refine x0o.sim (s:=⟨t,hh⟩) hg.j0o hs (by simp[okM]) fun a' w' hs'=>hK a' w' ?_
  rwa [hnext]at hs'
 obtain⟨e,hf,hok,he⟩:=ho;cases e with
 |no=>
  obtain⟨hw,rfl⟩:=hf;have he:hh'=hh:=he;subst he;rw[if_neg (by rw[x3s hs hw];simp)]
  refine hK _ _ ?_;obtain⟨g,hs⟩:=hs;have:=hs.next (.refl hs.heap) (by simp[okM]) (.tup (w:=w) (g:=g) #[] [] rfl (by simp)) o.dst
  rw[hnext]at this;exact⟨g,this⟩
 |late=>exact go (hf.2 hh hok) he hf.1
 |early=>exact go (hf.2.2 hh hok) he hf.1
 |st b c c'=>exact go (hf.2.2 hh hok.2.1 hok.1) he hf.1
 |alloc b=>
  obtain⟨hw,rfl,hb⟩:=hf;have hl:hh.length=h0.length:=hok;have he:hh'=hh++[b]:=he;subst he;unfold u8d at hb;split at hb
  ·rename_i ty hop;split at hb
   ·rename_i z hz;split at hb
    ·rename_i vs hvs;cases hb;have hg:x0o P [] hh (hh++[.cells (.ty ty) vs]) (VSt.get ⟨t,hh⟩) o (.ptr hh.length 0):=x9q hop hz hvs;rw[if_pos (x3s hs hw)];refine x0o.sim (s:=⟨t,hh⟩) hg hs (by simp[okM]) fun a' w' hs'=>hK a' w' ?_
     rw[hnext,hl]at hs';exact hs'
    ·cases hb
   ·cases hb
  ·cases hb
def z8p (ops:Array Oper):Nat->Nat->Array Bool->Bool
 |0,_,listed=>(Region.ready .any ops listed).isEmpty
 |n+1,k,listed=>(Region.ready .any ops listed).contains k&&Region.free .any ops listed k&&z8p ops n (k+1) (listed.setIfInBounds k true)
def y6t (P:Program)(ops:Array Oper)(s:VSt):Nat->Operand->Option V
 |0,_=>none
 |n+1,y=>match y with
  | .tmp a=>match ops.toList.find? fun o=>o.dst == some a with
    |none=>some (s.t.getD a .any)
    |some o=>match o.op with
     | .move z=>y6t P ops s n z
     | .assign z=>y6t P ops s n z
     | .nilCheck z=>y6t P ops s n z
     | .fieldAddr st z f=>match y6t P ops s n z,k0t P st f with
       |some v,some k=>k7h v k
       |_,_=>none
     | .load _ z=>match y6t P ops s n z with
       |some (.ptr b off)=>match s.h[b]? with
        |some (.cells (.ty _) vs)=>vs[off]?
        |_=>none
       |_=>none
     | .indexAddr _ z _=>match y6t P ops s n z with
       |some (.own b)=>some (.pml b 0 0 0)
       |_=>none
     |_=>none
  |_=>none
def k4a (P:Program)(ops:Array Oper)(s:VSt)(o:Oper):List Nat:=match o.op with
 | .store _ y _=>match y6t P ops s 12 y with
   |some (.ptr b _)=>[b]
   |some (.pml b _ _ _)=>[b]
   |_=>[]
 |_=>[]
end
section
variable {P : Program} {M : List Nat} {h h' h2 h0 : List Box} {B ρ2 : Operand -> V} {o : Oper} {x : V} {ops : Array Oper}
def v4q:Code->Nat
 | .region id _ _=>3*id+1
 | .cond (.tmp t) _ _=>3*t+2
 | .block id _=>3*id+3
 | .seq a _=>v4q a
 |_=>0
def VSt.j2p (s:VSt)(c:Operand)(b:Bool):VSt:=match c with
 | .tmp k=>s.j1m k b
 |_=>s
def u4z {E:Ent}{s:VSt}{a:Act}{w:World}{c:Operand}{b:Bool}(hs:x1s E s a w)(ht:s.get c= .d (.bool b)):x1s E (s.j2p c b) a w:=by
 cases c with
 |tmp k=>
  refine(y7a hs (t:=k) (c:=b) ?_).1;have ht:s.t.getD k .any= .d (.bool b):=ht;rw[a0i]at ht;cases hq:s.t[k]? with
  |none=>rw[hq]at ht;cases ht
  |some v=>rw[hq]at ht;exact congrArg some ht
 |_=>exact hs
def x1s.len {E:Ent}{s:VSt}{a:Act}{w:World}(hs:x1s E s a w):s.t.length=E.len:=by obtain⟨g,hs⟩:=hs;exact hs.len
def u5f (P:Program)(s:VSt):ResultVar->Option V
 | .tmp t=>some (s.t.getD t .any)
 | .cell a t=>match s.t.getD a .any,szO P t,(P.underlying t).isSome,y2s P t with
   | .ptr b off,some n,true,ag=>match s.h[b]? with
     |some (.cells (.ty _) vs)=>match ag with
      |true=>match decide (off+n<=vs.length)with
       |true=>some (.agg ((vs.drop off).take n))
       |false=>none
      |false=>vs[off]?
     |_=>none
   |_,_,_,_=>none
def y8j (P:Program)(s:VSt):List ResultVar->Option (List V)
 | []=>some []
 |r::rs=>match u5f P s r,y8j P s rs with
  |some v,some vs=>some (v::vs)
  |_,_=>none
def z7m (P:Program)(s:VSt)(rs:List ResultVar):Option V:=match y8j P s rs with
 |some [v]=>some v
 |some vs=>some (.tup vs)
 |none=>none
def z7l (r:ResultVar)(tmps:Array Value):Sem Value:=match r with
 | .tmp t=>pure (tmps.getD t undef)
 | .cell a t=>do loadVar t (<-asAddr (tmps.getD a undef))
def u8v {E:Ent}{s:VSt}{a:Act}{w:World}{g:Gh}(hs:Sim E s a w g){r:ResultVar}{v:V}(hr:u5f P s r=some v): ∃u,(z7l r a.tmps).run P w= .ok u w/\Rep w g u v:=by
 cases r with
 |tmp t=>simp only[u5f,Option.some.injEq]at hr;subst hr;exact⟨_,rfl,hs.get (.tmp t)⟩
 |cell q t=>
  simp only[u5f]at hr;split at hr
  ·rename_i b off n hq hn hu;have hG:=hs.get (.tmp q);rw[show s.get (.tmp q)=_ from hq]at hG;obtain⟨e,hbn⟩:=x3v hG;have e:a.tmps.getD q undef= .pointer (some ⟨g.blk b,off,none⟩):=e;split at hr
   ·rename_i bt vs hb;obtain⟨us,hh,hsz,hr'⟩:=x4q (hs.heap.rep b _ hb);split at hr
    ·have ha:= ‹y2s P t=true›;split at hr
     ·rename_i hle;have hle:=a0f hle;cases hr;have hl:=run_loadCells (P:=P) w ⟨g.blk b,off,none⟩ n (fun j=>us[off+j]?.getD undef) (fun j hj=>by
       rw[x4k,x2u hh];simp[show off+j < us.size by omega])
      refine⟨.agg ((List.range n).map fun j=>us[off+j]?.getD undef).toArray,?_, .agg _ _ ?_ ?_⟩
      ·simp only[z7l,e,asAddr,loadVar,Sem.run_bind,x1i hu ha,Sem.run_pure,Result.andThen_ok,if_true,x0z hn,hl]
      ·simp;omega
      ·intro i u c hu' hc;rw[a1t,a1v]at hc;split at hc
       ·rename_i hi;have e1:u=us[off+i]?.getD undef:=by simp[hi]at hu';exact hu'.symm
        have hlt:off+i < us.size:=by
         have:=(a0c.1 hc).1;omega
        refine hr' (off+i) u c ?_ hc;rw[e1];simp[hlt]
       ·cases hc
     ·cases hr
    ·have ha:= ‹y2s P t=false›;have hlt:off < us.size:=by rw[hsz];exact(a0c.1 hr).1
     have hu':us[off]? =some us[off]:=a0x hlt;refine⟨us[off],?_,hr' off _ _ hu' hr⟩;simp[z7l,e,asAddr,loadVar,x1i hu ha,run_load,x2u hh,hu']
   ·cases hr
  ·cases hr
def y8i {E:Ent}{s:VSt}{a:Act}{w:World}{g:Gh}(hs:Sim E s a w g): ∀ {rs:List ResultVar} {vs:List V},y8j P s rs=some vs->
  ∃us:List Value,(rs.mapM fun r=>z7l r a.tmps).run P w= .ok us w/\z4c w g us vs
 | [],vs,hr=>by cases hr;exact⟨[],by simp,rfl,by simp⟩
 |r::rs,vs,hr=>by
  simp only[y8j]at hr;split at hr
  ·rename_i v vs' h1 h2;cases hr;obtain⟨u,e1,r1⟩:=u8v hs h1;obtain⟨us,e2,r2,r3⟩:=y8i hs h2;refine⟨u::us,by simp[List.mapM_cons,e1,e2],by simp[r2],fun i u' v' hu hv=> ?_⟩
   cases i with
   |zero=>simp at hu hv;subst hu;subst hv;exact r1
   |succ i=>exact r3 i u' v' (by simpa using hu) (by simpa using hv)
  ·cases hr
def x9i {E:Ent}{s:VSt}{a:Act}{w:World}{g:Gh}(hs:Sim E s a w g){fn:Func}{v:V}(hr:z7m P s fn.results.toList=some v):
  ∃u,(results fn a.tmps).run P w= .ok u w/\Rep w g u v:=by
 have key: ∀ {vs:List V},y8j P s fn.results.toList=some vs-> ∃us:List Value,(results fn a.tmps).run P w= .ok (if h:us.toArray.size=1 then us.toArray[0]else .tuple us.toArray) w/\z4c w g us vs:=by
  intro vs hvs;obtain⟨us,e,hus⟩:=y8i hs hvs;refine⟨us,?_,hus⟩;have:(fn.results.mapM fun r=>z7l r a.tmps).run P w= .ok us.toArray w:=by
   rw[Array.mapM_eq_mapM_toList];simp[e]
  unfold results;simp only[Sem.run_bind];exact(congrArg (fun r=>r.andThen fun (a:Array Value) w'=>Sem.run P (pure (if h:a.size=1 then a[0]else Value.tuple a)) w') this).trans rfl
 unfold z7m at hr;split at hr
 ·rename_i v' hvs;cases hr;obtain⟨us,e,h1,h2⟩:=key hvs
  match us,h1,h2,e with
  | [u],_,h2,e=>exact⟨u,e,h2 0 u v rfl rfl⟩
 ·rename_i vs hne hvs;cases hr;obtain⟨us,e,h1,h2⟩:=key hvs;have hn1:us.toArray.size≠1:=by
   intro hc;have:vs.length=1:=by rw[<-h1];simpa using hc
   match vs,this with
   | [v],_=>exact hne v rfl
  rw[dif_neg hn1]at e;exact⟨_,e, .tup us.toArray vs (by simpa using h1) fun i u c hu hc=>h2 i u c (by simpa using hu) hc⟩
 ·cases hr
def V.j0z:V->List Nat
 | .tup cs=>cs.flatMap V.j1p
 |v=>v.j1p
def x3x (fn:Func)(args:List V)(h:List Box):VSt:= { t:=args++List.replicate (fn.ntmps - args.length) .any,h:=h }
def y5a {fn:Func}{args:List V}{g:Gh}{w:World}{us:List Value}(M:List Nat)(nr:Bool:=false)(hs:SimH g h w)(hu:z4c w g us args):
  Sim ⟨w,g,h,M,(x3x fn args h).t.length,[],nr⟩ (x3x fn args h) { tmps:=us.toArray++Array.replicate (fn.ntmps - us.toArray.size) undef,defers:=[] } w g:=by
 have hl:us.toArray.size=args.length:=by simpa using hu.1
 refine⟨hs,by simp[x3x,hu.1],fun i u v h1 h2=> ?_, .none,⟨Gh.Le.refl _ _,Fr.refl _ _,fun _ _ h=> .inl h,fun _ h=> .inl h⟩,rfl⟩
 simp only[x3x,a0z]at h2;rw[Array.getElem?_append,hl]at h1;split at h2
 ·rename_i hi;rw[if_pos hi]at h1;exact hu.2 i u v (by simpa using h1) h2
 ·have:=List.eq_of_mem_replicate (a0p h2);subst this;exact .any u
def z0k {fn:Func}{args:List V}{g:Gh}{w:World}{us:List Value}(M:List Nat)(nr:Bool:=false)(hs:SimH g h w)(hu:z4c w g us args):
  x1s ⟨w,g,h,M,(x3x fn args h).t.length,[],nr⟩ (x3x fn args h) { tmps:=us.toArray++Array.replicate (fn.ntmps - us.toArray.size) undef,defers:=[] } w:=⟨g,y5a M (nr:=nr) (hs:=hs) (hu:=hu)⟩
end
section
variable {P : Program} {M : List Nat} {h h' : List Box} {B : Operand -> V} {o : Oper} {x : V}
def u3b {t:TypeId}{y:Operand}{s:BA}(hop:o.op= .range t y)(hu:P.underlying t=some .string)(hy1:B y= .d (.str s)):
  x0o P [] h (h++[.cells .sit [.d (.str s), .d (.int .i64 0)]]) B o (.ptr h.length 0):=
 .of_run fun g B' w hs hy=>by
  have e1:=x2m (hy1▸hy y);have hb:(g.push w.heap.size undef).blk g.n=w.heap.size:=by simp[Gh.push]
  have hfr:Fr (fun _=>False) w (w.alloc (.stringIter s 0)):=Fr.alloc _ _ _
  have hk:=Keep.push (R:=none) hs w.heap.size undef (.cells .sit [.d (.str s), .d (.int .i64 0)]) hfr
   ⟨#[.string s, .int .i64 (0:Nat)],_,by rw[hb];exact x6n w _,⟨s,0,rfl,rfl⟩,rfl,fun i u v hu' hv=>by
     match i with
     |0=>simp at hu' hv;subst hu';subst hv;exact .d (.str _)
     |1=>simp at hu' hv;subst hu';subst hv;exact .d (.int _ _)
     |i+2=>simp at hv⟩ (fun k' hk'=>by simp only[Box.at?,hb,Option.some.injEq]at hk';omega)
  refine⟨.pointer (some ⟨w.heap.size,0,none⟩),_,_,?_,?_,hk⟩
  ·simp only[execOp,hop,Instr.range,e1,Sem.run_bind,run_underlying hu,Result.andThen_ok,Sem.run_pure,run_newObj,World.alloc_eq]
  ·have:=Rep.ptr (w:=w.alloc (.stringIter s 0)) (g:=g.push w.heap.size undef) g.n 0 (by simp[Gh.push])
   rwa [hb,hs.n]at this
def u0h (s:BA)(p:Int):Int:=((Utf8.decode s p.toNat).1:Int)
def w2b (s:BA)(p:Int):Int:=((Utf8.decode s p.toNat).2:Int)
def z4b {w:World}{g:Gh}{b:Nat}{s:BA}{p:Int}(hr:x1o w g b (.cells .sit [.d (.str s), .d (.int .i64 p)])):
  ∃n:Nat,p=n/\w.heap[g.blk b]? =some (.stringIter s n):=by
 obtain⟨us,o,h1,⟨s',n,rfl,rfl⟩,h3,h4⟩:=hr;have e0:=x2m (h4 0 _ _ rfl rfl);have e1:=x0n (h4 1 _ _ rfl rfl);cases e0;injection e1 with _ e1
 exact⟨n,e1.symm,h1⟩
def y9n {i:Operand}{b:Nat}{s:BA}{p:Int}(hop:o.op= .next i true)(hy1:B i= .ptr b 0)(hb:h[b]? =some (.cells .sit [.d (.str s), .d (.int .i64 p)]))(hp:p < s.size):
  x0o P [] h (h.set b (.cells .sit [.d (.str s), .d (.int .i64 (p+w2b s p))])) B o (.tup [.d (.bool true), .d (.int .i64 p), .d (.int .i32 (u0h s p))]):=
 .of_run fun g B' w hs hy=>by
  obtain⟨e1,hbn⟩:=x3v (hy1▸hy i);obtain⟨n,rfl,hn⟩:=z4b (hs.rep b _ hb);have hlt:n < s.size:=by omega
  have hget:(getObj (g.blk b)).run P w= .ok (.stringIter s n) w:=by simp[getObj,Sem.run,hn]
  have hset:(setObj (g.blk b) (.stringIter s (n+(Utf8.decode s n).2))).run P w= .ok () { w with heap:=w.heap.setIfInBounds (g.blk b) (.stringIter s (n+(Utf8.decode s n).2)) }:=by simp[setObj,Sem.run,hn]
  generalize hw':({ w with heap:=w.heap.setIfInBounds (g.blk b) (.stringIter s (n+(Utf8.decode s n).2)) }:World)=w' at hset
  have hheap:w'.heap[g.blk b]? =some (.stringIter s (n+(Utf8.decode s n).2)):=by
   rw[<-hw'];have:=(a0s.1 hn).1;simp[this]
  have hfr:Fr (fun k=>(Box.cells CK.sit [.d (.str s), .d (.int .i64 n)]).at? g b=some k) w w':=by
   rw[<-hw'];refine⟨rfl,rfl,rfl,by simp,fun k hk hnk=> ?_⟩
   have:g.blk b≠k:=fun e=>hnk (by simp only[Box.at?,e])
   simp[Array.getElem?_setIfInBounds_ne this]
  have hk:=Keep.turn (g':=g) (y:= .cells .sit [.d (.str s), .d (.int .i64 (n+w2b s n))]) hs hb [] (.inl ⟨rfl,rfl⟩) rfl rfl rfl (fun _ _=>⟨rfl,rfl⟩) hfr
   ⟨#[.string s, .int .i64 ((n+(Utf8.decode s n).2:Nat):Int)],_,hheap,⟨s,_,rfl,rfl⟩,rfl,fun i u v hu' hv=>by
     match i with
     |0=>simp at hu' hv;subst hu';subst hv;exact .d (.str _)
     |1=>
      simp at hu' hv;subst hu';subst hv;simp only[w2b,a0n];exact .d (.int _ _)
     |i+2=>simp at hv⟩ (fun k hk=> .inl hk)
  rw[x2t]at hk;refine⟨.tuple #[.bool true,goInt n, .int .i32 (Utf8.decode s n).1],w',g,?_, .tup _ _ rfl fun i u c hu' hc=> ?_,hk⟩
  ·simp only[execOp,hop,Instr.next,e1,Sem.run_bind,hget,Result.andThen_ok,if_pos hlt,hset,Sem.run_pure]
  ·match i with
   |0=>simp at hu' hc;subst hu';subst hc;exact .d (.bool _)
   |1=>simp at hu' hc;subst hu';subst hc;exact .d (.int _ _)
   |2=>simp at hu' hc;subst hu';subst hc;simp only[u0h,a0n];exact .d (.int _ _)
   |i+3=>simp at hc
def y9m {i:Operand}{b:Nat}{s:BA}{p:Int}(hop:o.op= .next i true)(hy1:B i= .ptr b 0)(hb:h[b]? =some (.cells .sit [.d (.str s), .d (.int .i64 p)]))(hp: ¬p < s.size):
  x0o P [] h h B o (.tup [.d (.bool false)]):=
 .pure fun g B' w hs hy=>by
  obtain⟨e1,hbn⟩:=x3v (hy1▸hy i);obtain⟨n,rfl,hn⟩:=z4b (hs.rep b _ hb);have hge: ¬n < s.size:=by omega
  have hget:(getObj (g.blk b)).run P w= .ok (.stringIter s n) w:=by simp[getObj,Sem.run,hn]
  refine⟨.tuple #[.bool false],?_, .tup _ _ rfl fun i u c hu' hc=> ?_⟩
  ·simp only[execOp,hop,Instr.next,e1,Sem.run_bind,hget,Result.andThen_ok,if_neg hge,Sem.run_pure]
  ·match i with
   |0=>simp at hu' hc;subst hu';subst hc;exact .d (.bool _)
   |i+1=>simp at hc
end
inductive Tree:Type->Type 1 where
 |ret {α:Type} (a:α):Tree α
 |fail {α:Type}:Tree α
 |ite {α:Type} (c:Bool) (x y:Tree α):Tree α
 |cI {α:Type} (v:Option D) (k:IntKind) (K:Int->Tree α):Tree α
 |cB {α:Type} (v:Option D) (K:Bool->Tree α):Tree α
 |cS {α:Type} (v:Option D) (K:BA->Tree α):Tree α
 |cL {α:Type} (v:Option D) (sz:Nat) (K:LL->Tree α):Tree α
 |call {α:Type} (f:FuncId) (args:List V) (K:List D->Tree α):Tree α
 |mint {α:Type} (f:FuncId) (args:List V) (e:TypeId) (sz:Nat) (K:LL->Tree α):Tree α
 |loop {α:Type} (body:List D->Tree (List D ⊕ α)) (ds:List D):Tree α
 |cut {α:Type} (x:Tree (List D ⊕ α)) (K:List D->Tree α):Tree α
def Tree.map: {α:Type}->Tree α-> {β:Type}->(α->β)->Tree β
 |_, .ret a,_,f=> .ret (f a)
 |_, .fail,_,_=> .fail
 |_, .ite c x y,_,f=> .ite c (x.map f) (y.map f)
 |_, .cI v k K,_,f=> .cI v k fun n=>(K n).map f
 |_, .cB v K,_,f=> .cB v fun n=>(K n).map f
 |_, .cS v K,_,f=> .cS v fun n=>(K n).map f
 |_, .cL v sz K,_,f=> .cL v sz fun n=>(K n).map f
 |_, .call g args K,_,f=> .call g args fun n=>(K n).map f
 |_, .mint g args e sz K,_,f=> .mint g args e sz fun n=>(K n).map f
 |_, .loop body ds,_,f=> .loop (fun ds=>(body ds).map fun s=>match s with
  | .inl d=> .inl d
  | .inr a=> .inr (f a)) ds
 |_, .cut x K,_,f=> .cut (x.map fun s=>match s with
  | .inl d=> .inl d
  | .inr a=> .inr (f a)) fun ds=>(K ds).map f
def Tree.bind: {α:Type}->Tree α-> {β:Type}->(α->Tree β)->Tree β
 |_, .ret a,_,f=>f a
 |_, .fail,_,_=> .fail
 |_, .ite c x y,_,f=> .ite c (x.bind f) (y.bind f)
 |_, .cI v k K,_,f=> .cI v k fun n=>(K n).bind f
 |_, .cB v K,_,f=> .cB v fun n=>(K n).bind f
 |_, .cS v K,_,f=> .cS v fun n=>(K n).bind f
 |_, .cL v sz K,_,f=> .cL v sz fun n=>(K n).bind f
 |_, .call g args K,_,f=> .call g args fun n=>(K n).bind f
 |_, .mint g args e sz K,_,f=> .mint g args e sz fun n=>(K n).bind f
 |_, .loop body ds,_,f=> .loop (fun ds=>(body ds).bind fun s=>match s with
  | .inl d=> .ret (.inl d)
  | .inr a=>(f a).map .inr) ds
 |_, .cut x K,_,f=> .cut (x.bind fun s=>match s with
  | .inl d=> .ret (.inl d)
  | .inr a=>(f a).map .inr) fun ds=>(K ds).bind f
def chk {α:Type}(c:Bool)(x:Tree α):Tree α:= .ite c x .fail
inductive PRes where
 |val (ds:List D)
 |own (e:TypeId) (sz:Nat) (rows:LL)
def PRes.leaves:PRes->List D
 | .val ds=>ds
 | .own _ sz rows=>[.sl sz rows]
structure Env where
 call:FuncId->List V->Option PRes
 lp: {α:Type}->(List D->Option (List D ⊕ α))->List D->Option α
def opI (v:Option D)(k:IntKind):Option Int:=match v with
 |some (.int k' n)=>match decide (k'=k)with
  |true=>some n
  |false=>none
 |_=>none
def opB (v:Option D):Option Bool:=match v with
 |some (.bool b)=>some b
 |_=>none
def opS (v:Option D):Option BA:=match v with
 |some (.str b)=>some b
 |_=>none
def opL (v:Option D)(sz:Nat):Option LL:=match v with
 |some (.sl sz' rows)=>match decide (sz'=sz)with
  |true=>some rows
  |false=>none
 |_=>none
def opM (p:Option PRes)(e:TypeId)(sz:Nat):Option LL:=match p with
 |some (.own e' sz' rows)=>match decide (e'=e/\sz'=sz)with
  |true=>some rows
  |false=>none
 |_=>none
def Tree.run (E:Env): {α:Type}->Tree α->Option α
 |_, .ret a=>some a
 |_, .fail=>none
 |_, .ite c x y=>match c with
  |true=>x.run E
  |false=>y.run E
 |_, .cI v k K=>(opI v k).bind fun n=>(K n).run E
 |_, .cB v K=>(opB v).bind fun n=>(K n).run E
 |_, .cS v K=>(opS v).bind fun n=>(K n).run E
 |_, .cL v sz K=>(opL v sz).bind fun n=>(K n).run E
 |_, .call f args K=>(E.call f args).bind fun p=>(K p.leaves).run E
 |_, .mint f args e sz K=>(opM (E.call f args) e sz).bind fun rows=>(K rows).run E
 |_, .loop body ds=>E.lp (fun ds=>(body ds).run E) ds
 |_, .cut x K=>(x.run E).bind fun s=>match s with
  | .inl ds=>(K ds).run E
  | .inr a=>some a
def w0r {v:Option D}{k:IntKind}{n:Int}(h:opI v k=some n):v=some (.int k n):=by
 unfold opI at h;split at h
 ·split at h
  ·rename_i hd;have:=a0f hd;subst this;cases h;rfl
  ·cases h
 ·cases h
def w0s {v:Option D}{n:Bool}(h:opB v=some n):v=some (.bool n):=by
 unfold opB at h;split at h<;>cases h;rfl
def w0p {v:Option D}{n:BA}(h:opS v=some n):v=some (.str n):=by
 unfold opS at h;split at h<;>cases h;rfl
def w0q {v:Option D}{sz:Nat}{n:LL}(h:opL v sz=some n):v=some (.sl sz n):=by
 unfold opL at h;split at h
 ·split at h
  ·rename_i hd;have:=a0f hd;subst this;cases h;rfl
  ·cases h
 ·cases h
def z4z {p:Option PRes}{e:TypeId}{sz:Nat}{rows:LL}(h:opM p e sz=some rows):p=some (.own e sz rows):=by
 unfold opM at h;split at h
 ·split at h
  ·rename_i hd;obtain⟨rfl,rfl⟩:=a0f hd;cases h;rfl
  ·cases h
 ·cases h
def Env.Ok (E:Env):Prop:= ∀ {α β:Type} (b:List D->Option (List D ⊕ α)) (f:α->Option β) (ds:List D),
 E.lp (fun ds=>(b ds).bind fun s=>match s with
  | .inl d=>some (.inl d)
  | .inr a=>(f a).map .inr) ds=(E.lp b ds).bind f
def v2t {E:Env}(hE:E.Ok): ∀ {α:Type} (t:Tree α) {β:Type} (f:α->β),(t.map f).run E=(t.run E).map f:=by
 intro α t
 induction t with
 |ret a=>intro β f;rfl
 |fail=>intro β f;rfl
 |ite c x y ihx ihy=>intro β f;cases c<;>simp only[Tree.map,Tree.run,ihx,ihy]
 |cI v k K ih=>intro β f;simp only[Tree.map,Tree.run];cases opI v k<;>simp[ih]
 |cB v K ih=>intro β f;simp only[Tree.map,Tree.run];cases opB v<;>simp[ih]
 |cS v K ih=>intro β f;simp only[Tree.map,Tree.run];cases opS v<;>simp[ih]
 |cL v sz K ih=>intro β f;simp only[Tree.map,Tree.run];cases opL v sz<;>simp[ih]
 |call g args K ih=>intro β f;simp only[Tree.map,Tree.run];cases E.call g args<;>simp[ih]
 |mint g args e sz K ih=>intro β f;simp only[Tree.map,Tree.run];cases opM (E.call g args) e sz<;>simp[ih]
 |loop body ds ih=>
  intro β f;simp only[Tree.map,Tree.run,ih];rw[Option.map_eq_bind,<-hE];congr 1;funext ds;cases(body ds).run E with
  |none=>rfl
  |some s=>cases s<;>rfl
 |cut x K ihx ihK=>
  intro β f;simp only[Tree.map,Tree.run,ihx,ihK];cases x.run E with
  |none=>rfl
  |some s=>cases s<;>rfl
def run_bind {E:Env}(hE:E.Ok): ∀ {α:Type} (t:Tree α) {β:Type} (f:α->Tree β),(t.bind f).run E=(t.run E).bind fun a=>(f a).run E:=by
 intro α t
 induction t with
 |ret a=>intro β f;rfl
 |fail=>intro β f;rfl
 |ite c x y ihx ihy=>intro β f;cases c<;>simp only[Tree.bind,Tree.run,ihx,ihy]
 |cI v k K ih=>intro β f;simp only[Tree.bind,Tree.run];cases opI v k<;>simp[ih]
 |cB v K ih=>intro β f;simp only[Tree.bind,Tree.run];cases opB v<;>simp[ih]
 |cS v K ih=>intro β f;simp only[Tree.bind,Tree.run];cases opS v<;>simp[ih]
 |cL v sz K ih=>intro β f;simp only[Tree.bind,Tree.run];cases opL v sz<;>simp[ih]
 |call g args K ih=>intro β f;simp only[Tree.bind,Tree.run];cases E.call g args<;>simp[ih]
 |mint g args e sz K ih=>intro β f;simp only[Tree.bind,Tree.run];cases opM (E.call g args) e sz<;>simp[ih]
 |loop body ds ih=>
  intro β f;simp only[Tree.bind,Tree.run,ih];rw[<-hE];congr 1;funext ds;cases(body ds).run E with
  |none=>rfl
  |some s=>cases s with
   |inl d=>rfl
   |inr a=>simp only[a1l,v2t hE]
 |cut x K ihx ihK=>
  intro β f;simp only[Tree.bind,Tree.run,ihx,ihK];cases x.run E with
  |none=>rfl
  |some s=>cases s with
   |inl d=>rfl
   |inr a=>simp only[a1l,v2t hE];cases(f a).run E<;>rfl
def x0a {E:Env}(hE:E.Ok){α β:Type}{t:Tree α}{f:α->Tree β}{b:β}(h:(t.bind f).run E=some b): ∃a,t.run E=some a/\(f a).run E=some b:=by
 rw[run_bind hE]at h;cases ht:t.run E with
 |none=>rw[ht]at h;cases h
 |some a=>rw[ht]at h;exact⟨a,rfl,h⟩
def x1k {E:Env}{α:Type}{c:Bool}{x:Tree α}{a:α}(h:(chk c x).run E=some a):c=true/\x.run E=some a:=by
 cases c with
 |true=>exact⟨rfl,h⟩
 |false=>cases h
def x6m {α:Type}:Nat->(List D->Option (List D ⊕ α))->List D->Option α
 |0,_,_=>none
 |n+1,b,ds=>match b ds with
  |some (.inl d)=>x6m n b d
  |some (.inr a)=>some a
  |none=>none
def z3l {α β:Type}(f:α->Option β)(b:List D->Option (List D ⊕ α)): ∀(n:Nat) (ds:List D),x6m n (fun ds=>(b ds).bind fun s=>match s with
  | .inl d=>some (.inl d)
  | .inr a=>(f a).map .inr) ds=(x6m n b ds).bind f
 |0,ds=>rfl
 |n+1,ds=>by
  simp only[x6m];cases b ds with
  |none=>rfl
  |some s=>cases s with
   |inl d=>exact z3l f b n d
   |inr a=>simp only[a1l];cases f a<;>rfl
def v6n (n:Nat)(c:FuncId->List V->Option PRes):Env:=⟨c,fun b ds=>x6m n b ds⟩
def v6m (n:Nat)(c:FuncId->List V->Option PRes):(v6n n c).Ok:=fun b f ds=>z3l f b n ds
def y4w {α:Type}{b:List D->Option (List D ⊕ α)}{a:α}: ∀ {n:Nat} {ds:List D},x6m n b ds=some a-> ∀ {m:Nat},n<=m->x6m m b ds=some a
 |0,_,h,_,_=>by cases h
 |n+1,ds,h,m,hm=>by
  obtain⟨m,rfl⟩: ∃k,m=k+1:=⟨m - 1,by omega⟩
  simp only[x6m]at h ⊢;cases hb:b ds with
  |none=>rw[hb]at h;cases h
  |some s=>rw[hb]at h;cases s with
   |inl d=>exact y4w h (by omega)
   |inr a'=>exact h
open Classical in
noncomputable def x6d {α:Type} (b:List D->Option (List D ⊕ α)) (ds:List D):Option α:=
 if h: ∃a n,x6m n b ds=some a then some (Classical.choose h)else none
def y1o {α:Type}{b:List D->Option (List D ⊕ α)}{ds:List D}{a:α}:x6d b ds=some a↔ ∃n,x6m n b ds=some a:=by
 unfold x6d;constructor
 ·intro h;split at h
  ·rename_i hx;cases h;exact Classical.choose_spec hx
  ·cases h
 ·rintro⟨n,h⟩
  have hx: ∃a n,x6m n b ds=some a:=⟨a,n,h⟩
  rw[dif_pos hx];obtain⟨m,hm⟩:=Classical.choose_spec hx;have h1:=y4w h (Nat.le_max_left n m);have h2:=y4w hm (Nat.le_max_right n m);rw[h1]at h2;exact h2.symm
def x9o {α:Type}(b:List D->Option (List D ⊕ α))(ds:List D):x6d b ds=match b ds with
  |some (.inl d)=>x6d b d
  |some (.inr a)=>some a
  |none=>none:=by
 apply Option.ext;intro a;rw[y1o];constructor
 ·rintro⟨n,h⟩
  cases n with
  |zero=>cases h
  |succ n=>
   simp only[x6m]at h;cases hb:b ds with
   |none=>rw[hb]at h;cases h
   |some s=>rw[hb]at h;cases s with
    |inl d=>exact y1o.2 ⟨n,h⟩
    |inr a'=>exact h
 ·intro h;cases hb:b ds with
  |none=>rw[hb]at h;cases h
  |some s=>rw[hb]at h;cases s with
   |inl d=>
    obtain⟨n,hn⟩:=y1o.1 h;exact⟨n+1,by simp only[x6m,hb];exact hn⟩
   |inr a'=>exact⟨1,by simp only[x6m,hb];exact h⟩
def x0v {σ α:Type}{b:List D->Option (List D ⊕ α)}{r:α}(mk:σ->List D)(I:σ->Prop)(μ:σ->Nat)
  (h: ∀x,I x->(∃y,b (mk x)=some (.inl (mk y))/\I y/\μ y < μ x)\/b (mk x)=some (.inr r)) (x:σ) (h0:I x):x6d b (mk x)=some r:=by
 suffices ∀n x,μ x < n->I x->x6d b (mk x)=some r from this _ x (a1m _) h0
 intro n
 induction n with
 |zero=>intro x h;omega
 |succ n ih=>
  intro x hlt hi;rw[x9o];rcases h x hi with⟨d,h1,h2,h3⟩|h1
  ·rw[h1];exact ih d (by omega) h2
  ·rw[h1]
def Evl {α:Type}(f:Nat->Nat->Option α)(a:α):Prop:= ∃N,∀n m,N<=n->N<=m->f n m=some a
noncomputable def w5p (c:FuncId->List V->Option PRes):Env:=⟨c,fun b ds=>x6d b ds⟩
def v2u {cF:FuncId->List V->Option PRes}{cN:Nat->FuncId->List V->Option PRes}(hc: ∀f args p,cF f args=some p-> ∃N,∀n,N<=n->cN n f args=some p):
  ∀ {α:Type} (t:Tree α) (a:α),t.run (w5p cF)=some a->Evl (fun n m=>t.run (v6n m (cN n))) a:=by
 intro α t
 induction t with
 |ret a=>intro b h;exact⟨0,fun _ _ _ _=>h⟩
 |fail=>intro b h;cases h
 |ite c x y ihx ihy=>
  intro b h;cases c with
  |true=>exact ihx b h
  |false=>exact ihy b h
 |cI v k K ih=>
  intro b h;simp only[Tree.run]at h ⊢;obtain⟨n,h1,h2⟩:=a1s.1 h;simp only[h1,a1l];exact ih n b h2
 |cB v K ih=>
  intro b h;simp only[Tree.run]at h ⊢;obtain⟨n,h1,h2⟩:=a1s.1 h;simp only[h1,a1l];exact ih n b h2
 |cS v K ih=>
  intro b h;simp only[Tree.run]at h ⊢;obtain⟨n,h1,h2⟩:=a1s.1 h;simp only[h1,a1l];exact ih n b h2
 |cL v sz K ih=>
  intro b h;simp only[Tree.run]at h ⊢;obtain⟨n,h1,h2⟩:=a1s.1 h;simp only[h1,a1l];exact ih n b h2
 |call g args K ih=>
  intro b h;simp only[Tree.run]at h;obtain⟨p,hp,h2⟩:=a1s.1 h;obtain⟨N1,h1⟩:=hc _ _ _ hp;obtain⟨N2,h2⟩:=ih _ b h2;refine⟨max N1 N2,fun n m hn hm=> ?_⟩
  simp only[Tree.run];rw[show(v6n m (cN n)).call g args=some p from h1 n (by omega)]
  exact h2 n m (by omega) (by omega)
 |mint g args e sz K ih=>
  intro b h;simp only[Tree.run]at h;obtain⟨rows,hp,h2⟩:=a1s.1 h;obtain⟨N1,h1⟩:=hc _ _ _ (z4z hp);obtain⟨N2,h2⟩:=ih _ b h2;refine⟨max N1 N2,fun n m hn hm=> ?_⟩
  simp only[Tree.run];rw[show(v6n m (cN n)).call g args=some (.own e sz rows)from h1 n (by omega)]
  rw[z4z hp]at hp;rw[hp];exact h2 n m (by omega) (by omega)
 |loop body ds ih=>
  intro b h;have h:x6d (fun ds=>(body ds).run (w5p cF)) ds=some b:=h
  obtain⟨k,hk⟩:=y1o.1 h;clear h
  suffices ∀k ds,x6m k (fun ds=>(body ds).run (w5p cF)) ds=some b-> ∃N,∀n m q,N<=n->N<=m->N<=q->x6m q (fun ds=>(body ds).run (v6n m (cN n))) ds=some b by
   obtain⟨N,hN⟩:=this k ds hk;exact⟨N,fun n m hn hm=>hN n m m hn hm hm⟩
  intro k
  induction k with
  |zero=>intro ds hk;cases hk
  |succ k ihk=>
   intro ds hk;simp only[x6m]at hk;cases hb:(body ds).run (w5p cF)with
   |none=>rw[hb]at hk;cases hk
   |some s=>
    rw[hb]at hk;obtain⟨N1,h1⟩:=ih ds s hb;cases s with
    |inl d=>
     obtain⟨N2,h2⟩:=ihk d hk;refine⟨max N1 N2+1,fun n m q hn hm hq=> ?_⟩
     obtain⟨q,rfl⟩: ∃k,q=k+1:=⟨q - 1,by omega⟩
     simp only[x6m,h1 n m (by omega) (by omega)]
     exact h2 n m q (by omega) (by omega) (by omega)
    |inr a=>
     refine⟨N1+1,fun n m q hn hm hq=> ?_⟩
     obtain⟨q,rfl⟩: ∃k,q=k+1:=⟨q - 1,by omega⟩
     simp only[x6m,h1 n m (by omega) (by omega)]
     exact hk
 |cut x K ihx ihK=>
  intro b h;simp only[Tree.run]at h;cases hx:x.run (w5p cF)with
  |none=>rw[hx]at h;cases h
  |some s=>
   rw[hx]at h;obtain⟨N1,h1⟩:=ihx s hx;cases s with
   |inl d=>
    obtain⟨N2,h2⟩:=ihK d b h;refine⟨max N1 N2,fun n m hn hm=> ?_⟩
    simp only[Tree.run,h1 n m (by omega) (by omega),a1l]
    exact h2 n m (by omega) (by omega)
   |inr a=>
    refine⟨N1,fun n m hn hm=> ?_⟩
    simp only[Tree.run,h1 n m (by omega) (by omega),a1l]
    exact h
section
variable {P : Program} {h : List Box} {B : Operand -> V} {o : Oper}
def w1q {fn:Func}(hn:fn.name= "internal/bytealg.IndexByteString")(ho:fn.origin= ""):Extern.find fn=some Extern.BytealgIndexByte.indexByte/\Extern.findNext fn=none:=by
 unfold Extern.find Extern.findNext;simp only[hn,ho];constructor<;>kernel_rfl
def w1r {fn:Func}(hn:fn.name= "internal/bytealg.CountString")(ho:fn.origin= ""):Extern.find fn=some Extern.BytealgCount.count/\Extern.findNext fn=none:=by
 unfold Extern.find Extern.findNext;simp only[hn,ho];constructor<;>kernel_rfl
def z9k {q y z:Operand}{ts:Array TypeId}{f:FuncId}{fn:Func}{e:Array Value->Sem Value}{s:BA}{c r:Int}(hop:o.op= .call { callee:= .value q,args:= #[y,z],argTypes:=ts })(hq:B q= .fn f [])(hf:P.funcs[f]? =some fn)(hb:fn.body=none)
  (hname:(fn.name == "runtime.NumGoroutine")=false) (he:Extern.find fn=some e) (hn:Extern.findNext fn=none) (hy1:B y= .d (.str s)) (hz1:B z= .d (.int .u8 c)) (hrun: ∀w,(e #[.string s, .int .u8 c]).run P w= .ok (.int .i64 r) w):x0o P [] h h B o (.d (.int .i64 r)):=
 .pure fun g B' w hs hy=>by
  have e1:=x2m (hy1▸hy y);have e2:=x0n (hz1▸hy z);have e3:=hy q;rw[hq]at e3;refine⟨.int .i64 r,?_, .d (.int _ _)⟩;generalize hu:B' q=u at e3;cases e3 with
  |fn _ us _ hl _=>
   have:us= #[]:=Array.eq_empty_of_size_eq_zero hl;subst this;have hr:=run_callFunc_extern (P:=P) hf hname (by rw[hb];rfl) hn he #[.string s, .int .u8 c] w
   rw[hrun]at hr;simp[execOp,hop,resolve,hu,Deferred.ofValue,invoke,e1,e2,hr,Result.andThen]
def u3c {y:Operand}{t:TypeId}{f:Nat}{fs:Array Field}{fl:Field}{cs:List V}{v:V}(hop:o.op= .field t y f)(hu:P.underlying t=some (.struct fs))(hf:fs[f]? =some fl)(hy1:B y= .agg cs)
  (hx:(P.underlying fl.type).isSome=true) (ha:y2s P fl.type=false) (hv:cs[fl.offset]? =some v):x0o P [] h h B o v:=
 .pure fun g B' w hs hy=>by
  have hr:=hy y;rw[hy1]at hr;generalize hu0:B' y=u0 at hr;cases hr with
  |agg us _ hl hr=>
   have hi:fl.offset < us.size:=by rw[hl];exact(a0c.1 hv).1
   refine⟨us[fl.offset],?_,hr _ _ _ (a0x hi) hv⟩;simp[execOp,hop,hu0,Instr.field,run_underlying hu,hf,part,asAgg,x1i hx ha,a0x hi]
def z9j {y:Operand}{t:TypeId}{f n:Nat}{fs:Array Field}{fl:Field}{cs:List V}(hop:o.op= .field t y f)(hu:P.underlying t=some (.struct fs))(hf:fs[f]? =some fl)(hy1:B y= .agg cs)
  (hx:(P.underlying fl.type).isSome=true) (ha:y2s P fl.type=true) (hn:szO P fl.type=some n) (hle:fl.offset+n<=cs.length):x0o P [] h h B o (.agg ((cs.drop fl.offset).take n)):=
 .pure fun g B' w hs hy=>by
  have hr:=hy y;rw[hy1]at hr;generalize hu0:B' y=u0 at hr;cases hr with
  |agg us _ hl hr=>
   refine⟨.agg (us.extract fl.offset (fl.offset+n)),?_, .agg _ _ ?_ fun i u c hu' hc=> ?_⟩
   ·simp only[execOp,hop,hu0,Instr.field,Sem.run_bind,run_underlying hu,Result.andThen_ok,hf,part,asAgg,x1i hx ha,Sem.run_pure,if_true,x0z hn]
   ·simp;omega
   ·rw[a1t]at hc;split at hc
    ·rw[a1v]at hc;rw[Array.getElem?_extract]at hu';split at hu'
     ·exact hr _ _ _ hu' hc
     ·cases hu'
    ·cases hc
end
structure Sy where
 wrap:IntKind->Int->Int
 add:Int->Int->Int
 sub:Int->Int->Int
 mul:Int->Int->Int
 ieq:Int->Int->Bool
 ilt:Int->Int->Bool
 ile:Int->Int->Bool
 seq:BA->BA->Bool
 slt:BA->BA->Bool
 beq:Bool->Bool->Bool
 bor:Bool->Bool->Bool
 bnot:Bool->Bool
 imax:Int->Int->Int
 imin:Int->Int->Int
 rlen:LL->Int
 slen:BA->Int
 sapp:BA->BA->BA
 sfit:BA->BA->Bool
 inr:Int->Int->Bool
 row:LL->Int->List D
 nat:Int->Nat
 rown:LL->Nat->List D
 cell:List D->Nat->Option D
 skip:Nat->List D->List D
 inrn:Nat->LL->Bool
 rput:LL->Nat->Nat->List D->LL
 rapp:LL->LL->LL
 fits:LL->LL->Nat->Bool
 cutok:Int->Int->Int->Bool
 cut:LL->Int->Int->LL
 scut:BA->Int->Int->BA
 sbyte:BA->Int->Int
 mkok:Int->Int->Nat->Bool
 mkok0:Int->Nat->Bool
 mkz:Int->Nat->Bool
 rep:Int->List D->LL
 mval:D->D->LL->D
 mhas:D->LL->Bool
 mput:D->D->LL->LL
 mdel:D->LL->LL
 head:LL->Int->LL
 deq:List D->List D->Bool
 rdec:BA->Int->Int
 rwid:BA->Int->Int
 rcopy:LL->Int->Int->LL->LL
 quo:Int->Int->Int
 rem:Int->Int->Int
 band:IntKind->Int->Int->Int
 bior:IntKind->Int->Int->Int
 bxor:IntKind->Int->Int->Int
 bandn:IntKind->Int->Int->Int
 shl:IntKind->Int->Int->Int
 shr:IntKind->Int->Int->Int
 sidx:BA->Int->Int
 scnt:BA->Int->Int
 pnum:BA->Int
 pok:BA->Bool
 isby:LL->Bool
 bstr:LL->BA
def byN:List D->Option Int
 | [.int .u8 n]=>some n
 |_=>none
def k5f (rows:LL):Bool:=rows.all fun r=>(byN r).isSome
def q3p (rows:LL):BA:=strOfNums (rows.map fun r=>(byN r).getD 0)
def sy:Sy where
 isby:=k5f
 bstr:=q3p
 wrap k n:=k.wrap n
 add a b:=a+b
 sub a b:=a - b
 mul a b:=a*b
 ieq a b:=decide (a=b)
 ilt a b:=decide (a < b)
 ile a b:=decide (a<=b)
 seq a b:=a.toList == b.toList
 slt a b:=Op.bytesLess a.toList b.toList
 beq a b:=a == b
 bor a b:=a || b
 bnot a:= !a
 imax a b:=max a b
 imin a b:=min a b
 rlen r:=r.length
 slen s:=s.size
 sapp a b:=a++b
 sfit s u:=decide (s.size+u.size<=9223372036854775807)
 inr i n:=decide (0<=i/\i < n)
 row rows i:=rows.getD i.toNat []
 nat i:=i.toNat
 rown rows i:=rows.getD i []
 cell cs j:=cs[j]?
 skip k cs:=cs.drop k
 inrn i rows:=decide (i < rows.length)
 rput rows i off ds:=rows.set i ((rows.getD i []).take off++ds++(rows.getD i []).drop (off+ds.length))
 rapp a b:=a++b
 fits a b k:=decide ((a.length+b.length)*(k+1)<=140737488355328)
 cutok l r n:=decide (0<=l/\l<=r/\r<=n)
 cut rows l r:=(rows.take r.toNat).drop l.toNat
 scut s l r:=s.extract l.toNat r.toNat
 sbyte s i:=((s.data.getD i.toNat 0).toNat:Int)
 mkok n m k:=decide (n=m/\0<=n/\n*(k+1)<=140737488355328)
 mkok0 m k:=decide (0<=m/\m*(k+1)<=140737488355328)
 mkz n k:=decide (0 < n/\n*(k+1)<=140737488355328)
 rep n ds:=List.replicate n.toNat ds
 mval z k rows:=mval z k rows
 mhas k rows:=mhas k rows
 mput k x rows:=mput k x rows
 mdel k rows:=mdel k rows
 head rows r:=rows.take r.toNat
 deq xs ys:=y5z xs ys
 rdec s p:=u0h s p
 rwid s p:=w2b s p
 rcopy rows lo n news:=rows.take lo.toNat++news.take (min n.toNat news.length)++rows.drop (lo.toNat+min n.toNat news.length)
 quo a b:=a.tdiv b
 rem a b:=a.tmod b
 band k a b:=q4b k a b
 bior k a b:=k6y k a b
 bxor k a b:=q3o k a b
 bandn k a b:=v8l k a b
 shl k a b:=k4d k a b
 shr k a b:=k4c k a b
 sidx s c:=Lib.indexByte s.data.toList c.toNat.toUInt8
 scnt s c:=(Lib.countByte s.data.toList c.toNat.toUInt8:Nat)
 pnum s:=u9d s
 pok s:=q5y s
section
variable (A : Sy) (P : Program)
def y4n (s:Sh)(v:Option D):Tree D:=match s with
 | .int k=> .cI v k fun n=> .ret (.int k n)
 | .bool=> .cB v fun b=> .ret (.bool b)
 | .str=> .cS v fun t=> .ret (.str t)
 | .sl sz=> .cL v sz fun r=> .ret (.sl sz r)
def x7b:List Sh->List D->Nat->Tree (List D)
 | [],_,_=> .ret []
 |s::ss,cs,j=>(y4n s (A.cell cs j)).bind fun x=>(x7b ss cs (j+1)).bind fun xs=> .ret (x::xs)
def w8c (h:List Box)(t:TypeId)(v:V):Tree V:=
 match z2r P 9 t,szO P t,(P.underlying t).isSome,y2s P t with
 |sh,some n,true,ag=>match v with
  | .ptr b off=>match h[b]? with
    |some (.cells (.ty _) vs)=>match ag with
     |true=>match decide (off+n<=vs.length)with
      |true=> .ret (.agg ((vs.drop off).take n))
      |false=> .fail
     |false=>match vs[off]? with
      |some v=> .ret v
      |none=> .fail
    |_=> .fail
  | .pel cs=>match sh,ag with
    |some ss,true=>match decide (ss.length=n)with
     |true=>(x7b A ss cs 0).bind fun xs=> .ret (.agg (xs.map .d))
     |false=> .fail
    |some [s],false=>(y4n s (A.cell cs 0)).bind fun x=> .ret (.d x)
    |_,_=> .fail
  | .pml b sz i off=>match h[b]? with
    |some (.arr _ sz' rows)=>match decide (sz'=sz),sh,ag with
     |true,some ss,true=>match decide (ss.length=n)with
      |true=>chk (A.inrn i rows) ((x7b A ss (A.rown rows i) off).bind fun xs=> .ret (.agg (xs.map .d)))
      |false=> .fail
     |true,some [s],false=>(y4n s (A.cell (A.rown rows i) off)).bind fun x=> .ret (.d x)
     |_,_,_=> .fail
    |_=> .fail
  |_=> .fail
 |_,_,_,_=> .fail
def v4w (h:List Box)(t:TypeId)(v i:V):Tree V:=
 match elO P t,i with
 |some (_,sz), .d (.int _ i)=>match v with
  | .d (.sl sz' rows)=>match decide (sz'=sz)with
    |true=>chk (A.inr i (A.rlen rows)) (.ret (.pel (A.row rows i)))
    |false=> .fail
  | .own b=>match h[b]? with
    |some (.arr _ sz' rows)=>match decide (sz'=sz)with
     |true=>chk (A.inr i (A.rlen rows)) (.ret (.pml b sz (A.nat i) 0))
     |false=> .fail
    |_=> .fail
  | .osl b sz' lo n=>match decide (sz'=sz)with
    |true=>chk (A.inr i n) (.ret (.pml b sz (A.nat (A.add lo i)) 0))
    |false=> .fail
  |_=> .fail
 |_,_=> .fail
def q3z (op:BinOp)(k:IntKind)(a b:Int):Option D:=match op with
 | .add=>some (.int k (A.wrap k (A.add a b)))
 | .sub=>some (.int k (A.wrap k (A.sub a b)))
 | .mul=>some (.int k (A.wrap k (A.mul a b)))
 | .eql=>some (.bool (A.ieq a b))
 | .neq=>some (.bool (A.bnot (A.ieq a b)))
 | .lss=>some (.bool (A.ilt a b))
 | .leq=>some (.bool (A.ile a b))
 | .gtr=>some (.bool (A.ilt b a))
 | .geq=>some (.bool (A.ile b a))
 |_=>none
def v8h (op:BinOp)(a b:BA):Option Bool:=match op with
 | .eql=>some (A.seq a b)
 | .neq=>some (A.bnot (A.seq a b))
 | .lss=>some (A.slt a b)
 | .leq=>some (A.bor (A.slt a b) (A.seq a b))
 | .gtr=>some (A.bnot (A.bor (A.slt a b) (A.seq a b)))
 | .geq=>some (A.bnot (A.slt a b))
 |_=>none
def k1z (op:BinOp)(k:IntKind)(a b:Int):Option Int:=match op with
 | .and=>some (A.band k a b)
 | .or=>some (A.bior k a b)
 | .xor=>some (A.bxor k a b)
 | .andNot=>some (A.bandn k a b)
 |_=>none
def k8l (op:BinOp)(k k':IntKind)(n m:Int):Tree V:=match op with
 | .shl=>chk (A.ile 0 m) (.ret (.d (.int k (A.shl k n m))))
 | .shr=>chk (A.ile 0 m) (.ret (.d (.int k (A.shr k n m))))
 | .quo=>match decide (k'=k)with
   |true=>chk (A.bnot (A.ieq m 0)) (.ret (.d (.int k (A.wrap k (A.quo n m)))))
   |false=> .fail
 | .rem=>match decide (k'=k)with
   |true=>chk (A.bnot (A.ieq m 0)) (.ret (.d (.int k (A.rem n m))))
   |false=> .fail
 |op=>match decide (k'=k),q3z A op k n m,k1z A op k n m with
  |true,some d,_=> .ret (.d d)
  |true,none,some c=> .ret (.d (.int k c))
  |_,_,_=> .fail
def k3e (t:TypeId):Bool:=match P.underlying t with
 |some (.interface _)=>true
 |_=>false
def q3n (s:TypeId):Bool:=match P.underlying s with
 |some (.slice e)=>match P.underlying e with
  |some (.int .u8)=>true
  |_=>false
 |_=>false
def k4w (op:BinOp)(a b:V):Tree V:=match op,a,b with
 | .eql, .ifn c, .ifn true=> .ret (.d (.bool c))
 | .neq, .ifn c, .ifn true=> .ret (.d (.bool (A.bnot c)))
 | .eql, .ifc .., .ifn true=> .ret (.d (.bool false))
 | .neq, .ifc .., .ifn true=> .ret (.d (.bool true))
 | .eql, .ifo _ b _, .ifn true=> .ret (.d (.bool b))
 | .neq, .ifo _ b _, .ifn true=> .ret (.d (.bool (A.bnot b)))
 |_,_,_=> .fail
def k7b (op:BinOp)(t:TypeId)(a b:V):Tree V:=
 match a,b with
 | .d (.int k n), .d (.int k' m)=>k8l A op k k' n m
 | .d (.str s), .d (.str u)=>match op with
   | .add=>chk (A.sfit s u) (.ret (.d (.str (A.sapp s u))))
   |_=>match v8h A op s u with
    |some c=> .ret (.d (.bool c))
    |none=> .fail
 | .d (.bool c), .d (.bool d)=>match P.underlying t,op with
   |some .bool, .eql=> .ret (.d (.bool (A.beq c d)))
   |some .bool, .neq=> .ret (.d (.bool (A.bnot (A.beq c d))))
   |_,_=> .fail
 | .agg xs, .agg ys=>match y6s xs,y6s ys with
   |some cs,some ds=>match shD cs,shD ds with
    |some ss,some ss'=>match decide (ss'=ss),op,v2l P t ss with
     |true, .eql,true=> .ret (.d (.bool (A.deq cs ds)))
     |true, .neq,true=> .ret (.d (.bool (A.bnot (A.deq cs ds))))
     |_,_,_=> .fail
    |_,_=> .fail
   |_,_=> .fail
 |_,_=> .fail
def q5c (v:V)(k:Nat):Option V:=match v with
 | .ptr b off=>some (.ptr b (off+k))
 | .pel cs=>some (.pel (match k with
   |0=>cs
   |k=>A.skip k cs))
 | .pml b sz i off=>some (.pml b sz i (off+k))
 |_=>none
def k8j (h:List Box):V->Option Int
 | .nils=>some 0
 | .d (.sl _ rows)=>some (A.rlen rows)
 | .d (.str s)=>some (A.slen s)
 | .own b=>match h[b]? with
   |some (.arr _ _ rows)=>some (A.rlen rows)
   |_=>none
 | .osl _ _ _ n=>some n
 |_=>none
def w6n (h:List Box)(t:TypeId)(v:V):Tree V:=
 match v,P.underlying t,k8j A h v with
 | .d (.str _),some .string,some n=> .ret (.d (.int .i64 n))
 | .d (.str _),_,_=> .fail
 |_,some (.slice _),some n=> .ret (.d (.int .i64 n))
 | .map b,some (.map _ _),_=>match h[b]?,v4i P t with
   |some (.mp _ rows),some _=> .ret (.d (.int .i64 (A.rlen rows)))
   |_,_=> .fail
 |_,_,_=> .fail
def v2p (t:TypeId)(v:V)(lo hi:Option V):Tree V:=
 match v with
 | .d (.sl sz' rows)=>match elO P t,y7p 0 lo,y7p (A.rlen rows) hi with
   |some (_,sz),some l,some r=>match decide (sz'=sz)with
    |true=>chk (A.cutok l r (A.rlen rows)) (.ret (.d (.sl sz (A.cut rows l r))))
    |false=> .fail
   |_,_,_=> .fail
 | .d (.str s)=>match P.underlying t,y7p 0 lo,y7p (A.slen s) hi with
   |some .string,some l,some r=>chk (A.cutok l r (A.slen s)) (.ret (.d (.str (A.scut s l r))))
   |_,_,_=> .fail
 | .nils=>match elO P t,y7p 0 lo,y7p 0 hi with
   |some _,some l,some r=>chk (A.cutok l r 0) (.ret .nils)
   |_,_,_=> .fail
 |_=> .fail
def u2q (h:List Box)(t:TypeId)(v q:V)(c:Bool):Tree V:=
 match v4i P t,v,q with
 |some (e,kk), .map b, .d k=>match h[b]?,z1o P e,z2r P 9 e,kk.j2a k with
  |some (.mp kk' rows),some z,some [s],true=>match decide (kk'=kk),y2t [s] [z]with
   |true,true=>(y4n s (some (A.mval (y6g s) k rows))).bind fun x=>match c with
    |true=> .ret (.tup [.d x, .d (.bool (A.mhas k rows))])
    |false=> .ret (.d x)
   |_,_=> .fail
  |_,_,_,_=> .fail
 |_,_,_=> .fail
def q6f (f:FuncId):Option Nat:=match P.funcs[f]? with
 |some fn=>match fn.body with
  |some _=>none
  |none=>match fn.origin == "",fn.name == "internal/bytealg.IndexByteString",fn.name == "internal/bytealg.CountString" with
   |true,true,_=>some 0
   |true,false,true=>some 1
   |_,_,_=>none
 |none=>none
def w4q (h:List Box)(B:Operand->V)(o:Oper):Tree V:=
 match o.op with
 | .move y=> .ret (B y)
 | .assign y=> .ret (B y)
 | .pick c a b=>match B c with
   | .d (.bool t)=> .ite t (.ret (B a)) (.ret (B b))
   |_=> .fail
 | .load t y=>w8c A P h t (B y)
 | .fieldAddr s y f=>match k0t P s f with
   |some k=>match q5c A (B y) k with
    |some v=> .ret v
    |none=> .fail
   |none=> .fail
 | .field t y f=>match P.underlying t,B y with
   |some (.struct fs), .agg cs=>match fs[f]? with
    |some fl=>match y2s P fl.type,(P.underlying fl.type).isSome,szO P fl.type with
     |false,true,_=>match cs[fl.offset]? with
      |some v=> .ret v
      |none=> .fail
     |true,true,some n=>match decide (fl.offset+n<=cs.length)with
      |true=> .ret (.agg ((cs.drop fl.offset).take n))
      |false=> .fail
     |_,_,_=> .fail
    |none=> .fail
   |_,_=> .fail
 | .indexAddr t y z=>v4w A P h t (B y) (B z)
 | .index t y z=>match P.underlying t,B y,B z with
   |some .string, .d (.str s), .d (.int _ i)=>chk (A.inr i (A.slen s)) (.ret (.d (.int .u8 (A.sbyte s i))))
   |_,_,_=> .fail
 | .binOp op t y z _=>match z,k3e P t with
   | .const .nilIface,true=>k4w A op (B y) (B z)
   |_,_=>k7b A P op t (B y) (B z)
 | .unOp op _ y=>match op,B y with
   | .not, .d (.bool b)=> .ret (.d (.bool (A.bnot b)))
   | .neg, .d (.int k n)=> .ret (.d (.int k (A.wrap k (A.sub 0 n))))
   |_,_=> .fail
 | .convert s t y=>match P.underlying t,(P.underlying s).isSome,B y with
   |some (.int k'),true, .d (.int _ n)=> .ret (.d (.int k' (A.wrap k' n)))
   |some .string,true, .d (.sl 1 rows)=>match q3n P s with
    |true=>chk (A.isby rows) (.ret (.d (.str (A.bstr rows))))
    |false=> .fail
   |_,_,_=> .fail
 | .extract y i=>match B y with
   | .tup cs=>match cs[i]? with
     |some v=> .ret v
     |none=> .fail
   |_=> .fail
 | .nilCheck y=>match (B y).j2e with
   |true=> .ret (B y)
   |false=> .fail
 | .build t parts=>match z4s P t with
   |some (zs,place)=>match z9v place zs (parts.toList.map fun q=>(q.1,B q.2)),(parts.toList.all fun q=>(B q.2).j0h h)with
    |some vs,true=> .ret (.agg vs)
    |_,_=> .fail
   |none=> .fail
 | .lookup t y z c=>u2q A P h t (B y) (B z) c
 | .slice t y lo hi mx=>match mx with
   |none=>v2p A P t (B y) (lo.map B) (hi.map B)
   |some _=> .fail
 | .makeInterface t y=>match P.underlying t,B y with
   |some (.struct _), .agg cs=>match y6s cs with
    |some ds=> .ret (.ifc t ds)
    |none=> .fail
   |some (.pointer _), .ptr b off=> .ret (.ifp t b off)
   |_,_=> .fail
 | .typeAssert y _ t ok=>match P.underlying t,B y,ok with
   |some (.struct _), .ifc t' cs,true=>match decide (t'=t)with
    |true=> .ret (.tup [.agg (cs.map .d), .d (.bool true)])
    |false=> .fail
   |_,_,_=> .fail
 | .makeFunc fn first caps=>match fn,first with
   | .func f,⟨[]⟩=> .ret (.fn f (caps.toList.map B))
   | .func f,⟨[y]⟩=>match B y,caps with
     | .ptr b off,⟨[]⟩=> .ret (.mv f b off)
     |_,_=> .fail
   |_,_=> .fail
 | .buildSlice t n parts=>match w8d P t n (parts.toList.map fun q=>(q.1,B q.2)),(parts.toList.all fun q=>(B q.2).j0h h)with
   |some (e,sz,vs),true=>match z2r P 9 e with
    |some ss=>match y5o ss sz n vs with
     |some rows=> .ret (.d (.sl sz rows))
     |none=> .fail
    |none=> .fail
   |_,_=> .fail
 | .call c=>match c with
   |⟨.builtin .len,⟨[y]⟩,ts⟩=>match ts[0]? with
    |some t=>w6n A P h t (B y)
    |none=> .fail
   |⟨.builtin .cap,⟨[y]⟩,ts⟩=>match ts[0]?,B y with
    |some t, .nils=>match P.underlying t with
     |some (.slice _)=> .ret (.d (.int .i64 0))
     |_=> .fail
    |_,_=> .fail
   |⟨.builtin .max,⟨[y,z]⟩,_⟩=>match B y,B z with
    | .d (.int k a), .d (.int k' b)=>match decide (k'=k)with
      |true=> .ret (.d (.int k (A.imax a b)))
      |false=> .fail
    |_,_=> .fail
   |⟨.builtin .min,⟨[y,z]⟩,_⟩=>match B y,B z with
    | .d (.int k a), .d (.int k' b)=>match decide (k'=k)with
      |true=> .ret (.d (.int k (A.imin a b)))
      |false=> .fail
    |_,_=> .fail
   |⟨.value q,⟨[y,z]⟩,_⟩=>match B q with
    | .fn f []=>match q6f P f,B y,B z with
      |some 0, .d (.str s), .d (.int .u8 c)=> .ret (.d (.int .i64 (A.sidx s c)))
      |some 1, .d (.str s), .d (.int .u8 c)=> .ret (.d (.int .i64 (A.scnt s c)))
      |_,_,_=> .fail
    |_=> .fail
   |_=> .fail
 |_=> .fail
end
section
variable {P : Program} {M : List Nat} {h h' h2 : List Box} {B : Operand -> V} {o : Oper} {x : V} {E : Env}
def y3b {s:Sh}{v:Option D}{x:D}(hk:(y4n s v).run E=some x):v=some x:=by
 cases s<;>simp only[y4n,Tree.run]at hk<;>obtain⟨n,h1,h2⟩:=a1s.1 hk<;>cases h2
 ·exact w0r h1
 ·exact w0s h1
 ·exact w0p h1
 ·exact w0q h1
def x8q (hE:E.Ok): ∀ {ss:List Sh} {cs:List D} {j:Nat} {xs:List D},(x7b sy ss cs j).run E=some xs->
  xs.length=ss.length/\ ∀(i:Nat) x,xs[i]? =some x->cs[j+i]? =some x
 | [],cs,j,xs,hk=>by cases hk;exact⟨rfl,by simp⟩
 |s::ss,cs,j,xs,hk=>by
  unfold x7b at hk;obtain⟨x,h1,hk⟩:=x0a hE hk;obtain⟨xs',h2,hk⟩:=x0a hE hk;cases hk;have h1:=y3b h1;obtain⟨h3,h4⟩:=x8q hE h2;refine⟨by simp[h3],fun i y hy=> ?_⟩
  cases i with
  |zero=>simp at hy;subst hy;simpa using(show cs[j]? =some x from h1)
  |succ i=>have:=h4 i y (by simpa using hy);rwa [show j+1+i=j+(i+1) by omega]at this
def u2r (hE:E.Ok){t:TypeId}{y:Operand}(hop:o.op= .load t y)(hk:(w8c sy P h t (B y)).run E=some x): ∀h2,Pre h h2->x0o P [] h2 h2 B o x:=by
 unfold w8c at hk;split at hk
 ·have hn:= ‹szO P t=some _›;have hu:= ‹(P.underlying t).isSome=true›;split at hk
  ·rename_i b off hy;split at hk
   ·rename_i bt vs hb;split at hk
    ·split at hk
     ·rename_i hle;cases hk;exact fun h2 hp=>y9v hop hy (hp.at hb nofun) hn (by simpa using hle) hu ‹y2s P t=_›
     ·cases hk
    ·split at hk
     ·rename_i v hv;cases hk;exact fun h2 hp=>y9w hop hy (hp.at hb nofun) hv hu ‹y2s P t=_›
     ·cases hk
   ·cases hk
  ·rename_i cs hy;split at hk
   ·split at hk
    ·rename_i hl;obtain⟨xs,hk1,hk⟩:=x0a hE hk;cases hk;obtain⟨h1,h3⟩:=x8q hE hk1;exact fun h2 hp=>y9t hop hy (fun i x hx=>by have:=h3 i x hx;rwa [a1y]at this) (by rw[hn,h1];simpa using(a0f hl).symm) hu ‹y2s P t=_›
    ·cases hk
   ·obtain⟨x,hk1,hk⟩:=x0a hE hk;cases hk;exact fun h2 hp=>y9u hop hy (y3b hk1) hu ‹y2s P t=_›
   ·cases hk
  ·rename_i b sz i off hy;split at hk
   ·rename_i e sz' rows hb;split at hk
    ·rename_i hsz _ _;have hsz:=a0f hsz;subst hsz;split at hk
     ·rename_i hl;obtain⟨hi,hk⟩:=x1k hk;obtain⟨xs,hk1,hk⟩:=x0a hE hk;cases hk;obtain⟨h1,h3⟩:=x8q hE hk1;exact fun h2 hp=>y9r hop hy (hp.at hb nofun) h3 (by rw[hn,h1];simpa using(a0f hl).symm) hu ‹y2s P t=_› (a0f hi)
     ·cases hk
    ·rename_i hsz _ _;have hsz:=a0f hsz;subst hsz;obtain⟨x,hk1,hk⟩:=x0a hE hk;cases hk;exact fun h2 hp=>y9s hop hy (hp.at hb nofun) (y3b hk1) hu ‹y2s P t=_›
    ·cases hk
   ·cases hk
  ·cases hk
 ·cases hk
def y7j {i n:Int}(h:sy.inr i n=true):0<=i/\i < n:=a0f h
def y1r {l r n:Int}(h:sy.cutok l r n=true):0<=l/\l<=r/\r<=n:=a0f h
def z8z {t:TypeId}{y z:Operand}(hop:o.op= .indexAddr t y z)(hk:(v4w sy P h t (B y) (B z)).run E=some x): ∀h2,Pre h h2->x0o P [] h2 h2 B o x:=by
 unfold v4w at hk;split at hk
 ·rename_i e sz kd i hel hz;split at hk
  ·rename_i sz' rows hy;split at hk
   ·rename_i hsz;have hsz:=a0f hsz;subst hsz;obtain⟨hi,hk⟩:=x1k hk;cases hk;have hi:=y7j hi;exact fun h2 hp=>z2d hop hel hy hz hi.1 hi.2
   ·cases hk
  ·rename_i b hy;split at hk
   ·rename_i e' sz' rows hb;split at hk
    ·rename_i hsz;have hsz:=a0f hsz;subst hsz;obtain⟨hi,hk⟩:=x1k hk;cases hk;have hi:=y7j hi;exact fun h2 hp=>y9x hop hel hy (hp.at hb nofun) hz hi.1 hi.2
    ·cases hk
   ·cases hk
  ·rename_i b sz' lo n hy;split at hk
   ·rename_i hsz;have hsz:=a0f hsz;subst hsz;obtain⟨hi,hk⟩:=x1k hk;cases hk;have hi:=y7j hi;exact fun h2 hp=>y9y hop hel hy hz hi.1 hi.2
   ·cases hk
  ·cases hk
 ·cases hk
def w3f (op:BinOp)(k:IntKind)(a b:Int):q3z sy op k a b=k3m op k a b:=by
 have e:decide (a=b)=(a == b):=by rw[a1g];simp
 cases op<;>simp only[q3z,k3m,sy,e]<;>rfl
def w3e (op:BinOp)(k:IntKind)(a b:Int):k1z sy op k a b=k7a op k a b:=by cases op<;>rfl
def w4u {m n:Int}(h:sy.bnot (sy.ieq m n)=true):m≠n:=by
 intro e;subst e;simp[sy]at h
def v1a (op:BinOp)(a b:BA):v8h sy op a b=v8i op a b:=by cases op<;>rfl
def x6q {op:BinOp}{t u:TypeId}{y:Operand}{b c:Bool}(hop:o.op= .binOp op t y (.const .nilIface) u)(hu:k3e P t=true)(h1:B y= .ifn b\/(b=false/\ ∃t cs,B y= .ifc t cs)\/ ∃t cs,B y= .ifo t b cs)(h2:B (.const .nilIface)= .ifn true)
  (hd:(match op with| .eql=>some b| .neq=>some (!b)|_=>none)=some c):x0o P [] h h B o (.d (.bool c)):=
 .pure fun g B' w hs hy=>by
  obtain⟨ms,hu⟩: ∃ms,P.underlying t=some (.interface ms):=by
   unfold k3e at hu;split at hu
   ·exact⟨_, ‹_›⟩
   ·cases hu
  have r1:Rep w g (B' y) (.ifn b):=by
   have r1:=hy y;rcases h1 with h1|⟨rfl,t,cs,h1⟩|⟨t,cs,h1⟩<;>rw[h1]at r1
   ·exact r1
   ·generalize B' y=v at r1;cases r1;exact .ifn1 _ _
   ·generalize B' y=v at r1;cases r1 with
    |ifo0=>exact .ifn0
    |ifo1=>exact .ifn1 _ _
  have r2:=hy (.const .nilIface);rw[h2]at r2;have e2:B' (.const .nilIface)= .nilIface:=by
   generalize B' (.const .nilIface)=v at r2;cases r2;rfl
  have q0:(Op.equal t .nilIface .nilIface).run P w= .ok true w:=by
   show(Op.equalIn (9999+1) t _ _).run P w=_;unfold Op.equalIn;simp only[Sem.run_bind,run_underlying hu,Result.andThen_ok,Sem.run_pure]
  have q1: ∀a v,(Op.equal t (.iface a v) .nilIface).run P w= .ok false w:=fun a v=>by
   show(Op.equalIn (9999+1) t _ _).run P w=_;unfold Op.equalIn;simp only[Sem.run_bind,run_underlying hu,Result.andThen_ok,Sem.run_pure]
  refine⟨.bool c,?_, .d (.bool _)⟩;generalize hv:B' y=v at r1;cases r1 with
  |ifn0=>cases op<;>cases hd<;>simp[execOp,hop,e2,hv,eqGuard_nil_constR,binOp,q0]
  |ifn1 a v=>cases op<;>cases hd<;>simp[execOp,hop,e2,hv,eqGuard,binOp,q1]
def v0z {op:BinOp}{t u:TypeId}{y z:Operand}(hop:o.op= .binOp op t y z u)(hk:(k7b sy P op t (B y) (B z)).run E=some x): ∀h2,Pre h h2->x0o P [] h2 h2 B o x:=by
 unfold k7b at hk;split at hk
 ·rename_i k n k' m hy hz;unfold k8l at hk;split at hk
  ·obtain⟨hi,hk⟩:=x1k hk;cases hk;exact fun h2 hp=>v5d hop hy hz (a0f hi)
  ·obtain⟨hi,hk⟩:=x1k hk;cases hk;exact fun h2 hp=>v5c hop hy hz (a0f hi)
  ·split at hk
   ·rename_i hkk;have:=a0f hkk;subst this;obtain⟨hi,hk⟩:=x1k hk;cases hk;exact fun h2 hp=>v5f hop hy hz (w4u hi)
   ·cases hk
  ·split at hk
   ·rename_i hkk;have:=a0f hkk;subst this;obtain⟨hi,hk⟩:=x1k hk;cases hk;exact fun h2 hp=>v5e hop hy hz (w4u hi)
   ·cases hk
  ·split at hk
   ·rename_i hkk hd;have:=a0f hkk;subst this;cases hk;rw[w3f]at hd;exact fun h2 hp=>u9y hop hy hz hd
   ·rename_i hkk hd0 hd;have:=a0f hkk;subst this;cases hk;rw[w3e]at hd;exact fun h2 hp=>u9w hop hy hz hd
   ·cases hk
 ·rename_i s u' hy hz;split at hk
  ·obtain⟨hi,hk⟩:=x1k hk;cases hk;exact fun h2 hp=>u9z hop hy hz (a0f hi)
  ·split at hk
   ·rename_i c hc;cases hk;rw[v1a]at hc;exact fun h2 hp=>u9x hop hy hz hc
   ·cases hk
 ·rename_i c d hy hz;split at hk
  ·cases hk;exact fun h2 hp=>z3o hop hy hz ‹_› rfl
  ·cases hk;exact fun h2 hp=>z3o hop hy hz ‹_› rfl
  ·cases hk
 ·rename_i xs ys hy hz;split at hk
  ·rename_i cs ds h1 h2;split at hk
   ·rename_i ss ss' h3 h4;split at hk
    ·have he:=a0f ‹decide (ss'=ss)=true›;subst he;cases hk;exact fun h2' hp=>z3n hop (by rw[hy,x5q h1]) (by rw[hz,x5q h2]) ‹v2l P t _=true› h3 h4 rfl
    ·have he:=a0f ‹decide (ss'=ss)=true›;subst he;cases hk;exact fun h2' hp=>z3n hop (by rw[hy,x5q h1]) (by rw[hz,x5q h2]) ‹v2l P t _=true› h3 h4 rfl
    ·cases hk
   ·cases hk
  ·cases hk
 ·cases hk
def w3p (v:V)(k:Nat):q5c sy v k=k7h v k:=by
 cases v<;>simp only[q5c,k7h]
 cases k<;>simp[sy]
def w8g (h:List Box)(v:V):k8j sy h v=w8e h v:=by cases v<;>rfl
def u1p {y:Operand}{t:TypeId}{ts:Array TypeId}(hop:o.op= .call { callee:= .builtin .len,args:= #[y],argTypes:=ts })(ht:ts[0]? =some t)(hk:(w6n sy P h t (B y)).run E=some x):
  ∀h2,Pre h h2->x0o P [] h2 h2 B o x:=by
 unfold w6n at hk;rw[w8g]at hk;split at hk
 ·rename_i s n hv hu hn;cases hk;exact fun h2 hp=>z9h hop ht (u6f hp hn) (fun _ _=>hu) (fun hh=>(hh s hv).elim)
 ·cases hk
 ·rename_i hno;cases hk;exact fun h2 hp=>z9h hop ht (u6f hp ‹w8e h (B y)=some _›) (fun s hs=>(hno s hs).elim) (fun _=>⟨_, ‹P.underlying t=some (.slice _)›⟩)
 ·rename_i b _ _ hv _ _;split at hk
  ·cases hk;exact fun h2 hp=>u9v hop ht ‹v4i P t=some _› ‹B y= .map _› (hp.at ‹h[_]? =some _› nofun)
  ·cases hk
 ·cases hk
def z7i {t:TypeId}{y:Operand}{lo hi:Option Operand}(hop:o.op= .slice t y lo hi none)(hk:(v2p sy P t (B y) (lo.map B) (hi.map B)).run E=some x): ∀h2,Pre h h2->x0o P [] h2 h2 B o x:=by
 unfold v2p at hk;split at hk
 ·rename_i sz' rows hy;split at hk
  ·rename_i e sz l r hel hl hr;split at hk
   ·rename_i hsz;have:=a0f hsz;subst this;obtain⟨hi,hk⟩:=x1k hk;cases hk;have hi:=y1r hi;exact fun h2 hp=>u3a hop hel hy hl hr hi.1 hi.2.1 hi.2.2
   ·cases hk
  ·cases hk
 ·rename_i s hy;split at hk
  ·rename_i l r hu hl hr;obtain⟨hi,hk⟩:=x1k hk;cases hk;have hi:=y1r hi;exact fun h2 hp=>z9f hop hu hy hl hr hi.1 hi.2.1 hi.2.2
  ·cases hk
 ·rename_i hy;split at hk
  ·rename_i z l r hel hl hr;obtain⟨e,sz⟩:=z;obtain⟨hi,hk⟩:=x1k hk;cases hk;have hi:=y1r hi;exact fun h2 hp=>z1z hop hel hy hl hr (by omega) (by omega)
  ·cases hk
 ·cases hk
def z5e (hE:E.Ok){t:TypeId}{y z:Operand}{c:Bool}(hop:o.op= .lookup t y z c)(hk:(u2q sy P h t (B y) (B z) c).run E=some x): ∀h2,Pre h h2->x0o P [] h2 h2 B o x:=by
 unfold u2q at hk;split at hk
 ·rename_i e kk b k hm hy hz;split at hk
  ·rename_i kk' rows zv s hb hze hsh hf;split at hk
   ·rename_i hkk hzk;have:=a0f hkk;subst this;obtain⟨x,h1,hk⟩:=x0a hE hk;have h1:=y3b h1;cases h1;have:=fun h2 (hp:Pre h h2)=>z9g (c:=c) hop hy (hp.at hb nofun) hm hze hzk hz (v6c hf)
    cases c<;>cases hk<;>exact this
   ·cases hk
  ·cases hk
 ·cases hk
def v6j {f:FuncId}(hx:q6f P f=some 0): ∃fn,P.funcs[f]? =some fn/\fn.body=none/\fn.origin= "" /\fn.name= "internal/bytealg.IndexByteString" :=by
 unfold q6f at hx;split at hx
 ·rename_i fn hf;split at hx
  ·cases hx
  ·rename_i hb;split at hx
   ·rename_i h1 h2;exact⟨fn,hf,hb,eq_of_beq h1,eq_of_beq h2⟩
   ·cases hx
   ·cases hx
 ·cases hx
def v0e {f:FuncId}(hx:q6f P f=some 1): ∃fn,P.funcs[f]? =some fn/\fn.body=none/\fn.origin= "" /\fn.name= "internal/bytealg.CountString" :=by
 unfold q6f at hx;split at hx
 ·rename_i fn hf;split at hx
  ·cases hx
  ·rename_i hb;split at hx
   ·cases hx
   ·rename_i h1 _ h2;exact⟨fn,hf,hb,eq_of_beq h1,eq_of_beq h2⟩
   ·cases hx
 ·cases hx
def u9k {op:BinOp}{t u:TypeId}{y:Operand}(hop:o.op= .binOp op t y (.const .nilIface) u)(hu:k3e P t=true)(hk:(k4w sy op (B y) (B (.const .nilIface))).run E=some x):x0o P [] h h B o x:=by
 unfold k4w at hk;split at hk
 ·rename_i b h1 h2;cases hk;exact x6q hop hu (.inl h1) h2 rfl
 ·rename_i b h1 h2;cases hk;exact x6q hop hu (.inl h1) h2 rfl
 ·rename_i h1 h2;cases hk;exact x6q (b:=false) hop hu (.inr (.inl ⟨rfl,_,_,h1⟩)) h2 rfl
 ·rename_i h1 h2;cases hk;exact x6q (b:=false) hop hu (.inr (.inl ⟨rfl,_,_,h1⟩)) h2 rfl
 ·rename_i t b cs h1 h2;cases hk;exact x6q hop hu (.inr (.inr ⟨_,_,h1⟩)) h2 rfl
 ·rename_i t b cs h1 h2;cases hk;exact x6q hop hu (.inr (.inr ⟨_,_,h1⟩)) h2 rfl
 ·cases hk
def z9m {y:Operand}{xt t:TypeId}{fs:Array Field}{cs:List D}(hop:o.op= .typeAssert y xt t true)(hu:P.underlying t=some (.struct fs))(hy1:B y= .ifc t cs):x0o P [] h h B o (.tup [.agg (cs.map .d), .d (.bool true)]):=
 .pure fun g B' w hs hy=>by
  have hr:=hy y;rw[hy1]at hr;generalize hu0:B' y=u0 at hr;cases hr with
  |ifc _ us _ hl hr=>
   refine⟨.tuple #[.agg us, .bool true],?_, .tup _ _ rfl fun i u c h1 h2=> ?_⟩
   ·simp[execOp,hop,hu0,Instr.typeAssert,Sem.run_bind,run_underlying hu,Result.andThen_ok,Sem.run_pure]
   ·match i,h1,h2 with
    |0,h1,h2=>
     cases h1;cases h2;refine .agg us _ (by simpa using hl) fun i u c h1 h2=> ?_
     rw[a0m,a0k]at h2;obtain⟨x,hx,rfl⟩:=h2;exact .d (hr i u x h1 hx)
    |1,h1,h2=>
     cases h1;cases h2;exact .d (.bool true)
def y9p {t:TypeId}{y:Operand}{fs:Array Field}{cs:List V}{ds:List D}(hop:o.op= .makeInterface t y)(hu:P.underlying t=some (.struct fs))(hy1:B y= .agg cs)(hd:y6s cs=some ds):x0o P [] h h B o (.ifc t ds):=
 .pure fun g B' w hs hy=>by
  have hr:=hy y;rw[hy1]at hr;have e:=x5q hd;subst e;generalize hu0:B' y=u0 at hr;cases hr with
  |agg us _ hl hr=>
   refine⟨.iface t (.agg us),?_, .ifc t us ds (by simpa using hl) fun i u c h1 h2=> ?_⟩
   ·simp[execOp,hop,hu0,Instr.makeInterface,Sem.run_bind,run_underlying hu,Result.andThen_ok,Sem.run_pure]
   ·have:=hr i u (.d c) h1 (by rw[a0m,h2];rfl)
    cases this with
    |d h=>exact h
def y6p {t e:TypeId}{y:Operand}{b off:Nat}(hop:o.op= .makeInterface t y)(hu:P.underlying t=some (.pointer e))(hy1:B y= .ptr b off):x0o P [] h h B o (.ifp t b off):=
 .pure fun g B' w hs hy=>by
  have hr:=hy y;rw[hy1]at hr;generalize hu0:B' y=u0 at hr;cases hr with
  |ptr _ _ hb=>
   refine⟨.iface t (.pointer (some ⟨g.blk b,off,none⟩)),?_, .ifp t b off hb⟩;simp[execOp,hop,hu0,Instr.makeInterface,Sem.run_bind,run_underlying hu,Result.andThen_ok,Sem.run_pure]
def w3c {r:List D}(h:(byN r).isSome=true): ∃n,r= [.int .u8 n]/\byN r=some n:=by
 unfold byN at h ⊢;split at h
 ·exact⟨_,rfl,rfl⟩
 ·cases h
def u3e {s t:TypeId}{y:Operand}{rows:LL}(hop:o.op= .convert s t y)(hy1:B y= .d (.sl 1 rows))(hu:P.underlying t=some .string)(hb:q3n P s=true)(hi:sy.isby rows=true):x0o P [] h h B o (.d (.str (sy.bstr rows))):=
 .pure fun g B' w hs hy=>by
  obtain⟨e,hs1,he⟩: ∃e,P.underlying s=some (.slice e)/\P.underlying e=some (.int .u8):=by
   unfold q3n at hb;split at hb
   ·rename_i e h1;split at hb
    ·exact⟨e,h1, ‹_›⟩
    ·cases hb
   ·cases hb
  have hr:=hy y;rw[hy1]at hr;generalize hu0:B' y=u0 at hr;cases hr with
  |d hr=>
   refine⟨.string (sy.bstr rows),?_, .d (.str _)⟩;have run: ∀v,(convert s t u0).run P w= .ok v w->(execOp B' o).run P w= .ok (.value v) w:=fun v hv=>by
    simp[execOp,hop,hu0,hv,Result.andThen_ok]
   refine run _ ?_;cases hr with
   |slnil=>exact run_convert_bytes_nil w s e hs1 he 0 0 t hu
   |slemp a cap=>
    rw[run_convert_bytes_string w s t e _ 0 cap hs1 he hu,run_bytesToString w a 0 cap [] (by simpa using run_loadCells_list (P:=P) w a [] (fun j v hj=>by simp at hj))]
    rfl
   |sl blk off n cap _ _ U hn hcap hlen hZ hc hr=>
    have key: ∀i,i < n->w.cell? ⟨blk,off+i,none⟩=some (.int .u8 ((rows.map fun r=>(byN r).getD 0).getD i 0)):=fun i hi'=>by
     have hx:rows[i]? =some rows[i]:=a0a (by omega)
     obtain⟨m,h1,h2⟩:=w3c (a0l.1 hi rows[i] (a1i (by omega)))
     have hc':=hc i rows[i] 0 (.int .u8 m) hx (by rw[h1];rfl)
     have hr':=hr i rows[i] 0 (.int .u8 m) hx (by rw[h1];rfl)
     rw[show off+(i*1+0)=off+i by omega]at hc'
     rw[hc'];generalize U i 0=u at hr';cases hr';rw[a0i,a0m,hx,Option.map_some,Option.getD_some,h2,Option.getD_some]
    exact run_convert_bytes_arg w s e hs1 he blk off n cap (rows.map fun r=>(byN r).getD 0) (by simpa using hn) key t hu
def y4p (hE:E.Ok)(hk:(w4q sy P h B o).run E=some x): ∀h2,Pre h h2->x0o P [] h2 h2 B o x:=by
 unfold w4q at hk;split at hk
 ·rename_i y hop;cases hk;exact fun h2 hp=>y1q (.inl hop)
 ·rename_i y hop;cases hk;exact fun h2 hp=>y1q (.inr hop)
 ·rename_i c a b hop;split at hk
  ·rename_i t ht;have:=fun h2 (hp:Pre h h2)=>u9t (P:=P) (h:=h2) hop ht
   cases t<;>cases hk<;>exact this
  ·cases hk
 ·rename_i t y hop;exact u2r hE hop hk
 ·rename_i s y f hop;split at hk
  ·rename_i k hfk;rw[w3p]at hk;split at hk
   ·rename_i v hv;cases hk;exact fun h2 hp=>y9z hop hfk hv
   ·cases hk
  ·cases hk
 ·rename_i t y f hop;split at hk
  ·rename_i fs cs hu hy;split at hk
   ·rename_i fl hf;split at hk
    ·rename_i ha hx;split at hk
     ·rename_i v hv;cases hk;exact fun h2 hp=>u3c hop hu hf hy hx ha hv
     ·cases hk
    ·rename_i n ha hx hn;split at hk
     ·rename_i hd;cases hk;exact fun h2 hp=>z9j hop hu hf hy hx ha hn (a0f hd)
     ·cases hk
    ·cases hk
   ·cases hk
  ·cases hk
 ·rename_i t y z hop;exact z8z hop hk
 ·rename_i t y z hop;split at hk
  ·rename_i s kd i hu hy hz;obtain⟨hi,hk⟩:=x1k hk;cases hk;have hi:=y7j hi;exact fun h2 hp=>z9i hop hu hy hz hi.1 hi.2
  ·cases hk
 ·rename_i op t y z u hop;split at hk
  ·rename_i hu;exact fun h2 hp=>u9k hop hu hk
  ·exact v0z hop hk
 ·rename_i op t y hop;split at hk
  ·rename_i b hy;cases hk;exact fun h2 hp=>v5g hop hy
  ·rename_i k n hy;cases hk;exact fun h2 hp=>v5h hop hy
  ·cases hk
 ·rename_i s t y hop;split at hk
  ·rename_i k' k n hu hs hy;cases hk;exact fun h2 hp=>u3d hop hy hu hs
  ·rename_i rows hu hs hy;split at hk
   ·rename_i hb;obtain⟨hi,hk⟩:=x1k hk;cases hk;exact fun h2 hp=>u3e hop hy hu hb hi
   ·cases hk
  ·cases hk
 ·rename_i y i hop;split at hk
  ·rename_i cs hy;split at hk
   ·rename_i v hv;cases hk;exact fun h2 hp=>z5o hop hy hv
   ·cases hk
  ·cases hk
 ·rename_i y hop;split at hk
  ·rename_i hs;cases hk;exact fun h2 hp=>z2a hop hs
  ·cases hk
 ·rename_i t parts hop;split at hk
  ·rename_i zs place hpl;split at hk
   ·rename_i vs hfv hlv;cases hk;refine fun h2 hp=>u3f hop hpl hfv ?_
    rw[a0l]at hlv ⊢;exact fun q hq=>z8o hp (hlv q hq)
   ·cases hk
  ·cases hk
 ·rename_i t y z c hop;exact z5e hE hop hk
 ·rename_i t y lo hi mx hop;split at hk
  ·exact z7i hop hk
  ·cases hk
 ·rename_i t y hop;split at hk
  ·rename_i hu hy;split at hk
   ·rename_i hd;cases hk;exact fun h2 hp=>y9p hop hu hy hd
   ·cases hk
  ·rename_i hu hy;cases hk;exact fun h2 hp=>y6p hop hu hy
  ·cases hk
 ·rename_i y xt t ok hop;split at hk
  ·rename_i hu hy;split at hk
   ·rename_i hd;have hd:=a0f hd;subst hd;cases hk;exact fun h2 hp=>z9m hop hu hy
   ·cases hk
  ·cases hk
 ·rename_i fn first caps hop;split at hk
  ·cases hk;exact fun h2 hp=>z2b hop
  ·split at hk
   ·rename_i hy;cases hk;exact fun h2 hp=>y9q hop hy
   ·cases hk
  ·cases hk
 ·rename_i t n parts hop;split at hk
  ·rename_i e sz vs hlit hl;split at hk
   ·rename_i ss hss;split at hk
    ·rename_i rows hr;cases hk;refine fun h2 hp=>y4z hop hlit ?_ hr
     rw[a0l]at hl ⊢;exact fun q hq=>z8o hp (hl q hq)
    ·cases hk
   ·cases hk
  ·cases hk
 ·rename_i c hop;split at hk
  ·rename_i y ts;split at hk
   ·rename_i t ht;exact u1p hop ht hk
   ·cases hk
  ·rename_i y ts;split at hk
   ·rename_i t ht hy;split at hk
    ·rename_i e hu;cases hk;exact fun h2 hp=>z9l hop ht hu hy
    ·cases hk
   ·cases hk
  ·rename_i y z ts;split at hk
   ·rename_i k a k' b hy hz;split at hk
    ·rename_i hkk;have:=a0f hkk;subst this;cases hk;exact fun h2 hp=>v5j hop hy hz
    ·cases hk
   ·cases hk
  ·rename_i y z ts;split at hk
   ·rename_i k a k' b hy hz;split at hk
    ·rename_i hkk;have:=a0f hkk;subst this;cases hk;exact fun h2 hp=>v5i hop hy hz
    ·cases hk
   ·cases hk
  ·split at hk
   ·rename_i f hq;split at hk
    ·rename_i s c hx hy hz;cases hk;obtain⟨fn,hf,hb,ho,hn⟩:=v6j hx;obtain⟨k1,k2⟩:=w1q hn ho;exact fun h2 hp=>z9k hop hq hf hb (by rw[hn];rfl) k1 k2 hy hz (fun w=>Lib.run_indexByteString s c w)
    ·rename_i s c hx hy hz;cases hk;obtain⟨fn,hf,hb,ho,hn⟩:=v0e hx;obtain⟨k1,k2⟩:=w1r hn ho;exact fun h2 hp=>z9k hop hq hf hb (by rw[hn];rfl) k1 k2 hy hz (fun w=>Lib.run_countString s c w)
    ·cases hk
   ·cases hk
  ·cases hk
 ·cases hk
end
end Go.Vm
end
