/- Part KB of the proof. What is proved by the whole: the statement that the claim names, with no condition. -/
import Derived.Test.YtggdkkdfeblooaaGreatDoorKA
import Derived.Lib.AppendZeros
import Derived.Laws.StructEq
import Derived.Still
import Derived.WalkKit
import Derived.TacticsIn
import Derived.OrdersIn
import Derived.RangeFuncRecord
import Derived.Deep.LoopGhost
import Derived.Scope
import Derived.Laws.CopyRow
import Derived.Lib.Bytealg
import Derived.Laws.Externs
set_option linter.all false
section
namespace Go.Vm
section
variable {P : Program} {M : List Nat} {h h' : List Box} {ρ : Operand -> V} {o : Oper} {x : V}
def u1r {y:Operand}{ts:Array TypeId}{t e:TypeId}(hop:o.op= .call { callee:= .builtin .cap,args:= #[y],argTypes:=ts })(ht:ts[0]? =some t)(hu:P.underlying t=some (.slice e))(hy1:ρ y= .nils):
  x0p P [] h h ρ o (.d (.int .i64 0)):=
 .pure fun g ρ' w hs hy=>by
  have hr:=hy y;rw[hy1]at hr;generalize hu0:ρ' y=u0 at hr;cases hr;refine⟨.int .i64 0,?_, .d (.int _ _)⟩;simp[execOp,hop,resolve,invoke,builtin,Builtin.cap_,ht,hu0,run_underlying hu,goInt]
def z3x {t e:TypeId}{y:Operand}{lo hi:Option Operand}{sz:Nat}{l r:Int}(hop:o.op= .slice t y lo hi none)(hk:elO P t=some (e,sz))
  (hy1:ρ y= .nils) (hl:y3k 0 (lo.map ρ)=some l) (hh:y3k 0 (hi.map ρ)=some r) (h0:l=0) (h1:r=0):x0p P [] h h ρ o .nils:=
 .pure fun g ρ' w hs hy=>by
  obtain⟨hu,hn⟩:=y2w hk;have hr:=hy y;rw[hy1]at hr;generalize hu0:ρ' y=u0 at hr;cases hr;subst h0;subst h1;have hb:=x6a (P:=P) (w:=w) (isl:=true) (n:=0) (cap:=0) hy hl hh (Int.le_refl _) (Int.le_refl _) (Int.le_refl _) (a0q _);refine⟨.slice none 0 0,?_, .nils⟩;simp[execOp,hop,hu0,Instr.sliceAt,run_underlying hu,Instr.slice,hb,x0s hn]
def z3w {t e e':TypeId}{y:Operand}{lo hi:Option Operand}{sz b:Nat}{rows:LL}{l r:Int}(hop:o.op= .slice t y lo hi none)(hk:elO P t=some (e,sz))
  (hy1:ρ y= .own b) (hb:h[b]? =some (.arr e' sz rows)) (hl:y3k 0 (lo.map ρ)=some l) (hh:y3k rows.length (hi.map ρ)=some r) (h0:l=0) (h1:0<=r) (h2:r<=rows.length):
  x0p P [b] h ((h.map (Box.kill [b])).set b (.arr e' sz (rows.take r.toNat))) ρ o (.own b):=
 .of_run fun g ρ' w hs hy=>by
  obtain⟨hu,hn⟩:=y2w hk;subst h0;obtain⟨e1,hbn⟩:=x4w (hy1▸hy y);obtain⟨hlen,hbr⟩:=hs.rep b _ hb;have hlr: ∀(i:Nat) (q:List D),(rows.take r.toNat)[i]? =some q->rows[i]? =some q:=by
   intro i q hq;rw[a1s]at hq;split at hq
   ·exact hq
   ·cases hq
  rcases hbr with⟨k1,rfl⟩|⟨us,cap,k1,k2,k2',k3,k4,k5⟩
  ·have hr0:r=0:=by simp at h2;omega
   subst hr0;have hbd:=x6a (P:=P) (w:=w) (isl:=true) (n:=0) (cap:=0) hy hl hh (Int.le_refl _) (Int.le_refl _) (Int.le_refl _) (a0q _);refine⟨g.val b,w,g,?_, .own b hbn,Keep.turn (g':=g) hs hb [b] (.inr rfl) rfl rfl rfl (fun _ _=>⟨rfl,rfl⟩) (Fr.refl _ _) ?_ (fun k hk=> .inl hk)⟩
   ·rw[k1]at e1;simp[execOp,hop,e1,k1,Instr.sliceAt,run_underlying hu,Instr.slice,hbd,x0s hn]
   ·exact⟨by simp, .inl ⟨k1,rfl⟩⟩
  ·have hbd:=x6a (P:=P) (w:=w) (isl:=true) (n:=rows.length) (cap:=cap) hy hl hh (Int.le_refl _) h1 h2 k2
   let g':Gh:= { g with val:=fun c=>if c=b then .slice (some ⟨g.blk b,0,none⟩) r.toNat cap else g.val c }
   have hgv:g'.val b= .slice (some ⟨g.blk b,0,none⟩) r.toNat cap:=by simp[g']
   refine⟨.slice (some ⟨g.blk b,0,none⟩) r.toNat cap,w,g',?_,?_,Keep.turn hs hb [b] (.inr rfl) rfl rfl rfl (fun c hc=>by simp[g',hc]) (Fr.refl _ _) ?_ (fun k hk=> .inl ?_)⟩
   ·rw[k1]at e1;simp[execOp,hop,e1,Instr.sliceAt,run_underlying hu,Instr.slice,hbd,x0s hn,x4b]
   ·have:=Rep.own (w:=w) (g:=g') b hbn
    rwa [hgv]at this
   ·have hl2:(rows.take r.toNat).length=r.toNat:=by simp;omega
    refine⟨fun i q hq=>hlen i q (hlr i q hq), .inr ⟨us,cap,by rw[hgv,hl2],by rw[hl2];omega,k2',k3,k4,fun i q j c hi hj=>k5 i q j c (hlr i q hi) hj⟩⟩
   ·simp only[Box.at?,hgv]at hk;simp only[Box.at?,k1];exact hk
end
section
variable {P : Program} {M : List Nat} {h h' : List Box} {ρ : Operand -> V} {o : Oper} {x : V}
def D.shE:D->Option Sh
 | .int k _=>some (.int k)
 | .bool _=>some .bool
 | .str _=>some .str
 | .sl _ _=>none
def shD:List D->Option (List Sh)
 | []=>some []
 |x::xs=>match x.shE,shD xs with
  |some s,some ss=>some (s::ss)
  |_,_=>none
def u0w (P:Program)(t:TypeId)(s:Sh):Bool:=match P.underlying t,s with
 |some (.int _), .int _=>true
 |some .bool, .bool=>true
 |some .string, .str=>true
 |_,_=>false
def okF (P:Program):Nat->List Field->List Sh->Bool
 |_,[],[]=>true
 |i,f::fs,s::ss=>f.name != "_" &&decide (f.offset=i)&&u0w P f.type s&&okF P (i+1) fs ss
 |_,_,_=>false
def k1o (P:Program)(t:TypeId)(ss:List Sh):Option Nat:=match P.underlying t with
 |some (.struct gs)=>match !P.stoodInHeld t&&okF P 0 gs.toList (ss.take gs.size)&&decide (szO P t=some gs.size)&&y4c P t with
  |true=>some gs.size
  |false=>none
 |_=>none
def okN (P:Program):Nat->List Field->List Sh->Bool
 |_,[],[]=>true
 |i,f::fs,ss=>f.name != "_" &&decide (f.offset=i)&&match k1o P f.type ss with
  |some n=>okN P (i+n) fs (ss.drop n)
  |none=>match ss with
   |s::r=>u0w P f.type s&&okN P (i+1) fs r
   | []=>false
 |_,_,_=>false
def v5w (P:Program)(t:TypeId)(ss:List Sh):Bool:=match P.underlying t with
 |some (.struct fs)=> !P.stoodInHeld t&& !P.eqGuardType P.depth t&&okN P 0 fs.toList ss
 |_=>false
def eqD:D->D->Bool
 | .int _ a, .int _ b=>a == b
 | .bool a, .bool b=>a == b
 | .str a, .str b=>a.toList == b.toList
 |_,_=>false
def y7u:List D->List D->Bool
 |x::xs,y::ys=>eqD x y&&y7u xs ys
 |_,_=>true
def z0i {w:World}{Z:Nat->Nat->Prop}{t:TypeId}{s:Sh}{c e:D}{u v:Value}(d:Nat)(hl:u0w P t s=true)(hc:c.shE=some s)(he:e.shE=some s)(hu:RepD w Z u c)(hv:RepD w Z v e):
  (Op.equalIn (d+1) t u v).run P w= .ok (eqD c e) w:=by
 cases hu with
 |int k n=>
  cases hc;cases hv with
  |int k' n'=>
   simp only[D.shE,Option.some.injEq,Sh.int.injEq]at he;subst he;unfold u0w at hl;split at hl
   ·rw[run_equalIn_int w d t _ _ _ _ ‹_›];rfl
   ·rename_i h1 h2;cases h2
   ·rename_i h1 h2;cases h2
   ·cases hl
  |_=>cases he
 |bool b=>
  cases hc;cases hv with
  |bool b'=>
   unfold u0w at hl;split at hl
   ·rename_i h1 h2;cases h2
   ·rw[run_equalIn_bool' w d t _ _ ‹_›];rfl
   ·rename_i h1 h2;cases h2
   ·cases hl
  |_=>cases he
 |str b=>
  cases hc;cases hv with
  |str b'=>
   unfold u0w at hl;split at hl
   ·rename_i h1 h2;cases h2
   ·rename_i h1 h2;cases h2
   ·rw[run_equalIn_string w d t _ _ ‹_›];rfl
   ·cases hl
  |_=>cases he
 |_=>cases hc
def u8z {t:TypeId}{s:Sh}(hl:u0w P t s=true):(P.underlying t).isSome=true/\y4c P t=false:=by
 unfold u0w at hl;unfold y4c;split at hl<;>simp_all
def y8u: ∀(cs:List D) (i:Nat) {s:Sh} {ss:List Sh},shD (cs.drop i)=some (s::ss)-> ∃c,cs[i]? =some c/\c.shE=some s/\shD (cs.drop (i+1))=some ss/\cs.drop i=c::cs.drop (i+1):=by
 intro cs i s ss h;cases hd:cs.drop i with
 |nil=>rw[hd]at h;simp[shD]at h
 |cons c r=>
  rw[hd]at h;have hr:r=cs.drop (i+1):=by rw[<-List.drop_drop,hd];rfl
  have hi:cs[i]? =some c:=by
   have:=congrArg (·[0]?) hd
   simpa using this
  unfold shD at h;split at h
  ·rename_i s' ss' h1 h2;simp only[Option.some.injEq,List.cons.injEq]at h;obtain⟨rfl,rfl⟩:=h;exact⟨c,hi,h1,hr▸h2,by rw[hr]⟩
  ·cases h
def y7j {w:World}{Z:Nat->Nat->Prop}{xs ys:Array Value}{cs ds:List D}(d:Nat)(hx: ∀(j:Nat) c,cs[j]? =some c-> ∃u,xs[j]? =some u/\RepD w Z u c)
  (hy: ∀(j:Nat) c,ds[j]? =some c-> ∃u,ys[j]? =some u/\RepD w Z u c): ∀(fs:List Field) (ss:List Sh) (i:Nat),okF P i fs ss=true->shD (cs.drop i)=some ss->shD (ds.drop i)=some ss->
  (Op.eqFields (d+1) xs ys fs).run P w= .ok (y7u (cs.drop i) (ds.drop i)) w
 | [],ss,i,ho,h1,h2=>by
   cases ss with
   |cons s ss=>simp[okF]at ho
   |nil=>
    have:cs.drop i= []:=by
     cases hd:cs.drop i with
     |nil=>rfl
     |cons c r=>rw[hd]at h1;unfold shD at h1;split at h1<;>simp at h1
    rw[this];simp[Op.eqFields,y7u]
 |f::fs,[],i,ho,h1,h2=>by simp[okF]at ho
 |f::fs,s::ss,i,ho,h1,h2=>by
  obtain⟨c,hc,hcs,h1',e1⟩:=y8u cs i h1;obtain⟨e,he,hes,h2',e2⟩:=y8u ds i h2;obtain⟨u,hu,ru⟩:=hx i c hc;obtain⟨v,hv,rv⟩:=hy i e he;unfold okF at ho;simp only[a0g,bne_iff_ne,a0p]at ho;obtain⟨⟨⟨hn,hoff⟩,hl⟩,ho⟩:=ho;obtain⟨ha1,ha2⟩:=u8z hl;have ih:=y7j d hx hy fs ss (i+1) ho h1' h2';have p1:(part f.type xs f.offset).run P w= .ok u w:=by
   simp only[part,Sem.run_bind,x1q ha1 ha2,Result.andThen_ok,hoff,hu];simp
  have p2:(part f.type ys f.offset).run P w= .ok v w:=by
   simp only[part,Sem.run_bind,x1q ha1 ha2,Result.andThen_ok,hoff,hv];simp
  rw[e1,e2];unfold Op.eqFields y7u;rw[if_pos hn];simp only[Sem.run_bind,p1,p2,Result.andThen_ok,z0i d hl hcs hes ru rv];cases hq:eqD c e with
  |false=>simp
  |true=>simpa using ih
def v6d: ∀ {cs:List D} {ss:List Sh},shD cs=some ss->cs.length=ss.length
 | [],ss,h=>by cases h;rfl
 |c::cs,ss,h=>by
  unfold shD at h;split at h
  ·rename_i s ss' h1 h2;cases h;simp[v6d h2]
  ·cases h
def z6l: ∀(n:Nat) {cs:List D} {ss:List Sh},shD cs=some ss->shD (cs.take n)=some (ss.take n)/\shD (cs.drop n)=some (ss.drop n)
 |0,cs,ss,h=>⟨by simp[shD],by simpa using h⟩
 |n+1,[],ss,h=>by cases h;exact⟨rfl,rfl⟩
 |n+1,c::cs,ss,h=>by
  unfold shD at h;split at h
  ·rename_i s ss' h1 h2;cases h;obtain⟨h3,h4⟩:=z6l n h2;refine⟨?_,by simpa using h4⟩
   simp only[List.take_succ_cons];unfold shD;rw[h1,h3]
  ·cases h
def z5m: ∀(n:Nat) (xs ys:List D),y7u xs ys=(y7u (xs.take n) (ys.take n)&&y7u (xs.drop n) (ys.drop n))
 |0,xs,ys=>by simp[y7u]
 |n+1,[],ys=>by simp[y7u]
 |n+1,x::xs,[]=>by simp[y7u]
 |n+1,x::xs,y::ys=>by
  simp only[List.take_succ_cons,List.drop_succ_cons,y7u];rw[z5m n xs ys,Bool.and_assoc]
def y0m {w:World}{Z:Nat->Nat->Prop}{xs ys:Array Value}{cs ds:List D}(d:Nat)(hx: ∀(j:Nat) c,cs[j]? =some c-> ∃u,xs[j]? =some u/\RepD w Z u c)
  (hy: ∀(j:Nat) c,ds[j]? =some c-> ∃u,ys[j]? =some u/\RepD w Z u c): ∀(fs:List Field) (ss:List Sh) (i:Nat),okN P i fs ss=true->shD (cs.drop i)=some ss->shD (ds.drop i)=some ss->
  (Op.eqFields (d+2) xs ys fs).run P w= .ok (y7u (cs.drop i) (ds.drop i)) w
 | [],ss,i,ho,h1,h2=>by
   cases ss with
   |cons s ss=>simp[okN]at ho
   |nil=>
    have:cs.drop i= []:=List.length_eq_zero_iff.1 (by rw[v6d h1];rfl)
    rw[this];simp[Op.eqFields,y7u]
 |f::fs,ss,i,ho,h1,h2=>by
  unfold okN at ho;simp only[a0g,bne_iff_ne,a0p]at ho;obtain⟨⟨hn,hoff⟩,ho⟩:=ho;split at ho
  ·rename_i n hnb;unfold k1o at hnb;split at hnb
   ·rename_i gs hu;split at hnb
    ·rename_i hc;cases hnb;simp only[a0g,Bool.not_eq_true',a0p]at hc;obtain⟨⟨⟨s1,s2⟩,s3⟩,s4⟩:=hc;obtain⟨t1,d1⟩:=z6l gs.size h1;obtain⟨t2,d2⟩:=z6l gs.size h2;rw[List.drop_drop]at d1 d2;have ih:=y0m d hx hy fs _ (i+gs.size) ho d1 d2;have hsub: ∀ {zs:Array Value} {es:List D},(∀(j:Nat) c,es[j]? =some c-> ∃u,zs[j]? =some u/\RepD w Z u c)-> ∀(j:Nat) c,((es.drop i).take gs.size)[j]? =some c-> ∃u,(zs.extract i (i+gs.size))[j]? =some u/\RepD w Z u c:=by
      intro zs es hz j c hj;rw[a1s]at hj;split at hj
      ·rename_i hlt;rw[a1x]at hj;obtain⟨u,hu,hr⟩:=hz (i+j) c hj;have hsz:i+j < zs.size:=(a0r.1 hu).1;refine⟨u,?_,hr⟩;rw[Array.getElem?_extract,if_pos (by omega)]
       exact hu
      ·cases hj
     have p: ∀(zs:Array Value),(part f.type zs f.offset).run P w= .ok (.agg (zs.extract i (i+gs.size))) w:=fun zs=>by
      simp only[part,Sem.run_bind,x1q (by rw[hu];rfl) s4,Result.andThen_ok,hoff]
      simp only[if_true,x0s s3,Sem.run_bind,Sem.run_pure,Result.andThen_ok]
     have hf:P.fieldsOf f.type=gs:=by unfold Program.fieldsOf;rw[hu]
     have key:(Op.equalIn (d+2) f.type (.agg (xs.extract i (i+gs.size))) (.agg (ys.extract i (i+gs.size)))).run P w= .ok (y7u ((cs.drop i).take gs.size) ((ds.drop i).take gs.size)) w:=by
      rw[run_equalIn_struct w (d+1) f.type _ _ (by rw[hf];exact hu) s1,hf]
      have:=y7j d (hsub hx) (hsub hy) gs.toList (ss.take gs.size) 0 s2 (by simpa using t1) (by simpa using t2)
      simpa using this
     rw[z5m gs.size (cs.drop i),List.drop_drop,List.drop_drop];unfold Op.eqFields;rw[if_pos hn];simp only[Sem.run_bind,p,Result.andThen_ok,key];cases hq:y7u ((cs.drop i).take gs.size) ((ds.drop i).take gs.size)with
     |false=>simp
     |true=>simpa using ih
    ·cases hnb
   ·cases hnb
  ·split at ho
   ·rename_i s r _;simp only[a0g]at ho;obtain⟨hl,ho⟩:=ho;obtain⟨c,hc,hcs,h1',e1⟩:=y8u cs i h1;obtain⟨e,he,hes,h2',e2⟩:=y8u ds i h2;obtain⟨u,hu,ru⟩:=hx i c hc;obtain⟨v,hv,rv⟩:=hy i e he;obtain⟨ha1,ha2⟩:=u8z hl;have ih:=y0m d hx hy fs r (i+1) ho h1' h2';have p1:(part f.type xs f.offset).run P w= .ok u w:=by
     simp only[part,Sem.run_bind,x1q ha1 ha2,Result.andThen_ok,hoff,hu];simp
    have p2:(part f.type ys f.offset).run P w= .ok v w:=by
     simp only[part,Sem.run_bind,x1q ha1 ha2,Result.andThen_ok,hoff,hv];simp
    rw[e1,e2];unfold Op.eqFields y7u;rw[if_pos hn];simp only[Sem.run_bind,p1,p2,Result.andThen_ok,z0i (d+1) hl hcs hes ru rv];cases hq:eqD c e with
    |false=>simp
    |true=>simpa using ih
   ·cases ho
def u7v {w:World}{g:Gh}{u:Value}{cs:List D}(hr:Rep w g u (.agg (cs.map .d))): ∃us,u= .agg us/\ ∀(j:Nat) c,cs[j]? =some c-> ∃u,us[j]? =some u/\RepD w g.Z u c:=by
 cases hr with
 |agg us cs' hl h=>
  refine⟨us,rfl,fun j c hc=> ?_⟩
  have hj:j < us.size:=by rw[hl];simp;exact(a0c.1 hc).1
  have hu:us[j]? =some us[j]:=a0x hj;exact⟨_,hu,x9k (h j _ (.d c) hu (by simp[hc]))⟩
def z5j {op:BinOp}{t u:TypeId}{y z:Operand}{cs ds:List D}{ss:List Sh}{c:Bool}(hop:o.op= .binOp op t y z u)(hy1:ρ y= .agg (cs.map .d))(hz1:ρ z= .agg (ds.map .d))
  (hs:v5w P t ss=true) (h1:shD cs=some ss) (h2:shD ds=some ss) (hd:(match op with| .eql=>some (y7u cs ds)| .neq=>some (!y7u cs ds)|_=>none)=some c):x0p P [] h h ρ o (.d (.bool c)):=
 .pure fun g ρ' w _ hy=>by
  obtain⟨xs,e1,hx⟩:=u7v (hy1▸hy y);obtain⟨ys,e2,hyy⟩:=u7v (hz1▸hy z);unfold v5w at hs;split at hs
  ·rename_i fs hu;simp only[a0g,Bool.not_eq_true']at hs;obtain⟨⟨s1,s2⟩,s3⟩:=hs;have hf:P.fieldsOf t=fs:=by unfold Program.fieldsOf;rw[hu]
   have key:(Op.equalIn 10000 t (.agg xs) (.agg ys)).run P w= .ok (y7u cs ds) w:=by
    rw[run_equalIn_struct w 9999 t xs ys (by rw[hf];exact hu) s1,hf]
    exact y0m 9997 hx hyy fs.toList ss 0 s3 h1 h2
   refine⟨.bool c,?_, .d (.bool _)⟩;cases op<;>cases hd<;>
    simp only[execOp,hop,e1,e2,Sem.run_bind,run_eqGuard_agg _ _ _ _ _ _ _ s2,Result.andThen_ok,run_eql_struct,run_neq_struct,key,Sem.run_pure]
  ·cases hs
end
section
variable {P : Program} {M : List Nat} {h h' : List Box} {ρ : Operand -> V} {o : Oper} {x : V}
def z5x (w:World)(g:Gh)(us:List Value)(vs:List V):Prop:=us.length=vs.length/\ ∀(i:Nat) u v,us[i]? =some u->vs[i]? =some v->Rep w g u v
def y1b (P:Program)(M:List Nat)(f:FuncId)(args:List V)(h:List Box)(r:V)(h':List Box):Prop:=
 ∀(g:Gh) (w:World) (us:List Value),SimH g h w->z5x w g us args->
  Calls P f us.toArray w fun e w'=> ∃u g',e= .returned u/\Rep w' g' u r/\Keep M g h w g' h' w'
def g0 (Z:Nat->Nat->Prop):Gh:= { Z:=Z,n:=0,blk:=fun _=>0,val:=fun _=>undef,cd:=fun _=>none }
def y8o (P:Program)(f:FuncId)(args:List V)(r:V):Prop:=y1b P [] f args [] r []
def V.j0i:V->Bool
 | .any| .nils| .d _| .pel _| .nilp| .nilf| .ifn _| .ifc .. | .ifo .. =>true
 |_=>false
def V.j0e:V->Bool
 | .agg cs=>cs.all V.j0i
 | .tup cs=>cs.all V.j0i
 | .fn _ cs=>cs.all V.j0i
 |v=>v.j0i
def V.j0o:V->Bool
 | .tup cs=>cs.all V.j0e
 |v=>v.j0e
def v7d {w:World}{g g':Gh}(hz:g'.Z=g.Z){u:Value}{v:V}(hp:v.j0i=true)(hr:Rep w g u v):Rep w g' u v:=by
 cases hr with
 |any u=>exact .any u
 |nils=>exact .nils
 |d h=>exact .d (by rwa [hz])
 |pel blk off cs U hZ hc hr=>exact .pel blk off cs U (by rwa [hz]) hc (by rwa [hz])
 |nilp=>exact .nilp
 |nilf=>exact .nilf
 |ifn0=>exact .ifn0
 |ifn1 t p=>exact .ifn1 t p
 |ifc t us cs hl h=>exact .ifc t us cs hl (by rwa [hz])
 |ifo0 t cs=>exact .ifo0 t cs
 |ifo1 t us cs hl h=>exact .ifo1 t us cs hl (by rwa [hz])
 |_=>simp[V.j0i]at hp
def x9l {w:World}{g g':Gh}(hz:g'.Z=g.Z){u:Value}{v:V}(hp:v.j0e=true)(hr:Rep w g u v):Rep w g' u v:=by
 have aux: ∀(us:Array Value) (cs:List V),(∀(i:Nat) u c,us[i]? =some u->cs[i]? =some c->Rep w g u c)->cs.all V.j0i=true->
     ∀(i:Nat) u c,us[i]? =some u->cs[i]? =some c->Rep w g' u c:=fun us cs h ha i u c hu hc=>
  v7d hz (a0l.1 ha c (a0j hc)) (h i u c hu hc)
 cases hr with
 |agg us cs hl h=>exact .agg us cs hl (aux us cs h hp)
 |tup us cs hl h=>exact .tup us cs hl (aux us cs h hp)
 |fn f us cs hl h=>exact .fn f us cs hl (aux us cs h hp)
 |any u=>exact .any u
 |nils=>exact .nils
 |d h=>exact .d (by rwa [hz])
 |pel blk off cs U hZ hc hr=>exact .pel blk off cs U (by rwa [hz]) hc (by rwa [hz])
 |nilp=>exact .nilp
 |nilf=>exact .nilf
 |ifn0=>exact .ifn0
 |ifn1 t p=>exact .ifn1 t p
 |ifc t us cs hl h=>exact .ifc t us cs hl (by rwa [hz])
 |ifo0 t cs=>exact .ifo0 t cs
 |ifo1 t us cs hl h=>exact .ifo1 t us cs hl (by rwa [hz])
 |own b hb=>simp[V.j0e,V.j0i]at hp
 |ptr b off hb=>simp[V.j0e,V.j0i]at hp
 |mv f b off hb=>simp[V.j0e,V.j0i]at hp
 |ifp f b off hb=>simp[V.j0e,V.j0i]at hp
 |pml b sz i off hb=>simp[V.j0e,V.j0i]at hp
 |map b hb=>simp[V.j0e,V.j0i]at hp
 |yld b R hb hc=>simp[V.j0e,V.j0i]at hp
 |osl b sz lo n u hb hu=>simp[V.j0e,V.j0i]at hp
def z9t {w:World}{g g':Gh}(hz:g'.Z=g.Z){u:Value}{v:V}(hp:v.j0o=true)(hr:Rep w g u v):Rep w g' u v:=by
 cases hr with
 |tup us cs hl h=>exact .tup us cs hl fun i u c hu hc=>x9l hz (a0l.1 hp c (a0j hc)) (h i u c hu hc)
 |agg us cs hl h=>exact x9l hz hp (.agg us cs hl h)
 |fn f us cs hl h=>exact x9l hz hp (.fn f us cs hl h)
 |any u=>exact .any u
 |nils=>exact .nils
 |d h=>exact .d (by rwa [hz])
 |pel blk off cs U hZ hc hr=>exact .pel blk off cs U (by rwa [hz]) hc (by rwa [hz])
 |nilp=>exact .nilp
 |nilf=>exact .nilf
 |ifn0=>exact .ifn0
 |ifn1 t p=>exact .ifn1 t p
 |ifc t us cs hl h=>exact .ifc t us cs hl (by rwa [hz])
 |ifo0 t cs=>exact .ifo0 t cs
 |ifo1 t us cs hl h=>exact .ifo1 t us cs hl (by rwa [hz])
 |own b hb=>simp[V.j0o,V.j0e,V.j0i]at hp
 |ptr b off hb=>simp[V.j0o,V.j0e,V.j0i]at hp
 |mv f b off hb=>simp[V.j0o,V.j0e,V.j0i]at hp
 |ifp f b off hb=>simp[V.j0o,V.j0e,V.j0i]at hp
 |pml b sz i off hb=>simp[V.j0o,V.j0e,V.j0i]at hp
 |map b hb=>simp[V.j0o,V.j0e,V.j0i]at hp
 |yld b R hb hc=>simp[V.j0o,V.j0e,V.j0i]at hp
 |osl b sz lo n u hb hu=>simp[V.j0o,V.j0e,V.j0i]at hp
def y8t {Z:Nat->Nat->Prop}{w:World}(hz: ∀b o,Z b o->b < w.heap.size)(ht:z3h Z w):SimH (g0 Z) [] w:=
 ⟨rfl,by simp,by simp,by rintro k o ⟨b,x,hx,_⟩;simp at hx,hz,ht⟩
def y8o.hcall {f:FuncId}{args:List V}{r:V}(hp:y8o P f args r)(ha:args.all V.j0e=true)(hr:r.j0o=true)(h:List Box):y1b P [] f args h r h:=by
 intro g w us hs hu;refine(hp (g0 g.Z) w us (y8t hs.zlt hs.tab) ⟨hu.1,fun i u v h1 h2=>x9l (g:=g) (g':=g0 g.Z) rfl (a0l.1 ha v (a0j h2)) (hu.2 i u v h1 h2)⟩).mono ?_
 rintro e w' ⟨u,g',rfl,hru,hk⟩
 have hfr:Fr (fun _=>False) w w':=hk.fr.mono fun k hk=>by obtain⟨b,x,hx,_⟩:=hk;simp at hx
 let g2:Gh:= { g with Z:=g'.Z }
 have hle:g.Le (· ∈([]:List Nat)) g2:=⟨hk.le.Z,a0q _,fun _ _ _=>rfl,fun _ _ _=>rfl,fun _ _=>rfl⟩
 have ho:Over [] w g w' g2:=⟨hle,fun b o hz=>hfr.cell (hs.zlt b o hz) (fun h=>h)⟩
 have hzn: ∀b o,g'.Z b o->g.Z b o\/w.heap.size<=b:=fun b o hz=>by
  rcases hk.znew b o hz with h1|h1|h1
  ·exact .inl h1
  ·exact .inr h1
  ·obtain⟨c,x,hx,_⟩:=h1;simp at hx
 have hat: ∀(b:Nat) (x:Box),x.at? g2 b=x.at? g b:=fun b x=>by cases x<;>rfl
 have hown: ∀k,x2r g2 h k↔x2r g h k:=fun k=>⟨fun ⟨b,x,h1,h2⟩=>⟨b,x,h1,by rwa [hat]at h2⟩,fun ⟨b,x,h1,h2⟩=>⟨b,x,h1,by rwa [hat]⟩⟩
 refine⟨u,g2,rfl,z9t (g:=g') (g':=g2) rfl hr hru,⟨⟨hs.n,?_,?_,?_,hk.heap.zlt,hk.heap.tab⟩,hle,hfr.mono (fun _ h=>h.elim),fun b o hz=> ?_,fun k hk=> .inl ((hown k).1 hk)⟩⟩
 ·intro b x hx;have:=x1r.over ho (by rw[hs.n];exact(a0c.1 hx).1) (by simp) (fun k hk=>hfr.block k ((hs.rep b x hx).lt hk) (fun h=>h)) (hs.rep b x hx)
  rwa [Box.j0c]at this
 ·intro b c x y k h1 h2 h3 h4;rw[hat]at h3 h4;exact hs.sep b c x y k h1 h2 h3 h4
 ·intro k o hk hz;rw[hown]at hk;rcases hzn k o hz with h1|h1
  ·exact hs.zsep k o hk h1
  ·have:=hs.j0r hk;omega
 ·rcases hzn b o hz with h1|h1
  ·exact .inl h1
  ·exact .inr (.inl h1)
def v4a (P:Program)(f:FuncId)(args:List V)(e:TypeId)(sz:Nat)(rows:LL):Prop:=y1b P [] f args [] (.own 0) [.arr e sz rows]
def v4a.hcall {f:FuncId}{args:List V}{e:TypeId}{sz:Nat}{rows:LL}(hp:v4a P f args e sz rows)(ha:args.all V.j0e=true)(h:List Box):y1b P [] f args h (.own h.length) (h++[.arr e sz rows]):=by
 intro g w us hs hu;refine(hp (g0 g.Z) w us (y8t hs.zlt hs.tab) ⟨hu.1,fun i u v h1 h2=>x9l (g:=g) (g':=g0 g.Z) rfl (a0l.1 ha v (a0j h2)) (hu.2 i u v h1 h2)⟩).mono ?_
 rintro _ w' ⟨u,g',rfl,hru,hk⟩
 have hfr:Fr (fun _=>False) w w':=hk.fr.mono fun k hk=>by obtain⟨b,x,hx,_⟩:=hk;simp at hx
 let g3:Gh:= { Z:=g'.Z,n:=g.n+1,blk:=fun b=>if b=g.n then g'.blk 0 else g.blk b,val:=fun b=>if b=g.n then g'.val 0 else g.val b,cd:=fun b=>if b=g.n then none else g.cd b }
 have hb3: ∀b,b < g.n->g3.blk b=g.blk b/\g3.val b=g.val b:=fun b hb=>by simp[g3,Nat.ne_of_lt hb]
 have hn3:g3.blk g.n=g'.blk 0/\g3.val g.n=g'.val 0:=by simp[g3]
 have hle:g.Le (· ∈([]:List Nat)) g3:=⟨hk.le.Z,Nat.le_succ _,fun b hb _=>(hb3 b hb).1,fun b hb _=>(hb3 b hb).2,fun b hb=>by simp[g3,Nat.ne_of_lt hb]⟩
 have ho:Over [] w g w' g3:=⟨hle,fun b o hz=>hfr.cell (hs.zlt b o hz) (fun h=>h)⟩
 have hzn: ∀b o,g'.Z b o->g.Z b o\/w.heap.size<=b:=fun b o hz=>by
  rcases hk.znew b o hz with h1|h1|h1
  ·exact .inl h1
  ·exact .inr h1
  ·obtain⟨c,x,hx,_⟩:=h1;simp at hx
 have hat: ∀(b:Nat) (x:Box),b < g.n->x.at? g3 b=x.at? g b:=fun b x hb=>Box.at?_congr (hb3 b hb).1 (hb3 b hb).2 x
 have hat0:(Box.arr e sz rows).at? g3 g.n=(Box.arr e sz rows).at? g' 0:=by simp only[Box.at?,hn3.2]
 have hnew: ∀k,(Box.arr e sz rows).at? g3 g.n=some k->w.heap.size<=k/\x2r g' [.arr e sz rows] k:=fun k hk'=>by
  rw[hat0]at hk';have hO:x2r g' [.arr e sz rows] k:=⟨0,_,rfl,hk'⟩;rcases hk.own k hO with h1|h1
  ·obtain⟨c,x,hx,_⟩:=h1;simp at hx
  ·exact⟨h1,hO⟩
 have hget: ∀(b:Nat) y,(h++[Box.arr e sz rows])[b]? =some y->(b < g.n/\h[b]? =some y)\/(b=g.n/\y= .arr e sz rows):=by
  intro b y hy;rw[a0y]at hy;split at hy
  ·rename_i hb;exact .inl ⟨by rw[hs.n];exact hb,hy⟩
  ·rename_i hb;have h0:b - h.length=0:=by
    rcases Nat.eq_zero_or_pos (b - h.length)with h0|h0
    ·exact h0
    ·rw[a2c (by simp;omega)]at hy;cases hy
   rw[h0]at hy;simp at hy;exact .inr ⟨by rw[hs.n];omega,hy.symm⟩
 have hown: ∀k,x2r g3 (h++[.arr e sz rows]) k->x2r g h k\/(w.heap.size<=k/\x2r g' [.arr e sz rows] k):=by
  rintro k ⟨b,y,hy,hk'⟩
  rcases hget b y hy with⟨hb,hy⟩|⟨rfl,rfl⟩
  ·rw[hat b y hb]at hk';exact .inl ⟨b,y,hy,hk'⟩
  ·exact .inr (hnew k hk')
 refine⟨u,g3,rfl,?_,⟨⟨by simp[g3,hs.n],?_,?_,?_,hk.heap.zlt,hk.heap.tab⟩,hle,hfr.mono (fun _ h=>h.elim),fun b o hz=> ?_,fun k hk=> ?_⟩⟩
 ·obtain⟨e1,_⟩:=x4w hru;have:=Rep.own (w:=w') (g:=g3) g.n (by simp[g3])
  rw[hn3.2,<-e1,hs.n]at this;exact this
 ·intro b x hx;rcases hget b x hx with⟨hb,hx⟩|⟨rfl,rfl⟩
  ·have:=x1r.over ho hb (by simp) (fun k hk=>hfr.block k ((hs.rep b x hx).lt hk) (fun h=>h)) (hs.rep b x hx)
   rwa [Box.j0c]at this
  ·have:=hk.heap.rep 0 _ rfl;simp only[x1r,hn3.1,hn3.2]at this ⊢;exact this
 ·intro b c x y k h1 h2 h3 h4;rcases hget b x h1 with⟨hb,h1'⟩|⟨hb,hx⟩<;>rcases hget c y h2 with⟨hc,h2'⟩|⟨hc,hy⟩
  ·rw[hat b x hb]at h3;rw[hat c y hc]at h4;exact hs.sep b c x y k h1' h2' h3 h4
  ·rw[hat b x hb]at h3;have:=(hs.rep b x h1').lt h3;subst hc;subst hy;have:=(hnew k h4).1;omega
  ·rw[hat c y hc]at h4;have:=(hs.rep c y h2').lt h4;subst hb;subst hx;have:=(hnew k h3).1;omega
  ·rw[hb,hc]
 ·intro k o hk' hz;rcases hown k hk' with h1|⟨h1,h2⟩
  ·rcases hzn k o hz with h3|h3
   ·exact hs.zsep k o h1 h3
   ·have:=hs.j0r h1;omega
  ·exact hk.heap.zsep k o h2 hz
 ·rcases hzn b o hz with h1|h1
  ·exact .inl h1
  ·exact .inr (.inl h1)
 ·rcases hown k hk with h1|⟨h1,_⟩
  ·exact .inl h1
  ·exact .inr h1
def x4o (P:Program)(f:FuncId):Bool:=match P.funcs[f]? with
 |some fn=> !(fn.name == "runtime.NumGoroutine")&&fn.body.isSome
 |none=>false
def z3o (P:Program)(f:FuncId):Option (List TypeId):=match x4o P f,P.funcs[f]? with
 |true,some fn=>some fn.resultTypes.toList
 |_,_=>none
def x3w {f:FuncId}{ts:List TypeId}(h:z3o P f=some ts):x4o P f=true:=by
 unfold z3o at h;split at h
 ·assumption
 ·cases h
def x8h {f:FuncId}(hf:x4o P f=true)(args:Array Value)(w:World):(callFunc f args).run P w= .ok (.enter f args) w:=by
 unfold x4o at hf;split at hf
 ·rename_i fn hfn;simp only[a0g,Bool.not_eq_true']at hf;obtain⟨h1,h2⟩:=hf;have h3:fn.body.isNone=false:=by cases hb:fn.body<;>simp_all
  unfold callFunc;simp only[Sem.run_bind,run_program,Result.andThen_ok,hfn,h1,h3,Bool.false_eq_true,if_false,Sem.run_pure]
 ·cases hf
def z8n (v:V)(args:List V):Option (FuncId × List V):=match v with
 | .fn f caps=>some (f,args++caps)
 | .mv f b off=>some (f, .ptr b off::args)
 |_=>none
def z8m {g:Gh}{a:Act}{w:World}{y:Operand}{f:FuncId}{vs:List V}{args:Array Operand}{ts:Array TypeId}(hop:o.op= .call { callee:= .value y,args:=args,argTypes:=ts })(hf:x4o P f=true)
  (hy: ∀y,Rep w g (a.eval y) (ρ y)) (hb:z8n (ρ y) (args.toList.map ρ)=some (f,vs)): ∃us:List Value,z5x w g us vs/\(execOp a.eval o).run P w= .ok (.enter f us.toArray) w:=by
 have hr:=hy y;have hargs:z5x w g (args.toList.map a.eval) (args.toList.map ρ):=⟨by simp,fun i u v h1 h2=>by
  rw[a0o,a0n]at h1 h2;obtain⟨q,hq,rfl⟩:=h1;obtain⟨q',hq',rfl⟩:=h2;rw[hq]at hq';cases hq';exact hy q⟩
 generalize hu0:a.eval y=u0 at hr;generalize ρ y=v0 at hr hb;cases hr with
 |fn f0 us cs hl hcap=>
  cases hb;refine⟨args.toList.map a.eval++us.toList,⟨by simp[hl],fun i u v h1 h2=> ?_⟩,?_⟩
  ·rw[a0y]at h1 h2;simp only[a1f]at h1 h2;split at h1
   ·rename_i hi;rw[if_pos hi]at h2;exact hargs.2 i u v h1 h2
   ·rename_i hi;rw[if_neg hi]at h2;exact hcap _ u v (by rwa [a1a]at h1) h2
  ·have:(args.toList.map a.eval++us.toList).toArray=(#[]++args.map a.eval)++us:=by
    apply Array.ext';simp
   rw[this];simp[execOp,hop,resolve,hu0,Deferred.ofValue,invoke,x8h hf]
 |mv f0 b off hb0=>
  cases hb;refine⟨.pointer (some ⟨g.blk b,off,none⟩)::args.toList.map a.eval,⟨by simp,fun i u v h1 h2=> ?_⟩,?_⟩
  ·cases i with
   |zero=>simp at h1 h2;subst h1;subst h2;exact .ptr b off hb0
   |succ i=>exact hargs.2 i u v (by simpa using h1) (by simpa using h2)
  ·have:(Value.pointer (some ⟨g.blk b,off,none⟩)::args.toList.map a.eval).toArray=(#[.pointer (some ⟨g.blk b,off,none⟩)]++args.map a.eval)++ #[]:=by
    apply Array.ext';simp
   rw[this];simp[execOp,hop,resolve,hu0,Deferred.ofValue,invoke,x8h hf]
 |_=>cases hb
def x6d {y:Operand}{f:FuncId}{vs:List V}{args:Array Operand}{ts:Array TypeId}{r:V}(hop:o.op= .call { callee:= .value y,args:=args,argTypes:=ts })(hb:z8n (ρ y) (args.toList.map ρ)=some (f,vs))(hf:x4o P f=true)
  (hc:y1b P M f vs h r h'):x0p P M h h' ρ o r:=by
 intro g a w hs hy K Q hK;obtain⟨us,hargs,hrun⟩:=z8m hop hf hy hb;unfold Oper.wp;rw[hrun,Oper.upon_enter];refine(hc g w _ hs hargs).mono ?_
 rintro e w' ⟨u,g',rfl,hr,hk⟩
 exact hK u w' g' hr hk
structure Ent where
 w:World
 g:Gh
 h:List Box
 M:List Nat
 len:Nat
 ds:List Deferred
 nr:Bool
def y8p (ds:List Deferred)(nr:Bool)(n0:Nat)(a:Act)(g:Gh)(h:List Box)(w:World):Prop:= ∃Ds:List Nat,(a.defers=Ds.map (fun D=> { target:= .collected D,args:= #[] })++ds/\(nr=true->Ds= []))/\Ds.Nodup/\
 ∀D∈Ds,n0<=D/\w.heap[D]? =some (.deferred (some []))/\ ¬x2r g h D/\ ∀o,¬g.Z D o
def y8p.keep {ds:List Deferred}{nr:Bool}{n0:Nat}{a:Act}{M:List Nat}{g g':Gh}{h h':List Box}{w w':World}(hd:y8p ds nr n0 a g h w)(hk:Keep M g h w g' h' w'):y8p ds nr n0 a g' h' w':=by
 obtain⟨Ds,h1,h2,h3⟩:=hd;refine⟨Ds,h1,h2,fun D hD=> ?_⟩
 obtain⟨k1,k2,k3,k4⟩:=h3 D hD;have hlt:D < w.heap.size:=(a0r.1 k2).1;refine⟨k1,(hk.fr.block D hlt k3).trans k2,fun ho=> ?_,fun o hz=> ?_⟩
 ·rcases hk.own D ho with q|q
  ·exact k3 q
  ·omega
 ·rcases hk.znew D o hz with q|q|q
  ·exact k4 o q
  ·omega
  ·exact k3 q
def y8p.put {ds:List Deferred}{nr:Bool}{n0:Nat}{a:Act}{g:Gh}{h:List Box}{w:World}(hd:y8p ds nr n0 a g h w)(d:Option Tmp)(u:Value):y8p ds nr n0 (a.put d u) g h w:=by cases d<;>exact hd
def y8p.less {ds:List Deferred}{nr:Bool}{n0:Nat}{a:Act}{g g':Gh}{h h':List Box}{w:World}(hd:y8p ds nr n0 a g h w)(ho: ∀k,x2r g' h' k->x2r g h k)(hz:g'.Z=g.Z):y8p ds nr n0 a g' h' w:=by
 obtain⟨Ds,h1,h2,h3⟩:=hd;refine⟨Ds,h1,h2,fun D hD=> ?_⟩
 obtain⟨k1,k2,k3,k4⟩:=h3 D hD;exact⟨k1,k2,fun q=>k3 (ho D q),by rw[hz];exact k4⟩
def y8p.none {nr:Bool}{n0:Nat}{t:Array Value}{g:Gh}{h:List Box}{w:World}:y8p [] nr n0 ⟨t,[]⟩ g h w:=⟨[],⟨rfl,fun _=>rfl⟩,List.nodup_nil,by simp⟩
structure Sim (E:Ent) (s:VSt) (a:Act) (w:World) (g:Gh):Prop where
 heap:SimH g s.h w
 size:a.tmps.size=s.t.length
 tmps: ∀(i:Nat) u v,a.tmps[i]? =some u->s.t[i]? =some v->Rep w g u v
 defers:y8p E.ds E.nr E.w.heap.size a g s.h w
 keep:E.g.Le (· ∈E.M) g/\Fr (x2r E.g E.h) E.w w/\(∀b o,g.Z b o->E.g.Z b o\/E.w.heap.size<=b\/x2r E.g E.h b)/\(∀k,x2r g s.h k->x2r E.g E.h k\/E.w.heap.size<=k)
 len:s.t.length=E.len
def x1t (E:Ent)(s:VSt)(a:Act)(w:World):Prop:= ∃g,Sim E s a w g
def okM (n:Nat)(ME M:List Nat):Bool:=M.all fun b=>ME.contains b || decide (n<=b)
def Sim.step {E:Ent}{s:VSt}{a:Act}{w w':World}{g g':Gh}(hs:Sim E s a w g)(hk:Keep M g s.h w g' h' w')(hM:okM E.g.n E.M M=true):
  E.g.Le (· ∈E.M) g'/\Fr (x2r E.g E.h) E.w w'/\(∀b o,g'.Z b o->E.g.Z b o\/E.w.heap.size<=b\/x2r E.g E.h b)/\(∀k,x2r g' h' k->x2r E.g E.h k\/E.w.heap.size<=k):=by
 obtain⟨k1,k2,k3,k4⟩:=hs.keep;have hM': ∀b,b < E.g.n->b∈M->b∈E.M:=fun b hb hm=>by
  have:=a0l.1 hM b hm;simp at this;rcases this with h1|h1
  ·exact h1
  ·omega
 refine⟨⟨fun b o hz=>hk.le.Z b o (k1.Z b o hz),a1b k1.n hk.le.n,fun b hb hm=> ?_,fun b hb hm=> ?_,fun b hb=> ?_⟩,k2.trans' hk.fr k4,fun b o hz=> ?_,fun k hk'=> ?_⟩
 ·exact(hk.le.blk b (a1c hb k1.n) (fun h=>hm (hM' b hb h))).trans (k1.blk b hb hm)
 ·exact(hk.le.val b (a1c hb k1.n) (fun h=>hm (hM' b hb h))).trans (k1.val b hb hm)
 ·exact(hk.le.cd b (a1c hb k1.n)).trans (k1.cd b hb)
 ·rcases hk.znew b o hz with h1|h1|h1
  ·exact k3 b o h1
  ·exact .inr (.inl (a1b k2.size h1))
  ·rcases k4 b h1 with h2|h2
   ·exact .inr (.inr h2)
   ·exact .inr (.inl h2)
 ·rcases hk.own k hk' with h1|h1
  ·exact k4 k h1
  ·exact .inr (a1b k2.size h1)
def VSt.next (s:VSt)(M:List Nat)(h':List Box)(dst:Option Tmp)(x:V):VSt:=
 let t:=match M with
  | []=>s.t
  |_=>s.t.map (V.kill M)
 { t:=match dst with|some d=>t.set d x|none=>t,h:=h' }
def v7w (s:VSt)(M:List Nat)(h':List Box)(dst:Option Tmp)(x:V):
  (s.next M h' dst x).t=match dst with|some d=>(s.t.map (V.kill M)).set d x|none=>s.t.map (V.kill M):=by
 have:(match M with| []=>s.t|_=>s.t.map (V.kill M))=s.t.map (V.kill M):=by
  cases M with
  |nil=>rw[show V.kill []=id from funext V.j0c];simp
  |cons=>rfl
 unfold VSt.next;simp only[this]
def Sim.next {E:Ent}{s:VSt}{a:Act}{w w':World}{g g':Gh}(hs:Sim E s a w g)(hk:Keep M g s.h w g' h' w')(hM:okM E.g.n E.M M=true){u:Value}(hu:Rep w' g' u x)(dst:Option Tmp):
  Sim E (s.next M h' dst x) (a.put dst u) w' g':=by
 have ho:=hk.over hs.heap;have hput:(a.put dst u).tmps=match dst with|some d=>a.tmps.setIfInBounds d u|none=>a.tmps:=by cases dst<;>rfl
 refine⟨hk.heap,?_,?_,(hs.defers.keep hk).put dst u,hs.step hk hM,by rw[v7w,<-hs.len];cases dst<;>simp⟩
 ·rw[v7w,hput];cases dst<;>simp[hs.size]
 ·intro i u' v' h1 h2;rw[v7w]at h2;rw[hput]at h1;have old: ∀ {u' v'},a.tmps[i]? =some u'->(s.t.map (V.kill M))[i]? =some v'->Rep w' g' u' v':=by
   intro u' v' h1 h2;rw[a0o,a0n]at h2;obtain⟨v0,h0,rfl⟩:=h2;exact ho.kill (hs.tmps i u' v0 h1 h0)
  cases dst with
  |none=>exact old h1 h2
  |some d=>
   simp only at h1 h2;rw[Array.getElem?_setIfInBounds]at h1;rw[a1k]at h2
   by_cases hd:d=i
   ·subst hd;rw[if_pos rfl]at h1 h2;split at h1
    ·split at h2
     ·cases h1;cases h2;exact hu
     ·cases h2
    ·cases h1
   ·rw[if_neg hd]at h1 h2;exact old h1 h2
def Sim.get {E:Ent}{s:VSt}{a:Act}{w:World}{g:Gh}(hs:Sim E s a w g)(y:Operand):Rep w g (a.eval y) (s.get y):=by
 cases y with
 |tmp t=>
  simp only[Act.eval,VSt.get]
  by_cases ht:t < s.t.length
  ·have h1:t < a.tmps.size:=by rw[hs.size];exact ht
   exact hs.tmps t (a.tmps.getD t undef) (s.t.getD t .any) (by simp[h1]) (by simp[ht])
  ·have:s.t.getD t .any= .any:=by simp[a2c (Nat.le_of_not_lt ht)]
   rw[this];exact .any _
 |const v=>exact y0o w g v
 |func f=>exact .fn f #[] [] rfl (by simp)
 |global k=>exact .any _
def x0p.sim {E:Ent}{s:VSt}{a:Act}{w:World}(hg:x0p P M s.h h' s.get o x)(hs:x1t E s a w)(hM:okM E.g.n E.M M=true){K:Act->World->Prop}{Q:Exit->Act->World->Prop}
  (hK: ∀a' w',x1t E (s.next M h' o.dst x) a' w'->K a' w'):o.wp P a w K Q:=by
 obtain⟨g,hs⟩:=hs;exact hg g a w hs.heap hs.get K Q fun u w' g' hu hk=>hK _ _ ⟨g',hs.next hk hM hu o.dst⟩
def x1t.frz {E:Ent}{s:VSt}{a:Act}{w:World}{b:Nat}{e:TypeId}{sz:Nat}{rows:LL}(hs:x1t E s a w)(hb:s.h[b]? =some (.arr e sz rows)):
  x1t E { t:=s.t.map (V.frz b (.sl sz rows)),h:=(s.h.map (Box.frz b (.sl sz rows))).set b .gone } a w:=by
 obtain⟨g,hs⟩:=hs;obtain⟨g',hk,hr⟩:=z2e hs.heap hb;refine⟨g',hk.heap,by simpa using hs.size,fun i u v h1 h2=> ?_,hs.defers.keep hk,hs.step hk (by simp[okM]),by simpa using hs.len⟩
 rw[a0o,a0n]at h2;obtain⟨v0,h0,rfl⟩:=h2;exact hr _ _ (hs.tmps i u v0 h1 h0)
def x1t.frp {E:Ent}{s:VSt}{a:Act}{w:World}{b:Nat}{t:TypeId}{vs:List V}{cs:List D}(hs:x1t E s a w)(hb:s.h[b]? =some (.cells (.ty t) vs))(hc:y8n vs=some cs):
  x1t E { t:=s.t.map (V.frp b cs),h:=(s.h.map (Box.frp b cs)).set b .gone } a w:=by
 obtain⟨g,hs⟩:=hs;rw[x6k hc]at hb;obtain⟨g',hk,hr⟩:=u1v hs.heap hb;refine⟨g',hk.heap,by simpa using hs.size,fun i u v h1 h2=> ?_,hs.defers.keep hk,hs.step hk (by simp[okM]),by simpa using hs.len⟩
 rw[a0o,a0n]at h2;obtain⟨v0,h0,rfl⟩:=h2;exact hr _ _ (hs.tmps i u v0 h1 h0)
def VSt.frz (s:VSt):List Nat->VSt
 | []=>s
 |b::bs=>match s.h[b]? with
  |some (.arr _ sz rows)=>VSt.frz { t:=s.t.map (V.frz b (.sl sz rows)),h:=(s.h.map (Box.frz b (.sl sz rows))).set b .gone } bs
  |some (.cells (.ty _) vs)=>match y8n vs with
   |some cs=>VSt.frz { t:=s.t.map (V.frp b cs),h:=(s.h.map (Box.frp b cs)).set b .gone } bs
   |none=>VSt.frz s bs
  |_=>VSt.frz s bs
def x1t.frzs {E:Ent}{a:Act}{w:World}: ∀ {bs:List Nat} {s:VSt},x1t E s a w->x1t E (s.frz bs) a w
 | [],_,h=>h
 |b::bs,s,h=>by
  unfold VSt.frz;split
  ·rename_i e sz rows hb;exact x1t.frzs (h.frz hb)
  ·rename_i t vs hb;split
   ·rename_i cs hc;exact x1t.frzs (h.frp hb hc)
   ·exact x1t.frzs h
  ·exact x1t.frzs h
def x1t.j1p {E:Ent}{s:VSt}{a:Act}{w:World}(hs:x1t E s a w){t:Tmp}{v:V}(hv: ∀u g,a.tmps[t]? =some u->Rep w g u v):x1t E { s with t:=s.t.set t v } a w:=by
 obtain⟨g,hs⟩:=hs;refine⟨g,hs.heap,by simpa using hs.size,fun i u v' h1 h2=> ?_,hs.defers,hs.keep,by simpa using hs.len⟩
 simp only at h2;rw[a1k]at h2
 by_cases hd:t=i
 ·subst hd;rw[if_pos rfl]at h2;split at h2
  ·cases h2;exact hv u g h1
  ·cases h2
 ·rw[if_neg hd]at h2;exact hs.tmps i u v' h1 h2
end
section
variable {P : Program} {M : List Nat} {h h' : List Box} {ρ : Operand -> V} {o : Oper} {x : V}
mutual
def V.ren (σ:Nat->Nat):V->V
 | .own b=> .own (σ b)
 | .ptr b o=> .ptr (σ b) o
 | .mv f b o=> .mv f (σ b) o
 | .ifp f b o=> .ifp f (σ b) o
 | .pml b s i o=> .pml (σ b) s i o
 | .map b=> .map (σ b)
 | .yld b R=> .yld (σ b) R
 | .osl b s l n=> .osl (σ b) s l n
 | .agg cs=> .agg (V.j1b σ cs)
 | .tup cs=> .tup (V.j1b σ cs)
 | .fn f cs=> .fn f (V.j1b σ cs)
 | .any=> .any
 | .nils=> .nils
 | .d x=> .d x
 | .pel cs=> .pel cs
 | .nilp=> .nilp
 | .nilf=> .nilf
 | .ifn b=> .ifn b
 | .ifc t cs=> .ifc t cs
 | .ifo t b cs=> .ifo t b cs
def V.j1b (σ:Nat->Nat):List V->List V
 | []=>[]
 |c::cs=>c.ren σ::V.j1b σ cs
end
mutual
def V.scB (n:Nat):V->Bool
 | .own b=>decide (b < n)
 | .ptr b _=>decide (b < n)
 | .mv _ b _=>decide (b < n)
 | .ifp _ b _=>decide (b < n)
 | .pml b _ _ _=>decide (b < n)
 | .map b=>decide (b < n)
 | .yld b _=>decide (b < n)
 | .osl b _ _ _=>decide (b < n)
 | .agg cs=>V.scL n cs
 | .tup cs=>V.scL n cs
 | .fn _ cs=>V.scL n cs
 |_=>true
def V.scL (n:Nat):List V->Bool
 | []=>true
 |c::cs=>c.scB n&&V.scL n cs
end
def Box.ren (σ:Nat->Nat):Box->Box
 | .cells t vs=> .cells t (V.j1b σ vs)
 |x=>x
def Box.scB (n:Nat):Box->Bool
 | .cells _ vs=>V.scL n vs
 |_=>true
def x4l (σ:Nat->Nat): ∀cs:List V,V.j1b σ cs=cs.map (V.ren σ)
 | []=>rfl
 |c::cs=>by unfold V.j1b;rw[x4l σ cs];rfl
def z0g (n:Nat): ∀cs:List V,V.scL n cs=cs.all (V.scB n)
 | []=>rfl
 |c::cs=>by unfold V.scL;rw[z0g n cs];rfl
def u4n {w:World}{g g':Gh}{σ:Nat->Nat}(hz: ∀b o,g.Z b o->g'.Z b o)(hσ: ∀b,b < g.n->g'.blk (σ b)=g.blk b/\g'.val (σ b)=g.val b/\σ b < g'.n/\g'.cd (σ b)=g.cd b){u:Value}{v:V}(hr:Rep w g u v):Rep w g' u (v.ren σ):=by
 have aux: ∀(us:Array Value) (cs:List V),(∀(i:Nat) u c,us[i]? =some u->cs[i]? =some c->Rep w g' u (c.ren σ))->
     ∀(i:Nat) u c,us[i]? =some u->(V.j1b σ cs)[i]? =some c->Rep w g' u c:=by
  intro us cs h i u c hu hc;rw[x4l,a0o,a0n]at hc;obtain⟨c',hc',rfl⟩:=hc;exact h i u c' hu hc'
 induction hr with
 |any u=>exact .any u
 |nils=>exact .nils
 |d h=>exact .d (h.mono hz (fun _ _ _=>rfl))
 |agg us cs hl h ih=>exact .agg us _ (by rw[x4l,a1f];exact hl) (aux us cs ih)
 |tup us cs hl h ih=>exact .tup us _ (by rw[x4l,a1f];exact hl) (aux us cs ih)
 |fn f us cs hl h ih=>exact .fn f us _ (by rw[x4l,a1f];exact hl) (aux us cs ih)
 |own b hb=>rw[<-(hσ b hb).2.1];exact .own (σ b) (hσ b hb).2.2.1
 |map b hb=>rw[<-(hσ b hb).2.1];exact .map (σ b) (hσ b hb).2.2.1
 |ptr b off hb=>rw[<-(hσ b hb).1];exact .ptr (σ b) off (hσ b hb).2.2.1
 |mv f b off hb=>rw[<-(hσ b hb).1];exact .mv f (σ b) off (hσ b hb).2.2.1
 |ifp f b off hb=>rw[<-(hσ b hb).1];exact .ifp f (σ b) off (hσ b hb).2.2.1
 |pml b sz i off hb=>rw[<-(hσ b hb).1];exact .pml (σ b) sz i off (hσ b hb).2.2.1
 |yld b R hb hc=>rw[<-(hσ b hb).1];exact .yld (σ b) R (hσ b hb).2.2.1 (v6z (hσ b hb).2.2.2 hc)
 |osl b s l n u hb hu=>exact .osl (σ b) s l n u (hσ b hb).2.2.1 (by rw[(hσ b hb).1];exact hu)
 |pel blk off cs U hZ hc hr=>exact .pel blk off cs U (fun j c h=>hz _ _ (hZ j c h)) hc (fun j c h=>(hr j c h).mono hz (fun _ _ _=>rfl))
 |nilp=>exact .nilp
 |nilf=>exact .nilf
 |ifn0=>exact .ifn0
 |ifn1 t p=>exact .ifn1 t p
 |ifc t us cs hl h=>exact .ifc t us cs hl fun i u c h1 h2=>(h i u c h1 h2).mono hz (fun _ _ _=>rfl)
 |ifo0 t cs=>exact .ifo0 t cs
 |ifo1 t us cs hl h=>exact .ifo1 t us cs hl fun i u c h1 h2=>(h i u c h1 h2).mono hz (fun _ _ _=>rfl)
def z6n {w:World}{g g0:Gh}{σ:Nat->Nat}(hz:g0.Z=g.Z)(hσ: ∀b,b < g0.n->g0.blk b=g.blk (σ b)/\g0.val b=g.val (σ b)/\g0.cd b=g.cd (σ b)){u:Value}{v':V}(hr:Rep w g u v'):
  ∀ {v:V},v'=v.ren σ->v.scB g0.n=true->Rep w g0 u v:=by
 have aux: ∀(us:Array Value) (cs' cs:List V),(∀(i:Nat) u c,us[i]? =some u->cs'[i]? =some c-> ∀ {v:V},c=v.ren σ->v.scB g0.n=true->Rep w g0 u v)->cs'=V.j1b σ cs->V.scL g0.n cs=true->
     ∀(i:Nat) u c,us[i]? =some u->cs[i]? =some c->Rep w g0 u c:=by
  intro us cs' cs h he hs i u c hu hc;rw[z0g]at hs;refine h i u (c.ren σ) hu ?_ rfl (a0l.1 hs c (a0j hc));rw[he,x4l,a0o,hc];rfl
 induction hr with
 |any u=>intro v he hs;cases v<;>simp[V.ren]at he;exact .any u
 |nils=>intro v he hs;cases v<;>simp[V.ren]at he;exact .nils
 |d h=>intro v he hs;cases v<;>simp[V.ren]at he;subst he;exact .d (by rwa [hz])
 |agg us cs hl h ih=>
  intro v he hs;cases v<;>simp[V.ren]at he
  rename_i cs0;exact .agg us cs0 (by rw[hl,he,x4l,a1f]) (aux us cs cs0 ih he (by simpa[V.scB]using hs))
 |tup us cs hl h ih=>
  intro v he hs;cases v<;>simp[V.ren]at he
  rename_i cs0;exact .tup us cs0 (by rw[hl,he,x4l,a1f]) (aux us cs cs0 ih he (by simpa[V.scB]using hs))
 |fn f us cs hl h ih=>
  intro v he hs;cases v<;>simp[V.ren]at he
  rename_i f0 cs0;obtain⟨rfl,he⟩:=he;exact .fn f us cs0 (by rw[hl,he,x4l,a1f]) (aux us cs cs0 ih he (by simpa[V.scB]using hs))
 |own b hb=>
  intro v he hs;cases v<;>simp[V.ren]at he
  rename_i b0;have hb0:b0 < g0.n:=by simpa[V.scB]using hs
  subst he;rw[<-(hσ b0 hb0).2.1];exact .own b0 hb0
 |map b hb=>
  intro v he hs;cases v<;>simp[V.ren]at he
  rename_i b0;have hb0:b0 < g0.n:=by simpa[V.scB]using hs
  subst he;rw[<-(hσ b0 hb0).2.1];exact .map b0 hb0
 |ptr b off hb=>
  intro v he hs;cases v<;>simp[V.ren]at he
  rename_i b0 off0;have hb0:b0 < g0.n:=by simpa[V.scB]using hs
  obtain⟨rfl,rfl⟩:=he;rw[<-(hσ b0 hb0).1];exact .ptr b0 _ hb0
 |mv f b off hb=>
  intro v he hs;cases v<;>simp[V.ren]at he
  rename_i f0 b0 off0;have hb0:b0 < g0.n:=by simpa[V.scB]using hs
  obtain⟨rfl,rfl,rfl⟩:=he;rw[<-(hσ b0 hb0).1];exact .mv _ b0 _ hb0
 |ifp f b off hb=>
  intro v he hs;cases v<;>simp[V.ren]at he
  rename_i f0 b0 off0;have hb0:b0 < g0.n:=by simpa[V.scB]using hs
  obtain⟨rfl,rfl,rfl⟩:=he;rw[<-(hσ b0 hb0).1];exact .ifp _ b0 _ hb0
 |pml b sz i off hb=>
  intro v he hs;cases v<;>simp[V.ren]at he
  rename_i b0 sz0 i0 off0;have hb0:b0 < g0.n:=by simpa[V.scB]using hs
  obtain⟨rfl,rfl,rfl,rfl⟩:=he;rw[<-(hσ b0 hb0).1];exact .pml b0 _ _ _ hb0
 |yld b R hb hc=>
  intro v he hs;cases v<;>simp[V.ren]at he
  rename_i b0 R0;have hb0:b0 < g0.n:=by simpa[V.scB]using hs
  obtain⟨rfl,rfl⟩:=he;rw[<-(hσ b0 hb0).1];exact .yld b0 _ hb0 (v6z (hσ b0 hb0).2.2 hc)
 |osl b s l n u hb hu=>
  intro v he hs;cases v<;>simp[V.ren]at he
  rename_i b0 s0 l0 n0;have hb0:b0 < g0.n:=by simpa[V.scB]using hs
  obtain⟨rfl,rfl,rfl,rfl⟩:=he;exact .osl b0 _ _ _ u hb0 (by rw[(hσ b0 hb0).1];exact hu)
 |pel blk off cs U hZ hc hr=>intro v he hs;cases v<;>simp[V.ren]at he;subst he;exact .pel blk off cs U (by rwa [hz]) hc (by rwa [hz])
 |nilp=>intro v he hs;cases v<;>simp[V.ren]at he;exact .nilp
 |nilf=>intro v he hs;cases v<;>simp[V.ren]at he;exact .nilf
 |ifn0=>intro v he hs;cases v<;>simp[V.ren]at he;subst he;exact .ifn0
 |ifn1 t p=>intro v he hs;cases v<;>simp[V.ren]at he;subst he;exact .ifn1 t p
 |ifc t us cs hl h=>intro v he hs;cases v<;>simp[V.ren]at he;obtain⟨rfl,rfl⟩:=he;exact .ifc _ us _ hl (by rwa [hz])
 |ifo0 t cs=>intro v he hs;cases v<;>simp[V.ren]at he;obtain⟨rfl,rfl,rfl⟩:=he;exact .ifo0 _ _
 |ifo1 t us cs hl h=>intro v he hs;cases v<;>simp[V.ren]at he;obtain⟨rfl,rfl,rfl⟩:=he;exact .ifo1 _ us _ hl (by rwa [hz])
def q2o {w:World}{g g':Gh}{σ:Nat->Nat}(hz: ∀b o,g.Z b o->g'.Z b o)(hσ: ∀b,b < g.n->g'.blk (σ b)=g.blk b/\g'.val (σ b)=g.val b/\σ b < g'.n/\g'.cd (σ b)=g.cd b){b:Nat}(hb:b < g.n){x:Box}(hr:x1r w g b x):x1r w g' (σ b) (x.ren σ):=by
 obtain⟨e1,e2,_,e3⟩:=hσ b hb;cases x with
 |gone=>trivial
 |mp kk rows=>
  obtain⟨ens,clock,h1,h2,h3,h4⟩:=hr;refine⟨ens,clock,by rw[e1];exact h1,by rw[e2,e1];exact h2,h3,fun i e r he hr=> ?_⟩
  obtain⟨k,v,p1,p2,p3,p4⟩:=h4 i e r he hr;exact⟨k,v,p1,p2,p3.mono hz (fun _ _ _=>rfl),p4.mono hz (fun _ _ _=>rfl)⟩
 |cells t vs=>
  obtain⟨us,o,h1,h0,h2,h3⟩:=hr;refine⟨us,o,by rw[e1];exact h1,by rw[e3];exact h0,by rw[x4l,a1f];exact h2,fun i u v hu hv=> ?_⟩
  rw[x4l,a0o,a0n]at hv;obtain⟨v',hv',rfl⟩:=hv;exact u4n hz hσ (h3 i u v' hu hv')
 |arr e sz rows=>
  obtain⟨hl,hr⟩:=hr;refine⟨hl,?_⟩;rcases hr with⟨h1,h2⟩|⟨us,cap,h1,h2,h2',h3,h4,h5⟩
  ·exact .inl ⟨e2.trans h1,h2⟩
  ·refine .inr ⟨us,cap,by rw[e1,e2];exact h1,h2,h2',by rw[e1];exact h3,h4,fun i r j c hi hj=> ?_⟩
   obtain⟨u,hu,hd⟩:=h5 i r j c hi hj;exact⟨u,hu,hd.mono hz (fun _ _ _=>rfl)⟩
 |ful sz rows=>
  obtain⟨A,h1,h2⟩:=hr;exact⟨A,e2.trans h1,by rw[e2];exact h2.mono hz (fun _ _ _=>rfl)⟩
def v0p {w:World}{g g0:Gh}{σ:Nat->Nat}(hz:g0.Z=g.Z)(hσ: ∀b,b < g0.n->g0.blk b=g.blk (σ b)/\g0.val b=g.val (σ b)/\g0.cd b=g.cd (σ b)){b:Nat}(hb:b < g0.n){x:Box}(hsc:x.scB g0.n=true)(hr:x1r w g (σ b) (x.ren σ)):x1r w g0 b x:=by
 obtain⟨e1,e2,e3⟩:=hσ b hb;cases x with
 |gone=>trivial
 |mp kk rows=>
  obtain⟨ens,clock,h1,h2,h3,h4⟩:=hr;exact⟨ens,clock,by rw[e1];exact h1,by rw[e2,e1];exact h2,h3,by rw[hz];exact h4⟩
 |cells t vs=>
  obtain⟨us,o,h1,h0,h2,h3⟩:=hr;refine⟨us,o,by rw[e1];exact h1,by rw[e3];exact h0,by rw[x4l,a1f]at h2;exact h2,fun i u v hu hv=> ?_⟩
  refine z6n hz hσ (h3 i u (v.ren σ) hu (by rw[x4l,a0o,hv];rfl)) rfl ?_
  have:vs.all (V.scB g0.n)=true:=by rw[<-z0g];exact hsc
  exact a0l.1 this v (a0j hv)
 |arr e sz rows=>
  obtain⟨hl,hr⟩:=hr;refine⟨hl,?_⟩;rcases hr with⟨h1,h2⟩|⟨us,cap,h1,h2,h2',h3,h4,h5⟩
  ·exact .inl ⟨e2.trans h1,h2⟩
  ·exact .inr ⟨us,cap,by rw[e1,e2];exact h1,h2,h2',by rw[e1];exact h3,h4,by rw[hz];exact h5⟩
 |ful sz rows=>
  obtain⟨A,h1,h2⟩:=hr;exact⟨A,e2.trans h1,by rw[e2,hz];exact h2⟩
def k0u (σ:Nat->Nat){g g':Gh}{b:Nat}(e1:g'.blk (σ b)=g.blk b)(e2:g'.val (σ b)=g.val b)(x:Box):(x.ren σ).at? g' (σ b)=x.at? g b:=by
 cases x<;>simp[Box.ren,Box.at?,e1,e2]
def ext (L:List Nat)(n i:Nat):Nat:=match L[i]? with
 |some b=>b
 |none=>n+(i - L.length)
def x5b {L:List Nat}{b i:Nat}(h:L.idxOf? b=some i):L[i]? =some b:=by
 rw[List.idxOf?,List.findIdx?_eq_some_iff_getElem]at h;obtain⟨hi,h1,_⟩:=h;rw[a0b hi,eq_of_beq h1]
def y6s {L:List Nat}{b:Nat}(h:L.idxOf? b=none):b ∉ L:=by
 rw[List.idxOf?,List.findIdx?_eq_none_iff]at h;intro hb;have:=h b hb;simp at this
def y5i {L:List Nat}(hnd:L.Nodup){b i:Nat}(h:L[i]? =some b):L.idxOf? b=some i:=by
 cases hq:L.idxOf? b with
 |none=>exact absurd (a0j h) (y6s hq)
 |some j=>
  have hj:=x5b hq;obtain⟨hi',e1⟩:=a0c.1 h;obtain⟨hj',e2⟩:=a0c.1 hj;have hpw:=List.pairwise_iff_getElem.1 hnd;rcases Nat.lt_trichotomy i j with hlt|heq|hgt
  ·exact absurd (e1.trans e2.symm) (hpw i j hi' hj' hlt)
  ·rw[heq]
  ·exact absurd (e2.trans e1.symm) (hpw j i hj' hi' hgt)
mutual
def V.refs:V->List Nat
 | .own b=>[b]
 | .ptr b _=>[b]
 | .mv _ b _=>[b]
 | .ifp _ b _=>[b]
 | .pml b _ _ _=>[b]
 | .map b=>[b]
 | .yld b _=>[b]
 | .osl b _ _ _=>[b]
 | .agg cs=>V.j1q cs
 | .tup cs=>V.j1q cs
 | .fn _ cs=>V.j1q cs
 |_=>[]
def V.j1q:List V->List Nat
 | []=>[]
 |c::cs=>c.refs++V.j1q cs
end
mutual
def V.inB (L:List Nat):V->Bool
 | .own b=>L.contains b
 | .ptr b _=>L.contains b
 | .mv _ b _=>L.contains b
 | .ifp _ b _=>L.contains b
 | .pml b _ _ _=>L.contains b
 | .map b=>L.contains b
 | .yld b _=>L.contains b
 | .osl b _ _ _=>L.contains b
 | .agg cs=>V.j1n L cs
 | .tup cs=>V.j1n L cs
 | .fn _ cs=>V.j1n L cs
 |_=>true
def V.j1n (L:List Nat):List V->Bool
 | []=>true
 |c::cs=>c.inB L&&V.j1n L cs
end
def Box.refs:Box->List Nat
 | .cells _ vs=>V.j1q vs
 |_=>[]
def Box.inB (L:List Nat):Box->Bool
 | .cells _ vs=>V.j1n L vs
 |_=>true
def v0v (L:List Nat):List Nat->List Nat
 | []=>L
 |b::bs=>match L.contains b with
  |true=>v0v L bs
  |false=>v0v (L++[b]) bs
def k5t (h:List Box):Nat->List Nat->List Nat
 |0,L=>L
 |n+1,L=>
  let L':=v0v L (L.flatMap fun b=>(h.getD b .gone).refs)
  match decide (L'.length=L.length)with
  |true=>L
  |false=>k5t h n L'
def tau (L:List Nat)(b:Nat):Nat:=match L.idxOf? b with
 |some i=>i
 |none=>0
def u0m:List Nat->Bool
 | []=>true
 |b::bs=> !bs.contains b&&u0m bs
def z0z: ∀ {L:List Nat},u0m L=true->L.Nodup
 | [],_=>List.nodup_nil
 |b::bs,h=>by
  unfold u0m at h;simp only[a0g,Bool.not_eq_true',List.contains_eq_mem,decide_eq_false_iff_not]at h;exact List.nodup_cons.2 ⟨h.1,z0z h.2⟩
def x7f {L:List Nat}{b:Nat}(h:L.contains b=true):L[tau L b]? =some b/\tau L b < L.length:=by
 have hb:b∈L:=by simpa using h
 unfold tau;cases hq:L.idxOf? b with
 |none=>exact absurd hb (y6s hq)
 |some i=>exact⟨x5b hq,(a0c.1 (x5b hq)).1⟩
def y2h {L:List Nat}{n b:Nat}(h:L.contains b=true):ext L n (tau L b)=b:=by
 unfold ext;rw[(x7f h).1]
mutual
def V.j0q {L:List Nat}{n:Nat}: ∀ {v:V},v.inB L=true->(v.ren (tau L)).ren (ext L n)=v
 | .own b,h=>by simp only[V.ren];rw[y2h h]
 | .ptr b o,h=>by simp only[V.ren];rw[y2h h]
 | .mv f b o,h=>by simp only[V.ren];rw[y2h h]
 | .ifp f b o,h=>by simp only[V.ren];rw[y2h h]
 | .pml b s i o,h=>by simp only[V.ren];rw[y2h h]
 | .map b,h=>by simp only[V.ren];rw[y2h h]
 | .yld b R,h=>by simp only[V.ren];rw[y2h h]
 | .osl b s l n,h=>by simp only[V.ren];rw[y2h h]
 | .agg cs,h=>by simp only[V.ren];rw[V.j0m h]
 | .tup cs,h=>by simp only[V.ren];rw[V.j0m h]
 | .fn f cs,h=>by simp only[V.ren];rw[V.j0m h]
 | .any,_=>rfl
 | .nils,_=>rfl
 | .d _,_=>rfl
 | .pel _,_=>rfl
 | .nilp,_=>rfl
 | .nilf,_=>rfl
 | .ifn _,_=>rfl
 | .ifc ..,_=>rfl
 | .ifo ..,_=>rfl
def V.j0m {L:List Nat}{n:Nat}: ∀ {cs:List V},V.j1n L cs=true->V.j1b (ext L n) (V.j1b (tau L) cs)=cs
 | [],_=>rfl
 |c::cs,h=>by
  have h':(c.inB L&&V.j1n L cs)=true:=h;rw[a0g]at h';simp only[V.j1b];rw[V.j0q h'.1,V.j0m h'.2]
end
mutual
def V.j1a {L:List Nat}: ∀ {v:V},v.inB L=true->(v.ren (tau L)).scB L.length=true
 | .own b,h=>by simp only[V.ren,V.scB];exact a0s (x7f h).2
 | .ptr b o,h=>by simp only[V.ren,V.scB];exact a0s (x7f h).2
 | .mv f b o,h=>by simp only[V.ren,V.scB];exact a0s (x7f h).2
 | .ifp f b o,h=>by simp only[V.ren,V.scB];exact a0s (x7f h).2
 | .pml b s i o,h=>by simp only[V.ren,V.scB];exact a0s (x7f h).2
 | .map b,h=>by simp only[V.ren,V.scB];exact a0s (x7f h).2
 | .yld b R,h=>by simp only[V.ren,V.scB];exact a0s (x7f h).2
 | .osl b s l n,h=>by simp only[V.ren,V.scB];exact a0s (x7f h).2
 | .agg cs,h=>by simp only[V.ren,V.scB];exact V.j0t h
 | .tup cs,h=>by simp only[V.ren,V.scB];exact V.j0t h
 | .fn f cs,h=>by simp only[V.ren,V.scB];exact V.j0t h
 | .any,_=>rfl
 | .nils,_=>rfl
 | .d _,_=>rfl
 | .pel _,_=>rfl
 | .nilp,_=>rfl
 | .nilf,_=>rfl
 | .ifn _,_=>rfl
 | .ifc ..,_=>rfl
 | .ifo ..,_=>rfl
def V.j0t {L:List Nat}: ∀ {cs:List V},V.j1n L cs=true->V.scL L.length (V.j1b (tau L) cs)=true
 | [],_=>rfl
 |c::cs,h=>by
  have h':(c.inB L&&V.j1n L cs)=true:=h;rw[a0g]at h';simp only[V.j1b,V.scL];rw[V.j1a h'.1,V.j0t h'.2];rfl
end
def Box.j0q {L:List Nat}{n:Nat}{x:Box}(h:x.inB L=true):(x.ren (tau L)).ren (ext L n)=x:=by
 cases x with
 |cells t vs=>simp only[Box.ren];rw[V.j0m h]
 |_=>rfl
def Box.j1a {L:List Nat}{x:Box}(h:x.inB L=true):(x.ren (tau L)).scB L.length=true:=by
 cases x with
 |cells t vs=>exact V.j0t h
 |_=>rfl
def y7n (h:List Box)(L0:List Nat)(vs:List V):List Nat:=k5t h h.length (v0v L0 (V.j1q vs))
def x5j (h:List Box)(L:List Nat):List Box:=L.map fun b=>(h.getD b .gone).ren (tau L)
def x8u (h:List Box)(L:List Nat)(vs:List V):Bool:=u0m L&&L.all (fun b=>decide (b < h.length))&&V.j1n L vs&&L.all fun b=>(h.getD b .gone).inB L
structure ReachOK (h:List Box) (L:List Nat) (vs:List V):Prop where
 nd:L.Nodup
 lt: ∀b∈L,b < h.length
 vs:V.j1n L vs=true
 bx: ∀b∈L,(h.getD b .gone).inB L=true
def y7o {h:List Box}{L:List Nat}{vs:List V}(hr:x8u h L vs=true):ReachOK h L vs:=by
 unfold x8u at hr;simp only[a0g]at hr;obtain⟨⟨⟨h1,h2⟩,h3⟩,h4⟩:=hr;exact⟨z0z h1,fun b hb=>a0e (a0l.1 h2 b hb),h3,fun b hb=>a0l.1 h4 b hb⟩
def Keep.tell {g g':Gh}{w w':World}{hs:List Box}(hk:Keep M g h w g' hs w')(hg:g.n=h.length){L:List Nat}{vs:List V}(hL:x8u hs L vs=true)(hid: ∀i,i < h.length->L[i]? =some i):
  ∃g'',Keep M g h w g'' (x5j hs L) w'/\ ∀u v,Rep w' g' u v->v.inB L=true->Rep w' g'' u (v.ren (tau L)):=by
 obtain⟨q1,q2,q3,q4⟩:=y7o hL
 let σ:=ext L hs.length
 let g2:Gh:= { Z:=g'.Z,n:=L.length,blk:=fun i=>g'.blk (σ i),val:=fun i=>g'.val (σ i),cd:=fun i=>g'.cd (σ i) }
 have hσ: ∀b,b < g2.n->g2.blk b=g'.blk (σ b)/\g2.val b=g'.val (σ b)/\g2.cd b=g'.cd (σ b):=fun b _=>⟨rfl,rfl,rfl⟩
 have hrep: ∀u v,Rep w' g' u v->v.inB L=true->Rep w' g2 u (v.ren (tau L)):=fun u v hr hv=>
  z6n (g:=g') (g0:=g2) (σ:=σ) rfl hσ hr (V.j0q hv).symm (V.j1a hv)
 have hbox: ∀(i:Nat) x,(x5j hs L)[i]? =some x-> ∃b y,L[i]? =some b/\σ i=b/\hs[b]? =some y/\y.inB L=true/\x=y.ren (tau L)/\i < L.length:=by
  intro i x hx;simp only[x5j,a0o,a0n]at hx;obtain⟨b,hb,rfl⟩:=hx;have hlt:=q2 b (a0j hb);refine⟨b,hs[b],hb,by simp[σ,ext,hb],a0b hlt,?_,?_,(a0c.1 hb).1⟩
  ·have:=q4 b (a0j hb)
   rwa [a0i,a0b hlt]at this
  ·rw[a0i,a0b hlt];rfl
 have hat: ∀(i:Nat) (y:Box),(y.ren (tau L)).at? g2 i=y.at? g' (σ i):=fun i y=>by cases y<;>rfl
 have hown: ∀k,x2r g2 (x5j hs L) k->x2r g' hs k:=by
  rintro k ⟨i,x,hx,hk'⟩
  obtain⟨b,y,hb,e,hy,_,rfl,_⟩:=hbox i x hx;rw[hat,e]at hk';exact⟨b,y,hy,hk'⟩
 refine⟨g2,⟨⟨by simp[x5j,g2],fun i x hx=> ?_,fun i j x y k hx hy hkx hky=> ?_,fun k o hk' hz=>hk.heap.zsep k o (hown k hk') hz,hk.heap.zlt,hk.heap.tab⟩,
  ⟨hk.le.Z,?_,fun b hb hm=> ?_,fun b hb hm=> ?_,fun b hb=> ?_⟩,hk.fr,hk.znew,fun k hk'=>hk.own k (hown k hk')⟩,hrep⟩
 ·obtain⟨b,y,hb,e,hy,hin,rfl,hi⟩:=hbox i x hx;refine v0p (g:=g') (g0:=g2) (σ:=σ) rfl hσ hi (Box.j1a hin) ?_;rw[Box.j0q hin,e];exact hk.heap.rep b y hy
 ·obtain⟨b,y',hb,e,hy',_,rfl,_⟩:=hbox i x hx;obtain⟨c,z',hc,e',hz',_,rfl,_⟩:=hbox j y hy;rw[hat,e]at hkx;rw[hat,e']at hky;have:=hk.heap.sep b c y' z' k hy' hz' hkx hky;subst this;have a1:=y5i q1 hb;have a2:=y5i q1 hc;rw[a1]at a2;exact Option.some.inj a2
 ·show g.n<=L.length;rcases Nat.eq_zero_or_pos h.length with h0|h0
  ·omega
  ·have:=(a0c.1 (hid (h.length - 1) (by omega))).1
   omega
 ·have hi:=hid b (by omega)
  show g'.blk (σ b)=g.blk b;rw[show σ b=b by simp[σ,ext,hi]]
  exact hk.le.blk b hb hm
 ·have hi:=hid b (by omega)
  show g'.val (σ b)=g.val b;rw[show σ b=b by simp[σ,ext,hi]]
  exact hk.le.val b hb hm
 ·have hi:=hid b (by omega)
  show g'.cd (σ b)=g.cd b;rw[show σ b=b by simp[σ,ext,hi]]
  exact hk.le.cd b hb
end
section
variable {P : Program} {M : List Nat} {h h' h2 : List Box} {ρ : Operand -> V} {o : Oper} {x : V}
def z3p (P:Program):Nat->TypeId->Option (List Sh)
 |0,_=>none
 |n+1,t=>match P.underlying t with
  |some (.int k)=>some [.int k]
  |some .bool=>some [.bool]
  |some .string=>some [.str]
  |some (.slice e)=>(szO P e).map fun sz=>[.sl sz]
  |some (.struct fs)=>fs.toList.foldr (fun f acc=>match z3p P n f.type,acc with
   |some a,some b=>some (a++b)
   |_,_=>none) (some [])
  |some (.array m e)=>(z3p P n e).map fun l=>(List.replicate m l).flatten
  |_=>none
def Pre (h h2:List Box):Prop:= ∀(b:Nat) x,h[b]? =some x->x= .gone\/h2[b]? =some x
def Pre.at (hp:Pre h h2){b:Nat}{x:Box}(hb:h[b]? =some x)(hx:x≠ .gone):h2[b]? =some x:=(hp b x hb).resolve_left hx
def Pre.refl (h:List Box):Pre h h:=fun _ _ h=> .inr h
def addF (v:V)(k:Nat):Option V:=match v with
 | .ptr b off=>some (.ptr b (off+k))
 | .pel cs=>some (.pel (cs.drop k))
 | .pml b sz i off=>some (.pml b sz i (off+k))
 |_=>none
def u8y {v:V}{n:Int}(hp:Pre h h2)(hn:q3t h v=some n):q3t h2 v=some n:=by
 unfold q3t at hn ⊢;split<;>simp_all
 split at hn
 ·rename_i heq;rw[hp.at heq nofun];simpa using hn
 ·cases hn
def y4y {v:V}(hp:Pre h h2)(hn:v.j0g h=true):v.j0g h2=true:=by
 unfold V.j0g at hn ⊢;split<;>simp_all
 all_goals
  split at hn
  ·rename_i heq;rw[hp.at heq nofun]
  ·cases hn
end
section
variable {P : Program} {M : List Nat} {h h' h2 : List Box} {ρ : Operand -> V} {o : Oper} {x : V}
def z1z {y z:Operand}{ts:Array TypeId}{t e:TypeId}{sz by_:Nat}{zv:Value}{news:LL}
  (hop:o.op= .call { callee:= .builtin .append,args:= #[y,z],argTypes:=ts }) (hts:ts= #[t,t]) (ht:elT P t=some (e,sz,by_,zv)) (hzs:zv.cells.size=sz) (hsz:0 < sz)
  (hy1:ρ y= .nils) (hz:z9o h sz (ρ z)=some news)
  (h63:news.length<=maxLen) (hby:news.length*by_<=140737488355328):
  x0p P [] h (h++[.arr e sz news]) ρ o (.own h.length):=
 .of_run fun g ρ' w hs hy=>by
  obtain⟨hu,i,hi,hz0,hz1,hz2⟩:=y2v ht;have hr:=hy y;rw[hy1]at hr;have e1:ρ' y= .slice none 0 0:=by
   generalize hu0:ρ' y=u0 at hr;cases hr;rfl
  obtain⟨hnl,hsrc⟩:=y2q hs (hy z) hz;have hown0:w.ownsRow 0 e sz (.slice none 0 0) 0 []:=⟨by simp, .inl ⟨rfl,rfl⟩⟩
  rcases hsrc with⟨e2,rfl⟩|⟨ad,cap,nl,e2,hnlen,hnc,hn1,hnr⟩
  ·obtain⟨hkk,hrr⟩:=y2t (e:=e) (sz:=sz) (rows:=[]) hs (.slice none 0 0) w.heap.size (w':=w) ⟨rfl,rfl,rfl,a0q _,fun _ _ _=>rfl⟩ (.inl rfl) (a0q _) ⟨by simp, .inl ⟨by simp[Gh.push],rfl⟩⟩
   refine⟨_,w,_,?_,hrr,hkk⟩;have hrun:=run_append_owned_none (P:=P) w 0 t o.type e i sz hu hi _ _ [] hown0;simp[execOp,hop,resolve,invoke,builtin,hts,e1,e2,hrun]
  ·obtain⟨v',w',hrun,h2,h3,hnil,h5⟩:=run_append_own_at (P:=P) w 0 t o.type e i zv sz by_ hu hi hz0 hz1 hz2 hzs hsz _ _ [] hown0 ad news.length cap nl hnlen hnc hn1 (by omega) (by rwa [a1z]) (a0w _)
   have hfr:Fr (fun _=>False) w w':=⟨h3.os,h3.tape,h3.output,h3.size,fun k hk _=>h3.block k hk (by simp[Value.ownBlock])⟩
   have hcz: ∀k o,g.Z k o->w'.cell? ⟨k,o,none⟩=w.cell? ⟨k,o,none⟩:=fun k o hz=>hfr.cell (hs.zlt k o hz) (fun h=>h)
   have hv:(g.push w.heap.size v').val g.n=v':=by simp[Gh.push]
   have hbk:(g.push w.heap.size v').blk g.n=w.heap.size:=by simp[Gh.push]
   simp only[a1z,a0h]at h2;have hform:v'= .slice none 0 0\/ ∃n c,v'= .slice (some ⟨w.heap.size,0,none⟩) n c:=by
    rcases h2.2 with⟨q,_⟩|⟨k,cap',cur,q,_⟩
    ·exact .inl q
    ·right
     subst q;simp only[Value.ownBlock,reduceCtorEq,false_or,Option.some.injEq]at h5;subst h5;exact⟨_,_,rfl⟩
   have hb:x1r w' (g.push w.heap.size v') g.n (.arr e sz news):=by
    refine z0v (base:=0) (xs:=nl) (by rw[hv];exact h2) hnl (fun i' r j c hi' hj=> ?_) (fun k hk=> ?_)
    ·obtain⟨u,hu',hd⟩:=hnr i' r j c hi' hj;exact⟨u,hu',hd.mono (fun _ _ h=>h) hcz⟩
    ·rw[hv]at hk;rw[hbk];rcases hform with rfl|⟨n,c,rfl⟩
     ·simp[Value.ownBlock]at hk
     ·simpa[Value.ownBlock]using hk
   obtain⟨hkk,hrr⟩:=y2t (w':=w') hs v' w.heap.size ⟨h3.os,h3.tape,h3.output,h3.size,fun k hk _=>h3.block k hk (by simp[Value.ownBlock])⟩ hform (a0q _) hb
   refine⟨_,w',_,?_,hrr,hkk⟩;simp[execOp,hop,resolve,invoke,builtin,hts,e1,e2,hrun]
def V.j1s:V->List Nat
 | .own b=>[b]
 | .agg cs=>cs.filterMap fun| .own b=>some b|_=>none
 |_=>[]
def V.j2n (h:List Box):V->List Nat
 | .fn _ cs=>cs.flatMap fun v=>match v with
   | .ptr b _=>(match h[b]? with
     |some (.cells (.ty _) vs)=>vs.flatMap V.j1s
     |_=>[])++[b]
   |v=>v.j1s
 |_=>[]
def fzl (s:VSt)(o:Oper):List Nat:=match o.op with
 | .call ⟨.value f,args,_⟩=>(args.toList.flatMap fun y=>(s.get y).j1s++(s.get y).j2n s.h)++(s.get f).j2n s.h
 | .store _ a z=>match s.get a with
   | .pml .. =>(s.get z).j1s
   |_=>[]
 | .buildSlice _ _ parts=>parts.toList.flatMap fun q=>(s.get q.2).j1s
 | .mapUpdate _ _ _ z=>(s.get z).j1s
 | .slice _ y lo _ _=>match lo with
   |some _=>(s.get y).j1s
   |none=>[]
 | .convert _ _ y=>(s.get y).j1s
 |_=>[]
def VSt.j1p (s:VSt)(t:Nat)(b:Bool):VSt:= { s with t:=s.t.set t (.d (.bool b)) }
def y8v {E:Ent}{s:VSt}{a:Act}{w:World}{t:Nat}{c:Bool}(hs:x1t E s a w)(ht:s.t[t]? =some (.d (.bool c))):x1t E (s.j1p t c) a w/\a.tmps[t]? =some (.bool c):=by
 have hlt:t < s.t.length:=(a0c.1 ht).1;obtain⟨g,hs'⟩:=hs;have hlt':t < a.tmps.size:=by rw[hs'.size];exact hlt
 have hu:=hs'.tmps t _ _ (a0x hlt') ht;have e:=x4f hu;refine⟨x1t.j1p ⟨g,hs'⟩ (fun u g' hu'=> ?_),by rw[a0x hlt',e]⟩
 rw[a0x hlt',e]at hu';cases hu';exact .d (.bool c)
end
section
variable {P : Program} {M : List Nat} {h h' h2 : List Box} {ρ : Operand -> V} {o : Oper} {x : V}
def V.j0y (n:Nat):V->Bool
 | .own b| .map b=>decide (b < n)
 | .pml b _ _ _=>decide (b < n)
 | .ptr b _=>decide (b < n)
 | .mv _ b _=>decide (b < n)
 | .ifp _ b _=>decide (b < n)
 | .yld b _=>decide (b < n)
 | .osl b _ _ _=>decide (b < n)
 | .agg _| .tup _| .fn _ _=>false
 |_=>true
def V.j2c (n:Nat):V->Bool
 | .agg cs=>cs.all (V.j0y n)
 | .tup cs=>cs.all (V.j0y n)
 | .fn _ cs=>cs.all (V.j0y n)
 |v=>v.j0y n
def Gh.cut (g:Gh)(n:Nat):Gh:= { g with n:=n }
def x4p {w:World}{g:Gh}{n:Nat}{u:Value}{v:V}(hv:v.j0y n=true)(hr:Rep w g u v):Rep w (g.cut n) u v:=by
 cases hr with
 |any u=>exact .any u
 |nils=>exact .nils
 |d h=>exact .d h
 |pel blk off cs U hZ hc hr=>exact .pel blk off cs U hZ hc hr
 |nilp=>exact .nilp
 |nilf=>exact .nilf
 |ifn0=>exact .ifn0
 |ifn1 t p=>exact .ifn1 t p
 |ifc t us cs hl h=>exact .ifc t us cs hl h
 |ifo0 t cs=>exact .ifo0 t cs
 |ifo1 t us cs hl h=>exact .ifo1 t us cs hl h
 |own b hb=>exact .own (g:=g.cut n) b (a0e hv)
 |ptr b off hb=>exact .ptr (g:=g.cut n) b off (a0e hv)
 |mv f b off hb=>exact .mv (g:=g.cut n) f b off (a0e hv)
 |ifp f b off hb=>exact .ifp (g:=g.cut n) f b off (a0e hv)
 |pml b sz i off hb=>exact .pml (g:=g.cut n) b sz i off (a0e hv)
 |map b hb=>exact .map (g:=g.cut n) b (a0e hv)
 |yld b R hb hc=>exact .yld (g:=g.cut n) b R (a0e hv) hc
 |osl b sz lo k u hb hu=>exact .osl (g:=g.cut n) b sz lo k u (a0e hv) hu
 |_=>simp[V.j0y]at hv
def x7p {w:World}{g:Gh}{n:Nat}{u:Value}{v:V}(hv:v.j2c n=true)(hr:Rep w g u v):Rep w (g.cut n) u v:=by
 have aux: ∀(us:Array Value) (cs:List V),(∀(i:Nat) u c,us[i]? =some u->cs[i]? =some c->Rep w g u c)->cs.all (V.j0y n)=true->
     ∀(i:Nat) u c,us[i]? =some u->cs[i]? =some c->Rep w (g.cut n) u c:=fun us cs h ha i u c hu hc=>
  x4p (a0l.1 ha c (a0j hc)) (h i u c hu hc)
 cases hr with
 |agg us cs hl h=>exact .agg us cs hl (aux us cs h hv)
 |tup us cs hl h=>exact .tup us cs hl (aux us cs h hv)
 |fn f us cs hl h=>exact .fn f us cs hl (aux us cs h hv)
 |any u=>exact .any u
 |nils=>exact .nils
 |d h=>exact .d h
 |pel blk off cs U hZ hc hr=>exact .pel blk off cs U hZ hc hr
 |nilp=>exact .nilp
 |nilf=>exact .nilf
 |ifn0=>exact .ifn0
 |ifn1 t p=>exact .ifn1 t p
 |ifc t us cs hl h=>exact .ifc t us cs hl h
 |ifo0 t cs=>exact .ifo0 t cs
 |ifo1 t us cs hl h=>exact .ifo1 t us cs hl h
 |own b hb=>exact x4p hv (.own b hb)
 |ptr b off hb=>exact x4p hv (.ptr b off hb)
 |mv f b off hb=>exact x4p hv (.mv f b off hb)
 |ifp f b off hb=>exact x4p hv (.ifp f b off hb)
 |pml b sz i off hb=>exact x4p hv (.pml b sz i off hb)
 |map b hb=>exact x4p hv (.map b hb)
 |yld b R hb hc=>exact x4p hv (.yld b R hb hc)
 |osl b sz lo k u hb hu=>exact x4p hv (.osl b sz lo k u hb hu)
def Wk (n:Nat)(v' v:V):Prop:= ∀(w:World) (g:Gh) (u:Value),Rep w g u v'->Rep w (g.cut n) u v
def Wk.any (n:Nat)(v':V):Wk n v' .any:=fun _ _ u _=> .any u
def Box.j2c (n:Nat):Box->Bool
 | .cells _ vs=>vs.all (V.j2c n)
 |_=>true
end
section
variable {P : Program} {M : List Nat} {h h' h2 h0 : List Box} {ρ ρ2 : Operand -> V} {o : Oper} {x : V} {ops : Array Oper}
open Classical in
noncomputable def x3n (o:Oper) (ρ:Operand->V):Operand->V:=fun y=>match y with
 | .func f=> .fn f []
 |y=>if y∈o.op.operands.toList then ρ y else .any
def z4r (o:Oper)(ρ:Operand->V)(f:FuncId):x3n o ρ (.func f)= .fn f []:=rfl
def x7g (hf: ∀f,ρ (.func f)= .fn f []){y:Operand}(hy:y∈o.op.operands.toList):x3n o ρ y=ρ y:=by
 cases y<;>simp only[x3n,hf]<;>rw[if_pos hy]
def v6q {w:World}{g:Gh}{a:Act}(hy: ∀y,y∈o.op.operands.toList->Rep w g (a.eval y) (ρ y)): ∀y,Rep w g (a.eval y) (x3n o ρ y):=by
 intro y;cases y with
 |func f=>exact .fn f #[] [] rfl (by simp)
 |_=>simp only[x3n];split<;>first|exact hy _ ‹_› |exact .any _
def x5v (ops:Array Oper)(o:Oper)(t:List V):Option Bool:=match o.guard with
 |none=>some true
 |some (j,want)=>match (ops[j]?).bind (·.dst)with
  |some k=>match t[k]? with
   |some (.d (.bool c))=>some (c == want)
   |some (.tup [])=>some false
   |_=>none
  |none=>none
def x4d {E:Ent}{s:VSt}{a:Act}{w:World}(hs:x1t E s a w){c:Bool}(hw:x5v ops o s.t=some c):Region.wanted o (yielded ops a.tmps)=c:=by
 unfold x5v at hw;split at hw
 ·rename_i hg;cases hw;simp[Region.wanted,hg]
 ·rename_i j want hg;split at hw
  ·rename_i k hk;split at hw
   ·rename_i c' hc;cases hw;have hy:yielded ops a.tmps j=some c':=by simp[yielded,hk,(y8v hs hc).2]
    simp only[Region.wanted,hg,hy];cases c'<;>cases want<;>rfl
   ·rename_i hc;cases hw;have hy:yielded ops a.tmps j=none:=by
     have hlt:k < s.t.length:=(a0c.1 hc).1;obtain⟨g,hs'⟩:=hs;have hlt':k < a.tmps.size:=by rw[hs'.size];exact hlt
     have hu:=hs'.tmps k _ _ (a0x hlt') hc;have ha:a.tmps[k]? =some a.tmps[k]:=a0x hlt';generalize a.tmps[k]=u at hu ha;cases hu with
     |tup us cs hl h=>simp[yielded,hk,ha]
    simp[Region.wanted,hg,hy]
   ·cases hw
  ·cases hw
def x3l (t:List V)(dst:Option Tmp)(x:V):List V:=match dst with
 |some d=>t.set d x
 |none=>t
def Val (P:Program)(h0:List Box)(o:Oper)(t:List V)(x:V):Prop:= ∀h2,Pre h0 h2->x0p P [] h2 h2 (x3n o (VSt.get ⟨t,h0⟩)) o x
def z3f (P:Program)(o:Oper):Option Box:=match o.op with
 | .alloc t=>match z3k P t with
   |some z=>match (x5l z).j0f with
    |some vs=>some (.cells (.ty t) vs)
    |none=>none
   |none=>none
 |_=>none
def Out (P:Program)(ops:Array Oper)(h0:List Box)(o:Oper)(t:List V)(hb:List Box)(x:V)(hb':List Box):Prop:=
 (x5v ops o t=some true/\((hb'=hb/\Val P h0 o t x)\/(hb= []/\x= .ptr h0.length 0/\ ∃b,z3f P o=some b/\hb'= [b])))\/(x5v ops o t=some false/\x= .tup []/\hb'=hb)
def v1t (h0 hb:List Box):Pre h0 (h0++hb):=fun b x hx=> .inr <| by
 rw[a0y,if_pos (a0c.1 hx).1];exact hx
def y8k (t:List V)(h h':List Box):VSt.get ⟨t,h⟩=VSt.get ⟨t,h'⟩:=by funext y;cases y<;>rfl
def x0p.j0p (hg:x0p P M h h' (x3n o ρ) o x):x0p P M h h' ρ o x:=
 fun g a w hs hy K Q hK=>hg g a w hs (v6q fun y _=>hy y) K Q hK
def Out.wp {E:Ent}{t:List V}{hb hb':List Box}{a:Act}{w:World}(ho:Out P ops h0 o t hb x hb')(hs:x1t E ⟨t,h0++hb⟩ a w){K:Act->World->Prop}{Q:Exit->Act->World->Prop}
  (hK: ∀a' w',x1t E ⟨x3l t o.dst x,h0++hb'⟩ a' w'->K a' w'):if Region.wanted o (yielded ops a.tmps)then o.wp P a w K Q else K (a.put o.dst undef) w:=by
 have hnext: ∀h' x,VSt.next ⟨t,h0++hb⟩ [] h' o.dst x=⟨x3l t o.dst x,h'⟩:=fun h' x=>by first|(simp only[VSt.next,x3l];done)|(simp only[VSt.next,x3l];cases o.dst<;>rfl)
 rcases ho with⟨hw,hv⟩|⟨hw,rfl,rfl⟩
 ·rw[if_pos (x4d hs hw)];rcases hv with⟨rfl,hv⟩|⟨rfl,rfl,b,hb,rfl⟩
  ·have hg:=hv (h0++hb') (v1t _ _);rw[y8k t h0 (h0++hb')]at hg;refine x0p.sim (s:=⟨t,h0++hb'⟩) hg.j0p hs (by simp[okM]) fun a' w' hs'=>hK a' w' ?_
   rwa [hnext]at hs'
  ·unfold z3f at hb;split at hb
   ·rename_i ty hop;split at hb
    ·rename_i z hz;split at hb
     ·rename_i vs hvs;cases hb;have hg:x0p P [] (h0++[]) ((h0++[])++[.cells (.ty ty) vs]) (VSt.get ⟨t,h0++[]⟩) o (.ptr (h0++[]).length 0):=y0w hop hz hvs;refine x0p.sim (s:=⟨t,h0++[]⟩) hg hs (by simp[okM]) fun a' w' hs'=>hK a' w' ?_
      rw[hnext]at hs'
      simpa using hs'
     ·cases hb
    ·cases hb
   ·cases hb
 ·rw[if_neg (by rw[x4d hs hw];simp)]
  refine hK _ _ ?_;obtain⟨g,hs⟩:=hs;have:=hs.next (.refl hs.heap) (by simp[okM]) (.tup (w:=w) (g:=g) #[] [] rfl (by simp)) o.dst
  rw[hnext]at this;exact⟨g,this⟩
def y1o {d:Option Tmp}(hd: ∀k,d=some k->k ∉ o.looksAt ops)(t:List V):x5v ops o (x3l t d x)=x5v ops o t:=by
 cases d with
 |none=>rfl
 |some k=>
  unfold x5v;split
  ·rfl
  ·rename_i j want hg;split
   ·rename_i q hq;have hne:k≠q:=fun e=>hd k rfl (by subst e;simp[Oper.looksAt,hg,hq])
    simp only[x3l,a1k,if_neg hne]
   ·rfl
def x7v {d:Option Tmp}(hd: ∀k,d=some k->k ∉ o.looksAt ops)(t:List V)(h:List Box):x3n o (VSt.get ⟨x3l t d x,h⟩)=x3n o (VSt.get ⟨t,h⟩):=by
 funext y;cases y with
 |tmp q=>
  simp only[x3n];split
  ·rename_i hy;cases d with
   |none=>rfl
   |some k=>
    have hne:k≠q:=fun e=>hd k rfl (by
     subst e;exact List.mem_append_left _ (List.mem_filterMap.2 ⟨.tmp k,hy,rfl⟩))
    simp[VSt.get,x3l,hne]
  ·rfl
 |const v=>simp only[x3n];rfl
 |func f=>rfl
 |global k=>simp only[x3n];rfl
def x5k {d e:Option Tmp}(hde: ∀k,d=some k->e≠some k)(t:List V)(u v:V):x3l (x3l t d u) e v=x3l (x3l t e v) d u:=by
 cases d with
 |none=>rfl
 |some k=>cases e with
  |none=>rfl
  |some q=>exact List.set_comm _ _ (fun hh=>hde k rfl (by rw[hh]))
def Out.put {oi oj:Oper}{t:List V}{hb hbi hbj:List Box}{xi xj:V}(hap:oi.apart ops oj=true)
  (hi:Out P ops h0 oi t hb xi hbi) (hj:Out P ops h0 oj (x3l t oi.dst xi) hbi xj hbj):
  ∃hb1,Out P ops h0 oj t hb xj hb1/\Out P ops h0 oi (x3l t oj.dst xj) hb1 xi hbj/\x3l (x3l t oj.dst xj) oi.dst xi=x3l (x3l t oi.dst xi) oj.dst xj:=by
 obtain⟨a1,a2,a3⟩:=Oper.apart_spec hap;have hcomm:=x5k a2 t xi xj;have toj: ∀ {x},Val P h0 oj (x3l t oi.dst xi) x↔Val P h0 oj t x:=fun {x}=>by simp only[Val,x7v a1]
 have toi: ∀ {x},Val P h0 oi (x3l t oj.dst xj) x↔Val P h0 oi t x:=fun {x}=>by simp only[Val,x7v a3]
 have wj:=y1o (o:=oj) (x:=xi) a1 t;have wi:=y1o (o:=oi) (x:=xj) a3 t;simp only[Out,wj,toj]at hj;rcases hi with⟨hw,(⟨rfl,hv⟩|⟨rfl,rfl,b,hb1,rfl⟩)⟩|⟨hw,rfl,rfl⟩
 ·refine⟨hbj,hj, .inl ⟨by rw[wi];exact hw, .inl ⟨rfl,toi.2 hv⟩⟩,hcomm.symm⟩
 ·rcases hj with⟨hw',(⟨rfl,hv'⟩|⟨hne,_⟩)⟩|⟨hw',rfl,rfl⟩
  ·exact⟨[], .inl ⟨hw', .inl ⟨rfl,hv'⟩⟩, .inl ⟨by rw[wi];exact hw, .inr ⟨rfl,rfl,b,hb1,rfl⟩⟩,hcomm.symm⟩
  ·cases hne
  ·exact⟨[], .inr ⟨hw',rfl,rfl⟩, .inl ⟨by rw[wi];exact hw, .inr ⟨rfl,rfl,b,hb1,rfl⟩⟩,hcomm.symm⟩
 ·exact⟨hbj,hj, .inr ⟨by rw[wi];exact hw,rfl,rfl⟩,hcomm.symm⟩
end
def Fw (ro:Option Nat):Fence:= { Fence.wide with round:=ro }
def z1a (o:Oper):Bool:=match o.op with
 | .defer _=>false
 |_=>true
def z5a {o:Oper}(h:z1a o=true): ∀c,o.op≠ .defer c:=fun c hc=>by simp[z1a,hc]at h
section
variable {P : Program} {o : Oper} {a : Act} {w : World} {K : Act -> World -> Prop} {Q : Exit -> Act -> World -> Prop} {ro : Option Nat} {n : Nat}
def z5r {f:FuncId}{args:Array Value}{R:Ending->World->Prop}:CallsIn (Fw ro) n P f args w R↔Calls P f args w R:=callsIn_wide (n:=n)
def x9f (hnd:z1a o=true)(h:o.wp P a w K Q):o.wpIn (Fw ro) n P a w K Q:=by
 refine⟨fun f _=>trivial,?_⟩
 have e:o.semAt (Fw ro).round a.eval=execOp a.eval o:=Oper.semAt_eq _ _ _ (z5a hnd);rw[e];unfold Oper.wp at h;generalize (execOp a.eval o).run P w=r at h;cases r with
 |ok x w'=>
  cases x with
  |value v=>exact h
  |skip=>exact h
  |defer d=>exact h
  |enter f args=>exact⟨fun h=>by simp[Fw,Fence.wide]at h,z5r.2 h⟩
  |row row args=>
   refine⟨fun h=>by simp[Fw,Fence.wide]at h,fun c cs _=> ?_⟩
   obtain⟨v,w2,h1,h2⟩:=h c cs;exact⟨v,w2,h1,stepsIn_wide.2 h2⟩
  |_=>first|exact h|exact h.elim
 |halt x w'=>cases x<;>first|exact h|exact h.elim
def x6c {ops:Array Oper}{rest:List Oper}(h:if Region.wanted o (yielded ops a.tmps)then o.wpIn (Fw ro) 0 P a w (wpListIn (Fw ro) 0 P ops Q rest) Q else wpListIn (Fw ro) 0 P ops Q rest (a.put o.dst undef) w):wpListIn (Fw ro) 0 P ops Q (o::rest) a w:=by
 unfold wpListIn;split
 ·rename_i hw;rw[if_pos hw]at h;exact h
 ·rename_i hw;rw[if_neg hw]at h;exact⟨fun _ _=>trivial,h⟩
def u3y {F:Fence}{rm:Nat}{c:Code}(I:Nat->Act->World->Prop)(n₀:Nat)(h₀:I n₀ a w)
  (round: ∀n a w,I n a w->c.wpIn F rm P (Exit.then (fun a' w'=> ∃n',n' < n/\I n' a' w') Q) a w):(Code.loop c).wpIn F rm P Q a w:=by
 refine wpIn_loop (fun a w=> ∃n,I n a w) (fun a w=>leastOf (fun n=>I n a w)) ⟨n₀,h₀⟩ ?_
 intro a w hI;refine wpIn_mono (round _ a w (leastOf_spec hI).1) fun e a' w' hq=> ?_
 cases e with
 |normal=>
  obtain⟨n',hlt,hI'⟩:=hq;exact show(∃n,I n a' w')/\leastOf (fun n=>I n a' w') < leastOf (fun n=>I n a w)from⟨⟨n',hI'⟩,Nat.lt_of_le_of_lt ((leastOf_spec ⟨n',hI'⟩).2 n' hI') hlt⟩
 |_=>exact hq
end
section
variable {P : Program} {M : List Nat} {h h' h2 h0 : List Box} {ρ ρ2 : Operand -> V} {o : Oper} {x : V} {ops : Array Oper}
def q9d (P:Program)(ops:Array Oper)(h0:List Box)(m:Nat)(K:List V->List Box->Prop):Nat->Array Bool->List V->List Box->Prop
 |0,listed,t,hb=>(∀j∈Region.ready .any ops listed,m<=j)/\K t hb
 |fuel+1,listed,t,hb=>Region.ready .any ops listed≠[]/\ ∀i∈Region.ready .any ops listed,i < m/\ ∃o x hb',ops[i]? =some o/\Out P ops h0 o t hb x hb'/\q9d P ops h0 m K fuel (listed.setIfInBounds i true) (x3l t o.dst x) hb'
def y5n (o:Oper)(i:Nat):Bool:=o.after.any fun e=>Region.binds .any e&&e.on == i
def y0y {o:Oper}{i:Nat}(h:y5n o i=true): ∃e∈o.after,Region.binds .any e=true/\e.on=i:=by
 obtain⟨e,he,hb⟩:=Array.any_eq_true'.1 h;simp only[a0g,beq_iff_eq]at hb;exact⟨e,he,hb.1,hb.2⟩
def x5g (ops:Array Oper):Nat->Oper->Nat->Bool
 |0,o,i=>y5n o i
 |n+1,o,i=>y5n o i || o.after.any fun e=>Region.binds .any e&&(match ops[e.on]? with
  |some ok=>x5g ops n ok i
  |none=>false)
def y1c (ops:Array Oper)(listed:Array Bool):Prop:= ∀(k:Nat) ok,ops[k]? =some ok->listed.getD k false=true-> ∀e∈ok.after,Region.binds .any e=true->listed.getD e.on false=true
def x6r {listed:Array Bool}(hc:y1c ops listed){i:Nat}: ∀(n:Nat) {o:Oper},(∀e∈o.after,Region.binds .any e=true->listed.getD e.on false=true)->x5g ops n o i=true->listed.getD i false=true
 |0,o,ho,h=>by obtain⟨e,he,hb,rfl⟩:=y0y h;exact ho e he hb
 |n+1,o,ho,h=>by
  unfold x5g at h;rw[Bool.or_eq_true]at h;rcases h with h|h
  ·obtain⟨e,he,hb,rfl⟩:=y0y h;exact ho e he hb
  ·obtain⟨e,he,hb⟩:=Array.any_eq_true'.1 h;simp only[a0g]at hb;obtain⟨hb1,hb2⟩:=hb;split at hb2
   ·rename_i ok hok;exact x6r hc n (hc e.on ok hok (ho e he hb1)) hb2
   ·cases hb2
def y1c.step {listed:Array Bool}(hc:y1c ops listed){i:Nat}(hi:i∈Region.ready .any ops listed):y1c ops (listed.setIfInBounds i true):=by
 have mono: ∀k,listed.getD k false=true->(listed.setIfInBounds i true).getD k false=true:=fun k hk=>by
  by_cases h:i=k
  ·subst h;simp only[Array.getD_eq_getD_getElem?,Array.getElem?_setIfInBounds,if_pos];split
   ·rfl
   ·rename_i hlt;rw[Array.getD_eq_getD_getElem?,Array.getElem?_eq_none (Nat.le_of_not_lt hlt)]at hk;exact hk
  ·rw[getD_set_ne false h];exact hk
 intro k ok hok hk e he hb
 by_cases h:i=k
 ·subst h;obtain⟨_,oi',hoi',hall⟩:=mem_ready.1 hi;rw[hok]at hoi';cases hoi';exact mono _ (hall e he hb)
 ·rw[getD_set_ne false h]at hk;exact mono _ (hc k ok hok hk e he hb)
def w3o (ops:Array Oper)(m:Nat):Bool:=(List.range ops.size).all fun j=>decide (j < m) || match ops[j]? with
 |some oj=>(List.range m).all fun i=>x5g ops 9 oj i
 |none=>true
def z4l {m:Nat}(hs:w3o ops m=true){i:Nat}(hi:i < m){listed:Array Bool}(hcl:y1c ops listed)(hun:listed.getD i false=false){j:Nat}(hj:j∈Region.ready .any ops listed):j < m:=by
 obtain⟨_,oj,hoj,hall⟩:=mem_ready.1 hj;rcases Nat.lt_or_ge j m with h1|h1
 ·exact h1
 ·have:=a0l.1 hs j (List.mem_range.2 (a0r.1 hoj).1);simp only[hoj,Bool.or_eq_true,a0p]at this;rcases this with h2|h2
  ·omega
  ·have:=x6r hcl 9 hall (a0l.1 h2 i (List.mem_range.2 hi));rw[hun]at this;cases this
def x3y {i:Nat}{listed:Array Bool}(hi:i∈Region.ready .any ops listed):listed.getD i false=false:=by
 have h0:=(mem_ready.1 hi).1;rcases Nat.lt_or_ge i listed.size with h'|h'
 ·simp[h']at h0 ⊢;exact h0
 ·simp[Array.getElem?_eq_none h']
def v1a {m:Nat}{K:List V->List Box->Prop}(hsuf:w3o ops m=true){i:Nat}{oi:Oper}{xi:V}(hi:ops[i]? =some oi)(him:i < m):
  ∀(fuel:Nat) (listed:Array Bool) (t:List V) (hb hbi:List Box),y1c ops listed->
   (∀j oj,ops[j]? =some oj->j≠i->listed.getD j true=false->(∀e∈oj.after,Region.binds .any e=true->e.on≠i)->oi.apart ops oj=true)->
   i∈Region.ready .any ops listed->Out P ops h0 oi t hb xi hbi->
   q9d P ops h0 m K fuel (listed.setIfInBounds i true) (x3l t oi.dst xi) hbi->q9d P ops h0 m K (fuel+1) listed t hb:=by
 intro fuel
 induction fuel with
 |zero=>
  intro listed t hb hbi hcl _ hr ho H;refine⟨fun h=>(by rw[h]at hr;cases hr),fun j hj=> ?_⟩
  have hjm:=z4l hsuf him hcl (x3y hr) hj
  by_cases hji:j=i
  ·subst hji;exact⟨him,oi,xi,hbi,hi,ho,H⟩
  ·have:=H.1 j (ready_mono hj hji);omega
 |succ fuel ih=>
  intro listed t hb hbi hcl hfree hr ho H;refine⟨fun h=>(by rw[h]at hr;cases hr),fun j hj=> ?_⟩
  have hjm:=z4l hsuf him hcl (x3y hr) hj
  by_cases hji:j=i
  ·subst hji;exact⟨him,oi,xi,hbi,hi,ho,H⟩
  ·obtain⟨_,oj,xj,hbj,hoj,hout,hrest⟩:=H.2 j (ready_mono hj hji);obtain⟨hjun,oj',hoj',hall⟩:=mem_ready.1 hj;rw[hoj]at hoj';cases hoj';have hnot: ∀e∈oj.after,Region.binds .any e=true->e.on≠i:=fun e he hb heq=>by
    have h1:=hall e he hb;rw[heq,x3y hr]at h1;cases h1
   obtain⟨hb1,o1,o2,e1⟩:=Out.put (hfree j oj hoj hji hjun hnot) ho hout;refine⟨hjm,oj,xj,hb1,hoj,o1,ih (listed.setIfInBounds j true) _ hb1 hbj (hcl.step hj) (fun k ok hk hki hun hno=> ?_) (ready_mono hr (Ne.symm hji)) o2 ?_⟩
   ·refine hfree k ok hk hki ?_ hno
    by_cases hjk:j=k
    ·subst hjk;exact hjun
    ·rw[getD_set_ne true hjk]at hun;exact hun
   ·rw[Array.setIfInBounds_comm _ _ hji,e1];exact hrest
def k8o (P:Program)(ops:Array Oper)(h0:List Box)(K:List V->List Box->Prop):List Oper->List V->List Box->Prop
 | [],t,hb=>K t hb
 |o::os,t,hb=> ∃x hb',Out P ops h0 o t hb x hb'/\k8o P ops h0 K os (x3l t o.dst x) hb'
def v8i (ops:Array Oper)(m:Nat):Nat->Nat->Array Bool->Bool
 |0,_,listed=>(Region.ready .any ops listed).all fun j=>decide (m<=j)
 |n+1,k,listed=>(Region.ready .any ops listed).contains k&&decide (k < m)&&Region.free .any ops listed k&&v8i ops m n (k+1) (listed.setIfInBounds k true)
def u6y {m:Nat}{K:List V->List Box->Prop}(hsuf:w3o ops m=true): ∀(l:List Oper) (k:Nat) (listed:Array Bool) (t:List V) (hb:List Box),y1c ops listed->(∀j,j < l.length->l[j]? =ops[k+j]?)->
  v8i ops m l.length k listed=true->k8o P ops h0 K l t hb->q9d P ops h0 m K l.length listed t hb
 | [],_,_,_,_,_,_,hB,h=>⟨by simpa[v8i]using hB,h⟩
 |o::l,k,listed,t,hb,hcl,hl,hB,⟨x,hb',ho,h⟩=>by
  have h0:ops[k]? =some o:=by simpa using(hl 0 (by simp)).symm
  simp only[a0a,v8i,a0g,a0p]at hB;obtain⟨⟨⟨hr,hkm⟩,hf⟩,hB'⟩:=hB;exact v1a hsuf h0 hkm l.length listed t hb hb' hcl (Region.free_spec h0 hf) (by simpa using hr) ho
   (u6y hsuf l (k+1) _ _ _ (hcl.step (by simpa using hr)) (fun j hj=>by have:=hl (j+1) (by simpa using hj);simpa[a2e,Nat.add_comm 1 j]using this) hB' h)
def y0u (n m:Nat):Array Bool:=((List.range n).map fun i=>decide (i < m)).toArray
def u3j (ops:Array Oper)(m:Nat):Bool:=decide (m<=ops.size)&&(List.range m).all fun i=>match ops[i]? with
 |some o=>o.after.all fun e=> !Region.binds .any e || decide (e.on < i)
 |none=>false
def v3z {m:Nat}(hb:u3j ops m=true){listed:Array Bool}(hsz:listed.size=ops.size)(hno: ∀j∈Region.ready .any ops listed,m<=j): ∀i,i < m->listed.getD i false=true:=by
 simp only[u3j,a0g,a0p]at hb;intro i
 induction i using Nat.strongRecOn with
 |_ i ih=>
  intro him;have hi:i < listed.size:=by omega
  cases hc:listed.getD i false with
  |true=>rfl
  |false=>
   exfalso;have hlt:i < ops.size:=by omega
   have hoi:ops[i]? =some ops[i]:=a0x hlt;have h1:=a0l.1 hb.2 i (List.mem_range.2 him);simp only[hoi]at h1;have:i∈Region.ready .any ops listed:=mem_ready.2 ⟨by simp[hi]at hc ⊢;exact hc,_,hoi,fun e he hbd=>by
    have:=Array.all_eq_true_iff_forall_mem.1 h1 e he;simp only[hbd,Bool.not_true,a1d,a0p]at this;exact ih e.on this (by omega)⟩
   have:=hno i this;omega
def z4h {ro:Option Nat}{E:Ent}{m:Nat}{K:List V->List Box->Prop}{Q:Exit->Act->World->Prop}(hnd: ∀(i:Nat) o,ops[i]? =some o->z1a o=true)(hback:u3j ops m=true){rest:Nat}
  (hK: ∀t hb a w,K t hb->x1t E ⟨t,h0++hb⟩ a w->wpAnyIn (Fw ro) 0 P .any ops Q rest (y0u ops.size m) a w):
  ∀(fuel:Nat) (listed:Array Bool) (t:List V) (hb:List Box) (a:Act) (w:World),q9d P ops h0 m K fuel listed t hb->listed.size=ops.size->(∀k,m<=k->listed.getD k false=false)->
   x1t E ⟨t,h0++hb⟩ a w->wpAnyIn (Fw ro) 0 P .any ops Q (rest+fuel) listed a w
 |0,listed,t,hb,a,w,⟨hno,hk⟩,hsz,hun,hs=>by
  have hl:listed=y0u ops.size m:=by
   apply Array.ext
   ·simp[y0u,hsz]
   ·intro i h1 h2;have e:listed.getD i false=listed[i]:=by simp[h1]
    rcases Nat.lt_or_ge i m with hi|hi
    ·have:=v3z hback hsz hno i hi;rw[e]at this;rw[this];simp[y0u,hi]
    ·have:=hun i hi;rw[e]at this;rw[this];simp[y0u];omega
  rw[hl];exact hK t hb a w hk hs
 |fuel+1,listed,t,hb,a,w,⟨hne,hall⟩,hsz,hun,hs=>by
  refine⟨fun h=>(hne h).elim,fun i hi=> ?_⟩
  obtain⟨him,o,x,hb',ho,hout,hrest⟩:=hall i hi;unfold wpOpIn;simp only[ho];have h1:=hout.wp (Q:=Q) hs (K:=wpAnyIn (Fw ro) 0 P .any ops Q (rest+fuel) (listed.setIfInBounds i true)) fun a' w' hs'=>
   z4h hnd hback hK fuel _ _ _ a' w' hrest (by simpa using hsz) (fun k hk=>by
    rw[getD_set_ne false (by omega)];exact hun k hk) hs'
  split
  ·rename_i hw;rw[if_pos hw]at h1;exact x9f (hnd i o ho) h1
  ·rename_i hw;rw[if_neg hw]at h1;exact⟨fun _ _=>trivial,h1⟩
def v6g (ops:Array Oper):Nat->Nat->Array Bool->Bool
 |0,_,listed=>(Region.ready .any ops listed).isEmpty
 |n+1,k,listed=>(Region.ready .any ops listed == [k])&&v6g ops n (k+1) (listed.setIfInBounds k true)
def v6f {ro:Option Nat}{Q:Exit->Act->World->Prop}: ∀(l:List Oper) (k:Nat) (listed:Array Bool) (a:Act) (w:World),(∀j,l[j]? =ops[k+j]?)->v6g ops l.length k listed=true->
  wpListIn (Fw ro) 0 P ops Q l a w->wpAnyIn (Fw ro) 0 P .any ops Q l.length listed a w
 | [],k,listed,a,w,_,hB,h=>⟨by simpa[v6g]using hB,h⟩
 |o::l,k,listed,a,w,hl,hB,h=>by
  have h0:ops[k]? =some o:=by simpa using(hl 0).symm
  simp only[a0a,v6g,a0g,beq_iff_eq]at hB;obtain⟨hr,hB'⟩:=hB;have ih:=fun a w=>v6f (ro:=ro) (Q:=Q) l (k+1) (listed.setIfInBounds k true) a w (fun j=>by have:=hl (j+1);simpa[a2e,Nat.add_comm 1 j]using this) hB'
  refine⟨fun h=>(by rw[hr]at h;cases h),fun i hi=> ?_⟩
  rw[hr,a1h]at hi;subst hi;unfold wpOpIn;simp only[h0];unfold wpListIn at h;split
  ·rename_i hw;rw[if_pos hw]at h;exact Oper.wpIn_mono ih h
  ·rename_i hw;rw[if_neg hw]at h;exact⟨h.1,ih _ _ h.2⟩
def calm (o:Oper):Bool:=match o.op with
 | .store .. | .mapUpdate .. | .insert .. | .makeMap .. | .makeSlice .. | .box .. | .panic .. =>false
 | .call ⟨.builtin .append,_,_⟩| .call ⟨.builtin .copy,_,_⟩| .call ⟨.builtin .delete,_,_⟩=>false
 |_=>true
def w3q {α:Type}{l:List α}{k:Nat}{v:α}(hv:l[k]? =some v):l.set k v=l:=by
 apply List.ext_getElem?;intro i;rw[a1k]
 by_cases hi:k=i
 ·subst hi;rw[if_pos rfl,if_pos (a0c.1 hv).1,hv]
 ·rw[if_neg hi]
def x1t.drew {E:Ent}{s:VSt}{a:Act}{w:World}(hs:x1t E s a w):x1t E s a w.drew:=by
 obtain⟨g,hs⟩:=hs;have ho:Over [] w g w.drew g:=⟨Gh.Le.refl _ _,fun _ _ _=>rfl⟩
 have hk:Keep [] g s.h w g s.h w.drew:=⟨⟨hs.heap.n,fun b x hx=>by
  have:=x1r.over ho (by rw[hs.heap.n];exact(a0c.1 hx).1) (by simp) (fun k _=>rfl) (hs.heap.rep b x hx)
  rwa [Box.j0c]at this,hs.heap.sep,hs.heap.zsep,hs.heap.zlt,hs.heap.tab⟩,Gh.Le.refl _ _,Fr.drew _ _,fun _ _ h=> .inl h,fun _ h=> .inl h⟩
 exact⟨g,hk.heap,hs.size,fun i u v h1 h2=>ho.j0b (hs.tmps i u v h1 h2),hs.defers.keep hk,hs.step hk (by simp[okM]),hs.len⟩
end
section
variable {P : Program} {M : List Nat} {h h' h2 h0 hh : List Box} {ρ ρ2 : Operand -> V} {o : Oper} {x : V} {ops : Array Oper} {W : List Nat}
def isSt (o:Oper):Bool:=match o.op with
 | .store .. =>true
 |_=>false
def early (ops:Array Oper)(i:Nat):Bool:=(List.range ops.size).all fun j=>match ops[j]? with
 |some oj=> !isSt oj || y5n oj i
 |none=>true
def k7k (ops:Array Oper):Bool:=(List.range ops.size).all fun j=>match ops[j]? with
 |some oj=> !isSt oj || (List.range j).all fun i=>match ops[i]? with
  |some oi=> !isSt oi || y5n oj i
  |none=>true
 |none=>true
def y7z (W:List Nat)(h0 h2:List Box):Prop:= ∀(b:Nat) x,b ∉ W->h0[b]? =some x->h2[b]? =some x
def z1i (h:List Box):List Nat->List Box
 | []=>h
 |b::bs=>z1i (h.set b .gone) bs
def y9g: ∀ {W:List Nat} {h:List Box} {b:Nat} {x:Box},(z1i h W)[b]? =some x->x= .gone\/(b ∉ W/\h[b]? =some x)
 | [],h,b,x,hx=> .inr ⟨by simp,hx⟩
 |c::W,h,b,x,hx=>by
  rcases y9g (W:=W) hx with h1|⟨h1,h2⟩
  ·exact .inl h1
  ·rw[a1k]at h2
   by_cases hc:c=b
   ·subst hc;rw[if_pos rfl]at h2;split at h2
    ·cases h2;exact .inl rfl
    ·cases h2
   ·rw[if_neg hc]at h2;exact .inr ⟨by simp;exact⟨fun e=>hc e.symm,h1⟩,h2⟩
def y7z.pre (hp:y7z W h0 h2):Pre (z1i h0 W) h2:=fun b x hx=>by
 rcases y9g hx with h1|⟨h1,h3⟩
 ·exact .inl h1
 ·exact .inr (hp b x h1 h3)
inductive Eff where
 |no
 |late
 |early
 |alloc (b:Box)
 |st (b:Nat) (c c':Box)
def Eff.ok (W:List Nat)(h0 hh:List Box):Eff->Prop
 | .no=>True
 | .late=>y7z W h0 hh
 | .early=>Pre h0 hh
 | .alloc _=>hh.length=h0.length
 | .st b c _=>hh[b]? =some c/\y7z W h0 hh/\b∈W/\b < h0.length
def Eff.run (hh:List Box):Eff->List Box
 | .alloc b=>hh++[b]
 | .st b _ c'=>hh.set b c'
 |_=>hh
def q0p (P:Program)(ops:Array Oper)(W:List Nat)(h0:List Box)(i:Nat)(o:Oper)(t:List V)(x:V):Eff->Prop
 | .no=>x5v ops o t=some false/\x= .tup []
 | .late=>x5v ops o t=some true/\ ∀h2,y7z W h0 h2->x0p P [] h2 h2 (x3n o (VSt.get ⟨t,h0⟩)) o x
 | .early=>x5v ops o t=some true/\early ops i=true/\ ∀h2,Pre h0 h2->x0p P [] h2 h2 (x3n o (VSt.get ⟨t,h0⟩)) o x
 | .alloc b=>x5v ops o t=some true/\x= .ptr h0.length 0/\z3f P o=some b
 | .st b c c'=>x5v ops o t=some true/\isSt o=true/\ ∀h2,y7z W h0 h2->h2[b]? =some c->x0p P [] h2 (h2.set b c') (x3n o (VSt.get ⟨t,h0⟩)) o x
def q0p.put {i:Nat}{t:List V}{d:Option Tmp}{y:V}(hd: ∀k,d=some k->k ∉ o.looksAt ops)(e:Eff):q0p P ops W h0 i o (x3l t d y) x e↔q0p P ops W h0 i o t x e:=by
 cases e<;>simp only[q0p,y1o hd,x7v hd]
def y4m (hl:hh.length=h0.length)(b:Box):y7z W h0 (hh++[b])↔y7z W h0 hh:=by
 constructor<;>intro hp c x hc hx<;>have hlt:=(a0c.1 hx).1<;>have:=hp c x hc hx
 ·rwa [a0y,if_pos (by omega)]at this
 ·rw[a0y,if_pos (by omega)];exact this
def u4o (hl:hh.length=h0.length)(b:Box):Pre h0 (hh++[b])↔Pre h0 hh:=by
 constructor<;>intro hp c x hx<;>have hlt:=(a0c.1 hx).1<;>rcases hp c x hx with h1|h1
 ·exact .inl h1
 ·rw[a0y,if_pos (by omega)]at h1;exact .inr h1
 ·exact .inl h1
 ·refine .inr ?_;rw[a0y,if_pos (by omega)];exact h1
def u8c {b:Nat}(hb:b∈W)(c:Box):y7z W h0 (hh.set b c)↔y7z W h0 hh:=by
 constructor<;>intro hp k x hk hx<;>have hne:b≠k:=(fun e=>hk (e▸hb))<;>have:=hp k x hk hx
 ·rwa [a1k,if_neg hne]at this
 ·rw[a1k,if_neg hne];exact this
def Eff.isSt:Eff->Bool
 | .st .. =>true
 |_=>false
def Eff.j0v:Eff->Bool
 | .early=>true
 |_=>false
def Eff.swap {e1 e2:Eff}(h1:e1.ok W h0 hh)(h2:e2.ok W h0 (e1.run hh))(hss:e1.isSt=true->e2.isSt=true->False)(hse:e1.isSt=true->e2.j0v=true->False)(hes:e1.j0v=true->e2.isSt=true->False):
  e2.ok W h0 hh/\e1.ok W h0 (e2.run hh)/\e1.run (e2.run hh)=e2.run (e1.run hh):=by
 cases e1 with
 |no=>exact⟨h2,trivial,rfl⟩
 |late=>
  cases e2 with
  |no=>exact⟨h2,h1,rfl⟩
  |late=>exact⟨h2,h1,rfl⟩
  |early=>exact⟨h2,h1,rfl⟩
  |alloc b=>exact⟨h2,(y4m h2 b).2 h1,rfl⟩
  |st b c c'=>exact⟨h2,(u8c h2.2.2.1 c').2 h1,rfl⟩
 |early=>
  cases e2 with
  |no=>exact⟨h2,h1,rfl⟩
  |late=>exact⟨h2,h1,rfl⟩
  |early=>exact⟨h2,h1,rfl⟩
  |alloc b=>exact⟨h2,(u4o h2 b).2 h1,rfl⟩
  |st b c c'=>exact(hes rfl rfl).elim
 |alloc b=>
  have h1:hh.length=h0.length:=h1;cases e2 with
  |no=>exact⟨trivial,h1,rfl⟩
  |late=>exact⟨(y4m h1 b).1 h2,h1,rfl⟩
  |early=>exact⟨(u4o h1 b).1 h2,h1,rfl⟩
  |alloc b'=>
   have h2:(hh++[b]).length=h0.length:=h2;simp at h2;omega
  |st k c c'=>
   obtain⟨q1,q2,q3,q4⟩:=h2;have hk:k < hh.length:=by omega
   refine⟨⟨?_,(y4m h1 b).1 q2,q3,q4⟩,?_,?_⟩
   ·have q1:(hh++[b])[k]? =some c:=q1
    rwa [a0y,if_pos hk]at q1
   ·show(hh.set k c').length=h0.length;simpa using h1
   ·show hh.set k c'++[b]=(hh++[b]).set k c';rw[List.set_append_left _ _ hk]
 |st k c c'=>
  obtain⟨q1,q2,q3,q4⟩:=h1;cases e2 with
  |no=>exact⟨trivial,⟨q1,q2,q3,q4⟩,rfl⟩
  |late=>exact⟨q2,⟨q1,q2,q3,q4⟩,rfl⟩
  |early=>exact(hse rfl rfl).elim
  |alloc b'=>
   have h2:(hh.set k c').length=h0.length:=h2;have h2:hh.length=h0.length:=by simpa using h2
   have hk:k < hh.length:=by omega
   refine⟨h2,⟨?_,(y4m h2 b').2 q2,q3,q4⟩,?_⟩
   ·show(hh++[b'])[k]? =some c;rw[a0y,if_pos hk];exact q1
   ·show(hh++[b']).set k c'=hh.set k c'++[b'];rw[List.set_append_left _ _ hk]
  |st=>exact(hss rfl rfl).elim
def w2i (P:Program)(ops:Array Oper)(W:List Nat)(h0:List Box)(i:Nat)(o:Oper)(t:List V)(hh:List Box)(x:V)(hh':List Box):Prop:=
 ∃e,q0p P ops W h0 i o t x e/\Eff.ok W h0 hh e/\hh'=e.run hh
def v9u {i:Nat}{t:List V}{e:Eff}(hf:q0p P ops W h0 i o t x e):(e.isSt=true->isSt o=true)/\(e.j0v=true->early ops i=true):=by
 cases e with
 |st=>exact⟨fun _=>hf.2.1,fun h=>by simp[Eff.j0v]at h⟩
 |early=>exact⟨fun h=>by simp[Eff.isSt]at h,fun _=>hf.2.1⟩
 |_=>exact⟨fun h=>by simp[Eff.isSt]at h,fun h=>by simp[Eff.j0v]at h⟩
def w2i.put {i j:Nat}{oi oj:Oper}{t:List V}{hi' hj':List Box}{xi xj:V}(hap:oi.apart ops oj=true)(hss:isSt oi=true->isSt oj=true->False)(hse:isSt oi=true->early ops j=true->False)(hes:early ops i=true->isSt oj=true->False)
  (hi:w2i P ops W h0 i oi t hh xi hi') (hj:w2i P ops W h0 j oj (x3l t oi.dst xi) hi' xj hj'):
  ∃hh1,w2i P ops W h0 j oj t hh xj hh1/\w2i P ops W h0 i oi (x3l t oj.dst xj) hh1 xi hj'/\x3l (x3l t oj.dst xj) oi.dst xi=x3l (x3l t oi.dst xi) oj.dst xj:=by
 obtain⟨a1,a2,a3⟩:=Oper.apart_spec hap;obtain⟨e1,f1,k1,rfl⟩:=hi;obtain⟨e2,f2,k2,rfl⟩:=hj;rw[q0p.put a1]at f2;obtain⟨s1,s2⟩:=v9u f1;obtain⟨s3,s4⟩:=v9u f2;obtain⟨q1,q2,q3⟩:=Eff.swap k1 k2 (fun h1 h2=>hss (s1 h1) (s3 h2)) (fun h1 h2=>hse (s1 h1) (s4 h2)) (fun h1 h2=>hes (s2 h1) (s3 h2))
 exact⟨_,⟨e2,f2,q1,rfl⟩,⟨e1,(q0p.put a3 e1).2 f1,q2,q3.symm⟩,(x5k a2 t xi xj).symm⟩
def w2i.wp {E:Ent}{i:Nat}{t:List V}{hh':List Box}{a:Act}{w:World}(ho:w2i P ops W h0 i o t hh x hh')(hs:x1t E ⟨t,hh⟩ a w){K:Act->World->Prop}{Q:Exit->Act->World->Prop}
  (hK: ∀a' w',x1t E ⟨x3l t o.dst x,hh'⟩ a' w'->K a' w'):if Region.wanted o (yielded ops a.tmps)then o.wp P a w K Q else K (a.put o.dst undef) w:=by
 have hnext: ∀h' x,VSt.next ⟨t,hh⟩ [] h' o.dst x=⟨x3l t o.dst x,h'⟩:=fun h' x=>by first|(simp only[VSt.next,x3l];done)|(simp only[VSt.next,x3l];cases o.dst<;>rfl)
 have go: ∀ {h'},x0p P [] hh h' (x3n o (VSt.get ⟨t,h0⟩)) o x->hh'=h'->x5v ops o t=some true->if Region.wanted o (yielded ops a.tmps)then o.wp P a w K Q else K (a.put o.dst undef) w:=by
  intro h' hg he hw;subst he;rw[if_pos (x4d hs hw)];rw[y8k t h0 hh]at hg;refine x0p.sim (s:=⟨t,hh⟩) hg.j0p hs (by simp[okM]) fun a' w' hs'=>hK a' w' ?_
  rwa [hnext]at hs'
 obtain⟨e,hf,hok,he⟩:=ho;cases e with
 |no=>
  obtain⟨hw,rfl⟩:=hf;have he:hh'=hh:=he;subst he;rw[if_neg (by rw[x4d hs hw];simp)]
  refine hK _ _ ?_;obtain⟨g,hs⟩:=hs;have:=hs.next (.refl hs.heap) (by simp[okM]) (.tup (w:=w) (g:=g) #[] [] rfl (by simp)) o.dst
  rw[hnext]at this;exact⟨g,this⟩
 |late=>exact go (hf.2 hh hok) he hf.1
 |early=>exact go (hf.2.2 hh hok) he hf.1
 |st b c c'=>exact go (hf.2.2 hh hok.2.1 hok.1) he hf.1
 |alloc b=>
  obtain⟨hw,rfl,hb⟩:=hf;have hl:hh.length=h0.length:=hok;have he:hh'=hh++[b]:=he;subst he;unfold z3f at hb;split at hb
  ·rename_i ty hop;split at hb
   ·rename_i z hz;split at hb
    ·rename_i vs hvs;cases hb;have hg:x0p P [] hh (hh++[.cells (.ty ty) vs]) (VSt.get ⟨t,hh⟩) o (.ptr hh.length 0):=y0w hop hz hvs;rw[if_pos (x4d hs hw)];refine x0p.sim (s:=⟨t,hh⟩) hg hs (by simp[okM]) fun a' w' hs'=>hK a' w' ?_
     rw[hnext,hl]at hs';exact hs'
    ·cases hb
   ·cases hb
  ·cases hb
def v4t (P:Program)(ops:Array Oper)(W:List Nat)(h0:List Box)(K:List V->List Box->Prop):Nat->Array Bool->List V->List Box->Prop
 |0,listed,t,hh=>Region.ready .any ops listed= []/\K t hh
 |fuel+1,listed,t,hh=>Region.ready .any ops listed≠[]/\ ∀i∈Region.ready .any ops listed,∃o x hh',ops[i]? =some o/\w2i P ops W h0 i o t hh x hh'/\v4t P ops W h0 K fuel (listed.setIfInBounds i true) (x3l t o.dst x) hh'
def z5n {i j:Nat}{oj:Oper}(he:early ops i=true)(hj:ops[j]? =some oj)(hs:isSt oj=true):y5n oj i=true:=by
 have:=a0l.1 he j (List.mem_range.2 (a0r.1 hj).1);rw[hj]at this
 simpa[hs]using this
def z9k (h:k7k ops=true){i j:Nat}{oi oj:Oper}(hi:ops[i]? =some oi)(hj:ops[j]? =some oj)(hij:i < j)(s1:isSt oi=true)(s2:isSt oj=true):y5n oj i=true:=by
 have:=a0l.1 h j (List.mem_range.2 (a0r.1 hj).1);rw[hj]at this;simp only[s2,Bool.not_true,a1d]at this;have:=a0l.1 this i (List.mem_range.2 hij);rw[hi]at this
 simpa[s1]using this
def u4c {K:List V->List Box->Prop}(hst:k7k ops=true){i:Nat}{oi:Oper}{xi:V}(hi:ops[i]? =some oi):
  ∀(fuel:Nat) (listed:Array Bool) (t:List V) (hh hhi:List Box),
   (∀j oj,ops[j]? =some oj->j≠i->listed.getD j true=false->(∀e∈oj.after,Region.binds .any e=true->e.on≠i)->oi.apart ops oj=true)->
   i∈Region.ready .any ops listed->w2i P ops W h0 i oi t hh xi hhi->
   v4t P ops W h0 K fuel (listed.setIfInBounds i true) (x3l t oi.dst xi) hhi->v4t P ops W h0 K (fuel+1) listed t hh:=by
 intro fuel
 induction fuel with
 |zero=>
  intro listed t hh hhi _ hr ho H;refine⟨fun h=>(by rw[h]at hr;cases hr),fun j hj=> ?_⟩
  by_cases hji:j=i
  ·subst hji;exact⟨oi,xi,hhi,hi,ho,H⟩
  ·have:=ready_mono hj hji;rw[H.1]at this;cases this
 |succ fuel ih=>
  intro listed t hh hhi hfree hr ho H;refine⟨fun h=>(by rw[h]at hr;cases hr),fun j hj=> ?_⟩
  by_cases hji:j=i
  ·subst hji;exact⟨oi,xi,hhi,hi,ho,H⟩
  ·obtain⟨oj,xj,hbj,hoj,hout,hrest⟩:=H.2 j (ready_mono hj hji);obtain⟨hjun,oj',hoj',hall⟩:=mem_ready.1 hj;rw[hoj]at hoj';cases hoj';obtain⟨hiun,oi',hoi',halli⟩:=mem_ready.1 hr;rw[hi]at hoi';cases hoi';have hnot: ∀e∈oj.after,Region.binds .any e=true->e.on≠i:=fun e he hb heq=>by
    have h1:=hall e he hb;rw[heq,x3y hr]at h1;cases h1
   have hnoti: ∀e∈oi.after,Region.binds .any e=true->e.on≠j:=fun e he hb heq=>by
    have h1:=halli e he hb;rw[heq,x3y hj]at h1;cases h1
   have no1:y5n oj i=true->False:=fun h=>by obtain⟨e,he,hb,ho⟩:=y0y h;exact hnot e he hb ho
   have no2:y5n oi j=true->False:=fun h=>by obtain⟨e,he,hb,ho⟩:=y0y h;exact hnoti e he hb ho
   obtain⟨hb1,o1,o2,e1⟩:=w2i.put (hfree j oj hoj hji hjun hnot)
    (fun s1 s2=>by
     rcases Nat.lt_or_gt_of_ne hji with hlt|hgt
     ·exact no2 (z9k hst hoj hi hlt s2 s1)
     ·exact no1 (z9k hst hi hoj hgt s1 s2))
    (fun s1 he=>no2 (z5n he hi s1)) (fun he s2=>no1 (z5n he hoj s2)) ho hout
   refine⟨oj,xj,hb1,hoj,o1,ih (listed.setIfInBounds j true) _ hb1 hbj (fun k ok hk hki hun hno=> ?_) (ready_mono hr (Ne.symm hji)) o2 ?_⟩
   ·refine hfree k ok hk hki ?_ hno
    by_cases hjk:j=k
    ·subst hjk;exact hjun
    ·rw[getD_set_ne true hjk]at hun;exact hun
   ·rw[Array.setIfInBounds_comm _ _ hji,e1];exact hrest
def q1b (P:Program)(ops:Array Oper)(W:List Nat)(h0:List Box)(K:List V->List Box->Prop):Nat->List Oper->List V->List Box->Prop
 |_,[],t,hh=>K t hh
 |k,o::os,t,hh=> ∃x hh',w2i P ops W h0 k o t hh x hh'/\q1b P ops W h0 K (k+1) os (x3l t o.dst x) hh'
def y4z (ops:Array Oper):Nat->Nat->Array Bool->Bool
 |0,_,listed=>(Region.ready .any ops listed).isEmpty
 |n+1,k,listed=>(Region.ready .any ops listed).contains k&&Region.free .any ops listed k&&y4z ops n (k+1) (listed.setIfInBounds k true)
def z8w {K:List V->List Box->Prop}(hst:k7k ops=true): ∀(l:List Oper) (k:Nat) (listed:Array Bool) (t:List V) (hh:List Box),(∀j,l[j]? =ops[k+j]?)->
  y4z ops l.length k listed=true->q1b P ops W h0 K k l t hh->v4t P ops W h0 K l.length listed t hh
 | [],_,_,_,_,_,hB,h=>⟨by simpa[y4z]using hB,h⟩
 |o::l,k,listed,t,hh,hl,hB,⟨x,hh',ho,h⟩=>by
  have h0:ops[k]? =some o:=by simpa using(hl 0).symm
  simp only[a0a,y4z,a0g]at hB;obtain⟨⟨hr,hf⟩,hB'⟩:=hB;exact u4c hst h0 l.length listed t hh hh' (Region.free_spec h0 hf) (by simpa using hr) ho
   (z8w hst l (k+1) _ _ _ (fun j=>by have:=hl (j+1);simpa[a2e,Nat.add_comm 1 j]using this) hB' h)
def y9s {ro:Option Nat}{E:Ent}{K:List V->List Box->Prop}{Q:Exit->Act->World->Prop}(hnd: ∀(i:Nat) o,ops[i]? =some o->z1a o=true)(hK: ∀t hh a w,K t hh->x1t E ⟨t,hh⟩ a w->Q .normal a w):
  ∀(fuel:Nat) (listed:Array Bool) (t:List V) (hh:List Box) (a:Act) (w:World),v4t P ops W h0 K fuel listed t hh->x1t E ⟨t,hh⟩ a w->wpAnyIn (Fw ro) 0 P .any ops Q fuel listed a w
 |0,listed,t,hh,a,w,⟨hno,hk⟩,hs=>⟨hno,hK t hh a w hk hs⟩
 |fuel+1,listed,t,hh,a,w,⟨hne,hall⟩,hs=>by
  refine⟨fun h=>(hne h).elim,fun i hi=> ?_⟩
  obtain⟨o,x,hh',ho,hout,hrest⟩:=hall i hi;unfold wpOpIn;simp only[ho];have h1:=hout.wp (Q:=Q) hs (K:=wpAnyIn (Fw ro) 0 P .any ops Q fuel (listed.setIfInBounds i true)) fun a' w' hs'=>
   y9s hnd hK fuel _ _ _ a' w' hrest hs'
  split
  ·rename_i hw;rw[if_pos hw]at h1;exact x9f (hnd i o ho) h1
  ·rename_i hw;rw[if_neg hw]at h1;exact⟨fun _ _=>trivial,h1⟩
def y7g (P:Program)(ops:Array Oper)(s:VSt):Nat->Operand->Option V
 |0,_=>none
 |n+1,y=>match y with
  | .tmp a=>match ops.toList.find? fun o=>o.dst == some a with
    |none=>some (s.t.getD a .any)
    |some o=>match o.op with
     | .move z=>y7g P ops s n z
     | .assign z=>y7g P ops s n z
     | .nilCheck z=>y7g P ops s n z
     | .fieldAddr st z f=>match y7g P ops s n z,k2q P st f with
       |some v,some k=>addF v k
       |_,_=>none
     | .load _ z=>match y7g P ops s n z with
       |some (.ptr b off)=>match s.h[b]? with
        |some (.cells (.ty _) vs)=>vs[off]?
        |_=>none
       |_=>none
     | .indexAddr _ z _=>match y7g P ops s n z with
       |some (.own b)=>some (.pml b 0 0 0)
       |_=>none
     |_=>none
  |_=>none
def k0m (P:Program)(ops:Array Oper)(s:VSt)(o:Oper):List Nat:=match o.op with
 | .store _ y _=>match y7g P ops s 12 y with
   |some (.ptr b _)=>[b]
   |some (.pml b _ _ _)=>[b]
   |_=>[]
 | .mapUpdate _ y _ _=>match y7g P ops s 12 y with
   |some (.map b)=>[b]
   |_=>[]
 |_=>[]
def w4o {v:V}(hp:Pre h h2)(hn:v.j1t h=true):v.j1t h2=true:=by
 unfold V.j1t at hn ⊢;split<;>simp_all
 all_goals
  split at hn
  ·rename_i heq;rw[hp.at heq nofun]
  ·cases hn
def w0i (ops:Array Oper):Bool:=k7k ops&&y4z ops ops.size 0 (Array.replicate ops.size false)
end
section
variable {P : Program} {M : List Nat} {h h' h2 h0 : List Box} {ρ ρ2 : Operand -> V} {o : Oper} {x : V} {ops : Array Oper}
def v8l:Code->Nat
 | .region id _ _=>3*id+1
 | .cond (.tmp t) _ _=>3*t+2
 | .block id _=>3*id+3
 | .seq a _=>v8l a
 |_=>0
def VSt.j2r (s:VSt)(c:Operand)(b:Bool):VSt:=match c with
 | .tmp k=>s.j1p k b
 |_=>s
def u7m {E:Ent}{s:VSt}{a:Act}{w:World}{c:Operand}{b:Bool}(hs:x1t E s a w)(ht:s.get c= .d (.bool b)):x1t E (s.j2r c b) a w:=by
 cases c with
 |tmp k=>
  refine(y8v hs (t:=k) (c:=b) ?_).1;have ht:s.t.getD k .any= .d (.bool b):=ht;rw[a0i]at ht;cases hq:s.t[k]? with
  |none=>rw[hq]at ht;cases ht
  |some v=>rw[hq]at ht;exact congrArg some ht
 |_=>exact hs
def x1t.len {E:Ent}{s:VSt}{a:Act}{w:World}(hs:x1t E s a w):s.t.length=E.len:=by obtain⟨g,hs⟩:=hs;exact hs.len
def u7t (P:Program)(s:VSt):ResultVar->Option V
 | .tmp t=>some (s.t.getD t .any)
 | .cell a t=>match s.t.getD a .any,szO P t,(P.underlying t).isSome,y4c P t with
   | .ptr b off,some n,true,ag=>match s.h[b]? with
     |some (.cells (.ty _) vs)=>match ag with
      |true=>match decide (off+n<=vs.length)with
       |true=>some (.agg ((vs.drop off).take n))
       |false=>none
      |false=>vs[off]?
     |_=>none
   |_,_,_,_=>none
def z0k (P:Program)(s:VSt):List ResultVar->Option (List V)
 | []=>some []
 |r::rs=>match u7t P s r,z0k P s rs with
  |some v,some vs=>some (v::vs)
  |_,_=>none
def z9p (P:Program)(s:VSt)(rs:List ResultVar):Option V:=match z0k P s rs with
 |some [v]=>some v
 |some vs=>some (.tup vs)
 |none=>none
def z9n (r:ResultVar)(tmps:Array Value):Sem Value:=match r with
 | .tmp t=>pure (tmps.getD t undef)
 | .cell a t=>do loadVar t (<-asAddr (tmps.getD a undef))
def v1n {E:Ent}{s:VSt}{a:Act}{w:World}{g:Gh}(hs:Sim E s a w g){r:ResultVar}{v:V}(hr:u7t P s r=some v): ∃u,(z9n r a.tmps).run P w= .ok u w/\Rep w g u v:=by
 cases r with
 |tmp t=>simp only[u7t,Option.some.injEq]at hr;subst hr;exact⟨_,rfl,hs.get (.tmp t)⟩
 |cell q t=>
  simp only[u7t]at hr;split at hr
  ·rename_i b off n hq hn hu;have hG:=hs.get (.tmp q);rw[show s.get (.tmp q)=_ from hq]at hG;obtain⟨e,hbn⟩:=x3p hG;have e:a.tmps.getD q undef= .pointer (some ⟨g.blk b,off,none⟩):=e;split at hr
   ·rename_i bt vs hb;obtain⟨us,hh,hsz,hr'⟩:=x5d (hs.heap.rep b _ hb);split at hr
    ·have ha:= ‹y4c P t=true›;split at hr
     ·rename_i hle;have hle:=a0e hle;cases hr;have hl:=run_loadCells (P:=P) w ⟨g.blk b,off,none⟩ n (fun j=>us[off+j]?.getD undef) (fun j hj=>by
       rw[x4b,x2w hh];simp[show off+j < us.size by omega])
      refine⟨.agg ((List.range n).map fun j=>us[off+j]?.getD undef).toArray,?_, .agg _ _ ?_ ?_⟩
      ·simp only[z9n,e,asAddr,loadVar,Sem.run_bind,x1q hu ha,Sem.run_pure,Result.andThen_ok,if_true,x0s hn,hl]
      ·simp;omega
      ·intro i u c hu' hc;rw[a1s,a1x]at hc;split at hc
       ·rename_i hi;have e1:u=us[off+i]?.getD undef:=by simp[hi]at hu';exact hu'.symm
        have hlt:off+i < us.size:=by
         have:=(a0c.1 hc).1;omega
        refine hr' (off+i) u c ?_ hc;rw[e1];simp[hlt]
       ·cases hc
     ·cases hr
    ·have ha:= ‹y4c P t=false›;have hlt:off < us.size:=by rw[hsz];exact(a0c.1 hr).1
     have hu':us[off]? =some us[off]:=a0x hlt;refine⟨us[off],?_,hr' off _ _ hu' hr⟩;simp[z9n,e,asAddr,loadVar,x1q hu ha,run_load,x2w hh,hu']
   ·cases hr
  ·cases hr
def z0j {E:Ent}{s:VSt}{a:Act}{w:World}{g:Gh}(hs:Sim E s a w g): ∀ {rs:List ResultVar} {vs:List V},z0k P s rs=some vs->
  ∃us:List Value,(rs.mapM fun r=>z9n r a.tmps).run P w= .ok us w/\z5x w g us vs
 | [],vs,hr=>by cases hr;exact⟨[],by simp,rfl,by simp⟩
 |r::rs,vs,hr=>by
  simp only[z0k]at hr;split at hr
  ·rename_i v vs' h1 h2;cases hr;obtain⟨u,e1,r1⟩:=v1n hs h1;obtain⟨us,e2,r2,r3⟩:=z0j hs h2;refine⟨u::us,by simp[List.mapM_cons,e1,e2],by simp[r2],fun i u' v' hu hv=> ?_⟩
   cases i with
   |zero=>simp at hu hv;subst hu;subst hv;exact r1
   |succ i=>exact r3 i u' v' (by simpa using hu) (by simpa using hv)
  ·cases hr
def y0n {E:Ent}{s:VSt}{a:Act}{w:World}{g:Gh}(hs:Sim E s a w g){fn:Func}{v:V}(hr:z9p P s fn.results.toList=some v):
  ∃u,(results fn a.tmps).run P w= .ok u w/\Rep w g u v:=by
 have key: ∀ {vs:List V},z0k P s fn.results.toList=some vs-> ∃us:List Value,(results fn a.tmps).run P w= .ok (if h:us.toArray.size=1 then us.toArray[0]else .tuple us.toArray) w/\z5x w g us vs:=by
  intro vs hvs;obtain⟨us,e,hus⟩:=z0j hs hvs;refine⟨us,?_,hus⟩;have:(fn.results.mapM fun r=>z9n r a.tmps).run P w= .ok us.toArray w:=by
   rw[Array.mapM_eq_mapM_toList];simp[e]
  unfold results;simp only[Sem.run_bind];exact(congrArg (fun r=>r.andThen fun (a:Array Value) w'=>Sem.run P (pure (if h:a.size=1 then a[0]else Value.tuple a)) w') this).trans rfl
 unfold z9p at hr;split at hr
 ·rename_i v' hvs;cases hr;obtain⟨us,e,h1,h2⟩:=key hvs
  match us,h1,h2,e with
  | [u],_,h2,e=>exact⟨u,e,h2 0 u v rfl rfl⟩
 ·rename_i vs hne hvs;cases hr;obtain⟨us,e,h1,h2⟩:=key hvs;have hn1:us.toArray.size≠1:=by
   intro hc;have:vs.length=1:=by rw[<-h1];simpa using hc
   match vs,this with
   | [v],_=>exact hne v rfl
  rw[dif_neg hn1]at e;exact⟨_,e, .tup us.toArray vs (by simpa using h1) fun i u c hu hc=>h2 i u c (by simpa using hu) hc⟩
 ·cases hr
def V.j1c:V->List Nat
 | .tup cs=>cs.flatMap V.j1s
 |v=>v.j1s
def x4h (fn:Func)(args:List V)(h:List Box):VSt:= { t:=args++List.replicate (fn.ntmps - args.length) .any,h:=h }
def y6w {fn:Func}{args:List V}{g:Gh}{w:World}{us:List Value}(M:List Nat)(nr:Bool:=false)(hs:SimH g h w)(hu:z5x w g us args):
  Sim ⟨w,g,h,M,(x4h fn args h).t.length,[],nr⟩ (x4h fn args h) { tmps:=us.toArray++Array.replicate (fn.ntmps - us.toArray.size) undef,defers:=[] } w g:=by
 have hl:us.toArray.size=args.length:=by simpa using hu.1
 refine⟨hs,by simp[x4h,hu.1],fun i u v h1 h2=> ?_, .none,⟨Gh.Le.refl _ _,Fr.refl _ _,fun _ _ h=> .inl h,fun _ h=> .inl h⟩,rfl⟩
 simp only[x4h,a0y]at h2;rw[Array.getElem?_append,hl]at h1;split at h2
 ·rename_i hi;rw[if_pos hi]at h1;exact hu.2 i u v (by simpa using h1) h2
 ·have:=List.eq_of_mem_replicate (a0j h2);subst this;exact .any u
def z2i {fn:Func}{args:List V}{g:Gh}{w:World}{us:List Value}(M:List Nat)(nr:Bool:=false)(hs:SimH g h w)(hu:z5x w g us args):
  x1t ⟨w,g,h,M,(x4h fn args h).t.length,[],nr⟩ (x4h fn args h) { tmps:=us.toArray++Array.replicate (fn.ntmps - us.toArray.size) undef,defers:=[] } w:=⟨g,y6w M (nr:=nr) (hs:=hs) (hu:=hu)⟩
end
section
variable {P : Program} {M : List Nat} {h h' : List Box} {ρ : Operand -> V} {o : Oper} {x : V}
def u5m {t:TypeId}{y:Operand}{s:BA}(hop:o.op= .range t y)(hu:P.underlying t=some .string)(hy1:ρ y= .d (.str s)):
  x0p P [] h (h++[.cells .sit [.d (.str s), .d (.int .i64 0)]]) ρ o (.ptr h.length 0):=
 .of_run fun g ρ' w hs hy=>by
  have e1:=x2p (hy1▸hy y);have hb:(g.push w.heap.size undef).blk g.n=w.heap.size:=by simp[Gh.push]
  have hfr:Fr (fun _=>False) w (w.alloc (.stringIter s 0)):=Fr.alloc _ _ _
  have hk:=Keep.push (R:=none) hs w.heap.size undef (.cells .sit [.d (.str s), .d (.int .i64 0)]) hfr
   ⟨#[.string s, .int .i64 (0:Nat)],_,by rw[hb];exact x7h w _,⟨s,0,rfl,rfl⟩,rfl,fun i u v hu' hv=>by
     match i with
     |0=>simp at hu' hv;subst hu';subst hv;exact .d (.str _)
     |1=>simp at hu' hv;subst hu';subst hv;exact .d (.int _ _)
     |i+2=>simp at hv⟩ (fun k' hk'=>by simp only[Box.at?,hb,Option.some.injEq]at hk';omega)
  refine⟨.pointer (some ⟨w.heap.size,0,none⟩),_,_,?_,?_,hk⟩
  ·simp only[execOp,hop,Instr.range,e1,Sem.run_bind,run_underlying hu,Result.andThen_ok,Sem.run_pure,run_newObj,World.alloc_eq]
  ·have:=Rep.ptr (w:=w.alloc (.stringIter s 0)) (g:=g.push w.heap.size undef) g.n 0 (by simp[Gh.push])
   rwa [hb,hs.n]at this
def u2n (s:BA)(p:Int):Int:=((Utf8.decode s p.toNat).1:Int)
def w6b (s:BA)(p:Int):Int:=((Utf8.decode s p.toNat).2:Int)
def z5w {w:World}{g:Gh}{b:Nat}{s:BA}{p:Int}(hr:x1r w g b (.cells .sit [.d (.str s), .d (.int .i64 p)])):
  ∃n:Nat,p=n/\w.heap[g.blk b]? =some (.stringIter s n):=by
 obtain⟨us,o,h1,⟨s',n,rfl,rfl⟩,h3,h4⟩:=hr;have e0:=x2p (h4 0 _ _ rfl rfl);have e1:=x0o (h4 1 _ _ rfl rfl);cases e0;injection e1 with _ e1
 exact⟨n,e1.symm,h1⟩
def z1l {i:Operand}{b:Nat}{s:BA}{p:Int}(hop:o.op= .next i true)(hy1:ρ i= .ptr b 0)(hb:h[b]? =some (.cells .sit [.d (.str s), .d (.int .i64 p)]))(hp:p < s.size):
  x0p P [] h (h.set b (.cells .sit [.d (.str s), .d (.int .i64 (p+w6b s p))])) ρ o (.tup [.d (.bool true), .d (.int .i64 p), .d (.int .i32 (u2n s p))]):=
 .of_run fun g ρ' w hs hy=>by
  obtain⟨e1,hbn⟩:=x3p (hy1▸hy i);obtain⟨n,rfl,hn⟩:=z5w (hs.rep b _ hb);have hlt:n < s.size:=by omega
  have hget:(getObj (g.blk b)).run P w= .ok (.stringIter s n) w:=by simp[getObj,Sem.run,hn]
  have hset:(setObj (g.blk b) (.stringIter s (n+(Utf8.decode s n).2))).run P w= .ok () { w with heap:=w.heap.setIfInBounds (g.blk b) (.stringIter s (n+(Utf8.decode s n).2)) }:=by simp[setObj,Sem.run,hn]
  generalize hw':({ w with heap:=w.heap.setIfInBounds (g.blk b) (.stringIter s (n+(Utf8.decode s n).2)) }:World)=w' at hset
  have hheap:w'.heap[g.blk b]? =some (.stringIter s (n+(Utf8.decode s n).2)):=by
   rw[<-hw'];have:=(a0r.1 hn).1;simp[this]
  have hfr:Fr (fun k=>(Box.cells CK.sit [.d (.str s), .d (.int .i64 n)]).at? g b=some k) w w':=by
   rw[<-hw'];refine⟨rfl,rfl,rfl,by simp,fun k hk hnk=> ?_⟩
   have:g.blk b≠k:=fun e=>hnk (by simp only[Box.at?,e])
   simp[Array.getElem?_setIfInBounds_ne this]
  have hk:=Keep.turn (g':=g) (y:= .cells .sit [.d (.str s), .d (.int .i64 (n+w6b s n))]) hs hb [] (.inl ⟨rfl,rfl⟩) rfl rfl rfl (fun _ _=>⟨rfl,rfl⟩) hfr
   ⟨#[.string s, .int .i64 ((n+(Utf8.decode s n).2:Nat):Int)],_,hheap,⟨s,_,rfl,rfl⟩,rfl,fun i u v hu' hv=>by
     match i with
     |0=>simp at hu' hv;subst hu';subst hv;exact .d (.str _)
     |1=>
      simp at hu' hv;subst hu';subst hv;simp only[w6b,a0m];exact .d (.int _ _)
     |i+2=>simp at hv⟩ (fun k hk=> .inl hk)
  rw[x2v]at hk;refine⟨.tuple #[.bool true,goInt n, .int .i32 (Utf8.decode s n).1],w',g,?_, .tup _ _ rfl fun i u c hu' hc=> ?_,hk⟩
  ·simp only[execOp,hop,Instr.next,e1,Sem.run_bind,hget,Result.andThen_ok,if_pos hlt,hset,Sem.run_pure]
  ·match i with
   |0=>simp at hu' hc;subst hu';subst hc;exact .d (.bool _)
   |1=>simp at hu' hc;subst hu';subst hc;exact .d (.int _ _)
   |2=>simp at hu' hc;subst hu';subst hc;simp only[u2n,a0m];exact .d (.int _ _)
   |i+3=>simp at hc
def z1k {i:Operand}{b:Nat}{s:BA}{p:Int}(hop:o.op= .next i true)(hy1:ρ i= .ptr b 0)(hb:h[b]? =some (.cells .sit [.d (.str s), .d (.int .i64 p)]))(hp: ¬p < s.size):
  x0p P [] h h ρ o (.tup [.d (.bool false)]):=
 .pure fun g ρ' w hs hy=>by
  obtain⟨e1,hbn⟩:=x3p (hy1▸hy i);obtain⟨n,rfl,hn⟩:=z5w (hs.rep b _ hb);have hge: ¬n < s.size:=by omega
  have hget:(getObj (g.blk b)).run P w= .ok (.stringIter s n) w:=by simp[getObj,Sem.run,hn]
  refine⟨.tuple #[.bool false],?_, .tup _ _ rfl fun i u c hu' hc=> ?_⟩
  ·simp only[execOp,hop,Instr.next,e1,Sem.run_bind,hget,Result.andThen_ok,if_neg hge,Sem.run_pure]
  ·match i with
   |0=>simp at hu' hc;subst hu';subst hc;exact .d (.bool _)
   |i+1=>simp at hc
end
inductive Tree:Type->Type 1 where
 |ret {α:Type} (a:α):Tree α
 |fail {α:Type}:Tree α
 |ite {α:Type} (c:Bool) (x y:Tree α):Tree α
 |cI {α:Type} (v:Option D) (k:IntKind) (K:Int->Tree α):Tree α
 |cB {α:Type} (v:Option D) (K:Bool->Tree α):Tree α
 |cS {α:Type} (v:Option D) (K:BA->Tree α):Tree α
 |cL {α:Type} (v:Option D) (sz:Nat) (K:LL->Tree α):Tree α
 |call {α:Type} (f:FuncId) (args:List V) (K:List D->Tree α):Tree α
 |mint {α:Type} (f:FuncId) (args:List V) (e:TypeId) (sz:Nat) (K:LL->Tree α):Tree α
 |loop {α:Type} (body:List D->Tree (List D ⊕ α)) (ds:List D):Tree α
 |cut {α:Type} (x:Tree (List D ⊕ α)) (K:List D->Tree α):Tree α
def Tree.map: {α:Type}->Tree α-> {β:Type}->(α->β)->Tree β
 |_, .ret a,_,f=> .ret (f a)
 |_, .fail,_,_=> .fail
 |_, .ite c x y,_,f=> .ite c (x.map f) (y.map f)
 |_, .cI v k K,_,f=> .cI v k fun n=>(K n).map f
 |_, .cB v K,_,f=> .cB v fun n=>(K n).map f
 |_, .cS v K,_,f=> .cS v fun n=>(K n).map f
 |_, .cL v sz K,_,f=> .cL v sz fun n=>(K n).map f
 |_, .call g args K,_,f=> .call g args fun n=>(K n).map f
 |_, .mint g args e sz K,_,f=> .mint g args e sz fun n=>(K n).map f
 |_, .loop body ds,_,f=> .loop (fun ds=>(body ds).map fun s=>match s with
  | .inl d=> .inl d
  | .inr a=> .inr (f a)) ds
 |_, .cut x K,_,f=> .cut (x.map fun s=>match s with
  | .inl d=> .inl d
  | .inr a=> .inr (f a)) fun ds=>(K ds).map f
def Tree.bind: {α:Type}->Tree α-> {β:Type}->(α->Tree β)->Tree β
 |_, .ret a,_,f=>f a
 |_, .fail,_,_=> .fail
 |_, .ite c x y,_,f=> .ite c (x.bind f) (y.bind f)
 |_, .cI v k K,_,f=> .cI v k fun n=>(K n).bind f
 |_, .cB v K,_,f=> .cB v fun n=>(K n).bind f
 |_, .cS v K,_,f=> .cS v fun n=>(K n).bind f
 |_, .cL v sz K,_,f=> .cL v sz fun n=>(K n).bind f
 |_, .call g args K,_,f=> .call g args fun n=>(K n).bind f
 |_, .mint g args e sz K,_,f=> .mint g args e sz fun n=>(K n).bind f
 |_, .loop body ds,_,f=> .loop (fun ds=>(body ds).bind fun s=>match s with
  | .inl d=> .ret (.inl d)
  | .inr a=>(f a).map .inr) ds
 |_, .cut x K,_,f=> .cut (x.bind fun s=>match s with
  | .inl d=> .ret (.inl d)
  | .inr a=>(f a).map .inr) fun ds=>(K ds).bind f
def chk {α:Type}(c:Bool)(x:Tree α):Tree α:= .ite c x .fail
inductive PRes where
 |val (ds:List D)
 |own (e:TypeId) (sz:Nat) (rows:LL)
def PRes.leaves:PRes->List D
 | .val ds=>ds
 | .own _ sz rows=>[.sl sz rows]
structure Env where
 call:FuncId->List V->Option PRes
 lp: {α:Type}->(List D->Option (List D ⊕ α))->List D->Option α
def opI (v:Option D)(k:IntKind):Option Int:=match v with
 |some (.int k' n)=>match decide (k'=k)with
  |true=>some n
  |false=>none
 |_=>none
def opB (v:Option D):Option Bool:=match v with
 |some (.bool b)=>some b
 |_=>none
def opS (v:Option D):Option BA:=match v with
 |some (.str b)=>some b
 |_=>none
def opL (v:Option D)(sz:Nat):Option LL:=match v with
 |some (.sl sz' rows)=>match decide (sz'=sz)with
  |true=>some rows
  |false=>none
 |_=>none
def opM (p:Option PRes)(e:TypeId)(sz:Nat):Option LL:=match p with
 |some (.own e' sz' rows)=>match decide (e'=e/\sz'=sz)with
  |true=>some rows
  |false=>none
 |_=>none
def Tree.run (E:Env): {α:Type}->Tree α->Option α
 |_, .ret a=>some a
 |_, .fail=>none
 |_, .ite c x y=>match c with
  |true=>x.run E
  |false=>y.run E
 |_, .cI v k K=>(opI v k).bind fun n=>(K n).run E
 |_, .cB v K=>(opB v).bind fun n=>(K n).run E
 |_, .cS v K=>(opS v).bind fun n=>(K n).run E
 |_, .cL v sz K=>(opL v sz).bind fun n=>(K n).run E
 |_, .call f args K=>(E.call f args).bind fun p=>(K p.leaves).run E
 |_, .mint f args e sz K=>(opM (E.call f args) e sz).bind fun rows=>(K rows).run E
 |_, .loop body ds=>E.lp (fun ds=>(body ds).run E) ds
 |_, .cut x K=>(x.run E).bind fun s=>match s with
  | .inl ds=>(K ds).run E
  | .inr a=>some a
def w4m {v:Option D}{k:IntKind}{n:Int}(h:opI v k=some n):v=some (.int k n):=by
 unfold opI at h;split at h
 ·split at h
  ·rename_i hd;have:=a0e hd;subst this;cases h;rfl
  ·cases h
 ·cases h
def w4n {v:Option D}{n:Bool}(h:opB v=some n):v=some (.bool n):=by
 unfold opB at h;split at h<;>cases h;rfl
def w4k {v:Option D}{n:BA}(h:opS v=some n):v=some (.str n):=by
 unfold opS at h;split at h<;>cases h;rfl
def w4l {v:Option D}{sz:Nat}{n:LL}(h:opL v sz=some n):v=some (.sl sz n):=by
 unfold opL at h;split at h
 ·split at h
  ·rename_i hd;have:=a0e hd;subst this;cases h;rfl
  ·cases h
 ·cases h
def y8y {p:Option PRes}{e:TypeId}{sz:Nat}{rows:LL}(h:opM p e sz=some rows):p=some (.own e sz rows):=by
 unfold opM at h;split at h
 ·split at h
  ·rename_i hd;obtain⟨rfl,rfl⟩:=a0e hd;cases h;rfl
  ·cases h
 ·cases h
def Env.Ok (E:Env):Prop:= ∀ {α β:Type} (b:List D->Option (List D ⊕ α)) (f:α->Option β) (ds:List D),
 E.lp (fun ds=>(b ds).bind fun s=>match s with
  | .inl d=>some (.inl d)
  | .inr a=>(f a).map .inr) ds=(E.lp b ds).bind f
def v6l {E:Env}(hE:E.Ok): ∀ {α:Type} (t:Tree α) {β:Type} (f:α->β),(t.map f).run E=(t.run E).map f:=by
 intro α t
 induction t with
 |ret a=>intro β f;rfl
 |fail=>intro β f;rfl
 |ite c x y ihx ihy=>intro β f;cases c<;>simp only[Tree.map,Tree.run,ihx,ihy]
 |cI v k K ih=>intro β f;simp only[Tree.map,Tree.run];cases opI v k<;>simp[ih]
 |cB v K ih=>intro β f;simp only[Tree.map,Tree.run];cases opB v<;>simp[ih]
 |cS v K ih=>intro β f;simp only[Tree.map,Tree.run];cases opS v<;>simp[ih]
 |cL v sz K ih=>intro β f;simp only[Tree.map,Tree.run];cases opL v sz<;>simp[ih]
 |call g args K ih=>intro β f;simp only[Tree.map,Tree.run];cases E.call g args<;>simp[ih]
 |mint g args e sz K ih=>intro β f;simp only[Tree.map,Tree.run];cases opM (E.call g args) e sz<;>simp[ih]
 |loop body ds ih=>
  intro β f;simp only[Tree.map,Tree.run,ih];rw[Option.map_eq_bind,<-hE];congr 1;funext ds;cases(body ds).run E with
  |none=>rfl
  |some s=>cases s<;>rfl
 |cut x K ihx ihK=>
  intro β f;simp only[Tree.map,Tree.run,ihx,ihK];cases x.run E with
  |none=>rfl
  |some s=>cases s<;>rfl
def run_bind {E:Env}(hE:E.Ok): ∀ {α:Type} (t:Tree α) {β:Type} (f:α->Tree β),(t.bind f).run E=(t.run E).bind fun a=>(f a).run E:=by
 intro α t
 induction t with
 |ret a=>intro β f;rfl
 |fail=>intro β f;rfl
 |ite c x y ihx ihy=>intro β f;cases c<;>simp only[Tree.bind,Tree.run,ihx,ihy]
 |cI v k K ih=>intro β f;simp only[Tree.bind,Tree.run];cases opI v k<;>simp[ih]
 |cB v K ih=>intro β f;simp only[Tree.bind,Tree.run];cases opB v<;>simp[ih]
 |cS v K ih=>intro β f;simp only[Tree.bind,Tree.run];cases opS v<;>simp[ih]
 |cL v sz K ih=>intro β f;simp only[Tree.bind,Tree.run];cases opL v sz<;>simp[ih]
 |call g args K ih=>intro β f;simp only[Tree.bind,Tree.run];cases E.call g args<;>simp[ih]
 |mint g args e sz K ih=>intro β f;simp only[Tree.bind,Tree.run];cases opM (E.call g args) e sz<;>simp[ih]
 |loop body ds ih=>
  intro β f;simp only[Tree.bind,Tree.run,ih];rw[<-hE];congr 1;funext ds;cases(body ds).run E with
  |none=>rfl
  |some s=>cases s with
   |inl d=>rfl
   |inr a=>simp only[a1i,v6l hE]
 |cut x K ihx ihK=>
  intro β f;simp only[Tree.bind,Tree.run,ihx,ihK];cases x.run E with
  |none=>rfl
  |some s=>cases s with
   |inl d=>rfl
   |inr a=>simp only[a1i,v6l hE];cases(f a).run E<;>rfl
def x0c {E:Env}(hE:E.Ok){α β:Type}{t:Tree α}{f:α->Tree β}{b:β}(h:(t.bind f).run E=some b): ∃a,t.run E=some a/\(f a).run E=some b:=by
 rw[run_bind hE]at h;cases ht:t.run E with
 |none=>rw[ht]at h;cases h
 |some a=>rw[ht]at h;exact⟨a,rfl,h⟩
def x1b {E:Env}{α:Type}{c:Bool}{x:Tree α}{a:α}(h:(chk c x).run E=some a):c=true/\x.run E=some a:=by
 cases c with
 |true=>exact⟨rfl,h⟩
 |false=>cases h
def x5x {α:Type}:Nat->(List D->Option (List D ⊕ α))->List D->Option α
 |0,_,_=>none
 |n+1,b,ds=>match b ds with
  |some (.inl d)=>x5x n b d
  |some (.inr a)=>some a
  |none=>none
def z5h {α β:Type}(f:α->Option β)(b:List D->Option (List D ⊕ α)): ∀(n:Nat) (ds:List D),x5x n (fun ds=>(b ds).bind fun s=>match s with
  | .inl d=>some (.inl d)
  | .inr a=>(f a).map .inr) ds=(x5x n b ds).bind f
 |0,ds=>rfl
 |n+1,ds=>by
  simp only[x5x];cases b ds with
  |none=>rfl
  |some s=>cases s with
   |inl d=>exact z5h f b n d
   |inr a=>simp only[a1i];cases f a<;>rfl
def u3s (n:Nat)(c:FuncId->List V->Option PRes):Env:=⟨c,fun b ds=>x5x n b ds⟩
def w0c (n:Nat)(c:FuncId->List V->Option PRes):(u3s n c).Ok:=fun b f ds=>z5h f b n ds
def y6r {α:Type}{b:List D->Option (List D ⊕ α)}{a:α}: ∀ {n:Nat} {ds:List D},x5x n b ds=some a-> ∀ {m:Nat},n<=m->x5x m b ds=some a
 |0,_,h,_,_=>by cases h
 |n+1,ds,h,m,hm=>by
  obtain⟨m,rfl⟩: ∃k,m=k+1:=⟨m - 1,by omega⟩
  simp only[x5x]at h ⊢;cases hb:b ds with
  |none=>rw[hb]at h;cases h
  |some s=>rw[hb]at h;cases s with
   |inl d=>exact y6r h (by omega)
   |inr a'=>exact h
open Classical in
noncomputable def x5f {α:Type} (b:List D->Option (List D ⊕ α)) (ds:List D):Option α:=
 if h: ∃a n,x5x n b ds=some a then some (Classical.choose h)else none
def x9w {α:Type}{b:List D->Option (List D ⊕ α)}{ds:List D}{a:α}:x5f b ds=some a↔ ∃n,x5x n b ds=some a:=by
 unfold x5f;constructor
 ·intro h;split at h
  ·rename_i hx;cases h;exact Classical.choose_spec hx
  ·cases h
 ·rintro⟨n,h⟩
  have hx: ∃a n,x5x n b ds=some a:=⟨a,n,h⟩
  rw[dif_pos hx];obtain⟨m,hm⟩:=Classical.choose_spec hx;have h1:=y6r h (Nat.le_max_left n m);have h2:=y6r hm (Nat.le_max_right n m);rw[h1]at h2;exact h2.symm
def x4n {α:Type}(b:List D->Option (List D ⊕ α))(ds:List D):x5f b ds=match b ds with
  |some (.inl d)=>x5f b d
  |some (.inr a)=>some a
  |none=>none:=by
 apply Option.ext;intro a;rw[x9w];constructor
 ·rintro⟨n,h⟩
  cases n with
  |zero=>cases h
  |succ n=>
   simp only[x5x]at h;cases hb:b ds with
   |none=>rw[hb]at h;cases h
   |some s=>rw[hb]at h;cases s with
    |inl d=>exact x9w.2 ⟨n,h⟩
    |inr a'=>exact h
 ·intro h;cases hb:b ds with
  |none=>rw[hb]at h;cases h
  |some s=>rw[hb]at h;cases s with
   |inl d=>
    obtain⟨n,hn⟩:=x9w.1 h;exact⟨n+1,by simp only[x5x,hb];exact hn⟩
   |inr a'=>exact⟨1,by simp only[x5x,hb];exact h⟩
def x0w {σ α:Type}{b:List D->Option (List D ⊕ α)}{r:α}(mk:σ->List D)(I:σ->Prop)(μ:σ->Nat)
  (h: ∀x,I x->(∃y,b (mk x)=some (.inl (mk y))/\I y/\μ y < μ x)\/b (mk x)=some (.inr r)) (x:σ) (h0:I x):x5f b (mk x)=some r:=by
 suffices ∀n x,μ x < n->I x->x5f b (mk x)=some r from this _ x (a1p _) h0
 intro n
 induction n with
 |zero=>intro x h;omega
 |succ n ih=>
  intro x hlt hi;rw[x4n];rcases h x hi with⟨d,h1,h2,h3⟩|h1
  ·rw[h1];exact ih d (by omega) h2
  ·rw[h1]
def Evl {α:Type}(f:Nat->Nat->Option α)(a:α):Prop:= ∃N,∀n m,N<=n->N<=m->f n m=some a
noncomputable def v4h (c:FuncId->List V->Option PRes):Env:=⟨c,fun b ds=>x5f b ds⟩
def v6m {cF:FuncId->List V->Option PRes}{cN:Nat->FuncId->List V->Option PRes}(hc: ∀f args p,cF f args=some p-> ∃N,∀n,N<=n->cN n f args=some p):
  ∀ {α:Type} (t:Tree α) (a:α),t.run (v4h cF)=some a->Evl (fun n m=>t.run (u3s m (cN n))) a:=by
 intro α t
 induction t with
 |ret a=>intro b h;exact⟨0,fun _ _ _ _=>h⟩
 |fail=>intro b h;cases h
 |ite c x y ihx ihy=>
  intro b h;cases c with
  |true=>exact ihx b h
  |false=>exact ihy b h
 |cI v k K ih=>
  intro b h;simp only[Tree.run]at h ⊢;obtain⟨n,h1,h2⟩:=a1l.1 h;simp only[h1,a1i];exact ih n b h2
 |cB v K ih=>
  intro b h;simp only[Tree.run]at h ⊢;obtain⟨n,h1,h2⟩:=a1l.1 h;simp only[h1,a1i];exact ih n b h2
 |cS v K ih=>
  intro b h;simp only[Tree.run]at h ⊢;obtain⟨n,h1,h2⟩:=a1l.1 h;simp only[h1,a1i];exact ih n b h2
 |cL v sz K ih=>
  intro b h;simp only[Tree.run]at h ⊢;obtain⟨n,h1,h2⟩:=a1l.1 h;simp only[h1,a1i];exact ih n b h2
 |call g args K ih=>
  intro b h;simp only[Tree.run]at h;obtain⟨p,hp,h2⟩:=a1l.1 h;obtain⟨N1,h1⟩:=hc _ _ _ hp;obtain⟨N2,h2⟩:=ih _ b h2;refine⟨max N1 N2,fun n m hn hm=> ?_⟩
  simp only[Tree.run];rw[show(u3s m (cN n)).call g args=some p from h1 n (by omega)]
  exact h2 n m (by omega) (by omega)
 |mint g args e sz K ih=>
  intro b h;simp only[Tree.run]at h;obtain⟨rows,hp,h2⟩:=a1l.1 h;obtain⟨N1,h1⟩:=hc _ _ _ (y8y hp);obtain⟨N2,h2⟩:=ih _ b h2;refine⟨max N1 N2,fun n m hn hm=> ?_⟩
  simp only[Tree.run];rw[show(u3s m (cN n)).call g args=some (.own e sz rows)from h1 n (by omega)]
  rw[y8y hp]at hp;rw[hp];exact h2 n m (by omega) (by omega)
 |loop body ds ih=>
  intro b h;have h:x5f (fun ds=>(body ds).run (v4h cF)) ds=some b:=h
  obtain⟨k,hk⟩:=x9w.1 h;clear h
  suffices ∀k ds,x5x k (fun ds=>(body ds).run (v4h cF)) ds=some b-> ∃N,∀n m q,N<=n->N<=m->N<=q->x5x q (fun ds=>(body ds).run (u3s m (cN n))) ds=some b by
   obtain⟨N,hN⟩:=this k ds hk;exact⟨N,fun n m hn hm=>hN n m m hn hm hm⟩
  intro k
  induction k with
  |zero=>intro ds hk;cases hk
  |succ k ihk=>
   intro ds hk;simp only[x5x]at hk;cases hb:(body ds).run (v4h cF)with
   |none=>rw[hb]at hk;cases hk
   |some s=>
    rw[hb]at hk;obtain⟨N1,h1⟩:=ih ds s hb;cases s with
    |inl d=>
     obtain⟨N2,h2⟩:=ihk d hk;refine⟨max N1 N2+1,fun n m q hn hm hq=> ?_⟩
     obtain⟨q,rfl⟩: ∃k,q=k+1:=⟨q - 1,by omega⟩
     simp only[x5x,h1 n m (by omega) (by omega)]
     exact h2 n m q (by omega) (by omega) (by omega)
    |inr a=>
     refine⟨N1+1,fun n m q hn hm hq=> ?_⟩
     obtain⟨q,rfl⟩: ∃k,q=k+1:=⟨q - 1,by omega⟩
     simp only[x5x,h1 n m (by omega) (by omega)]
     exact hk
 |cut x K ihx ihK=>
  intro b h;simp only[Tree.run]at h;cases hx:x.run (v4h cF)with
  |none=>rw[hx]at h;cases h
  |some s=>
   rw[hx]at h;obtain⟨N1,h1⟩:=ihx s hx;cases s with
   |inl d=>
    obtain⟨N2,h2⟩:=ihK d b h;refine⟨max N1 N2,fun n m hn hm=> ?_⟩
    simp only[Tree.run,h1 n m (by omega) (by omega),a1i]
    exact h2 n m (by omega) (by omega)
   |inr a=>
    refine⟨N1,fun n m hn hm=> ?_⟩
    simp only[Tree.run,h1 n m (by omega) (by omega),a1i]
    exact h
section
variable {P : Program} {h : List Box} {ρ : Operand -> V} {o : Oper}
def w5p {fn:Func}(hn:fn.name= "internal/bytealg.IndexByteString")(ho:fn.origin= ""):Extern.find fn=some Extern.BytealgIndexByte.indexByte/\Extern.findNext fn=none:=by
 unfold Extern.find Extern.findNext;simp only[hn,ho];constructor<;>kernel_rfl
def w5q {fn:Func}(hn:fn.name= "internal/bytealg.CountString")(ho:fn.origin= ""):Extern.find fn=some Extern.BytealgCount.count/\Extern.findNext fn=none:=by
 unfold Extern.find Extern.findNext;simp only[hn,ho];constructor<;>kernel_rfl
def u1p {q y z:Operand}{ts:Array TypeId}{f:FuncId}{fn:Func}{e:Array Value->Sem Value}{s:BA}{c r:Int}(hop:o.op= .call { callee:= .value q,args:= #[y,z],argTypes:=ts })(hq:ρ q= .fn f [])(hf:P.funcs[f]? =some fn)(hb:fn.body=none)
  (hname:(fn.name == "runtime.NumGoroutine")=false) (he:Extern.find fn=some e) (hn:Extern.findNext fn=none) (hy1:ρ y= .d (.str s)) (hz1:ρ z= .d (.int .u8 c)) (hrun: ∀w,(e #[.string s, .int .u8 c]).run P w= .ok (.int .i64 r) w):x0p P [] h h ρ o (.d (.int .i64 r)):=
 .pure fun g ρ' w hs hy=>by
  have e1:=x2p (hy1▸hy y);have e2:=x0o (hz1▸hy z);have e3:=hy q;rw[hq]at e3;refine⟨.int .i64 r,?_, .d (.int _ _)⟩;generalize hu:ρ' q=u at e3;cases e3 with
  |fn _ us _ hl _=>
   have:us= #[]:=Array.eq_empty_of_size_eq_zero hl;subst this;have hr:=run_callFunc_extern (P:=P) hf hname (by rw[hb];rfl) hn he #[.string s, .int .u8 c] w
   rw[hrun]at hr;simp[execOp,hop,resolve,hu,Deferred.ofValue,invoke,e1,e2,hr,Result.andThen]
def u5n {y:Operand}{t:TypeId}{f:Nat}{fs:Array Field}{fl:Field}{cs:List V}{v:V}(hop:o.op= .field t y f)(hu:P.underlying t=some (.struct fs))(hf:fs[f]? =some fl)(hy1:ρ y= .agg cs)
  (hx:(P.underlying fl.type).isSome=true) (ha:y4c P fl.type=false) (hv:cs[fl.offset]? =some v):x0p P [] h h ρ o v:=
 .pure fun g ρ' w hs hy=>by
  have hr:=hy y;rw[hy1]at hr;generalize hu0:ρ' y=u0 at hr;cases hr with
  |agg us _ hl hr=>
   have hi:fl.offset < us.size:=by rw[hl];exact(a0c.1 hv).1
   refine⟨us[fl.offset],?_,hr _ _ _ (a0x hi) hv⟩;simp[execOp,hop,hu0,Instr.field,run_underlying hu,hf,part,asAgg,x1q hx ha,a0x hi]
def u1o {y:Operand}{t:TypeId}{f n:Nat}{fs:Array Field}{fl:Field}{cs:List V}(hop:o.op= .field t y f)(hu:P.underlying t=some (.struct fs))(hf:fs[f]? =some fl)(hy1:ρ y= .agg cs)
  (hx:(P.underlying fl.type).isSome=true) (ha:y4c P fl.type=true) (hn:szO P fl.type=some n) (hle:fl.offset+n<=cs.length):x0p P [] h h ρ o (.agg ((cs.drop fl.offset).take n)):=
 .pure fun g ρ' w hs hy=>by
  have hr:=hy y;rw[hy1]at hr;generalize hu0:ρ' y=u0 at hr;cases hr with
  |agg us _ hl hr=>
   refine⟨.agg (us.extract fl.offset (fl.offset+n)),?_, .agg _ _ ?_ fun i u c hu' hc=> ?_⟩
   ·simp only[execOp,hop,hu0,Instr.field,Sem.run_bind,run_underlying hu,Result.andThen_ok,hf,part,asAgg,x1q hx ha,Sem.run_pure,if_true,x0s hn]
   ·simp;omega
   ·rw[a1s]at hc;split at hc
    ·rw[a1x]at hc;rw[Array.getElem?_extract]at hu';split at hu'
     ·exact hr _ _ _ hu' hc
     ·cases hu'
    ·cases hc
end
end Go.Vm
end
