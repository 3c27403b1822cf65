/- Part RBM of the proof. What is proved by the whole: the statement that the claim names, with no condition. -/
import Derived.Test.YtdilhaphlahfjaaGreatDoorRBL
import Derived.Carry
import Derived.ProofKit
import Derived.Lib.LaidTab
import Derived.MakeChecks
import Derived.Test.YtdilhaphlahfjaaGreatDoorRows
import Derived.Test.YtdilhaphlahfjaaGreatDoorCards
import Derived.Test.YtdilhaphlahfjaaGreatDoorTie
import Derived.OpenShut
import Derived.LaidMore
import Derived.Lay
import Derived.LaidHandle
import Derived.SevenTiedAt
import Derived.Stop.Joined
set_option linter.all false
section
namespace Go.Vm
open Go.RowKit
section
variable {H : Type} {enc : TypeId × Value -> H} {P : Program} {w : World} {held : Bool} {sp : Nat -> Bool}
def x3o (P:Program):Nat->TypeId->List D->Prop
 |0,_,_=>False
 |n+1,t,xs=>match P.underlying t with
  |some .bool=> ∃b,xs= [.bool b]
  |some (.int k)=> ∃m,xs= [.int k m]/\(Lit.int k m).wf=true
  |some .string=> ∃s,xs= [.str s]/\s.size<=maxLen
  |some (.slice e)=> ∃rows,xs= [.sl (P.cellsOf e) rows]/\rows.length<=maxLen/\ ∀r∈rows,x3o P n e r
  |some (.struct fs)=> ∃parts:LL,parts.length=fs.size/\xs=parts.flatten/\ ∀(i:Nat) f p,fs.toList[i]? =some f->parts[i]? =some p->x3o P n f.type p
  |_=>False
def u7h (P:Program):Nat->List Field->Option Nat
 |o,[]=>some o
 |o,f::fs=>if f.offset=o then u7h P (o+P.cellsOf f.type) fs else none
def k4t (P:Program)(S:List TypeId)(t:TypeId):Bool:=match P.underlying t with
 |some .bool|some (.int _)|some .string=>true
 |some (.slice e)=>decide (0 < P.cellsOf e)&&S.contains e
 |some (.struct fs)=>decide (u7h P 0 fs.toList=some (P.cellsOf t))&&fs.toList.all fun f=>S.contains f.type
 |_=>false
def z5y (P:Program)(S:List TypeId):Bool:=S.all (k4t P S)
def z0v {α:Type}{Q:Nat->α->Prop}: ∀ {n:Nat},(∀i,i < n-> ∃x,Q i x)-> ∃l:List α,l.length=n/\ ∀(i:Nat) x,l[i]? =some x->Q i x
 |0,_=>⟨[],rfl,by simp⟩
 |n+1,h=>by
  obtain⟨l,h1,h2⟩:=z0v (n:=n) (fun i hi=>h i (by omega))
  obtain⟨x,hx⟩:=h n (by omega)
  refine⟨l++[x],by simp[h1],fun i y hy=> ?_⟩
  rw[a0z]at hy;split at hy
  ·exact h2 i y hy
  ·rename_i hi;have hi0:i - l.length=0:=by
    rcases Nat.eq_zero_or_pos (i - l.length)with h0|h0
    ·exact h0
    ·rw[a2b (by simp;omega)]at hy;cases hy
   rw[hi0]at hy;simp at hy;subst hy
   rwa [show i=n by omega]
def u2o {α β:Type}{f:α->Option β}: ∀ {as_:List α} {bs:List β},as_.mapM f=some bs->bs.length=as_.length/\ ∀(i:Nat) a,as_[i]? =some a-> ∃b,bs[i]? =some b/\f a=some b
 | [],bs,h=>by simp at h;subst h;simp
 |a::as_,bs,h=>by
  rw[List.mapM_cons]at h;cases hf:f a with
  |none=>simp[hf]at h
  |some b=>
   cases hr:as_.mapM f with
   |none=>simp[hf,hr]at h
   |some bs'=>
    simp[hf,hr]at h;subst h;obtain⟨h1,h2⟩:=u2o hr;refine⟨by simp[h1],fun i c hc=> ?_⟩
    cases i with
    |zero=>simp at hc;subst hc;exact⟨b,rfl,hf⟩
    |succ i=>obtain⟨b',e1,e2⟩:=h2 i c (by simpa using hc);exact⟨b',by simpa using e1,e2⟩
def z5z {a:Addr}{n:Nat}{cs:List Value}(h:w.cells? 0 a n=some cs):cs.length=n/\ ∀(i:Nat) u,cs[i]? =some u->w.cell? (a.add i)=some u:=by
 unfold World.cells? at h;rw[if_pos (a0t _)]at h;obtain⟨h1,h2⟩:=u2o h;refine⟨by simpa using h1,fun i u hu=> ?_⟩
 have hi:i < n:=by have:=(a0c.1 hu).1;rw[h1]at this;simpa using this
 obtain⟨b,e1,e2⟩:=h2 i i (by simp[hi])
 rw[hu]at e1;cases e1;exact e2
def ZW (w:World):Nat->Nat->Prop:=fun b _=>b < w.heap.size
def v7a {b o:Nat}{s:Option Nat}{u:Value}(h:w.cell? ⟨b,o,s⟩=some u):b < w.heap.size/\s=none:=by
 unfold World.cell? at h;split at h
 ·rename_i c _ _ hc;refine⟨(a0s.1 hc).1,?_⟩;cases s with
  |none=>rfl
  |some k=>simp at h
 ·cases h
def y3q {cs:List Value}{m fuel:Nat}{S:List TypeId}(ih: ∀(t:TypeId) (cs:List Value) (x:DataW H × List MemPlace),S.contains t=true->DataW.trod enc P w 0 sp held fuel t cs=some x->
  ∃xs,x3o P m t xs/\xs.length=cs.length/\ ∀(j:Nat) u c,cs[j]? =some u->xs[j]? =some c->RepD w (ZW w) u c):
  ∀(fs:List Field) (o e:Nat) (ys:List (DataW H × List MemPlace)),u7h P o fs=some e->cs.length=e->fs.all (fun f=>S.contains f.type)=true->
   (fs.mapM fun f=>DataW.trod enc P w 0 sp held fuel f.type ((cs.drop f.offset).take (P.cellsOf f.type)))=some ys->
   o<=e/\ ∃parts:LL,parts.length=fs.length/\parts.flatten.length=e - o/\(∀(i:Nat) f p,fs[i]? =some f->parts[i]? =some p->x3o P m f.type p)/\
    ∀(j:Nat) u c,cs[o+j]? =some u->parts.flatten[j]? =some c->RepD w (ZW w) u c
 | [],o,e,ys,hc,hl,ha,hm=>by
   cases hc;exact⟨a0q _,[],rfl,by simp,by simp,by simp⟩
 |f::fs,o,e,ys,hc,hl,ha,hm=>by
  unfold u7h at hc;split at hc
  ·rename_i ho;rw[List.mapM_cons]at hm;cases h1:DataW.trod enc P w 0 sp held fuel f.type ((cs.drop f.offset).take (P.cellsOf f.type))with
   |none=>simp[h1]at hm
   |some y=>
    cases h2:(fs.mapM fun f=>DataW.trod enc P w 0 sp held fuel f.type ((cs.drop f.offset).take (P.cellsOf f.type)))with
    |none=>simp[h1,h2]at hm
    |some ys'=>
     simp only[a1p,a0g]at ha;obtain⟨xs,t1,t2,t3⟩:=ih _ _ _ ha.1 h1;obtain⟨hle,parts,p1,p2,p3,p4⟩:=y3q ih fs _ e ys' hc hl ha.2 h2;have hxl:xs.length=P.cellsOf f.type:=by rw[t2,ho];simp;omega
     refine⟨by omega,xs::parts,by simp[p1],by simp only[List.flatten_cons,a0j];omega,fun i g p hg hp=> ?_,fun j u c hu hc'=> ?_⟩
     ·cases i with
      |zero=>simp at hg hp;subst hg;subst hp;exact t1
      |succ i=>exact p3 i g p (by simpa using hg) (by simpa using hp)
     ·simp only[List.flatten_cons]at hc';rw[a0z]at hc';split at hc'
      ·rename_i hj;refine t3 j u c ?_ hc';rw[a1t,if_pos (by omega),a1v,ho];exact hu
      ·rename_i hj;refine p4 (j - xs.length) u c ?_ hc';rw[show o+P.cellsOf f.type+(j - xs.length)=o+j by omega];exact hu
  ·cases hc
def v8b {S:List TypeId}(hS:z5y P S=true): ∀(fuel:Nat) (t:TypeId) (cs:List Value) (x:DataW H × List MemPlace),S.contains t=true->DataW.trod enc P w 0 sp held fuel t cs=some x->
  ∃xs,x3o P fuel t xs/\xs.length=cs.length/\ ∀(j:Nat) u c,cs[j]? =some u->xs[j]? =some c->RepD w (ZW w) u c
 |0,_,_,_,_,h=>by simp[DataW.trod]at h
 |fuel+1,t,cs,x,hp,h=>by
  have one: ∀(u:Value) (c:D),RepD w (ZW w) u c-> ∀(j:Nat) u' c',[u][j]? =some u'->[c][j]? =some c'->RepD w (ZW w) u' c':=by
   intro u c hr j u' c' h1 h2;cases j with
   |zero=>simp at h1 h2;subst h1;subst h2;exact hr
   |succ j=>simp at h1
  have hp:k4t P S t=true:=a0l.1 hS t (List.contains_iff_mem.1 hp);unfold k4t at hp;split at hp
  ·rename_i hu;obtain⟨b,rfl⟩: ∃b,cs= [.bool b]:=by
    simp only[DataW.trod,hu]at h;split at h<;>simp_all
   exact⟨[.bool b],by simp only[x3o,hu];exact⟨b,rfl⟩,rfl,one _ _ (.bool b)⟩
  ·rename_i k hu;obtain⟨n,rfl,hwf⟩: ∃n,cs= [.int k n]/\(Lit.int k n).wf=true:=by
    simp only[DataW.trod,hu]at h;split at h<;>simp_all
   exact⟨[.int k n],by simp only[x3o,hu];exact⟨n,rfl,hwf⟩,rfl,one _ _ (.int k n)⟩
  ·rename_i hu;obtain⟨s,rfl,hs⟩: ∃s,cs= [.string s]/\s.size<=maxLen:=by
    simp only[DataW.trod,hu]at h;split at h<;>simp_all
   exact⟨[.str s],by simp only[x3o,hu];exact⟨s,rfl,hs⟩,rfl,one _ _ (.str s)⟩
  ·rename_i e hu;simp only[a0g,a0u]at hp;obtain⟨hsz,hp⟩:=hp;have hcs:cs= [.slice none 0 0]\/ ∃a len cap,cs= [.slice (some a) len cap]:=by
    simp only[DataW.trod,hu]at h;split at h<;>simp_all
   rcases hcs with rfl|⟨a,len,cap,rfl⟩
   ·exact⟨[.sl (P.cellsOf e) []],by simp only[x3o,hu];exact⟨[],rfl,by simp,by simp⟩,rfl,one _ _ (.slnil _)⟩
   ·simp only[DataW.trod,hu]at h;split at h
    ·rename_i hb;obtain⟨_,hlc,hcm⟩:=hb;cases h1:(List.range len).mapM (fun i=>(w.cells? 0 (a.add (i*P.cellsOf e)) (P.cellsOf e)).bind (DataW.trod enc P w 0 sp held fuel e))with
     |none=>simp[h1]at h
     |some elems=>
      obtain⟨_,h3⟩:=u2o h1;have hel: ∀i,i < len-> ∃r:List D,x3o P fuel e r/\r.length=P.cellsOf e/\ ∃ci:List Value,w.cells? 0 (a.add (i*P.cellsOf e)) (P.cellsOf e)=some ci/\ ∀(j:Nat) u c,ci[j]? =some u->r[j]? =some c->RepD w (ZW w) u c:=by
       intro i hi;obtain⟨b,_,hb⟩:=h3 i i (by simp[hi])
       cases hci:w.cells? 0 (a.add (i*P.cellsOf e)) (P.cellsOf e)with
       |none=>simp[hci]at hb
       |some ci=>
        simp only[hci,a1l]at hb;obtain⟨r,r1,r2,r3⟩:=v8b hS fuel e ci b hp hb;exact⟨r,r1,by rw[r2,(z5z hci).1],ci,rfl,r3⟩
      obtain⟨rows,q1,q2⟩:=z0v hel;have htr: ∀r∈rows,x3o P fuel e r:=fun r hr=>by
       obtain⟨i,hi⟩:=List.mem_iff_getElem?.1 hr;exact(q2 i r hi).1
      refine⟨[.sl (P.cellsOf e) rows],by simp only[x3o,hu];exact⟨rows,rfl,by omega,htr⟩,rfl,one _ _ ?_⟩
      ·rcases Nat.eq_zero_or_pos len with h0|h0
       ·have:rows= []:=List.eq_nil_of_length_eq_zero (by omega)
        subst h0;subst this;exact .slemp a cap _
       ·obtain⟨r0,hr0⟩: ∃r0,rows[0]? =some r0:=⟨rows[0],a0a (by omega)⟩
        obtain⟨_,hl0,c0,hc0,_⟩:=q2 0 r0 hr0;obtain⟨hcl0,hca0⟩:=z5z hc0;have hz:w.cell? a=some (c0[0]'(by omega)):=by
         have:=hca0 0 (c0[0]'(by omega)) (a0a (by omega))
         rw[Nat.zero_mul]at this;exact this
        obtain⟨ab,ao,as_⟩:=a;obtain⟨hlt,hsn⟩:=v7a hz;subst hsn;have hall: ∀(i:Nat) (r:List D) (j:Nat) (c:D),rows[i]? =some r->r[j]? =some c-> ∃u,w.cell? ⟨ab,ao+(i*P.cellsOf e+j),none⟩=some u/\RepD w (ZW w) u c:=by
         intro i r j c hi hj;obtain⟨_,hlr,ci,hci,hrep⟩:=q2 i r hi;obtain⟨hcl,hca⟩:=z5z hci;have hj':j < ci.length:=by rw[hcl,<-hlr];exact(a0c.1 hj).1
         refine⟨ci[j],?_,hrep j ci[j] c (a0a hj') hj⟩;have:=hca j ci[j] (a0a hj');rw[x4k,x4k,a2e]at this;exact this
        exact .sl ab ao len cap (P.cellsOf e) rows (fun i j=>(w.cell? ⟨ab,ao+(i*P.cellsOf e+j),none⟩).getD undef) q1 hlc (fun i r hi=>(q2 i r hi).2.1)
         (fun i r j c hi hj=>hlt) (fun i r j c hi hj=>by obtain⟨u,hu',_⟩:=hall i r j c hi hj;rw[hu'];rfl)
         (fun i r j c hi hj=>by obtain⟨u,hu',hr'⟩:=hall i r j c hi hj;rw[hu'];exact hr')
    ·cases h
  ·rename_i fs hu;simp only[a0g,a0u]at hp;obtain⟨hct,hp⟩:=hp;simp only[DataW.trod,hu]at h;split at h
   ·rename_i hl;cases h1:(fs.toList.mapM fun f=>DataW.trod enc P w 0 sp held fuel f.type ((cs.drop f.offset).take (P.cellsOf f.type)))with
    |none=>simp[h1]at h
    |some ys=>
     obtain⟨_,parts,p1,p2,p3,p4⟩:=y3q (cs:=cs) (m:=fuel) (fun t cs x a b=>v8b hS fuel t cs x a b) fs.toList 0 _ ys hct hl hp h1
     refine⟨parts.flatten,by simp only[x3o,hu];exact⟨parts,by simpa using p1,rfl,p3⟩,by omega,fun j u c hu' hc'=>p4 j u c (by rw[a1y];exact hu') hc'⟩
   ·cases h
  ·cases hp
def v0v {S:List TypeId}(hS:z5y P S=true){t:TypeId}{v:Value}{d:DataW H}{ps:List MemPlace}(hp:S.contains t=true)(h:DataW.Trod enc P w 0 sp held t v d ps):
  ∃n xs,x3o P n t xs/\xs.length=v.cells.toList.length/\ ∀(j:Nat) u c,v.cells.toList[j]? =some u->xs[j]? =some c->RepD w (ZW w) u c:=by
 obtain⟨fuel,h⟩:=h;obtain⟨xs,h⟩:=v8b hS fuel t _ _ hp h;exact⟨fuel,xs,h⟩
end
end Go.Vm
end
section
namespace Go.Vm
open Go.RowKit Go.ChangeShapes Go.WideShapes
section
variable {H : Type} {enc : TypeId × Value -> H} {P : Program} {W W' : World}
def y2v {sp:Nat->Bool}(hl:laidOutB P=true)(hb:Below W.heap.size W W'): ∀ {ts:List TypeId} {vs:List Value} {ds:List (DataW H)} {ps:List MemPlace},(ts.all fun t=>P.readableRec t&&decide (t < P.types.size))=true->
  DataW.TrodAll enc P W 0 (fun _=>true) true ts vs ds ps->(∀p∈ps,p.block < W.heap.size)->(∀p∈ps,sp p.block=true)->DataW.TrodAll enc P W' 0 sp true ts vs ds ps
 | [],[],[],_,_,h,_,_=>h
 |t::ts,v::vs,d::ds,_,ht,⟨p,q,h1,h2,e⟩,hlt,hsp=>by
  subst e;simp only[a1p,a0g,a0u]at ht;exact⟨p,q,WideElems.Trod_stays hl ht.1.1 ht.1.2 h1 (fun x hx=>hb.same (hlt x (List.mem_append_left _ hx))) (fun x hx=>hsp x (List.mem_append_left _ hx)),
   y2v hl hb (by simpa using ht.2) h2 (fun x hx=>hlt x (List.mem_append_right _ hx)) (fun x hx=>hsp x (List.mem_append_right _ hx)),rfl⟩
def v3r {f:Func}{s:ChangeSpec}{args:Array Value}{ds:List (DataW H)}{before:List MemPlace}{t:TypeId}(hl:laidOutB P=true)(hts:(f.params.toList.all fun t=>P.readableRec t&&decide (t < P.types.size))=true)
  (hv:s.vars= []) (hW:DataW.Whole enc P f.params.toList s.vars false W args.toList ds [] before) (hb:Below W.heap.size W W')
  (hr:(s.fn H (ds++[])).results= [.lit (.bool true)]) (ha:(s.fn H (ds++[])).args=ds) (hn:(s.fn H (ds++[])).vars= []) (ht:f.resultTypes= #[t]) (hu:P.underlying t=some .bool):
  s.post enc P f false true false false W args (.bool true) W':=by
 have hlt: ∀p∈before,p.block < W.heap.size:=fun p hp=>hW.lt p hp
 have hW0:=hW;obtain⟨p,q,hA,hV,hpq,hz,hnd⟩:=hW;rw[hv]at hV;obtain⟨_,hq⟩:=trodVars_none hV;subst hq;rw[a0y]at hpq;subst hpq;refine⟨ds,[],before,[],before,[],hW0,?_,?_,?_,hb.frame _,fun h=>by cases h⟩
 ·rw[hr,ht];exact trodAll_mk1 (shut_bool hu true)
 ·rw[ha];exact y2v hl hb hts hA hlt (fun p hp=>by simpa using hlt p hp)
 ·rw[hn,hv];rfl
def v0n {f:FuncId}{vs:List V}{us:List Value}(ht:z1l (ZW W) W)(hc:z1n P f vs (.d (.bool true)))(hr:z4c W (g0 (ZW W)) us vs):Calls P f us.toArray W fun e w'=>e= .returned (.bool true)/\Below W.heap.size W w':=by
 refine(hc (g0 (ZW W)) W us (y6y (fun b o h=>h) ht) hr).mono ?_
 rintro e w' ⟨u,g',rfl,hru,hk⟩
 rw[x3w hru];exact⟨rfl,hk.fr.below fun i _ ⟨b,x,hx,_⟩=>by simp at hx⟩
end
section
variable {P : Program} {w : World}
end
end Go.Vm
end
section
set_option maxRecDepth 100000
namespace Go.Vm
open Go.Proofs
open Go.RowKit Go.ChangeShapes Go.WideShapes
def u1e.j2n {f:FuncId}{args:List V}{b:Bool}{t:TypeId}(hs:z1t Tryz.prog f=some [t])(hm:mkV Tryz.prog [t] [.bool b]=some (.d (.bool b)))
  (h:u1e Tryz.prog f args (.val [.bool b])):z1n Tryz.prog f args (.d (.bool b)):=by
 obtain⟨ts,ss,v,h1,h2,h3,h4,h5⟩:=h;rw[hs]at h1;cases h1;rw[hm]at h4;cases h4;exact h5
def x6t {P:Program}{n:Nat}{t:TypeId}{xs:List D}(hu:P.underlying t=some .string)(h:x3o P n t xs): ∃s,xs= [.str s]:=by
 cases n with
 |zero=>exact h.elim
 |succ n=>simp only[x3o,hu]at h;obtain⟨s,hs,_⟩:=h;exact⟨s,hs⟩
section
variable {H : Type} {enc : TypeId × Value -> H} {W : World} {base : Nat}
end
def q5i (P:Program)(w:World)(n:String)(d:DataW Unit):Prop:=
 ∃g t cs fuel p,P.globalNamed n=some g/\(P.globals[g]?).map (·.type)=some t/\w.var? P n=some cs/\DataW.trod (fun _=>()) P w 0 (fun _=>true) false fuel t cs.toList=some (d,p)
def v1n {P:Program}{w:World}: ∀ {l:List (String × DataW Unit)} {ps:List MemPlace},DataW.LaidVars P w l ps-> ∀n d,(n,d)∈l->q5i P w n d
 | [],_,_,_,_,hm=>by cases hm
 |(n',d')::r,ps,h,n,d,hm=>by
  obtain⟨g,t,cs,fuel,p,q,h1,h2,h3,h4,h5,_⟩:=h;rcases a1n.1 hm with e|e
  ·cases e;exact⟨g,t,cs,fuel,p,h1,h2,h3,h4⟩
  ·exact v1n h5 n d e
def z3m {P:Program}{w:World}{n nm:String}{d:DataW Unit}{g:Nat}{t:TypeId}{ms:Array (String × TypeId)}(hg:P.globalNamed n=some g)(ht:(P.globals[g]?).map (·.type)=some t)(hu:P.underlying t=some (.interface ms))
  (h:q5i P w n (.iface nm d)):ZW w g 0/\ ∃t p,w.cell? ⟨g,0,none⟩=some (.iface t p):=by
 obtain⟨g',t',cs,fuel,p,h1,h2,h3,h4⟩:=h;rw[hg]at h1;cases h1;rw[ht]at h2;cases h2;have hz: ∀v,w.cell? ⟨g,0,none⟩=some v->ZW w g 0:=fun v hv=>by
  unfold ZW;simp only[World.cell?]at hv;cases hw:w.heap[g]? with
  |none=>rw[hw]at hv;cases hv
  |some o=>exact(a0s.1 hw).1
 have key: ∃u v,cs.toList= [.iface u v]:=by
  cases fuel with
  |zero=>simp[DataW.trod]at h4
  |succ fuel=>
   simp only[DataW.trod,hu]at h4;split at h4<;>simp_all
 obtain⟨u,v,hc⟩:=key;have hcell:w.cell? ⟨g,0,none⟩=some (.iface u v):=by
  rw[World.var?_cell hg h3,<-a1b,hc];rfl
 exact⟨hz _ hcell,u,v,hcell⟩
def z6x {P:Program}{w:World}{n:String}{g:Nat}{t e:TypeId}{k:IntKind}{zs:List Int}{m:Nat}(hg:P.globalNamed n=some g)(hty:(P.globals[g]?).map (·.type)=some t)
  (ht:P.underlying t=some (.array m e)) (he:P.underlying e=some (.int k)) (hce:P.cellsOf e=1) (hct:P.cellsOf t=m) (hz:0 < zs.length)
  (h:q5i P w n (Lib.tabData k zs)) (i:Nat):ZW w g i/\w.cell? ⟨g,i,none⟩=(zs.map fun z=>Value.int k z)[i]? :=by
 obtain⟨g',t',cs,fuel,p,h1,h2,h3,h4⟩:=h;rw[hg]at h1;cases h1;rw[hty]at h2;cases h2;have hc:=Lib.cells_of_tab ht he hce hct h4;have hcell: ∀i,w.cell? ⟨g,i,none⟩=(zs.map fun z=>Value.int k z)[i]? :=fun i=>by
  rw[World.var?_cell hg h3,<-a1b,hc]
 refine⟨?_,hcell i⟩;unfold ZW;have h0:=hcell 0;rw[a0m,a0a hz]at h0;simp only[World.cell?,Option.map_some]at h0;cases hw:w.heap[g]? with
 |none=>rw[hw]at h0;cases h0
 |some o=>exact(a0s.1 hw).1
def q5p (ens:List En)(nds:List Nd)(hl: ∀n∈nds,LB n)(hr: ∀n∈nds,∀x∈n.eqs,x.e.rng):z1n Tryz.prog 4 [.agg [.d (.sl 2 (x0j ens)), .d (.sl 5 (x1x nds))]] (.d (.bool true)):=
 u1e.j2n (t:=4) (by kernel_rfl) (by kernel_rfl) (v0o mixedOrders w8l (by kernel_rfl) rfl (v0u ens nds hl hr))
def x5f {P:Program}{n:Nat}{t e:TypeId}{xs:List D}(hu:P.underlying t=some (.slice e))(h:x3o P (n+1) t xs): ∃rows,xs= [.sl (P.cellsOf e) rows]/\rows.length<=9223372036854775807/\ ∀r∈rows,x3o P n e r:=by
 simp only[x3o,hu]at h;obtain⟨rows,h1,h0,h2⟩:=h;exact⟨rows,h1,h0,h2⟩
def x6p {P:Program}{n:Nat}{t:TypeId}{xs:List D}(hu:P.underlying t=some (.int .i64))(h:x3o P n t xs): ∃m:Int,xs= [.int .i64 m]/\m < 9223372036854775808:=by
 cases n with
 |zero=>exact h.elim
 |succ n=>
  simp only[x3o,hu]at h;obtain⟨m,hm,hw⟩:=h;refine⟨m,hm,?_⟩;simp[Lit.wf,IntKind.min,IntKind.max,IntKind.bits,IntKind.signed]at hw;omega
def x3t {P:Program}{n:Nat}{t:TypeId}{fs:Array Field}{xs:List D}(hu:P.underlying t=some (.struct fs))(h:x3o P (n+1) t xs): ∃parts:LL,parts.length=fs.size/\xs=parts.flatten/\ ∀(i:Nat) f p,fs.toList[i]? =some f->parts[i]? =some p->x3o P n f.type p:=by
 simp only[x3o,hu]at h;exact h
def y4k {α:Type}(f:α->List D)(Q:α->Prop){P:List D->Prop}(h: ∀r,P r-> ∃x,r=f x/\Q x): ∀rows:LL,(∀r∈rows,P r)-> ∃l:List α,rows=l.map f/\l.length=rows.length/\ ∀x∈l,Q x
 | [],_=>⟨[],rfl,rfl,fun _ h=>(by cases h)⟩
 |r::rs,hr=>by
  obtain⟨x,hx,hq⟩:=h r (hr r (by simp))
  obtain⟨l,h1,h2,h3⟩:=y4k f Q h rs fun r h=>hr r (by simp[h])
  refine⟨x::l,by rw[hx,h1];rfl,by simp[h2],fun y hy=> ?_⟩
  rcases a1n.1 hy with rfl|hy
  ·exact hq
  ·exact h3 y hy
def u1u {n:Nat}{xs:List D}(h:x3o Tryz.prog n 64 xs): ∃l,xs= [.sl 1 (x0b l)]:=by
 match n,h with
 |n+1,h=>
  obtain⟨rows,h1,_,h2⟩:=x5f Tryz.underlying64 h;obtain⟨l,hl,_⟩:=y4k (fun s:BA=>[.str s]) (fun _=>True) (fun r hr=>by obtain⟨s,hs⟩:=x6t Tryz.underlying9 hr;exact⟨s,hs,trivial⟩) rows h2
  exact⟨l,by rw[h1,hl,show Tryz.prog.cellsOf 9=1 by kernel_rfl];rfl⟩
def v1s: ∀ {n:Nat} {xs:List D},x3o Tryz.prog n 81 xs-> ∃e:Ex,xs=e.row/\e.rng
 |0,_,h=>h.elim
 |n+1,xs,h=>by
  obtain⟨parts,h1,h2,h3⟩:=x3t Tryz.underlying81 h;obtain⟨p0,p1,p2,p3,p4,p5,rfl⟩: ∃a b c d e f,parts= [a,b,c,d,e,f]:=by
   match parts,h1 with
   | [a,b,c,d,e,f],_=>exact⟨a,b,c,d,e,f,rfl⟩
  obtain⟨k,e0,_⟩:=x6p Tryz.underlying3 (h3 0 _ p0 rfl rfl);obtain⟨m,e1,hm⟩:=x6p Tryz.underlying2 (h3 1 _ p1 rfl rfl);obtain⟨s,e2⟩:=x6t Tryz.underlying9 (h3 2 _ p2 rfl rfl);obtain⟨o,e3,_⟩:=x6p Tryz.underlying3 (h3 3 _ p3 rfl rfl);obtain⟨a,e4⟩:=u1u (h3 4 _ p4 rfl rfl);have h5:x3o Tryz.prog n 79 p5:=h3 5 _ p5 rfl rfl;have hu: ∃u,p5= [.sl 6 (Ex.rows u)]/\Ex.j2h u:=by
   match n,h5 with
   |n+1,h5=>
    obtain⟨rows,r1,_,r2⟩:=x5f Tryz.underlying79 h5;have: ∀rows:LL,(∀r∈rows,x3o Tryz.prog n 81 r)-> ∃u,rows=Ex.rows u/\Ex.j2h u:=by
     intro rows
     induction rows with
     |nil=>exact fun _=>⟨[],rfl,trivial⟩
     |cons r rs ih=>
      intro h;obtain⟨e,he,hr⟩:=v1s (h r (by simp))
      obtain⟨l,hl,hq⟩:=ih fun r hr=>h r (by simp[hr])
      exact⟨e::l,by rw[he,hl];rfl,hr,hq⟩
    obtain⟨u,hu,hq⟩:=this rows r2;exact⟨u,by rw[r1,hu,show Tryz.prog.cellsOf 81=6 by kernel_rfl],hq⟩
  obtain⟨u,e5,hq⟩:=hu;exact⟨.mk k m s o a u,by rw[h2,e0,e1,e2,e3,e4,e5];rfl,hm,hq⟩
def w6t {n:Nat}{xs:List D}(h:x3o Tryz.prog n 66 xs): ∃e:En,xs=v0h e:=by
 match n,h with
 |n+1,h=>
  obtain⟨parts,h1,h2,h3⟩:=x3t Tryz.underlying66 h;obtain⟨p0,p1,rfl⟩: ∃a b,parts= [a,b]:=by
   match parts,h1 with
   | [a,b],_=>exact⟨a,b,rfl⟩
  obtain⟨s,e0⟩:=x6t Tryz.underlying9 (h3 0 _ p0 rfl rfl);obtain⟨l,e1⟩:=u1u (h3 1 _ p1 rfl rfl);exact⟨(s,l),by rw[h2,e0,e1];rfl⟩
def v9q {n:Nat}{xs:List D}(h:x3o Tryz.prog n 125 xs): ∃k e c:Int,xs= [.int .i64 k, .int .i64 e, .int .i64 c]:=by
 match n,h with
 |n+1,h=>
  obtain⟨parts,h1,h2,h3⟩:=x3t Tryz.underlying125 h;obtain⟨p0,p1,p2,rfl⟩: ∃a b c,parts= [a,b,c]:=by
   match parts,h1 with
   | [a,b,c],_=>exact⟨a,b,c,rfl⟩
  obtain⟨k,e0,_⟩:=x6p Tryz.underlying3 (h3 0 _ p0 rfl rfl);obtain⟨e,e1,_⟩:=x6p Tryz.underlying3 (h3 1 _ p1 rfl rfl);obtain⟨c,e2,_⟩:=x6p Tryz.underlying3 (h3 2 _ p2 rfl rfl);exact⟨k,e,c,by rw[h2,e0,e1,e2];rfl⟩
def v9p {n:Nat}{xs:List D}(h:x3o Tryz.prog n 127 xs): ∃d:Dc,xs=z3r d:=by
 match n,h with
 |n+1,h=>
  obtain⟨parts,h1,h2,h3⟩:=x3t Tryz.underlying127 h;obtain⟨p0,p1,p2,p3,rfl⟩: ∃a b c d,parts= [a,b,c,d]:=by
   match parts,h1 with
   | [a,b,c,d],_=>exact⟨a,b,c,d,rfl⟩
  obtain⟨s,e0⟩:=x6t Tryz.underlying9 (h3 0 _ p0 rfl rfl);obtain⟨k,e,c,e1⟩:=v9q (h3 1 _ p1 rfl rfl);obtain⟨o,e2⟩:=x6t Tryz.underlying9 (h3 2 _ p2 rfl rfl);obtain⟨q,e3⟩:=x6t Tryz.underlying9 (h3 3 _ p3 rfl rfl);exact⟨⟨s,k,e,c,o,q⟩,by rw[h2,e0,e1,e2,e3];rfl⟩
def u1t {n:Nat}{xs:List D}(h:x3o Tryz.prog n 68 xs): ∃l:List Dc,xs= [.sl 6 (x0m l)]/\l.length<=9223372036854775807:=by
 match n,h with
 |n+1,h=>
  obtain⟨rows,h1,h0,h2⟩:=x5f Tryz.underlying68 h;obtain⟨l,hl,hz,_⟩:=y4k z3r (fun _=>True) (fun r hr=>by obtain⟨s,hs⟩:=v9p hr;exact⟨s,hs,trivial⟩) rows h2
  exact⟨l,by rw[h1,hl,show Tryz.prog.cellsOf 127=6 by kernel_rfl];rfl,by omega⟩
def w6q {n:Nat}{xs:List D}(h:x3o Tryz.prog n 83 xs): ∃x:Eqn,xs=z7o x/\x.e.rng:=by
 match n,h with
 |n+1,h=>
  obtain⟨parts,h1,h2,h3⟩:=x3t Tryz.underlying83 h;obtain⟨p0,p1,rfl⟩: ∃a b,parts= [a,b]:=by
   match parts,h1 with
   | [a,b],_=>exact⟨a,b,rfl⟩
  obtain⟨s,e0⟩:=u1u (h3 0 _ p0 rfl rfl);obtain⟨e,e1,hr⟩:=v1s (h3 1 _ p1 rfl rfl);exact⟨⟨s,e⟩,by rw[h2,e0,e1];simp[z7o],hr⟩
def w6s {n:Nat}{xs:List D}(h:x3o Tryz.prog n 69 xs): ∃l:List Eqn,xs= [.sl 7 (x3e l)]/\ ∀x∈l,x.e.rng:=by
 match n,h with
 |n+1,h=>
  obtain⟨rows,h1,_,h2⟩:=x5f Tryz.underlying69 h;obtain⟨l,hl,_,hq⟩:=y4k z7o (fun x:Eqn=>x.e.rng) (fun r hr=>w6q hr) rows h2
  exact⟨l,by rw[h1,hl,show Tryz.prog.cellsOf 83=7 by kernel_rfl];rfl,hq⟩
def w6r {n:Nat}{xs:List D}(h:x3o Tryz.prog n 71 xs): ∃x:Nd,xs=y7d x/\(LB x/\ ∀y∈x.eqs,y.e.rng):=by
 match n,h with
 |n+1,h=>
  obtain⟨parts,h1,h2,h3⟩:=x3t Tryz.underlying71 h;obtain⟨p0,p1,p2,p3,p4,rfl⟩: ∃a b c d e,parts= [a,b,c,d,e]:=by
   match parts,h1 with
   | [a,b,c,d,e],_=>exact⟨a,b,c,d,e,rfl⟩
  obtain⟨s,e0⟩:=x6t Tryz.underlying9 (h3 0 _ p0 rfl rfl);obtain⟨i,e1,l1⟩:=u1t (h3 1 _ p1 rfl rfl);obtain⟨o,e2,l2⟩:=u1t (h3 2 _ p2 rfl rfl);obtain⟨v,e3,l3⟩:=u1t (h3 3 _ p3 rfl rfl);obtain⟨q,e4,hr⟩:=w6s (h3 4 _ p4 rfl rfl);exact⟨⟨s,i,o,v,q⟩,by rw[h2,e0,e1,e2,e3,e4];rfl,⟨l1,l2,l3⟩,hr⟩
def w6u {n:Nat}{xs:List D}(h:x3o Tryz.prog n 26 xs): ∃(ens:List En) (nds:List Nd),xs= [.sl 2 (x0j ens), .sl 5 (x1x nds)]/\(∀n∈nds,LB n)/\ ∀n∈nds,∀x∈n.eqs,x.e.rng:=by
 match n,h with
 |n+1,h=>
  obtain⟨parts,h1,h2,h3⟩:=x3t Tryz.underlying26 h;obtain⟨p0,p1,rfl⟩: ∃a b,parts= [a,b]:=by
   match parts,h1 with
   | [a,b],_=>exact⟨a,b,rfl⟩
  have h4:x3o Tryz.prog n 23 p0:=h3 0 _ p0 rfl rfl;have h5:x3o Tryz.prog n 24 p1:=h3 1 _ p1 rfl rfl
  match n,h4,h5 with
  |n+1,h4,h5=>
   obtain⟨r1,q1,_,q2⟩:=x5f Tryz.underlying23 h4;obtain⟨r2,q3,_,q4⟩:=x5f Tryz.underlying24 h5;obtain⟨ens,he,_,_⟩:=y4k v0h (fun _=>True) (fun r hr=>by obtain⟨s,hs⟩:=w6t hr;exact⟨s,hs,trivial⟩) r1 q2
   obtain⟨nds,hn,_,hq⟩:=y4k y7d (fun x:Nd=>LB x/\ ∀y∈x.eqs,y.e.rng) (fun r hr=>w6r hr) r2 q4
   exact⟨ens,nds,by rw[h2,q1,q3,he,hn,show Tryz.prog.cellsOf 66=2 by kernel_rfl,show Tryz.prog.cellsOf 71=5 by kernel_rfl];rfl,fun n h=>(hq n h).1,fun n h=>(hq n h).2⟩
def w2d:z5y Tryz.prog [26,23,24,66,71,9,64,68,69,127,83,125,81,3,2,79]=true:=by kernel_rfl
section
variable {H : Type} {enc : TypeId × Value -> H} {W : World} {base : Nat}
def w7m {w:World}{cs:Array Value}{xs:List D}(hl:xs.length=(Value.agg cs).cells.toList.length)(h: ∀(j:Nat) u c,(Value.agg cs).cells.toList[j]? =some u->xs[j]? =some c->RepD w (ZW w) u c):Rep w (g0 (ZW w)) (.agg cs) (.agg (xs.map .d)):=by
 refine .agg cs _ (by simp[Value.cells]at hl;simp[hl]) fun i u c hu hc=> ?_
 rw[a0m,a0k]at hc;obtain⟨d,hd,rfl⟩:=hc;exact .d (h i u d (by simpa[Value.cells]using hu) hd)
def q7t {v:Value}{d:DataW H}{p:List MemPlace}(hv:Value.okWide Tryz.prog W .any base 26 v)(h:DataW.Trod enc Tryz.prog W 0 (fun _=>true) true 26 v d p): ∃(ens:List En) (nds:List Nd),Rep W (g0 (ZW W)) v (.agg [.d (.sl 2 (x0j ens)), .d (.sl 5 (x1x nds))])/\(∀n∈nds,LB n)/\ ∀n∈nds,∀x∈n.eqs,x.e.rng:=by
 unfold Value.okWide at hv;rw[Tryz.underlying26]at hv;obtain⟨cs,rfl,_,_⟩:=hv;obtain⟨n,xs,h1,h2,h3⟩:=v0v w2d rfl h;obtain⟨ens,nds,rfl,q1,q2⟩:=w6u h1;exact⟨ens,nds,w7m h2 h3,q1,q2⟩
end
end Go.Vm
end
section
namespace Go.Proofs.YtdilhaphlahfjaaGreatDoor
open Go.ChangeShapes Go.WideShapes Go.ChangeAt Go.RowKit Go.Vm
def own_:ownKnob Tryz.prog.godebug=none:=by kernel_rfl
def k5c:laidOutB Tryz.prog=true:=by kernel_rfl
abbrev w8h:List (String × DataW Unit):=Rows.readBackRow.laid
def y3k:List (String × DataW Unit):=[("math/bits.deBruijn32tab",Rows.laid_math_bits_deBruijn32tab),("math/bits.deBruijn64tab",Rows.laid_math_bits_deBruijn64tab),("internal/strconv.uint64pow10",Rows.laid_internal_strconv_uint64pow10),("unicode/utf8.acceptRanges",Rows.laid_unicode_utf8_acceptRanges),("strconv.ErrRange",Rows.laid_strconv_ErrRange),("strconv.ErrSyntax",Rows.laid_strconv_ErrSyntax),("unicode.White_Space",Rows.laid_unicode_White_Space),("strings.asciiSpace",Rows.laid_strings_asciiSpace),("unicode/utf8.first",Rows.laid_unicode_utf8_first)]
def q7e:Rows.laid_strings_asciiSpace (H:=Unit)=Lib.tabData .u8 Lib.asciiSpaceTab:=by kernel_rfl
def pow_:Rows.laid_internal_strconv_uint64pow10 (H:=Unit)=Lib.tabData .u64 Lib.pow10Tab:=by kernel_rfl
def et:Tryz.prog.globalNamed "errors.errorType" =some 0:=by kernel_rfl
def rt:(Tryz.prog.cutTypes.find? (·.1 == "internal/reflectlite.rtype")).map (·.2)=some 142:=by kernel_rfl
def q7v:((List.range Tryz.prog.types.size).filter fun t=>Tryz.prog.rowNamed t [101,114,114,111,114])= [45]:=by kernel_rfl
def z3k {W:World}(h:laidMetH Tryz.prog w8h W):laidMet Tryz.prog y3k W/\handlesMet Tryz.prog [("errors.errorType",Rows.laid_errors_errorType)] W:=h
def z1x {W:World}(h:laidMetH Tryz.prog w8h W)(i:Nat):W.cell? ⟨0,i,none⟩= [Value.iface 142 (.agg #[.pointer (some ⟨12,45,none⟩)])][i]? :=by
 obtain⟨name,u,ty,e1,e2,e3,e4,e5⟩:=(z3k h).2 _ (a1h.2 rfl);have en:name= [101,114,114,111,114]:=(Option.some.inj e1).symm;subst en;obtain rfl:=Option.some.inj (rt.symm.trans e2);have hm:ty∈(List.range Tryz.prog.types.size).filter fun t=>Tryz.prog.rowNamed t [101,114,114,111,114]:=List.mem_filter.2 ⟨List.mem_range.2 e3,e4⟩
 rw[q7v]at hm;obtain rfl:=a1h.1 hm;have hh:typeHandle Tryz.prog 45= .pointer (some ⟨12,45,none⟩):=by kernel_rfl
 rw[hh]at e5;have:=World.var?_cell et e5 i;rw[this,<-a1b]
noncomputable def wH (os:Os):World:=
 let w0:=World.holding Tryz.prog os ⟨#[], #[],[]⟩
 { w0 with heap:=w0.heap.modify 0 fun
     | .cells _ t frozen=> .cells #[.iface 142 (.agg #[.pointer (some ⟨12,45,none⟩)])] t frozen
     |o=>o }
noncomputable def wL (os:Os):World:=(wH os).layVars Tryz.prog y3k
def q6l (os:Os)(args:Array Value):laidMetH Tryz.prog w8h ((wL os).forCall (fun _ _=>0) ⟨#[],args,[]⟩).memory:=by
 have e1:(y3k.filter fun x=>(y3k.map (·.1)).contains x.1)=y3k:=List.filter_eq_self.2 fun x hx=>List.contains_iff_mem.2 (a1z.2 ⟨x,hx,rfl⟩)
 have e2:(y3k.filter fun x=> !(y3k.map (·.1)).contains x.1)= []:=List.filter_eq_nil_iff.2 fun x hx=>by rw[List.contains_iff_mem.2 (a1z.2 ⟨x,hx,rfl⟩)];simp
 have h:laidMet Tryz.prog y3k (wL os):=laidMet_layVars (w0:=wH os) (y3k.map (·.1)) [] (by rw[e1];rfl) (by rw[e1];kernel_rfl) (by rw[e1];kernel_rfl) (by rw[e2];exact LaidIn.none)
 have h2:laidMet Tryz.prog y3k ((wL os).forCall (fun _ _=>0) ⟨#[],args,[]⟩).memory:=h.of_heap (by simp[World.memory,World.forCall,Input.heap])
 exact laidMetH_of_parts h2 (by kernel_rfl)
def q6z {W:World}(h:laidMetH Tryz.prog w8h W):z1l (ZW W) W:=by
 have hg:=z1x h;obtain⟨ps,hv,_⟩:=(z3k h).1;refine⟨fun b hb=> ?_,fun q hq i=> ?_⟩
 ·simp only[gI,a1n,List.mem_nil_iff,or_false]at hb;rcases hb with rfl|rfl
  ·exact z3m (n:= "strconv.ErrSyntax") (nm:= "*errors.errorString") (t:=45) (by kernel_rfl) (by kernel_rfl) Tryz.underlying45 (v1n hv "strconv.ErrSyntax" _ (by simp[y3k,Rows.laid_strconv_ErrSyntax];rfl))
  ·exact z3m (n:= "strconv.ErrRange") (nm:= "*errors.errorString") (t:=45) (by kernel_rfl) (by kernel_rfl) Tryz.underlying45 (v1n hv "strconv.ErrRange" _ (by simp[y3k,Rows.laid_strconv_ErrRange];rfl))
 ·simp only[gV,a1n,List.mem_nil_iff,or_false]at hq;rcases hq with rfl|rfl|rfl
  ·refine⟨?_,hg i⟩;have h0:=hg 0;exact(v7a (by simpa using h0)).1
  ·exact z6x (n:= "strings.asciiSpace") (t:=203) (e:=5) (by kernel_rfl) (by kernel_rfl) Tryz.underlying203 Tryz.underlying5 (by kernel_rfl) (by kernel_rfl) (by rw[Lib.asciiSpaceTab_length];decide) (v1n hv "strings.asciiSpace" _ (by rw[<-q7e];simp[y3k])) i
  ·exact z6x (n:= "internal/strconv.uint64pow10") (t:=298) (e:=194) (by kernel_rfl) (by kernel_rfl) Tryz.underlying298 Tryz.underlying194 (by kernel_rfl) (by kernel_rfl) (by decide) (v1n hv "internal/strconv.uint64pow10" _ (by rw[<-pow_];simp[y3k])) i
set_option maxRecDepth 100000 in
def readBack_lifted (os:Os)(started:os.Started)(H:Type)(enc:TypeId × Value->H):
  ReturnsInHanded {} Tryz.checked os 4 .any (fun w args=>(Rows.readBackSpec.pre enc Tryz.prog Tryz.f4 Rows.readBackRow.domain false w args/\laidMetH Tryz.prog w8h w)/\sizedMet enc Tryz.prog Tryz.f4 (OpenSpec.ofChange Rows.readBackSpec) false w args)
   (Rows.readBackSpec.post enc Tryz.prog Tryz.f4 false true false false):=by
 refine returnsInHanded_of_change_and (C:=Tryz.checked) (X:=fun w _=>laidMetH Tryz.prog w8h w) (fun _ _ _ hh h=>h.of_heap hh) own_ started (by kernel_rfl) Tryz.func4
  (ChangeSpec.witness_shaped (enc:=enc) (C:=Tryz.checked) (os:=os) (X:=fun w _=>laidMetH Tryz.prog w8h w) false (wL os) #[.agg #[.slice none 0 0, .slice none 0 0]] 8 (World.layVars_os _ _ _)
   (World.shaped_of_ZipB (by kernel_rfl) (by kernel_rfl)) (by kernel_rfl) (by kernel_rfl) (by kernel_rfl)
   (q6l os _)) ?_
 intro W base args ds gs before hval0 hW hcnd _ hlay _;have hval: ∀(j:Nat) t v,Tryz.f4.params[j]? =some t->args[j]? =some v->Value.okWide Tryz.prog W .any base t v:=hval0
 have hW':=hW;obtain⟨p,q,hA0,hV,rfl,hfz,hnd⟩:=hW;have hA:DataW.TrodAll enc Tryz.prog W 0 (fun _=>true) true Tryz.f4.params.toList args.toList ds p:=hA0
 rw[Tryz.params4]at hA hval;obtain⟨v0,d0,rfl,rfl,h0⟩:=trodAll_one hA;obtain⟨rfl,rfl⟩:=trodVars_none hV;obtain⟨ens,nds,r0,hl,hr⟩:=q7t (hval 0 26 v0 rfl rfl) h0;have hc:=v0n (us:=[v0]) (q6z hlay) (q5p ens nds hl hr) ⟨rfl,fun i u v hu hv=>by
  match i with
  |0=>simp at hu hv;subst hu;subst hv;exact r0
  |i+1=>simp at hu⟩
 refine hc.mono fun e W' ⟨he,hb⟩=> ?_
 subst he;exact⟨_,rfl,v3r k5c (by kernel_rfl) rfl hW' hb rfl rfl rfl (by kernel_rfl) Tryz.underlying4⟩
def j1:(Rows.readBackRow.inPlace == Tryz.prog.inPlace 4)=true:=by kernel_rfl
def j2:(Rows.readBackRow.unfollowed == Tryz.prog.unfollowed 4)=true:=by kernel_rfl
def j3:(Rows.readBackRow.recurses == Tryz.prog.recurses 4)=true:=by kernel_rfl
def j4:(Rows.readBackRow.named == Tryz.prog.varsNamed 4)=true:=by kernel_rfl
def w8o:joinedFacts Tryz.prog 4 Tryz.f4 Rows.readBackSpec Rows.readBackRow=true:=by
 unfold joinedFacts;rw[j1,j2,j3,j4]
 kernel_rfl
def readBack_holds:Rows.ReadBackSaid:=
 OpenClaim.holds_of_wide 4 Tryz.f4 rfl rfl rfl rfl rfl rfl rfl ⟨rfl,rfl,rfl,rfl,rfl⟩ rfl rfl rfl rfl rfl (by kernel_rfl) Tryz.func4 w8o
  (a0f (by kernel_rfl)) (by unfold Func.isWrapper;first|(rw[if_pos (by decide+kernel)];kernel_rfl)|(rw[if_neg (by decide+kernel)];exact⟨rfl,rfl⟩))
  (fun os started H enc _=>readBack_lifted os started H enc)
def readBack_card:Rows.ReadBackCardSaid:=
 Claim7.holds_tied_plain_at .later [] [.data, .data, .data, .data, .handle, .sentinel, .sentinel, .listed, .data, .pinned] true (true, "a87b60639d75b42a9b2639859b09363706b63c59f2f7b91d6abb995373adb743") true readBack_holds (fun _ h=>by cases h) (by kernel_rfl) (fun _ h=>by cases h) readBack_row_tie rfl ⟨rfl,rfl⟩ (by kernel_rfl) rfl
  (fun f fn hf hfn=>by
   obtain rfl:f=4:=Option.some.inj ((show Tryz.prog.funcNamed "noria/norialaw14.ReadBack" =some 4 by kernel_rfl).symm.trans hf) |>.symm
   obtain rfl:fn=Tryz.f4:=(Option.some.inj (Tryz.func4.symm.trans hfn)).symm;exact⟨by kernel_rfl,fun j t ht=>by
    rw[Tryz.params4]at ht;have hm:t∈[26]:=by simpa using Array.mem_of_getElem? ht
    have hall:([26].all fun u=> !Tryz.prog.wantsStandIn u)=true:=by kernel_rfl
    exact(show Tryz.prog.wantsStandIn t=false by simpa using a0l.1 hall t hm)⟩)
  (by kernel_rfl)
#print axioms readBack_card
end Go.Proofs.YtdilhaphlahfjaaGreatDoor
end
