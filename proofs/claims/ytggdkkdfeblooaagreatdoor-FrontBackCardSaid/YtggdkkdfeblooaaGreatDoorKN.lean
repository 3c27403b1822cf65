/- Part KN of the proof. What is proved by the whole: the statement that the claim names, with no condition. -/
import Derived.Test.YtggdkkdfeblooaaGreatDoorKM
import Derived.Carry
import Derived.ProofKit
import Derived.Lib.LaidTab
import Derived.MakeChecks
import Derived.Test.YtggdkkdfeblooaaGreatDoorRows
import Derived.Test.YtggdkkdfeblooaaGreatDoorCards
import Derived.Test.YtggdkkdfeblooaaGreatDoorTie
import Derived.OpenShut
import Derived.LaidMore
import Derived.Lay
import Derived.LaidHandle
import Derived.SevenTiedAt
import Derived.Stop.Joined
set_option linter.all false
section
namespace Go.Vm
open Go.RowKit
section
variable {H : Type} {enc : TypeId × Value -> H} {P : Program} {w : World} {held : Bool} {sp : Nat -> Bool}
def y3e (P:Program):Nat->TypeId->List D->Prop
 |0,_,_=>False
 |n+1,t,xs=>match P.underlying t with
  |some .bool=> ∃b,xs= [.bool b]
  |some (.int k)=> ∃m,xs= [.int k m]/\(Lit.int k m).wf=true
  |some .string=> ∃s,xs= [.str s]/\s.size<=maxLen
  |some (.slice e)=> ∃rows,xs= [.sl (P.cellsOf e) rows]/\rows.length<=maxLen/\ ∀r∈rows,y3e P n e r
  |some (.struct fs)=> ∃parts:LL,parts.length=fs.size/\xs=parts.flatten/\ ∀(i:Nat) f p,fs.toList[i]? =some f->parts[i]? =some p->y3e P n f.type p
  |_=>False
def u9x (P:Program):Nat->List Field->Option Nat
 |o,[]=>some o
 |o,f::fs=>if f.offset=o then u9x P (o+P.cellsOf f.type) fs else none
def k9v (P:Program)(S:List TypeId)(t:TypeId):Bool:=match P.underlying t with
 |some .bool|some (.int _)|some .string=>true
 |some (.slice e)=>decide (0 < P.cellsOf e)&&S.contains e
 |some (.struct fs)=>decide (u9x P 0 fs.toList=some (P.cellsOf t))&&fs.toList.all fun f=>S.contains f.type
 |_=>false
def z7u (P:Program)(S:List TypeId):Bool:=S.all (k9v P S)
def z2q {α:Type}{Q:Nat->α->Prop}: ∀ {n:Nat},(∀i,i < n-> ∃x,Q i x)-> ∃l:List α,l.length=n/\ ∀(i:Nat) x,l[i]? =some x->Q i x
 |0,_=>⟨[],rfl,by simp⟩
 |n+1,h=>by
  obtain⟨l,h1,h2⟩:=z2q (n:=n) (fun i hi=>h i (by omega))
  obtain⟨x,hx⟩:=h n (by omega)
  refine⟨l++[x],by simp[h1],fun i y hy=> ?_⟩
  rw[a0y]at hy;split at hy
  ·exact h2 i y hy
  ·rename_i hi;have hi0:i - l.length=0:=by
    rcases Nat.eq_zero_or_pos (i - l.length)with h0|h0
    ·exact h0
    ·rw[a2c (by simp;omega)]at hy;cases hy
   rw[hi0]at hy;simp at hy;subst hy
   rwa [show i=n by omega]
def u4y {α β:Type}{f:α->Option β}: ∀ {as_:List α} {bs:List β},as_.mapM f=some bs->bs.length=as_.length/\ ∀(i:Nat) a,as_[i]? =some a-> ∃b,bs[i]? =some b/\f a=some b
 | [],bs,h=>by simp at h;subst h;simp
 |a::as_,bs,h=>by
  rw[List.mapM_cons]at h;cases hf:f a with
  |none=>simp[hf]at h
  |some b=>
   cases hr:as_.mapM f with
   |none=>simp[hf,hr]at h
   |some bs'=>
    simp[hf,hr]at h;subst h;obtain⟨h1,h2⟩:=u4y hr;refine⟨by simp[h1],fun i c hc=> ?_⟩
    cases i with
    |zero=>simp at hc;subst hc;exact⟨b,rfl,hf⟩
    |succ i=>obtain⟨b',e1,e2⟩:=h2 i c (by simpa using hc);exact⟨b',by simpa using e1,e2⟩
def z7v {a:Addr}{n:Nat}{cs:List Value}(h:w.cells? 0 a n=some cs):cs.length=n/\ ∀(i:Nat) u,cs[i]? =some u->w.cell? (a.add i)=some u:=by
 unfold World.cells? at h;rw[if_pos (a0w _)]at h;obtain⟨h1,h2⟩:=u4y h;refine⟨by simpa using h1,fun i u hu=> ?_⟩
 have hi:i < n:=by have:=(a0c.1 hu).1;rw[h1]at this;simpa using this
 obtain⟨b,e1,e2⟩:=h2 i i (by simp[hi])
 rw[hu]at e1;cases e1;exact e2
def ZW (w:World):Nat->Nat->Prop:=fun b _=>b < w.heap.size
def w0o {b o:Nat}{s:Option Nat}{u:Value}(h:w.cell? ⟨b,o,s⟩=some u):b < w.heap.size/\s=none:=by
 unfold World.cell? at h;split at h
 ·rename_i c _ _ hc;refine⟨(a0r.1 hc).1,?_⟩;cases s with
  |none=>rfl
  |some k=>simp at h
 ·cases h
def y5k {cs:List Value}{m fuel:Nat}{S:List TypeId}(ih: ∀(t:TypeId) (cs:List Value) (x:DataW H × List MemPlace),S.contains t=true->DataW.trod enc P w 0 sp held fuel t cs=some x->
  ∃xs,y3e P m t xs/\xs.length=cs.length/\ ∀(j:Nat) u c,cs[j]? =some u->xs[j]? =some c->RepD w (ZW w) u c):
  ∀(fs:List Field) (o e:Nat) (ys:List (DataW H × List MemPlace)),u9x P o fs=some e->cs.length=e->fs.all (fun f=>S.contains f.type)=true->
   (fs.mapM fun f=>DataW.trod enc P w 0 sp held fuel f.type ((cs.drop f.offset).take (P.cellsOf f.type)))=some ys->
   o<=e/\ ∃parts:LL,parts.length=fs.length/\parts.flatten.length=e - o/\(∀(i:Nat) f p,fs[i]? =some f->parts[i]? =some p->y3e P m f.type p)/\
    ∀(j:Nat) u c,cs[o+j]? =some u->parts.flatten[j]? =some c->RepD w (ZW w) u c
 | [],o,e,ys,hc,hl,ha,hm=>by
   cases hc;exact⟨a0q _,[],rfl,by simp,by simp,by simp⟩
 |f::fs,o,e,ys,hc,hl,ha,hm=>by
  unfold u9x at hc;split at hc
  ·rename_i ho;rw[List.mapM_cons]at hm;cases h1:DataW.trod enc P w 0 sp held fuel f.type ((cs.drop f.offset).take (P.cellsOf f.type))with
   |none=>simp[h1]at hm
   |some y=>
    cases h2:(fs.mapM fun f=>DataW.trod enc P w 0 sp held fuel f.type ((cs.drop f.offset).take (P.cellsOf f.type)))with
    |none=>simp[h1,h2]at hm
    |some ys'=>
     simp only[a1r,a0g]at ha;obtain⟨xs,t1,t2,t3⟩:=ih _ _ _ ha.1 h1;obtain⟨hle,parts,p1,p2,p3,p4⟩:=y5k ih fs _ e ys' hc hl ha.2 h2;have hxl:xs.length=P.cellsOf f.type:=by rw[t2,ho];simp;omega
     refine⟨by omega,xs::parts,by simp[p1],by simp only[List.flatten_cons,a0k];omega,fun i g p hg hp=> ?_,fun j u c hu hc'=> ?_⟩
     ·cases i with
      |zero=>simp at hg hp;subst hg;subst hp;exact t1
      |succ i=>exact p3 i g p (by simpa using hg) (by simpa using hp)
     ·simp only[List.flatten_cons]at hc';rw[a0y]at hc';split at hc'
      ·rename_i hj;refine t3 j u c ?_ hc';rw[a1s,if_pos (by omega),a1x,ho];exact hu
      ·rename_i hj;refine p4 (j - xs.length) u c ?_ hc';rw[show o+P.cellsOf f.type+(j - xs.length)=o+j by omega];exact hu
  ·cases hc
def w1o {S:List TypeId}(hS:z7u P S=true): ∀(fuel:Nat) (t:TypeId) (cs:List Value) (x:DataW H × List MemPlace),S.contains t=true->DataW.trod enc P w 0 sp held fuel t cs=some x->
  ∃xs,y3e P fuel t xs/\xs.length=cs.length/\ ∀(j:Nat) u c,cs[j]? =some u->xs[j]? =some c->RepD w (ZW w) u c
 |0,_,_,_,_,h=>by simp[DataW.trod]at h
 |fuel+1,t,cs,x,hp,h=>by
  have one: ∀(u:Value) (c:D),RepD w (ZW w) u c-> ∀(j:Nat) u' c',[u][j]? =some u'->[c][j]? =some c'->RepD w (ZW w) u' c':=by
   intro u c hr j u' c' h1 h2;cases j with
   |zero=>simp at h1 h2;subst h1;subst h2;exact hr
   |succ j=>simp at h1
  have hp:k9v P S t=true:=a0l.1 hS t (List.contains_iff_mem.1 hp);unfold k9v at hp;split at hp
  ·rename_i hu;obtain⟨b,rfl⟩: ∃b,cs= [.bool b]:=by
    simp only[DataW.trod,hu]at h;split at h<;>simp_all
   exact⟨[.bool b],by simp only[y3e,hu];exact⟨b,rfl⟩,rfl,one _ _ (.bool b)⟩
  ·rename_i k hu;obtain⟨n,rfl,hwf⟩: ∃n,cs= [.int k n]/\(Lit.int k n).wf=true:=by
    simp only[DataW.trod,hu]at h;split at h<;>simp_all
   exact⟨[.int k n],by simp only[y3e,hu];exact⟨n,rfl,hwf⟩,rfl,one _ _ (.int k n)⟩
  ·rename_i hu;obtain⟨s,rfl,hs⟩: ∃s,cs= [.string s]/\s.size<=maxLen:=by
    simp only[DataW.trod,hu]at h;split at h<;>simp_all
   exact⟨[.str s],by simp only[y3e,hu];exact⟨s,rfl,hs⟩,rfl,one _ _ (.str s)⟩
  ·rename_i e hu;simp only[a0g,a0p]at hp;obtain⟨hsz,hp⟩:=hp;have hcs:cs= [.slice none 0 0]\/ ∃a len cap,cs= [.slice (some a) len cap]:=by
    simp only[DataW.trod,hu]at h;split at h<;>simp_all
   rcases hcs with rfl|⟨a,len,cap,rfl⟩
   ·exact⟨[.sl (P.cellsOf e) []],by simp only[y3e,hu];exact⟨[],rfl,by simp,by simp⟩,rfl,one _ _ (.slnil _)⟩
   ·simp only[DataW.trod,hu]at h;split at h
    ·rename_i hb;obtain⟨_,hlc,hcm⟩:=hb;cases h1:(List.range len).mapM (fun i=>(w.cells? 0 (a.add (i*P.cellsOf e)) (P.cellsOf e)).bind (DataW.trod enc P w 0 sp held fuel e))with
     |none=>simp[h1]at h
     |some elems=>
      obtain⟨_,h3⟩:=u4y h1;have hel: ∀i,i < len-> ∃r:List D,y3e P fuel e r/\r.length=P.cellsOf e/\ ∃ci:List Value,w.cells? 0 (a.add (i*P.cellsOf e)) (P.cellsOf e)=some ci/\ ∀(j:Nat) u c,ci[j]? =some u->r[j]? =some c->RepD w (ZW w) u c:=by
       intro i hi;obtain⟨b,_,hb⟩:=h3 i i (by simp[hi])
       cases hci:w.cells? 0 (a.add (i*P.cellsOf e)) (P.cellsOf e)with
       |none=>simp[hci]at hb
       |some ci=>
        simp only[hci,a1i]at hb;obtain⟨r,r1,r2,r3⟩:=w1o hS fuel e ci b hp hb;exact⟨r,r1,by rw[r2,(z7v hci).1],ci,rfl,r3⟩
      obtain⟨rows,q1,q2⟩:=z2q hel;have htr: ∀r∈rows,y3e P fuel e r:=fun r hr=>by
       obtain⟨i,hi⟩:=List.mem_iff_getElem?.1 hr;exact(q2 i r hi).1
      refine⟨[.sl (P.cellsOf e) rows],by simp only[y3e,hu];exact⟨rows,rfl,by omega,htr⟩,rfl,one _ _ ?_⟩
      ·rcases Nat.eq_zero_or_pos len with h0|h0
       ·have:rows= []:=List.eq_nil_of_length_eq_zero (by omega)
        subst h0;subst this;exact .slemp a cap _
       ·obtain⟨r0,hr0⟩: ∃r0,rows[0]? =some r0:=⟨rows[0],a0b (by omega)⟩
        obtain⟨_,hl0,c0,hc0,_⟩:=q2 0 r0 hr0;obtain⟨hcl0,hca0⟩:=z7v hc0;have hz:w.cell? a=some (c0[0]'(by omega)):=by
         have:=hca0 0 (c0[0]'(by omega)) (a0b (by omega))
         rw[Nat.zero_mul]at this;exact this
        obtain⟨ab,ao,as_⟩:=a;obtain⟨hlt,hsn⟩:=w0o hz;subst hsn;have hall: ∀(i:Nat) (r:List D) (j:Nat) (c:D),rows[i]? =some r->r[j]? =some c-> ∃u,w.cell? ⟨ab,ao+(i*P.cellsOf e+j),none⟩=some u/\RepD w (ZW w) u c:=by
         intro i r j c hi hj;obtain⟨_,hlr,ci,hci,hrep⟩:=q2 i r hi;obtain⟨hcl,hca⟩:=z7v hci;have hj':j < ci.length:=by rw[hcl,<-hlr];exact(a0c.1 hj).1
         refine⟨ci[j],?_,hrep j ci[j] c (a0b hj') hj⟩;have:=hca j ci[j] (a0b hj');rw[x4b,x4b,a2e]at this;exact this
        exact .sl ab ao len cap (P.cellsOf e) rows (fun i j=>(w.cell? ⟨ab,ao+(i*P.cellsOf e+j),none⟩).getD undef) q1 hlc (fun i r hi=>(q2 i r hi).2.1)
         (fun i r j c hi hj=>hlt) (fun i r j c hi hj=>by obtain⟨u,hu',_⟩:=hall i r j c hi hj;rw[hu'];rfl)
         (fun i r j c hi hj=>by obtain⟨u,hu',hr'⟩:=hall i r j c hi hj;rw[hu'];exact hr')
    ·cases h
  ·rename_i fs hu;simp only[a0g,a0p]at hp;obtain⟨hct,hp⟩:=hp;simp only[DataW.trod,hu]at h;split at h
   ·rename_i hl;cases h1:(fs.toList.mapM fun f=>DataW.trod enc P w 0 sp held fuel f.type ((cs.drop f.offset).take (P.cellsOf f.type)))with
    |none=>simp[h1]at h
    |some ys=>
     obtain⟨_,parts,p1,p2,p3,p4⟩:=y5k (cs:=cs) (m:=fuel) (fun t cs x a b=>w1o hS fuel t cs x a b) fs.toList 0 _ ys hct hl hp h1
     refine⟨parts.flatten,by simp only[y3e,hu];exact⟨parts,by simpa using p1,rfl,p3⟩,by omega,fun j u c hu' hc'=>p4 j u c (by rw[a1z];exact hu') hc'⟩
   ·cases h
  ·cases hp
def v3r {S:List TypeId}(hS:z7u P S=true){t:TypeId}{v:Value}{d:DataW H}{ps:List MemPlace}(hp:S.contains t=true)(h:DataW.Trod enc P w 0 sp held t v d ps):
  ∃n xs,y3e P n t xs/\xs.length=v.cells.toList.length/\ ∀(j:Nat) u c,v.cells.toList[j]? =some u->xs[j]? =some c->RepD w (ZW w) u c:=by
 obtain⟨fuel,h⟩:=h;obtain⟨xs,h⟩:=w1o hS fuel t _ _ hp h;exact⟨fuel,xs,h⟩
end
end Go.Vm
end
section
namespace Go.Vm
open Go.RowKit Go.ChangeShapes Go.WideShapes
section
variable {H : Type} {enc : TypeId × Value -> H} {P : Program} {W W' : World}
def y4f {sp:Nat->Bool}(hl:laidOutB P=true)(hb:Below W.heap.size W W'): ∀ {ts:List TypeId} {vs:List Value} {ds:List (DataW H)} {ps:List MemPlace},(ts.all fun t=>P.readableRec t&&decide (t < P.types.size))=true->
  DataW.TrodAll enc P W 0 (fun _=>true) true ts vs ds ps->(∀p∈ps,p.block < W.heap.size)->(∀p∈ps,sp p.block=true)->DataW.TrodAll enc P W' 0 sp true ts vs ds ps
 | [],[],[],_,_,h,_,_=>h
 |t::ts,v::vs,d::ds,_,ht,⟨p,q,h1,h2,e⟩,hlt,hsp=>by
  subst e;simp only[a1r,a0g,a0p]at ht;exact⟨p,q,WideElems.Trod_stays hl ht.1.1 ht.1.2 h1 (fun x hx=>hb.same (hlt x (List.mem_append_left _ hx))) (fun x hx=>hsp x (List.mem_append_left _ hx)),
   y4f hl hb (by simpa using ht.2) h2 (fun x hx=>hlt x (List.mem_append_right _ hx)) (fun x hx=>hsp x (List.mem_append_right _ hx)),rfl⟩
def v7h {f:Func}{s:ChangeSpec}{args:Array Value}{ds:List (DataW H)}{before:List MemPlace}{t:TypeId}(hl:laidOutB P=true)(hts:(f.params.toList.all fun t=>P.readableRec t&&decide (t < P.types.size))=true)
  (hv:s.vars= []) (hW:DataW.Whole enc P f.params.toList s.vars false W args.toList ds [] before) (hb:Below W.heap.size W W')
  (hr:(s.fn H (ds++[])).results= [.lit (.bool true)]) (ha:(s.fn H (ds++[])).args=ds) (hn:(s.fn H (ds++[])).vars= []) (ht:f.resultTypes= #[t]) (hu:P.underlying t=some .bool):
  s.post enc P f false true false false W args (.bool true) W':=by
 have hlt: ∀p∈before,p.block < W.heap.size:=fun p hp=>hW.lt p hp
 have hW0:=hW;obtain⟨p,q,hA,hV,hpq,hz,hnd⟩:=hW;rw[hv]at hV;obtain⟨_,hq⟩:=trodVars_none hV;subst hq;rw[a0z]at hpq;subst hpq;refine⟨ds,[],before,[],before,[],hW0,?_,?_,?_,hb.frame _,fun h=>by cases h⟩
 ·rw[hr,ht];exact trodAll_mk1 (shut_bool hu true)
 ·rw[ha];exact y4f hl hb hts hA hlt (fun p hp=>by simpa using hlt p hp)
 ·rw[hn,hv];rfl
def v3i {f:FuncId}{vs:List V}{us:List Value}(ht:z3h (ZW W) W)(hc:y8o P f vs (.d (.bool true)))(hr:z5x W (g0 (ZW W)) us vs):Calls P f us.toArray W fun e w'=>e= .returned (.bool true)/\Below W.heap.size W w':=by
 refine(hc (g0 (ZW W)) W us (y8t (fun b o h=>h) ht) hr).mono ?_
 rintro e w' ⟨u,g',rfl,hru,hk⟩
 rw[x4f hru];exact⟨rfl,hk.fr.below fun i _ ⟨b,x,hx,_⟩=>by simp at hx⟩
end
section
variable {P : Program} {w : World}
def w3x {v:Value}{x:D}{xs:List D}(hx:xs= [x])(hv:v.cells= #[v])(h: ∀(j:Nat) u c,v.cells.toList[j]? =some u->xs[j]? =some c->RepD w (ZW w) u c):Rep w (g0 (ZW w)) v (.d x):=by
 subst hx;exact .d (h 0 v x (by rw[hv];rfl) rfl)
end
end Go.Vm
end
section
set_option maxRecDepth 100000
namespace Go.Vm
open Go.Proofs
open Go.RowKit Go.ChangeShapes Go.WideShapes
def u3n.j2p {f:FuncId}{args:List V}{b:Bool}{t:TypeId}(hs:z3o Tryz.prog f=some [t])(hm:mkV Tryz.prog [t] [.bool b]=some (.d (.bool b)))
  (h:u3n Tryz.prog f args (.val [.bool b])):y8o Tryz.prog f args (.d (.bool b)):=by
 obtain⟨ts,ss,v,h1,h2,h3,h4,h5⟩:=h;rw[hs]at h1;cases h1;rw[hm]at h4;cases h4;exact h5
def v5f {P:Program}{n:Nat}{t:TypeId}{xs:List D}(hu:P.underlying t=some .string)(h:y3e P n t xs): ∃s,xs= [.str s]:=by
 cases n with
 |zero=>exact h.elim
 |succ n=>simp only[y3e,hu]at h;obtain⟨s,hs,_⟩:=h;exact⟨s,hs⟩
def q5k:z7u Tryz.prog [9]=true:=by kernel_rfl
section
variable {H : Type} {enc : TypeId × Value -> H} {W : World} {base : Nat}
def k9t {v:Value}{d:DataW H}{p:List MemPlace}(hv:Value.okWide Tryz.prog W .any base 9 v)(h:DataW.Trod enc Tryz.prog W 0 (fun _=>true) true 9 v d p): ∃s,Rep W (g0 (ZW W)) v (.d (.str s)):=by
 obtain⟨n,xs,h1,h2,h3⟩:=v3r q5k rfl h;obtain⟨s,rfl⟩:=v5f Tryz.underlying9 h1;refine⟨s,w3x rfl ?_ h3⟩;unfold Value.okWide Cell.okWide Cell.ok at hv;rw[Tryz.underlying9]at hv;cases v<;>first|rfl|(simp at hv)
end
def q7s (P:Program)(w:World)(n:String)(d:DataW Unit):Prop:=
 ∃g t cs fuel p,P.globalNamed n=some g/\(P.globals[g]?).map (·.type)=some t/\w.var? P n=some cs/\DataW.trod (fun _=>()) P w 0 (fun _=>true) false fuel t cs.toList=some (d,p)
def v4p {P:Program}{w:World}: ∀ {l:List (String × DataW Unit)} {ps:List MemPlace},DataW.LaidVars P w l ps-> ∀n d,(n,d)∈l->q7s P w n d
 | [],_,_,_,_,hm=>by cases hm
 |(n',d')::r,ps,h,n,d,hm=>by
  obtain⟨g,t,cs,fuel,p,q,h1,h2,h3,h4,h5,_⟩:=h;rcases a1n.1 hm with e|e
  ·cases e;exact⟨g,t,cs,fuel,p,h1,h2,h3,h4⟩
  ·exact v4p h5 n d e
def z5i {P:Program}{w:World}{n nm:String}{d:DataW Unit}{g:Nat}{t:TypeId}{ms:Array (String × TypeId)}(hg:P.globalNamed n=some g)(ht:(P.globals[g]?).map (·.type)=some t)(hu:P.underlying t=some (.interface ms))
  (h:q7s P w n (.iface nm d)):ZW w g 0/\ ∃t p,w.cell? ⟨g,0,none⟩=some (.iface t p):=by
 obtain⟨g',t',cs,fuel,p,h1,h2,h3,h4⟩:=h;rw[hg]at h1;cases h1;rw[ht]at h2;cases h2;have hz: ∀v,w.cell? ⟨g,0,none⟩=some v->ZW w g 0:=fun v hv=>by
  unfold ZW;simp only[World.cell?]at hv;cases hw:w.heap[g]? with
  |none=>rw[hw]at hv;cases hv
  |some o=>exact(a0r.1 hw).1
 have key: ∃u v,cs.toList= [.iface u v]:=by
  cases fuel with
  |zero=>simp[DataW.trod]at h4
  |succ fuel=>
   simp only[DataW.trod,hu]at h4;split at h4<;>simp_all
 obtain⟨u,v,hc⟩:=key;have hcell:w.cell? ⟨g,0,none⟩=some (.iface u v):=by
  rw[World.var?_cell hg h3,<-a1a,hc];rfl
 exact⟨hz _ hcell,u,v,hcell⟩
def z9a {P:Program}{w:World}{n:String}{g:Nat}{t e:TypeId}{k:IntKind}{zs:List Int}{m:Nat}(hg:P.globalNamed n=some g)(hty:(P.globals[g]?).map (·.type)=some t)
  (ht:P.underlying t=some (.array m e)) (he:P.underlying e=some (.int k)) (hce:P.cellsOf e=1) (hct:P.cellsOf t=m) (hz:0 < zs.length)
  (h:q7s P w n (Lib.tabData k zs)) (i:Nat):ZW w g i/\w.cell? ⟨g,i,none⟩=(zs.map fun z=>Value.int k z)[i]? :=by
 obtain⟨g',t',cs,fuel,p,h1,h2,h3,h4⟩:=h;rw[hg]at h1;cases h1;rw[hty]at h2;cases h2;have hc:=Lib.cells_of_tab ht he hce hct h4;have hcell: ∀i,w.cell? ⟨g,i,none⟩=(zs.map fun z=>Value.int k z)[i]? :=fun i=>by
  rw[World.var?_cell hg h3,<-a1a,hc]
 refine⟨?_,hcell i⟩;unfold ZW;have h0:=hcell 0;rw[a0o,a0b hz]at h0;simp only[World.cell?,Option.map_some]at h0;cases hw:w.heap[g]? with
 |none=>rw[hw]at h0;cases h0
 |some o=>exact(a0r.1 hw).1
end Go.Vm
end
section
set_option maxRecDepth 100000
namespace Go.Vm
open Go.Proofs
def q7z (s:BA):y8o Tryz.prog 3 [.d (.str s)] (.d (.bool true)):=
 u3n.j2p (t:=4) (by kernel_rfl) (by kernel_rfl) (v3j mixedOrders q4b (by kernel_rfl) rfl (c_FrontBack s))
end Go.Vm
end
section
namespace Go.Proofs.YtggdkkdfeblooaaGreatDoor
open Go.ChangeShapes Go.WideShapes Go.ChangeAt Go.RowKit Go.Vm
def own_:ownKnob Tryz.prog.godebug=none:=by kernel_rfl
def laid_:laidOutB Tryz.prog=true:=by kernel_rfl
abbrev q3x:List (String × DataW Unit):=Rows.frontBackRow.laid
def y5b:List (String × DataW Unit):=[("math/bits.deBruijn32tab",Rows.laid_math_bits_deBruijn32tab),("math/bits.deBruijn64tab",Rows.laid_math_bits_deBruijn64tab),("internal/strconv.uint64pow10",Rows.laid_internal_strconv_uint64pow10),("unicode/utf8.acceptRanges",Rows.laid_unicode_utf8_acceptRanges),("strconv.ErrRange",Rows.laid_strconv_ErrRange),("strconv.ErrSyntax",Rows.laid_strconv_ErrSyntax),("unicode.White_Space",Rows.laid_unicode_White_Space),("strings.asciiSpace",Rows.laid_strings_asciiSpace),("unicode/utf8.first",Rows.laid_unicode_utf8_first)]
def k0p:Rows.laid_strings_asciiSpace (H:=Unit)=Lib.tabData .u8 Lib.asciiSpaceTab:=by kernel_rfl
def pow_:Rows.laid_internal_strconv_uint64pow10 (H:=Unit)=Lib.tabData .u64 Lib.pow10Tab:=by kernel_rfl
def et:Tryz.prog.globalNamed "errors.errorType" =some 0:=by kernel_rfl
def rt:(Tryz.prog.cutTypes.find? (·.1 == "internal/reflectlite.rtype")).map (·.2)=some 138:=by kernel_rfl
def k1g:((List.range Tryz.prog.types.size).filter fun t=>Tryz.prog.rowNamed t [101,114,114,111,114])= [59]:=by kernel_rfl
def z5g {W:World}(h:laidMetH Tryz.prog q3x W):laidMet Tryz.prog y5b W/\handlesMet Tryz.prog [("errors.errorType",Rows.laid_errors_errorType)] W:=h
def z3v {W:World}(h:laidMetH Tryz.prog q3x W)(i:Nat):W.cell? ⟨0,i,none⟩= [Value.iface 138 (.agg #[.pointer (some ⟨12,59,none⟩)])][i]? :=by
 obtain⟨name,u,ty,e1,e2,e3,e4,e5⟩:=(z5g h).2 _ (a1h.2 rfl);have en:name= [101,114,114,111,114]:=(Option.some.inj e1).symm;subst en;obtain rfl:=Option.some.inj (rt.symm.trans e2);have hm:ty∈(List.range Tryz.prog.types.size).filter fun t=>Tryz.prog.rowNamed t [101,114,114,111,114]:=List.mem_filter.2 ⟨List.mem_range.2 e3,e4⟩
 rw[k1g]at hm;obtain rfl:=a1h.1 hm;have hh:typeHandle Tryz.prog 59= .pointer (some ⟨12,59,none⟩):=by kernel_rfl
 rw[hh]at e5;have:=World.var?_cell et e5 i;rw[this,<-a1a]
noncomputable def wH (os:Os):World:=
 let w0:=World.holding Tryz.prog os ⟨#[], #[],[]⟩
 { w0 with heap:=w0.heap.modify 0 fun
     | .cells _ t frozen=> .cells #[.iface 138 (.agg #[.pointer (some ⟨12,59,none⟩)])] t frozen
     |o=>o }
noncomputable def wL (os:Os):World:=(wH os).layVars Tryz.prog y5b
def q9c (os:Os)(args:Array Value):laidMetH Tryz.prog q3x ((wL os).forCall (fun _ _=>0) ⟨#[],args,[]⟩).memory:=by
 have e1:(y5b.filter fun x=>(y5b.map (·.1)).contains x.1)=y5b:=List.filter_eq_self.2 fun x hx=>List.contains_iff_mem.2 (a2b.2 ⟨x,hx,rfl⟩)
 have e2:(y5b.filter fun x=> !(y5b.map (·.1)).contains x.1)= []:=List.filter_eq_nil_iff.2 fun x hx=>by rw[List.contains_iff_mem.2 (a2b.2 ⟨x,hx,rfl⟩)];simp
 have h:laidMet Tryz.prog y5b (wL os):=laidMet_layVars (w0:=wH os) (y5b.map (·.1)) [] (by rw[e1];rfl) (by rw[e1];kernel_rfl) (by rw[e1];kernel_rfl) (by rw[e2];exact LaidIn.none)
 have h2:laidMet Tryz.prog y5b ((wL os).forCall (fun _ _=>0) ⟨#[],args,[]⟩).memory:=h.of_heap (by simp[World.memory,World.forCall,Input.heap])
 exact laidMetH_of_parts h2 (by kernel_rfl)
def k0c {W:World}(h:laidMetH Tryz.prog q3x W):z3h (ZW W) W:=by
 have hg:=z3v h;obtain⟨ps,hv,_⟩:=(z5g h).1;refine⟨fun b hb=> ?_,fun q hq i=> ?_⟩
 ·simp only[gI,a1n,List.mem_nil_iff,or_false]at hb;rcases hb with rfl|rfl
  ·exact z5i (n:= "strconv.ErrSyntax") (nm:= "*errors.errorString") (t:=59) (by kernel_rfl) (by kernel_rfl) Tryz.underlying59 (v4p hv "strconv.ErrSyntax" _ (by simp[y5b,Rows.laid_strconv_ErrSyntax];rfl))
  ·exact z5i (n:= "strconv.ErrRange") (nm:= "*errors.errorString") (t:=59) (by kernel_rfl) (by kernel_rfl) Tryz.underlying59 (v4p hv "strconv.ErrRange" _ (by simp[y5b,Rows.laid_strconv_ErrRange];rfl))
 ·simp only[gV,a1n,List.mem_nil_iff,or_false]at hq;rcases hq with rfl|rfl|rfl
  ·refine⟨?_,hg i⟩;have h0:=hg 0;exact(w0o (by simpa using h0)).1
  ·exact z9a (n:= "strings.asciiSpace") (t:=226) (e:=5) (by kernel_rfl) (by kernel_rfl) Tryz.underlying226 Tryz.underlying5 (by kernel_rfl) (by kernel_rfl) (by rw[Lib.asciiSpaceTab_length];decide) (v4p hv "strings.asciiSpace" _ (by rw[<-k0p];simp[y5b])) i
  ·exact z9a (n:= "internal/strconv.uint64pow10") (t:=214) (e:=175) (by kernel_rfl) (by kernel_rfl) Tryz.underlying214 Tryz.underlying175 (by kernel_rfl) (by kernel_rfl) (by decide) (v4p hv "internal/strconv.uint64pow10" _ (by rw[<-pow_];simp[y5b])) i
set_option maxRecDepth 100000 in
def frontBack_lifted (os:Os)(started:os.Started)(H:Type)(enc:TypeId × Value->H):
  ReturnsInHanded {} Tryz.checked os 3 .any (fun w args=>(Rows.frontBackSpec.pre enc Tryz.prog Tryz.f3 Rows.frontBackRow.domain false w args/\laidMetH Tryz.prog q3x w)/\sizedMet enc Tryz.prog Tryz.f3 (OpenSpec.ofChange Rows.frontBackSpec) false w args)
   (Rows.frontBackSpec.post enc Tryz.prog Tryz.f3 false true false false):=by
 refine returnsInHanded_of_change_and (C:=Tryz.checked) (X:=fun w _=>laidMetH Tryz.prog q3x w) (fun _ _ _ hh h=>h.of_heap hh) own_ started (by kernel_rfl) Tryz.func3
  (ChangeSpec.witness_shaped (enc:=enc) (C:=Tryz.checked) (os:=os) (X:=fun w _=>laidMetH Tryz.prog q3x w) false (wL os) #[.string ⟨#[]⟩] 8 (World.layVars_os _ _ _)
   (World.shaped_of_ZipB (by kernel_rfl) (by kernel_rfl)) (by kernel_rfl) (by kernel_rfl) (by kernel_rfl)
   (q9c os _)) ?_
 intro W base args ds gs before hval0 hW hcnd _ hlay _;have hval: ∀(j:Nat) t v,Tryz.f3.params[j]? =some t->args[j]? =some v->Value.okWide Tryz.prog W .any base t v:=hval0
 have hW':=hW;obtain⟨p,q,hA0,hV,rfl,hfz,hnd⟩:=hW;have hA:DataW.TrodAll enc Tryz.prog W 0 (fun _=>true) true Tryz.f3.params.toList args.toList ds p:=hA0
 rw[Tryz.params3]at hA hval;obtain⟨v0,d0,rfl,rfl,h0⟩:=trodAll_one hA;obtain⟨rfl,rfl⟩:=trodVars_none hV;obtain⟨s,r0⟩:=k9t (hval 0 9 v0 rfl rfl) h0;have hc:=v3i (us:=[v0]) (k0c hlay) (q7z s) ⟨rfl,fun i u v hu hv=>by
  match i with
  |0=>simp at hu hv;subst hu;subst hv;exact r0
  |i+1=>simp at hu⟩
 refine hc.mono fun e W' ⟨he,hb⟩=> ?_
 subst he;exact⟨_,rfl,v7h laid_ (by kernel_rfl) rfl hW' hb rfl rfl rfl (by kernel_rfl) Tryz.underlying4⟩
def q4e:joinedFacts Tryz.prog 3 Tryz.f3 Rows.frontBackSpec Rows.frontBackRow=true:=by
 unfold joinedFacts;rw[j1,j2,j3,j4]
 kernel_rfl
def frontBack_holds:Rows.FrontBackSaid:=
 OpenClaim.holds_of_wide 3 Tryz.f3 rfl rfl rfl rfl rfl rfl rfl ⟨rfl,rfl,rfl,rfl,rfl⟩ rfl rfl rfl rfl rfl (by kernel_rfl) Tryz.func3 q4e
  (a0e (by kernel_rfl)) (by unfold Func.isWrapper;first|(rw[if_pos (by decide+kernel)];kernel_rfl)|(rw[if_neg (by decide+kernel)];exact⟨rfl,rfl⟩))
  (fun os started H enc _=>frontBack_lifted os started H enc)
def frontBack_card:Rows.FrontBackCardSaid:=
 Claim7.holds_tied_plain_at .later [] [.data, .data, .data, .data, .handle, .sentinel, .sentinel, .listed, .data, .pinned] true (true, "3be4a05d2f342356d5f7e793ee4b0df8b5ae8d1ce60a48eca5d9a896c73c8474") true frontBack_holds (fun _ h=>by cases h) (by kernel_rfl) (fun _ h=>by cases h) frontBack_row_tie rfl ⟨rfl,rfl⟩ (by kernel_rfl) rfl
  (fun f fn hf hfn=>by
   obtain rfl:f=3:=Option.some.inj ((show Tryz.prog.funcNamed "noria/norialaw20.FrontBack" =some 3 by kernel_rfl).symm.trans hf) |>.symm
   obtain rfl:fn=Tryz.f3:=(Option.some.inj (Tryz.func3.symm.trans hfn)).symm;exact⟨by kernel_rfl,fun j t ht=>by
    rw[Tryz.params3]at ht;have hm:t∈[9]:=by simpa using Array.mem_of_getElem? ht
    have hall:([9].all fun u=> !Tryz.prog.wantsStandIn u)=true:=by kernel_rfl
    exact(show Tryz.prog.wantsStandIn t=false by simpa using a0l.1 hall t hm)⟩)
  (by kernel_rfl)
#print axioms frontBack_card
end Go.Proofs.YtggdkkdfeblooaaGreatDoor
end
