/- Part SN of the proof. What is proved by the whole: the statement that the claim names, with no condition. -/
import Derived.Test.YtfbonmbkmbofaaaGreatDoorSM
import Derived.Carry
import Derived.ProofKit
import Derived.Lib.LaidTab
import Derived.MakeChecks
import Derived.Test.YtfbonmbkmbofaaaGreatDoorRows
import Derived.Test.YtfbonmbkmbofaaaGreatDoorCards
import Derived.Test.YtfbonmbkmbofaaaGreatDoorTie
import Derived.OpenShut
import Derived.LaidMore
import Derived.Lay
import Derived.SevenTiedAt
import Derived.Stop.Joined
set_option linter.all false
section
namespace Go.Vm
open Go.RowKit
section
variable {H : Type} {enc : TypeId × Value -> H} {P : Program} {w : World} {held : Bool} {sp : Nat -> Bool}
def Typed (P:Program):Nat->TypeId->List D->Prop
 |0,_,_=>False
 |n+1,t,xs=>match P.underlying t with
  |some .bool=> ∃b,xs= [.bool b]
  |some (.int k)=> ∃m,xs= [.int k m]/\(Lit.int k m).wf=true
  |some .string=> ∃s,xs= [.str s]/\s.size<=maxLen
  |some (.slice e)=> ∃rows,xs= [.sl (P.cellsOf e) rows]/\rows.length<=maxLen/\ ∀r∈rows,Typed P n e r
  |some (.struct fs)=> ∃parts:LL,parts.length=fs.size/\xs=parts.flatten/\ ∀(i:Nat) f p,fs.toList[i]? =some f->parts[i]? =some p->Typed P n f.type p
  |_=>False
def contig (P:Program):Nat->List Field->Option Nat
 |o,[]=>some o
 |o,f::fs=>if f.offset=o then contig P (o+P.cellsOf f.type) fs else none
def okIn (P:Program)(S:List TypeId)(t:TypeId):Bool:=match P.underlying t with
 |some .bool|some (.int _)|some .string=>true
 |some (.slice e)=>decide (0 < P.cellsOf e)&&S.contains e
 |some (.struct fs)=>decide (contig P 0 fs.toList=some (P.cellsOf t))&&fs.toList.all fun f=>S.contains f.type
 |_=>false
def closedOK (P:Program)(S:List TypeId):Bool:=S.all (okIn P S)
def choose_list {α:Type}{Q:Nat->α->Prop}: ∀ {n:Nat},(∀i,i < n-> ∃x,Q i x)-> ∃l:List α,l.length=n/\ ∀(i:Nat) x,l[i]? =some x->Q i x
 |0,_=>⟨[],rfl,by simp⟩
 |n+1,h=>by
  obtain⟨l,h1,h2⟩:=choose_list (n:=n) (fun i hi=>h i (by omega))
  obtain⟨x,hx⟩:=h n (by omega)
  refine⟨l++[x],by simp[h1],fun i y hy=> ?_⟩
  rw[List.getElem?_append]at hy;split at hy
  ·exact h2 i y hy
  ·rename_i hi;have hi0:i - l.length=0:=by
    rcases Nat.eq_zero_or_pos (i - l.length)with h0|h0
    ·exact h0
    ·rw[List.getElem?_eq_none (by simp;omega)]at hy;cases hy
   rw[hi0]at hy;simp at hy;subst hy
   rwa [show i=n by omega]
def mapM_at {α β:Type}{f:α->Option β}: ∀ {as_:List α} {bs:List β},as_.mapM f=some bs->bs.length=as_.length/\ ∀(i:Nat) a,as_[i]? =some a-> ∃b,bs[i]? =some b/\f a=some b
 | [],bs,h=>by simp at h;subst h;simp
 |a::as_,bs,h=>by
  rw[List.mapM_cons]at h;cases hf:f a with
  |none=>simp[hf]at h
  |some b=>
   cases hr:as_.mapM f with
   |none=>simp[hf,hr]at h
   |some bs'=>
    simp[hf,hr]at h;subst h;obtain⟨h1,h2⟩:=mapM_at hr;refine⟨by simp[h1],fun i c hc=> ?_⟩
    cases i with
    |zero=>simp at hc;subst hc;exact⟨b,rfl,hf⟩
    |succ i=>obtain⟨b',e1,e2⟩:=h2 i c (by simpa using hc);exact⟨b',by simpa using e1,e2⟩
def cells_at {a:Addr}{n:Nat}{cs:List Value}(h:w.cells? 0 a n=some cs):cs.length=n/\ ∀(i:Nat) u,cs[i]? =some u->w.cell? (a.add i)=some u:=by
 unfold World.cells? at h;rw[if_pos (Nat.zero_le _)]at h;obtain⟨h1,h2⟩:=mapM_at h;refine⟨by simpa using h1,fun i u hu=> ?_⟩
 have hi:i < n:=by have:=(List.getElem?_eq_some_iff.1 hu).1;rw[h1]at this;simpa using this
 obtain⟨b,e1,e2⟩:=h2 i i (by simp[hi])
 rw[hu]at e1;cases e1;exact e2
def ZW (w:World):Nat->Nat->Prop:=fun b _=>b < w.heap.size
def cell_lt {b o:Nat}{s:Option Nat}{u:Value}(h:w.cell? ⟨b,o,s⟩=some u):b < w.heap.size/\s=none:=by
 unfold World.cell? at h;split at h
 ·rename_i c _ _ hc;refine⟨(Array.getElem?_eq_some_iff.1 hc).1,?_⟩;cases s with
  |none=>rfl
  |some k=>simp at h
 ·cases h
def fields_bridge {cs:List Value}{m fuel:Nat}{S:List TypeId}(ih: ∀(t:TypeId) (cs:List Value) (x:DataW H × List MemPlace),S.contains t=true->DataW.trod enc P w 0 sp held fuel t cs=some x->
  ∃xs,Typed P m t xs/\xs.length=cs.length/\ ∀(j:Nat) u c,cs[j]? =some u->xs[j]? =some c->RepD w (ZW w) u c):
  ∀(fs:List Field) (o e:Nat) (ys:List (DataW H × List MemPlace)),contig P o fs=some e->cs.length=e->fs.all (fun f=>S.contains f.type)=true->
   (fs.mapM fun f=>DataW.trod enc P w 0 sp held fuel f.type ((cs.drop f.offset).take (P.cellsOf f.type)))=some ys->
   o<=e/\ ∃parts:LL,parts.length=fs.length/\parts.flatten.length=e - o/\(∀(i:Nat) f p,fs[i]? =some f->parts[i]? =some p->Typed P m f.type p)/\
    ∀(j:Nat) u c,cs[o+j]? =some u->parts.flatten[j]? =some c->RepD w (ZW w) u c
 | [],o,e,ys,hc,hl,ha,hm=>by
   cases hc;exact⟨Nat.le_refl _,[],rfl,by simp,by simp,by simp⟩
 |f::fs,o,e,ys,hc,hl,ha,hm=>by
  unfold contig at hc;split at hc
  ·rename_i ho;rw[List.mapM_cons]at hm;cases h1:DataW.trod enc P w 0 sp held fuel f.type ((cs.drop f.offset).take (P.cellsOf f.type))with
   |none=>simp[h1]at hm
   |some y=>
    cases h2:(fs.mapM fun f=>DataW.trod enc P w 0 sp held fuel f.type ((cs.drop f.offset).take (P.cellsOf f.type)))with
    |none=>simp[h1,h2]at hm
    |some ys'=>
     simp only[List.all_cons,Bool.and_eq_true]at ha;obtain⟨xs,t1,t2,t3⟩:=ih _ _ _ ha.1 h1;obtain⟨hle,parts,p1,p2,p3,p4⟩:=fields_bridge ih fs _ e ys' hc hl ha.2 h2;have hxl:xs.length=P.cellsOf f.type:=by rw[t2,ho];simp;omega
     refine⟨by omega,xs::parts,by simp[p1],by simp only[List.flatten_cons,List.length_append];omega,fun i g p hg hp=> ?_,fun j u c hu hc'=> ?_⟩
     ·cases i with
      |zero=>simp at hg hp;subst hg;subst hp;exact t1
      |succ i=>exact p3 i g p (by simpa using hg) (by simpa using hp)
     ·simp only[List.flatten_cons]at hc';rw[List.getElem?_append]at hc';split at hc'
      ·rename_i hj;refine t3 j u c ?_ hc';rw[List.getElem?_take,if_pos (by omega),List.getElem?_drop,ho];exact hu
      ·rename_i hj;refine p4 (j - xs.length) u c ?_ hc';rw[show o+P.cellsOf f.type+(j - xs.length)=o+j by omega];exact hu
  ·cases hc
def bridge {S:List TypeId}(hS:closedOK P S=true): ∀(fuel:Nat) (t:TypeId) (cs:List Value) (x:DataW H × List MemPlace),S.contains t=true->DataW.trod enc P w 0 sp held fuel t cs=some x->
  ∃xs,Typed P fuel t xs/\xs.length=cs.length/\ ∀(j:Nat) u c,cs[j]? =some u->xs[j]? =some c->RepD w (ZW w) u c
 |0,_,_,_,_,h=>by simp[DataW.trod]at h
 |fuel+1,t,cs,x,hp,h=>by
  have one: ∀(u:Value) (c:D),RepD w (ZW w) u c-> ∀(j:Nat) u' c',[u][j]? =some u'->[c][j]? =some c'->RepD w (ZW w) u' c':=by
   intro u c hr j u' c' h1 h2;cases j with
   |zero=>simp at h1 h2;subst h1;subst h2;exact hr
   |succ j=>simp at h1
  have hp:okIn P S t=true:=List.all_eq_true.1 hS t (List.contains_iff_mem.1 hp);unfold okIn at hp;split at hp
  ·rename_i hu;obtain⟨b,rfl⟩: ∃b,cs= [.bool b]:=by
    simp only[DataW.trod,hu]at h;split at h<;>simp_all
   exact⟨[.bool b],by simp only[Typed,hu];exact⟨b,rfl⟩,rfl,one _ _ (.bool b)⟩
  ·rename_i k hu;obtain⟨n,rfl,hwf⟩: ∃n,cs= [.int k n]/\(Lit.int k n).wf=true:=by
    simp only[DataW.trod,hu]at h;split at h<;>simp_all
   exact⟨[.int k n],by simp only[Typed,hu];exact⟨n,rfl,hwf⟩,rfl,one _ _ (.int k n)⟩
  ·rename_i hu;obtain⟨s,rfl,hs⟩: ∃s,cs= [.string s]/\s.size<=maxLen:=by
    simp only[DataW.trod,hu]at h;split at h<;>simp_all
   exact⟨[.str s],by simp only[Typed,hu];exact⟨s,rfl,hs⟩,rfl,one _ _ (.str s)⟩
  ·rename_i e hu;simp only[Bool.and_eq_true,decide_eq_true_eq]at hp;obtain⟨hsz,hp⟩:=hp;have hcs:cs= [.slice none 0 0]\/ ∃a len cap,cs= [.slice (some a) len cap]:=by
    simp only[DataW.trod,hu]at h;split at h<;>simp_all
   rcases hcs with rfl|⟨a,len,cap,rfl⟩
   ·exact⟨[.sl (P.cellsOf e) []],by simp only[Typed,hu];exact⟨[],rfl,by simp,by simp⟩,rfl,one _ _ (.slnil _)⟩
   ·simp only[DataW.trod,hu]at h;split at h
    ·rename_i hb;obtain⟨_,hlc,hcm⟩:=hb;cases h1:(List.range len).mapM (fun i=>(w.cells? 0 (a.add (i*P.cellsOf e)) (P.cellsOf e)).bind (DataW.trod enc P w 0 sp held fuel e))with
     |none=>simp[h1]at h
     |some elems=>
      obtain⟨_,h3⟩:=mapM_at h1;have hel: ∀i,i < len-> ∃r:List D,Typed P fuel e r/\r.length=P.cellsOf e/\ ∃ci:List Value,w.cells? 0 (a.add (i*P.cellsOf e)) (P.cellsOf e)=some ci/\ ∀(j:Nat) u c,ci[j]? =some u->r[j]? =some c->RepD w (ZW w) u c:=by
       intro i hi;obtain⟨b,_,hb⟩:=h3 i i (by simp[hi])
       cases hci:w.cells? 0 (a.add (i*P.cellsOf e)) (P.cellsOf e)with
       |none=>simp[hci]at hb
       |some ci=>
        simp only[hci,Option.bind_some]at hb;obtain⟨r,r1,r2,r3⟩:=bridge hS fuel e ci b hp hb;exact⟨r,r1,by rw[r2,(cells_at hci).1],ci,rfl,r3⟩
      obtain⟨rows,q1,q2⟩:=choose_list hel;have htr: ∀r∈rows,Typed P fuel e r:=fun r hr=>by
       obtain⟨i,hi⟩:=List.mem_iff_getElem?.1 hr;exact(q2 i r hi).1
      refine⟨[.sl (P.cellsOf e) rows],by simp only[Typed,hu];exact⟨rows,rfl,by omega,htr⟩,rfl,one _ _ ?_⟩
      ·rcases Nat.eq_zero_or_pos len with h0|h0
       ·have:rows= []:=List.eq_nil_of_length_eq_zero (by omega)
        subst h0;subst this;exact .slemp a cap _
       ·obtain⟨r0,hr0⟩: ∃r0,rows[0]? =some r0:=⟨rows[0],List.getElem?_eq_getElem (by omega)⟩
        obtain⟨_,hl0,c0,hc0,_⟩:=q2 0 r0 hr0;obtain⟨hcl0,hca0⟩:=cells_at hc0;have hz:w.cell? a=some (c0[0]'(by omega)):=by
         have:=hca0 0 (c0[0]'(by omega)) (List.getElem?_eq_getElem (by omega))
         rw[Nat.zero_mul]at this;exact this
        obtain⟨ab,ao,as_⟩:=a;obtain⟨hlt,hsn⟩:=cell_lt hz;subst hsn;have hall: ∀(i:Nat) (r:List D) (j:Nat) (c:D),rows[i]? =some r->r[j]? =some c-> ∃u,w.cell? ⟨ab,ao+(i*P.cellsOf e+j),none⟩=some u/\RepD w (ZW w) u c:=by
         intro i r j c hi hj;obtain⟨_,hlr,ci,hci,hrep⟩:=q2 i r hi;obtain⟨hcl,hca⟩:=cells_at hci;have hj':j < ci.length:=by rw[hcl,<-hlr];exact(List.getElem?_eq_some_iff.1 hj).1
         refine⟨ci[j],?_,hrep j ci[j] c (List.getElem?_eq_getElem hj') hj⟩;have:=hca j ci[j] (List.getElem?_eq_getElem hj');rw[add_lit',add_lit',Nat.add_assoc]at this;exact this
        exact .sl ab ao len cap (P.cellsOf e) rows (fun i j=>(w.cell? ⟨ab,ao+(i*P.cellsOf e+j),none⟩).getD undef) q1 hlc (fun i r hi=>(q2 i r hi).2.1)
         (fun i r j c hi hj=>hlt) (fun i r j c hi hj=>by obtain⟨u,hu',_⟩:=hall i r j c hi hj;rw[hu'];rfl)
         (fun i r j c hi hj=>by obtain⟨u,hu',hr'⟩:=hall i r j c hi hj;rw[hu'];exact hr')
    ·cases h
  ·rename_i fs hu;simp only[Bool.and_eq_true,decide_eq_true_eq]at hp;obtain⟨hct,hp⟩:=hp;simp only[DataW.trod,hu]at h;split at h
   ·rename_i hl;cases h1:(fs.toList.mapM fun f=>DataW.trod enc P w 0 sp held fuel f.type ((cs.drop f.offset).take (P.cellsOf f.type)))with
    |none=>simp[h1]at h
    |some ys=>
     obtain⟨_,parts,p1,p2,p3,p4⟩:=fields_bridge (cs:=cs) (m:=fuel) (fun t cs x a b=>bridge hS fuel t cs x a b) fs.toList 0 _ ys hct hl hp h1
     refine⟨parts.flatten,by simp only[Typed,hu];exact⟨parts,by simpa using p1,rfl,p3⟩,by omega,fun j u c hu' hc'=>p4 j u c (by rw[Nat.zero_add];exact hu') hc'⟩
   ·cases h
  ·cases hp
def bridge_val {S:List TypeId}(hS:closedOK P S=true){t:TypeId}{v:Value}{d:DataW H}{ps:List MemPlace}(hp:S.contains t=true)(h:DataW.Trod enc P w 0 sp held t v d ps):
  ∃n xs,Typed P n t xs/\xs.length=v.cells.toList.length/\ ∀(j:Nat) u c,v.cells.toList[j]? =some u->xs[j]? =some c->RepD w (ZW w) u c:=by
 obtain⟨fuel,h⟩:=h;obtain⟨xs,h⟩:=bridge hS fuel t _ _ hp h;exact⟨fuel,xs,h⟩
end
end Go.Vm
end
section
namespace Go.Vm
open Go.RowKit Go.ChangeShapes Go.WideShapes
section
variable {H : Type} {enc : TypeId × Value -> H} {P : Program} {W W' : World}
def trodAll_stays {sp:Nat->Bool}(hl:laidOutB P=true)(hb:Below W.heap.size W W'): ∀ {ts:List TypeId} {vs:List Value} {ds:List (DataW H)} {ps:List MemPlace},(ts.all fun t=>P.readableRec t&&decide (t < P.types.size))=true->
  DataW.TrodAll enc P W 0 (fun _=>true) true ts vs ds ps->(∀p∈ps,p.block < W.heap.size)->(∀p∈ps,sp p.block=true)->DataW.TrodAll enc P W' 0 sp true ts vs ds ps
 | [],[],[],_,_,h,_,_=>h
 |t::ts,v::vs,d::ds,_,ht,⟨p,q,h1,h2,e⟩,hlt,hsp=>by
  subst e;simp only[List.all_cons,Bool.and_eq_true,decide_eq_true_eq]at ht;exact⟨p,q,WideElems.Trod_stays hl ht.1.1 ht.1.2 h1 (fun x hx=>hb.same (hlt x (List.mem_append_left _ hx))) (fun x hx=>hsp x (List.mem_append_left _ hx)),
   trodAll_stays hl hb (by simpa using ht.2) h2 (fun x hx=>hlt x (List.mem_append_right _ hx)) (fun x hx=>hsp x (List.mem_append_right _ hx)),rfl⟩
def post_true {f:Func}{s:ChangeSpec}{args:Array Value}{ds:List (DataW H)}{before:List MemPlace}{t:TypeId}(hl:laidOutB P=true)(hts:(f.params.toList.all fun t=>P.readableRec t&&decide (t < P.types.size))=true)
  (hv:s.vars= []) (hW:DataW.Whole enc P f.params.toList s.vars false W args.toList ds [] before) (hb:Below W.heap.size W W')
  (hr:(s.fn H (ds++[])).results= [.lit (.bool true)]) (ha:(s.fn H (ds++[])).args=ds) (hn:(s.fn H (ds++[])).vars= []) (ht:f.resultTypes= #[t]) (hu:P.underlying t=some .bool):
  s.post enc P f false true false false W args (.bool true) W':=by
 have hlt: ∀p∈before,p.block < W.heap.size:=fun p hp=>hW.lt p hp
 have hW0:=hW;obtain⟨p,q,hA,hV,hpq,hz,hnd⟩:=hW;rw[hv]at hV;obtain⟨_,hq⟩:=trodVars_none hV;subst hq;rw[List.append_nil]at hpq;subst hpq;refine⟨ds,[],before,[],before,[],hW0,?_,?_,?_,hb.frame _,fun h=>by cases h⟩
 ·rw[hr,ht];exact trodAll_mk1 (shut_bool hu true)
 ·rw[ha];exact trodAll_stays hl hb hts hA hlt (fun p hp=>by simpa using hlt p hp)
 ·rw[hn,hv];rfl
def calls_true {f:FuncId}{vs:List V}{us:List Value}(ht:TabOK (ZW W) W)(hc:PCall P f vs (.d (.bool true)))(hr:Reps W (g0 (ZW W)) us vs):Calls P f us.toArray W fun e w'=>e= .returned (.bool true)/\Below W.heap.size W w':=by
 refine(hc (g0 (ZW W)) W us (simH_nil (fun b o h=>h) ht) hr).mono ?_
 rintro e w' ⟨u,g',rfl,hru,hk⟩
 rw[rep_bool_inv hru];exact⟨rfl,hk.fr.below fun i _ ⟨b,x,hx,_⟩=>by simp at hx⟩
end
section
variable {P : Program} {w : World}
end
end Go.Vm
end
section
set_option maxRecDepth 100000
namespace Go.Vm
open Go.Proofs
open Go.RowKit Go.ChangeShapes Go.WideShapes
def PGood.truth {f:FuncId}{args:List V}{b:Bool}{t:TypeId}(hs:sigP Tryz.prog f=some [t])(hm:mkV Tryz.prog [t] [.bool b]=some (.d (.bool b)))
  (h:PGood Tryz.prog f args (.val [.bool b])):PCall Tryz.prog f args (.d (.bool b)):=by
 obtain⟨ts,ss,v,h1,h2,h3,h4,h5⟩:=h;rw[hs]at h1;cases h1;rw[hm]at h4;cases h4;exact h5
def typed_str {P:Program}{n:Nat}{t:TypeId}{xs:List D}(hu:P.underlying t=some .string)(h:Typed P n t xs): ∃s,xs= [.str s]:=by
 cases n with
 |zero=>exact h.elim
 |succ n=>simp only[Typed,hu]at h;obtain⟨s,hs,_⟩:=h;exact⟨s,hs⟩
section
variable {H : Type} {enc : TypeId × Value -> H} {W : World} {base : Nat}
end
def typed_slice {P:Program}{n:Nat}{t e:TypeId}{xs:List D}(hu:P.underlying t=some (.slice e))(h:Typed P (n+1) t xs): ∃rows,xs= [.sl (P.cellsOf e) rows]/\rows.length<=9223372036854775807/\ ∀r∈rows,Typed P n e r:=by
 simp only[Typed,hu]at h;obtain⟨rows,h1,h0,h2⟩:=h;exact⟨rows,h1,h0,h2⟩
def typed_intR {P:Program}{n:Nat}{t:TypeId}{xs:List D}(hu:P.underlying t=some (.int .i64))(h:Typed P n t xs): ∃m:Int,xs= [.int .i64 m]/\m < 9223372036854775808:=by
 cases n with
 |zero=>exact h.elim
 |succ n=>
  simp only[Typed,hu]at h;obtain⟨m,hm,hw⟩:=h;refine⟨m,hm,?_⟩;simp[Lit.wf,IntKind.min,IntKind.max,IntKind.bits,IntKind.signed]at hw;omega
def typed_struct {P:Program}{n:Nat}{t:TypeId}{fs:Array Field}{xs:List D}(hu:P.underlying t=some (.struct fs))(h:Typed P (n+1) t xs): ∃parts:LL,parts.length=fs.size/\xs=parts.flatten/\ ∀(i:Nat) f p,fs.toList[i]? =some f->parts[i]? =some p->Typed P n f.type p:=by
 simp only[Typed,hu]at h;exact h
def rows_of {α:Type}(f:α->List D)(Q:α->Prop){P:List D->Prop}(h: ∀r,P r-> ∃x,r=f x/\Q x): ∀rows:LL,(∀r∈rows,P r)-> ∃l:List α,rows=l.map f/\l.length=rows.length/\ ∀x∈l,Q x
 | [],_=>⟨[],rfl,rfl,fun _ h=>(by cases h)⟩
 |r::rs,hr=>by
  obtain⟨x,hx,hq⟩:=h r (hr r (by simp))
  obtain⟨l,h1,h2,h3⟩:=rows_of f Q h rs fun r h=>hr r (by simp[h])
  refine⟨x::l,by rw[hx,h1];rfl,by simp[h2],fun y hy=> ?_⟩
  rcases List.mem_cons.1 hy with rfl|hy
  ·exact hq
  ·exact h3 y hy
def typed72 {n:Nat}{xs:List D}(h:Typed Tryz.prog n 72 xs): ∃l,xs= [.sl 1 (srows l)]:=by
 match n,h with
 |n+1,h=>
  obtain⟨rows,h1,_,h2⟩:=typed_slice Tryz.underlying72 h;obtain⟨l,hl,_⟩:=rows_of (fun s:BA=>[.str s]) (fun _=>True) (fun r hr=>by obtain⟨s,hs⟩:=typed_str Tryz.underlying9 hr;exact⟨s,hs,trivial⟩) rows h2
  exact⟨l,by rw[h1,hl,show Tryz.prog.cellsOf 9=1 by kernel_rfl];rfl⟩
def typedEx: ∀ {n:Nat} {xs:List D},Typed Tryz.prog n 114 xs-> ∃e:Ex,xs=e.row
 |0,_,h=>h.elim
 |n+1,xs,h=>by
  obtain⟨parts,h1,h2,h3⟩:=typed_struct Tryz.underlying114 h;obtain⟨p0,p1,p2,p3,p4,p5,rfl⟩: ∃a b c d e f,parts= [a,b,c,d,e,f]:=by
   match parts,h1 with
   | [a,b,c,d,e,f],_=>exact⟨a,b,c,d,e,f,rfl⟩
  obtain⟨k,e0,_⟩:=typed_intR Tryz.underlying3 (h3 0 _ p0 rfl rfl);obtain⟨m,e1,hm⟩:=typed_intR Tryz.underlying2 (h3 1 _ p1 rfl rfl);obtain⟨s,e2⟩:=typed_str Tryz.underlying9 (h3 2 _ p2 rfl rfl);obtain⟨o,e3,_⟩:=typed_intR Tryz.underlying3 (h3 3 _ p3 rfl rfl);obtain⟨a,e4⟩:=typed72 (h3 4 _ p4 rfl rfl);have h5:Typed Tryz.prog n 112 p5:=h3 5 _ p5 rfl rfl;have hu: ∃u,p5= [.sl 6 (Ex.rows u)]:=by
   match n,h5 with
   |n+1,h5=>
    obtain⟨rows,r1,_,r2⟩:=typed_slice Tryz.underlying112 h5;have: ∀rows:LL,(∀r∈rows,Typed Tryz.prog n 114 r)-> ∃u,rows=Ex.rows u:=by
     intro rows
     induction rows with
     |nil=>exact fun _=>⟨[],rfl⟩
     |cons r rs ih=>
      intro h;obtain⟨e,he⟩:=typedEx (h r (by simp))
      obtain⟨l,hl⟩:=ih fun r hr=>h r (by simp[hr])
      exact⟨e::l,by rw[he,hl];rfl⟩
    obtain⟨u,hu⟩:=this rows r2;exact⟨u,by rw[r1,hu,show Tryz.prog.cellsOf 114=6 by kernel_rfl]⟩
  obtain⟨u,e5⟩:=hu;exact⟨.mk k m s o a u,by rw[h2,e0,e1,e2,e3,e4,e5];rfl⟩
def typed161 {n:Nat}{xs:List D}(h:Typed Tryz.prog n 161 xs): ∃e:En,xs=erow e:=by
 match n,h with
 |n+1,h=>
  obtain⟨parts,h1,h2,h3⟩:=typed_struct Tryz.underlying161 h;obtain⟨p0,p1,rfl⟩: ∃a b,parts= [a,b]:=by
   match parts,h1 with
   | [a,b],_=>exact⟨a,b,rfl⟩
  obtain⟨s,e0⟩:=typed_str Tryz.underlying9 (h3 0 _ p0 rfl rfl);obtain⟨l,e1⟩:=typed72 (h3 1 _ p1 rfl rfl);exact⟨(s,l),by rw[h2,e0,e1];rfl⟩
def typed57 {n:Nat}{xs:List D}(h:Typed Tryz.prog n 57 xs): ∃k e c:Int,xs= [.int .i64 k, .int .i64 e, .int .i64 c]:=by
 match n,h with
 |n+1,h=>
  obtain⟨parts,h1,h2,h3⟩:=typed_struct Tryz.underlying57 h;obtain⟨p0,p1,p2,rfl⟩: ∃a b c,parts= [a,b,c]:=by
   match parts,h1 with
   | [a,b,c],_=>exact⟨a,b,c,rfl⟩
  obtain⟨k,e0,_⟩:=typed_intR Tryz.underlying3 (h3 0 _ p0 rfl rfl);obtain⟨e,e1,_⟩:=typed_intR Tryz.underlying3 (h3 1 _ p1 rfl rfl);obtain⟨c,e2,_⟩:=typed_intR Tryz.underlying3 (h3 2 _ p2 rfl rfl);exact⟨k,e,c,by rw[h2,e0,e1,e2];rfl⟩
def typed172 {n:Nat}{xs:List D}(h:Typed Tryz.prog n 172 xs): ∃d:Dc,xs=drow d:=by
 match n,h with
 |n+1,h=>
  obtain⟨parts,h1,h2,h3⟩:=typed_struct Tryz.underlying172 h;obtain⟨p0,p1,p2,p3,rfl⟩: ∃a b c d,parts= [a,b,c,d]:=by
   match parts,h1 with
   | [a,b,c,d],_=>exact⟨a,b,c,d,rfl⟩
  obtain⟨s,e0⟩:=typed_str Tryz.underlying9 (h3 0 _ p0 rfl rfl);obtain⟨k,e,c,e1⟩:=typed57 (h3 1 _ p1 rfl rfl);obtain⟨o,e2⟩:=typed_str Tryz.underlying9 (h3 2 _ p2 rfl rfl);obtain⟨q,e3⟩:=typed_str Tryz.underlying9 (h3 3 _ p3 rfl rfl);exact⟨⟨s,k,e,c,o,q⟩,by rw[h2,e0,e1,e2,e3];rfl⟩
def typed107 {n:Nat}{xs:List D}(h:Typed Tryz.prog n 107 xs): ∃l:List Dc,xs= [.sl 6 (drows l)]/\l.length<=9223372036854775807:=by
 match n,h with
 |n+1,h=>
  obtain⟨rows,h1,h0,h2⟩:=typed_slice Tryz.underlying107 h;obtain⟨l,hl,hz,_⟩:=rows_of drow (fun _=>True) (fun r hr=>by obtain⟨s,hs⟩:=typed172 hr;exact⟨s,hs,trivial⟩) rows h2
  exact⟨l,by rw[h1,hl,show Tryz.prog.cellsOf 172=6 by kernel_rfl];rfl,by omega⟩
def typed116 {n:Nat}{xs:List D}(h:Typed Tryz.prog n 116 xs): ∃x:Eqn,xs=qrow x:=by
 match n,h with
 |n+1,h=>
  obtain⟨parts,h1,h2,h3⟩:=typed_struct Tryz.underlying116 h;obtain⟨p0,p1,rfl⟩: ∃a b,parts= [a,b]:=by
   match parts,h1 with
   | [a,b],_=>exact⟨a,b,rfl⟩
  obtain⟨s,e0⟩:=typed72 (h3 0 _ p0 rfl rfl);obtain⟨e,e1⟩:=typedEx (h3 1 _ p1 rfl rfl);exact⟨⟨s,e⟩,by rw[h2,e0,e1];simp[qrow]⟩
def typed108 {n:Nat}{xs:List D}(h:Typed Tryz.prog n 108 xs): ∃l:List Eqn,xs= [.sl 7 (qrows l)]:=by
 match n,h with
 |n+1,h=>
  obtain⟨rows,h1,_,h2⟩:=typed_slice Tryz.underlying108 h;obtain⟨l,hl,_,_⟩:=rows_of qrow (fun _=>True) (fun r hr=>by obtain⟨x,hx⟩:=typed116 hr;exact⟨x,hx,trivial⟩) rows h2
  exact⟨l,by rw[h1,hl,show Tryz.prog.cellsOf 116=7 by kernel_rfl];rfl⟩
def typed110 {n:Nat}{xs:List D}(h:Typed Tryz.prog n 110 xs): ∃x:Nd,xs=nrow x/\LB x:=by
 match n,h with
 |n+1,h=>
  obtain⟨parts,h1,h2,h3⟩:=typed_struct Tryz.underlying110 h;obtain⟨p0,p1,p2,p3,p4,rfl⟩: ∃a b c d e,parts= [a,b,c,d,e]:=by
   match parts,h1 with
   | [a,b,c,d,e],_=>exact⟨a,b,c,d,e,rfl⟩
  obtain⟨s,e0⟩:=typed_str Tryz.underlying9 (h3 0 _ p0 rfl rfl);obtain⟨i,e1,l1⟩:=typed107 (h3 1 _ p1 rfl rfl);obtain⟨o,e2,l2⟩:=typed107 (h3 2 _ p2 rfl rfl);obtain⟨v,e3,l3⟩:=typed107 (h3 3 _ p3 rfl rfl);obtain⟨q,e4⟩:=typed108 (h3 4 _ p4 rfl rfl);exact⟨⟨s,i,o,v,q⟩,by rw[h2,e0,e1,e2,e3,e4];rfl,⟨l1,l2,l3⟩⟩
def typed25 {n:Nat}{xs:List D}(h:Typed Tryz.prog n 25 xs): ∃(ens:List En) (nds:List Nd),xs= [.sl 2 (erows ens), .sl 5 (nrows nds)]/\ ∀n∈nds,LB n:=by
 match n,h with
 |n+1,h=>
  obtain⟨parts,h1,h2,h3⟩:=typed_struct Tryz.underlying25 h;obtain⟨p0,p1,rfl⟩: ∃a b,parts= [a,b]:=by
   match parts,h1 with
   | [a,b],_=>exact⟨a,b,rfl⟩
  have h4:Typed Tryz.prog n 22 p0:=h3 0 _ p0 rfl rfl;have h5:Typed Tryz.prog n 23 p1:=h3 1 _ p1 rfl rfl
  match n,h4,h5 with
  |n+1,h4,h5=>
   obtain⟨r1,q1,_,q2⟩:=typed_slice Tryz.underlying22 h4;obtain⟨r2,q3,_,q4⟩:=typed_slice Tryz.underlying23 h5;obtain⟨ens,he,_,_⟩:=rows_of erow (fun _=>True) (fun r hr=>by obtain⟨s,hs⟩:=typed161 hr;exact⟨s,hs,trivial⟩) r1 q2
   obtain⟨nds,hn,_,hq⟩:=rows_of nrow LB (fun r hr=>typed110 hr) r2 q4
   exact⟨ens,nds,by rw[h2,q1,q3,he,hn,show Tryz.prog.cellsOf 161=2 by kernel_rfl,show Tryz.prog.cellsOf 110=5 by kernel_rfl];rfl,hq⟩
def closed25:closedOK Tryz.prog [25,22,23,161,110,9,72,107,108,172,116,57,114,3,2,112]=true:=by kernel_rfl
section
variable {H : Type} {enc : TypeId × Value -> H} {W : World} {base : Nat}
def rep_agg {w:World}{cs:Array Value}{xs:List D}(hl:xs.length=(Value.agg cs).cells.toList.length)(h: ∀(j:Nat) u c,(Value.agg cs).cells.toList[j]? =some u->xs[j]? =some c->RepD w (ZW w) u c):Rep w (g0 (ZW w)) (.agg cs) (.agg (xs.map .d)):=by
 refine .agg cs _ (by simp[Value.cells]at hl;simp[hl]) fun i u c hu hc=> ?_
 rw[List.getElem?_map,Option.map_eq_some_iff]at hc;obtain⟨d,hd,rfl⟩:=hc;exact .d (h i u d (by simpa[Value.cells]using hu) hd)
def open25 {v:Value}{d:DataW H}{p:List MemPlace}(hv:Value.okWide Tryz.prog W .any base 25 v)(h:DataW.Trod enc Tryz.prog W 0 (fun _=>true) true 25 v d p): ∃(ens:List En) (nds:List Nd),Rep W (g0 (ZW W)) v (.agg [.d (.sl 2 (erows ens)), .d (.sl 5 (nrows nds))])/\ ∀n∈nds,LB n:=by
 unfold Value.okWide at hv;rw[Tryz.underlying25]at hv;obtain⟨cs,rfl,_,_⟩:=hv;obtain⟨n,xs,h1,h2,h3⟩:=bridge_val closed25 rfl h;obtain⟨ens,nds,rfl,q1⟩:=typed25 h1;exact⟨ens,nds,rep_agg h2 h3,q1⟩
end
def F3_call (ens:List En)(nds:List Nd)(hl: ∀n∈nds,LB n):PCall Tryz.prog 3 [.agg [.d (.sl 2 (erows ens)), .d (.sl 5 (nrows nds))]] (.d (.bool true)):=
 PGood.truth (t:=4) (by kernel_rfl) (by kernel_rfl) (callF_good mixedOrders kn_good (by kernel_rfl) rfl (c_TreeSlots ens nds hl))
end Go.Vm
end
section
namespace Go.Proofs.YtfbonmbkmbofaaaGreatDoor
open Go.ChangeShapes Go.WideShapes Go.ChangeAt Go.RowKit Go.Vm
def own_:ownKnob Tryz.prog.godebug=none:=by kernel_rfl
def laid_:laidOutB Tryz.prog=true:=by kernel_rfl
def lays:List (String × DataW Unit):=[("unicode/utf8.acceptRanges",Rows.laid_unicode_utf8_acceptRanges),("unicode/utf8.first",Rows.laid_unicode_utf8_first)]
def tab_ok {W:World}:TabOK (ZW W) W:=⟨fun b hb=>(by cases hb),fun q hq=>(by cases hq)⟩
set_option maxRecDepth 100000 in
def treeSlots_lifted (os:Os)(started:os.Started)(H:Type)(enc:TypeId × Value->H):
  ReturnsInHanded {} Tryz.checked os 3 .any (fun w args=>(Rows.treeSlotsSpec.pre enc Tryz.prog Tryz.f3 Rows.treeSlotsRow.domain false w args/\laidMetH Tryz.prog lays w)/\sizedMet enc Tryz.prog Tryz.f3 (OpenSpec.ofChange Rows.treeSlotsSpec) false w args)
   (Rows.treeSlotsSpec.post enc Tryz.prog Tryz.f3 false true false false):=by
 refine returnsInHanded_of_change_and (C:=Tryz.checked) (X:=fun w _=>laidMetH Tryz.prog lays w) (fun _ _ _ hh h=>h.of_heap hh) own_ started (by kernel_rfl) Tryz.func3
  (ChangeSpec.witness_shaped (enc:=enc) (C:=Tryz.checked) (os:=os) (X:=fun w _=>laidMetH Tryz.prog lays w) false (World.laidAll Tryz.prog os lays) #[.agg #[.slice none 0 0, .slice none 0 0]] 8 (World.laidAll_os _ _ _)
   (World.shaped_of_ZipB (by kernel_rfl) (by kernel_rfl)) (by kernel_rfl) (by kernel_rfl) (by kernel_rfl)
   (by rw[MakeChecks.laidMetH_plain _ _ _ (by kernel_rfl)];exact laidMet_laidAll _ (by kernel_rfl) (by kernel_rfl))) ?_
 intro W base args ds gs before hval0 hW hcnd _ _ _;have hval: ∀(j:Nat) t v,Tryz.f3.params[j]? =some t->args[j]? =some v->Value.okWide Tryz.prog W .any base t v:=hval0
 have hW':=hW;obtain⟨p,q,hA0,hV,rfl,hfz,hnd⟩:=hW;have hA:DataW.TrodAll enc Tryz.prog W 0 (fun _=>true) true Tryz.f3.params.toList args.toList ds p:=hA0
 rw[Tryz.params3]at hA hval;obtain⟨v0,d0,rfl,rfl,h0⟩:=trodAll_one hA;obtain⟨rfl,rfl⟩:=trodVars_none hV;obtain⟨ens,nds,r0,hl⟩:=open25 (hval 0 25 v0 rfl rfl) h0;have hc:=calls_true (us:=[v0]) tab_ok (F3_call ens nds hl) ⟨rfl,fun i u v hu hv=>by
  match i with
  |0=>simp at hu hv;subst hu;subst hv;exact r0
  |i+1=>simp at hu⟩
 refine hc.mono fun e W' ⟨he,hb⟩=> ?_
 subst he;exact⟨_,rfl,post_true laid_ (by kernel_rfl) rfl hW' hb rfl rfl rfl (by kernel_rfl) Tryz.underlying4⟩
def j1:(Rows.treeSlotsRow.inPlace == Tryz.prog.inPlace 3)=true:=by kernel_rfl
def j2:(Rows.treeSlotsRow.unfollowed == Tryz.prog.unfollowed 3)=true:=by kernel_rfl
def j3:(Rows.treeSlotsRow.recurses == Tryz.prog.recurses 3)=true:=by kernel_rfl
def j4:(Rows.treeSlotsRow.named == Tryz.prog.varsNamed 3)=true:=by kernel_rfl
def joined_:joinedFacts Tryz.prog 3 Tryz.f3 Rows.treeSlotsSpec Rows.treeSlotsRow=true:=by
 unfold joinedFacts;rw[j1,j2,j3,j4]
 kernel_rfl
def treeSlots_holds:Rows.TreeSlotsSaid:=
 OpenClaim.holds_of_wide 3 Tryz.f3 rfl rfl rfl rfl rfl rfl rfl ⟨rfl,rfl,rfl,rfl,rfl⟩ rfl rfl rfl rfl rfl (by kernel_rfl) Tryz.func3 joined_
  (of_decide_eq_true (by kernel_rfl)) (by unfold Func.isWrapper;first|(rw[if_pos (by decide+kernel)];kernel_rfl)|(rw[if_neg (by decide+kernel)];exact⟨rfl,rfl⟩))
  (fun os started H enc _=>treeSlots_lifted os started H enc)
def treeSlots_card:Rows.TreeSlotsCardSaid:=
 Claim7.holds_tied_plain_at .later [] [.data, .pinned] true (true, "8348bf0b82fee787ec9bae6897a0044a8a3fdaf109fe03e1fc68bb0701490513") false treeSlots_holds (fun _ h=>by cases h) (by kernel_rfl) (fun _ h=>by cases h) treeSlots_row_tie rfl ⟨rfl,rfl⟩ (by kernel_rfl) rfl
  (fun f fn hf hfn=>by
   obtain rfl:f=3:=Option.some.inj ((show Tryz.prog.funcNamed "noria/norialaw27.TreeSlots" =some 3 by kernel_rfl).symm.trans hf) |>.symm
   obtain rfl:fn=Tryz.f3:=(Option.some.inj (Tryz.func3.symm.trans hfn)).symm;exact⟨by kernel_rfl,fun j t ht=>by
    rw[Tryz.params3]at ht;have hm:t∈[25]:=by simpa using Array.mem_of_getElem? ht
    have hall:([25].all fun u=> !Tryz.prog.wantsStandIn u)=true:=by kernel_rfl
    exact(show Tryz.prog.wantsStandIn t=false by simpa using List.all_eq_true.1 hall t hm)⟩)
  (by kernel_rfl)
#print axioms treeSlots_card
end Go.Proofs.YtfbonmbkmbofaaaGreatDoor
end
