/- Part SK of the proof. What is proved by the whole: the statement that the claim names, with no condition. -/
import Derived.Test.YtfbonmbkmbofaaaGreatDoorSJ
set_option linter.all false
section
set_option maxRecDepth 100000
set_option maxHeartbeats 4000000
namespace Go.Vm
open Go.Proofs
theorem idxI_lt {τ:Type}(p:τ->Bool): ∀(l:List τ) (i:Int),idxI p l i= -1\/i<=idxI p l i/\idxI p l i < i+l.length
 | [],i=> .inl rfl
 |x::l,i=>by
  unfold idxI;split
  ·right;simp only[List.length_cons];omega
  ·rcases idxI_lt p l (i+1)with h|h
   ·exact .inl h
   ·right;simp only[List.length_cons];omega
theorem node_at {nds:List Nd}{s:BA}(h:0<=nodeI nds s): ∃(j:Nat) (n:Nd),nodeI nds s=(j:Int)/\nds[j]? =some n:=by
 have h1:=idxI_lt (fun n:Nd=>decide (tb n.n=tb s)) nds 0
 unfold nodeI at h ⊢;generalize idxI _ nds 0=v at h h1 ⊢;have hj:v.toNat < nds.length:=by omega
 exact⟨v.toNat,nds[v.toNat],by omega,List.getElem?_eq_getElem hj⟩
theorem allBs_mem: ∀ {u:List Ex},allBs u=true-> ∀x∈u,partB x=true
 | [],_,x,hx=>by cases hx
 |e::u,h,x,hx=>by
  unfold allBs at h;rw[Bool.and_eq_true]at h;rcases List.mem_cons.1 hx with rfl|hx
  ·obtain⟨k,m,s,o,a,v⟩:=x;have:=h.1;unfold allB at this;rw[Bool.and_eq_true]at this;exact this.1
  ·exact allBs_mem h.2 x hx
section
variable {ens : List En} {nds : List Nd} (hp : PB ens nds)
include hp
theorem x_literal (k m:Int)(s:BA)(o:Int)(a:List BA)(u:List Ex)(h:litS (.mk k m s o a u)=true)(h2:k=2->m=0\/m=1):
  ∃p,cF 228 [.d (.sl 2 (erows ens)),kE k m s o (srows a) (Ex.rows u)]=some p/\ ∃(n k' e':Int) (b:Bool),p= .val [.int .i64 n, .int .i64 k', .int .i64 e', .int .i64 0, .bool b]/\(b=true->oneR ens k' e' n):=by
 obtain⟨_,h1,k',e',n',b,rfl,hb⟩:=x_Arm hp s;unfold litS at h
 by_cases h5:k=5
 ·subst h5;simp only[decide_true,cond_true,Bool.and_eq_true]at h;obtain⟨ho,hu⟩:=h;split at hu
  ·rename_i k2 m2 s2 o2 a2 u2;have e1:sy.cell (sy.skip 1 (sy.row (Ex.rows [.mk k2 m2 s2 o2 a2 u2]) 0)) 0=some (.int .i64 m2):=rfl;have e2:((Ex.rows [Ex.mk k2 m2 s2 o2 a2 u2]).length:Int)=1:=rfl;refine cOfP (by kernel_rfl) rfl ?_
   rw[g228_eq];simp only[g228,go1,eq_self,Int.reduceEq,Int.reduceLT,Int.reduceLE,decT,e2,e1];exact⟨_,rfl,_,1,0,true,rfl,fun _=> .inl ⟨rfl,rfl⟩⟩
  ·cases hu
 ·refine cOfP (by kernel_rfl) rfl ?_
  rw[g228_eq];simp only[g228,go1,Int.reduceLE,h1,decF h5];refine ex_bif (fun _=>⟨_,rfl,m,1,0,true,rfl,fun _=> .inl ⟨rfl,rfl⟩⟩) fun _=>ex_bif (fun hk=>⟨_,rfl,m,2,0,true,rfl,fun _=> .inr (.inl ⟨rfl,rfl,h2 (of_decide_eq_true hk)⟩)⟩) fun _=>⟨_,rfl,_,_,_,_,rfl,hb⟩
def ConQ (ens:List En)(p:PRes):Prop:= ∃(v:List Int) (k e c:Int) (b:Bool),p= .val [.sl 1 (irows v), .int .i64 k, .int .i64 e, .int .i64 c, .bool b]/\(b=true->tyR ens (k,e,c)/\valR ens (k,e,c) v/\v.length<=8)
theorem x_Const (k m:Int)(s:BA)(o:Int)(a:List BA)(u:List Ex)(hs:(Ex.mk k m s o a u).size<=1000)(hf:(Ex.mk k m s o a u).fine):
  ∃p,cF 205 [.d (.sl 2 (erows ens)),kE k m s o (srows a) (Ex.rows u)]=some p/\ConQ ens p:=by
 have h1:=c_reRight k m s o a u (by omega) hf
 have hsz:Ex.sizes u<=1000:=by simp only[Ex.size]at hs;omega
 have h2:=c_reConst k m s o a u (by omega)
 have hul:=sizes_len u;have h0: ∀p,p=PRes.val [.sl 1 [], .int .i64 0, .int .i64 0, .int .i64 0, .bool false]->ConQ ens p:=fun p h=>⟨[],0,0,0,false,h,fun h=>by cases h⟩
 cases hr:smallB (.mk k m s o a u)&&allB (.mk k m s o a u)with
 |false=>
  rw[hr]at h1;refine cOfP (by kernel_rfl) rfl ?_
  rw[g205_eq];simp only[g205,go1,oE,Nat.reduceAdd,h1];exact⟨_,rfl,h0 _ rfl⟩
 |true=>
  rw[hr]at h1;cases hc:constS (.mk k m s o a u)with
  |false=>
   rw[hc]at h2;refine cOfP (by kernel_rfl) rfl ?_
   rw[g205_eq];simp only[g205,go1,oE,Nat.reduceAdd,h1,h2];exact⟨_,rfl,h0 _ rfl⟩
  |true=>
   rw[hc]at h2;have hall:allB (.mk k m s o a u)=true:=by rw[Bool.and_eq_true]at hr;exact hr.2
   have hpart:partB (.mk k m s o a u)=true/\allBs u=true:=by
    unfold allB at hall
    rwa [Bool.and_eq_true]at hall
   by_cases h14:k=14
   ·subst h14;have hlit: ∀x∈u,litS x=true:=fun x hx=>List.all_eq_true.1 hc x hx
    have hps:=allBs_mem hpart.2;have hu:1<=u.length/\u.length<=8:=by
     have:=hpart.1;unfold partB loB hiB at this;simp at this;omega
    refine cOfP (by kernel_rfl) rfl ?_
    rw[g205_eq];simp only[g205,go1,oE,eq_self,Nat.reduceAdd,h1,h2];refine for_s u (fun i (x:List Int × Int × Int)=>[.sl 2 (erows ens), .int .i64 (i:Int), .int .i64 14, .int .i64 m, .str s, .int .i64 o, .sl 1 (srows a), .sl 6 (Ex.rows u), .int .i64 0, .int .i64 0, .int .i64 0, .sl 1 (irows x.1), .int .i64 x.2.1, .int .i64 x.2.2, .int .i64 0]) (fun i x=>x.1.length=i/\ ∀n∈x.1,oneR ens x.2.1 x.2.2 n) ([],0,0) (by simp) rfl (fun i x e he hI hil=> ?_) (fun x hI=> ?_)
    ·obtain⟨ek,em,es,eo,ea,eu⟩:=e;have hm:=List.mem_of_getElem? he;obtain⟨_,h3,n,k',e',b,rfl,hb⟩:=x_literal hp ek em es eo ea eu (hlit _ hm) (fun e=>by
      subst e;have:=hps _ hm;unfold partB numB at this;simp at this;exact this.2.1)
     obtain⟨v,fk,fe⟩:=x;obtain⟨hI1,hI2⟩:=hI;simp only at hI1 hI2;have hf:=fitsR (irows v) [[.int .i64 n]] 8 (by rw[irows_len];simp only[List.length_cons,List.length_nil];omega)
     simp only[go1,Nat.reduceAdd]at hf;simp only[go1,eq_self,rows_len,ilt_at hil,inr_at hil,row_of he,h3,hf,wrap_succ hil (by omega)]
     refine ex_bif (fun _=>⟨_,rfl,h0 _ rfl⟩) fun hx=> ?_
     simp at hx;refine⟨_,rfl,(v++[n],k',e'),?_,by simp[hI1],fun z hz=> ?_⟩
     ·simp[irows,irow]
     ·rcases List.mem_append.1 hz with hz|hz
      ·have:=hI2 z hz;have hi:0 < i:=by
        cases v with
        |nil=>cases hz
        |cons y v=>rw[<-hI1];simp
       obtain⟨e1,e2⟩:=hx.2 hi;rw[e1,e2];exact this
      ·simp at hz;subst hz;exact hb hx.1
    ·obtain⟨v,fk,fe⟩:=x;obtain⟨hI1,hI2⟩:=hI;simp only at hI1 hI2;simp only[go1,rows_len,irows_len,ilt_self,hI1];obtain⟨n,hn⟩: ∃n,n∈v:=by
      cases v with
      |nil=>simp at hI1;omega
      |cons n v=>exact⟨n,List.mem_cons_self⟩
     exact⟨_,rfl,v,fk,fe,(u.length:Int),true,rfl,fun _=>⟨tyR_one (hI2 n hn) (by omega) (by omega),⟨by rw[hI1];show(u.length:Int)=max 1 (u.length:Int);omega,hI2⟩,by omega⟩⟩
   ·have hlit:litS (.mk k m s o a u)=true:=by simp only[constS,decF h14,cond_false]at hc;exact hc
    have hk2:k=2->m=0\/m=1:=fun e=>by
     subst e;have:=hpart.1;unfold partB numB at this;simp at this;exact this.2.1
    obtain⟨_,h3,n,k',e',b,rfl,hb⟩:=x_literal hp k m s o a u hlit hk2;refine cOfP (by kernel_rfl) rfl ?_
    rw[g205_eq];simp only[g205,go1,oE,Nat.reduceAdd,h1,h2,decF h14,h3];cases b with
    |false=>exact⟨_,rfl,h0 _ rfl⟩
    |true=>exact⟨_,rfl,[n],k',e',0,true,rfl,fun _=>⟨tyR_one (hb rfl) (by omega) (by omega),⟨show((1:Nat):Int)=max 1 0 by decide,fun x hx=>by simp at hx;subst hx;exact hb rfl⟩,by simp⟩⟩
omit hp in
theorem x_all (ts:List T3)(hl:ts.length<=1000000): ∃p,cF 229 [.d (.sl 3 (tyrows ts))]=some p/\BoolQ (fun _=>True) p:=by
 refine cOfP (by kernel_rfl) rfl ?_
 rw[g229_eq];simp only[g229,go1,Int.reduceLE];refine while_s (fun i:Nat=>[.sl 3 (tyrows ts), .int .i64 (i:Int)]) (fun i=>1<=i) (fun i=>ts.length - i) 1 (by omega) rfl (fun i hi=> ?_)
 by_cases hlt:i < ts.length
 ·have h0:=List.getElem?_eq_getElem (show 0 < ts.length by omega)
  have hx:=List.getElem?_eq_getElem hlt;simp only[go1,tyrows_len,ilt_at hlt,inr_at hlt,trow_at hx,inr_0 (show 0 < ts.length by omega),trow_0 h0,wrap_succ hlt (by omega)]
  exact ex_bif (fun _=>⟨_,rfl,_,rfl,trivial⟩) fun _=>⟨_,rfl,i+1,rfl,by omega,by omega⟩
 ·have e:decide ((i:Int) < (ts.length:Int))=false:=decF (by omega)
  simp only[go1,tyrows_len,e];exact⟨_,rfl,_,rfl,trivial⟩
theorem x_Arms (k e c:Int)(a:List BA)(ha:a.length<=1000000)(ht:k=3->0<=e/\e < (ens.length:Int)): ∃p,cF 230 [.d (.sl 2 (erows ens)),kT k e c, .d (.sl 1 (srows a))]=some p/\BoolQ (fun _=>True) p:=by
 have h1:=x_truth k e c;refine cOfP (by kernel_rfl) rfl ?_
 rw[g230_eq];simp only[g230,go1,Int.reduceLE,h1,srows_len];refine ex_bif (fun _=> ?_) fun _=> ?_
 ·by_cases h2:(a.length:Int)=2
  ·have e0:=List.getElem?_eq_getElem (show 0 < a.length by omega)
   have e1:=List.getElem?_eq_getElem (show 1 < a.length by omega)
   simp only[go1,decT h2,inr_0 (show 0 < a.length by omega),inr_1 (show 1 < a.length by omega),srow_0 e0,srow_1 e1]
   exact⟨_,rfl,_,rfl,trivial⟩
  ·simp only[go1,decF h2];exact⟨_,rfl,_,rfl,trivial⟩
 ·by_cases h3:k=3
  ·by_cases h0:c=0
   ·obtain⟨he0,he1⟩:=ht h3;have hlt:e.toNat < ens.length:=by omega
    have hx:=List.getElem?_eq_getElem hlt;have ee:((e.toNat:Nat):Int)=e:=Int.toNat_of_nonneg he0;have hir:=inr_at hlt;have hrw:=enm_at hx;rw[ee]at hir hrw;simp only[go1,decT h3,decT h0,erows_len,hir,hrw,sk1L,srows_len,Bool.or_self];refine ex_bif (fun _=>⟨_,rfl,_,rfl,trivial⟩) fun hla=> ?_
    have hla:a.length=(ens[e.toNat].2).length:=by simp at hla;omega
    refine for_at 2 a rfl (fun i x hx' hil=> ?_) ?_
    ·have hi2:i < (ens[e.toNat].2).length:=by omega
     simp only[go1,List.set,srows_len,erows_len,hir,hrw,sk1L,ilt_at hil,inr_at hil,srows_at hx',inr_at hi2,srows_at (List.getElem?_eq_getElem hi2),wrap_succ hil (by omega)]
     exact ex_bif (fun _=>⟨_,rfl,_,rfl,trivial⟩) fun _=>⟨_,rfl,rfl⟩
    ·simp only[go1,List.set,srows_len,ilt_self];exact⟨_,rfl,_,rfl,trivial⟩
   ·simp only[go1,decT h3,decF h0];exact⟨_,rfl,_,rfl,trivial⟩
  ·simp only[go1,decF h3];exact⟨_,rfl,_,rfl,trivial⟩
theorem x_call (k m:Int)(s:BA)(o:Int)(a:List BA)(u:List Ex)(ts:List T3)(hl:ts.length<=1000000)(hm:m=0\/m=1/\1<=ts.length):
  ∃p,cF 231 [pV ens nds,kE k m s o (srows a) (Ex.rows u), .d (.sl 3 (tyrows ts))]=some p/\ ∃(i:Int) (b:Bool),p= .val [.int .i64 i, .bool b]/\(b=true-> ∃(j:Nat) (n:Nd),i=(j:Int)/\nds[j]? =some n):=by
 have h1:=x_Find ens nds s hp.nl;have h0: ∃(i:Int) (b:Bool),PRes.val [.int .i64 0, .bool false]= .val [.int .i64 i, .bool b]/\(b=true-> ∃(j:Nat) (n:Nd),i=(j:Int)/\nds[j]? =some n):=⟨0,false,rfl,fun h=>by cases h⟩
 by_cases hn:nodeI nds s < 0
 ·refine cOfP (by kernel_rfl) rfl ?_
  rw[g231_eq];simp only[g231,go1,h1,decT hn];exact⟨_,rfl,h0⟩
 ·obtain⟨j,n,ej,hj⟩:=node_at (show 0<=nodeI nds s by omega)
  rw[ej]at h1 hn;have hlt:=(List.getElem?_eq_some_iff.1 hj).1;have hnm:=List.mem_of_getElem? hj;have hin:n.ins.length<=1000000:=by have:=hp.al n hnm;unfold allD at this;simp only[List.length_append]at this;omega
  have e1:sy.cell (sy.skip 1 (nrow n)) 0=some (.sl 6 (drows n.ins)):=rfl;obtain⟨q,hq,hqe,hq2⟩: ∃q:Nat,q<=ts.length/\IntKind.i64.wrap ((ts.length:Int) - m)=(q:Int)/\(m=1->q < ts.length):=by
   refine⟨ts.length - m.toNat,by omega,by rw[wrap_id (by omega) (by omega)];omega,by omega⟩
  refine cOfP (by kernel_rfl) rfl ?_
  rw[g231_eq];simp only[g231,go1,h1,decF hn,nrows_len,inr_at hlt,nrow_at hj,e1,tyrows_len,drows_len,hqe];refine ex_cut (ex_bif (fun _=>⟨_,rfl,?_⟩) fun hqn=> ?_)
  ·simp only[go1,sumQ];exact⟨_,rfl,h0⟩
  have hqn:q=n.ins.length:=by simp at hqn;omega
  have fin: ∀b,∃p,(bif b then some (PRes.val [.int .i64 0, .bool false])else loopF (fun ds13=>(opL (sy.cell ds13 0) 3).bind fun l14=>(opI (sy.cell ds13 1) .i64).bind fun n15=>(opI (sy.cell ds13 2) .i64).bind fun n16=>(opI (sy.cell ds13 3) .i64).bind fun n17=>(opL (sy.cell ds13 4) 2).bind fun l18=>(opL (sy.cell ds13 5) 5).bind fun l19=>
      bif decide (n17 < n16)then bif decide (0<=n15/\n15 < (l19.length:Int))then(opL (sy.cell (sy.skip 1 (sy.row l19 n15)) 0) 6).bind fun l20=>bif decide (0<=n17/\n17 < (l20.length:Int))then(opI (sy.cell (sy.skip 1 (sy.row l20 n17)) 0) .i64).bind fun n21=>(opI (sy.cell (sy.skip 1 (sy.row l20 n17)) 1) .i64).bind fun n22=>(opI (sy.cell (sy.skip 1 (sy.row l20 n17)) 2) .i64).bind fun n23=>bif decide (0<=n17/\n17 < (l14.length:Int))then(opI (sy.cell (sy.row l14 n17) 0) .i64).bind fun n24=>(opI (sy.cell (sy.row l14 n17) 1) .i64).bind fun n25=>(opI (sy.cell (sy.row l14 n17) 2) .i64).bind fun n26=>
       bif !(decide (n21=n24)&&(decide (n22=n25)&&decide (n23=n26)))then some (.inr (PRes.val [.int .i64 0, .bool false]))else some (.inl [.sl 3 l14, .int .i64 n15, .int .i64 n16, .int .i64 (IntKind.i64.wrap (n17+1)), .sl 2 l18, .sl 5 l19])else none else none else none
      else some (.inr (PRes.val [.int .i64 n15, .bool true]))) [.sl 3 (tyrows ts), .int .i64 (j:Int), .int .i64 (q:Int), .int .i64 0, .sl 2 (erows ens), .sl 5 (nrows nds)])=some p/\ ∃(i:Int) (b:Bool),p= .val [.int .i64 i, .bool b]/\(b=true-> ∃(j:Nat) (n:Nd),i=(j:Int)/\nds[j]? =some n):=fun b=>by
   refine ex_bif (fun _=>⟨_,rfl,h0⟩) fun _=> ?_
   refine for_n q (fun i (_:Unit)=>[.sl 3 (tyrows ts), .int .i64 (j:Int), .int .i64 (q:Int), .int .i64 (i:Int), .sl 2 (erows ens), .sl 5 (nrows nds)]) (fun _ _=>True) () trivial rfl (fun i _ _ hil=> ?_) fun _ _=> ?_
   ·have hd:=List.getElem?_eq_getElem (show i < n.ins.length by omega)
    have ht:=List.getElem?_eq_getElem (show i < ts.length by omega)
    simp only[go1,ilt_at hil,nrows_len,inr_at hlt,nrow_at hj,e1,drows_len,inr_at (show i < n.ins.length by omega),drow_at hd,drow,tyrows_len,inr_at (show i < ts.length by omega),trow_at ht,wrap_succ hil (by omega)]
    exact ex_bif (fun _=>⟨_,rfl,h0⟩) fun _=>⟨_,rfl,(),rfl⟩
   ·simp only[go1,ilt_self];exact⟨_,rfl,_,true,rfl,fun _=>⟨j,n,rfl,hj⟩⟩
  by_cases h1:m=1
  ·have hql:=hq2 h1;have ht:=List.getElem?_eq_getElem hql;have h4:=x_truth ts[q].1 ts[q].2.1 ts[q].2.2;simp only[go1,decT h1,inr_at hql,trow_at ht,h4];exact⟨_,rfl,by simp only[go1,sumQ];exact fin _⟩
  ·simp only[go1,decF h1];exact⟨_,rfl,by simp only[go1,sumQ];exact fin false⟩
end
structure ArB (k m:Int) (a:List BA) (u:List Ex):Prop where
 kd:1<=k/\k<=17
 a0:k=1\/k=2\/k=3\/k=4->u= []
 a1:k=5\/k=10\/k=11->u.length=1
 a2:k=6\/k=8\/k=9\/k=15->u.length=2
 a3:k=7\/k=16->u.length=3
 a12:k=12->u.length=a.length/\1<=a.length
 a13:k=13->(m=0\/m=1/\1<=u.length)/\u.length<=7
 a14:k=14->1<=u.length/\u.length<=8
 a11:k=11->a.length=1
theorem ar_of {k m:Int}{s:BA}{o:Int}{a:List BA}{u:List Ex}(h:partB (.mk k m s o a u)=true):ArB k m a u:=by
 unfold partB at h;simp only[Bool.and_eq_true,decide_eq_true_eq]at h;obtain⟨hk,hn, -, -,ha,hlo,hhi, -⟩:=h;have hk':1<=k/\k<=17:=by unfold kindB at hk;simpa using hk
 unfold loB at hlo;unfold hiB loB at hhi;refine⟨hk',fun h=> ?_,fun h=> ?_,fun h=> ?_,fun h=> ?_,fun h=> ?_,fun h=> ?_,fun h=> ?_,fun h=> ?_⟩
 ·rcases h with rfl|rfl|rfl|rfl<;>simp at hlo hhi<;>exact hhi
 ·rcases h with rfl|rfl|rfl<;>simp at hlo hhi<;>omega
 ·rcases h with rfl|rfl|rfl|rfl<;>simp at hlo hhi<;>omega
 ·rcases h with rfl|rfl<;>simp at hlo hhi<;>omega
 ·subst h;simp at hlo hhi;unfold armsB at ha;simp at ha;omega
 ·subst h;simp at hlo hhi;unfold numB at hn;simp at hn;rcases hn with rfl|rfl<;>simp at hhi hlo<;>omega
 ·subst h;simp at hlo hhi;omega
 ·subst h;unfold armsB at ha;simp at ha;exact ha.2
theorem len1 {α:Type}{l:List α}(h:l.length=1): ∃a,l= [a]:=by
 match l,h with
 | [a],_=>exact⟨a,rfl⟩
theorem len2 {α:Type}{l:List α}(h:l.length=2): ∃a b,l= [a,b]:=by
 match l,h with
 | [a,b],_=>exact⟨a,b,rfl⟩
theorem len3 {α:Type}{l:List α}(h:l.length=3): ∃a b c,l= [a,b,c]:=by
 match l,h with
 | [a,b,c],_=>exact⟨a,b,c,rfl⟩
theorem declR_ex (x:Option Dc): ∃(n:BA) (k e c:Int) (o q:BA) (b:Bool),declR x= [.str n, .int .i64 k, .int .i64 e, .int .i64 c, .str o, .str q, .bool b]:=by
 cases x with
 |none=>exact⟨_,_,_,_,_,_,_,rfl⟩
 |some d=>exact⟨_,_,_,_,_,_,_,rfl⟩
section
variable {ens : List En} {nds : List Nd}
theorem x_plain (k m:Int)(s:BA)(o:Int)(a:List BA)(u:List Ex)(ts:List T3)(hp:ArB k m a u)(hl:ts.length=u.length)(ht: ∀t∈ts,tyR ens t)(hk:k=5\/k=6\/k=7\/k=14\/k=15\/k=16):
  ∃p,cF 210 [kE k m s o (srows a) (Ex.rows u), .d (.sl 3 (tyrows ts))]=some p/\TyQ (tyR ens) p:=by
 rcases hk with rfl|rfl|rfl|rfl|rfl|rfl
 ·obtain⟨t0,rfl⟩:=len1 (hl.trans (hp.a1 (.inl rfl)));obtain⟨_,h1,k',e',c',b,rfl,hq⟩:=x_UnTy ens o t0.1 t0.2.1 t0.2.2;have l1:((tyrows [t0]).length:Int)=1:=rfl;refine cOfP (by kernel_rfl) rfl ?_
  rw[g210_eq];simp only[g210,go1,eq_self,Int.reduceEq,Int.reduceLT,Int.reduceLE,l1,trow_0 (l:=[t0]) rfl,h1];exact⟨_,rfl,_,_,_,_,rfl,hq⟩
 ·obtain⟨t0,t1,rfl⟩:=len2 (hl.trans (hp.a2 (.inl rfl)));obtain⟨_,h1,k',e',c',b,rfl,hq⟩:=x_BinTy ens o t0.1 t0.2.1 t0.2.2 t1.1 t1.2.1 t1.2.2;have l1:((tyrows [t0,t1]).length:Int)=2:=rfl;refine cOfP (by kernel_rfl) rfl ?_
  rw[g210_eq];simp only[g210,go1,eq_self,Int.reduceEq,Int.reduceLT,Int.reduceLE,l1,trow_0 (l:=[t0,t1]) rfl,trow_1 (l:=[t0,t1]) rfl,h1];exact⟨_,rfl,_,_,_,_,rfl,hq⟩
 ·obtain⟨t0,t1,t2,rfl⟩:=len3 (hl.trans (hp.a3 (.inl rfl)));have h1:=x_truth t0.1 t0.2.1 t0.2.2;have l1:((tyrows [t0,t1,t2]).length:Int)=3:=rfl;have hr:=ht t1 (by simp)
  refine cOfP (by kernel_rfl) rfl ?_
  rw[g210_eq];simp only[g210,go1,eq_self,Int.reduceEq,Int.reduceLT,Int.reduceLE,l1,trow_0 (l:=[t0,t1,t2]) rfl,trow_1 (l:=[t0,t1,t2]) rfl,trow_2 (l:=[t0,t1,t2]) rfl,h1];exact ex_bif (fun _=>⟨_,rfl,_,_,_,_,rfl,fun _=>hr⟩) fun _=>⟨_,rfl,_,_,_,_,rfl,fun _=>hr⟩
 ·have hu:=hp.a14 rfl;have hx:=List.getElem?_eq_getElem (show 0 < ts.length by omega)
  obtain⟨_,h1,b1,rfl, -⟩:=x_all ts (by omega)
  have hr:=ht ts[0] (List.getElem_mem (by omega))
  have hr2:tyR ens (ts[0].1,ts[0].2.1,(ts.length:Int)):=by
   have:=tyR_iff.1 (show tyR ens (ts[0].1,ts[0].2.1,ts[0].2.2)from hr);exact tyR_iff.2 ⟨by omega,by omega,this.2.2⟩
  have e2:sy.cell (sy.skip 2 [D.int .i64 ts[0].1,D.int .i64 ts[0].2.1,D.int .i64 ts[0].2.2]) 0=some (.int .i64 ts[0].2.2):=rfl;refine cOfP (by kernel_rfl) rfl ?_
  rw[g210_eq];simp only[g210,go1,eq_self,Int.reduceEq,Int.reduceLE,tyrows_len,inr_0 (show 0 < ts.length by omega),trow_0 hx,h1,e2]
  exact ex_bif (fun _=>⟨_,rfl,_,_,_,_,rfl,fun _=>hr2⟩) fun _=>⟨_,rfl,_,_,_,_,rfl,fun _=>hr2⟩
 ·obtain⟨t0,t1,rfl⟩:=len2 (hl.trans (hp.a2 (.inr (.inr (.inr rfl)))));have h1:=x_one t0.1 t0.2.1 t0.2.2;have h2:=x_whole t1.1 t1.2.1 t1.2.2;have l1:((tyrows [t0,t1]).length:Int)=2:=rfl;have hr2:tyR ens (t0.1,t0.2.1,0):=by
   have:=tyR_iff.1 (show tyR ens (t0.1,t0.2.1,t0.2.2)from ht t0 (by simp))
   exact tyR_iff.2 ⟨by omega,by omega,this.2.2⟩
  have e2:sy.cell (sy.skip 2 [D.int .i64 t0.1,D.int .i64 t0.2.1,D.int .i64 t0.2.2]) 0=some (.int .i64 t0.2.2):=rfl;refine cOfP (by kernel_rfl) rfl ?_
  rw[g210_eq];simp only[g210,go1,eq_self,Int.reduceEq,Int.reduceLT,Int.reduceLE,l1,trow_0 (l:=[t0,t1]) rfl,trow_1 (l:=[t0,t1]) rfl,h1,h2,e2];exact ex_bif (fun _=>⟨_,rfl,_,_,_,_,rfl,fun _=>hr2⟩) fun _=>⟨_,rfl,_,_,_,_,rfl,fun _=>hr2⟩
 ·obtain⟨t0,t1,t2,rfl⟩:=len3 (hl.trans (hp.a3 (.inr rfl)));have h1:=x_one t0.1 t0.2.1 t0.2.2;have h2:=x_whole t1.1 t1.2.1 t1.2.2;have l1:((tyrows [t0,t1,t2]).length:Int)=3:=rfl;have hr:=ht t0 (by simp)
  have e2:sy.cell (sy.skip 2 [D.int .i64 t0.1,D.int .i64 t0.2.1,D.int .i64 t0.2.2]) 0=some (.int .i64 t0.2.2):=rfl;refine cOfP (by kernel_rfl) rfl ?_
  rw[g210_eq];simp only[g210,go1,Int.reduceEq,Int.reduceLT,Int.reduceLE,l1,trow_0 (l:=[t0,t1,t2]) rfl,trow_1 (l:=[t0,t1,t2]) rfl,trow_2 (l:=[t0,t1,t2]) rfl,h1,h2,e2]
  repeat' first|exact⟨_,rfl,_,_,_,_,rfl,fun _=>hr⟩|refine ex_bif (fun _=> ?_) (fun _=> ?_)
variable (hp : PB ens nds) (hD : ∀ n ∈ nds, ∀ d ∈ allD n, tyR ens (d.k, d.e, d.c))
include hp hD
theorem x_flow {at_:Nat}{nd:Nd}(hn:nds[at_]? =some nd)(k m:Int)(s:BA)(o:Int)(a:List BA)(u:List Ex)(ts:List T3)(hb:ArB k m a u)(ha:a.length<=1000000)(hl:ts.length=u.length)(ht: ∀t∈ts,tyR ens t)(hk:k=9\/k=10\/k=11\/k=12\/k=13):
  ∃p,cF 209 [pV ens nds, .d (.int .i64 (at_:Int)),kE k m s o (srows a) (Ex.rows u), .d (.sl 3 (tyrows ts))]=some p/\TyQ (tyR ens) p:=by
 have hlt:=(List.getElem?_eq_some_iff.1 hn).1;have hD0:=x_Decl nd s (hp.al nd (List.mem_of_getElem? hn));rcases hk with rfl|rfl|rfl|rfl|rfl
 ·obtain⟨t0,t1,rfl⟩:=len2 (hl.trans (hb.a2 (.inr (.inr (.inl rfl)))));have l1:((tyrows [t0,t1]).length:Int)=2:=rfl;have hr:=ht t0 (by simp)
  refine cOfP (by kernel_rfl) rfl ?_
  rw[g209_eq];simp only[g209,go1,oD,oN,eq_self,Int.reduceEq,Int.reduceLT,Int.reduceLE,l1,trow_0 (l:=[t0,t1]) rfl,trow_1 (l:=[t0,t1]) rfl];exact⟨_,rfl,_,_,_,_,rfl,fun _=>hr⟩
 ·obtain⟨t0,rfl⟩:=len1 (hl.trans (hb.a1 (.inr (.inl rfl))));have l1:((tyrows [t0]).length:Int)=1:=rfl;have hr:=ht t0 (by simp)
  refine cOfP (by kernel_rfl) rfl ?_
  rw[g209_eq];simp only[g209,go1,oD,oN,eq_self,Int.reduceEq,Int.reduceLT,Int.reduceLE,l1,trow_0 (l:=[t0]) rfl];exact⟨_,rfl,_,_,_,_,rfl,fun _=>hr⟩
 ·obtain⟨t0,rfl⟩:=len1 (hl.trans (hb.a1 (.inr (.inr rfl))));obtain⟨a0,rfl⟩:=len1 (hb.a11 rfl);have l1:((tyrows [t0]).length:Int)=1:=rfl;have l2:((srows [a0]).length:Int)=1:=rfl;have hr:=ht t0 (by simp)
  obtain⟨_,h2,k',e',n',b,rfl, -⟩:=x_Arm hp a0;have h3:=srow_0 (l:=[a0]) rfl;cases hd:declA nd s with
  |none=>
   rw[hd]at hD0;refine cOfP (by kernel_rfl) rfl ?_
   rw[g209_eq];simp only[g209,go1,oD,oN,eq_self,Int.reduceEq,Int.reduceLT,Int.reduceLE,l1,l2,trow_0 (l:=[t0]) rfl,nrow,nrows_len,inr_at hlt,nrow_at hn,hD0,declR,h3,h2]
   repeat' first|exact⟨_,rfl,_,_,_,_,rfl,fun _=>hr⟩|refine ex_bif (fun _=> ?_) (fun _=> ?_)
  |some d=>
   rw[hd]at hD0;refine cOfP (by kernel_rfl) rfl ?_
   rw[g209_eq];simp only[g209,go1,oD,oN,eq_self,Int.reduceEq,Int.reduceLT,Int.reduceLE,l1,l2,trow_0 (l:=[t0]) rfl,nrow,nrows_len,inr_at hlt,nrow_at hn,hD0,declR,h3,h2]
   repeat' first|exact⟨_,rfl,_,_,_,_,rfl,fun _=>hr⟩|refine ex_bif (fun _=> ?_) (fun _=> ?_)
 ·have hu:=hb.a12 rfl;have hx:=List.getElem?_eq_getElem (show 0 < ts.length by omega)
  have hr:=ht ts[0] (List.getElem_mem (by omega))
  cases hd:declA nd s with
  |none=>
   rw[hd]at hD0;refine cOfP (by kernel_rfl) rfl ?_
   rw[g209_eq];simp only[g209,go1,oD,oN,eq_self,Int.reduceEq,Int.reduceLE,tyrows_len,inr_0 (show 0 < ts.length by omega),trow_0 hx,nrow,nrows_len,inr_at hlt,nrow_at hn,hD0,declR]
   exact⟨_,rfl,_,_,_,_,rfl,fun _=>hr⟩
  |some d=>
   rw[hd]at hD0;obtain⟨_,h1,b1,rfl, -⟩:=x_all ts (by omega)
   have hdr:=hD nd (List.mem_of_getElem? hn) d (List.mem_of_find?_eq_some hd);obtain⟨_,h2,b2,rfl, -⟩:=x_Arms hp d.k d.e d.c a ha fun e=>by have:=(tyR_iff.1 hdr).2.2;omega
   refine cOfP (by kernel_rfl) rfl ?_
   rw[g209_eq];simp only[g209,go1,oD,oN,eq_self,Int.reduceEq,Int.reduceLE,tyrows_len,inr_0 (show 0 < ts.length by omega),trow_0 hx,nrow,nrows_len,inr_at hlt,nrow_at hn,hD0,declR,h1,h2]
   repeat' first|exact⟨_,rfl,_,_,_,_,rfl,fun _=>hr⟩|refine ex_bif (fun _=> ?_) (fun _=> ?_)
 ·have hu:=hb.a13 rfl;obtain⟨_,h1,i,b,rfl,hq⟩:=x_call hp 13 m s o a u ts (by omega) (by omega)
  have h0:TyQ (tyR ens) (PRes.val [.int .i64 0, .int .i64 0, .int .i64 0, .bool false]):=⟨0,0,0,false,rfl,fun h=>by cases h⟩
  obtain⟨dn,dk,de,dc,do',dq,db,hdr⟩:=declR_ex (declA nd s);rw[hdr]at hD0;cases b with
  |false=>
   refine cOfP (by kernel_rfl) rfl ?_
   rw[g209_eq];simp only[g209,go1,oD,oN,Int.reduceEq,Int.reduceLE,nrow,nrows_len,inr_at hlt,nrow_at hn,hD0,h1];exact⟨_,rfl,h0⟩
  |true=>
   obtain⟨j,n2,rfl,hj⟩:=hq rfl;have hjl:=(List.getElem?_eq_some_iff.1 hj).1;have e1: ∀n:Nd,sy.cell (sy.skip 2 [D.str n.n, .sl 6 (drows n.ins), .sl 6 (drows n.outs), .sl 6 (drows n.vars), .sl 7 (qrows n.eqs)]) 0=some (.sl 6 (drows n.outs)):=fun _=>rfl
   refine cOfP (by kernel_rfl) rfl ?_
   rw[g209_eq];simp only[g209,go1,oD,oN,Int.reduceEq,Int.reduceLE,nrow,nrows_len,inr_at hlt,nrow_at hn,hD0,h1,inr_at hjl,nrow_at hj,e1,drows_len];refine ex_bif (fun _=>⟨_,rfl,h0⟩) fun ho=> ?_
   have ho:n2.outs.length=1:=by simp at ho;omega
   obtain⟨d0,hd0⟩:=len1 ho;have hdm:d0∈allD n2:=by unfold allD;rw[hd0];simp
   have hr:=hD n2 (List.mem_of_getElem? hj) d0 hdm;have e2:sy.cell (sy.skip 1 (sy.row (drows n2.outs) 0)) 0=some (.int .i64 d0.k):=by rw[hd0];rfl
   have e3:sy.cell (sy.skip 1 (sy.row (drows n2.outs) 0)) 1=some (.int .i64 d0.e):=by rw[hd0];rfl
   have e4:sy.cell (sy.skip 1 (sy.row (drows n2.outs) 0)) 2=some (.int .i64 d0.c):=by rw[hd0];rfl
   simp only[go1,inr_0 (show 0 < n2.outs.length by omega),e2,e3,e4]
   exact⟨_,rfl,_,_,_,_,rfl,fun _=>hr⟩
def Ex.v:Ex->V
 | .mk k m s o a u=>kE k m s o (srows a) (Ex.rows u)
def TyA (ens:List En)(nds:List Nd)(at_:Nat)(e:Ex)(t:T3):Prop:=cF 143 [pV ens nds, .d (.int .i64 (at_:Int)),e.v]=some (.val [.int .i64 t.1, .int .i64 t.2.1, .int .i64 t.2.2, .bool true])
def ConA (ens:List En)(e:Ex)(v:List Int)(t:T3):Prop:=cF 205 [.d (.sl 2 (erows ens)),e.v]=some (.val [.sl 1 (irows v), .int .i64 t.1, .int .i64 t.2.1, .int .i64 t.2.2, .bool true])
mutual
def TD (ens:List En)(nds:List Nd)(at_:Nat):Ex->T3->Prop
 | .mk k m s o a u,t=>(tyR ens t/\TyA ens nds at_ (.mk k m s o a u) t/\k≠17/\ArB k m a u/\(k=8-> ∀c r,u=c::r-> ∃v,ConA ens c v t/\valR ens t v/\v.length<=8))/\(k≠8->TDs ens nds at_ u)/\(k=8->TDt ens nds at_ u)
def TDt (ens:List En)(nds:List Nd)(at_:Nat):List Ex->Prop
 | []=>True
 |_::l=>TDs ens nds at_ l
def TDs (ens:List En)(nds:List Nd)(at_:Nat):List Ex->Prop
 | []=>True
 |e::l=>(∃t,TD ens nds at_ e t)/\TDs ens nds at_ l
end
omit hp hD in
theorem TDs_of {at_:Nat}: ∀ {u:List Ex},(∀e∈u,∃t,TD ens nds at_ e t)->TDs ens nds at_ u
 | [],_=>by unfold TDs;trivial
 |e::u,h=>by unfold TDs;exact⟨h e List.mem_cons_self,TDs_of fun x hx=>h x (List.mem_cons_of_mem _ hx)⟩
omit hp hD in
theorem TDs_mem {at_:Nat}: ∀ {u:List Ex},TDs ens nds at_ u-> ∀e∈u,∃t,TD ens nds at_ e t
 | [],_,e,he=>by cases he
 |x::u,h,e,he=>by
  unfold TDs at h;rcases List.mem_cons.1 he with rfl|he
  ·exact h.1
  ·exact TDs_mem h.2 e he
def OfQ (ens:List En)(nds:List Nd)(at_:Nat)(e:Ex)(p:PRes):Prop:= ∃(k' e' c':Int) (b:Bool),p= .val [.int .i64 k', .int .i64 e', .int .i64 c', .bool b]/\(b=true->TD ens nds at_ e (k',e',c'))
def OfC (ens:List En)(nds:List Nd)(at_:Nat)(e:Ex):Prop:= ∃p,cF 143 [pV ens nds, .d (.int .i64 (at_:Int)),e.v]=some p/\OfQ ens nds at_ e p
def SubQ (ens:List En)(nds:List Nd)(at_:Nat)(u:List Ex)(p:PRes):Prop:= ∃(ts:List T3) (b:Bool),p= .val [.sl 3 (tyrows ts), .bool b]/\(b=true->ts.length=u.length/\(∀t∈ts,tyR ens t)/\TDs ens nds at_ u)
omit hp hD in
theorem TD_ty {at_:Nat}{e:Ex}{t:T3}(h:TD ens nds at_ e t):tyR ens t:=by
 obtain⟨k,m,s,o,a,u⟩:=e;unfold TD at h;exact h.1.1
omit hp hD in
theorem x_subs {at_:Nat}(k m:Int)(s:BA)(o:Int)(a:List BA)(u:List Ex)(hul:u.length<=1000)(hu: ∀e∈u,OfC ens nds at_ e):
  ∃p,cF 208 [pV ens nds, .d (.int .i64 (at_:Int)),kE k m s o (srows a) (Ex.rows u)]=some p/\SubQ ens nds at_ u p:=by
 refine cOfP (by kernel_rfl) rfl ?_
 rw[g208_eq];simp only[g208,go1,oE,Nat.reduceAdd];refine for_s u (fun i (ts:List T3)=>[.int .i64 (at_:Int), .int .i64 (i:Int), .sl 2 (erows ens), .sl 5 (nrows nds), .int .i64 k, .int .i64 m, .str s, .int .i64 o, .sl 1 (srows a), .sl 6 (Ex.rows u), .sl 3 (tyrows ts)]) (fun i ts=>ts.length=i/\(∀t∈ts,tyR ens t)/\ ∀e∈u.take i,∃t,TD ens nds at_ e t) [] (by simp) rfl (fun i ts e he hI hil=> ?_) (fun ts hI=> ?_)
 ·obtain⟨I1,I2,I3⟩:=hI;obtain⟨_,h1,k',e',c',b,rfl,hq⟩:=hu e (List.mem_of_getElem? he);obtain⟨ek,em,es,eo,ea,eu⟩:=e;have h1:cF 143 [pV ens nds, .d (.int .i64 (at_:Int)),kE ek em es eo (srows ea) (Ex.rows eu)]=_:=h1;have hf:=fitsR (tyrows ts) [[.int .i64 k', .int .i64 e', .int .i64 c']] 24 (by rw[tyrows_len];simp only[List.length_cons,List.length_nil];omega)
  simp only[go1,Nat.reduceAdd]at hf;simp only[go1,rows_len,ilt_at hil,inr_at hil,row_of he,h1,hf,wrap_succ hil (by omega)]
  cases b with
  |false=>exact⟨_,rfl,[],false,rfl,fun h=>by cases h⟩
  |true=>
   have ht:=hq rfl;refine⟨_,rfl,ts++[(k',e',c')],by simp[tyrows,trow],by simp[I1],fun t hm=> ?_,fun x hx=> ?_⟩
   ·rcases List.mem_append.1 hm with hm|hm
    ·exact I2 t hm
    ·simp at hm;subst hm;exact TD_ty ht
   ·rw[List.take_add_one,he]at hx;rcases List.mem_append.1 hx with hx|hx
    ·exact I3 x hx
    ·simp at hx;subst hx;exact⟨_,ht⟩
 ·obtain⟨I1,I2,I3⟩:=hI;simp only[go1,rows_len,ilt_self];rw[List.take_length]at I3;exact⟨_,rfl,ts,true,rfl,fun _=>⟨I1,I2,TDs_of I3⟩⟩
end
theorem fines_mem: ∀ {u:List Ex},Ex.fines u-> ∀x∈u,x.fine
 | [],_,x,hx=>by cases hx
 |e::u,h,x,hx=>by
  rcases List.mem_cons.1 hx with rfl|hx
  ·exact h.1
  ·exact fines_mem h.2 x hx
theorem allBs_all: ∀ {u:List Ex},allBs u=true-> ∀x∈u,allB x=true
 | [],_,x,hx=>by cases hx
 |e::u,h,x,hx=>by
  unfold allBs at h;rw[Bool.and_eq_true]at h;rcases List.mem_cons.1 hx with rfl|hx
  ·exact h.1
  ·exact allBs_all h.2 x hx
section
variable {ens : List En} {nds : List Nd} (hp : PB ens nds) (hD : ∀ n ∈ nds, ∀ d ∈ allD n, tyR ens (d.k, d.e, d.c))
include hp hD
def InQ (ens:List En)(nds:List Nd)(at_:Nat)(k:Int)(u:List Ex)(t:T3):Prop:=tyR ens t/\k≠17/\(k=8-> ∀c r,u=c::r-> ∃v,ConA ens c v t/\valR ens t v/\v.length<=8)/\(k≠8->TDs ens nds at_ u)/\(k=8->TDt ens nds at_ u)
theorem x_of {at_:Nat}{nd:Nd}(hn:nds[at_]? =some nd)(k m:Int)(s:BA)(o:Int)(a:List BA)(u:List Ex)(hs:(Ex.mk k m s o a u).size<=1000)(hf:(Ex.mk k m s o a u).fine)(hb:ArB k m a u)(hu: ∀e∈u,OfC ens nds at_ e):
  ∃p,cF 182 [pV ens nds, .d (.int .i64 (at_:Int)),kE k m s o (srows a) (Ex.rows u)]=some p/\TyQ (InQ ens nds at_ k u) p:=by
 have hlt:=(List.getElem?_eq_some_iff.1 hn).1;have hsz:Ex.sizes u<=1000:=by simp only[Ex.size]at hs;omega
 have hul:=sizes_len u;have ha:a.length<=1000000:=hf.1.2.2;have hD0:=x_Decl nd s (hp.al nd (List.mem_of_getElem? hn))
 by_cases hk:k=1\/k=2\/k=4
 ·obtain⟨_,h1,v,k',e',c',b,rfl,hq⟩:=x_Const hp k m s o a u hs hf;have hu0:u= []:=hb.a0 (by omega)
  have hr:TyQ (InQ ens nds at_ k u) (PRes.val [.int .i64 k', .int .i64 e', .int .i64 c', .bool b]):=⟨_,_,_,_,rfl,fun hb=>⟨(hq hb).1,by omega,fun e=>by omega,fun _=>by rw[hu0];unfold TDs;trivial,fun e=>by omega⟩⟩
  refine cOfP (by kernel_rfl) rfl ?_
  rw[g182_eq];simp only[g182,go1,oE,oD,oN,Int.reduceLE,h1];refine ex_bif (fun _=>⟨_,rfl,hr⟩) fun _=>ex_bif (fun _=>⟨_,rfl,hr⟩) fun _=>ex_bif (fun _=>⟨_,rfl,hr⟩) fun h4=> ?_
  simp at*;omega
 ·have n1: ¬k=1:=by omega
  have n2: ¬k=2:=by omega
  have n4: ¬k=4:=by omega
  by_cases h3:k=3
  ·have hu0:u= []:=hb.a0 (by omega)
   cases hd:declA nd s with
   |none=>
    rw[hd]at hD0;refine cOfP (by kernel_rfl) rfl ?_
    rw[g182_eq];simp only[g182,go1,oE,oD,oN,Int.reduceLE,decF n1,decF n2,decF n4,decT h3,nrow,nrows_len,inr_at hlt,nrow_at hn,hD0,declR];exact⟨_,rfl,_,_,_,_,rfl,fun h=>by cases h⟩
   |some d=>
    rw[hd]at hD0;have hdr:=hD nd (List.mem_of_getElem? hn) d (List.mem_of_find?_eq_some hd);refine cOfP (by kernel_rfl) rfl ?_
    rw[g182_eq];simp only[g182,go1,oE,oD,oN,Int.reduceLE,decF n1,decF n2,decF n4,decT h3,nrow,nrows_len,inr_at hlt,nrow_at hn,hD0,declR];exact⟨_,rfl,_,_,_,_,rfl,fun _=>⟨hdr,by omega,fun e=>by omega,fun _=>by rw[hu0];unfold TDs;trivial,fun e=>by omega⟩⟩
  ·by_cases h8:k=8
   ·obtain⟨c,e,rfl⟩:=len2 (hb.a2 (by omega))
    obtain⟨_,h2,k2,e2,c2,b2,rfl,hq2⟩:=hu e (by simp)
    have hcs:c.size<=1000/\e.size<=1000:=by simp only[Ex.sizes]at hsz;omega
    have hfs:=hf.2;have hfc:c.fine:=hfs.1;obtain⟨ck,cm,cs',co,ca,cu⟩:=c;obtain⟨ek,em,es,eo,ea,eu⟩:=e;obtain⟨_,h1,v,k1,e1,c1,b1,rfl,hq1⟩:=x_Const hp ck cm cs' co ca cu hcs.1 hfc;have l2:((Ex.rows [.mk ck cm cs' co ca cu, .mk ek em es eo ea eu]).length:Int)=2:=rfl;have r0:=xrow_0 (l:=[.mk ck cm cs' co ca cu, .mk ek em es eo ea eu]) rfl;have r1:=xrow_1 (l:=[.mk ck cm cs' co ca cu, .mk ek em es eo ea eu]) rfl;have h2':cF 143 [pV ens nds, .d (.int .i64 (at_:Int)),kE ek em es eo (srows ea) (Ex.rows eu)]=_:=h2;refine cOfP (by kernel_rfl) rfl ?_
    rw[g182_eq];simp only[g182,go1,oE,oD,oN,Int.reduceLT,Int.reduceLE,decF n1,decF n2,decF n4,decF h3,decT h8,l2,r0,r1,h1,h2'];cases b1 with
    |false=>exact⟨_,rfl,_,_,_,_,rfl,fun h=>by cases h⟩
    |true=>cases b2 with
     |false=>exact⟨_,rfl,_,_,_,_,rfl,fun h=>by cases h⟩
     |true=>
      refine⟨_,rfl,_,_,_,_,rfl,fun h=> ?_⟩
      simp at h;obtain⟨rfl,rfl,rfl⟩:=h;have hc:=hq1 rfl;refine⟨hc.1,by omega,fun _ c' r' e'=> ?_,fun e=>absurd h8 e,fun _=> ?_⟩
      ·cases e';exact⟨v,h1,hc.2⟩
      ·unfold TDt TDs TDs;exact⟨⟨_,hq2 rfl⟩,trivial⟩
   ·by_cases h17:k=17
    ·refine cOfP (by kernel_rfl) rfl ?_
     rw[g182_eq];simp only[g182,go1,oE,oD,oN,Int.reduceLE,decF n1,decF n2,decF n4,decF h3,decF h8,decT h17];exact⟨_,rfl,_,_,_,_,rfl,fun h=>by cases h⟩
    ·obtain⟨_,h1,ts,b,rfl,hq⟩:=x_subs k m s o a u (by omega) hu
     cases b with
     |false=>
      refine cOfP (by kernel_rfl) rfl ?_
      rw[g182_eq];simp only[g182,go1,oE,oD,oN,Int.reduceLE,decF n1,decF n2,decF n4,decF h3,decF h8,decF h17,h1];exact⟨_,rfl,_,_,_,_,rfl,fun h=>by cases h⟩
     |true=>
      obtain⟨q1,q2,q3⟩:=hq rfl;have hkd:=hb.kd;have fin: ∀p,TyQ (tyR ens) p->TyQ (InQ ens nds at_ k u) p:=fun p ⟨a1,a2,a3,a4,a5,a6⟩=>⟨a1,a2,a3,a4,a5,fun h=>⟨a6 h,h17,fun e=>absurd e h8,fun _=>q3,fun e=>absurd e h8⟩⟩
      by_cases hfl:9<=k/\k<=13
      ·obtain⟨_,h2,k2,e2,c2,b2,rfl,hq2⟩:=x_flow hp hD hn k m s o a u ts hb ha q1 q2 (by omega)
       refine cOfP (by kernel_rfl) rfl ?_
       rw[g182_eq];simp only[g182,go1,oE,oD,oN,Int.reduceLE,decF n1,decF n2,decF n4,decF h3,decF h8,decF h17,h1,decT hfl.1,decT hfl.2,h2];exact⟨_,rfl,fin _ ⟨_,_,_,_,rfl,hq2⟩⟩
      ·obtain⟨_,h2,k2,e2,c2,b2,rfl,hq2⟩:=x_plain (ens:=ens) k m s o a u ts hb q1 q2 (by omega)
       have hc:(decide (9<=k)&&decide (k<=13))=false:=by
        rw[Bool.and_eq_false_iff]
        by_cases h9:9<=k
        ·exact .inr (decF (by omega))
        ·exact .inl (decF h9)
       refine cOfP (by kernel_rfl) rfl ?_
       rw[g182_eq];simp only[g182,go1,oE,oD,oN,Int.reduceLE,decF n1,decF n2,decF n4,decF h3,decF h8,decF h17,h1,hc,h2];exact⟨_,rfl,fin _ ⟨_,_,_,_,rfl,hq2⟩⟩
theorem x_Of {at_:Nat}{nd:Nd}(hn:nds[at_]? =some nd): ∀(n:Nat) (e:Ex),e.size<=n->e.size<=1000->e.fine->allB e=true->OfC ens nds at_ e
 |0, .mk k m s o a u,h,_,_,_=>by simp only[Ex.size]at h;omega
 |n+1, .mk k m s o a u,h,hs,hf,hb=>by
  have hlt:=(List.getElem?_eq_some_iff.1 hn).1;unfold allB at hb;rw[Bool.and_eq_true]at hb;have har:=ar_of hb.1;have hu: ∀e∈u,OfC ens nds at_ e:=fun e he=>by
   obtain⟨i,hi⟩:=List.getElem?_of_mem he;have h1:=sizes_mem hi;simp only[Ex.size]at h hs;exact x_Of hn n e (by omega) (by omega) (fines_mem hf.2 e he) (allBs_all hb.2 e he)
  obtain⟨_,h1,k',e',c',b,rfl,hq⟩:=x_of hp hD hn k m s o a u hs hf har hu;unfold OfC;have e0:decide ((nds.length:Int)<=(at_:Int))=false:=decF (by omega)
  have e1:decide ((at_:Int) < 0)=false:=decF (by omega)
  cases b with
  |false=>
   unfold Ex.v;refine cOfP (by kernel_rfl) rfl ?_
   rw[g143_eq];simp only[g143,go1,nrows_len,e0,e1,h1];exact⟨_,rfl,_,_,_,_,rfl,fun h=>by cases h⟩
  |true=>
   have key:TyA ens nds at_ (.mk k m s o a u) (k',e',c'):=by
    unfold TyA Ex.v;refine cOf (by kernel_rfl) rfl ?_
    rw[g143_eq];simp only[g143,go1,eq_self,nrows_len,e0,e1,h1]
   obtain⟨i1,i2,i3,i4,i5⟩:=hq rfl;refine⟨_,key,_,_,_,_,rfl,fun _=> ?_⟩
   unfold TD;exact⟨⟨i1,key,i2,har,i3⟩,i4,i5⟩
end
theorem trown_at {l:List T3}{i:Nat}{t:T3}(h:l[i]? =some t):sy.rown (tyrows l) i= [.int .i64 t.1, .int .i64 t.2.1, .int .i64 t.2.2]:=by
 have:=trow_at h;rw[sy_row,Int.toNat_natCast]at this;rw[sy_rown];exact this
def EqT (ens:List En)(nds:List Nd)(at_:Nat)(nd:Nd)(ns:List BA)(k m:Int)(s:BA)(o:Int)(a:List BA)(u:List Ex):Prop:=
 (k=13->TDs ens nds at_ u)/\(k≠13-> ∃t y d,TD ens nds at_ (.mk k m s o a u) t/\ns= [y]/\declA nd y=some d/\(d.k,d.e,d.c)=t)
section
variable {ens : List En} {nds : List Nd} (hp : PB ens nds) (hD : ∀ n ∈ nds, ∀ d ∈ allD n, tyR ens (d.k, d.e, d.c))
include hp hD
theorem x_tEq {at_:Nat}{nd:Nd}(hn:nds[at_]? =some nd){i:Nat}{ns:List BA}{k m:Int}{s:BA}{o:Int}{a:List BA}{u:List Ex}(hx:nd.eqs[i]? =some ⟨ns, .mk k m s o a u⟩)(hall:allB (.mk k m s o a u)=true):
  ∃p,cF 221 [pV ens nds, .d (.int .i64 (at_:Int)), .agg [.d (.sl 1 (srows ns)), .d (.int .i64 k), .d (.int .i64 m), .d (.str s), .d (.int .i64 o), .d (.sl 1 (srows a)), .d (.sl 6 (Ex.rows u))]]=some p/\BoolQ (fun b=>b=true->EqT ens nds at_ nd ns k m s o a u) p:=by
 have hlt:=(List.getElem?_eq_some_iff.1 hn).1;have hnm:=List.mem_of_getElem? hn;have hxm:=List.mem_of_getElem? hx;have hs:(Ex.mk k m s o a u).size<=1000:=hp.sz nd hnm _ hxm;have hf:(Ex.mk k m s o a u).fine:=hp.fn nd hnm _ hxm;have hnl:ns.length<=1000:=hp.ns nd hnm _ hxm;have hDc:=fun y=>x_Decl nd y (hp.al nd hnm)
 have hsz:Ex.sizes u<=1000:=by simp only[Ex.size]at hs;omega
 have hul:=sizes_len u;have hb:=hall;unfold allB at hb;rw[Bool.and_eq_true]at hb;have har:=ar_of hb.1;have hu: ∀e∈u,OfC ens nds at_ e:=fun e he=>by
  obtain⟨i,hi⟩:=List.getElem?_of_mem he;have h1:=sizes_mem hi;exact x_Of hp hD hn 1000 e (by omega) (by omega) (fines_mem hf.2 e he) (allBs_all hb.2 e he)
 have h0:BoolQ (fun b=>b=true->EqT ens nds at_ nd ns k m s o a u) (PRes.val [.bool false]):=⟨false,rfl,fun h=>by cases h⟩
 by_cases h13:k=13
 ·subst h13;obtain⟨_,h1,ts,b,rfl,hq⟩:=x_subs 13 m s o a u (by omega) hu
  cases b with
  |false=>
   refine cOfP (by kernel_rfl) rfl ?_
   rw[g221_eq];simp only[g221,go1,oE,oD,oN,eq_self,Nat.reduceAdd,h1];exact⟨_,rfl,h0⟩
  |true=>
   obtain⟨q1,q2,q3⟩:=hq rfl;obtain⟨_,h2,j,b2,rfl,hq2⟩:=x_call hp 13 m s o a u ts (by omega) (by have:=har.a13 rfl;omega)
   cases b2 with
   |false=>
    refine cOfP (by kernel_rfl) rfl ?_
    rw[g221_eq];simp only[g221,go1,oE,oD,oN,eq_self,Nat.reduceAdd,h1,h2];exact⟨_,rfl,h0⟩
   |true=>
    obtain⟨j,n2,rfl,hj⟩:=hq2 rfl;have hjl:=(List.getElem?_eq_some_iff.1 hj).1;have hol:n2.outs.length<=1000000:=by have:=hp.al n2 (List.mem_of_getElem? hj);unfold allD at this;simp only[List.length_append]at this;omega
    have e1:sy.cell (sy.skip 2 (nrow n2)) 0=some (.sl 6 (drows n2.outs)):=rfl;refine cOfP (by kernel_rfl) rfl ?_
    rw[g221_eq];simp only[g221,go1,oE,oD,oN,eq_self,Nat.reduceAdd,h1,h2];refine for_s n2.outs (fun i (w:List T3)=>[.int .i64 (at_:Int), .int .i64 (j:Int), .int .i64 (i:Int), .sl 2 (erows ens), .sl 5 (nrows nds), .sl 1 (srows ns), .int .i64 13, .int .i64 m, .str s, .int .i64 o, .sl 1 (srows a), .sl 6 (Ex.rows u), .sl 3 (tyrows w)]) (fun i w=>w.length=i) [] rfl rfl (fun i w d hd hI hil=> ?_) (fun w hI=> ?_)
    ·have hf:=fitsR (tyrows w) [[.int .i64 d.k, .int .i64 d.e, .int .i64 d.c]] 24 (by rw[tyrows_len];simp only[List.length_cons,List.length_nil];omega)
     have e2:sy.cell (sy.skip 1 (drow d)) 0=some (.int .i64 d.k):=rfl;have e3:sy.cell (sy.skip 1 (drow d)) 1=some (.int .i64 d.e):=rfl;have e4:sy.cell (sy.skip 1 (drow d)) 2=some (.int .i64 d.c):=rfl;simp only[go1,Nat.reduceAdd]at hf;simp only[go1,nrows_len,inr_at hjl,nrow_at hj,e1,drows_len,ilt_at hil,inr_at hil,drow_at hd,e2,e3,e4,hf,wrap_succ hil (by omega)]
     exact⟨_,rfl,w++[(d.k,d.e,d.c)],by simp[tyrows,trow],by simp[hI]⟩
    ·simp only[go1,nrows_len,inr_at hjl,nrow_at hj,e1,drows_len,ilt_self,tyrows_len,srows_len];refine ex_bif (fun _=>⟨_,rfl,h0⟩) fun hwl=> ?_
     have hwl:w.length=ns.length:=by simp at hwl;omega
     refine for_n w.length (fun i (_:Unit)=>[.int .i64 (at_:Int), .int .i64 (i:Int), .sl 2 (erows ens), .sl 5 (nrows nds), .sl 1 (srows ns), .int .i64 13, .int .i64 m, .str s, .int .i64 o, .sl 1 (srows a), .sl 6 (Ex.rows u), .sl 3 (tyrows w)]) (fun _ _=>True) () trivial rfl (fun i _ _ hil=> ?_) fun _ _=> ?_
     ·have hy:=List.getElem?_eq_getElem (show i < ns.length by omega)
      have ht:=List.getElem?_eq_getElem hil;obtain⟨dn,dk,de,dc,do',dq,db,hdr⟩:=declR_ex (declA nd ns[i]);have hd:=hDc ns[i];rw[hdr]at hd;simp only[go1,tyrows_len,ilt_at hil,nrow,nrows_len,inr_at hlt,nrow_at hn,srows_len,inr_at (show i < ns.length by omega),srows_at hy,hd,inr_at hil,Int.toNat_natCast,trown_at ht,decT hil,wrap_succ hil (by omega)]
      exact ex_bif (fun _=>⟨_,rfl,h0⟩) fun _=>⟨_,rfl,(),rfl⟩
     ·simp only[go1,tyrows_len,ilt_self];exact⟨_,rfl,true,rfl,fun _=>⟨fun _=>q3,fun h=>absurd rfl h⟩⟩
 ·obtain⟨_,h1,k',e',c',b,rfl,hq⟩:=x_Of hp hD hn 1000 (.mk k m s o a u) hs hs hf hall;have h1:cF 143 [pV ens nds, .d (.int .i64 (at_:Int)),kE k m s o (srows a) (Ex.rows u)]=_:=h1;cases b with
  |false=>
   refine cOfP (by kernel_rfl) rfl ?_
   rw[g221_eq];simp only[g221,go1,oE,oD,oN,Nat.reduceAdd,decF h13,h1];exact⟨_,rfl,h0⟩
  |true=>
   have e5: ∀r:List D,decide ((([]:LL).length+[r].length)*25<=140737488355328)=true:=fun r=>decT (by simp)
   have e6:((([]:LL)++[[D.int .i64 k', .int .i64 e', .int .i64 c']]).length:Int)=1:=rfl;have e7:([]:LL)++[[D.int .i64 k', .int .i64 e', .int .i64 c']]=tyrows [(k',e',c')]:=rfl
   by_cases hl1:ns.length=1
   ·obtain⟨y,rfl⟩:=len1 hl1;have l1:((srows [y]).length:Int)=1:=rfl;refine cOfP (by kernel_rfl) rfl ?_
    rw[g221_eq];simp only[g221,go1,oE,oD,oN,eq_self,Nat.reduceAdd,decF h13,h1,e5,e6,l1];rw[e7];have hd:=hDc y;refine for_n 1 (fun i (_:Unit)=>[.int .i64 (at_:Int), .int .i64 (i:Int), .sl 2 (erows ens), .sl 5 (nrows nds), .sl 1 (srows [y]), .int .i64 k, .int .i64 m, .str s, .int .i64 o, .sl 1 (srows a), .sl 6 (Ex.rows u), .sl 3 (tyrows [(k',e',c')])]) (fun i _=>0 < i-> ∃d,declA nd y=some d/\(d.k,d.e,d.c)=(k',e',c')) () (by omega) rfl (fun i _ _ hil=> ?_) fun _ hI=> ?_
    ·have hi0:i=0:=by omega
     subst hi0;have lt1:((tyrows [(k',e',c')]).length:Int)=((1:Nat):Int):=rfl;have lt2:((srows [y]).length:Int)=((1:Nat):Int):=rfl;have hz:sy.cell (sy.row (srows [y]) ((0:Nat):Int)) 0=some (.str y):=rfl;have hz2:sy.rown (tyrows [(k',e',c')]) 0= [.int .i64 k', .int .i64 e', .int .i64 c']:=rfl;have hz3:decide (0 < (tyrows [(k',e',c')]).length)=true:=rfl;cases hdy:declA nd y with
     |none=>
      rw[hdy]at hd;simp only[go1,lt1,lt2,ilt_at hil,nrow,nrows_len,inr_at hlt,nrow_at hn,inr_at hil,hz,hd,declR,Int.toNat_natCast,hz2,hz3,wrap_succ hil (by omega)]
      refine ex_bif (fun _=>⟨_,rfl,h0⟩) fun he=> ?_
      have:=tyR_iff.1 (TD_ty (hq rfl));simp at he;omega
     |some d=>
      rw[hdy]at hd;simp only[go1,lt1,lt2,ilt_at hil,nrow,nrows_len,inr_at hlt,nrow_at hn,inr_at hil,hz,hd,declR,Int.toNat_natCast,hz2,hz3,wrap_succ hil (by omega)]
      refine ex_bif (fun _=>⟨_,rfl,h0⟩) fun he=>⟨_,rfl,(),rfl,fun _=>⟨d,rfl,?_⟩⟩
      simp at he;rw[he.1,he.2.1,he.2.2]
    ·have lt1:((tyrows [(k',e',c')]).length:Int)=((1:Nat):Int):=rfl;simp only[go1,lt1,ilt_self];obtain⟨d,hd1,hd2⟩:=hI (by omega)
     exact⟨_,rfl,true,rfl,fun _=>⟨fun h=>absurd h h13,fun _=>⟨_,y,d,hq rfl,rfl,hd1,hd2⟩⟩⟩
   ·have e8:decide ((1:Int)=(ns.length:Int))=false:=decF (by omega)
    refine cOfP (by kernel_rfl) rfl ?_
    rw[g221_eq];simp only[g221,go1,oE,oD,oN,Nat.reduceAdd,decF h13,h1,e5,e6,srows_len,e8];exact⟨_,rfl,h0⟩
structure TyP (ens:List En) (nds:List Nd):Prop where
 sc:ScP ens nds
 eq: ∀(i:Nat) n,nds[i]? =some n-> ∀(j:Nat) ns k m s o a u,n.eqs[j]? =some ⟨ns, .mk k m s o a u⟩->EqT ens nds i n ns k m s o a u
omit hD in
theorem x_tCheck (hE: ∀x∈ens,EnOK x)(hN: ∀n∈nds,NdOK n)(hDD:chkS ens nds=0-> ∀n∈nds,∀d∈allD n,tyR ens (d.k,d.e,d.c))(hAA:chkS ens nds=0-> ∀n∈nds,∀x∈n.eqs,allB x.e=true): ∃p,cF 200 [pV ens nds]=some p/\FaultQ (TyP ens nds) p:=by
 obtain⟨_,h1,fa,fb,fc,rfl,hq⟩:=x_sCheck hp hE hN;refine cOfP (by kernel_rfl) rfl ?_
 rw[g200_eq];simp only[g200,go1,oE,oD,oN,Nat.reduceAdd,h1];refine ex_bif (fun hc=>⟨_,rfl,fa,fb,fc,rfl,fun ha hb hc'=> ?_⟩) fun hc=> ?_
 ·subst ha;subst hb;subst hc';cases hc
 have hz:fa=0/\fb=0/\fc=0:=by simpa using hc
 have hS:=hq hz.1 hz.2.1 hz.2.2;have hD:=hDD hS.ck;refine for_s nds (fun i (_:Unit)=>[.int .i64 (i:Int), .sl 2 (erows ens), .sl 5 (nrows nds), .int .i64 0, .int .i64 0, .int .i64 0]) (fun i _=> ∀(i':Nat) n,i' < i->nds[i']? =some n-> ∀(j:Nat) ns k m s o a u,n.eqs[j]? =some ⟨ns, .mk k m s o a u⟩->EqT ens nds i' n ns k m s o a u) () (by omega) rfl (fun i _ n hn hI hil=> ?_) (fun _ hI=> ?_)
 ·have hnl:=hp.nl;have hnm:=List.mem_of_getElem? hn;have hal:=hp.al n hnm;have hA:=q_all n hal;simp only[go1,nrow,nrows_len,ilt_at hil,inr_at hil,nrow_at hn,hA];refine for_at 2 (allD n) rfl (fun j d hd hjl=> ?_) ?_
  ·obtain⟨_,h2,ak,ae,an,ab,rfl, -⟩:=x_Arm hp d.q;have hF:=x_Fault (i:Int) (-1) 7;have e4:sy.cell (sy.skip 4 (drow d)) 0=some (.str d.o):=rfl;have e5:sy.cell (sy.skip 5 (drow d)) 0=some (.str d.q):=rfl;obtain⟨dn,dk,de,dc,do',dq,db,hdr⟩:=declR_ex (declA n d.o);have hDo:=x_Decl n d.o hal;rw[hdr]at hDo;simp only[go1,List.set,nrow,nrows_len,drows_len,ilt_at hjl,inr_at hjl,inr_at hil,nrow_at hn,drow_at hd,e4,e5,seq_tb,h2,hDo,hF,wrap_succ hjl (by omega)]
   exact ex_bif (fun _=>⟨_,rfl,rfl⟩) fun _=>ex_bif (fun _=>⟨_,rfl,_,_,_,rfl,fun _ h=>by cases h⟩) fun _=>⟨_,rfl,rfl⟩
  ·simp only[go1,List.set,drows_len,ilt_self];have hql:=hp.ql n hnm;have e1:sy.cell (sy.skip 4 (nrow n)) 0=some (.sl 7 (qrows n.eqs)):=rfl;refine for_s n.eqs (fun j (_:Unit)=>[.int .i64 (i:Int), .int .i64 (j:Int), .sl 2 (erows ens), .sl 5 (nrows nds), .int .i64 0, .int .i64 0, .int .i64 0]) (fun j _=> ∀(j':Nat) ns k m s o a u,j' < j->n.eqs[j']? =some ⟨ns, .mk k m s o a u⟩->EqT ens nds i n ns k m s o a u) () (by omega) rfl (fun j _ x hx hJ hjl=> ?_) (fun _ hJ=> ?_)
   ·have hxm:=List.mem_of_getElem? hx;obtain⟨ns,k,m,s,o,a,u⟩:=x;obtain⟨_,h2,b,rfl,hbq⟩:=x_tEq hp hD hn hx (hAA hS.ck n hnm _ hxm);have hF:=x_Fault (i:Int) (j:Int) 7;simp only[go1,nrows_len,inr_at hil,nrow_at hn,e1,qrows_len,ilt_at hjl,inr_at hjl,qrow_k hx,h2,hF,wrap_succ hjl (by omega)]
    cases b with
    |false=>exact⟨_,rfl,_,_,_,rfl,fun _ _ h=>by cases h⟩
    |true=>
     refine⟨_,rfl,(),rfl,fun j' ns' k' m' s' o' a' u' hj' hx'=> ?_⟩
     rcases Nat.lt_or_ge j' j with h|h
     ·exact hJ j' ns' k' m' s' o' a' u' h hx'
     ·have:j'=j:=by omega
      subst this;rw[hx]at hx';cases hx';exact hbq rfl
   ·simp only[go1,nrows_len,inr_at hil,nrow_at hn,e1,qrows_len,ilt_self,wrap_succ hil (by omega)]
    refine⟨_,rfl,(),rfl,fun i' n' hi' hn' j ns k m s o a u hx=> ?_⟩
    rcases Nat.lt_or_ge i' i with h|h
    ·exact hI i' n' h hn' j ns k m s o a u hx
    ·have:i'=i:=by omega
     subst this;rw[hn]at hn';cases hn';exact hJ j ns k m s o a u (List.getElem?_eq_some_iff.1 hx).1 hx
 ·simp only[go1,nrows_len,ilt_self];exact⟨_,rfl,_,_,_,rfl,fun _ _ _=>⟨hS,fun i n hn=>hI i n (List.getElem?_eq_some_iff.1 hn).1 hn⟩⟩
end
abbrev Cd:=BA × Int
def crow (c:Cd):List D:=[.str c.1, .int .i64 c.2]
def crows (l:List Cd):LL:=l.map crow
theorem crows_len (l:List Cd):(crows l).length=l.length:=by simp[crows]
theorem crow_at {l:List Cd}{i:Nat}{x:Cd}(h:l[i]? =some x):sy.row (crows l) (i:Int)= [.str x.1, .int .i64 x.2]:=by
 rw[sy_row,Int.toNat_natCast,List.getD_eq_getElem?_getD];unfold crows;rw[List.getElem?_map,h];rfl
theorem eqDs_str (a b:BA)(ds es:List D):eqDs (.str a::ds) (.str b::es)=(decide (tb a=tb b)&&eqDs ds es):=by
 rw[<-seq_tb];rfl
def RowQ (p:PRes):Prop:= ∃(on:List Cd) (b:Bool),p= .val [.sl 2 (crows on), .bool b]/\on.length<=13
theorem x_When (on:List Cd)(s:BA)(n:Int)(h:on.length<=10000):cF 207 [.d (.sl 2 (crows on)), .d (.str s), .d (.int .i64 n)]=some (.own 214 2 (crows (on++[(s,n)]))):=by
 have f1:=fitsR [] (crows on) 24 (by rw[crows_len];simp only[List.length_nil];omega)
 have f2:=fitsR (crows on) [[.str s, .int .i64 n]] 24 (by rw[crows_len];simp only[List.length_cons,List.length_nil];omega)
 simp only[go1,Nat.reduceAdd]at f1 f2;refine cOf (by kernel_rfl) rfl ?_
 rw[g207_eq];simp only[g207,go1,Nat.reduceAdd,f1];simp only[List.nil_append,f2,cond_true];simp[crows,crow]
theorem x_kSame (a b:List Cd)(h:a.length<=1000000): ∃p,cF 222 [.d (.sl 2 (crows a)), .d (.sl 2 (crows b))]=some p/\BoolQ (fun c=>c=true->a=b) p:=by
 refine cOfP (by kernel_rfl) rfl ?_
 rw[g222_eq];simp only[g222,go1,crows_len];refine ex_bif (fun _=>⟨_,rfl,_,rfl,fun h=>by cases h⟩) fun hl=> ?_
 have hl:a.length=b.length:=by simp at hl;omega
 refine for_s a (fun i (_:Unit)=>[.sl 2 (crows a), .sl 2 (crows b), .int .i64 (i:Int)]) (fun i _=>a.take i=b.take i) () (by simp) rfl (fun i _ x hx hI hil=> ?_) (fun _ hI=> ?_)
 ·have hy:=List.getElem?_eq_getElem (show i < b.length by omega)
  simp only[go1,crows_len,ilt_at hil,inr_at hil,crow_at hx,inr_at (show i < b.length by omega),crow_at hy,eqDs_str,wrap_succ hil (by omega)]
  refine ex_bif (fun _=>⟨_,rfl,_,rfl,fun h=>by cases h⟩) fun he=>⟨_,rfl,(),rfl,?_⟩
  rw[List.take_add_one,List.take_add_one,hx,hy,hI];simp at he;have:x=b[i]:=Prod.ext (tb_inj he.1) he.2;rw[this]
 ·simp only[go1,crows_len,ilt_self];refine⟨_,rfl,_,rfl,fun _=> ?_⟩
  rw[List.take_length,hl,List.take_length]at hI;exact hI
section
variable {ens : List En} {nds : List Nd} (hp : PB ens nds)
include hp
theorem x_Row {at_:Nat}{nd:Nd}(hn:nds[at_]? =some nd)(s:BA): ∃p,cF 91 [pV ens nds, .d (.int .i64 (at_:Int)), .d (.str s)]=some p/\RowQ p:=by
 have hlt:=(List.getElem?_eq_some_iff.1 hn).1;obtain⟨_,h1,l,b,rfl,hll⟩:=x_Clock nd s (hp.al nd (List.mem_of_getElem? hn));have h0:RowQ (PRes.val [.sl 2 [], .bool false]):=⟨[],false,rfl,by simp⟩
 have e0:decide ((nds.length:Int)<=(at_:Int))=false:=decF (by omega)
 have e1:decide ((at_:Int) < 0)=false:=decF (by omega)
 refine cOfP (by kernel_rfl) rfl ?_
 rw[g91_eq];simp only[g91,go1,oN,Nat.reduceAdd,nrow,nrows_len,e0,e1,inr_at hlt,nrow_at hn,h1];cases b with
 |false=>exact⟨_,rfl,h0⟩
 |true=>
  refine for_s l (fun i (on:List Cd)=>[.sl 6 (drows l), .int .i64 (i:Int), .sl 2 (erows ens), .sl 5 (nrows nds), .sl 2 (crows on)]) (fun i on=>on.length=i) [] rfl rfl (fun i on d hd hI hil=> ?_) (fun on hI=> ?_)
  ·obtain⟨_,h2,ak,ae,an,ab,rfl, -⟩:=x_Arm hp d.q;have e4:sy.cell (sy.skip 4 (drow d)) 0=some (.str d.o):=rfl;have e5:sy.cell (sy.skip 5 (drow d)) 0=some (.str d.q):=rfl;have hf:=fitsR (crows on) [[.str d.o, .int .i64 an]] 24 (by rw[crows_len];simp only[List.length_cons,List.length_nil];omega)
   simp only[go1,Nat.reduceAdd]at hf;simp only[go1,drows_len,ilt_at hil,inr_at hil,drow_at hd,e4,e5,h2,hf,wrap_succ hil (by omega)]
   cases ab with
   |false=>exact⟨_,rfl,h0⟩
   |true=>exact⟨_,rfl,on++[(d.o,an)],by simp[crows,crow],by simp[hI]⟩
  ·simp only[go1,drows_len,ilt_self];exact⟨_,rfl,on,true,rfl,by omega⟩
mutual
def FD (ens:List En):Ex->List Cd->Prop
 | .mk k _ s _ a u,on=>(k=11->on≠[]/\FDs ens u on.dropLast)/\(k=12->FDm ens s u a on)/\(k=8->FDt ens u on)/\(k=5\/k=6\/k=7\/k=9\/k=10\/k=13\/k=14\/k=15\/k=16->FDs ens u on)
def FDt (ens:List En):List Ex->List Cd->Prop
 | [],_=>True
 |_::l,on=>FDs ens l on
def FDs (ens:List En):List Ex->List Cd->Prop
 | [],_=>True
 |e::l,on=>FD ens e on/\FDs ens l on
def FDm (ens:List En)(s:BA):List Ex->List BA->List Cd->Prop
 | [],_,_=>True
 |e::l,a,on=>(∃x r,a=x::r/\(∃k' e' n,cF 141 [.d (.sl 2 (erows ens)), .d (.str x)]=some (.val [.int .i64 k', .int .i64 e', .int .i64 0, .int .i64 n, .bool true])/\FD ens e (on++[(s,n)])))/\FDm ens s l a.tail on
end
omit hp in
theorem FDs_of {on:List Cd}: ∀ {u:List Ex},(∀e∈u,FD ens e on)->FDs ens u on
 | [],_=>by unfold FDs;trivial
 |e::u,h=>by unfold FDs;exact⟨h e List.mem_cons_self,FDs_of fun x hx=>h x (List.mem_cons_of_mem _ hx)⟩
omit hp in
theorem FDs_mem {on:List Cd}: ∀ {u:List Ex},FDs ens u on-> ∀e∈u,FD ens e on
 | [],_,e,he=>by cases he
 |x::u,h,e,he=>by
  unfold FDs at h;rcases List.mem_cons.1 he with rfl|he
  ·exact h.1
  ·exact FDs_mem h.2 e he
def ArmFit (ens:List En)(s x:BA)(e:Ex)(on:List Cd):Prop:= ∃k' e' n,cF 141 [.d (.sl 2 (erows ens)), .d (.str x)]=some (.val [.int .i64 k', .int .i64 e', .int .i64 0, .int .i64 n, .bool true])/\FD ens e (on++[(s,n)])
omit hp in
theorem FDm_of {s:BA}{on:List Cd}: ∀ {u:List Ex} {a:List BA},a.length=u.length->(∀(i:Nat) x e,a[i]? =some x->u[i]? =some e->ArmFit ens s x e on)->FDm ens s u a on
 | [],_,_,_=>by unfold FDm;trivial
 |e::u,x::a,hl,h=>by
  unfold FDm;exact⟨⟨x,a,rfl,h 0 x e rfl rfl⟩,FDm_of (by simpa using hl) fun i y z hy hz=>h (i+1) y z hy hz⟩
omit hp in
theorem FDm_at {s:BA}{on:List Cd}: ∀ {u:List Ex} {a:List BA},FDm ens s u a on-> ∀(i:Nat) e,u[i]? =some e-> ∃x,a[i]? =some x/\ArmFit ens s x e on
 |e::u,a,h,0,e',he=>by
  unfold FDm at h;obtain⟨⟨x,r,rfl,h1⟩, -⟩:=h;cases he;exact⟨x,rfl,h1⟩
 |e::u,a,h,i+1,e',he=>by
  unfold FDm at h;obtain⟨⟨x,r,rfl, -⟩,h2⟩:=h;exact FDm_at h2 i e' he
def FitC (ens:List En)(nds:List Nd)(at_:Nat)(e:Ex)(on:List Cd):Prop:= ∃p,cF 223 [pV ens nds, .d (.int .i64 (at_:Int)),e.v, .d (.sl 2 (crows on))]=some p/\BoolQ (fun b=>b=true->FD ens e on) p
theorem x_when {at_:Nat}{nd:Nd}(hn:nds[at_]? =some nd)(m:Int)(s:BA)(o:Int)(a:List BA)(u:List Ex)(on:List Cd)(hon:on.length<=10000)(hu: ∀e∈u,∀on,on.length<=13->FitC ens nds at_ e on):
  ∃p,cF 242 [pV ens nds, .d (.int .i64 (at_:Int)),kE 11 m s o (srows a) (Ex.rows u), .d (.sl 2 (crows on))]=some p/\BoolQ (fun b=>b=true->on≠[]/\FDs ens u on.dropLast) p:=by
 obtain⟨_,h1,row,b,rfl,hrl⟩:=x_Row hp hn s;have h0:BoolQ (fun b=>b=true->on≠[]/\FDs ens u on.dropLast) (PRes.val [.bool false]):=⟨false,rfl,fun h=>by cases h⟩
 cases b with
 |false=>
  refine cOfP (by kernel_rfl) rfl ?_
  rw[g242_eq];simp only[g242,go1,oE,Int.reduceLE,h1];exact⟨_,rfl,h0⟩
 |true=>
  by_cases ha:a.length=1
  ·by_cases hul:u.length=1
   ·obtain⟨x,rfl⟩:=len1 ha;obtain⟨e,rfl⟩:=len1 hul;obtain⟨_,h2,ak,ae,an,ab,rfl, -⟩:=x_Arm hp x;have h3:=x_When row s an (by omega)
    obtain⟨_,h4,b4,rfl,q4⟩:=x_kSame on (row++[(s,an)]) (by omega)
    obtain⟨_,h5,b5,rfl,q5⟩:=hu e (by simp) row hrl
    obtain⟨ek,em,es,eo,ea,eu⟩:=e;have h5:cF 223 [pV ens nds, .d (.int .i64 (at_:Int)),kE ek em es eo (srows ea) (Ex.rows eu), .d (.sl 2 (crows row))]=_:=h5;have l1:((srows [x]).length:Int)=1:=rfl;have l2:((Ex.rows [.mk ek em es eo ea eu]).length:Int)=1:=rfl;have r1:=srow_0 (l:=[x]) rfl;have r2:=xrow_0 (l:=[.mk ek em es eo ea eu]) rfl;cases ab with
    |false=>
     refine cOfP (by kernel_rfl) rfl ?_
     rw[g242_eq];simp only[g242,go1,oE,eq_self,Int.reduceLT,Int.reduceLE,h1,l1,l2,r1,h2];exact⟨_,rfl,h0⟩
    |true=>
     refine cOfP (by kernel_rfl) rfl ?_
     rw[g242_eq];simp only[g242,go1,oE,eq_self,Int.reduceLT,Int.reduceLE,h1,l1,l2,r1,h2,h3,h4,r2,h5];cases b4 with
     |false=>exact⟨_,rfl,h0⟩
     |true=>
      refine⟨_,rfl,_,rfl,fun hb=> ?_⟩
      have e:=q4 rfl;subst e;refine⟨by simp,?_⟩
      rw[List.dropLast_concat];unfold FDs FDs;exact⟨q5 hb,trivial⟩
   ·have l1:decide ((a.length:Int)=1)=true:=decT (by omega)
    have l2:decide ((u.length:Int)=1)=false:=decF (by omega)
    refine cOfP (by kernel_rfl) rfl ?_
    rw[g242_eq];simp only[g242,go1,oE,Int.reduceLE,h1,srows_len,rows_len,l1,l2];exact⟨_,rfl,h0⟩
  ·have l1:decide ((a.length:Int)=1)=false:=decF (by omega)
   refine cOfP (by kernel_rfl) rfl ?_
   rw[g242_eq];simp only[g242,go1,oE,Int.reduceLE,h1,srows_len,rows_len,l1];exact⟨_,rfl,h0⟩
theorem x_merge {at_:Nat}{nd:Nd}(hn:nds[at_]? =some nd)(m:Int)(s:BA)(o:Int)(a:List BA)(u:List Ex)(on:List Cd)(hon:on.length<=10000)(ha:a.length<=1000000)(hu: ∀e∈u,∀n,FitC ens nds at_ e (on++[(s,n)])):
  ∃p,cF 243 [pV ens nds, .d (.int .i64 (at_:Int)),kE 12 m s o (srows a) (Ex.rows u), .d (.sl 2 (crows on))]=some p/\BoolQ (fun b=>b=true->FDm ens s u a on) p:=by
 obtain⟨_,h1,row,b,rfl,hrl⟩:=x_Row hp hn s;have h0:BoolQ (fun b=>b=true->FDm ens s u a on) (PRes.val [.bool false]):=⟨false,rfl,fun h=>by cases h⟩
 obtain⟨_,h4,b4,rfl, -⟩:=x_kSame row on (by omega)
 cases b with
 |false=>
  refine cOfP (by kernel_rfl) rfl ?_
  rw[g243_eq];simp only[g243,go1,oE,Nat.reduceAdd,h1];exact⟨_,rfl,h0⟩
 |true=>
  cases b4 with
  |false=>
   refine cOfP (by kernel_rfl) rfl ?_
   rw[g243_eq];simp only[g243,go1,oE,Nat.reduceAdd,h1,h4];exact⟨_,rfl,h0⟩
  |true=>
   refine cOfP (by kernel_rfl) rfl ?_
   rw[g243_eq];simp only[g243,go1,oE,Nat.reduceAdd,h1,h4,srows_len,rows_len];refine ex_bif (fun _=>⟨_,rfl,h0⟩) fun hl=> ?_
   have hl:a.length=u.length:=by simp at hl;omega
   refine for_s a (fun i (_:Unit)=>[.int .i64 (at_:Int), .sl 2 (crows on), .int .i64 (i:Int), .sl 2 (erows ens), .sl 5 (nrows nds), .int .i64 12, .int .i64 m, .str s, .int .i64 o, .sl 1 (srows a), .sl 6 (Ex.rows u)]) (fun i _=> ∀(j:Nat) x e,j < i->a[j]? =some x->u[j]? =some e->ArmFit ens s x e on) () (by omega) rfl (fun i _ x hx hI hil=> ?_) (fun _ hI=> ?_)
   ·have hiu:i < u.length:=by omega
    have he:=List.getElem?_eq_getElem hiu;generalize u[i]=e at he;obtain⟨_,h2,ak,ae,an,ab,rfl, -⟩:=x_Arm hp x;have h3:=x_When on s an hon;obtain⟨_,h5,b5,rfl,q5⟩:=hu e (List.mem_of_getElem? he) an;obtain⟨ek,em,es,eo,ea,eu⟩:=e;have h5:cF 223 [pV ens nds, .d (.int .i64 (at_:Int)),kE ek em es eo (srows ea) (Ex.rows eu), .d (.sl 2 (crows (on++[(s,an)])))]=_:=h5;simp only[go1,srows_len,rows_len,ilt_at hil,inr_at hil,srows_at hx,h2,inr_at hiu,row_of he,h3,h5,wrap_succ hil (by omega)]
    cases ab with
    |false=>exact⟨_,rfl,h0⟩
    |true=>cases b5 with
     |false=>exact⟨_,rfl,h0⟩
     |true=>
      refine⟨_,rfl,(),rfl,fun j y z hj hy hz=> ?_⟩
      rcases Nat.lt_or_ge j i with h|h
      ·exact hI j y z h hy hz
      ·have:j=i:=by omega
       subst this;rw[hx]at hy;rw[he]at hz;cases hy;cases hz;exact⟨_,_,_,h2,q5 rfl⟩
   ·simp only[go1,srows_len,ilt_self];exact⟨_,rfl,true,rfl,fun _=>FDm_of hl fun i x e hx he=>hI i x e (List.getElem?_eq_some_iff.1 hx).1 hx he⟩
theorem x_Fits {at_:Nat}{nd:Nd}(hn:nds[at_]? =some nd): ∀(n:Nat) (e:Ex) (on:List Cd),e.size<=n->e.size<=1000->e.fine->on.length+e.size<=5000->FitC ens nds at_ e on
 |0, .mk k m s o a u,_,h,_,_,_=>by simp only[Ex.size]at h;omega
 |n+1, .mk k m s o a u,on,h,hs,hf,hol=>by
  have hlt:=(List.getElem?_eq_some_iff.1 hn).1;have hsz:Ex.sizes u+1=(Ex.mk k m s o a u).size:=by simp only[Ex.size]
  have hul:=sizes_len u;have hu: ∀e∈u,∀on':List Cd,on'.length<=on.length+1\/on'.length<=13->FitC ens nds at_ e on':=fun e he on' hl=>by
   obtain⟨i,hi⟩:=List.getElem?_of_mem he;have h1:=sizes_mem hi;exact x_Fits hn n e on' (by omega) (by omega) (fines_mem hf.2 e he) (by omega)
  have e0:decide ((nds.length:Int)<=(at_:Int))=false:=decF (by omega)
  have e1:decide ((at_:Int) < 0)=false:=decF (by omega)
  have h0:BoolQ (fun b=>b=true->FD ens (.mk k m s o a u) on) (PRes.val [.bool false]):=⟨false,rfl,fun h=>by cases h⟩
  unfold FitC Ex.v
  by_cases k1:k=1
  ·refine cOfP (by kernel_rfl) rfl ?_
   rw[g223_eq];simp only[g223,go1,oE,Nat.reduceAdd,Int.reduceLE,nrows_len,e0,e1,decT k1];exact⟨_,rfl,true,rfl,fun _=>by unfold FD;exact⟨fun h=>by omega,fun h=>by omega,fun h=>by omega,fun h=>by omega⟩⟩
  by_cases k2:k=2
  ·refine cOfP (by kernel_rfl) rfl ?_
   rw[g223_eq];simp only[g223,go1,oE,Nat.reduceAdd,Int.reduceLE,nrows_len,e0,e1,decF k1,decT k2];exact⟨_,rfl,true,rfl,fun _=>by unfold FD;exact⟨fun h=>by omega,fun h=>by omega,fun h=>by omega,fun h=>by omega⟩⟩
  by_cases k4:k=4
  ·refine cOfP (by kernel_rfl) rfl ?_
   rw[g223_eq];simp only[g223,go1,oE,Nat.reduceAdd,Int.reduceLE,nrows_len,e0,e1,decF k1,decF k2,decT k4];exact⟨_,rfl,true,rfl,fun _=>by unfold FD;exact⟨fun h=>by omega,fun h=>by omega,fun h=>by omega,fun h=>by omega⟩⟩
  by_cases k3:k=3
  ·obtain⟨_,h1,row,b,rfl,hrl⟩:=x_Row hp hn s;obtain⟨_,h2,b2,rfl, -⟩:=x_kSame row on (by omega)
   have fin: ∀b,BoolQ (fun b=>b=true->FD ens (.mk k m s o a u) on) (PRes.val [.bool b]):=fun b=>⟨b,rfl,fun _=>by unfold FD;exact⟨fun h=>by omega,fun h=>by omega,fun h=>by omega,fun h=>by omega⟩⟩
   cases b with
   |false=>
    refine cOfP (by kernel_rfl) rfl ?_
    rw[g223_eq];simp only[g223,go1,oE,Nat.reduceAdd,Int.reduceLE,nrows_len,e0,e1,decF k1,decF k2,decF k4,decT k3,h1];exact⟨_,rfl,fin _⟩
   |true=>
    refine cOfP (by kernel_rfl) rfl ?_
    rw[g223_eq];simp only[g223,go1,oE,Nat.reduceAdd,Int.reduceLE,nrows_len,e0,e1,decF k1,decF k2,decF k4,decT k3,h1,h2];exact⟨_,rfl,fin _⟩
  by_cases k8:k=8
  ·by_cases hl2:u.length=2
   ·obtain⟨c,e,rfl⟩:=len2 hl2;obtain⟨_,h5,b5,rfl,q5⟩:=hu e (by simp) on (by omega)
    obtain⟨ck,cm,cs',co,ca,cu⟩:=c;obtain⟨ek,em,es,eo,ea,eu⟩:=e;have h5:cF 223 [pV ens nds, .d (.int .i64 (at_:Int)),kE ek em es eo (srows ea) (Ex.rows eu), .d (.sl 2 (crows on))]=_:=h5;have l2:((Ex.rows [.mk ck cm cs' co ca cu, .mk ek em es eo ea eu]).length:Int)=2:=rfl;have r1:=xrow_1 (l:=[.mk ck cm cs' co ca cu, .mk ek em es eo ea eu]) rfl;refine cOfP (by kernel_rfl) rfl ?_
    rw[g223_eq];simp only[g223,go1,oE,eq_self,Nat.reduceAdd,Int.reduceLT,Int.reduceLE,nrows_len,e0,e1,decF k1,decF k2,decF k4,decF k3,decT k8,l2,r1,h5];refine⟨_,rfl,_,rfl,fun hb=> ?_⟩
    unfold FD;refine⟨fun h=>by omega,fun h=>by omega,fun _=> ?_,fun h=>by omega⟩
    unfold FDt FDs FDs;exact⟨q5 hb,trivial⟩
   ·have e2:decide ((u.length:Int)=2)=false:=decF (by omega)
    refine cOfP (by kernel_rfl) rfl ?_
    rw[g223_eq];simp only[g223,go1,oE,Nat.reduceAdd,Int.reduceLE,nrows_len,e0,e1,decF k1,decF k2,decF k4,decF k3,decT k8,rows_len,e2];exact⟨_,rfl,h0⟩
  by_cases k11:k=11
  ·subst k11;obtain⟨_,h1,b,rfl,q1⟩:=x_when hp hn m s o a u on (by omega) fun e he on' hl=>hu e he on' (.inr hl)
   refine cOfP (by kernel_rfl) rfl ?_
   rw[g223_eq];simp only[g223,go1,oE,eq_self,Nat.reduceAdd,Int.reduceEq,Int.reduceLE,nrows_len,e0,e1,h1];exact⟨_,rfl,b,rfl,fun hb=>by unfold FD;exact⟨fun _=>q1 hb,fun h=>by omega,fun h=>by omega,fun h=>by omega⟩⟩
  by_cases k12:k=12
  ·subst k12;obtain⟨_,h1,b,rfl,q1⟩:=x_merge hp hn m s o a u on (by omega) hf.1.2.2 fun e he n=>hu e he _ (.inl (by simp))
   refine cOfP (by kernel_rfl) rfl ?_
   rw[g223_eq];simp only[g223,go1,oE,eq_self,Nat.reduceAdd,Int.reduceEq,Int.reduceLE,nrows_len,e0,e1,h1];exact⟨_,rfl,b,rfl,fun hb=>by unfold FD;exact⟨fun h=>by omega,fun _=>q1 hb,fun h=>by omega,fun h=>by omega⟩⟩
  by_cases k17:k=17
  ·refine cOfP (by kernel_rfl) rfl ?_
   rw[g223_eq];simp only[g223,go1,oE,Nat.reduceAdd,Int.reduceLE,nrows_len,e0,e1,decF k1,decF k2,decF k4,decF k3,decF k8,decF k11,decF k12,decT k17];exact⟨_,rfl,h0⟩
  ·refine cOfP (by kernel_rfl) rfl ?_
   rw[g223_eq];simp only[g223,go1,oE,Nat.reduceAdd,Int.reduceLE,nrows_len,e0,e1,decF k1,decF k2,decF k4,decF k3,decF k8,decF k11,decF k12,decF k17];refine for_all 2 u (fun e=>FD ens e on) rfl (fun i e he hil _=> ?_) (fun hF=> ?_)
   ·obtain⟨_,h5,b5,rfl,q5⟩:=hu e (List.mem_of_getElem? he) on (by omega)
    obtain⟨ek,em,es,eo,ea,eu⟩:=e;have h5:cF 223 [pV ens nds, .d (.int .i64 (at_:Int)),kE ek em es eo (srows ea) (Ex.rows eu), .d (.sl 2 (crows on))]=_:=h5;simp only[go1,List.set,rows_len,ilt_at hil,inr_at hil,row_of he,h5,wrap_succ hil (by omega)]
    cases b5 with
    |false=>exact⟨_,rfl,h0⟩
    |true=>exact⟨_,rfl,rfl,q5 rfl⟩
   ·simp only[go1,List.set,rows_len,ilt_self];exact⟨_,rfl,true,rfl,fun _=>by unfold FD;exact⟨fun h=>by omega,fun h=>by omega,fun h=>by omega,fun _=>FDs_of hF⟩⟩
def EqC (ens:List En)(nds:List Nd)(at_:Nat)(ns:List BA)(e:Ex):Prop:= ∀y r,ns=y::r-> ∃(row:List Cd) (b:Bool),cF 91 [pV ens nds, .d (.int .i64 (at_:Int)), .d (.str y)]=some (.val [.sl 2 (crows row), .bool b])/\row.length<=13/\FD ens e row
theorem x_kEq {at_:Nat}{nd:Nd}(hn:nds[at_]? =some nd){i:Nat}{ns:List BA}{k m:Int}{s:BA}{o:Int}{a:List BA}{u:List Ex}(hx:nd.eqs[i]? =some ⟨ns, .mk k m s o a u⟩)(hne:ns≠[]):
  ∃p,cF 202 [pV ens nds, .d (.int .i64 (at_:Int)), .agg [.d (.sl 1 (srows ns)), .d (.int .i64 k), .d (.int .i64 m), .d (.str s), .d (.int .i64 o), .d (.sl 1 (srows a)), .d (.sl 6 (Ex.rows u))]]=some p/\BoolQ (fun b=>b=true->EqC ens nds at_ ns (.mk k m s o a u)) p:=by
 have hnm:=List.mem_of_getElem? hn;have hxm:=List.mem_of_getElem? hx;have hs:(Ex.mk k m s o a u).size<=1000:=hp.sz nd hnm _ hxm;have hf:(Ex.mk k m s o a u).fine:=hp.fn nd hnm _ hxm;have hnl:ns.length<=1000:=hp.ns nd hnm _ hxm;obtain⟨y,r,rfl⟩:=List.exists_cons_of_ne_nil hne;obtain⟨_,h1,row,b,rfl,hrl⟩:=x_Row hp hn y;obtain⟨_,h5,b5,rfl,q5⟩:=x_Fits hp hn 1000 (.mk k m s o a u) row hs hs hf (by omega)
 have h5:cF 223 [pV ens nds, .d (.int .i64 (at_:Int)),kE k m s o (srows a) (Ex.rows u), .d (.sl 2 (crows row))]=_:=h5;have l1:decide ((0:Int) < ((y::r).length:Int))=true:=decT (by simp)
 have r1:=srow_0 (l:=y::r) rfl;refine cOfP (by kernel_rfl) rfl ?_
 rw[g202_eq];simp only[g202,go1,oE,Nat.reduceAdd,Int.reduceLE,srows_len,l1,r1,h1];refine for_at 2 (y::r) rfl (fun i z hz hil=> ?_) ?_
 ·obtain⟨_,h2,row2,b2,rfl,hrl2⟩:=x_Row hp hn z;obtain⟨_,h3,b3,rfl, -⟩:=x_kSame row2 row (by omega)
  simp only[go1,List.set,srows_len,ilt_at hil,inr_at hil,srows_at hz,h2,h3,wrap_succ hil (by omega)]
  exact ex_bif (fun _=>⟨_,rfl,false,rfl,fun h=>by cases h⟩) fun _=>⟨_,rfl,rfl⟩
 ·simp only[go1,List.set,srows_len,ilt_self,h5];refine⟨_,rfl,b5,rfl,fun hb y' r' e=> ?_⟩
  cases e;exact⟨row,b,h1,hrl,q5 hb⟩
end
def brow (b:Bool):List D:=[.bool b]
def brows (l:List Bool):LL:=l.map brow
theorem brows_len (l:List Bool):(brows l).length=l.length:=by simp[brows]
theorem brow_at {l:List Bool}{i:Nat}{x:Bool}(h:l[i]? =some x):sy.row (brows l) (i:Int)= [.bool x]:=by
 rw[sy_row,Int.toNat_natCast,List.getD_eq_getElem?_getD];unfold brows;rw[List.getElem?_map,h];rfl
theorem brows_put {l:List Bool}{i:Nat}(h:i < l.length):sy.rput (brows l) i 0 [.bool true]=brows (l.set i true):=by
 have e:sy.rput (brows l) i 0 [.bool true]=(brows l).set i (((brows l).getD i []).take 0++[.bool true]++((brows l).getD i []).drop (0+1)):=rfl;have e2:(brows l).getD i []= [.bool l[i]]:=by
  rw[List.getD_eq_getElem?_getD];unfold brows;rw[List.getElem?_map,List.getElem?_eq_getElem h];rfl
 rw[e,e2];unfold brows;rw[List.map_set];rfl
theorem irow_at {l:List Int}{i:Nat}{x:Int}(h:l[i]? =some x):sy.row (irows l) (i:Int)= [.int .i64 x]:=by
 rw[sy_row,Int.toNat_natCast,List.getD_eq_getElem?_getD];unfold irows;rw[List.getElem?_map,h];rfl
section
variable {ens : List En} {nds : List Nd} (hp : PB ens nds)
include hp
structure CkP (ens:List En) (nds:List Nd):Prop where
 ty:TyP ens nds
 eq: ∀(i:Nat) n,nds[i]? =some n-> ∀(j:Nat) x,n.eqs[j]? =some x->EqC ens nds i x.ns x.e
structure ChkH (ens:List En) (nds:List Nd):Prop where
 e: ∀x∈ens,EnOK x
 n: ∀n∈nds,NdOK n
 d:chkS ens nds=0-> ∀n∈nds,∀d∈allD n,tyR ens (d.k,d.e,d.c)
 a:chkS ens nds=0-> ∀n∈nds,∀x∈n.eqs,allB x.e=true
 ne:chkS ens nds=0-> ∀n∈nds,∀x∈n.eqs,x.ns≠[]
theorem x_kCheck (hc0:ChkH ens nds): ∃p,cF 173 [pV ens nds]=some p/\FaultQ (CkP ens nds) p:=by
 obtain⟨_,h1,fa,fb,fc,rfl,hq⟩:=x_tCheck hp hc0.e hc0.n hc0.d hc0.a;refine cOfP (by kernel_rfl) rfl ?_
 rw[g173_eq];simp only[g173,go1,oE,oN,Nat.reduceAdd,h1];refine ex_bif (fun hc=>⟨_,rfl,fa,fb,fc,rfl,fun ha hb hc'=> ?_⟩) fun hc=> ?_
 ·subst ha;subst hb;subst hc';cases hc
 have hz:fa=0/\fb=0/\fc=0:=by simpa using hc
 have hT:=hq hz.1 hz.2.1 hz.2.2;refine for_s nds (fun i (_:Unit)=>[.int .i64 (i:Int), .sl 2 (erows ens), .sl 5 (nrows nds), .int .i64 0, .int .i64 0, .int .i64 0]) (fun i _=> ∀(i':Nat) n,i' < i->nds[i']? =some n-> ∀(j:Nat) x,n.eqs[j]? =some x->EqC ens nds i' x.ns x.e) () (by omega) rfl (fun i _ n hn hI hil=> ?_) (fun _ hI=> ?_)
 ·have hnl:=hp.nl;have hnm:=List.mem_of_getElem? hn;have hal:=hp.al n hnm;have hA:=q_all n hal;simp only[go1,nrow,nrows_len,ilt_at hil,inr_at hil,nrow_at hn,hA];refine for_at 2 (allD n) rfl (fun j d hd hjl=> ?_) ?_
  ·obtain⟨_,h2,row,b,rfl, -⟩:=x_Row hp hn d.n;have hF:=x_Fault (i:Int) (-1) 8;have e0:sy.cell (drow d) 0=some (.str d.n):=rfl;simp only[go1,List.set,drows_len,ilt_at hjl,inr_at hjl,drow_at hd,e0,h2,hF,wrap_succ hjl (by omega)]
   exact ex_bif (fun _=>⟨_,rfl,_,_,_,rfl,fun _ h=>by cases h⟩) fun _=>⟨_,rfl,rfl⟩
  ·simp only[go1,List.set,drows_len,ilt_self];have hql:=hp.ql n hnm;have e1:sy.cell (sy.skip 4 (nrow n)) 0=some (.sl 7 (qrows n.eqs)):=rfl;refine for_s n.eqs (fun j (_:Unit)=>[.int .i64 (i:Int), .int .i64 (j:Int), .sl 2 (erows ens), .sl 5 (nrows nds), .int .i64 0, .int .i64 0, .int .i64 0]) (fun j _=> ∀(j':Nat) x,j' < j->n.eqs[j']? =some x->EqC ens nds i x.ns x.e) () (by omega) rfl (fun j _ x hx hJ hjl=> ?_) (fun _ hJ=> ?_)
   ·have hxm:=List.mem_of_getElem? hx;have hne:=hc0.ne hT.sc.ck n hnm x hxm;obtain⟨ns,k,m,s,o,a,u⟩:=x;obtain⟨_,h2,b,rfl,hbq⟩:=x_kEq hp hn hx hne;have hF:=x_Fault (i:Int) (j:Int) 8;simp only[go1,nrows_len,inr_at hil,nrow_at hn,e1,qrows_len,ilt_at hjl,inr_at hjl,qrow_k hx,h2,hF,wrap_succ hjl (by omega)]
    cases b with
    |false=>exact⟨_,rfl,_,_,_,rfl,fun _ _ h=>by cases h⟩
    |true=>
     refine⟨_,rfl,(),rfl,fun j' x' hj' hx'=> ?_⟩
     rcases Nat.lt_or_ge j' j with h|h
     ·exact hJ j' x' h hx'
     ·have:j'=j:=by omega
      subst this;rw[hx]at hx';cases hx';exact hbq rfl
   ·simp only[go1,nrows_len,inr_at hil,nrow_at hn,e1,qrows_len,ilt_self,wrap_succ hil (by omega)]
    refine⟨_,rfl,(),rfl,fun i' n' hi' hn' j x hx=> ?_⟩
    rcases Nat.lt_or_ge i' i with h|h
    ·exact hI i' n' h hn' j x hx
    ·have:i'=i:=by omega
     subst this;rw[hn]at hn';cases hn';exact hJ j x (List.getElem?_eq_some_iff.1 hx).1 hx
 ·simp only[go1,nrows_len,ilt_self];exact⟨_,rfl,_,_,_,rfl,fun _ _ _=>⟨hT,fun i n hn=>hI i n (List.getElem?_eq_some_iff.1 hn).1 hn⟩⟩
end
def ReadC (e:Ex):Prop:= ∃l:List BA,cF 244 [e.v]=some (.own 9 1 (srows l))/\l.length<=e.size
theorem take_sizes {u:List Ex}{i:Nat}{e:Ex}(h:u[i]? =some e):Ex.sizes (u.take (i+1))=Ex.sizes (u.take i)+e.size:=by
 rw[List.take_add_one,h,Option.toList_some,sizes_snoc]
theorem x_Reads: ∀(n:Nat) (e:Ex),e.size<=n->e.size<=1000->ReadC e
 |0, .mk k m s o a u,h,_=>by simp only[Ex.size]at h;omega
 |n+1, .mk k m s o a u,h,hs=>by
  have hsz:Ex.sizes u+1=(Ex.mk k m s o a u).size:=by simp only[Ex.size]
  have hul:=sizes_len u;have hu: ∀e∈u,ReadC e:=fun e he=>by
   obtain⟨i,hi⟩:=List.getElem?_of_mem he;have h1:=sizes_mem hi;exact x_Reads n e (by omega) (by omega)
  suffices h: ∃p,cF 244 [Ex.v (.mk k m s o a u)]=some p/\ ∃l:List BA,p= .own 9 1 (srows l)/\l.length<=(Ex.mk k m s o a u).size by
   obtain⟨_,h1,l,rfl,h2⟩:=h;exact⟨l,h1,h2⟩
  unfold Ex.v;have f0:=fitsR [] [[.str s]] 16 (by simp)
  simp only[go1,Nat.reduceAdd]at f0;cases hk:(decide (k=3) || decide (k=11) || decide (k=12))with
  |true=>
   refine cOfP (by kernel_rfl) rfl ?_
   rw[g244_eq];simp only[g244,go1,oE,Nat.reduceAdd,hk,f0];refine for_s u (fun i (l:List BA)=>[.int .i64 (i:Int), .int .i64 k, .int .i64 m, .str s, .int .i64 o, .sl 1 (srows a), .sl 6 (Ex.rows u), .sl 1 (srows l)]) (fun i l=>l.length<=1+Ex.sizes (u.take i)) [s] (by simp[Ex.sizes]) rfl (fun i l e he hI hil=> ?_) (fun l hI=> ?_)
   ·have ht:=take_sizes he;have hm:=sizes_mem he;have htl:Ex.sizes (u.take i)<=Ex.sizes u:=by
     have:=sizes_app (u.take i) (u.drop i);rw[List.take_append_drop]at this;omega
    obtain⟨l2,h2,hl2⟩:=hu e (List.mem_of_getElem? he);obtain⟨ek,em,es,eo,ea,eu⟩:=e;have h2:cF 244 [kE ek em es eo (srows ea) (Ex.rows eu)]=_:=h2;have hf:=fitsR (srows l) (srows l2) 16 (by rw[srows_len,srows_len];omega)
    simp only[go1,Nat.reduceAdd]at hf;simp only[go1,rows_len,ilt_at hil,inr_at hil,row_of he,h2,hf,wrap_succ hil (by omega)]
    refine ex_bif (fun _=>⟨_,rfl,l,rfl,by omega⟩) fun _=>⟨_,rfl,l++l2,by rw[srows_app];rfl,by rw[List.length_append];omega⟩
   ·simp only[go1,rows_len,ilt_self];rw[List.take_length]at hI;exact⟨_,rfl,l,rfl,by omega⟩
  |false=>
   refine cOfP (by kernel_rfl) rfl ?_
   rw[g244_eq];simp only[g244,go1,oE,Nat.reduceAdd,hk];refine for_s u (fun i (l:List BA)=>[.int .i64 (i:Int), .int .i64 k, .int .i64 m, .str s, .int .i64 o, .sl 1 (srows a), .sl 6 (Ex.rows u), .sl 1 (srows l)]) (fun i l=>l.length<=1+Ex.sizes (u.take i)) [] (by simp[Ex.sizes]) rfl (fun i l e he hI hil=> ?_) (fun l hI=> ?_)
   ·have ht:=take_sizes he;have hm:=sizes_mem he;have htl:Ex.sizes (u.take i)<=Ex.sizes u:=by
     have:=sizes_app (u.take i) (u.drop i);rw[List.take_append_drop]at this;omega
    obtain⟨l2,h2,hl2⟩:=hu e (List.mem_of_getElem? he);obtain⟨ek,em,es,eo,ea,eu⟩:=e;have h2:cF 244 [kE ek em es eo (srows ea) (Ex.rows eu)]=_:=h2;have hf:=fitsR (srows l) (srows l2) 16 (by rw[srows_len,srows_len];omega)
    simp only[go1,Nat.reduceAdd]at hf;simp only[go1,rows_len,ilt_at hil,inr_at hil,row_of he,h2,hf,wrap_succ hil (by omega)]
    refine ex_bif (fun _=>⟨_,rfl,l,rfl,by omega⟩) fun _=>⟨_,rfl,l++l2,by rw[srows_app];rfl,by rw[List.length_append];omega⟩
   ·simp only[go1,rows_len,ilt_self];rw[List.take_length]at hI;exact⟨_,rfl,l,rfl,by omega⟩
section
variable {n : Nd} (hal : (allD n).length <= 1000000) (hql : n.eqs.length <= 1000) (hns : ∀ x ∈ n.eqs, x.ns.length <= 1000) (hsz : ∀ x ∈ n.eqs, x.e.size <= 1000)
include hal hql hns hsz
theorem x_hangs {i:Nat}{x:Eqn}(hx:n.eqs[i]? =some x): ∃p,cF 224 [nV n, .d (.int .i64 (i:Int))]=some p/\ ∃l:List BA,p= .own 9 1 (srows l)/\l.length<=2000:=by
 have hil:=(List.getElem?_eq_some_iff.1 hx).1;have hxm:=List.mem_of_getElem? hx;have hnl:=hns x hxm;have hs:=hsz x hxm;obtain⟨ns,k,m,s,o,a,u⟩:=x;obtain⟨l,h1,hl⟩:=x_Reads 1000 (.mk k m s o a u) hs hs;have h1:cF 244 [kE k m s o (srows a) (Ex.rows u)]=_:=h1;simp only at hs hnl;cases ns with
 |nil=>
  have l0:((srows []).length:Int)=0:=rfl;refine cOfP (by kernel_rfl) rfl ?_
  rw[g224_eq];simp only[g224,go1,oE,eq_self,Nat.reduceAdd,Int.reduceLT,Int.reduceLE,qrows_len,inr_at hil,qrow_k hx,h1,l0];exact⟨_,rfl,l,rfl,by omega⟩
 |cons y r=>
  have l0:decide (((y::r).length:Int)=0)=false:=decF (by simp only[List.length_cons];omega)
  have l1:decide ((0:Int) < ((y::r).length:Int))=true:=decT (by simp)
  have r1:=srow_0 (l:=y::r) rfl;obtain⟨_,h2,c,b,rfl,hc⟩:=x_Clock n y hal;refine cOfP (by kernel_rfl) rfl ?_
  rw[g224_eq];simp only[g224,go1,oE,Nat.reduceAdd,Int.reduceLE,qrows_len,inr_at hil,qrow_k hx,h1,srows_len,l0,l1,r1,h2];refine for_s c (fun i (l:List BA)=>[.sl 6 (drows c), .int .i64 (i:Int), .sl 1 (srows l)]) (fun i l=>l.length<=1000+i) l (by omega) rfl (fun i l d hd hI hil=> ?_) (fun l hI=> ?_)
  ·have e4:sy.cell (sy.skip 4 (drow d)) 0=some (.str d.o):=rfl;have hf:=fitsR (srows l) [[.str d.o]] 16 (by rw[srows_len];simp only[List.length_cons,List.length_nil];omega)
   simp only[go1,Nat.reduceAdd]at hf;simp only[go1,drows_len,ilt_at hil,inr_at hil,drow_at hd,e4,hf,wrap_succ hil (by omega)]
   exact⟨_,rfl,l++[d.o],by rw[srows_snoc];rfl,by simp;omega⟩
  ·simp only[go1,drows_len,ilt_self];exact⟨_,rfl,l,rfl,by omega⟩
theorem x_waits (pl:List Bool)(hpl:pl.length=n.eqs.length)(s:BA): ∃p,cF 225 [nV n, .d (.sl 1 (brows pl)), .d (.str s)]=some p/\BoolQ (fun _=>True) p:=by
 refine cOfP (by kernel_rfl) rfl ?_
 rw[g225_eq];simp only[g225,go1,oN,Nat.reduceAdd];refine for_s n.eqs (fun i (_:Unit)=>[.sl 1 (brows pl), .str s, .int .i64 (i:Int), .str n.n, .sl 6 (drows n.ins), .sl 6 (drows n.outs), .sl 6 (drows n.vars), .sl 7 (qrows n.eqs)]) (fun _ _=>True) () trivial rfl (fun i _ x hx _ hil=> ?_) (fun _ _=> ?_)
 ·have hnl:=hns x (List.mem_of_getElem? hx);obtain⟨ns,k,m,s',o,a,u⟩:=x;have hip:i < pl.length:=by omega
  simp only at hnl;simp only[go1,qrows_len,ilt_at hil];refine for_s ns (fun j (_:Unit)=>[.sl 1 (brows pl), .str s, .int .i64 (i:Int), .int .i64 (j:Int), .str n.n, .sl 6 (drows n.ins), .sl 6 (drows n.outs), .sl 6 (drows n.vars), .sl 7 (qrows n.eqs)]) (fun _ _=>True) () trivial rfl (fun j _ y hy _ hjl=> ?_) (fun _ _=> ?_)
  ·simp only[go1,qrows_len,inr_at hil,qrow_k hx,srows_len,ilt_at hjl,inr_at hjl,srows_at hy,brows_len,inr_at hip,brow_at (List.getElem?_eq_getElem hip),seq_tb,wrap_succ hjl (by omega)]
   exact ex_bif (fun _=>⟨_,rfl,_,rfl,trivial⟩) fun _=>⟨_,rfl,(),rfl⟩
  ·simp only[go1,qrows_len,inr_at hil,qrow_k hx,srows_len,ilt_self,wrap_succ hil (by omega)]
   exact⟨_,rfl,(),rfl⟩
 ·simp only[go1,qrows_len,ilt_self];exact⟨_,rfl,_,rfl,trivial⟩
theorem x_ready (pl:List Bool)(hpl:pl.length=n.eqs.length){i:Nat}(hi:i < n.eqs.length): ∃p,cF 203 [nV n, .d (.sl 1 (brows pl)), .d (.int .i64 (i:Int))]=some p/\BoolQ (fun _=>True) p:=by
 obtain⟨_,h1,l,rfl,hl⟩:=x_hangs hal hql hns hsz (List.getElem?_eq_getElem hi);have hip:i < pl.length:=by omega
 refine cOfP (by kernel_rfl) rfl ?_
 rw[g203_eq];simp only[g203,go1,oN,Nat.reduceAdd,h1];refine for_at 3 l rfl (fun j y hy hjl=> ?_) ?_
 ·obtain⟨_,h2,b,rfl, -⟩:=x_waits hal hql hns hsz pl hpl y;simp only[go1,List.set,srows_len,ilt_at hjl,inr_at hjl,srows_at hy,h2,wrap_succ hjl (by omega)]
  exact ex_bif (fun _=>⟨_,rfl,_,rfl,trivial⟩) fun _=>⟨_,rfl,rfl⟩
 ·simp only[go1,List.set,srows_len,ilt_self,brows_len,inr_at hip,brow_at (List.getElem?_eq_getElem hip)];exact⟨_,rfl,_,rfl,trivial⟩
theorem x_zOrder: ∃p,cF 174 [nV n]=some p/\ ∃(l:List Int) (b:Bool),p= .val [.sl 1 (irows l), .bool b]/\l.length<=1000:=by
 refine cOfP (by kernel_rfl) rfl ?_
 rw[g174_eq];simp only[g174,go1,oN,eq_self,Nat.reduceAdd,qrows_len];refine ex_bif (fun _=> ?_) fun hk=> ?_
 ·refine while_s (fun x:List Bool × List Int=>[.str n.n, .sl 6 (drows n.ins), .sl 6 (drows n.outs), .sl 6 (drows n.vars), .sl 7 (qrows n.eqs), .sl 1 (brows x.1), .sl 1 (irows x.2)]) (fun x=>x.1.length=n.eqs.length/\x.2.length<=n.eqs.length) (fun x=>n.eqs.length - x.2.length) (List.replicate n.eqs.length false,[]) (by simp) (by simp[brows,brow,irows]) (fun x hI=> ?_)
  obtain⟨pl,out⟩:=x;obtain⟨I1,I2⟩:=hI;simp only at I1 I2
  by_cases hlt:out.length < n.eqs.length
  ·have hf:=fitsR (irows out) [[.int .i64 0]] 8 (by rw[irows_len];simp only[List.length_cons,List.length_nil];omega)
   have hw:IntKind.i64.wrap ((n.eqs.length:Int) - 1)=(n.eqs.length:Int) - 1:=wrap_id (by omega) (by omega)
   simp only[go1,Nat.reduceAdd]at hf;simp only[go1,qrows_len,irows_len,ilt_at hlt,hw];refine while_s (fun y:Int × Int=>[.int .i64 y.1, .int .i64 y.2, .str n.n, .sl 6 (drows n.ins), .sl 6 (drows n.outs), .sl 6 (drows n.vars), .sl 7 (qrows n.eqs), .sl 1 (brows pl), .sl 1 (irows out)]) (fun y=> -1<=y.1/\y.1 < n.eqs.length/\ -1<=y.2/\y.2 < n.eqs.length) (fun y=>(y.2+1).toNat) (-1,(n.eqs.length:Int) - 1) (by simp only;omega) rfl (fun y hJ=> ?_)
   obtain⟨at_,i⟩:=y;obtain⟨J1,J2,J3,J4⟩:=hJ;simp only at J1 J2 J3 J4
   by_cases h0:0<=i
   ·obtain⟨j,rfl⟩:=Int.eq_ofNat_of_zero_le h0;obtain⟨_,h2,b,rfl, -⟩:=x_ready hal hql hns hsz pl I1 (show j < n.eqs.length by omega)
    have hw2:IntKind.i64.wrap ((j:Int) - 1)=(j:Int) - 1:=wrap_id (by omega) (by omega)
    simp only[go1,decT h0,h2,hw2];cases b with
    |true=>exact⟨_,rfl,((j:Int),(j:Int) - 1),rfl,⟨by omega,by simp only;omega,by simp only;omega,by simp only;omega⟩,by simp only;omega⟩
    |false=>exact⟨_,rfl,(at_,(j:Int) - 1),rfl,⟨J1,J2,by simp only;omega,by simp only;omega⟩,by simp only;omega⟩
   ·simp only[go1,decF h0];refine ex_bif (fun _=>⟨_,rfl,out,false,rfl,by omega⟩) fun ha=> ?_
    have ha:=of_decide_eq_false ha;obtain⟨j,rfl⟩:=Int.eq_ofNat_of_zero_le (show 0<=at_ by omega)
    have hjl:j < pl.length:=by omega
    have hf:=fitsR (irows out) [[.int .i64 (j:Int)]] 8 (by rw[irows_len];simp only[List.length_cons,List.length_nil];omega)
    simp only[go1,Nat.reduceAdd]at hf;simp only[go1,brows_len,inr_at hjl,Int.toNat_natCast,decT hjl,hf,brows_put hjl];exact⟨_,rfl,(pl.set j true,out++[(j:Int)]),by simp[irows,irow],⟨by simp[I1],by simp;omega⟩,by simp;omega⟩
  ·have e:decide ((out.length:Int) < (n.eqs.length:Int))=false:=decF (by omega)
   simp only[go1,qrows_len,irows_len,e];exact⟨_,rfl,out,true,rfl,by omega⟩
 ·exfalso;have:decide ((0:Int)<=(n.eqs.length:Int))=true:=decT (by omega)
  simp at hk;omega
end
section
variable {ens : List En} {nds : List Nd} (hp : PB ens nds) (hc0 : ChkH ens nds)
include hp hc0
theorem x_zCheck: ∃p,cF 137 [pV ens nds]=some p/\FaultQ (CkP ens nds) p:=by
 obtain⟨_,h1,fa,fb,fc,rfl,hq⟩:=x_kCheck hp hc0;refine cOfP (by kernel_rfl) rfl ?_
 rw[g137_eq];simp only[g137,go1,oN,h1];refine ex_bif (fun hc=>⟨_,rfl,fa,fb,fc,rfl,fun ha hb hc'=> ?_⟩) fun hc=> ?_
 ·subst ha;subst hb;subst hc';cases hc
 have hz:fa=0/\fb=0/\fc=0:=by simpa using hc
 have hT:=hq hz.1 hz.2.1 hz.2.2;refine for_s nds (fun i (_:Unit)=>[.int .i64 (i:Int), .sl 2 (erows ens), .sl 5 (nrows nds), .int .i64 0, .int .i64 0, .int .i64 0]) (fun _ _=>True) () trivial rfl (fun i _ n hn hI hil=> ?_) (fun _ hI=> ?_)
 ·have hnl:=hp.nl;have hnm:=List.mem_of_getElem? hn;obtain⟨_,h2,l,b,rfl,hll⟩:=x_zOrder (hp.al n hnm) (hp.ql n hnm) (hp.ns n hnm) (hp.sz n hnm);have hql:=hp.ql n hnm;have e1:sy.cell (sy.skip 4 (nrow n)) 0=some (.sl 7 (qrows n.eqs)):=rfl;have e2:sy.row (nrows nds) (i:Int)= [.str n.n, .sl 6 (drows n.ins), .sl 6 (drows n.outs), .sl 6 (drows n.vars), .sl 7 (qrows n.eqs)]:=nrow_at hn;simp only[go1,nrows_len,ilt_at hil,inr_at hil,e2,h2,wrap_succ hil (by omega)]
  refine ex_bif (fun _=>⟨_,rfl,(),rfl⟩) fun _=> ?_
  refine for_s n.eqs (fun j (_:Unit)=>[.int .i64 (i:Int), .sl 1 (irows l), .int .i64 (j:Int), .sl 2 (erows ens), .sl 5 (nrows nds), .int .i64 0, .int .i64 0, .int .i64 0]) (fun _ _=>True) () trivial rfl (fun j _ x hx _ hjl=> ?_) (fun _ _=> ?_)
  ·simp only[go1,nrows_len,inr_at hil,nrow_at hn,e1,qrows_len,ilt_at hjl];refine for_s l (fun k (b:Bool)=>[.int .i64 (i:Int), .sl 1 (irows l), .int .i64 (j:Int), .bool b, .int .i64 (k:Int), .sl 2 (erows ens), .sl 5 (nrows nds), .int .i64 0, .int .i64 0, .int .i64 0]) (fun _ _=>True) false trivial rfl (fun k b y hy _ hkl=> ?_) (fun b _=> ?_)
   ·simp only[go1,irows_len,ilt_at hkl,inr_at hkl,irow_at hy,wrap_succ hkl (by omega)]
    exact⟨_,rfl,_,rfl⟩
   ·have hF:=x_Fault (i:Int) (j:Int) 9;simp only[go1,irows_len,ilt_self,hF,wrap_succ hjl (by omega)]
    exact ex_bif (fun _=>⟨_,rfl,_,_,_,rfl,fun _ _ h=>by cases h⟩) fun _=>⟨_,rfl,(),rfl⟩
  ·simp only[go1,nrows_len,inr_at hil,nrow_at hn,e1,qrows_len,ilt_self,wrap_succ hil (by omega)]
   exact⟨_,rfl,(),rfl⟩
 ·simp only[go1,nrows_len,ilt_self];exact⟨_,rfl,_,_,_,rfl,fun _ _ _=>hT⟩
end
def LateC (e:Ex):Prop:= ∃a b:Bool,cF 138 [e.v]=some (.val [.bool a, .bool b])
theorem x_late (u:List Ex)(hul:u.length<=1000)(hu: ∀e∈u,LateC e): ∃p,cF 175 [.d (.sl 6 (Ex.rows u))]=some p/\ ∃a b:Bool,p= .val [.bool a, .bool b]:=by
 refine cOfP (by kernel_rfl) rfl ?_
 rw[g175_eq];simp only[g175,go1,oE];refine for_s u (fun i (x:Bool × Bool)=>[.sl 6 (Ex.rows u), .bool x.1, .bool x.2, .int .i64 (i:Int)]) (fun _ _=>True) (false,true) trivial rfl (fun i x e he _ hil=> ?_) (fun x _=> ?_)
 ·obtain⟨a,b,h1⟩:=hu e (List.mem_of_getElem? he);obtain⟨ek,em,es,eo,ea,eu⟩:=e;have h1:cF 138 [kE ek em es eo (srows ea) (Ex.rows eu)]=_:=h1;simp only[go1,rows_len,ilt_at hil,inr_at hil,row_of he,h1,wrap_succ hil (by omega)]
  exact⟨_,rfl,(_,_),rfl⟩
 ·simp only[go1,rows_len,ilt_self];exact⟨_,rfl,_,_,rfl⟩
theorem x_Late: ∀(n:Nat) (e:Ex),e.size<=n->e.size<=1000->LateC e
 |0, .mk k m s o a u,h,_=>by simp only[Ex.size]at h;omega
 |n+1, .mk k m s o a u,h,hs=>by
  have hsz:Ex.sizes u+1=(Ex.mk k m s o a u).size:=by simp only[Ex.size]
  have hul:=sizes_len u;have hu: ∀e∈u,LateC e:=fun e he=>by
   obtain⟨i,hi⟩:=List.getElem?_of_mem he;have h1:=sizes_mem hi;exact x_Late n e (by omega) (by omega)
  obtain⟨_,h1,a1,b1,rfl⟩:=x_late u (by omega) hu
  suffices h: ∃p,cF 138 [Ex.v (.mk k m s o a u)]=some p/\ ∃a b:Bool,p= .val [.bool a, .bool b] by
   obtain⟨_,h1,a,b,rfl⟩:=h;exact⟨a,b,h1⟩
  unfold Ex.v;cases u with
  |nil=>
   have l0:((Ex.rows []).length:Int)=0:=rfl;refine cOfP (by kernel_rfl) rfl ?_
   rw[g138_eq];simp only[g138,go1,oE,Int.reduceLT,Int.reduceLE,h1,l0]
   repeat' first|exact⟨_,rfl,_,_,rfl⟩|refine ex_bif (fun _=> ?_) (fun _=> ?_)
  |cons e r=>
   obtain⟨a2,b2,h2⟩:=hu e List.mem_cons_self;obtain⟨ek,em,es,eo,ea,eu⟩:=e;have h2:cF 138 [kE ek em es eo (srows ea) (Ex.rows eu)]=_:=h2;have l1:decide ((0:Int) < ((Ex.mk ek em es eo ea eu::r).length:Int))=true:=decT (by simp)
   have r1:=xrow_0 (l:=Ex.mk ek em es eo ea eu::r) rfl;refine cOfP (by kernel_rfl) rfl ?_
   rw[g138_eq];simp only[g138,go1,oE,Int.reduceLE,h1,rows_len,l1,r1,h2]
   repeat' first|exact⟨_,rfl,_,_,rfl⟩|refine ex_bif (fun _=> ?_) (fun _=> ?_)
section
variable {ens : List En} {nds : List Nd} (hp : PB ens nds) (hc0 : ChkH ens nds)
include hp hc0
theorem x_lCheck: ∃p,cF 89 [pV ens nds]=some p/\FaultQ (CkP ens nds) p:=by
 obtain⟨_,h1,fa,fb,fc,rfl,hq⟩:=x_zCheck hp hc0;refine cOfP (by kernel_rfl) rfl ?_
 rw[g89_eq];simp only[g89,go1,oE,h1];refine ex_bif (fun hc=>⟨_,rfl,fa,fb,fc,rfl,fun ha hb hc'=> ?_⟩) fun hc=> ?_
 ·subst ha;subst hb;subst hc';cases hc
 have hz:fa=0/\fb=0/\fc=0:=by simpa using hc
 have hT:=hq hz.1 hz.2.1 hz.2.2;refine for_s nds (fun i (_:Unit)=>[.int .i64 (i:Int), .sl 2 (erows ens), .sl 5 (nrows nds), .int .i64 0, .int .i64 0, .int .i64 0]) (fun _ _=>True) () trivial rfl (fun i _ n hn hI hil=> ?_) (fun _ hI=> ?_)
 ·have hnl:=hp.nl;have hnm:=List.mem_of_getElem? hn;have hql:=hp.ql n hnm;have e1:sy.cell (sy.skip 4 (nrow n)) 0=some (.sl 7 (qrows n.eqs)):=rfl;simp only[go1,nrows_len,ilt_at hil];refine for_s n.eqs (fun j (_:Unit)=>[.int .i64 (i:Int), .int .i64 (j:Int), .sl 2 (erows ens), .sl 5 (nrows nds), .int .i64 0, .int .i64 0, .int .i64 0]) (fun _ _=>True) () trivial rfl (fun j _ x hx _ hjl=> ?_) (fun _ _=> ?_)
  ·have hs:=hp.sz n hnm x (List.mem_of_getElem? hx);obtain⟨ns,k,m,s,o,a,u⟩:=x;obtain⟨la,lb,h2⟩:=x_Late 1000 (.mk k m s o a u) hs hs;have h2:cF 138 [kE k m s o (srows a) (Ex.rows u)]=_:=h2;have hF:=x_Fault (i:Int) (j:Int) 10;have e3: ∀i,sy.cell (sy.skip 1 [D.sl 1 (srows ns), .int .i64 k, .int .i64 m, .str s, .int .i64 o, .sl 1 (srows a), .sl 6 (Ex.rows u)]) i=sy.cell [D.int .i64 k, .int .i64 m, .str s, .int .i64 o, .sl 1 (srows a), .sl 6 (Ex.rows u)] i:=fun _=>rfl
   simp only[go1,nrows_len,inr_at hil,nrow_at hn,e1,qrows_len,ilt_at hjl,inr_at hjl,qrow_k hx,e3,h2,hF,wrap_succ hjl (by omega)]
   exact ex_bif (fun _=>⟨_,rfl,_,_,_,rfl,fun _ _ h=>by cases h⟩) fun _=>⟨_,rfl,(),rfl⟩
  ·simp only[go1,nrows_len,inr_at hil,nrow_at hn,e1,qrows_len,ilt_self,wrap_succ hil (by omega)]
   exact⟨_,rfl,(),rfl⟩
 ·simp only[go1,nrows_len,ilt_self];exact⟨_,rfl,_,_,_,rfl,fun _ _ _=>hT⟩
end
end Go.Vm
end
section
set_option maxRecDepth 1000000
set_option maxHeartbeats 0
namespace Go.Vm
open Go.Proofs
noncomputable section
def b144 (A:Sy)(E:Env)(en_ nd_:LL)(at_:Int)(fs_:BA)(fr_:Int)(nm_:BA)(in_ ou_ va_ eq_:LL)(qk_:Int)(qn_:LL)(qo_:Int)(qa_ qi_:LL)(qm_:Int)(qr_:Bool)(qv_:BA)(qe_:Int)(qc_ ns_:LL)(tk_ te_ tl_:Int)(on_:LL):Option PRes:=cutO (bif (A.ieq (A.rlen ns_) 0)then bif (A.sfit fs_ (bs [46]))then (E.call 183 [(.d (.int .i64 (A.wrap .i64 (A.add fr_ 1))))]).bind fun p1=>(opS (A.cell p1.leaves 0)).bind fun s3=>bif (A.sfit (A.sapp fs_ (bs [46])) s3)then bif (A.fits va_ [[(.str (A.sapp (A.sapp fs_ (bs [46])) s3)),(.int .i64 tk_),(.int .i64 te_),(.int .i64 tl_),(.sl 2 on_)]] 64)then some (.inl [(.sl 2 en_),(.sl 5 nd_),(.int .i64 at_),(.str fs_),(.int .i64 (A.wrap .i64 (A.add fr_ 1))),(.str nm_),(.sl 5 in_),(.sl 5 ou_),(.sl 5 (A.rapp va_ [[(.str (A.sapp (A.sapp fs_ (bs [46])) s3)),(.int .i64 tk_),(.int .i64 te_),(.int .i64 tl_),(.sl 2 on_)]])),(.sl 10 eq_),(.int .i64 qk_),(.sl 1 [[(.str (A.sapp (A.sapp fs_ (bs [46])) s3))]]),(.int .i64 qo_),(.sl 2 qa_),(.sl 1 qi_),(.int .i64 qm_),(.bool qr_),(.str qv_),(.int .i64 qe_),(.sl 2 on_)]) else none else none else none else some (.inl [(.sl 2 en_),(.sl 5 nd_),(.int .i64 at_),(.str fs_),(.int .i64 fr_),(.str nm_),(.sl 5 in_),(.sl 5 ou_),(.sl 5 va_),(.sl 10 eq_),(.int .i64 qk_),(.sl 1 ns_),(.int .i64 qo_),(.sl 2 qa_),(.sl 1 qi_),(.int .i64 qm_),(.bool qr_),(.str qv_),(.int .i64 qe_),(.sl 2 on_)])) fun ds4=>oB A ds4 0 fun l5 l6 n7 s8 n9 s10 l11 l12 l13 l14=>oP A ds4 10 fun n15 l16 n17 l18 l19 n20 b21 s22 n23 l24=>bif (A.fits l14 [[(.int .i64 n15),(.sl 1 l16),(.int .i64 n17),(.sl 2 l18),(.sl 1 l19),(.int .i64 n20),(.bool b21),(.str s22),(.int .i64 n23),(.sl 2 l24)]] 152)then bif (A.inr 0 (A.rlen l16))then (opS (A.cell (A.row l16 0) 0)).bind fun s25=>some (.val [(.str s25),(.sl 2 l5),(.sl 5 l6),(.int .i64 n7),(.str s8),(.int .i64 n9),(.str s10),(.sl 5 l11),(.sl 5 l12),(.sl 5 l13),(.sl 10 (A.rapp l14 [[(.int .i64 n15),(.sl 1 l16),(.int .i64 n17),(.sl 2 l18),(.sl 1 l19),(.int .i64 n20),(.bool b21),(.str s22),(.int .i64 n23),(.sl 2 l24)]]))]) else none else none
def b144_eq (A:Sy)(E:Env)(en_ nd_:LL)(at_:Int)(fs_:BA)(fr_:Int)(nm_:BA)(in_ ou_ va_ eq_:LL)(qk_:Int)(qn_:LL)(qo_:Int)(qa_ qi_:LL)(qm_:Int)(qr_:Bool)(qv_:BA)(qe_:Int)(qc_ ns_:LL)(tk_ te_ tl_:Int)(on_:LL):fB A E 144 0 [.ptr 0 0, .agg [.d (.int .i64 qk_), .d (.sl 1 qn_), .d (.int .i64 qo_), .d (.sl 2 qa_), .d (.sl 1 qi_), .d (.int .i64 qm_), .d (.bool qr_), .d (.str qv_), .d (.int .i64 qe_), .d (.sl 2 qc_)], .d (.sl 1 ns_), .agg [.d (.int .i64 tk_), .d (.int .i64 te_), .d (.int .i64 tl_)], .d (.sl 2 on_)] [.cells (.ty 179) [.d (.sl 2 en_), .d (.sl 5 nd_), .d (.int .i64 at_), .d (.str fs_), .d (.int .i64 fr_), .d (.str nm_), .d (.sl 5 in_), .d (.sl 5 ou_), .own 1, .own 2], .arr 94 5 va_, .arr 131 10 eq_]=b144 A E en_ nd_ at_ fs_ fr_ nm_ in_ ou_ va_ eq_ qk_ qn_ qo_ qa_ qi_ qm_ qr_ qv_ qe_ qc_ ns_ tk_ te_ tl_ on_:=by kernel_rfl
def b181 (A:Sy)(E:Env)(en_ nd_:LL)(at_:Int)(fs_:BA)(fr_:Int)(nm_:BA)(in_ ou_ va_ eq_:LL)(k_ m_:Int)(s_:BA)(o_:Int)(a_ u_ on_:LL):Option PRes:=bif (A.ieq k_ 1)then some (.val [(.str (bs [])),(.int .i64 m_),(.sl 2 en_),(.sl 5 nd_),(.int .i64 at_),(.str fs_),(.int .i64 fr_),(.str nm_),(.sl 5 in_),(.sl 5 ou_),(.sl 5 va_),(.sl 10 eq_)]) else bif (A.ieq k_ 2)then some (.val [(.str (bs [])),(.int .i64 m_),(.sl 2 en_),(.sl 5 nd_),(.int .i64 at_),(.str fs_),(.int .i64 fr_),(.str nm_),(.sl 5 in_),(.sl 5 ou_),(.sl 5 va_),(.sl 10 eq_)]) else bif (A.ieq k_ 3)then some (.val [(.str s_),(.int .i64 0),(.sl 2 en_),(.sl 5 nd_),(.int .i64 at_),(.str fs_),(.int .i64 fr_),(.str nm_),(.sl 5 in_),(.sl 5 ou_),(.sl 5 va_),(.sl 10 eq_)]) else bif (A.ieq k_ 4)then (E.call 141 [(.d (.sl 2 en_)),(.d (.str s_))]).bind fun p1=>(opI (A.cell p1.leaves 0) .i64).bind fun n3=>(opI (A.cell p1.leaves 1) .i64).bind fun n4=>(opI (A.cell p1.leaves 2) .i64).bind fun n5=>(opI (A.cell p1.leaves 3) .i64).bind fun n6=>(opB (A.cell p1.leaves 4)).bind fun b7=>some (.val [(.str (bs [])),(.int .i64 n6),(.sl 2 en_),(.sl 5 nd_),(.int .i64 at_),(.str fs_),(.int .i64 fr_),(.str nm_),(.sl 5 in_),(.sl 5 ou_),(.sl 5 va_),(.sl 10 eq_)]) else (E.call 1000092 (kN4 (kE k_ m_ s_ o_ a_ u_) .nils (.d (.sl 2 on_)) en_ nd_ at_ fs_ fr_ nm_ in_ ou_ va_ eq_)).bind fun p8=>(opS (A.cell p8.leaves 0)).bind fun s10=>oB A p8.leaves 1 fun l11 l12 n13 s14 n15 s16 l17 l18 l19 l20=>some (.val [(.str s10),(.int .i64 0),(.sl 2 l11),(.sl 5 l12),(.int .i64 n13),(.str s14),(.int .i64 n15),(.str s16),(.sl 5 l17),(.sl 5 l18),(.sl 5 l19),(.sl 10 l20)])
def b181_eq (A:Sy)(E:Env)(en_ nd_:LL)(at_:Int)(fs_:BA)(fr_:Int)(nm_:BA)(in_ ou_ va_ eq_:LL)(k_ m_:Int)(s_:BA)(o_:Int)(a_ u_ on_:LL):fB A E 181 0 [.ptr 0 0, .agg [.d (.int .i64 k_), .d (.int .i64 m_), .d (.str s_), .d (.int .i64 o_), .d (.sl 1 a_), .d (.sl 6 u_)], .d (.sl 2 on_)] [.cells (.ty 179) [.d (.sl 2 en_), .d (.sl 5 nd_), .d (.int .i64 at_), .d (.str fs_), .d (.int .i64 fr_), .d (.str nm_), .d (.sl 5 in_), .d (.sl 5 ou_), .own 1, .own 2], .arr 94 5 va_, .arr 131 10 eq_]=b181 A E en_ nd_ at_ fs_ fr_ nm_ in_ ou_ va_ eq_ k_ m_ s_ o_ a_ u_ on_:=by kernel_rfl
def b178 (A:Sy)(E:Env)(en_ nd_:LL)(at_:Int)(fs_:BA)(fr_:Int)(nm_:BA)(in_ ou_ va_ eq_ u_ on_:LL):Option PRes:=E.lp (fun ds1=>(opL (A.cell ds1 0) 6).bind fun l2=>(opL (A.cell ds1 1) 2).bind fun l3=>(opI (A.cell ds1 2) .i64).bind fun n4=>oB A ds1 3 fun l5 l6 n7 s8 n9 s10 l11 l12 l13 l14=>(opL (A.cell ds1 13) 2).bind fun l15=>bif (A.ilt n4 (A.rlen l2))then bif (A.inr n4 (A.rlen l2))then oE A (A.row l2 n4) 0 fun n16 n17 s18 n19 l20 l21=>(E.call 1000181 (kN3 (kE n16 n17 s18 n19 l20 l21) (.d (.sl 2 l3)) l5 l6 n7 s8 n9 s10 l11 l12 l13 l14)).bind fun p22=>(opS (A.cell p22.leaves 0)).bind fun s24=>(opI (A.cell p22.leaves 1) .i64).bind fun n25=>oB A p22.leaves 2 fun l26 l27 n28 s29 n30 s31 l32 l33 l34 l35=>bif (A.fits l15 [[(.str s24),(.int .i64 n25)]] 24)then some (.inl [(.sl 6 l2),(.sl 2 l3),(.int .i64 (A.wrap .i64 (A.add n4 1))),(.sl 2 l26),(.sl 5 l27),(.int .i64 n28),(.str s29),(.int .i64 n30),(.str s31),(.sl 5 l32),(.sl 5 l33),(.sl 5 l34),(.sl 10 l35),(.sl 2 (A.rapp l15 [[(.str s24),(.int .i64 n25)]]))]) else none else none else some (.inr (.val [(.sl 2 l15),(.sl 2 l5),(.sl 5 l6),(.int .i64 n7),(.str s8),(.int .i64 n9),(.str s10),(.sl 5 l11),(.sl 5 l12),(.sl 5 l13),(.sl 10 l14)]))) [(.sl 6 u_),(.sl 2 on_),(.int .i64 0),(.sl 2 en_),(.sl 5 nd_),(.int .i64 at_),(.str fs_),(.int .i64 fr_),(.str nm_),(.sl 5 in_),(.sl 5 ou_),(.sl 5 va_),(.sl 10 eq_),(.sl 2 [])]
def b178_eq (A:Sy)(E:Env)(en_ nd_:LL)(at_:Int)(fs_:BA)(fr_:Int)(nm_:BA)(in_ ou_ va_ eq_ u_ on_:LL):fB A E 178 0 [.ptr 0 0, .d (.sl 6 u_), .d (.sl 2 on_)] [.cells (.ty 179) [.d (.sl 2 en_), .d (.sl 5 nd_), .d (.int .i64 at_), .d (.str fs_), .d (.int .i64 fr_), .d (.str nm_), .d (.sl 5 in_), .d (.sl 5 ou_), .own 1, .own 2], .arr 94 5 va_, .arr 131 10 eq_]=b178 A E en_ nd_ at_ fs_ fr_ nm_ in_ ou_ va_ eq_ u_ on_:=by kernel_rfl
def b180 (A:Sy)(E:Env)(en_ nd_:LL)(at_:Int)(fs_:BA)(fr_:Int)(nm_:BA)(in_ ou_ va_ eq_:LL)(k_ m_:Int)(s_:BA)(o_:Int)(a_ u_ on_:LL):Option PRes:=bif (A.ieq k_ 8)then bif (A.inr 0 (A.rlen u_))then oE A (A.row u_ 0) 0 fun n1 n2 s3 n4 l5 l6=>(E.call 205 [(.d (.sl 2 en_)),(kE n1 n2 s3 n4 l5 l6)]).bind fun p7=>(opL (A.cell p7.leaves 0) 1).bind fun l9=>(opI (A.cell p7.leaves 1) .i64).bind fun n10=>(opI (A.cell p7.leaves 2) .i64).bind fun n11=>(opI (A.cell p7.leaves 3) .i64).bind fun n12=>(opB (A.cell p7.leaves 4)).bind fun b13=>bif (A.cutok 1 (A.rlen u_) (A.rlen u_))then (E.call 1000178 (kN3 (.d (.sl 6 (A.cut u_ 1 (A.rlen u_)))) (.d (.sl 2 on_)) en_ nd_ at_ fs_ fr_ nm_ in_ ou_ va_ eq_)).bind fun p14=>(opL (A.cell p14.leaves 0) 2).bind fun l16=>oB A p14.leaves 1 fun l17 l18 n19 s20 n21 s22 l23 l24 l25 l26=>some (.val [(.int .i64 5),(.sl 1 []),(.int .i64 0),(.sl 2 l16),(.sl 1 l9),(.int .i64 0),(.bool false),(.str (bs [])),(.int .i64 0),(.sl 2 []),(.sl 2 l17),(.sl 5 l18),(.int .i64 n19),(.str s20),(.int .i64 n21),(.str s22),(.sl 5 l23),(.sl 5 l24),(.sl 5 l25),(.sl 10 l26)]) else none else none else bif (A.ieq k_ 10)then (E.call 143 [(.agg [(.d (.sl 2 en_)),(.d (.sl 5 nd_))]),(.d (.int .i64 at_)),(kE k_ m_ s_ o_ a_ u_)]).bind fun p27=>(opI (A.cell p27.leaves 0) .i64).bind fun n29=>(opI (A.cell p27.leaves 1) .i64).bind fun n30=>(opI (A.cell p27.leaves 2) .i64).bind fun n31=>(opB (A.cell p27.leaves 3)).bind fun b32=>(E.call 206 [(kT n29 n30 n31)]).bind fun p33=>(opL (A.cell p33.leaves 0) 1).bind fun l35=>(E.call 1000178 (kN3 (.d (.sl 6 u_)) (.d (.sl 2 on_)) en_ nd_ at_ fs_ fr_ nm_ in_ ou_ va_ eq_)).bind fun p36=>(opL (A.cell p36.leaves 0) 2).bind fun l38=>oB A p36.leaves 1 fun l39 l40 n41 s42 n43 s44 l45 l46 l47 l48=>some (.val [(.int .i64 5),(.sl 1 []),(.int .i64 0),(.sl 2 l38),(.sl 1 l35),(.int .i64 0),(.bool false),(.str (bs [])),(.int .i64 0),(.sl 2 []),(.sl 2 l39),(.sl 5 l40),(.int .i64 n41),(.str s42),(.int .i64 n43),(.str s44),(.sl 5 l45),(.sl 5 l46),(.sl 5 l47),(.sl 10 l48)]) else bif (A.ieq k_ 9)then (E.call 1000144 (kN5 (.agg [(.d (.int .i64 5)), .nils,(.d (.int .i64 0)),(.d (.sl 2 [[(.str (bs [])),(.int .i64 0)]])),(.d (.sl 1 [[(.int .i64 1)]])),(.d (.int .i64 0)),(.d (.bool false)),(.d (.str (bs []))),(.d (.int .i64 0)), .nils]) .nils (kT 2 0 0) (.d (.sl 2 on_)) en_ nd_ at_ fs_ fr_ nm_ in_ ou_ va_ eq_)).bind fun p49=>(opS (A.cell p49.leaves 0)).bind fun s51=>oB A p49.leaves 1 fun l52 l53 n54 s55 n56 s57 l58 l59 l60 l61=>(E.call 1000178 (kN3 (.d (.sl 6 u_)) (.d (.sl 2 on_)) l52 l53 n54 s55 n56 s57 l58 l59 l60 l61)).bind fun p62=>(opL (A.cell p62.leaves 0) 2).bind fun l64=>oB A p62.leaves 1 fun l65 l66 n67 s68 n69 s70 l71 l72 l73 l74=>bif (A.fits [[(.str s51),(.int .i64 0)]] l64 24)then some (.val [(.int .i64 4),(.sl 1 []),(.int .i64 0),(.sl 2 (A.rapp [[(.str s51),(.int .i64 0)]] l64)),(.sl 1 []),(.int .i64 0),(.bool false),(.str (bs [])),(.int .i64 0),(.sl 2 []),(.sl 2 l65),(.sl 5 l66),(.int .i64 n67),(.str s68),(.int .i64 n69),(.str s70),(.sl 5 l71),(.sl 5 l72),(.sl 5 l73),(.sl 10 l74)]) else none else bif (A.ieq k_ 11)then bif (A.cutok 0 (A.wrap .i64 (A.sub (A.rlen on_) 1)) (A.rlen on_))then (E.call 1000178 (kN3 (.d (.sl 6 u_)) (.d (.sl 2 (A.cut on_ 0 (A.wrap .i64 (A.sub (A.rlen on_) 1))))) en_ nd_ at_ fs_ fr_ nm_ in_ ou_ va_ eq_)).bind fun p75=>(opL (A.cell p75.leaves 0) 2).bind fun l77=>oB A p75.leaves 1 fun l78 l79 n80 s81 n82 s83 l84 l85 l86 l87=>some (.val [(.int .i64 1),(.sl 1 []),(.int .i64 0),(.sl 2 l77),(.sl 1 []),(.int .i64 0),(.bool false),(.str (bs [])),(.int .i64 0),(.sl 2 []),(.sl 2 l78),(.sl 5 l79),(.int .i64 n80),(.str s81),(.int .i64 n82),(.str s83),(.sl 5 l84),(.sl 5 l85),(.sl 5 l86),(.sl 10 l87)]) else none else E.lp (fun ds88=>(opL (A.cell ds88 0) 2).bind fun l89=>(opI (A.cell ds88 1) .i64).bind fun n90=>oB A ds88 2 fun l91 l92 n93 s94 n95 s96 l97 l98 l99 l100=>oE A ds88 12 fun n101 n102 s103 n104 l105 l106=>(opI (A.cell ds88 18) .i64).bind fun n107=>(opI (A.cell ds88 19) .i64).bind fun n108=>(opI (A.cell ds88 20) .i64).bind fun n109=>
 (opB (A.cell ds88 21)).bind fun b110=>(opS (A.cell ds88 22)).bind fun s111=>(opI (A.cell ds88 23) .i64).bind fun n112=>(opL (A.cell ds88 24) 2).bind fun l113=>bif (A.ilt n90 (A.rlen l106))then bif (A.inr n90 (A.rlen l105))then (opS (A.cell (A.row l105 n90) 0)).bind fun s114=>(E.call 141 [(.d (.sl 2 l91)),(.d (.str s114))]).bind fun p115=>(opI (A.cell p115.leaves 0) .i64).bind fun n117=>(opI (A.cell p115.leaves 1) .i64).bind fun n118=>(opI (A.cell p115.leaves 2) .i64).bind fun n119=>(opI (A.cell p115.leaves 3) .i64).bind fun n120=>(opB (A.cell p115.leaves 4)).bind fun b121=>bif (A.inr n90 (A.rlen l106))then oE A (A.row l106 n90) 0 fun n122 n123 s124 n125 l126 l127=>(E.call 207 [(.d (.sl 2 l89)),(.d (.str s103)),(.d (.int .i64 n120))]).bind fun p128=>(opL (A.cell p128.leaves 0) 2).bind fun l130=>(E.call 1000181 (kN3 (kE n122 n123 s124 n125 l126 l127) (.d (.sl 2 l130)) l91 l92 n93 s94 n95 s96 l97 l98 l99 l100)).bind fun p131=>(opS (A.cell p131.leaves 0)).bind fun s133=>(opI (A.cell p131.leaves 1) .i64).bind fun n134=>oB A p131.leaves 2 fun l135 l136 n137 s138 n139 s140 l141 l142 l143 l144=>bif (A.fits l113 [[(.str s133),(.int .i64 n134)]] 24)then some (.inl [(.sl 2 l89),(.int .i64 (A.wrap .i64 (A.add n90 1))),(.sl 2 l135),(.sl 5 l136),(.int .i64 n137),(.str s138),(.int .i64 n139),(.str s140),(.sl 5 l141),(.sl 5 l142),(.sl 5 l143),(.sl 10 l144),(.int .i64 n101),(.int .i64 n102),(.str s103),(.int .i64 n104),(.sl 1 l105),(.sl 6 l106),(.int .i64 n107),(.int .i64 n108),(.int .i64 n109),(.bool b110),(.str s111),(.int .i64 n112),(.sl 2 (A.rapp l113 [[(.str s133),(.int .i64 n134)]]))]) else none else none else none else some (.inr (.val [(.int .i64 6),(.sl 1 []),(.int .i64 0),(.sl 2 l113),(.sl 1 []),(.int .i64 0),(.bool false),(.str (bs [])),(.int .i64 0),(.sl 2 []),(.sl 2 l91),(.sl 5 l92),(.int .i64 n93),(.str s94),(.int .i64 n95),(.str s96),(.sl 5 l97),(.sl 5 l98),(.sl 5 l99),(.sl 10 l100)]))) [(.sl 2 on_),(.int .i64 0),(.sl 2 en_),(.sl 5 nd_),(.int .i64 at_),(.str fs_),(.int .i64 fr_),(.str nm_),(.sl 5 in_),(.sl 5 ou_),(.sl 5 va_),(.sl 10 eq_),(.int .i64 k_),(.int .i64 m_),(.str s_),(.int .i64 o_),(.sl 1 a_),(.sl 6 u_),(.int .i64 0),(.int .i64 0),(.int .i64 0),(.bool false),(.str (bs [])),(.int .i64 0),(.sl 2 [[(.str s_),(.int .i64 0)]])]
def b180_eq (A:Sy)(E:Env)(en_ nd_:LL)(at_:Int)(fs_:BA)(fr_:Int)(nm_:BA)(in_ ou_ va_ eq_:LL)(k_ m_:Int)(s_:BA)(o_:Int)(a_ u_ on_:LL):fB A E 180 0 [.ptr 0 0, .agg [.d (.int .i64 k_), .d (.int .i64 m_), .d (.str s_), .d (.int .i64 o_), .d (.sl 1 a_), .d (.sl 6 u_)], .d (.sl 2 on_)] [.cells (.ty 179) [.d (.sl 2 en_), .d (.sl 5 nd_), .d (.int .i64 at_), .d (.str fs_), .d (.int .i64 fr_), .d (.str nm_), .d (.sl 5 in_), .d (.sl 5 ou_), .own 1, .own 2], .arr 94 5 va_, .arr 131 10 eq_]=b180 A E en_ nd_ at_ fs_ fr_ nm_ in_ ou_ va_ eq_ k_ m_ s_ o_ a_ u_ on_:=by kernel_rfl
def b179 (A:Sy)(E:Env)(en_ nd_:LL)(at_:Int)(fs_:BA)(fr_:Int)(nm_:BA)(in_ ou_ va_ eq_:LL)(k_ m_:Int)(s_:BA)(o_:Int)(a_ u_ on_:LL):Option PRes:=(E.call 204 [(.agg [(.d (.sl 2 en_)),(.d (.sl 5 nd_))]),(.d (.str s_))]).bind fun p1=>(opI (A.cell p1.leaves 0) .i64).bind fun n3=>bif (A.cutok 0 (A.wrap .i64 (A.sub (A.rlen u_) m_)) (A.rlen u_))then (E.call 1000178 (kN3 (.d (.sl 6 (A.cut u_ 0 (A.wrap .i64 (A.sub (A.rlen u_) m_))))) (.d (.sl 2 on_)) en_ nd_ at_ fs_ fr_ nm_ in_ ou_ va_ eq_)).bind fun p4=>(opL (A.cell p4.leaves 0) 2).bind fun l6=>oB A p4.leaves 1 fun l7 l8 n9 s10 n11 s12 l13 l14 l15 l16=>bif (A.ieq m_ 1)then bif (A.inr (A.wrap .i64 (A.sub (A.rlen u_) m_)) (A.rlen u_))then (opI (A.cell (A.row u_ (A.wrap .i64 (A.sub (A.rlen u_) m_))) 0) .i64).bind fun n17=>(opI (A.cell (A.row u_ (A.wrap .i64 (A.sub (A.rlen u_) m_))) 1) .i64).bind fun n18=>(opS (A.cell (A.row u_ (A.wrap .i64 (A.sub (A.rlen u_) m_))) 2)).bind fun s19=>(opI (A.cell (A.row u_ (A.wrap .i64 (A.sub (A.rlen u_) m_))) 3) .i64).bind fun n20=>(opL (A.cell (A.row u_ (A.wrap .i64 (A.sub (A.rlen u_) m_))) 4) 1).bind fun l21=>(opL (A.cell (A.row u_ (A.wrap .i64 (A.sub (A.rlen u_) m_))) 5) 6).bind fun l22=>(E.call 1000181 (kN3 (kE n17 n18 s19 n20 l21 l22) (.d (.sl 2 on_)) l7 l8 n9 s10 n11 s12 l13 l14 l15 l16)).bind fun p23=>(opS (A.cell p23.leaves 0)).bind fun s25=>(opI (A.cell p23.leaves 1) .i64).bind fun n26=>oB A p23.leaves 2 fun l27 l28 n29 s30 n31 s32 l33 l34 l35 l36=>some (.val [(.int .i64 7),(.sl 1 []),(.int .i64 0),(.sl 2 l6),(.sl 1 []),(.int .i64 n3),(.bool true),(.str s25),(.int .i64 n26),(.sl 2 []),(.sl 2 l27),(.sl 5 l28),(.int .i64 n29),(.str s30),(.int .i64 n31),(.str s32),(.sl 5 l33),(.sl 5 l34),(.sl 5 l35),(.sl 10 l36)]) else none else some (.val [(.int .i64 7),(.sl 1 []),(.int .i64 0),(.sl 2 l6),(.sl 1 []),(.int .i64 n3),(.bool false),(.str (bs [])),(.int .i64 0),(.sl 2 []),(.sl 2 l7),(.sl 5 l8),(.int .i64 n9),(.str s10),(.int .i64 n11),(.str s12),(.sl 5 l13),(.sl 5 l14),(.sl 5 l15),(.sl 10 l16)]) else none
def b179_eq (A:Sy)(E:Env)(en_ nd_:LL)(at_:Int)(fs_:BA)(fr_:Int)(nm_:BA)(in_ ou_ va_ eq_:LL)(k_ m_:Int)(s_:BA)(o_:Int)(a_ u_ on_:LL):fB A E 179 0 [.ptr 0 0, .agg [.d (.int .i64 k_), .d (.int .i64 m_), .d (.str s_), .d (.int .i64 o_), .d (.sl 1 a_), .d (.sl 6 u_)], .d (.sl 2 on_)] [.cells (.ty 179) [.d (.sl 2 en_), .d (.sl 5 nd_), .d (.int .i64 at_), .d (.str fs_), .d (.int .i64 fr_), .d (.str nm_), .d (.sl 5 in_), .d (.sl 5 ou_), .own 1, .own 2], .arr 94 5 va_, .arr 131 10 eq_]=b179 A E en_ nd_ at_ fs_ fr_ nm_ in_ ou_ va_ eq_ k_ m_ s_ o_ a_ u_ on_:=by kernel_rfl
def b142 (A:Sy)(E:Env)(en_ nd_:LL)(at_:Int)(fs_:BA)(fr_:Int)(nm_:BA)(in_ ou_ va_ eq_:LL)(k_ m_:Int)(s_:BA)(o_:Int)(a_ u_ on_:LL):Option PRes:=bif (A.ieq k_ 5)then (E.call 1000178 (kN3 (.d (.sl 6 u_)) (.d (.sl 2 on_)) en_ nd_ at_ fs_ fr_ nm_ in_ ou_ va_ eq_)).bind fun p1=>(opL (A.cell p1.leaves 0) 2).bind fun l3=>oB A p1.leaves 1 fun l4 l5 n6 s7 n8 s9 l10 l11 l12 l13=>some (.val [(.int .i64 2),(.sl 1 []),(.int .i64 o_),(.sl 2 l3),(.sl 1 []),(.int .i64 0),(.bool false),(.str (bs [])),(.int .i64 0),(.sl 2 []),(.sl 2 l4),(.sl 5 l5),(.int .i64 n6),(.str s7),(.int .i64 n8),(.str s9),(.sl 5 l10),(.sl 5 l11),(.sl 5 l12),(.sl 10 l13)]) else bif (A.ieq k_ 6)then (E.call 1000178 (kN3 (.d (.sl 6 u_)) (.d (.sl 2 on_)) en_ nd_ at_ fs_ fr_ nm_ in_ ou_ va_ eq_)).bind fun p14=>(opL (A.cell p14.leaves 0) 2).bind fun l16=>oB A p14.leaves 1 fun l17 l18 n19 s20 n21 s22 l23 l24 l25 l26=>some (.val [(.int .i64 3),(.sl 1 []),(.int .i64 o_),(.sl 2 l16),(.sl 1 []),(.int .i64 0),(.bool false),(.str (bs [])),(.int .i64 0),(.sl 2 []),(.sl 2 l17),(.sl 5 l18),(.int .i64 n19),(.str s20),(.int .i64 n21),(.str s22),(.sl 5 l23),(.sl 5 l24),(.sl 5 l25),(.sl 10 l26)]) else bif (A.ieq k_ 7)then (E.call 1000178 (kN3 (.d (.sl 6 u_)) (.d (.sl 2 on_)) en_ nd_ at_ fs_ fr_ nm_ in_ ou_ va_ eq_)).bind fun p27=>(opL (A.cell p27.leaves 0) 2).bind fun l29=>oB A p27.leaves 1 fun l30 l31 n32 s33 n34 s35 l36 l37 l38 l39=>some (.val [(.int .i64 4),(.sl 1 []),(.int .i64 0),(.sl 2 l29),(.sl 1 []),(.int .i64 0),(.bool false),(.str (bs [])),(.int .i64 0),(.sl 2 []),(.sl 2 l30),(.sl 5 l31),(.int .i64 n32),(.str s33),(.int .i64 n34),(.str s35),(.sl 5 l36),(.sl 5 l37),(.sl 5 l38),(.sl 10 l39)]) else bif (A.ieq k_ 14)then (E.call 1000178 (kN3 (.d (.sl 6 u_)) (.d (.sl 2 on_)) en_ nd_ at_ fs_ fr_ nm_ in_ ou_ va_ eq_)).bind fun p40=>(opL (A.cell p40.leaves 0) 2).bind fun l42=>oB A p40.leaves 1 fun l43 l44 n45 s46 n47 s48 l49 l50 l51 l52=>some (.val [(.int .i64 8),(.sl 1 []),(.int .i64 0),(.sl 2 l42),(.sl 1 []),(.int .i64 0),(.bool false),(.str (bs [])),(.int .i64 0),(.sl 2 []),(.sl 2 l43),(.sl 5 l44),(.int .i64 n45),(.str s46),(.int .i64 n47),(.str s48),(.sl 5 l49),(.sl 5 l50),(.sl 5 l51),(.sl 10 l52)]) else bif (A.ieq k_ 15)then (E.call 1000178 (kN3 (.d (.sl 6 u_)) (.d (.sl 2 on_)) en_ nd_ at_ fs_ fr_ nm_ in_ ou_ va_ eq_)).bind fun p53=>(opL (A.cell p53.leaves 0) 2).bind fun l55=>oB A p53.leaves 1 fun l56 l57 n58 s59 n60 s61 l62 l63 l64 l65=>some (.val [(.int .i64 9),(.sl 1 []),(.int .i64 0),(.sl 2 l55),(.sl 1 []),(.int .i64 0),(.bool false),(.str (bs [])),(.int .i64 0),(.sl 2 []),(.sl 2 l56),(.sl 5 l57),(.int .i64 n58),(.str s59),(.int .i64 n60),(.str s61),(.sl 5 l62),(.sl 5 l63),(.sl 5 l64),(.sl 10 l65)]) else bif (A.ieq k_ 16)then (E.call 1000178 (kN3 (.d (.sl 6 u_)) (.d (.sl 2 on_)) en_ nd_ at_ fs_ fr_ nm_ in_ ou_ va_ eq_)).bind fun p66=>(opL (A.cell p66.leaves 0) 2).bind fun l68=>oB A p66.leaves 1 fun l69 l70 n71 s72 n73 s74 l75 l76 l77 l78=>some (.val [(.int .i64 10),(.sl 1 []),(.int .i64 0),(.sl 2 l68),(.sl 1 []),(.int .i64 0),(.bool false),(.str (bs [])),(.int .i64 0),(.sl 2 []),(.sl 2 l69),(.sl 5 l70),(.int .i64 n71),(.str s72),(.int .i64 n73),(.str s74),(.sl 5 l75),(.sl 5 l76),(.sl 5 l77),(.sl 10 l78)]) else bif (A.ieq k_ 13)then (E.call 1000179 (kN3 (kE k_ m_ s_ o_ a_ u_) (.d (.sl 2 on_)) en_ nd_ at_ fs_ fr_ nm_ in_ ou_ va_ eq_)).bind fun p79=>oP A p79.leaves 0 fun n81 l82 n83 l84 l85 n86 b87 s88 n89 l90=>oB A p79.leaves 10 fun l91 l92 n93 s94 n95 s96 l97 l98 l99 l100=>some (.val [(.int .i64 n81),(.sl 1 l82),(.int .i64 n83),(.sl 2 l84),(.sl 1 l85),(.int .i64 n86),(.bool b87),(.str s88),(.int .i64 n89),(.sl 2 l90),(.sl 2 l91),(.sl 5 l92),(.int .i64 n93),(.str s94),(.int .i64 n95),(.str s96),(.sl 5 l97),(.sl 5 l98),(.sl 5 l99),(.sl 10 l100)]) else bif (A.ieq k_ 8)then (E.call 1000180 (kN3 (kE k_ m_ s_ o_ a_ u_) (.d (.sl 2 on_)) en_ nd_ at_ fs_ fr_ nm_ in_ ou_ va_ eq_)).bind fun p101=>oP A p101.leaves 0 fun n103 l104 n105 l106 l107 n108 b109 s110 n111 l112=>oB A p101.leaves 10 fun l113 l114 n115 s116 n117 s118 l119 l120 l121 l122=>
 some (.val [(.int .i64 n103),(.sl 1 l104),(.int .i64 n105),(.sl 2 l106),(.sl 1 l107),(.int .i64 n108),(.bool b109),(.str s110),(.int .i64 n111),(.sl 2 l112),(.sl 2 l113),(.sl 5 l114),(.int .i64 n115),(.str s116),(.int .i64 n117),(.str s118),(.sl 5 l119),(.sl 5 l120),(.sl 5 l121),(.sl 10 l122)]) else bif (A.ieq k_ 9)then (E.call 1000180 (kN3 (kE k_ m_ s_ o_ a_ u_) (.d (.sl 2 on_)) en_ nd_ at_ fs_ fr_ nm_ in_ ou_ va_ eq_)).bind fun p123=>oP A p123.leaves 0 fun n125 l126 n127 l128 l129 n130 b131 s132 n133 l134=>oB A p123.leaves 10 fun l135 l136 n137 s138 n139 s140 l141 l142 l143 l144=>some (.val [(.int .i64 n125),(.sl 1 l126),(.int .i64 n127),(.sl 2 l128),(.sl 1 l129),(.int .i64 n130),(.bool b131),(.str s132),(.int .i64 n133),(.sl 2 l134),(.sl 2 l135),(.sl 5 l136),(.int .i64 n137),(.str s138),(.int .i64 n139),(.str s140),(.sl 5 l141),(.sl 5 l142),(.sl 5 l143),(.sl 10 l144)]) else bif (A.ieq k_ 10)then (E.call 1000180 (kN3 (kE k_ m_ s_ o_ a_ u_) (.d (.sl 2 on_)) en_ nd_ at_ fs_ fr_ nm_ in_ ou_ va_ eq_)).bind fun p145=>oP A p145.leaves 0 fun n147 l148 n149 l150 l151 n152 b153 s154 n155 l156=>oB A p145.leaves 10 fun l157 l158 n159 s160 n161 s162 l163 l164 l165 l166=>some (.val [(.int .i64 n147),(.sl 1 l148),(.int .i64 n149),(.sl 2 l150),(.sl 1 l151),(.int .i64 n152),(.bool b153),(.str s154),(.int .i64 n155),(.sl 2 l156),(.sl 2 l157),(.sl 5 l158),(.int .i64 n159),(.str s160),(.int .i64 n161),(.str s162),(.sl 5 l163),(.sl 5 l164),(.sl 5 l165),(.sl 10 l166)]) else bif (A.ieq k_ 11)then (E.call 1000180 (kN3 (kE k_ m_ s_ o_ a_ u_) (.d (.sl 2 on_)) en_ nd_ at_ fs_ fr_ nm_ in_ ou_ va_ eq_)).bind fun p167=>oP A p167.leaves 0 fun n169 l170 n171 l172 l173 n174 b175 s176 n177 l178=>oB A p167.leaves 10 fun l179 l180 n181 s182 n183 s184 l185 l186 l187 l188=>some (.val [(.int .i64 n169),(.sl 1 l170),(.int .i64 n171),(.sl 2 l172),(.sl 1 l173),(.int .i64 n174),(.bool b175),(.str s176),(.int .i64 n177),(.sl 2 l178),(.sl 2 l179),(.sl 5 l180),(.int .i64 n181),(.str s182),(.int .i64 n183),(.str s184),(.sl 5 l185),(.sl 5 l186),(.sl 5 l187),(.sl 10 l188)]) else bif (A.ieq k_ 12)then (E.call 1000180 (kN3 (kE k_ m_ s_ o_ a_ u_) (.d (.sl 2 on_)) en_ nd_ at_ fs_ fr_ nm_ in_ ou_ va_ eq_)).bind fun p189=>oP A p189.leaves 0 fun n191 l192 n193 l194 l195 n196 b197 s198 n199 l200=>oB A p189.leaves 10 fun l201 l202 n203 s204 n205 s206 l207 l208 l209 l210=>some (.val [(.int .i64 n191),(.sl 1 l192),(.int .i64 n193),(.sl 2 l194),(.sl 1 l195),(.int .i64 n196),(.bool b197),(.str s198),(.int .i64 n199),(.sl 2 l200),(.sl 2 l201),(.sl 5 l202),(.int .i64 n203),(.str s204),(.int .i64 n205),(.str s206),(.sl 5 l207),(.sl 5 l208),(.sl 5 l209),(.sl 10 l210)]) else (E.call 1000181 (kN3 (kE k_ m_ s_ o_ a_ u_) (.d (.sl 2 on_)) en_ nd_ at_ fs_ fr_ nm_ in_ ou_ va_ eq_)).bind fun p211=>(opS (A.cell p211.leaves 0)).bind fun s213=>(opI (A.cell p211.leaves 1) .i64).bind fun n214=>oB A p211.leaves 2 fun l215 l216 n217 s218 n219 s220 l221 l222 l223 l224=>some (.val [(.int .i64 1),(.sl 1 []),(.int .i64 0),(.sl 2 [[(.str s213),(.int .i64 n214)]]),(.sl 1 []),(.int .i64 0),(.bool false),(.str (bs [])),(.int .i64 0),(.sl 2 []),(.sl 2 l215),(.sl 5 l216),(.int .i64 n217),(.str s218),(.int .i64 n219),(.str s220),(.sl 5 l221),(.sl 5 l222),(.sl 5 l223),(.sl 10 l224)])
def b142_eq (A:Sy)(E:Env)(en_ nd_:LL)(at_:Int)(fs_:BA)(fr_:Int)(nm_:BA)(in_ ou_ va_ eq_:LL)(k_ m_:Int)(s_:BA)(o_:Int)(a_ u_ on_:LL):fB A E 142 0 [.ptr 0 0, .agg [.d (.int .i64 k_), .d (.int .i64 m_), .d (.str s_), .d (.int .i64 o_), .d (.sl 1 a_), .d (.sl 6 u_)], .d (.sl 2 on_)] [.cells (.ty 179) [.d (.sl 2 en_), .d (.sl 5 nd_), .d (.int .i64 at_), .d (.str fs_), .d (.int .i64 fr_), .d (.str nm_), .d (.sl 5 in_), .d (.sl 5 ou_), .own 1, .own 2], .arr 94 5 va_, .arr 131 10 eq_]=b142 A E en_ nd_ at_ fs_ fr_ nm_ in_ ou_ va_ eq_ k_ m_ s_ o_ a_ u_ on_:=by kernel_rfl
def b92 (A:Sy)(E:Env)(en_ nd_:LL)(at_:Int)(fs_:BA)(fr_:Int)(nm_:BA)(in_ ou_ va_ eq_:LL)(k_ m_:Int)(s_:BA)(o_:Int)(a_ u_ ns_ on_:LL):Option PRes:=(E.call 1000142 (kN3 (kE k_ m_ s_ o_ a_ u_) (.d (.sl 2 on_)) en_ nd_ at_ fs_ fr_ nm_ in_ ou_ va_ eq_)).bind fun p1=>oP A p1.leaves 0 fun n3 l4 n5 l6 l7 n8 b9 s10 n11 l12=>oB A p1.leaves 10 fun l13 l14 n15 s16 n17 s18 l19 l20 l21 l22=>bif (A.ieq (A.rlen ns_) 0)then (E.call 143 [(.agg [(.d (.sl 2 l13)),(.d (.sl 5 l14))]),(.d (.int .i64 n15)),(kE k_ m_ s_ o_ a_ u_)]).bind fun p23=>(opI (A.cell p23.leaves 0) .i64).bind fun n25=>(opI (A.cell p23.leaves 1) .i64).bind fun n26=>(opI (A.cell p23.leaves 2) .i64).bind fun n27=>(opB (A.cell p23.leaves 3)).bind fun b28=>(E.call 1000144 (kN5 (kQ n3 l4 n5 l6 l7 n8 b9 s10 n11 l12) (.d (.sl 1 ns_)) (kT n25 n26 n27) (.d (.sl 2 on_)) l13 l14 n15 s16 n17 s18 l19 l20 l21 l22)).bind fun p29=>(opS (A.cell p29.leaves 0)).bind fun s31=>oB A p29.leaves 1 fun l32 l33 n34 s35 n36 s37 l38 l39 l40 l41=>some (.val [(.str s31),(.sl 2 l32),(.sl 5 l33),(.int .i64 n34),(.str s35),(.int .i64 n36),(.str s37),(.sl 5 l38),(.sl 5 l39),(.sl 5 l40),(.sl 10 l41)]) else (E.call 1000144 (kN5 (kQ n3 l4 n5 l6 l7 n8 b9 s10 n11 l12) (.d (.sl 1 ns_)) (kT 0 0 0) (.d (.sl 2 on_)) l13 l14 n15 s16 n17 s18 l19 l20 l21 l22)).bind fun p42=>(opS (A.cell p42.leaves 0)).bind fun s44=>oB A p42.leaves 1 fun l45 l46 n47 s48 n49 s50 l51 l52 l53 l54=>some (.val [(.str s44),(.sl 2 l45),(.sl 5 l46),(.int .i64 n47),(.str s48),(.int .i64 n49),(.str s50),(.sl 5 l51),(.sl 5 l52),(.sl 5 l53),(.sl 10 l54)])
def b92_eq (A:Sy)(E:Env)(en_ nd_:LL)(at_:Int)(fs_:BA)(fr_:Int)(nm_:BA)(in_ ou_ va_ eq_:LL)(k_ m_:Int)(s_:BA)(o_:Int)(a_ u_ ns_ on_:LL):fB A E 92 0 [.ptr 0 0, .agg [.d (.int .i64 k_), .d (.int .i64 m_), .d (.str s_), .d (.int .i64 o_), .d (.sl 1 a_), .d (.sl 6 u_)], .d (.sl 1 ns_), .d (.sl 2 on_)] [.cells (.ty 179) [.d (.sl 2 en_), .d (.sl 5 nd_), .d (.int .i64 at_), .d (.str fs_), .d (.int .i64 fr_), .d (.str nm_), .d (.sl 5 in_), .d (.sl 5 ou_), .own 1, .own 2], .arr 94 5 va_, .arr 131 10 eq_]=b92 A E en_ nd_ at_ fs_ fr_ nm_ in_ ou_ va_ eq_ k_ m_ s_ o_ a_ u_ ns_ on_:=by kernel_rfl
def b92n (A:Sy)(E:Env)(en_ nd_:LL)(at_:Int)(fs_:BA)(fr_:Int)(nm_:BA)(in_ ou_ va_ eq_:LL)(k_ m_:Int)(s_:BA)(o_:Int)(a_ u_ on_:LL):Option PRes:=(E.call 1000142 (kN3 (kE k_ m_ s_ o_ a_ u_) (.d (.sl 2 on_)) en_ nd_ at_ fs_ fr_ nm_ in_ ou_ va_ eq_)).bind fun p1=>oP A p1.leaves 0 fun n3 l4 n5 l6 l7 n8 b9 s10 n11 l12=>oB A p1.leaves 10 fun l13 l14 n15 s16 n17 s18 l19 l20 l21 l22=>bif (A.ieq 0 0)then (E.call 143 [(.agg [(.d (.sl 2 l13)),(.d (.sl 5 l14))]),(.d (.int .i64 n15)),(kE k_ m_ s_ o_ a_ u_)]).bind fun p23=>(opI (A.cell p23.leaves 0) .i64).bind fun n25=>(opI (A.cell p23.leaves 1) .i64).bind fun n26=>(opI (A.cell p23.leaves 2) .i64).bind fun n27=>(opB (A.cell p23.leaves 3)).bind fun b28=>(E.call 1000144 (kN5 (kQ n3 l4 n5 l6 l7 n8 b9 s10 n11 l12) .nils (kT n25 n26 n27) (.d (.sl 2 on_)) l13 l14 n15 s16 n17 s18 l19 l20 l21 l22)).bind fun p29=>(opS (A.cell p29.leaves 0)).bind fun s31=>oB A p29.leaves 1 fun l32 l33 n34 s35 n36 s37 l38 l39 l40 l41=>some (.val [(.str s31),(.sl 2 l32),(.sl 5 l33),(.int .i64 n34),(.str s35),(.int .i64 n36),(.str s37),(.sl 5 l38),(.sl 5 l39),(.sl 5 l40),(.sl 10 l41)]) else (E.call 1000144 (kN5 (kQ n3 l4 n5 l6 l7 n8 b9 s10 n11 l12) .nils (kT 0 0 0) (.d (.sl 2 on_)) l13 l14 n15 s16 n17 s18 l19 l20 l21 l22)).bind fun p42=>(opS (A.cell p42.leaves 0)).bind fun s44=>oB A p42.leaves 1 fun l45 l46 n47 s48 n49 s50 l51 l52 l53 l54=>some (.val [(.str s44),(.sl 2 l45),(.sl 5 l46),(.int .i64 n47),(.str s48),(.int .i64 n49),(.str s50),(.sl 5 l51),(.sl 5 l52),(.sl 5 l53),(.sl 10 l54)])
def b92n_eq (A:Sy)(E:Env)(en_ nd_:LL)(at_:Int)(fs_:BA)(fr_:Int)(nm_:BA)(in_ ou_ va_ eq_:LL)(k_ m_:Int)(s_:BA)(o_:Int)(a_ u_ on_:LL):fB A E 92 0 [.ptr 0 0, .agg [.d (.int .i64 k_), .d (.int .i64 m_), .d (.str s_), .d (.int .i64 o_), .d (.sl 1 a_), .d (.sl 6 u_)], .nils, .d (.sl 2 on_)] [.cells (.ty 179) [.d (.sl 2 en_), .d (.sl 5 nd_), .d (.int .i64 at_), .d (.str fs_), .d (.int .i64 fr_), .d (.str nm_), .d (.sl 5 in_), .d (.sl 5 ou_), .own 1, .own 2], .arr 94 5 va_, .arr 131 10 eq_]=b92n A E en_ nd_ at_ fs_ fr_ nm_ in_ ou_ va_ eq_ k_ m_ s_ o_ a_ u_ on_:=by kernel_rfl
def b144n (A:Sy)(E:Env)(en_ nd_:LL)(at_:Int)(fs_:BA)(fr_:Int)(nm_:BA)(in_ ou_ va_ eq_:LL)(qk_:Int)(qn_:LL)(qo_:Int)(qa_ qi_:LL)(qm_:Int)(qr_:Bool)(qv_:BA)(qe_:Int)(qc_:LL)(tk_ te_ tl_:Int)(on_:LL):Option PRes:=cutO (bif (A.ieq 0 0)then bif (A.sfit fs_ (bs [46]))then (E.call 183 [(.d (.int .i64 (A.wrap .i64 (A.add fr_ 1))))]).bind fun p1=>(opS (A.cell p1.leaves 0)).bind fun s3=>bif (A.sfit (A.sapp fs_ (bs [46])) s3)then bif (A.fits va_ [[(.str (A.sapp (A.sapp fs_ (bs [46])) s3)),(.int .i64 tk_),(.int .i64 te_),(.int .i64 tl_),(.sl 2 on_)]] 64)then some (.inl [(.sl 2 en_),(.sl 5 nd_),(.int .i64 at_),(.str fs_),(.int .i64 (A.wrap .i64 (A.add fr_ 1))),(.str nm_),(.sl 5 in_),(.sl 5 ou_),(.sl 5 (A.rapp va_ [[(.str (A.sapp (A.sapp fs_ (bs [46])) s3)),(.int .i64 tk_),(.int .i64 te_),(.int .i64 tl_),(.sl 2 on_)]])),(.sl 10 eq_),(.int .i64 qk_),(.sl 1 [[(.str (A.sapp (A.sapp fs_ (bs [46])) s3))]]),(.int .i64 qo_),(.sl 2 qa_),(.sl 1 qi_),(.int .i64 qm_),(.bool qr_),(.str qv_),(.int .i64 qe_),(.sl 2 on_)]) else none else none else none else some (.inl [(.sl 2 en_),(.sl 5 nd_),(.int .i64 at_),(.str fs_),(.int .i64 fr_),(.str nm_),(.sl 5 in_),(.sl 5 ou_),(.sl 5 va_),(.sl 10 eq_),(.int .i64 qk_),(.sl 1 []),(.int .i64 qo_),(.sl 2 qa_),(.sl 1 qi_),(.int .i64 qm_),(.bool qr_),(.str qv_),(.int .i64 qe_),(.sl 2 on_)])) fun ds4=>oB A ds4 0 fun l5 l6 n7 s8 n9 s10 l11 l12 l13 l14=>oP A ds4 10 fun n15 l16 n17 l18 l19 n20 b21 s22 n23 l24=>bif (A.fits l14 [[(.int .i64 n15),(.sl 1 l16),(.int .i64 n17),(.sl 2 l18),(.sl 1 l19),(.int .i64 n20),(.bool b21),(.str s22),(.int .i64 n23),(.sl 2 l24)]] 152)then bif (A.inr 0 (A.rlen l16))then (opS (A.cell (A.row l16 0) 0)).bind fun s25=>some (.val [(.str s25),(.sl 2 l5),(.sl 5 l6),(.int .i64 n7),(.str s8),(.int .i64 n9),(.str s10),(.sl 5 l11),(.sl 5 l12),(.sl 5 l13),(.sl 10 (A.rapp l14 [[(.int .i64 n15),(.sl 1 l16),(.int .i64 n17),(.sl 2 l18),(.sl 1 l19),(.int .i64 n20),(.bool b21),(.str s22),(.int .i64 n23),(.sl 2 l24)]]))]) else none else none
def b144n_eq (A:Sy)(E:Env)(en_ nd_:LL)(at_:Int)(fs_:BA)(fr_:Int)(nm_:BA)(in_ ou_ va_ eq_:LL)(qk_:Int)(qn_:LL)(qo_:Int)(qa_ qi_:LL)(qm_:Int)(qr_:Bool)(qv_:BA)(qe_:Int)(qc_:LL)(tk_ te_ tl_:Int)(on_:LL):fB A E 144 0 [.ptr 0 0, .agg [.d (.int .i64 qk_), .d (.sl 1 qn_), .d (.int .i64 qo_), .d (.sl 2 qa_), .d (.sl 1 qi_), .d (.int .i64 qm_), .d (.bool qr_), .d (.str qv_), .d (.int .i64 qe_), .d (.sl 2 qc_)], .nils, .agg [.d (.int .i64 tk_), .d (.int .i64 te_), .d (.int .i64 tl_)], .d (.sl 2 on_)] [.cells (.ty 179) [.d (.sl 2 en_), .d (.sl 5 nd_), .d (.int .i64 at_), .d (.str fs_), .d (.int .i64 fr_), .d (.str nm_), .d (.sl 5 in_), .d (.sl 5 ou_), .own 1, .own 2], .arr 94 5 va_, .arr 131 10 eq_]=b144n A E en_ nd_ at_ fs_ fr_ nm_ in_ ou_ va_ eq_ qk_ qn_ qo_ qa_ qi_ qm_ qr_ qv_ qe_ qc_ tk_ te_ tl_ on_:=by kernel_rfl
def b144k (A:Sy)(E:Env)(en_ nd_:LL)(at_:Int)(fs_:BA)(fr_:Int)(nm_:BA)(in_ ou_ va_ eq_:LL)(qk_ qo_:Int)(qa_ qi_:LL)(qm_:Int)(qr_:Bool)(qv_:BA)(qe_ tk_ te_ tl_:Int)(on_:LL):Option PRes:=cutO (bif (A.ieq 0 0)then bif (A.sfit fs_ (bs [46]))then (E.call 183 [(.d (.int .i64 (A.wrap .i64 (A.add fr_ 1))))]).bind fun p1=>(opS (A.cell p1.leaves 0)).bind fun s3=>bif (A.sfit (A.sapp fs_ (bs [46])) s3)then bif (A.fits va_ [[(.str (A.sapp (A.sapp fs_ (bs [46])) s3)),(.int .i64 tk_),(.int .i64 te_),(.int .i64 tl_),(.sl 2 on_)]] 64)then some (.inl [(.sl 2 en_),(.sl 5 nd_),(.int .i64 at_),(.str fs_),(.int .i64 (A.wrap .i64 (A.add fr_ 1))),(.str nm_),(.sl 5 in_),(.sl 5 ou_),(.sl 5 (A.rapp va_ [[(.str (A.sapp (A.sapp fs_ (bs [46])) s3)),(.int .i64 tk_),(.int .i64 te_),(.int .i64 tl_),(.sl 2 on_)]])),(.sl 10 eq_),(.int .i64 qk_),(.sl 1 [[(.str (A.sapp (A.sapp fs_ (bs [46])) s3))]]),(.int .i64 qo_),(.sl 2 qa_),(.sl 1 qi_),(.int .i64 qm_),(.bool qr_),(.str qv_),(.int .i64 qe_),(.sl 2 on_)]) else none else none else none else some (.inl [(.sl 2 en_),(.sl 5 nd_),(.int .i64 at_),(.str fs_),(.int .i64 fr_),(.str nm_),(.sl 5 in_),(.sl 5 ou_),(.sl 5 va_),(.sl 10 eq_),(.int .i64 qk_),(.sl 1 []),(.int .i64 qo_),(.sl 2 qa_),(.sl 1 qi_),(.int .i64 qm_),(.bool qr_),(.str qv_),(.int .i64 qe_),(.sl 2 on_)])) fun ds4=>oB A ds4 0 fun l5 l6 n7 s8 n9 s10 l11 l12 l13 l14=>oP A ds4 10 fun n15 l16 n17 l18 l19 n20 b21 s22 n23 l24=>bif (A.fits l14 [[(.int .i64 n15),(.sl 1 l16),(.int .i64 n17),(.sl 2 l18),(.sl 1 l19),(.int .i64 n20),(.bool b21),(.str s22),(.int .i64 n23),(.sl 2 l24)]] 152)then bif (A.inr 0 (A.rlen l16))then (opS (A.cell (A.row l16 0) 0)).bind fun s25=>some (.val [(.str s25),(.sl 2 l5),(.sl 5 l6),(.int .i64 n7),(.str s8),(.int .i64 n9),(.str s10),(.sl 5 l11),(.sl 5 l12),(.sl 5 l13),(.sl 10 (A.rapp l14 [[(.int .i64 n15),(.sl 1 l16),(.int .i64 n17),(.sl 2 l18),(.sl 1 l19),(.int .i64 n20),(.bool b21),(.str s22),(.int .i64 n23),(.sl 2 l24)]]))]) else none else none
def b144k_eq (A:Sy)(E:Env)(en_ nd_:LL)(at_:Int)(fs_:BA)(fr_:Int)(nm_:BA)(in_ ou_ va_ eq_:LL)(qk_ qo_:Int)(qa_ qi_:LL)(qm_:Int)(qr_:Bool)(qv_:BA)(qe_ tk_ te_ tl_:Int)(on_:LL):fB A E 144 0 [.ptr 0 0, .agg [.d (.int .i64 qk_), .nils, .d (.int .i64 qo_), .d (.sl 2 qa_), .d (.sl 1 qi_), .d (.int .i64 qm_), .d (.bool qr_), .d (.str qv_), .d (.int .i64 qe_), .nils], .nils, .agg [.d (.int .i64 tk_), .d (.int .i64 te_), .d (.int .i64 tl_)], .d (.sl 2 on_)] [.cells (.ty 179) [.d (.sl 2 en_), .d (.sl 5 nd_), .d (.int .i64 at_), .d (.str fs_), .d (.int .i64 fr_), .d (.str nm_), .d (.sl 5 in_), .d (.sl 5 ou_), .own 1, .own 2], .arr 94 5 va_, .arr 131 10 eq_]=b144k A E en_ nd_ at_ fs_ fr_ nm_ in_ ou_ va_ eq_ qk_ qo_ qa_ qi_ qm_ qr_ qv_ qe_ tk_ te_ tl_ on_:=by kernel_rfl
def g206 (A:Sy)(E:Env)(t_0 t_1 t_2:Int):Option PRes:=E.lp (fun ds1=>(opI (A.cell ds1 0) .i64).bind fun n2=>(opI (A.cell ds1 1) .i64).bind fun n3=>(opI (A.cell ds1 2) .i64).bind fun n4=>(opI (A.cell ds1 3) .i64).bind fun n5=>(opL (A.cell ds1 4) 1).bind fun l6=>(E.call 27 [(kT n3 n4 n5)]).bind fun p7=>(opI (A.cell p7.leaves 0) .i64).bind fun n9=>bif (A.ilt n2 n9)then bif (A.fits l6 [[(.int .i64 0)]] 8)then some (.inl [(.int .i64 (A.wrap .i64 (A.add n2 1))),(.int .i64 n3),(.int .i64 n4),(.int .i64 n5),(.sl 1 (A.rapp l6 [[(.int .i64 0)]]))]) else none else some (.inr (.own 2 1 l6))) [(.int .i64 0),(.int .i64 t_0),(.int .i64 t_1),(.int .i64 t_2),(.sl 1 [])]
def g206_eq (A:Sy)(E:Env)(t_0 t_1 t_2:Int):fT A E 206 [.agg [.d (.int .i64 t_0),V.d (.int .i64 t_1),V.d (.int .i64 t_2)]]=g206 A E t_0 t_1 t_2:=by kernel_rfl
def g48 (A:Sy)(E:Env)(p_0 p_1:LL):Option PRes:=(E.call 89 [(.agg [(.d (.sl 2 p_0)),(.d (.sl 5 p_1))])]).bind fun p1=>(opI (A.cell p1.leaves 0) .i64).bind fun n3=>(opI (A.cell p1.leaves 1) .i64).bind fun n4=>(opI (A.cell p1.leaves 2) .i64).bind fun n5=>bif (A.bnot (A.deq [(.int .i64 n3),(.int .i64 n4),(.int .i64 n5)] [(.int .i64 0),(.int .i64 0),(.int .i64 0)]))then some (.val [(.sl 2 []),(.sl 5 []),(.bool false)]) else E.lp (fun ds6=>(opI (A.cell ds6 0) .i64).bind fun n7=>(opL (A.cell ds6 1) 2).bind fun l8=>(opL (A.cell ds6 2) 5).bind fun l9=>(opL (A.cell ds6 3) 2).bind fun l10=>(opL (A.cell ds6 4) 5).bind fun l11=>bif (A.ilt n7 (A.rlen l9))then bif (A.inr n7 (A.rlen l9))then oN A (A.row l9 n7) 0 fun s12 l13 l14 l15 l16=>E.lp (fun ds17=>(opL (A.cell ds17 0) 6).bind fun l18=>(opI (A.cell ds17 1) .i64).bind fun n19=>(opL (A.cell ds17 2) 2).bind fun l20=>(opL (A.cell ds17 3) 5).bind fun l21=>(opI (A.cell ds17 4) .i64).bind fun n22=>(opS (A.cell ds17 5)).bind fun s23=>(opI (A.cell ds17 6) .i64).bind fun n24=>(opS (A.cell ds17 7)).bind fun s25=>(opL (A.cell ds17 8) 5).bind fun l26=>bif (A.ilt n19 (A.rlen l18))then bif (A.inr n19 (A.rlen l18))then (opS (A.cell (A.row l18 n19) 0)).bind fun s27=>(E.call 91 [(.agg [(.d (.sl 2 l20)),(.d (.sl 5 l21))]),(.d (.int .i64 n22)),(.d (.str s27))]).bind fun p28=>(opL (A.cell p28.leaves 0) 2).bind fun l30=>(opB (A.cell p28.leaves 1)).bind fun b31=>bif (A.inr n19 (A.rlen l18))then (opS (A.cell (A.row l18 n19) 0)).bind fun s32=>bif (A.inr n19 (A.rlen l18))then (opI (A.cell (A.skip 1 (A.row l18 n19)) 0) .i64).bind fun n33=>(opI (A.cell (A.skip 1 (A.row l18 n19)) 1) .i64).bind fun n34=>(opI (A.cell (A.skip 1 (A.row l18 n19)) 2) .i64).bind fun n35=>bif (A.fits l26 [[(.str s32),(.int .i64 n33),(.int .i64 n34),(.int .i64 n35),(.sl 2 l30)]] 64)then some (.inl [(.sl 6 l18),(.int .i64 (A.wrap .i64 (A.add n19 1))),(.sl 2 l20),(.sl 5 l21),(.int .i64 n22),(.str s23),(.int .i64 n24),(.str s25),(.sl 5 (A.rapp l26 [[(.str s32),(.int .i64 n33),(.int .i64 n34),(.int .i64 n35),(.sl 2 l30)]]))]) else none else none else none else none else E.lp (fun ds36=>(opL (A.cell ds36 0) 6).bind fun l37=>(opI (A.cell ds36 1) .i64).bind fun n38=>(opL (A.cell ds36 2) 2).bind fun l39=>(opL (A.cell ds36 3) 5).bind fun l40=>(opI (A.cell ds36 4) .i64).bind fun n41=>(opS (A.cell ds36 5)).bind fun s42=>(opI (A.cell ds36 6) .i64).bind fun n43=>(opS (A.cell ds36 7)).bind fun s44=>(opL (A.cell ds36 8) 5).bind fun l45=>bif (A.ilt n38 (A.rlen l37))then bif (A.inr n38 (A.rlen l37))then (opS (A.cell (A.row l37 n38) 0)).bind fun s46=>(E.call 91 [(.agg [(.d (.sl 2 l39)),(.d (.sl 5 l40))]),(.d (.int .i64 n41)),(.d (.str s46))]).bind fun p47=>(opL (A.cell p47.leaves 0) 2).bind fun l49=>(opB (A.cell p47.leaves 1)).bind fun b50=>bif (A.inr n38 (A.rlen l37))then (opS (A.cell (A.row l37 n38) 0)).bind fun s51=>bif (A.inr n38 (A.rlen l37))then (opI (A.cell (A.skip 1 (A.row l37 n38)) 0) .i64).bind fun n52=>(opI (A.cell (A.skip 1 (A.row l37 n38)) 1) .i64).bind fun n53=>(opI (A.cell (A.skip 1 (A.row l37 n38)) 2) .i64).bind fun n54=>bif (A.fits l45 [[(.str s51),(.int .i64 n52),(.int .i64 n53),(.int .i64 n54),(.sl 2 l49)]] 64)then some (.inl [(.sl 6 l37),(.int .i64 (A.wrap .i64 (A.add n38 1))),(.sl 2 l39),(.sl 5 l40),(.int .i64 n41),(.str s42),(.int .i64 n43),(.str s44),(.sl 5 (A.rapp l45 [[(.str s51),(.int .i64 n52),(.int .i64 n53),(.int .i64 n54),(.sl 2 l49)]]))]) else none else none else none else none else E.lp (fun ds55=>(opL (A.cell ds55 0) 6).bind fun l56=>(opI (A.cell ds55 1) .i64).bind fun n57=>(opL (A.cell ds55 2) 2).bind fun l58=>(opL (A.cell ds55 3) 5).bind fun l59=>(opI (A.cell ds55 4) .i64).bind fun n60=>(opS (A.cell ds55 5)).bind fun s61=>(opI (A.cell ds55 6) .i64).bind fun n62=>(opS (A.cell ds55 7)).bind fun s63=>(opL (A.cell ds55 8) 5).bind fun l64=>bif (A.ilt n57 (A.rlen l56))then bif (A.inr n57 (A.rlen l56))then (opS (A.cell (A.row l56 n57) 0)).bind fun s65=>(E.call 91 [(.agg [(.d (.sl 2 l58)),(.d (.sl 5 l59))]),(.d (.int .i64 n60)),(.d (.str s65))]).bind fun p66=>
 (opL (A.cell p66.leaves 0) 2).bind fun l68=>(opB (A.cell p66.leaves 1)).bind fun b69=>bif (A.inr n57 (A.rlen l56))then (opS (A.cell (A.row l56 n57) 0)).bind fun s70=>bif (A.inr n57 (A.rlen l56))then (opI (A.cell (A.skip 1 (A.row l56 n57)) 0) .i64).bind fun n71=>(opI (A.cell (A.skip 1 (A.row l56 n57)) 1) .i64).bind fun n72=>(opI (A.cell (A.skip 1 (A.row l56 n57)) 2) .i64).bind fun n73=>bif (A.fits l64 [[(.str s70),(.int .i64 n71),(.int .i64 n72),(.int .i64 n73),(.sl 2 l68)]] 64)then some (.inl [(.sl 6 l56),(.int .i64 (A.wrap .i64 (A.add n57 1))),(.sl 2 l58),(.sl 5 l59),(.int .i64 n60),(.str s61),(.int .i64 n62),(.str s63),(.sl 5 (A.rapp l64 [[(.str s70),(.int .i64 n71),(.int .i64 n72),(.int .i64 n73),(.sl 2 l68)]]))]) else none else none else none else none else cutO (E.lp (fun ds74=>(opI (A.cell ds74 0) .i64).bind fun n75=>(opI (A.cell ds74 1) .i64).bind fun n76=>(opL (A.cell ds74 2) 2).bind fun l77=>(opL (A.cell ds74 3) 5).bind fun l78=>(opL (A.cell ds74 4) 2).bind fun l79=>(opL (A.cell ds74 5) 5).bind fun l80=>oN A ds74 6 fun s81 l82 l83 l84 l85=>oB A ds74 11 fun l86 l87 n88 s89 n90 s91 l92 l93 l94 l95=>bif (A.ilt n76 (A.rlen l85))then bif (A.inr n76 (A.rlen l85))then (opL (A.cell (A.row l85 n76) 0) 1).bind fun l96=>bif (A.inr 0 (A.rlen l96))then (opS (A.cell (A.row l96 0) 0)).bind fun s97=>(E.call 91 [(.agg [(.d (.sl 2 l77)),(.d (.sl 5 l78))]),(.d (.int .i64 n75)),(.d (.str s97))]).bind fun p98=>(opL (A.cell p98.leaves 0) 2).bind fun l100=>(opB (A.cell p98.leaves 1)).bind fun b101=>bif (A.inr n76 (A.rlen l85))then oE A (A.skip 1 (A.row l85 n76)) 0 fun n102 n103 s104 n105 l106 l107=>bif (A.inr n76 (A.rlen l85))then (opL (A.cell (A.row l85 n76) 0) 1).bind fun l108=>(E.call 1000092 (kN4 (kE n102 n103 s104 n105 l106 l107) (.d (.sl 1 l108)) (.d (.sl 2 l100)) l86 l87 n88 s97 0 s91 l92 l93 l94 l95)).bind fun p109=>(opS (A.cell p109.leaves 0)).bind fun s111=>oB A p109.leaves 1 fun l112 l113 n114 s115 n116 s117 l118 l119 l120 l121=>some (.inl [(.int .i64 n75),(.int .i64 (A.wrap .i64 (A.add n76 1))),(.sl 2 l77),(.sl 5 l78),(.sl 2 l79),(.sl 5 l80),(.str s81),(.sl 6 l82),(.sl 6 l83),(.sl 6 l84),(.sl 7 l85),(.sl 2 l112),(.sl 5 l113),(.int .i64 n114),(.str s115),(.int .i64 n116),(.str s117),(.sl 5 l118),(.sl 5 l119),(.sl 5 l120),(.sl 10 l121)]) else none else none else none else none else some (.inr (.inl [(.int .i64 n75),(.sl 2 l77),(.sl 5 l78),(.sl 2 l79),(.sl 5 l80),(.sl 2 l86),(.sl 5 l87),(.int .i64 n88),(.str s89),(.int .i64 n90),(.str s91),(.sl 5 l92),(.sl 5 l93),(.sl 5 l94),(.sl 10 l95)]))) [(.int .i64 n7),(.int .i64 0),(.sl 2 l8),(.sl 5 l9),(.sl 2 l10),(.sl 5 l11),(.str s12),(.sl 6 l13),(.sl 6 l14),(.sl 6 l15),(.sl 7 l16),(.sl 2 l58),(.sl 5 l59),(.int .i64 n60),(.str s61),(.int .i64 n62),(.str s12),(.sl 5 l26),(.sl 5 l45),(.sl 5 l64),(.sl 10 [])]) fun ds122=>(opI (A.cell ds122 0) .i64).bind fun n123=>(opL (A.cell ds122 1) 2).bind fun l124=>(opL (A.cell ds122 2) 5).bind fun l125=>(opL (A.cell ds122 3) 2).bind fun l126=>(opL (A.cell ds122 4) 5).bind fun l127=>oB A ds122 5 fun l128 l129 n130 s131 n132 s133 l134 l135 l136 l137=>bif (A.fits l127 [[(.str s133),(.sl 5 l134),(.sl 5 l135),(.sl 5 l136),(.sl 10 l137)]] 112)then some (.inr (.inr (.inr (.inl [(.int .i64 (A.wrap .i64 (A.add n123 1))),(.sl 2 l124),(.sl 5 l125),(.sl 2 l126),(.sl 5 (A.rapp l127 [[(.str s133),(.sl 5 l134),(.sl 5 l135),(.sl 5 l136),(.sl 10 l137)]]))])))) else none) [(.sl 6 l15),(.int .i64 0),(.sl 2 l39),(.sl 5 l40),(.int .i64 n41),(.str s42),(.int .i64 n43),(.str s44),(.sl 5 [])]) [(.sl 6 l14),(.int .i64 0),(.sl 2 l20),(.sl 5 l21),(.int .i64 n22),(.str s23),(.int .i64 n24),(.str s25),(.sl 5 [])]) [(.sl 6 l13),(.int .i64 0),(.sl 2 l8),(.sl 5 l9),(.int .i64 n7),(.str (bs [])),(.int .i64 0),(.str (bs [])),(.sl 5 [])] else none else some (.inr (.val [(.sl 2 l10),(.sl 5 l11),(.bool true)]))) [(.int .i64 0),(.sl 2 p_0),(.sl 5 p_1),(.sl 2 p_0),(.sl 5 [])]
def g48_eq (A:Sy)(E:Env)(p_0 p_1:LL):fT A E 48 [.agg [.d (.sl 2 p_0),V.d (.sl 5 p_1)]]=g48 A E p_0 p_1:=by kernel_rfl
def g184 (A:Sy)(E:Env)(q_0:Int)(q_1:LL)(q_2:Int)(q_3 q_4:LL)(q_5:Int)(q_6:Bool)(q_7:BA)(q_8:Int)(q_9:LL):Option PRes:=E.lp (fun ds1=>(opI (A.cell ds1 0) .i64).bind fun n2=>oP A ds1 1 fun n3 l4 n5 l6 l7 n8 b9 s10 n11 l12=>(opL (A.cell ds1 11) 1).bind fun l13=>cutO (bif (A.ilt n2 (A.rlen l6))then some (.inl [(.bool (A.bnot (A.ieq n3 5)))]) else some (.inl [(.bool false)])) fun ds14=>(opB (A.cell ds14 0)).bind fun b15=>bif b15 then bif (A.inr n2 (A.rlen l6))then (opS (A.cell (A.row l6 n2) 0)).bind fun s16=>bif (A.fits l13 [[(.str s16)]] 16)then some (.inl [(.int .i64 (A.wrap .i64 (A.add n2 1))),(.int .i64 n3),(.sl 1 l4),(.int .i64 n5),(.sl 2 l6),(.sl 1 l7),(.int .i64 n8),(.bool b9),(.str s10),(.int .i64 n11),(.sl 2 l12),(.sl 1 (A.rapp l13 [[(.str s16)]]))]) else none else none else bif b9 then bif (A.fits l13 [[(.str s10)]] 16)then E.lp (fun ds17=>(opI (A.cell ds17 0) .i64).bind fun n18=>oP A ds17 1 fun n19 l20 n21 l22 l23 n24 b25 s26 n27 l28=>(opL (A.cell ds17 11) 1).bind fun l29=>bif (A.ilt n18 (A.rlen l28))then bif (A.inr n18 (A.rlen l28))then (opS (A.cell (A.row l28 n18) 0)).bind fun s30=>bif (A.fits l29 [[(.str s30)]] 16)then some (.inl [(.int .i64 (A.wrap .i64 (A.add n18 1))),(.int .i64 n19),(.sl 1 l20),(.int .i64 n21),(.sl 2 l22),(.sl 1 l23),(.int .i64 n24),(.bool b25),(.str s26),(.int .i64 n27),(.sl 2 l28),(.sl 1 (A.rapp l29 [[(.str s30)]]))]) else none else none else E.lp (fun ds31=>(opI (A.cell ds31 0) .i64).bind fun n32=>(opL (A.cell ds31 1) 1).bind fun l33=>(opL (A.cell ds31 2) 1).bind fun l34=>bif (A.ilt n32 (A.rlen l33))then bif (A.inr n32 (A.rlen l33))then (opS (A.cell (A.rown l33 (A.nat n32)) 0)).bind fun s35=>bif (A.bnot (A.seq s35 (bs [])))then bif (A.inr n32 (A.rlen l33))then (opS (A.cell (A.rown l33 (A.nat n32)) 0)).bind fun s36=>bif (A.fits l34 [[(.str s36)]] 16)then some (.inl [(.int .i64 (A.wrap .i64 (A.add n32 1))),(.sl 1 l33),(.sl 1 (A.rapp l34 [[(.str s36)]]))]) else none else none else some (.inl [(.int .i64 (A.wrap .i64 (A.add n32 1))),(.sl 1 l33),(.sl 1 l34)]) else none else some (.inr (.inr (.inr (.own 9 1 l34))))) [(.int .i64 0),(.sl 1 l29),(.sl 1 [])]) [(.int .i64 0),(.int .i64 n3),(.sl 1 l4),(.int .i64 n5),(.sl 2 l6),(.sl 1 l7),(.int .i64 n8),(.bool b9),(.str s10),(.int .i64 n11),(.sl 2 l12),(.sl 1 (A.rapp l13 [[(.str s10)]]))] else none else E.lp (fun ds37=>(opI (A.cell ds37 0) .i64).bind fun n38=>oP A ds37 1 fun n39 l40 n41 l42 l43 n44 b45 s46 n47 l48=>(opL (A.cell ds37 11) 1).bind fun l49=>bif (A.ilt n38 (A.rlen l48))then bif (A.inr n38 (A.rlen l48))then (opS (A.cell (A.row l48 n38) 0)).bind fun s50=>bif (A.fits l49 [[(.str s50)]] 16)then some (.inl [(.int .i64 (A.wrap .i64 (A.add n38 1))),(.int .i64 n39),(.sl 1 l40),(.int .i64 n41),(.sl 2 l42),(.sl 1 l43),(.int .i64 n44),(.bool b45),(.str s46),(.int .i64 n47),(.sl 2 l48),(.sl 1 (A.rapp l49 [[(.str s50)]]))]) else none else none else E.lp (fun ds51=>(opI (A.cell ds51 0) .i64).bind fun n52=>(opL (A.cell ds51 1) 1).bind fun l53=>(opL (A.cell ds51 2) 1).bind fun l54=>bif (A.ilt n52 (A.rlen l53))then bif (A.inr n52 (A.rlen l53))then (opS (A.cell (A.rown l53 (A.nat n52)) 0)).bind fun s55=>bif (A.bnot (A.seq s55 (bs [])))then bif (A.inr n52 (A.rlen l53))then (opS (A.cell (A.rown l53 (A.nat n52)) 0)).bind fun s56=>bif (A.fits l54 [[(.str s56)]] 16)then some (.inl [(.int .i64 (A.wrap .i64 (A.add n52 1))),(.sl 1 l53),(.sl 1 (A.rapp l54 [[(.str s56)]]))]) else none else none else some (.inl [(.int .i64 (A.wrap .i64 (A.add n52 1))),(.sl 1 l53),(.sl 1 l54)]) else none else some (.inr (.inr (.inr (.own 9 1 l54))))) [(.int .i64 0),(.sl 1 l49),(.sl 1 [])]) [(.int .i64 0),(.int .i64 n3),(.sl 1 l4),(.int .i64 n5),(.sl 2 l6),(.sl 1 l7),(.int .i64 n8),(.bool b9),(.str s10),(.int .i64 n11),(.sl 2 l12),(.sl 1 l13)]) [(.int .i64 0),(.int .i64 q_0),(.sl 1 q_1),(.int .i64 q_2),(.sl 2 q_3),(.sl 1 q_4),(.int .i64 q_5),(.bool q_6),(.str q_7),(.int .i64 q_8),(.sl 2 q_9),(.sl 1 [])]
def g184_eq (A:Sy)(E:Env)(q_0:Int)(q_1:LL)(q_2:Int)(q_3 q_4:LL)(q_5:Int)(q_6:Bool)(q_7:BA)(q_8:Int)(q_9:LL):fT A E 184 [.agg [.d (.int .i64 q_0),V.d (.sl 1 q_1),V.d (.int .i64 q_2),V.d (.sl 2 q_3),V.d (.sl 1 q_4),V.d (.int .i64 q_5),V.d (.bool q_6),V.d (.str q_7),V.d (.int .i64 q_8),V.d (.sl 2 q_9)]]=g184 A E q_0 q_1 q_2 q_3 q_4 q_5 q_6 q_7 q_8 q_9:=by kernel_rfl
def g149 (A:Sy)(E:Env)(f_0:BA)(f_1 f_2 f_3 f_4:LL):Option PRes:=bif (A.fits [] f_1 64)then bif (A.fits (A.rapp [] f_1) f_2 64)then bif (A.fits (A.rapp (A.rapp [] f_1) f_2) f_3 64)then some (.own 94 5 (A.rapp (A.rapp (A.rapp [] f_1) f_2) f_3)) else none else none else none
def g149_eq (A:Sy)(E:Env)(f_0:BA)(f_1 f_2 f_3 f_4:LL):fT A E 149 [.agg [.d (.str f_0),V.d (.sl 5 f_1),V.d (.sl 5 f_2),V.d (.sl 5 f_3),V.d (.sl 10 f_4)]]=g149 A E f_0 f_1 f_2 f_3 f_4:=by kernel_rfl
def g102 (A:Sy)(E:Env)(f_0:BA)(f_1 f_2 f_3 f_4:LL)(name_:BA):Option PRes:=(E.call 149 [(.agg [(.d (.str f_0)),(.d (.sl 5 f_1)),(.d (.sl 5 f_2)),(.d (.sl 5 f_3)),(.d (.sl 10 f_4))])]).bind fun p1=>(opL (A.cell p1.leaves 0) 5).bind fun l3=>E.lp (fun ds4=>(opS (A.cell ds4 0)).bind fun s5=>(opL (A.cell ds4 1) 5).bind fun l6=>(opI (A.cell ds4 2) .i64).bind fun n7=>(opS (A.cell ds4 3)).bind fun s8=>(opI (A.cell ds4 4) .i64).bind fun n9=>(opI (A.cell ds4 5) .i64).bind fun n10=>(opI (A.cell ds4 6) .i64).bind fun n11=>bif (A.ilt n7 (A.rlen l6))then bif (A.inr n7 (A.rlen l6))then (opS (A.cell (A.row l6 n7) 0)).bind fun s12=>bif (A.seq s12 s5)then bif (A.inr n7 (A.rlen l6))then oV A (A.row l6 n7) 0 fun s13 n14 n15 n16 l17=>some (.inr (.val [(.str s13),(.int .i64 n14),(.int .i64 n15),(.int .i64 n16),(.sl 2 l17),(.bool true)])) else none else some (.inl [(.str s5),(.sl 5 l6),(.int .i64 (A.wrap .i64 (A.add n7 1))),(.str s8),(.int .i64 n9),(.int .i64 n10),(.int .i64 n11)]) else none else some (.inr (.val [(.str (bs [])),(.int .i64 0),(.int .i64 0),(.int .i64 0),(.sl 2 []),(.bool false)]))) [(.str name_),(.sl 5 l3),(.int .i64 0),(.str (bs [])),(.int .i64 0),(.int .i64 0),(.int .i64 0)]
def g102_eq (A:Sy)(E:Env)(f_0:BA)(f_1 f_2 f_3 f_4:LL)(name_:BA):fT A E 102 [.agg [.d (.str f_0),V.d (.sl 5 f_1),V.d (.sl 5 f_2),V.d (.sl 5 f_3),V.d (.sl 10 f_4)],V.d (.str name_)]=g102 A E f_0 f_1 f_2 f_3 f_4 name_:=by kernel_rfl
def g185 (A:Sy)(E:Env)(f_0:BA)(f_1 f_2 f_3 f_4 placed_:LL)(name_:BA):Option PRes:=E.lp (fun ds1=>(opL (A.cell ds1 0) 1).bind fun l2=>(opS (A.cell ds1 1)).bind fun s3=>(opI (A.cell ds1 2) .i64).bind fun n4=>oF A ds1 3 fun s5 l6 l7 l8 l9=>bif (A.ilt n4 (A.rlen l9))then E.lp (fun ds10=>(opL (A.cell ds10 0) 1).bind fun l11=>(opS (A.cell ds10 1)).bind fun s12=>(opI (A.cell ds10 2) .i64).bind fun n13=>(opI (A.cell ds10 3) .i64).bind fun n14=>oF A ds10 4 fun s15 l16 l17 l18 l19=>bif (A.inr n13 (A.rlen l19))then (opL (A.cell (A.skip 1 (A.row l19 n13)) 0) 1).bind fun l20=>bif (A.ilt n14 (A.rlen l20))then bif (A.inr n13 (A.rlen l11))then (opB (A.cell (A.row l11 n13) 0)).bind fun b21=>cutO (bif (A.bnot b21)then bif (A.inr n13 (A.rlen l19))then (opL (A.cell (A.skip 1 (A.row l19 n13)) 0) 1).bind fun l22=>bif (A.inr n14 (A.rlen l22))then (opS (A.cell (A.row l22 n14) 0)).bind fun s23=>some (.inl [(.bool (A.seq s23 s12))]) else none else none else some (.inl [(.bool false)])) fun ds24=>(opB (A.cell ds24 0)).bind fun b25=>bif b25 then some (.inr (.inr (.val [(.bool true)]))) else some (.inl [(.sl 1 l11),(.str s12),(.int .i64 n13),(.int .i64 (A.wrap .i64 (A.add n14 1))),(.str s15),(.sl 5 l16),(.sl 5 l17),(.sl 5 l18),(.sl 10 l19)]) else none else some (.inr (.inl [(.sl 1 l11),(.str s12),(.int .i64 (A.wrap .i64 (A.add n13 1))),(.str s15),(.sl 5 l16),(.sl 5 l17),(.sl 5 l18),(.sl 10 l19)])) else none) [(.sl 1 l2),(.str s3),(.int .i64 n4),(.int .i64 0),(.str s5),(.sl 5 l6),(.sl 5 l7),(.sl 5 l8),(.sl 10 l9)] else some (.inr (.val [(.bool false)]))) [(.sl 1 placed_),(.str name_),(.int .i64 0),(.str f_0),(.sl 5 f_1),(.sl 5 f_2),(.sl 5 f_3),(.sl 10 f_4)]
def g185_eq (A:Sy)(E:Env)(f_0:BA)(f_1 f_2 f_3 f_4 placed_:LL)(name_:BA):fT A E 185 [.agg [.d (.str f_0),V.d (.sl 5 f_1),V.d (.sl 5 f_2),V.d (.sl 5 f_3),V.d (.sl 10 f_4)],V.d (.sl 1 placed_),V.d (.str name_)]=g185 A E f_0 f_1 f_2 f_3 f_4 placed_ name_:=by kernel_rfl
def g145 (A:Sy)(E:Env)(f_0:BA)(f_1 f_2 f_3 f_4 placed_:LL)(i_:Int):Option PRes:=bif (A.inr i_ (A.rlen f_4))then oP A (A.row f_4 i_) 0 fun n1 l2 n3 l4 l5 n6 b7 s8 n9 l10=>(E.call 184 [(kQ n1 l2 n3 l4 l5 n6 b7 s8 n9 l10)]).bind fun p11=>(opL (A.cell p11.leaves 0) 1).bind fun l13=>E.lp (fun ds14=>(opL (A.cell ds14 0) 1).bind fun l15=>(opI (A.cell ds14 1) .i64).bind fun n16=>(opL (A.cell ds14 2) 1).bind fun l17=>(opI (A.cell ds14 3) .i64).bind fun n18=>oF A ds14 4 fun s19 l20 l21 l22 l23=>bif (A.ilt n18 (A.rlen l17))then bif (A.inr n18 (A.rlen l17))then (opS (A.cell (A.row l17 n18) 0)).bind fun s24=>(E.call 185 [(.agg [(.d (.str s19)),(.d (.sl 5 l20)),(.d (.sl 5 l21)),(.d (.sl 5 l22)),(.d (.sl 10 l23))]),(.d (.sl 1 l15)),(.d (.str s24))]).bind fun p25=>(opB (A.cell p25.leaves 0)).bind fun b27=>bif b27 then some (.inr (.val [(.bool false)])) else some (.inl [(.sl 1 l15),(.int .i64 n16),(.sl 1 l17),(.int .i64 (A.wrap .i64 (A.add n18 1))),(.str s19),(.sl 5 l20),(.sl 5 l21),(.sl 5 l22),(.sl 10 l23)]) else none else bif (A.inr n16 (A.rlen l15))then (opB (A.cell (A.row l15 n16) 0)).bind fun b28=>some (.inr (.val [(.bool (A.bnot b28))])) else none) [(.sl 1 placed_),(.int .i64 i_),(.sl 1 l13),(.int .i64 0),(.str f_0),(.sl 5 f_1),(.sl 5 f_2),(.sl 5 f_3),(.sl 10 f_4)] else none
def g145_eq (A:Sy)(E:Env)(f_0:BA)(f_1 f_2 f_3 f_4 placed_:LL)(i_:Int):fT A E 145 [.agg [.d (.str f_0),V.d (.sl 5 f_1),V.d (.sl 5 f_2),V.d (.sl 5 f_3),V.d (.sl 10 f_4)],V.d (.sl 1 placed_),V.d (.int .i64 i_)]=g145 A E f_0 f_1 f_2 f_3 f_4 placed_ i_:=by kernel_rfl
def g93 (A:Sy)(E:Env)(f_0:BA)(f_1 f_2 f_3 f_4:LL):Option PRes:=bif (A.mkok (A.rlen f_4) (A.rlen f_4) 1)then E.lp (fun ds1=>oF A ds1 0 fun s2 l3 l4 l5 l6=>(opL (A.cell ds1 5) 1).bind fun l7=>(opL (A.cell ds1 6) 1).bind fun l8=>bif (A.ilt (A.rlen l8) (A.rlen l6))then E.lp (fun ds9=>(opI (A.cell ds9 0) .i64).bind fun n10=>(opI (A.cell ds9 1) .i64).bind fun n11=>oF A ds9 2 fun s12 l13 l14 l15 l16=>(opL (A.cell ds9 7) 1).bind fun l17=>(opL (A.cell ds9 8) 1).bind fun l18=>cutO (bif (A.ilt n11 (A.rlen l16))then some (.inl [(.bool (A.ilt n10 0))]) else some (.inl [(.bool false)])) fun ds19=>(opB (A.cell ds19 0)).bind fun b20=>bif b20 then (E.call 145 [(.agg [(.d (.str s12)),(.d (.sl 5 l13)),(.d (.sl 5 l14)),(.d (.sl 5 l15)),(.d (.sl 10 l16))]),(.d (.sl 1 l17)),(.d (.int .i64 n11))]).bind fun p21=>(opB (A.cell p21.leaves 0)).bind fun b23=>bif b23 then some (.inl [(.int .i64 n11),(.int .i64 (A.wrap .i64 (A.add n11 1))),(.str s12),(.sl 5 l13),(.sl 5 l14),(.sl 5 l15),(.sl 10 l16),(.sl 1 l17),(.sl 1 l18)]) else some (.inl [(.int .i64 n10),(.int .i64 (A.wrap .i64 (A.add n11 1))),(.str s12),(.sl 5 l13),(.sl 5 l14),(.sl 5 l15),(.sl 10 l16),(.sl 1 l17),(.sl 1 l18)]) else bif (A.ilt n10 0)then some (.inr (.inr (.val [(.sl 1 l18),(.bool false)]))) else bif (A.inr n10 (A.rlen l17))then bif (A.inrn (A.nat n10) l17)then bif (A.fits l18 [[(.int .i64 n10)]] 8)then some (.inr (.inl [(.str s12),(.sl 5 l13),(.sl 5 l14),(.sl 5 l15),(.sl 10 l16),(.sl 1 (A.rput l17 (A.nat n10) 0 [(.bool true)])),(.sl 1 (A.rapp l18 [[(.int .i64 n10)]]))])) else none else none else none) [(.int .i64 (-1)),(.int .i64 0),(.str s2),(.sl 5 l3),(.sl 5 l4),(.sl 5 l5),(.sl 10 l6),(.sl 1 l7),(.sl 1 l8)] else some (.inr (.val [(.sl 1 l8),(.bool true)]))) [(.str f_0),(.sl 5 f_1),(.sl 5 f_2),(.sl 5 f_3),(.sl 10 f_4),(.sl 1 (A.rep (A.rlen f_4) [(.bool false)])),(.sl 1 [])] else none
def g93_eq (A:Sy)(E:Env)(f_0:BA)(f_1 f_2 f_3 f_4:LL):fT A E 93 [.agg [.d (.str f_0),V.d (.sl 5 f_1),V.d (.sl 5 f_2),V.d (.sl 5 f_3),V.d (.sl 10 f_4)]]=g93 A E f_0 f_1 f_2 f_3 f_4:=by kernel_rfl
def g49 (A:Sy)(E:Env)(f_0:BA)(f_1 f_2 f_3 f_4:LL):Option PRes:=(E.call 93 [(.agg [(.d (.str f_0)),(.d (.sl 5 f_1)),(.d (.sl 5 f_2)),(.d (.sl 5 f_3)),(.d (.sl 10 f_4))])]).bind fun p1=>(opL (A.cell p1.leaves 0) 1).bind fun l3=>(opB (A.cell p1.leaves 1)).bind fun b4=>bif (A.bnot b4)then some (.val [(.str (bs [])),(.sl 5 []),(.sl 5 []),(.sl 5 []),(.sl 10 []),(.bool false)]) else E.lp (fun ds5=>(opL (A.cell ds5 0) 1).bind fun l6=>(opI (A.cell ds5 1) .i64).bind fun n7=>oF A ds5 2 fun s8 l9 l10 l11 l12=>(opS (A.cell ds5 7)).bind fun s13=>(opL (A.cell ds5 8) 10).bind fun l14=>bif (A.ilt n7 (A.rlen l6))then bif (A.inr n7 (A.rlen l6))then (opI (A.cell (A.row l6 n7) 0) .i64).bind fun n15=>bif (A.inr n15 (A.rlen l12))then oP A (A.row l12 n15) 0 fun n16 l17 n18 l19 l20 n21 b22 s23 n24 l25=>bif (A.fits l14 [[(.int .i64 n16),(.sl 1 l17),(.int .i64 n18),(.sl 2 l19),(.sl 1 l20),(.int .i64 n21),(.bool b22),(.str s23),(.int .i64 n24),(.sl 2 l25)]] 152)then some (.inl [(.sl 1 l6),(.int .i64 (A.wrap .i64 (A.add n7 1))),(.str s8),(.sl 5 l9),(.sl 5 l10),(.sl 5 l11),(.sl 10 l12),(.str s13),(.sl 10 (A.rapp l14 [[(.int .i64 n16),(.sl 1 l17),(.int .i64 n18),(.sl 2 l19),(.sl 1 l20),(.int .i64 n21),(.bool b22),(.str s23),(.int .i64 n24),(.sl 2 l25)]]))]) else none else none else none else some (.inr (.val [(.str s8),(.sl 5 l9),(.sl 5 l10),(.sl 5 l11),(.sl 10 l14),(.bool true)]))) [(.sl 1 l3),(.int .i64 0),(.str f_0),(.sl 5 f_1),(.sl 5 f_2),(.sl 5 f_3),(.sl 10 f_4),(.str (bs [])),(.sl 10 [])]
def g49_eq (A:Sy)(E:Env)(f_0:BA)(f_1 f_2 f_3 f_4:LL):fT A E 49 [.agg [.d (.str f_0),V.d (.sl 5 f_1),V.d (.sl 5 f_2),V.d (.sl 5 f_3),V.d (.sl 10 f_4)]]=g49 A E f_0 f_1 f_2 f_3 f_4:=by kernel_rfl
def g20 (A:Sy)(E:Env)(p_0 p_1:LL):Option PRes:=(E.call 48 [(.agg [(.d (.sl 2 p_0)),(.d (.sl 5 p_1))])]).bind fun p1=>(opL (A.cell p1.leaves 0) 2).bind fun l3=>(opL (A.cell p1.leaves 1) 5).bind fun l4=>(opB (A.cell p1.leaves 2)).bind fun b5=>bif (A.bnot b5)then some (.val [(.sl 2 []),(.sl 5 []),(.bool false)]) else E.lp (fun ds6=>(opI (A.cell ds6 0) .i64).bind fun n7=>(opL (A.cell ds6 1) 2).bind fun l8=>(opL (A.cell ds6 2) 5).bind fun l9=>(opL (A.cell ds6 3) 2).bind fun l10=>(opL (A.cell ds6 4) 5).bind fun l11=>bif (A.ilt n7 (A.rlen l9))then bif (A.inr n7 (A.rlen l9))then oF A (A.row l9 n7) 0 fun s12 l13 l14 l15 l16=>(E.call 49 [(.agg [(.d (.str s12)),(.d (.sl 5 l13)),(.d (.sl 5 l14)),(.d (.sl 5 l15)),(.d (.sl 10 l16))])]).bind fun p17=>oF A p17.leaves 0 fun s19 l20 l21 l22 l23=>(opB (A.cell p17.leaves 5)).bind fun b24=>bif (A.bnot b24)then some (.inr (.val [(.sl 2 []),(.sl 5 []),(.bool false)])) else bif (A.fits l11 [[(.str s19),(.sl 5 l20),(.sl 5 l21),(.sl 5 l22),(.sl 10 l23)]] 112)then some (.inl [(.int .i64 (A.wrap .i64 (A.add n7 1))),(.sl 2 l8),(.sl 5 l9),(.sl 2 l10),(.sl 5 (A.rapp l11 [[(.str s19),(.sl 5 l20),(.sl 5 l21),(.sl 5 l22),(.sl 10 l23)]]))]) else none else none else some (.inr (.val [(.sl 2 l10),(.sl 5 l11),(.bool true)]))) [(.int .i64 0),(.sl 2 l3),(.sl 5 l4),(.sl 2 l3),(.sl 5 [])]
def g20_eq (A:Sy)(E:Env)(p_0 p_1:LL):fT A E 20 [.agg [.d (.sl 2 p_0),V.d (.sl 5 p_1)]]=g20 A E p_0 p_1:=by kernel_rfl
end
end Go.Vm
end
