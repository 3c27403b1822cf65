/-
  Part TL of the proof. What is proved by the whole: the statement that the claim names, with no condition. This part: lemmas.
-/
import Derived.Test.YtdckoceiokaelaaGreatDoorTK
set_option linter.unusedSimpArgs false
set_option linter.unusedVariables false

section
set_option linter.all false
set_option maxRecDepth 100000
set_option maxHeartbeats 4000000
namespace Go.Vm
open Go.Proofs
def Mv.eqB (a b:Mv):Bool:=decide (tb a.p=tb b.p)&&a.e.eqB b.e
def Mv.v (m:Mv):V:=match m with
 |⟨p, .mk k n s o a u⟩=> .agg [.d (.str p), .d (.int .i64 k), .d (.int .i64 n), .d (.str s), .d (.int .i64 o), .d (.sl 1 (srows a)), .d (.sl 6 (Ex.rows u))]
theorem c_m35 (x y:Mv)(hx:x.e.fine∧x.e.size≤1000000):cF 35 [x.v,y.v]=some (.val [.bool (x.eqB y)]):=by
 obtain⟨p,k,n,s,o,a,u⟩:=x
 obtain⟨q,k2,n2,s2,o2,a2,u2⟩:=y
 have h1:=c_xSame 1000000 k n s o a u k2 n2 s2 o2 a2 u2 hx.2 (Nat.le_refl _) hx.1
 show cF 35 [.agg [.d (.str p), .d (.int .i64 k), .d (.int .i64 n), .d (.str s), .d (.int .i64 o), .d (.sl 1 (srows a)), .d (.sl 6 (Ex.rows u))], .agg [.d (.str q), .d (.int .i64 k2), .d (.int .i64 n2), .d (.str s2), .d (.int .i64 o2), .d (.sl 1 (srows a2)), .d (.sl 6 (Ex.rows u2))]]=_
 refine cOf (by kernel_rfl) rfl ?_
 rw[g35_eq]
 simp only [g35,go1,Nat.reduceAdd,Int.reduceEq,Int.reduceLT,Int.reduceLE,Int.reduceSub,Int.reduceAdd,seq_tb,h1]
 rfl
theorem c_mEqF (u v:List Mv)(hu:u.length≤1000000)(hf:mvFine u):
  cF 34 [.d (.sl 7 (mrows u)), .d (.sl 7 (mrows v)), .fn 35 []]=some (.val [.bool (eqL Mv.eqB u v)]):=by
 refine cOf (by kernel_rfl) rfl ?_
 rw[g34_35_eq]
 simp only [g34_35,go1,Nat.reduceAdd,Int.reduceEq,Int.reduceLT,Int.reduceLE,Int.reduceSub,Int.reduceAdd,mrows_len]
 cases hd:decide ((u.length:Int)=(v.length:Int))with
 |false=>
  have hd:=of_decide_eq_false hd
  rw[eqL_ne (f:=Mv.eqB) (show u.length≠v.length by omega)]
  rfl
 |true=>
  have hl:u.length=v.length:=by have:=of_decide_eq_true hd;omega
  simp only [go1,Nat.reduceAdd,Int.reduceEq,Int.reduceLT,Int.reduceLE,Int.reduceSub,Int.reduceAdd]
  refine loopF_at (fun i:Nat=>[.sl 7 (mrows v), .sl 7 (mrows u), .int .i64 (u.length:Int), .int .i64 (i:Int)]) (fun i=>i≤u.length∧eqL Mv.eqB u v=eqL Mv.eqB (u.drop i) (v.drop i)) (fun i=>u.length - i) (fun i hi=> ?_) 0 ⟨Nat.zero_le _,rfl⟩
  obtain⟨h1,h2⟩:=hi
  by_cases hlt:i < u.length
  ·have hlt2:i < v.length:=by omega
   have hx:=List.getElem?_eq_getElem hlt
   have hy:=List.getElem?_eq_getElem hlt2
   have hxf:=hf u[i] (List.getElem_mem hlt)
   generalize u[i]=x at hx hxf
   generalize v[i]=y at hy
   have hs:=eqL_step Mv.eqB hx hy
   have hc:=c_m35 x y hxf
   obtain⟨p,k,n,s,o,a,w⟩:=x
   obtain⟨q,k2,n2,s2,o2,a2,w2⟩:=y
   have hr:sy.row (mrows u) (i:Int)= [.str p, .int .i64 k, .int .i64 n, .str s, .int .i64 o, .sl 1 (srows a), .sl 6 (Ex.rows w)]:=mrow_at hx
   have hr2:sy.row (mrows v) (i:Int)= [.str q, .int .i64 k2, .int .i64 n2, .str s2, .int .i64 o2, .sl 1 (srows a2), .sl 6 (Ex.rows w2)]:=mrow_at hy
   have hc:cF 35 [.agg [.d (.str p), .d (.int .i64 k), .d (.int .i64 n), .d (.str s), .d (.int .i64 o), .d (.sl 1 (srows a)), .d (.sl 6 (Ex.rows w))], .agg [.d (.str q), .d (.int .i64 k2), .d (.int .i64 n2), .d (.str s2), .d (.int .i64 o2), .d (.sl 1 (srows a2)), .d (.sl 6 (Ex.rows w2))]]=_:=hc
   simp only [go1,Nat.reduceAdd,Int.reduceEq,Int.reduceLT,Int.reduceLE,Int.reduceSub,Int.reduceAdd,mrows_len,ilt_at hlt,inr_at hlt,inr_at hlt2,hr,hr2,oE,hc,wrap_succ hlt (by omega)]
   cases hq:Mv.eqB ⟨p, .mk k n s o a w⟩ ⟨q, .mk k2 n2 s2 o2 a2 w2⟩with
   |false=>
    right
    rw[h2,hs,hq];rfl
   |true=>
    left
    refine⟨i+1,rfl,⟨hlt,?_⟩,by omega⟩
    rw[h2,hs,hq,Bool.true_and]
  ·right
   have:i=u.length:=by omega
   subst this
   rw[h2,eqL_end hl]
   simp only [go1,Nat.reduceAdd,Int.reduceEq,Int.reduceLT,Int.reduceLE,Int.reduceSub,Int.reduceAdd,mrows_len,ilt_self]
theorem c_mSameP (u v:List Mv)(hu:u.length≤1000000)(hf:mvFine u):cF 14 [.d (.sl 7 (mrows u)), .d (.sl 7 (mrows v))]=some (.val [.bool (eqL Mv.eqB u v)]):=by
 have h1:=c_mEqF u v hu hf
 refine cOf (by kernel_rfl) rfl ?_
 rw[g14_eq]
 simp only [g14,go1,Nat.reduceAdd,Int.reduceEq,Int.reduceLT,Int.reduceLE,Int.reduceSub,Int.reduceAdd,h1]
theorem c_mSameR (u v:List Mv)(hu:u.length≤1000000)(hf:mvFine u):cF 9 [.d (.sl 7 (mrows u)), .d (.sl 7 (mrows v))]=some (.val [.bool (eqL Mv.eqB u v)]):=by
 refine cOf (by kernel_rfl) rfl ?_
 rw[g9_eq]
 simp only [g9,go1,Nat.reduceAdd,Int.reduceEq,Int.reduceLT,Int.reduceLE,Int.reduceSub,Int.reduceAdd,mrows_len]
 cases hd:decide ((u.length:Int)=(v.length:Int))with
 |false=>
  have hd:=of_decide_eq_false hd
  rw[eqL_ne (f:=Mv.eqB) (show u.length≠v.length by omega)]
  rfl
 |true=>
  have hl:u.length=v.length:=by have:=of_decide_eq_true hd;omega
  simp only [go1,Nat.reduceAdd,Int.reduceEq,Int.reduceLT,Int.reduceLE,Int.reduceSub,Int.reduceAdd]
  refine loopF_at (fun i:Nat=>[.sl 7 (mrows u), .sl 7 (mrows v), .int .i64 (i:Int)]) (fun i=>i≤u.length∧eqL Mv.eqB u v=eqL Mv.eqB (u.drop i) (v.drop i)) (fun i=>u.length - i) (fun i hi=> ?_) 0 ⟨Nat.zero_le _,rfl⟩
  obtain⟨h1,h2⟩:=hi
  by_cases hlt:i < u.length
  ·have hlt2:i < v.length:=by omega
   have hx:=List.getElem?_eq_getElem hlt
   have hy:=List.getElem?_eq_getElem hlt2
   have hxf:=hf u[i] (List.getElem_mem hlt)
   generalize u[i]=x at hx hxf
   generalize v[i]=y at hy
   have hs:=eqL_step Mv.eqB hx hy
   obtain⟨p,k,n,s,o,a,w⟩:=x
   obtain⟨q,k2,n2,s2,o2,a2,w2⟩:=y
   have hc:=c_reSame2 1000000 k n s o a w k2 n2 s2 o2 a2 w2 hxf.2 (Nat.le_refl _) hxf.1
   have hr:sy.row (mrows u) (i:Int)= [.str p, .int .i64 k, .int .i64 n, .str s, .int .i64 o, .sl 1 (srows a), .sl 6 (Ex.rows w)]:=mrow_at hx
   have hr2:sy.row (mrows v) (i:Int)= [.str q, .int .i64 k2, .int .i64 n2, .str s2, .int .i64 o2, .sl 1 (srows a2), .sl 6 (Ex.rows w2)]:=mrow_at hy
   have sk: ∀(x:D) (l:List D),sy.skip 1 (x::l)=l:=fun _ _=>rfl
   simp only [go1,Nat.reduceAdd,Int.reduceEq,Int.reduceLT,Int.reduceLE,Int.reduceSub,Int.reduceAdd,mrows_len,ilt_at hlt,inr_at hlt,inr_at hlt2,hr,hr2,sk,oE,seq_tb,hc,wrap_succ hlt (by omega)]
   have hE:Mv.eqB ⟨p, .mk k n s o a w⟩ ⟨q, .mk k2 n2 s2 o2 a2 w2⟩=(decide (tb p=tb q)&&(Ex.mk k n s o a w).eqB (.mk k2 n2 s2 o2 a2 w2)):=rfl
   cases hq1:decide (tb p=tb q)with
   |false=>
    right
    rw[h2,hs,hE,hq1];rfl
   |true=>
    cases hq:(Ex.mk k n s o a w).eqB (.mk k2 n2 s2 o2 a2 w2)with
    |false=>
     right
     rw[h2,hs,hE,hq1,hq];rfl
    |true=>
     left
     refine⟨i+1,rfl,⟨hlt,?_⟩,by omega⟩
     rw[h2,hs,hE,hq1,hq];rfl
  ·right
   have:i=u.length:=by omega
   subst this
   rw[h2,eqL_end hl]
   simp only [go1,Nat.reduceAdd,Int.reduceEq,Int.reduceLT,Int.reduceLE,Int.reduceSub,Int.reduceAdd,mrows_len,ilt_self]
theorem c_mFew (l:List Mv): ∃b,cF 11 [.d (.sl 7 (mrows l))]=some (.val [.bool b])∧(b=true→l.length≤50∧ ∀m∈l,m.p.size≤300∧m.e.size≤200∧m.e.fine):=by
 have core: ∃p,g11 sy eF (mrows l)=some p∧ ∃b,p= .val [.bool b]∧(b=true→l.length≤50∧ ∀m∈l,m.p.size≤300∧m.e.size≤200∧m.e.fine):=by
  unfold g11
  refine loopF_ex (fun i:Nat=>[.sl 7 (mrows l), .int .i64 (i:Int)]) (fun i=>i≤l.length∧i≤60∧ ∀m∈l.take i,m.p.size≤300∧m.e.size≤200∧m.e.fine) (fun i=>l.length - i) (fun i hi=> ?_) 0 ⟨Nat.zero_le _,Nat.zero_le _,by simp⟩
  obtain⟨h1,h60,h2⟩:=hi
  by_cases hlt:i < l.length
  ·by_cases h6:i < 60
   ·have hx:=List.getElem?_eq_getElem hlt
    have htk:l.take (i+1)=l.take i++[l[i]]:=by rw[List.take_add_one,hx];rfl
    generalize l[i]=m at hx htk
    obtain⟨p,k,n,s,o,a,w⟩:=m
    have hr:sy.row (mrows l) (i:Int)= [.str p, .int .i64 k, .int .i64 n, .str s, .int .i64 o, .sl 1 (srows a), .sl 6 (Ex.rows w)]:=mrow_at hx
    have sk: ∀(x:D) (l:List D),sy.skip 1 (x::l)=l:=fun _ _=>rfl
    obtain⟨b,hb,hb2⟩:=c_rSmall k n s o a w
    have w1:IntKind.i64.wrap ((i:Int)+1)=((i+1:Nat):Int):=by rw[wrap_id (by omega) (by omega)];omega
    have d6:decide ((i:Int) < 60)=true:=decide_eq_true (by omega)
    have l0:=ilt_at hlt
    have i0:=inr_at hlt
    by_cases h3:300 < p.size
    ·right
     refine⟨_,?_,false,rfl,fun h=>by cases h⟩
     simp only [go1,Nat.reduceAdd,Int.reduceEq,Int.reduceLT,Int.reduceLE,Int.reduceSub,Int.reduceAdd,mrows_len,l0,i0,hr,d6,decide_eq_true (show(300:Int) < (p.size:Int) by omega)]
    ·have d3:decide ((300:Int) < (p.size:Int))=false:=decide_eq_false (by omega)
     cases b with
     |false=>
      right
      refine⟨_,?_,false,rfl,fun h=>by cases h⟩
      simp only [go1,Nat.reduceAdd,Int.reduceEq,Int.reduceLT,Int.reduceLE,Int.reduceSub,Int.reduceAdd,mrows_len,l0,i0,hr,d6,d3,sk,oE,hb]
     |true=>
      left
      obtain⟨hz,hfn⟩:=hb2 rfl
      refine⟨i+1,?_,⟨hlt,h6,fun m hm=> ?_⟩,by omega⟩
      ·simp only [go1,Nat.reduceAdd,Int.reduceEq,Int.reduceLT,Int.reduceLE,Int.reduceSub,Int.reduceAdd,mrows_len,l0,i0,hr,d6,d3,sk,oE,hb,w1]
      ·rw[htk]at hm
       rcases List.mem_append.1 hm with hm|hm
       ·exact h2 m hm
       ·rw[List.mem_singleton.1 hm];exact⟨by show p.size≤300;omega,hz,hfn⟩
   ·right
    refine⟨_,?_,false,rfl,fun h=>by cases h⟩
    simp only [go1,Nat.reduceAdd,Int.reduceEq,Int.reduceLT,Int.reduceLE,Int.reduceSub,Int.reduceAdd,mrows_len,ilt_at hlt,decide_eq_false (show ¬(i:Int) < 60 by omega),decide_eq_false (show ¬(l.length:Int)≤50 by omega)]
  ·right
   have:i=l.length:=by omega
   subst this
   rw[List.take_length]at h2
   refine⟨_,?_,decide ((l.length:Int)≤50),rfl,fun h=>⟨by have:=of_decide_eq_true h;omega,h2⟩⟩
   simp only [go1,Nat.reduceAdd,Int.reduceEq,Int.reduceLT,Int.reduceLE,Int.reduceSub,Int.reduceAdd,mrows_len,ilt_self]
 obtain⟨p,h1,b,rfl,h2⟩:=core
 exact⟨b,cOf (by kernel_rfl) rfl ((g11_eq _ _ _).trans h1),h2⟩
end Go.Vm
end

section
set_option linter.all false
set_option maxRecDepth 100000
set_option maxHeartbeats 4000000
namespace Go.Vm
open Go.Proofs
def TN (l:List Tk):Prop:= ∀j,(tkA l j).n < 9223372036854775808
theorem n0:(0:Int) < 9223372036854775808:=by decide
theorem n1:(1:Int) < 9223372036854775808:=by decide
def HG (p:PR):Prop:= ∀nt i e j,p nt i= .ok e j→e.rng
section
variable {l : List Tk} (ht : TN l) {n : Nat} {p : PR} (hp : HG p)
include ht hp
end
end Go.Vm
end

section
set_option linter.all false
set_option maxRecDepth 100000
set_option maxHeartbeats 4000000
namespace Go.Vm
open Go.Proofs
structure GM (o:List Mv):Prop where
 ok: ∀m∈o,okMv m=true∧m.e.rng
 one:oneM o=true
 few:o.length≤40
theorem oneM_snoc: ∀ {o:List Mv} {m:Mv},oneM o=true→hasP o m.p=false→oneM (o++[m])=true
 | [],m,_,_=>rfl
 |x::o,m,h,h2=>by
  simp only [oneM,Bool.and_eq_true,Bool.not_eq_true']at h
  have h3:decide (tb x.p=tb m.p)=false∧hasP o m.p=false:=by
   unfold hasP at h2
   rw[List.any_cons,Bool.or_eq_false_iff]at h2
   exact h2
  have h4:decide (tb m.p=tb x.p)=false:=decide_eq_false fun e=>of_decide_eq_false h3.1 e.symm
  simp only [List.cons_append,oneM,hasP_app,h.1,Bool.false_or,oneM_snoc h.2 h3.2,Bool.and_true,Bool.not_eq_true']
  unfold hasP
  rw[List.any_cons,h4];rfl
end Go.Vm
end

section
set_option linter.all false
set_option maxRecDepth 100000
set_option maxHeartbeats 4000000
namespace Go.Vm
open Go.Proofs
def mvIn (l:List Mv):Prop:= ∀m∈l,m.p.size≤100000∧m.e.fine∧m.e.size≤1000000∧m.e.rng
def okT (l:List Mv):Bool:=l.all okMv&&(decide (l.length≤40)&&oneM l)
theorem txtM_snoc (m:Mv): ∀l:List Mv,txtM (l++[m])=txtM l++((39::(tb m.p++[39]))++([32,58,61,32]++(render (pcs m.e)++[59,10])))
 | []=>by simp [txtM]
 |x::l=>by
  rw[List.cons_append,txtM,txtM_snoc m l,txtM]
  simp only [List.append_assoc]
theorem nodup_one: ∀l:List Mv,oneM l=decide (l.map Mv.p).Nodup
 | []=>rfl
 |m::l=>by
  rw[oneM,nodup_one l,List.map_cons,Bool.eq_iff_iff]
  simp only [Bool.and_eq_true,Bool.not_eq_true',decide_eq_true_eq,List.nodup_cons,List.mem_map]
  refine and_congr ⟨fun h ⟨x,hx,he⟩=> ?_,fun h=> ?_⟩ Iff.rfl
  ·have:hasP l m.p=true:=List.any_eq_true.2 ⟨x,hx,decide_eq_true (by rw[he])⟩
   rw[h]at this;cases this
  ·cases hq:hasP l m.p with
   |false=>rfl
   |true=>
    obtain⟨x,hx,he⟩:=List.any_eq_true.1 hq
    exact(h ⟨x,hx,tb_inj (of_decide_eq_true he)⟩).elim
theorem oneM_take {l:List Mv}(h:oneM l=true)(i:Nat):oneM (l.take i)=true:=by
 rw[nodup_one]at h ⊢
 have h:=of_decide_eq_true h
 refine decide_eq_true ?_
 rw[List.map_take]
 exact h.sublist (List.take_sublist _ _)
theorem hasP_no {l:List Mv}{i:Nat}{m:Mv}(hx:l[i]? =some m)(h:hasP (l.take i) m.p=true):oneM l=false:=by
 cases ho:oneM l with
 |false=>rfl
 |true=>
  exfalso
  have h1:=oneM_take ho (i+1)
  have htk:l.take (i+1)=l.take i++[m]:=by rw[List.take_add_one,hx];rfl
  rw[htk,nodup_one,List.map_append]at h1
  have h1:=of_decide_eq_true h1
  obtain⟨x,hx2,he⟩:=List.any_eq_true.1 h
  have he:=tb_inj (of_decide_eq_true he)
  rw[List.nodup_append]at h1
  exact h1.2.2 x.p (List.mem_map.2 ⟨x,hx2,rfl⟩) m.p (by simp) he
theorem all_no {l:List Mv}{i:Nat}{m:Mv}(hx:l[i]? =some m)(h:okMv m=false):l.all okMv=false:=by
 cases ho:l.all okMv with
 |false=>rfl
 |true=>
  have:=List.all_eq_true.1 ho m (List.mem_of_getElem? hx)
  rw[h]at this;cases this
def TxtIs (l:List Mv)(r:ByteArray):Prop:=(okT l=true→tb r=txtM l)∧(okT l=false→r=bs [])∧r.size≤100000000000
theorem txtIs_eq {l:List Mv}{r r2:ByteArray}(h:TxtIs l r)(h2:TxtIs l r2):r=r2:=by
 cases ho:okT l with
 |true=>exact tb_inj ((h.1 ho).trans (h2.1 ho).symm)
 |false=>rw[h.2.1 ho,h2.2.1 ho]
theorem mrows_cut (l:List Mv)(i:Nat):sy.cut (mrows l) 0 (i:Int)=mrows (l.take i):=by
 show((mrows l).take (i:Int).toNat).drop (0:Int).toNat=_
 rw[Int.toNat_natCast]
 show(mrows l).take i=_
 unfold mrows
 rw[List.map_take]
theorem emp_is {l:List Mv}(h:okT l=false):TxtIs l (bs []):=⟨fun h2=>(by rw[h]at h2;cases h2),fun _=>rfl,by decide⟩
theorem c_mText (l:List Mv)(hl:l.length≤1000)(hf:mvIn l): ∃r,cF 12 [.d (.sl 7 (mrows l))]=some (.val [.str r])∧TxtIs l r:=by
 have core: ∃p,g12 sy eF (mrows l)=some p∧ ∃r,p= .val [.str r]∧TxtIs l r:=by
  unfold g12
  rw[sy_rlen,mrows_len]
  refine loopF_ex (fun x:Nat × List ByteArray=>[.sl 7 (mrows l), .sl 7 (mrows l), .int .i64 (l.length:Int), .int .i64 (x.1:Int), .sl 1 (srows x.2), .sl 1 (srows ((l.take x.1).map Mv.p))]) (fun x=>x.1≤l.length∧(l.take x.1).all okMv=true∧(x.2.map tb).flatten=txtM (l.take x.1)∧x.2.length=4*x.1∧tot x.2≤x.1*70000000) (fun x=>l.length - x.1) (fun x hx=> ?_) (0,[]) ⟨Nat.zero_le _,rfl,rfl,rfl,Nat.zero_le _⟩
  obtain⟨i,L⟩:=x
  obtain⟨h1,h2,h3,h4,h5⟩:=hx
  simp only at h1 h2 h3 h4 h5 ⊢
  by_cases hlt:i < l.length
  ·have hx:=List.getElem?_eq_getElem hlt
   have hxf:=hf l[i] (List.getElem_mem hlt)
   have htk:l.take (i+1)=l.take i++[l[i]]:=by rw[List.take_add_one,hx];rfl
   have hno:=fun h=>all_no hx h
   generalize l[i]=m at hx hxf htk hno
   obtain⟨p,k,n,s,o,a,w⟩:=m
   obtain⟨f1,f2,f3,f4⟩:=hxf
   simp only at f1 f2 f3 f4
   have hr:sy.row (mrows l) (i:Int)= [.str p, .int .i64 k, .int .i64 n, .str s, .int .i64 o, .sl 1 (srows a), .sl 6 (Ex.rows w)]:=mrow_at hx
   have c1:=c_Path p f1
   have c2:=c_eRight k n s o a w f3 f2
   have l0:=ilt_at hlt
   have i0:=inr_at hlt
   have hE:okMv ⟨p, .mk k n s o a w⟩=(pathN (tb p)&&(smallB (.mk k n s o a w)&&allB (.mk k n s o a w))):=rfl
   cases hp:pathN (tb p)with
   |false=>
    right
    rw[hp]at c1
    have ho:okT l=false:=by
     unfold okT
     rw[hno (by rw[hE,hp];rfl)];rfl
    refine⟨_,?_,bs [],rfl,emp_is ho⟩
    simp only [go1,Nat.reduceAdd,Int.reduceEq,Int.reduceLT,Int.reduceLE,Int.reduceSub,Int.reduceAdd,oE,mrows_len,l0,i0,hr,c1]
   |true=>
    rw[hp]at c1
    cases hq:(smallB (.mk k n s o a w)&&allB (.mk k n s o a w))with
    |false=>
     right
     rw[hq]at c2
     have ho:okT l=false:=by
      unfold okT
      rw[hno (by rw[hE,hp,hq];rfl)];rfl
     refine⟨_,?_,bs [],rfl,emp_is ho⟩
     simp only [go1,Nat.reduceAdd,Int.reduceEq,Int.reduceLT,Int.reduceLE,Int.reduceSub,Int.reduceAdd,oE,mrows_len,l0,i0,hr,c1,c2]
    |true=>
     left
     rw[hq]at c2
     have c3:=c_xQuote p f1
     rw[hp]at c3
     obtain⟨t,c4,t1,t2⟩:=c_sExpr k n s o a w (by simpa using hq) f2 f4
     have w1:IntKind.i64.wrap ((i:Int)+1)=((i+1:Nat):Int):=by rw[wrap_id (by omega) (by omega)];omega
     have e1:srows L++[[D.str (bs [39]++p++bs [39])],[D.str (bs [32,58,61,32])],[D.str t],[D.str (bs [59,10])]]=srows (L++[bs [39]++p++bs [39],bs [32,58,61,32],t,bs [59,10]]):=by rw[←srows_app];rfl
     have e2:srows ((l.take i).map Mv.p)++[[D.str p]]=srows ((l.take (i+1)).map Mv.p):=by rw[htk,List.map_append,←srows_app];rfl
     have fit1:decide ((L.length+4)*17≤140737488355328)=true:=decide_eq_true (by omega)
     have lenP:((l.take i).map Mv.p).length=i:=by rw[List.length_map,List.length_take];omega
     have fit2:decide ((i+1)*17≤140737488355328)=true:=decide_eq_true (by omega)
     refine⟨(i+1,L++[bs [39]++p++bs [39],bs [32,58,61,32],t,bs [59,10]]),?_,⟨hlt,?_,?_,?_,?_⟩,by simp only;omega⟩
     ·simp only [go1,Nat.reduceAdd,Int.reduceEq,Int.reduceLT,Int.reduceLE,Int.reduceSub,Int.reduceAdd,oE,mrows_len,l0,i0,hr,c1,c2,c3,c4,w1,srows_len,List.length_cons,List.length_nil,lenP]
      simp only [go1,Nat.reduceAdd,Int.reduceEq,Int.reduceLT,Int.reduceLE,Int.reduceSub,Int.reduceAdd,fit1,fit2,e1,e2]
     ·simp only
      rw[htk,List.all_append,h2]
      simp only [List.all_cons,List.all_nil,hE,hp,hq];rfl
     ·simp only
      rw[htk,txtM_snoc,List.map_append,List.flatten_append,h3]
      simp only [List.map_cons,List.map_nil,List.flatten_cons,List.flatten_nil,tb_app,t1,List.append_nil]
      show txtM (l.take i)++([39]++tb p++[39]++([32,58,61,32]++(render (pcs (.mk k n s o a w))++[59,10])))=_
      simp
     ·simp only [List.length_append,List.length_cons,List.length_nil,h4];omega
     ·simp only
      have e:tot (L++[bs [39]++p++bs [39],bs [32,58,61,32],t,bs [59,10]])=tot L+((bs [39]++p++bs [39]).size+((bs [32,58,61,32]).size+(t.size+((bs [59,10]).size+0)))):=by
       unfold tot
       simp only [List.map_append,List.sum_append,List.map_cons,List.map_nil,List.sum_cons,List.sum_nil]
      rw[e]
      simp only [ByteArray.size_append,bs_sz,List.length_cons,List.length_nil]
      omega
  ·right
   have:i=l.length:=by omega
   subst this
   rw[List.take_length]at h2 h3 ⊢
   have c1:=c_iOnce (l.map Mv.p) (by rw[List.length_map];omega)
   rw[←nodup_one]at c1
   by_cases h40:40 < l.length
   ·have d40:decide ((40:Int) < (l.length:Int))=true:=decide_eq_true (by omega)
    have ho:okT l=false:=by
     unfold okT
     rw[decide_eq_false (show ¬l.length≤40 by omega),Bool.false_and,Bool.and_false]
    refine⟨_,?_,bs [],rfl,emp_is ho⟩
    simp only [go1,Nat.reduceAdd,Int.reduceEq,Int.reduceLT,Int.reduceLE,Int.reduceSub,Int.reduceAdd,mrows_len,ilt_self,d40]
   ·have d40:decide ((40:Int) < (l.length:Int))=false:=decide_eq_false (by omega)
    cases ho:oneM l with
    |false=>
     rw[ho]at c1
     have ho:okT l=false:=by
      unfold okT
      rw[ho,Bool.and_false,Bool.and_false]
     refine⟨_,?_,bs [],rfl,emp_is ho⟩
     simp only [go1,Nat.reduceAdd,Int.reduceEq,Int.reduceLT,Int.reduceLE,Int.reduceSub,Int.reduceAdd,mrows_len,ilt_self,d40,c1]
    |true=>
     rw[ho]at c1
     have hs:(joinB L (bs [])).size=tot L:=by rw[sz_join0,tot_len]
     have c2:=c_join L (bs []) (by omega) (by omega)
     have hok:okT l=true:=by
      unfold okT
      rw[h2,ho,decide_eq_true (show l.length≤40 by omega)];rfl
     refine⟨_,?_,joinB L (bs []),rfl,fun _=> ?_,fun h=>(by rw[hok]at h;cases h),by omega⟩
     ·simp only [go1,Nat.reduceAdd,Int.reduceEq,Int.reduceLT,Int.reduceLE,Int.reduceSub,Int.reduceAdd,mrows_len,ilt_self,d40,c1,c2]
     ·rw[tb_join0,h3]
 obtain⟨p,h1,r,rfl,h2⟩:=core
 exact⟨r,cOf (by kernel_rfl) rfl ((g12_eq _ _ _).trans h1),h2⟩
theorem c_rText37 (l:List Mv)(hl:l.length≤1000)(hf:mvIn l): ∃r,cF 13 [.d (.sl 7 (mrows l))]=some (.val [.str r])∧TxtIs l r:=by
 by_cases h40:40 < l.length
 ·have d40:decide ((40:Int) < (l.length:Int))=true:=decide_eq_true (by omega)
  have ho:okT l=false:=by
   unfold okT
   rw[decide_eq_false (show ¬l.length≤40 by omega),Bool.false_and,Bool.and_false]
  refine⟨bs [],?_,emp_is ho⟩
  refine cOf (by kernel_rfl) rfl ?_
  rw[g13_eq]
  simp only [g13,go1,Nat.reduceAdd,Int.reduceEq,Int.reduceLT,Int.reduceLE,Int.reduceSub,Int.reduceAdd,mrows_len,d40]
 have d40:decide ((40:Int) < (l.length:Int))=false:=decide_eq_false (by omega)
 have core: ∃p,g13 sy eF (mrows l)=some p∧ ∃r,p= .val [.str r]∧TxtIs l r:=by
  unfold g13
  rw[sy_ilt,sy_rlen,mrows_len,d40]
  refine loopF_ex (fun x:Nat × ByteArray=>[.sl 7 (mrows l), .str x.2, .int .i64 (x.1:Int)]) (fun x=>x.1≤l.length∧(l.take x.1).all okMv=true∧oneM (l.take x.1)=true∧tb x.2=txtM (l.take x.1)∧x.2.size≤x.1*70000000) (fun x=>l.length - x.1) (fun x hx=> ?_) (0,bs []) ⟨Nat.zero_le _,rfl,rfl,rfl,Nat.zero_le _⟩
  obtain⟨i,L⟩:=x
  obtain⟨h1,h2,h4,h3,h5⟩:=hx
  simp only at h1 h2 h3 h4 h5 ⊢
  by_cases hlt:i < l.length
  ·have hx:=List.getElem?_eq_getElem hlt
   have hxf:=hf l[i] (List.getElem_mem hlt)
   have htk:l.take (i+1)=l.take i++[l[i]]:=by rw[List.take_add_one,hx];rfl
   have hno:=fun h=>all_no hx h
   have hon:=fun h=>hasP_no hx h
   generalize l[i]=m at hx hxf htk hno hon
   obtain⟨p,k,n,s,o,a,w⟩:=m
   obtain⟨f1,f2,f3,f4⟩:=hxf
   simp only at f1 f2 f3 f4 hon
   have hr:sy.row (mrows l) (i:Int)= [.str p, .int .i64 k, .int .i64 n, .str s, .int .i64 o, .sl 1 (srows a), .sl 6 (Ex.rows w)]:=mrow_at hx
   have c1:=c_rPath p f1
   have c2:=c_reRight k n s o a w f3 f2
   have c5:=c_mhas (l.take i) p (by rw[List.length_take];omega)
   have l0:=ilt_at hlt
   have i0:=inr_at hlt
   have sk: ∀(x:D) (l:List D),sy.skip 1 (x::l)=l:=fun _ _=>rfl
   have ct:decide ((0:Int)≤0∧(0:Int)≤(i:Int)∧(i:Int)≤(l.length:Int))=true:=decide_eq_true ⟨by omega,by omega,by omega⟩
   have ct':decide ((0:Int)≤(i:Int)∧(i:Int)≤(l.length:Int))=true:=decide_eq_true ⟨by omega,by omega⟩
   have cu:=mrows_cut l i
   rw[sy_cut]at cu
   have hE:okMv ⟨p, .mk k n s o a w⟩=(pathN (tb p)&&(smallB (.mk k n s o a w)&&allB (.mk k n s o a w))):=rfl
   cases hp:pathN (tb p)with
   |false=>
    right
    rw[hp]at c1
    have ho:okT l=false:=by
     unfold okT
     rw[hno (by rw[hE,hp];rfl)];rfl
    refine⟨_,?_,bs [],rfl,emp_is ho⟩
    simp only [go1,Nat.reduceAdd,Int.reduceEq,Int.reduceLT,Int.reduceLE,Int.reduceSub,Int.reduceAdd,oE,mrows_len,l0,i0,hr,c1]
   |true=>
    rw[hp]at c1
    cases hh:hasP (l.take i) p with
    |true=>
     right
     rw[hh]at c5
     have ho:okT l=false:=by
      unfold okT
      rw[hon hh,Bool.and_false,Bool.and_false]
     refine⟨_,?_,bs [],rfl,emp_is ho⟩
     simp only [go1,Nat.reduceAdd,Int.reduceEq,Int.reduceLT,Int.reduceLE,Int.reduceSub,Int.reduceAdd,oE,mrows_len,l0,i0,hr,c1,ct,ct',cu,c5]
    |false=>
     rw[hh]at c5
     cases hq:(smallB (.mk k n s o a w)&&allB (.mk k n s o a w))with
     |false=>
      right
      rw[hq]at c2
      have ho:okT l=false:=by
       unfold okT
       rw[hno (by rw[hE,hp,hq];rfl)];rfl
      refine⟨_,?_,bs [],rfl,emp_is ho⟩
      simp only [go1,Nat.reduceAdd,Int.reduceEq,Int.reduceLT,Int.reduceLE,Int.reduceSub,Int.reduceAdd,oE,mrows_len,l0,i0,hr,c1,ct,ct',cu,c5,sk,c2]
     |true=>
      left
      rw[hq]at c2
      have c3:=c_rxQuote p f1
      rw[hp]at c3
      obtain⟨t,c4,t1,t2⟩:=c_rExpr10 k n s o a w (by simpa using hq) f2 f4
      have w1:IntKind.i64.wrap ((i:Int)+1)=((i+1:Nat):Int):=by rw[wrap_id (by omega) (by omega)];omega
      have s1:sy.sfit L (bs [39]++p++bs [39])=true:=sfT (by simp only [ByteArray.size_append,bs_sz,List.length_cons,List.length_nil];omega)
      have s2:sy.sfit (L++(bs [39]++p++bs [39])) (bs [32,58,61,32])=true:=sfT (by simp only [ByteArray.size_append,bs_sz,List.length_cons,List.length_nil];omega)
      have s3:sy.sfit (L++(bs [39]++p++bs [39])++bs [32,58,61,32]) t=true:=sfT (by simp only [ByteArray.size_append,bs_sz,List.length_cons,List.length_nil];omega)
      have s4:sy.sfit (L++(bs [39]++p++bs [39])++bs [32,58,61,32]++t) (bs [59,10])=true:=sfT (by simp only [ByteArray.size_append,bs_sz,List.length_cons,List.length_nil];omega)
      refine⟨(i+1,L++(bs [39]++p++bs [39])++bs [32,58,61,32]++t++bs [59,10]),?_,⟨hlt,?_,?_,?_,?_⟩,by simp only;omega⟩
      ·simp only [go1,Nat.reduceAdd,Int.reduceEq,Int.reduceLT,Int.reduceLE,Int.reduceSub,Int.reduceAdd,oE,mrows_len,l0,i0,hr,c1,ct,ct',cu,c5,sk,c2,c3,c4,w1,s1,s2,s3,s4]
      ·simp only
       rw[htk,List.all_append,h2]
       simp only [List.all_cons,List.all_nil,hE,hp,hq];rfl
      ·simp only
       rw[htk]
       exact oneM_snoc h4 hh
      ·simp only
       rw[htk,txtM_snoc]
       simp only [tb_app,h3,t1]
       show txtM (l.take i)++([39]++tb p++[39])++[32,58,61,32]++render (pcs (.mk k n s o a w))++[59,10]=_
       simp
      ·simp only [ByteArray.size_append,bs_sz,List.length_cons,List.length_nil]
       omega
  ·right
   have:i=l.length:=by omega
   subst this
   rw[List.take_length]at h2 h3 h4
   have hok:okT l=true:=by
    unfold okT
    rw[h2,h4,decide_eq_true (show l.length≤40 by omega)];rfl
   refine⟨_,?_,L,rfl,fun _=>h3,fun h=>(by rw[hok]at h;cases h),by omega⟩
   simp only [go1,Nat.reduceAdd,Int.reduceEq,Int.reduceLT,Int.reduceLE,Int.reduceSub,Int.reduceAdd,mrows_len,ilt_self]
 obtain⟨p,h1,r,rfl,h2⟩:=core
 exact⟨r,cOf (by kernel_rfl) rfl ((g13_eq _ _ _).trans h1),h2⟩
end Go.Vm
end

section
set_option linter.all false
set_option maxRecDepth 100000
set_option maxHeartbeats 4000000
namespace Go.Vm
open Go.Proofs
def rngM (l:List Mv):Prop:= ∀m∈l,m.e.rng
theorem c_MTexts (a b:List Mv)(ha:rngM a):cF 5 [.d (.sl 7 (mrows a)), .d (.sl 7 (mrows b))]=some (.val [.bool true]):=by
 have h0:=c_mlive
 obtain⟨x,h1,h2⟩:=c_mFew a
 obtain⟨y,h3,h4⟩:=c_mFew b
 cases x with
 |false=>
  refine cOf (by kernel_rfl) rfl ?_
  rw[g5_eq]
  simp only [g5,go1,Nat.reduceAdd,Int.reduceEq,Int.reduceLT,Int.reduceLE,Int.reduceSub,Int.reduceAdd,h0,h1]
 |true=>
  cases y with
  |false=>
   refine cOf (by kernel_rfl) rfl ?_
   rw[g5_eq]
   simp only [g5,go1,Nat.reduceAdd,Int.reduceEq,Int.reduceLT,Int.reduceLE,Int.reduceSub,Int.reduceAdd,h0,h1,h3]
  |true=>
   obtain⟨g1,g2⟩:=h2 rfl
   have hin:mvIn a:=fun m hm=>⟨by have:=(g2 m hm).1;omega,(g2 m hm).2.2,by have:=(g2 m hm).2.1;omega,ha m hm⟩
   have hfn:mvFine a:=fun m hm=>⟨(g2 m hm).2.2,by have:=(g2 m hm).2.1;omega⟩
   obtain⟨r,k1,k2⟩:=c_mText a (by omega) hin
   obtain⟨r2,k3,k4⟩:=c_rText37 a (by omega) hin
   have e:=txtIs_eq k4 k2
   subst e
   have k5:=c_mSameP a b (by omega) hfn
   have k6:=c_mSameR a b (by omega) hfn
   refine cOf (by kernel_rfl) rfl ?_
   rw[g5_eq]
   simp only [g5,go1,Nat.reduceAdd,Int.reduceEq,Int.reduceLT,Int.reduceLE,Int.reduceSub,Int.reduceAdd,h0,h1,h3,k1,k3,k5,k6,seq_tb]
   cases eqL Mv.eqB a b<;>rfl
end Go.Vm
end
