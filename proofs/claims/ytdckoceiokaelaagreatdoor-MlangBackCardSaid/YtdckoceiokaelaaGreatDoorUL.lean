/-
  Part UL of the proof. What is proved by the whole: the statement that the claim names, with no condition. This part: lemmas.
-/
import Derived.Test.YtdckoceiokaelaaGreatDoorUK
set_option linter.unusedSimpArgs false
set_option linter.unusedVariables false

section
set_option linter.all false
set_option maxRecDepth 100000
set_option maxHeartbeats 4000000
namespace Go.Vm
open Go.Proofs
def mvIn (l:List Mv):Prop:= ∀m∈l,m.p.size≤100000∧m.e.fine∧m.e.size≤1000000∧m.e.rng
def okT (l:List Mv):Bool:=l.all okMv&&(decide (l.length≤40)&&oneM l)
theorem txtM_snoc (m:Mv): ∀l:List Mv,txtM (l++[m])=txtM l++((39::(tb m.p++[39]))++([32,58,61,32]++(render (pcs m.e)++[59,10])))
 | []=>by simp [txtM]
 |x::l=>by
  rw[List.cons_append,txtM,txtM_snoc m l,txtM]
  simp only [List.append_assoc]
theorem nodup_one: ∀l:List Mv,oneM l=decide (l.map Mv.p).Nodup
 | []=>rfl
 |m::l=>by
  rw[oneM,nodup_one l,List.map_cons,Bool.eq_iff_iff]
  simp only [Bool.and_eq_true,Bool.not_eq_true',decide_eq_true_eq,List.nodup_cons,List.mem_map]
  refine and_congr ⟨fun h ⟨x,hx,he⟩=> ?_,fun h=> ?_⟩ Iff.rfl
  ·have:hasP l m.p=true:=List.any_eq_true.2 ⟨x,hx,decide_eq_true (by rw[he])⟩
   rw[h]at this;cases this
  ·cases hq:hasP l m.p with
   |false=>rfl
   |true=>
    obtain⟨x,hx,he⟩:=List.any_eq_true.1 hq
    exact(h ⟨x,hx,tb_inj (of_decide_eq_true he)⟩).elim
theorem all_no {l:List Mv}{i:Nat}{m:Mv}(hx:l[i]? =some m)(h:okMv m=false):l.all okMv=false:=by
 cases ho:l.all okMv with
 |false=>rfl
 |true=>
  have:=List.all_eq_true.1 ho m (List.mem_of_getElem? hx)
  rw[h]at this;cases this
def TxtIs (l:List Mv)(r:ByteArray):Prop:=(okT l=true→tb r=txtM l)∧(okT l=false→r=bs [])∧r.size≤100000000000
theorem emp_is {l:List Mv}(h:okT l=false):TxtIs l (bs []):=⟨fun h2=>(by rw[h]at h2;cases h2),fun _=>rfl,by decide⟩
theorem c_mText (l:List Mv)(hl:l.length≤1000)(hf:mvIn l): ∃r,cF 12 [.d (.sl 7 (mrows l))]=some (.val [.str r])∧TxtIs l r:=by
 have core: ∃p,g12 sy eF (mrows l)=some p∧ ∃r,p= .val [.str r]∧TxtIs l r:=by
  unfold g12
  rw[sy_rlen,mrows_len]
  refine loopF_ex (fun x:Nat × List ByteArray=>[.sl 7 (mrows l), .sl 7 (mrows l), .int .i64 (l.length:Int), .int .i64 (x.1:Int), .sl 1 (srows x.2), .sl 1 (srows ((l.take x.1).map Mv.p))]) (fun x=>x.1≤l.length∧(l.take x.1).all okMv=true∧(x.2.map tb).flatten=txtM (l.take x.1)∧x.2.length=4*x.1∧tot x.2≤x.1*70000000) (fun x=>l.length - x.1) (fun x hx=> ?_) (0,[]) ⟨Nat.zero_le _,rfl,rfl,rfl,Nat.zero_le _⟩
  obtain⟨i,L⟩:=x
  obtain⟨h1,h2,h3,h4,h5⟩:=hx
  simp only at h1 h2 h3 h4 h5 ⊢
  by_cases hlt:i < l.length
  ·have hx:=List.getElem?_eq_getElem hlt
   have hxf:=hf l[i] (List.getElem_mem hlt)
   have htk:l.take (i+1)=l.take i++[l[i]]:=by rw[List.take_add_one,hx];rfl
   have hno:=fun h=>all_no hx h
   generalize l[i]=m at hx hxf htk hno
   obtain⟨p,k,n,s,o,a,w⟩:=m
   obtain⟨f1,f2,f3,f4⟩:=hxf
   simp only at f1 f2 f3 f4
   have hr:sy.row (mrows l) (i:Int)= [.str p, .int .i64 k, .int .i64 n, .str s, .int .i64 o, .sl 1 (srows a), .sl 6 (Ex.rows w)]:=mrow_at hx
   have c1:=c_Path p f1
   have c2:=c_eRight k n s o a w f3 f2
   have l0:=ilt_at hlt
   have i0:=inr_at hlt
   have hE:okMv ⟨p, .mk k n s o a w⟩=(pathN (tb p)&&(smallB (.mk k n s o a w)&&allB (.mk k n s o a w))):=rfl
   cases hp:pathN (tb p)with
   |false=>
    right
    rw[hp]at c1
    have ho:okT l=false:=by
     unfold okT
     rw[hno (by rw[hE,hp];rfl)];rfl
    refine⟨_,?_,bs [],rfl,emp_is ho⟩
    simp only [go1,Nat.reduceAdd,Int.reduceEq,Int.reduceLT,Int.reduceLE,Int.reduceSub,Int.reduceAdd,oE,mrows_len,l0,i0,hr,c1]
   |true=>
    rw[hp]at c1
    cases hq:(smallB (.mk k n s o a w)&&allB (.mk k n s o a w))with
    |false=>
     right
     rw[hq]at c2
     have ho:okT l=false:=by
      unfold okT
      rw[hno (by rw[hE,hp,hq];rfl)];rfl
     refine⟨_,?_,bs [],rfl,emp_is ho⟩
     simp only [go1,Nat.reduceAdd,Int.reduceEq,Int.reduceLT,Int.reduceLE,Int.reduceSub,Int.reduceAdd,oE,mrows_len,l0,i0,hr,c1,c2]
    |true=>
     left
     rw[hq]at c2
     have c3:=c_xQuote p f1
     rw[hp]at c3
     obtain⟨t,c4,t1,t2⟩:=c_sExpr k n s o a w (by simpa using hq) f2 f4
     have w1:IntKind.i64.wrap ((i:Int)+1)=((i+1:Nat):Int):=by rw[wrap_id (by omega) (by omega)];omega
     have e1:srows L++[[D.str (bs [39]++p++bs [39])],[D.str (bs [32,58,61,32])],[D.str t],[D.str (bs [59,10])]]=srows (L++[bs [39]++p++bs [39],bs [32,58,61,32],t,bs [59,10]]):=by rw[←srows_app];rfl
     have e2:srows ((l.take i).map Mv.p)++[[D.str p]]=srows ((l.take (i+1)).map Mv.p):=by rw[htk,List.map_append,←srows_app];rfl
     have fit1:decide ((L.length+4)*17≤140737488355328)=true:=decide_eq_true (by omega)
     have lenP:((l.take i).map Mv.p).length=i:=by rw[List.length_map,List.length_take];omega
     have fit2:decide ((i+1)*17≤140737488355328)=true:=decide_eq_true (by omega)
     refine⟨(i+1,L++[bs [39]++p++bs [39],bs [32,58,61,32],t,bs [59,10]]),?_,⟨hlt,?_,?_,?_,?_⟩,by simp only;omega⟩
     ·simp only [go1,Nat.reduceAdd,Int.reduceEq,Int.reduceLT,Int.reduceLE,Int.reduceSub,Int.reduceAdd,oE,mrows_len,l0,i0,hr,c1,c2,c3,c4,w1,srows_len,List.length_cons,List.length_nil,lenP]
      simp only [go1,Nat.reduceAdd,Int.reduceEq,Int.reduceLT,Int.reduceLE,Int.reduceSub,Int.reduceAdd,fit1,fit2,e1,e2]
     ·simp only
      rw[htk,List.all_append,h2]
      simp only [List.all_cons,List.all_nil,hE,hp,hq];rfl
     ·simp only
      rw[htk,txtM_snoc,List.map_append,List.flatten_append,h3]
      simp only [List.map_cons,List.map_nil,List.flatten_cons,List.flatten_nil,tb_app,t1,List.append_nil]
      show txtM (l.take i)++([39]++tb p++[39]++([32,58,61,32]++(render (pcs (.mk k n s o a w))++[59,10])))=_
      simp
     ·simp only [List.length_append,List.length_cons,List.length_nil,h4];omega
     ·simp only
      have e:tot (L++[bs [39]++p++bs [39],bs [32,58,61,32],t,bs [59,10]])=tot L+((bs [39]++p++bs [39]).size+((bs [32,58,61,32]).size+(t.size+((bs [59,10]).size+0)))):=by
       unfold tot
       simp only [List.map_append,List.sum_append,List.map_cons,List.map_nil,List.sum_cons,List.sum_nil]
      rw[e]
      simp only [ByteArray.size_append,bs_sz,List.length_cons,List.length_nil]
      omega
  ·right
   have:i=l.length:=by omega
   subst this
   rw[List.take_length]at h2 h3 ⊢
   have c1:=c_iOnce (l.map Mv.p) (by rw[List.length_map];omega)
   rw[←nodup_one]at c1
   by_cases h40:40 < l.length
   ·have d40:decide ((40:Int) < (l.length:Int))=true:=decide_eq_true (by omega)
    have ho:okT l=false:=by
     unfold okT
     rw[decide_eq_false (show ¬l.length≤40 by omega),Bool.false_and,Bool.and_false]
    refine⟨_,?_,bs [],rfl,emp_is ho⟩
    simp only [go1,Nat.reduceAdd,Int.reduceEq,Int.reduceLT,Int.reduceLE,Int.reduceSub,Int.reduceAdd,mrows_len,ilt_self,d40]
   ·have d40:decide ((40:Int) < (l.length:Int))=false:=decide_eq_false (by omega)
    cases ho:oneM l with
    |false=>
     rw[ho]at c1
     have ho:okT l=false:=by
      unfold okT
      rw[ho,Bool.and_false,Bool.and_false]
     refine⟨_,?_,bs [],rfl,emp_is ho⟩
     simp only [go1,Nat.reduceAdd,Int.reduceEq,Int.reduceLT,Int.reduceLE,Int.reduceSub,Int.reduceAdd,mrows_len,ilt_self,d40,c1]
    |true=>
     rw[ho]at c1
     have hs:(joinB L (bs [])).size=tot L:=by rw[sz_join0,tot_len]
     have c2:=c_join L (bs []) (by omega) (by omega)
     have hok:okT l=true:=by
      unfold okT
      rw[h2,ho,decide_eq_true (show l.length≤40 by omega)];rfl
     refine⟨_,?_,joinB L (bs []),rfl,fun _=> ?_,fun h=>(by rw[hok]at h;cases h),by omega⟩
     ·simp only [go1,Nat.reduceAdd,Int.reduceEq,Int.reduceLT,Int.reduceLE,Int.reduceSub,Int.reduceAdd,mrows_len,ilt_self,d40,c1,c2]
     ·rw[tb_join0,h3]
 obtain⟨p,h1,r,rfl,h2⟩:=core
 exact⟨r,cOf (by kernel_rfl) rfl ((g12_eq _ _ _).trans h1),h2⟩
end Go.Vm
end

section
set_option linter.all false
set_option maxRecDepth 100000
set_option maxHeartbeats 4000000
namespace Go.Vm
open Go.Proofs
def rngM (l:List Mv):Prop:= ∀m∈l,m.e.rng
theorem okT_of {l:List Mv}(h:GM l):okT l=true:=by
 unfold okT
 rw[h.one,decide_eq_true h.few,List.all_eq_true.2 fun m hm=>(h.ok m hm).1];rfl
theorem GM_of {l:List Mv}(h:okT l=true)(hr:rngM l):GM l:=by
 unfold okT at h
 simp only [Bool.and_eq_true,decide_eq_true_eq]at h
 exact⟨fun m hm=>⟨List.all_eq_true.1 h.1 m hm,hr m hm⟩,h.2.2,h.2.1⟩
theorem read_back {l:List Mv}(h:GM l){r:ByteArray}(hr:TxtIs l r)(hs:r.size≤6000):cF 7 [.d (.str r)]=some (.val [.sl 7 (mrows l), .int .i64 (r.size:Int), .int .i64 0]):=by
 rw[c_mRead r (by omega),mlS_back r l (hr.1 (okT_of h)) (by rw[tb_len];exact hs) h.ok h.one h.few]
theorem mRun_ps {l:List Tk}(hT:TS l): ∀(n:Nat) (o:List Mv) (i:Nat) (r:List Mv),(∀m∈o,m.p.size≤100000)→mRun l n o i= .ok r→ ∀m∈r,m.p.size≤100000
 |0,_,_,_,_,h=>by cases h
 |n+1,o,i,r,hg,h=>by
  rw[mRun]at h
  cases hs:mStep l o i with
  |inr q=>
   rw[hs]at h
   simp only at h
   subst h
   unfold mStep at hs
   split at hs
   ·cases hs;exact hg
   ·cases hs
   ·split at hs
    split at hs<;>cases hs
  |inl y=>
   rw[hs]at h
   unfold mStep at hs
   split at hs
   ·cases hs
   ·cases hs
   ·split at hs
    split at hs
    ·cases hs
    ·cases hs
     refine mRun_ps hT n _ _ r (fun m hm=> ?_) h
     rcases List.mem_append.1 hm with hm|hm
     ·exact hg m hm
     ·rw[List.mem_singleton.1 hm];exact hT i
theorem read_any (s:ByteArray)(hs:s.size≤100000): ∃(o:List Mv) (p r:Int),cF 7 [.d (.str s)]=some (.val [.sl 7 (mrows o), .int .i64 p, .int .i64 r])∧mvFine o∧(∀m∈o,m.p.size≤100000)∧(r=0→GM o)∧(r≠0→o= []):=by
 have h1:=c_mRead s hs
 have hN: ∀m∈([]:List Mv),m.e.fine∧m.e.size≤1000000:=fun m h=>(by cases h)
 have hl:=LOK_toks s hs
 have hT:=TOK_of fun t ht=>(toks_mem hs ht).2
 have hS:=TS_of fun t ht=>(toks_mem hs ht).1
 rw[h1]
 unfold mlS
 split
 ·exact⟨[],_,_,rfl,hN,(fun m h=>(by cases h)),fun h=>(by cases h),fun _=>rfl⟩
 ·exact⟨[],_,_,rfl,hN,(fun m h=>(by cases h)),fun h=>(by cases h),fun _=>rfl⟩
 ·obtain⟨p,h2,h3,h4⟩:=mloop1 hl hS hT s
  cases hr:mRun (toksS s) (toksS s).length [] 0 with
  |out=>rw[hr]at h4;exact h4.elim
  |er i c=>exact⟨[],_,_,rfl,hN,(fun m h=>(by cases h)),fun h=>absurd h (mRun_er _ _ _ hr),fun _=>rfl⟩
  |ok o=>
   rw[hr]at h4
   exact⟨o,_,_,rfl,h4.1,mRun_ps hS _ _ _ _ (fun m h=>(by cases h)) hr,fun _=>mRun_good (toks_I s) _ _ _ _ ⟨fun m h=>(by cases h),rfl,Nat.zero_le _⟩ hr,fun h=>(h rfl).elim⟩
theorem mvIn_of {o:List Mv}(h:mvFine o)(h3: ∀m∈o,m.p.size≤100000)(h2:GM o):mvIn o:=fun m hm=>⟨h3 m hm,(h m hm).1,(h m hm).2,(h2.ok m hm).2⟩
theorem c_MBack (l:List Mv)(s:ByteArray)(ha:rngM l):cF 4 [.d (.sl 7 (mrows l)), .d (.str s)]=some (.val [.bool true]):=by
 have h0:=c_mlive
 obtain⟨x,h1,h2⟩:=c_mFew l
 cases x with
 |false=>
  refine cOf (by kernel_rfl) rfl ?_
  rw[g4_eq]
  simp only [g4,go1,Nat.reduceAdd,Int.reduceEq,Int.reduceLT,Int.reduceLE,Int.reduceSub,Int.reduceAdd,h0,h1]
 |true=>
  by_cases hs:1500 < s.size
  ·have hd:decide ((1500:Int) < (s.size:Int))=true:=decT (by omega)
   refine cOf (by kernel_rfl) rfl ?_
   rw[g4_eq]
   simp only [g4,go1,Nat.reduceAdd,Int.reduceEq,Int.reduceLT,Int.reduceLE,Int.reduceSub,Int.reduceAdd,h0,h1,hd]
  have hd:decide ((1500:Int) < (s.size:Int))=false:=decF (by omega)
  obtain⟨g1,g2⟩:=h2 rfl
  have hin:mvIn l:=fun m hm=>⟨by have:=(g2 m hm).1;omega,(g2 m hm).2.2,by have:=(g2 m hm).2.1;omega,ha m hm⟩
  have hfn:mvFine l:=fun m hm=>⟨(g2 m hm).2.2,by have:=(g2 m hm).2.1;omega⟩
  obtain⟨r,k1,k2⟩:=c_mText l (by omega) hin
  obtain⟨o,p,q,m1,m2,m3,m4,m5⟩:=read_any s (by omega)
  have n1:=c_mnum q
  have n0:=c_mnum 0
  have first:decide (tb r=tb (bs []))=true∨decide ((r.size:Int)≤6000)=false∨decide (tb r=tb (bs []))=false∧decide ((r.size:Int)≤6000)=true∧cF 7 [.d (.str r)]=some (.val [.sl 7 (mrows l), .int .i64 (r.size:Int), .int .i64 0]):=by
   by_cases he:tb r=tb (bs [])
   ·exact .inl (decT he)
   ·by_cases hz:r.size≤6000
    ·refine .inr (.inr ⟨decF he,decT (by omega),read_back (GM_of ?_ ha) k2 hz⟩)
     cases ho:okT l with
     |true=>rfl
     |false=>exact(he (by rw[k2.2.1 ho])).elim
    ·exact .inr (.inl (decF (by omega)))
  have k6:=c_mSame l hfn (by omega)
  have last:q=0→ ∃u,cF 12 [.d (.sl 7 (mrows o))]=some (.val [.str u])∧(decide ((6000:Int) < (u.size:Int))=true∨decide ((6000:Int) < (u.size:Int))=false∧cF 7 [.d (.str u)]=some (.val [.sl 7 (mrows o), .int .i64 (u.size:Int), .int .i64 0])∧cF 9 [.d (.sl 7 (mrows o)), .d (.sl 7 (mrows o))]=some (.val [.bool true])):=by
   intro hq
   have hg:=m4 hq
   have hlo:=hg.few
   obtain⟨u,u1,u2⟩:=c_mText o (by omega) (mvIn_of m2 m3 hg)
   refine⟨u,u1,?_⟩
   by_cases hz:u.size≤6000
   ·exact .inr ⟨decF (by omega),read_back hg u2 hz,c_mSame o m2 (by omega)⟩
   ·exact .inl (decT (by omega))
  cases hq:decide (q=0)with
  |false=>
   have ho:=m5 (of_decide_eq_false hq)
   subst ho
   have ml:(mrows []).length=0:=rfl
   rcases first with e|e|⟨e1,e2,e3⟩
   ·refine cOf (by kernel_rfl) rfl ?_
    rw[g4_eq]
    simp only [g4,go1,Nat.reduceAdd,Int.reduceEq,Int.reduceLT,Int.reduceLE,Int.reduceSub,Int.reduceAdd,h0,h1,hd,k1,seq_tb,e,m1,n1,hq,ml]
    rfl
   ·refine cOf (by kernel_rfl) rfl ?_
    rw[g4_eq]
    simp only [g4,go1,Nat.reduceAdd,Int.reduceEq,Int.reduceLT,Int.reduceLE,Int.reduceSub,Int.reduceAdd,h0,h1,hd,k1,seq_tb,e,m1,n1,hq,ml]
    rfl
   ·refine cOf (by kernel_rfl) rfl ?_
    rw[g4_eq]
    simp only [g4,go1,Nat.reduceAdd,Int.reduceEq,Int.reduceLT,Int.reduceLE,Int.reduceSub,Int.reduceAdd,h0,h1,hd,k1,seq_tb,e1,e2,e3,k6,n0,m1,n1,hq,ml,decide_true]
    rfl
  |true=>
   have hq0:=of_decide_eq_true hq
   subst hq0
   obtain⟨u,u1,u2⟩:=last rfl
   rcases u2 with u2|⟨u2,u3,u4⟩
   ·rcases first with e|e|⟨e1,e2,e3⟩
    ·refine cOf (by kernel_rfl) rfl ?_
     rw[g4_eq]
     simp only [g4,go1,Nat.reduceAdd,Int.reduceEq,Int.reduceLT,Int.reduceLE,Int.reduceSub,Int.reduceAdd,h0,h1,hd,k1,seq_tb,e,m1,n1,u1,u2]
    ·refine cOf (by kernel_rfl) rfl ?_
     rw[g4_eq]
     simp only [g4,go1,Nat.reduceAdd,Int.reduceEq,Int.reduceLT,Int.reduceLE,Int.reduceSub,Int.reduceAdd,h0,h1,hd,k1,seq_tb,e,m1,n1,u1,u2]
    ·refine cOf (by kernel_rfl) rfl ?_
     rw[g4_eq]
     simp only [g4,go1,Nat.reduceAdd,Int.reduceEq,Int.reduceLT,Int.reduceLE,Int.reduceSub,Int.reduceAdd,h0,h1,hd,k1,seq_tb,e1,e2,e3,k6,n0,m1,n1,u1,u2,decide_true]
   ·rcases first with e|e|⟨e1,e2,e3⟩
    ·refine cOf (by kernel_rfl) rfl ?_
     rw[g4_eq]
     simp only [g4,go1,Nat.reduceAdd,Int.reduceEq,Int.reduceLT,Int.reduceLE,Int.reduceSub,Int.reduceAdd,h0,h1,hd,k1,seq_tb,e,m1,n1,u1,u2,u3,u4,decide_true]
    ·refine cOf (by kernel_rfl) rfl ?_
     rw[g4_eq]
     simp only [g4,go1,Nat.reduceAdd,Int.reduceEq,Int.reduceLT,Int.reduceLE,Int.reduceSub,Int.reduceAdd,h0,h1,hd,k1,seq_tb,e,m1,n1,u1,u2,u3,u4,decide_true]
    ·refine cOf (by kernel_rfl) rfl ?_
     rw[g4_eq]
     simp only [g4,go1,Nat.reduceAdd,Int.reduceEq,Int.reduceLT,Int.reduceLE,Int.reduceSub,Int.reduceAdd,h0,h1,hd,k1,seq_tb,e1,e2,e3,k6,n0,m1,n1,u1,u2,u3,u4,decide_true]
end Go.Vm
end
