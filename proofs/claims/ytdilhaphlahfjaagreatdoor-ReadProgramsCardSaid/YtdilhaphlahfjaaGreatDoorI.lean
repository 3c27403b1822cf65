/-
  Part I of the proof. What is proved by the whole: the statement that the claim names, with no condition. This part: lemmas.
-/
import Derived.Test.YtdilhaphlahfjaaGreatDoorH
set_option linter.all false

section
set_option maxRecDepth 100000
set_option maxHeartbeats 4000000
namespace Go.Vm
open Go.Proofs
def k4q:Nt→FuncId
 | .arrow=>1000150
 | .fby=>1000181
 | .or=>1000211
 | .and=>1000234
 | .cmp=>1000245
 | .sum=>1000254
 | .prod=>1000263
 | .un=>1000272
 | .post=>1000277
 | .atom=>1000280
structure HR (l:List Tk) (p:PR):Prop where
 c: ∀nt i,i < l.length→p nt i≠ .out→ ∃r,cF (k4q nt) (rP (x0a l) (i:Int) false)=some r∧QR Ex.row l (p nt i) r
 lt: ∀nt i e j,i < l.length→p nt i= .ok e j→j < l.length
 gt: ∀nt i e j,i < l.length→p nt i= .ok e j→i < j
theorem y0z (o:Nat)(a b:Ex): ∀k n s o1 ar su k2 n2 s2 o2 ar2 su2,a= .mk k n s o1 ar su→b= .mk k2 n2 s2 o2 ar2 su2→
  cF 236 [.d (.int .i64 (o:Int)), .agg [.d (.int .i64 k), .d (.int .i64 n), .d (.str s), .d (.int .i64 o1), .d (.sl 1 (x0e ar)), .d (.sl 6 (Ex.rows su))], .agg [.d (.int .i64 k2), .d (.int .i64 n2), .d (.str s2), .d (.int .i64 o2), .d (.sl 1 (x0e ar2)), .d (.sl 6 (Ex.rows su2))]]=some (.val (x5c o a b).row):=by
 rintro k n s o1 ar su k2 n2 s2 o2 ar2 su2 rfl rfl
 refine cOf (by kernel_rfl) rfl ?_
 rw[w2m]
 simp only [k0k]
 rfl
theorem w0x (l:List Tk)(i:Int):cF 1000150 (rP (x0a l) i true)=some (.val (e0.row++[.sl 4 (x0a l), .int .i64 i, .bool true])):=by
 refine x4c (f:=150) (by kernel_rfl) (by with_reducible first|exact y1u _ _|exact y1t _ _ _|exact y1s _ _|exact y1r _ _ _|exact y1q _ _ _ _|exact y1p _ _ _|exact x6q _ _ _|exact x6u _ _ _ _|exact x7a _ _ _ _ _) (by kernel_rfl) rfl ?_
 rw[u1n]
 simp only [w9m,oE,oR,go1,Nat.reduceAdd]
 rfl
theorem q6n {l:List Tk}(hl:LOK l){n:Nat}{p:PR}(hp:HR l p)(i:Nat)(hi:i < l.length)(hne:x3u l n p .and 9 2 i≠ .out): ∃r,cF 1000211 (rP (x0a l) (i:Int) false)=some r∧QR Ex.row l (x3u l n p .and 9 2 i) r:=by
 have lp: ∀(e:Ex) (j:Nat) (b:Bool) (R:Rs Ex),R≠ .out→(b=false→x1q (x3z l p .and 9 2) n (e,j)=R)→(b=true→R= .bad j)→j < l.length→cF 1000234 (rP (x0a l) (i:Int) false)=some (x3s Ex.row l e j b)→ ∃r,cF 1000211 (rP (x0a l) (i:Int) false)=some r∧QR Ex.row l R r:=by
  intro e j b R hne hR hb hj h1
  have e0: ∃k0 n0 s0 o0 a0 u0,e= .mk k0 n0 s0 o0 a0 u0:=by obtain⟨k0,n0,s0,o0,a0,u0⟩:=e;exact⟨_,_,_,_,_,_,rfl⟩
  obtain⟨k0,n0,s0,o0,a0,u0,rfl⟩:=e0
  refine x9t (f:=211) (by kernel_rfl) (by with_reducible first|exact x6q _ _ _|exact x6u _ _ _ _|exact x7a _ _ _ _ _) (by kernel_rfl) rfl ?_
  rw[w8g]
  simp only [k4b,oE,oR,oT,go1,Nat.reduceAdd,h1,x3s,Ex.row,a0e,a0g]
  refine x5o (fun x:Nat × Ex × Nat × Bool=>[.sl 4 (x0a l), .int .i64 (x.2.2.1:Int), .bool x.2.2.2, .int .i64 0, .int .i64 0, .str (bs []), .int .i64 0]++x.2.1.row) (fun x=>(x.2.2.2=false→x1q (x3z l p .and 9 2) x.1 (x.2.1,x.2.2.1)=R)∧(x.2.2.2=true→R= .bad x.2.2.1)∧x.2.2.1 < l.length) (fun x=>2*x.1+(match x.2.2.2 with|true=>0|false=>1)) (fun x hx=> ?_) (n, .mk k0 n0 s0 o0 a0 u0,j,b) ⟨hR,hb,hj⟩
  obtain⟨n1,⟨k1,m1,s1,o1,a1,u1⟩,i1,b1⟩:=x
  obtain⟨hx,hxb,hi1⟩:=hx
  simp only at hx hxb hi1 ⊢
  simp only [Ex.row,go1,a0e,a0g]
  cases b1 with
  |true=>
   right
   simp only [go1]
   refine⟨_,rfl,?_⟩
   rw[hxb rfl]
   exact⟨hi1, .mk k1 m1 s1 o1 a1 u1,rfl⟩
  |false=>
   have hx:=hx rfl
   cases n1 with
   |zero=>exact(hne hx.symm).elim
   |succ n1=>
    have h2:cF 1000235 (rO [[.int .i64 9],[.int .i64 10]] [[.str (bs [111,114])],[.str (bs [120,111,114])]] (x0a l) (i1:Int) false)=_:=u2o l hl i1 hi1 9 2 (by omega) false
    simp only [a2m,h2,go1]
    rw[x1q,x3z]at hx
    cases ho:y5p l i1 9 2 with
    |none=>
     right
     rw[ho]at hx
     refine⟨_,rfl,?_⟩
     rw[←hx];rfl
    |some o=>
     rw[ho]at hx
     simp only at hx
     have ho':=x2k ho
     have hi2:=hl.next hi1 ho'.1
     have hq:p .and (i1+1)≠ .out:=fun e=>hne (by rw[e]at hx;exact hx.symm)
     simp only [go1,x1c (p:=(o:Int)=0) (by omega)]
     rcases x1d (hp.c .and (i1+1) hi2 hq)with⟨e2,j2,hr2,h3⟩|⟨e2,j2,hr2,hj2,h3⟩
     ·left
      rw[hr2]at hx
      have h3:cF 1000234 (rP (x0a l) ((i1+1:Nat):Int) false)=_:=h3
      obtain⟨k3,n3,s3,o3,a3,u3⟩:=e2
      have h4:=y0z o _ _ k1 m1 s1 o1 a1 u1 k3 n3 s3 o3 a3 u3 rfl rfl
      refine⟨(n1,x5c o (.mk k1 m1 s1 o1 a1 u1) (.mk k3 n3 s3 o3 a3 u3),j2,false),?_,⟨fun _=>hx,fun h=>(by cases h),hp.lt _ _ _ _ hi2 hr2⟩,by simp only;omega⟩
      simp only [h3,x3s,Ex.row,go1,a0e,a0g,h4,x5c]
     ·left
      rw[hr2]at hx
      have h3:cF 1000234 (rP (x0a l) ((i1+1:Nat):Int) false)=_:=h3
      obtain⟨k3,n3,s3,o3,a3,u3⟩:=e2
      have h4:=y0z o _ _ k1 m1 s1 o1 a1 u1 k3 n3 s3 o3 a3 u3 rfl rfl
      refine⟨(n1,x5c o (.mk k1 m1 s1 o1 a1 u1) (.mk k3 n3 s3 o3 a3 u3),j2,true),?_,⟨fun h=>(by cases h),fun _=>hx.symm,hj2⟩,by simp only;omega⟩
      simp only [h3,x3s,Ex.row,go1,a0e,a0g,h4,x5c]
 unfold x3u at hne ⊢
 rcases x1d (hp.c .and i hi (x0s hne))with⟨e,j,hr,h1⟩|⟨e,j,hr,hj,h1⟩
 ·rw[hr,Rs.bind_ok]at hne ⊢
  exact lp e j false _ hne (fun _=>rfl) (fun h=>by cases h) (hp.lt _ _ _ _ hi hr) h1
 ·rw[hr,Rs.bind_bad]at hne ⊢
  exact lp e j true _ hne (fun h=>by cases h) (fun _=>rfl) hj h1
theorem q0g {l:List Tk}(hl:LOK l){n:Nat}{p:PR}(hp:HR l p)(i:Nat)(hi:i < l.length)(hne:x3u l n p .prod 3 2 i≠ .out): ∃r,cF 1000254 (rP (x0a l) (i:Int) false)=some r∧QR Ex.row l (x3u l n p .prod 3 2 i) r:=by
 have lp: ∀(e:Ex) (j:Nat) (b:Bool) (R:Rs Ex),R≠ .out→(b=false→x1q (x3z l p .prod 3 2) n (e,j)=R)→(b=true→R= .bad j)→j < l.length→cF 1000263 (rP (x0a l) (i:Int) false)=some (x3s Ex.row l e j b)→ ∃r,cF 1000254 (rP (x0a l) (i:Int) false)=some r∧QR Ex.row l R r:=by
  intro e j b R hne hR hb hj h1
  have e0: ∃k0 n0 s0 o0 a0 u0,e= .mk k0 n0 s0 o0 a0 u0:=by obtain⟨k0,n0,s0,o0,a0,u0⟩:=e;exact⟨_,_,_,_,_,_,rfl⟩
  obtain⟨k0,n0,s0,o0,a0,u0,rfl⟩:=e0
  refine x9t (f:=254) (by kernel_rfl) (by with_reducible first|exact x6q _ _ _|exact x6u _ _ _ _|exact x7a _ _ _ _ _) (by kernel_rfl) rfl ?_
  rw[w7u]
  simp only [k3p,oE,oR,oT,go1,Nat.reduceAdd,h1,x3s,Ex.row,a0e,a0g]
  refine x5o (fun x:Nat × Ex × Nat × Bool=>[.sl 4 (x0a l), .int .i64 (x.2.2.1:Int), .bool x.2.2.2, .int .i64 0, .int .i64 0, .str (bs []), .int .i64 0]++x.2.1.row) (fun x=>(x.2.2.2=false→x1q (x3z l p .prod 3 2) x.1 (x.2.1,x.2.2.1)=R)∧(x.2.2.2=true→R= .bad x.2.2.1)∧x.2.2.1 < l.length) (fun x=>2*x.1+(match x.2.2.2 with|true=>0|false=>1)) (fun x hx=> ?_) (n, .mk k0 n0 s0 o0 a0 u0,j,b) ⟨hR,hb,hj⟩
  obtain⟨n1,⟨k1,m1,s1,o1,a1,u1⟩,i1,b1⟩:=x
  obtain⟨hx,hxb,hi1⟩:=hx
  simp only at hx hxb hi1 ⊢
  simp only [Ex.row,go1,a0e,a0g]
  cases b1 with
  |true=>
   right
   simp only [go1]
   refine⟨_,rfl,?_⟩
   rw[hxb rfl]
   exact⟨hi1, .mk k1 m1 s1 o1 a1 u1,rfl⟩
  |false=>
   have hx:=hx rfl
   cases n1 with
   |zero=>exact(hne hx.symm).elim
   |succ n1=>
    have h2:cF 1000235 (rO [[.int .i64 3],[.int .i64 4]] [[.str (bs [43])],[.str (bs [45])]] (x0a l) (i1:Int) false)=_:=u2o l hl i1 hi1 3 2 (by omega) false
    simp only [a2m,h2,go1]
    rw[x1q,x3z]at hx
    cases ho:y5p l i1 3 2 with
    |none=>
     right
     rw[ho]at hx
     refine⟨_,rfl,?_⟩
     rw[←hx];rfl
    |some o=>
     rw[ho]at hx
     simp only at hx
     have ho':=x2k ho
     have hi2:=hl.next hi1 ho'.1
     have hq:p .prod (i1+1)≠ .out:=fun e=>hne (by rw[e]at hx;exact hx.symm)
     simp only [go1,x1c (p:=(o:Int)=0) (by omega)]
     rcases x1d (hp.c .prod (i1+1) hi2 hq)with⟨e2,j2,hr2,h3⟩|⟨e2,j2,hr2,hj2,h3⟩
     ·left
      rw[hr2]at hx
      have h3:cF 1000263 (rP (x0a l) ((i1+1:Nat):Int) false)=_:=h3
      obtain⟨k3,n3,s3,o3,a3,u3⟩:=e2
      have h4:=y0z o _ _ k1 m1 s1 o1 a1 u1 k3 n3 s3 o3 a3 u3 rfl rfl
      refine⟨(n1,x5c o (.mk k1 m1 s1 o1 a1 u1) (.mk k3 n3 s3 o3 a3 u3),j2,false),?_,⟨fun _=>hx,fun h=>(by cases h),hp.lt _ _ _ _ hi2 hr2⟩,by simp only;omega⟩
      simp only [h3,x3s,Ex.row,go1,a0e,a0g,h4,x5c]
     ·left
      rw[hr2]at hx
      have h3:cF 1000263 (rP (x0a l) ((i1+1:Nat):Int) false)=_:=h3
      obtain⟨k3,n3,s3,o3,a3,u3⟩:=e2
      have h4:=y0z o _ _ k1 m1 s1 o1 a1 u1 k3 n3 s3 o3 a3 u3 rfl rfl
      refine⟨(n1,x5c o (.mk k1 m1 s1 o1 a1 u1) (.mk k3 n3 s3 o3 a3 u3),j2,true),?_,⟨fun h=>(by cases h),fun _=>hx.symm,hj2⟩,by simp only;omega⟩
      simp only [h3,x3s,Ex.row,go1,a0e,a0g,h4,x5c]
 unfold x3u at hne ⊢
 rcases x1d (hp.c .prod i hi (x0s hne))with⟨e,j,hr,h1⟩|⟨e,j,hr,hj,h1⟩
 ·rw[hr,Rs.bind_ok]at hne ⊢
  exact lp e j false _ hne (fun _=>rfl) (fun h=>by cases h) (hp.lt _ _ _ _ hi hr) h1
 ·rw[hr,Rs.bind_bad]at hne ⊢
  exact lp e j true _ hne (fun h=>by cases h) (fun _=>rfl) hj h1
theorem w0l {l:List Tk}(hl:LOK l){n:Nat}{p:PR}(hp:HR l p)(i:Nat)(hi:i < l.length)(hne:x3u l n p .un 5 3 i≠ .out): ∃r,cF 1000263 (rP (x0a l) (i:Int) false)=some r∧QR Ex.row l (x3u l n p .un 5 3 i) r:=by
 have lp: ∀(e:Ex) (j:Nat) (b:Bool) (R:Rs Ex),R≠ .out→(b=false→x1q (x3z l p .un 5 3) n (e,j)=R)→(b=true→R= .bad j)→j < l.length→cF 1000272 (rP (x0a l) (i:Int) false)=some (x3s Ex.row l e j b)→ ∃r,cF 1000263 (rP (x0a l) (i:Int) false)=some r∧QR Ex.row l R r:=by
  intro e j b R hne hR hb hj h1
  have e0: ∃k0 n0 s0 o0 a0 u0,e= .mk k0 n0 s0 o0 a0 u0:=by obtain⟨k0,n0,s0,o0,a0,u0⟩:=e;exact⟨_,_,_,_,_,_,rfl⟩
  obtain⟨k0,n0,s0,o0,a0,u0,rfl⟩:=e0
  refine x9t (f:=263) (by kernel_rfl) (by with_reducible first|exact x6q _ _ _|exact x6u _ _ _ _|exact x7a _ _ _ _ _) (by kernel_rfl) rfl ?_
  rw[w7s]
  simp only [k3n,oE,oR,oT,go1,Nat.reduceAdd,h1,x3s,Ex.row,a0e,a0g]
  refine x5o (fun x:Nat × Ex × Nat × Bool=>[.sl 4 (x0a l), .int .i64 (x.2.2.1:Int), .bool x.2.2.2, .int .i64 0, .int .i64 0, .str (bs []), .int .i64 0]++x.2.1.row) (fun x=>(x.2.2.2=false→x1q (x3z l p .un 5 3) x.1 (x.2.1,x.2.2.1)=R)∧(x.2.2.2=true→R= .bad x.2.2.1)∧x.2.2.1 < l.length) (fun x=>2*x.1+(match x.2.2.2 with|true=>0|false=>1)) (fun x hx=> ?_) (n, .mk k0 n0 s0 o0 a0 u0,j,b) ⟨hR,hb,hj⟩
  obtain⟨n1,⟨k1,m1,s1,o1,a1,u1⟩,i1,b1⟩:=x
  obtain⟨hx,hxb,hi1⟩:=hx
  simp only at hx hxb hi1 ⊢
  simp only [Ex.row,go1,a0e,a0g]
  cases b1 with
  |true=>
   right
   simp only [go1]
   refine⟨_,rfl,?_⟩
   rw[hxb rfl]
   exact⟨hi1, .mk k1 m1 s1 o1 a1 u1,rfl⟩
  |false=>
   have hx:=hx rfl
   cases n1 with
   |zero=>exact(hne hx.symm).elim
   |succ n1=>
    have h2:cF 1000235 (rO [[.int .i64 5],[.int .i64 6],[.int .i64 7]] [[.str (bs [42])],[.str (bs [47])],[.str (bs [109,111,100])]] (x0a l) (i1:Int) false)=_:=u2o l hl i1 hi1 5 3 (by omega) false
    simp only [a2m,h2,go1]
    rw[x1q,x3z]at hx
    cases ho:y5p l i1 5 3 with
    |none=>
     right
     rw[ho]at hx
     refine⟨_,rfl,?_⟩
     rw[←hx];rfl
    |some o=>
     rw[ho]at hx
     simp only at hx
     have ho':=x2k ho
     have hi2:=hl.next hi1 ho'.1
     have hq:p .un (i1+1)≠ .out:=fun e=>hne (by rw[e]at hx;exact hx.symm)
     simp only [go1,x1c (p:=(o:Int)=0) (by omega)]
     rcases x1d (hp.c .un (i1+1) hi2 hq)with⟨e2,j2,hr2,h3⟩|⟨e2,j2,hr2,hj2,h3⟩
     ·left
      rw[hr2]at hx
      have h3:cF 1000272 (rP (x0a l) ((i1+1:Nat):Int) false)=_:=h3
      obtain⟨k3,n3,s3,o3,a3,u3⟩:=e2
      have h4:=y0z o _ _ k1 m1 s1 o1 a1 u1 k3 n3 s3 o3 a3 u3 rfl rfl
      refine⟨(n1,x5c o (.mk k1 m1 s1 o1 a1 u1) (.mk k3 n3 s3 o3 a3 u3),j2,false),?_,⟨fun _=>hx,fun h=>(by cases h),hp.lt _ _ _ _ hi2 hr2⟩,by simp only;omega⟩
      simp only [h3,x3s,Ex.row,go1,a0e,a0g,h4,x5c]
     ·left
      rw[hr2]at hx
      have h3:cF 1000272 (rP (x0a l) ((i1+1:Nat):Int) false)=_:=h3
      obtain⟨k3,n3,s3,o3,a3,u3⟩:=e2
      have h4:=y0z o _ _ k1 m1 s1 o1 a1 u1 k3 n3 s3 o3 a3 u3 rfl rfl
      refine⟨(n1,x5c o (.mk k1 m1 s1 o1 a1 u1) (.mk k3 n3 s3 o3 a3 u3),j2,true),?_,⟨fun h=>(by cases h),fun _=>hx.symm,hj2⟩,by simp only;omega⟩
      simp only [h3,x3s,Ex.row,go1,a0e,a0g,h4,x5c]
 unfold x3u at hne ⊢
 rcases x1d (hp.c .un i hi (x0s hne))with⟨e,j,hr,h1⟩|⟨e,j,hr,hj,h1⟩
 ·rw[hr,Rs.bind_ok]at hne ⊢
  exact lp e j false _ hne (fun _=>rfl) (fun h=>by cases h) (hp.lt _ _ _ _ hi hr) h1
 ·rw[hr,Rs.bind_bad]at hne ⊢
  exact lp e j true _ hne (fun h=>by cases h) (fun _=>rfl) hj h1
theorem q0h {l:List Tk}(hl:LOK l){p:PR}(hp:HR l p)(i:Nat)(hi:i < l.length)(hne:v0x l p i≠ .out): ∃r,cF 1000181 (rP (x0a l) (i:Int) false)=some r∧QR Ex.row l (v0x l p i) r:=by
 rcases x1d (hp.c .or i hi (x0s hne))with⟨⟨k0,n0,s0,o0,a0,u0⟩,j,hr,h1⟩|⟨⟨k0,n0,s0,o0,a0,u0⟩,j,hr,hj,h1⟩
 ·have h1:cF 1000211 (rP (x0a l) (i:Int) false)=_:=h1
  have hj:=hp.lt _ _ _ _ hi hr
  refine x9t (f:=181) (by kernel_rfl) (by with_reducible first|exact x6q _ _ _|exact x6u _ _ _ _|exact x7a _ _ _ _ _) (by kernel_rfl) rfl ?_
  rw[v2y]
  simp only [q8v,oE,oR,go1,Nat.reduceAdd,Nat.reduceAdd,h1,x3s,Ex.row,a0e,a0g,x7g l hl j hj]
  unfold v0x at hne ⊢
  rw[hr,Rs.bind_ok]at hne ⊢
  cases ht:isT l j (bs [102,98,121])with
  |false=>simp only [go1,x0i];rfl
  |true=>
   rw[ht]at hne
   have hj2:=hl.next hj (x0t ht)
   rcases x1d (hp.c .fby (j+1) hj2 (x0s hne))with⟨⟨k2,n2,s2,o2,a2,u2⟩,k,hr2,h3⟩|⟨⟨k2,n2,s2,o2,a2,u2⟩,k,hr2,hk,h3⟩
   ·have h3:cF 1000181 (rP (x0a l) ((j+1:Nat):Int) false)=_:=h3
    simp only [go1,h3,x3s,Ex.row,a0e,a0g,x0i,hr2,Rs.bind_ok]
    rfl
   ·have h3:cF 1000181 (rP (x0a l) ((j+1:Nat):Int) false)=_:=h3
    simp only [go1,h3,x3s,Ex.row,a0e,a0g,x0i,hr2,Rs.bind_bad]
    exact⟨hk,ex 8 [.mk k0 n0 s0 o0 a0 u0, .mk k2 n2 s2 o2 a2 u2],rfl⟩
 ·have h1:cF 1000211 (rP (x0a l) (i:Int) false)=_:=h1
  refine x9t (f:=181) (by kernel_rfl) (by with_reducible first|exact x6q _ _ _|exact x6u _ _ _ _|exact x7a _ _ _ _ _) (by kernel_rfl) rfl ?_
  rw[v2y]
  simp only [q8v,oE,oR,x0i,go1,Nat.reduceAdd,Nat.reduceAdd,h1,x3s,Ex.row,a0e,a0g,x6x l hl j hj]
  unfold v0x
  rw[hr,Rs.bind_bad]
  exact⟨hj, .mk k0 n0 s0 o0 a0 u0,rfl⟩
theorem v4d {l:List Tk}(hl:LOK l){p:PR}(hp:HR l p)(i:Nat)(hi:i < l.length)(hne:x9u l p i≠ .out): ∃r,cF 1000150 (rP (x0a l) (i:Int) false)=some r∧QR Ex.row l (x9u l p i) r:=by
 rcases x1d (hp.c .fby i hi (x0s hne))with⟨⟨k0,n0,s0,o0,a0,u0⟩,j,hr,h1⟩|⟨⟨k0,n0,s0,o0,a0,u0⟩,j,hr,hj,h1⟩
 ·have h1:cF 1000181 (rP (x0a l) (i:Int) false)=_:=h1
  have hj:=hp.lt _ _ _ _ hi hr
  refine x9t (f:=150) (by kernel_rfl) (by with_reducible first|exact x6q _ _ _|exact x6u _ _ _ _|exact x7a _ _ _ _ _) (by kernel_rfl) rfl ?_
  rw[u1n]
  simp only [w9m,oE,oR,go1,Nat.reduceAdd,Nat.reduceAdd,h1,x3s,Ex.row,a0e,a0g,x7g l hl j hj]
  unfold x9u at hne ⊢
  rw[hr,Rs.bind_ok]at hne ⊢
  cases ht:isT l j (bs [45,62])with
  |false=>simp only [go1,x0i];rfl
  |true=>
   rw[ht]at hne
   have hj2:=hl.next hj (x0t ht)
   rcases x1d (hp.c .arrow (j+1) hj2 (x0s hne))with⟨⟨k2,n2,s2,o2,a2,u2⟩,k,hr2,h3⟩|⟨⟨k2,n2,s2,o2,a2,u2⟩,k,hr2,hk,h3⟩
   ·have h3:cF 1000150 (rP (x0a l) ((j+1:Nat):Int) false)=_:=h3
    simp only [go1,h3,x3s,Ex.row,a0e,a0g,x0i,hr2,Rs.bind_ok]
    rfl
   ·have h3:cF 1000150 (rP (x0a l) ((j+1:Nat):Int) false)=_:=h3
    simp only [go1,h3,x3s,Ex.row,a0e,a0g,x0i,hr2,Rs.bind_bad]
    exact⟨hk,ex 9 [.mk k0 n0 s0 o0 a0 u0, .mk k2 n2 s2 o2 a2 u2],rfl⟩
 ·have h1:cF 1000181 (rP (x0a l) (i:Int) false)=_:=h1
  refine x9t (f:=150) (by kernel_rfl) (by with_reducible first|exact x6q _ _ _|exact x6u _ _ _ _|exact x7a _ _ _ _ _) (by kernel_rfl) rfl ?_
  rw[u1n]
  simp only [w9m,oE,oR,x0i,go1,Nat.reduceAdd,Nat.reduceAdd,h1,x3s,Ex.row,a0e,a0g,x6x l hl j hj]
  unfold x9u
  rw[hr,Rs.bind_bad]
  exact⟨hj, .mk k0 n0 s0 o0 a0 u0,rfl⟩
theorem q0i {l:List Tk}(hl:LOK l){p:PR}(hp:HR l p)(i:Nat)(hi:i < l.length)(hne:v1l l p i≠ .out): ∃r,cF 1000245 (rP (x0a l) (i:Int) false)=some r∧QR Ex.row l (v1l l p i) r:=by
 have sg: ∀j,j < l.length→ ∀b,cF 1000235 (rO [[.int .i64 11],[.int .i64 12],[.int .i64 13],[.int .i64 14],[.int .i64 15],[.int .i64 16]] [[.str (bs [61])],[.str (bs [60,62])],[.str (bs [60])],[.str (bs [60,61])],[.str (bs [62])],[.str (bs [62,61])]] (x0a l) (j:Int) b)=_:=fun j hj b=>u2o l hl j hj 11 6 (by omega) b
 rcases x1d (hp.c .sum i hi (x0s hne))with⟨⟨k0,n0,s0,o0,a0,u0⟩,j,hr,h1⟩|⟨⟨k0,n0,s0,o0,a0,u0⟩,j,hr,hj,h1⟩
 ·have h1:cF 1000254 (rP (x0a l) (i:Int) false)=_:=h1
  have hj:=hp.lt _ _ _ _ hi hr
  refine x9t (f:=245) (by kernel_rfl) (by with_reducible first|exact x6q _ _ _|exact x6u _ _ _ _|exact x7a _ _ _ _ _) (by kernel_rfl) rfl ?_
  rw[v2x]
  simp only [q8u,oE,oR,go1,Nat.reduceAdd,Nat.reduceAdd,h1,x3s,Ex.row,a0e,a0g,sg j hj false]
  unfold v1l at hne ⊢
  rw[hr,Rs.bind_ok]at hne ⊢
  cases ho:y5p l j 11 6 with
  |none=>simp only [go1,Int.reduceLT,Int.reduceLT,x0i];rfl
  |some o=>
   rw[ho]at hne
   have ho':=x2k ho
   have hj2:=hl.next hj ho'.1
   rcases x1d (hp.c .sum (j+1) hj2 (x0s hne))with⟨⟨k2,n2,s2,o2,a2,u2⟩,k,hr2,h3⟩|⟨⟨k2,n2,s2,o2,a2,u2⟩,k,hr2,hk,h3⟩
   ·have h3:cF 1000254 (rP (x0a l) ((j+1:Nat):Int) false)=_:=h3
    have h4:=y0z o _ _ k0 n0 s0 o0 a0 u0 k2 n2 s2 o2 a2 u2 rfl rfl
    simp only [go1,x1m (p:=(0:Int) < (o:Int)) (by omega),h3,x3s,Ex.row,a0e,a0g,x0i,hr2,Rs.bind_ok,h4,x5c]
    rfl
   ·have h3:cF 1000254 (rP (x0a l) ((j+1:Nat):Int) false)=_:=h3
    have h4:=y0z o _ _ k0 n0 s0 o0 a0 u0 k2 n2 s2 o2 a2 u2 rfl rfl
    simp only [go1,x1m (p:=(0:Int) < (o:Int)) (by omega),h3,x3s,Ex.row,a0e,a0g,x0i,hr2,Rs.bind_bad,h4,x5c]
    exact⟨hk,x5c o (.mk k0 n0 s0 o0 a0 u0) (.mk k2 n2 s2 o2 a2 u2),rfl⟩
 ·have h1:cF 1000254 (rP (x0a l) (i:Int) false)=_:=h1
  refine x9t (f:=245) (by kernel_rfl) (by with_reducible first|exact x6q _ _ _|exact x6u _ _ _ _|exact x7a _ _ _ _ _) (by kernel_rfl) rfl ?_
  rw[v2x]
  simp only [q8u,oE,oR,x0i,go1,Nat.reduceAdd,Int.reduceLT,Nat.reduceAdd,Int.reduceLT,h1,x3s,Ex.row,a0e,a0g,sg j hj true]
  unfold v1l
  rw[hr,Rs.bind_bad]
  exact⟨hj, .mk k0 n0 s0 o0 a0 u0,rfl⟩
theorem q6m {l:List Tk}(hl:LOK l){p:PR}(hp:HR l p)(i:Nat)(hi:i < l.length)(hne:unS l p i≠ .out): ∃r,cF 1000272 (rP (x0a l) (i:Int) false)=some r∧QR Ex.row l (unS l p i) r:=by
 have h0:=x7g l hl i hi
 refine x9t (f:=272) (by kernel_rfl) (by with_reducible first|exact x6q _ _ _|exact x6u _ _ _ _|exact x7a _ _ _ _ _) (by kernel_rfl) rfl ?_
 rw[w7p]
 simp only [k3k,oE,oR,go1,Nat.reduceAdd,Nat.reduceAdd,h0]
 unfold unS at hne ⊢
 cases t1:isT l i (bs [45])with
 |true=>
  rw[t1]at hne
  rcases x1d (hp.c .un (i+1) (hl.next hi (x0t t1)) (x0s hne))with⟨⟨k2,n2,s2,o2,a2,u2⟩,k,hr2,h3⟩|⟨⟨k2,n2,s2,o2,a2,u2⟩,k,hr2,hk,h3⟩
  ·have h3:cF 1000272 (rP (x0a l) ((i+1:Nat):Int) false)=_:=h3
   simp only [go1,h3,x3s,Ex.row,a0e,a0g,x0i,hr2,Rs.bind_ok];rfl
  ·have h3:cF 1000272 (rP (x0a l) ((i+1:Nat):Int) false)=_:=h3
   simp only [go1,h3,x3s,Ex.row,a0e,a0g,x0i,hr2,Rs.bind_bad]
   exact⟨hk, .mk 5 0 (bs []) 1 [] [.mk k2 n2 s2 o2 a2 u2],rfl⟩
 |false=>
  rw[t1]at hne
  simp only [go1,h0]at hne ⊢
  cases t2:isT l i (bs [110,111,116])with
  |true=>
   rw[t2]at hne
   rcases x1d (hp.c .un (i+1) (hl.next hi (x0t t2)) (x0s hne))with⟨⟨k2,n2,s2,o2,a2,u2⟩,k,hr2,h3⟩|⟨⟨k2,n2,s2,o2,a2,u2⟩,k,hr2,hk,h3⟩
   ·have h3:cF 1000272 (rP (x0a l) ((i+1:Nat):Int) false)=_:=h3
    simp only [go1,h3,x3s,Ex.row,a0e,a0g,x0i,hr2,Rs.bind_ok];rfl
   ·have h3:cF 1000272 (rP (x0a l) ((i+1:Nat):Int) false)=_:=h3
    simp only [go1,h3,x3s,Ex.row,a0e,a0g,x0i,hr2,Rs.bind_bad]
    exact⟨hk, .mk 5 0 (bs []) 2 [] [.mk k2 n2 s2 o2 a2 u2],rfl⟩
  |false=>
   rw[t2]at hne
   simp only [go1,h0]at hne ⊢
   cases t3:isT l i (bs [112,114,101])with
   |true=>
    rw[t3]at hne
    rcases x1d (hp.c .un (i+1) (hl.next hi (x0t t3)) (x0s hne))with⟨⟨k2,n2,s2,o2,a2,u2⟩,k,hr2,h3⟩|⟨⟨k2,n2,s2,o2,a2,u2⟩,k,hr2,hk,h3⟩
    ·have h3:cF 1000272 (rP (x0a l) ((i+1:Nat):Int) false)=_:=h3
     simp only [go1,h3,x3s,Ex.row,a0e,a0g,x0i,hr2,Rs.bind_ok];rfl
    ·have h3:cF 1000272 (rP (x0a l) ((i+1:Nat):Int) false)=_:=h3
     simp only [go1,h3,x3s,Ex.row,a0e,a0g,x0i,hr2,Rs.bind_bad]
     exact⟨hk,ex 10 [.mk k2 n2 s2 o2 a2 u2],rfl⟩
   |false=>
    rw[t3]at hne
    rcases x1d (hp.c .post i hi hne)with⟨⟨k2,n2,s2,o2,a2,u2⟩,k,hr2,h3⟩|⟨⟨k2,n2,s2,o2,a2,u2⟩,k,hr2,hk,h3⟩
    ·have h3:cF 1000277 (rP (x0a l) (i:Int) false)=_:=h3
     simp only [go1,h3,x3s,Ex.row,a0e,a0g,x0i,hr2];rfl
    ·have h3:cF 1000277 (rP (x0a l) (i:Int) false)=_:=h3
     simp only [go1,h3,x3s,Ex.row,a0e,a0g,x0i,hr2]
     exact⟨hk, .mk k2 n2 s2 o2 a2 u2,rfl⟩
theorem q0j {l:List Tk}(hl:LOK l){n:Nat}{p:PR}(hp:HR l p)(i:Nat)(hi:i < l.length)(hne:x3u l n p .cmp 8 1 i≠ .out): ∃r,cF 1000234 (rP (x0a l) (i:Int) false)=some r∧QR Ex.row l (x3u l n p .cmp 8 1 i) r:=by
 have lp: ∀(e:Ex) (j:Nat) (b:Bool) (R:Rs Ex),R≠ .out→(b=false→x1q (x3z l p .cmp 8 1) n (e,j)=R)→(b=true→R= .bad j)→j < l.length→cF 1000245 (rP (x0a l) (i:Int) false)=some (x3s Ex.row l e j b)→ ∃r,cF 1000234 (rP (x0a l) (i:Int) false)=some r∧QR Ex.row l R r:=by
  intro e j b R hne hR hb hj h1
  have e0: ∃k0 n0 s0 o0 a0 u0,e= .mk k0 n0 s0 o0 a0 u0:=by obtain⟨k0,n0,s0,o0,a0,u0⟩:=e;exact⟨_,_,_,_,_,_,rfl⟩
  obtain⟨k0,n0,s0,o0,a0,u0,rfl⟩:=e0
  refine x9t (f:=234) (by kernel_rfl) (by with_reducible first|exact x6q _ _ _|exact x6u _ _ _ _|exact x7a _ _ _ _ _) (by kernel_rfl) rfl ?_
  rw[w8e]
  simp only [k3z,oE,oR,oT,go1,Nat.reduceAdd,Nat.reduceAdd,h1,x3s,Ex.row,a0e,a0g]
  refine x5o (fun x:Nat × Ex × Nat × Bool=>[.sl 4 (x0a l), .int .i64 (x.2.2.1:Int), .bool x.2.2.2, .int .i64 0, .int .i64 0, .str (bs []), .int .i64 0]++x.2.1.row) (fun x=>(x.2.2.2=false→x1q (x3z l p .cmp 8 1) x.1 (x.2.1,x.2.2.1)=R)∧(x.2.2.2=true→R= .bad x.2.2.1)∧x.2.2.1 < l.length) (fun x=>2*x.1+(match x.2.2.2 with|true=>0|false=>1)) (fun x hx=> ?_) (n, .mk k0 n0 s0 o0 a0 u0,j,b) ⟨hR,hb,hj⟩
  obtain⟨n1,⟨k1,m1,s1,o1,a1,u1⟩,i1,b1⟩:=x
  obtain⟨hx,hxb,hi1⟩:=hx
  simp only at hx hxb hi1 ⊢
  simp only [Ex.row,go1,a0e,a0g]
  cases b1 with
  |true=>
   right
   simp only [go1,x6x l hl i1 hi1]
   refine⟨_,rfl,?_⟩
   rw[hxb rfl]
   exact⟨hi1, .mk k1 m1 s1 o1 a1 u1,rfl⟩
  |false=>
   have hx:=hx rfl
   cases n1 with
   |zero=>exact(hne hx.symm).elim
   |succ n1=>
    simp only [x7g l hl i1 hi1,go1]
    rw[x1q,x3z,y5p,show z0a 8=bs [97,110,100]from rfl]at hx
    cases ht:isT l i1 (bs [97,110,100])with
    |false=>
     right
     rw[ht]at hx
     refine⟨_,rfl,?_⟩
     rw[←hx];rfl
    |true=>
     rw[ht]at hx
     simp only at hx
     have hi2:=hl.next hi1 (x0t ht)
     have hq:p .cmp (i1+1)≠ .out:=fun e=>hne (by rw[e]at hx;exact hx.symm)
     rcases x1d (hp.c .cmp (i1+1) hi2 hq)with⟨e2,j2,hr2,h3⟩|⟨e2,j2,hr2,hj2,h3⟩
     ·left
      rw[hr2]at hx
      have h3:cF 1000245 (rP (x0a l) ((i1+1:Nat):Int) false)=_:=h3
      obtain⟨k3,n3,s3,o3,a3,u3⟩:=e2
      have h4:cF 236 [.d (.int .i64 8),_,_]=_:=y0z 8 _ _ k1 m1 s1 o1 a1 u1 k3 n3 s3 o3 a3 u3 rfl rfl
      refine⟨(n1,x5c 8 (.mk k1 m1 s1 o1 a1 u1) (.mk k3 n3 s3 o3 a3 u3),j2,false),?_,⟨fun _=>hx,fun h=>(by cases h),hp.lt _ _ _ _ hi2 hr2⟩,by simp only;omega⟩
      simp only [h3,x3s,Ex.row,go1,a0e,a0g,h4,x5c]
     ·left
      rw[hr2]at hx
      have h3:cF 1000245 (rP (x0a l) ((i1+1:Nat):Int) false)=_:=h3
      obtain⟨k3,n3,s3,o3,a3,u3⟩:=e2
      have h4:cF 236 [.d (.int .i64 8),_,_]=_:=y0z 8 _ _ k1 m1 s1 o1 a1 u1 k3 n3 s3 o3 a3 u3 rfl rfl
      refine⟨(n1,x5c 8 (.mk k1 m1 s1 o1 a1 u1) (.mk k3 n3 s3 o3 a3 u3),j2,true),?_,⟨fun h=>(by cases h),fun _=>hx.symm,hj2⟩,by simp only;omega⟩
      simp only [h3,x3s,Ex.row,go1,a0e,a0g,h4,x5c]
 unfold x3u at hne ⊢
 rcases x1d (hp.c .cmp i hi (x0s hne))with⟨e,j,hr,h1⟩|⟨e,j,hr,hj,h1⟩
 ·rw[hr,Rs.bind_ok]at hne ⊢
  exact lp e j false _ hne (fun _=>rfl) (fun h=>by cases h) (hp.lt _ _ _ _ hi hr) h1
 ·rw[hr,Rs.bind_bad]at hne ⊢
  exact lp e j true _ hne (fun h=>by cases h) (fun _=>rfl) hj h1
end Go.Vm
end

section
set_option maxRecDepth 100000
set_option maxHeartbeats 4000000
namespace Go.Vm
open Go.Proofs
theorem bd {x:Option PRes}{p:PRes}(h:x=some p){β:Type}(f:PRes→Option β):x.bind f=f p:=by rw[h];rfl
section
variable {β : Type} (k n o i : Int) (s : ByteArray) (a u L : LL) (b : Bool) (ds : List D)
theorem x3r (K:Int→Int→ByteArray→Int→LL→LL→Option β):oE sy (PRes.val (.int .i64 k:: .int .i64 n:: .str s:: .int .i64 o:: .sl 1 a:: .sl 6 u::ds)).leaves 0 K=K k n s o a u:=rfl
theorem y0x (x0 x1 x2 x3 x4 x5:D)(K:LL→Int→Bool→Option β):oR sy (PRes.val (x0::x1::x2::x3::x4::x5:: .sl 4 L:: .int .i64 i:: .bool b::ds)).leaves 6 K=K L i b:=rfl
theorem x9m (K:LL→Int→Bool→Option β):oR sy (PRes.val (.sl 4 L:: .int .i64 i:: .bool b::ds)).leaves 0 K=K L i b:=rfl
theorem x7v (x0:D)(K:LL→Int→Bool→Option β):oR sy (PRes.val (x0:: .sl 4 L:: .int .i64 i:: .bool b::ds)).leaves 1 K=K L i b:=rfl
theorem x9e (f:Bool→Option β):(opB (sy.cell (PRes.val (.bool b::ds)).leaves 0)).bind f=f b:=rfl
theorem v8n (f:ByteArray→Option β):(opS (sy.cell (PRes.val (.str s::ds)).leaves 0)).bind f=f s:=rfl
end
theorem vE (l:List Tk)(k n:Int)(s:ByteArray)(o:Int)(a:List ByteArray)(u:List Ex)(j:Nat)(b:Bool):x3s Ex.row l (.mk k n s o a u) j b=PRes.val (.int .i64 k:: .int .i64 n:: .str s:: .int .i64 o:: .sl 1 (x0e a):: .sl 6 (Ex.rows u):: .sl 4 (x0a l):: .int .i64 (j:Int):: .bool b::[]):=rfl
theorem z0e (l:List Tk)(i:Int):cF 1000150 (rP (x0a l) i true)=some (.val [.int .i64 0, .int .i64 0, .str (bs []), .int .i64 0, .sl 1 (x0e []), .sl 6 (Ex.rows []), .sl 4 (x0a l), .int .i64 i, .bool true]):=w0x l i
section
variable {l : List Tk} (hl : LOK l) {n : Nat} {p : PR} (hp : HR l p)
include hl hp
theorem w0m (i:Nat)(hi:i < l.length)(hne:y3t l n p i≠ .out): ∃r,cF 1000277 (rP (x0a l) (i:Int) false)=some r∧QR Ex.row l (y3t l n p i) r:=by
 have lp: ∀(e:Ex) (j:Nat) (b:Bool) (R:Rs Ex),R≠ .out→(b=false→x1q (y2l l p) n (e,j)=R)→(b=true→R= .bad j)→j < l.length→cF 1000280 (rP (x0a l) (i:Int) false)=some (x3s Ex.row l e j b)→ ∃r,cF 1000277 (rP (x0a l) (i:Int) false)=some r∧QR Ex.row l R r:=by
  intro e j b R hne hR hb hj h1
  have e0: ∃k0 n0 s0 o0 a0 u0,e= .mk k0 n0 s0 o0 a0 u0:=by obtain⟨k0,n0,s0,o0,a0,u0⟩:=e;exact⟨_,_,_,_,_,_,rfl⟩
  obtain⟨k0,n0,s0,o0,a0,u0,rfl⟩:=e0
  refine x9t (f:=277) (by kernel_rfl) (by with_reducible first|exact x6q _ _ _|exact x6u _ _ _ _|exact x7a _ _ _ _ _) (by kernel_rfl) rfl ?_
  rw[w7n]
  simp only [k3i,oE,oR,oT,go1,Nat.reduceAdd,h1,x3s,Ex.row,a0e,a0g,x8i]
  refine x5o (fun x:Nat × Ex × Nat × Bool=>[.sl 4 (x0a l), .int .i64 (x.2.2.1:Int), .bool x.2.2.2, .int .i64 0, .int .i64 0, .str (bs []), .int .i64 0]++x.2.1.row) (fun x=>(x.2.2.2=false→x1q (y2l l p) x.1 (x.2.1,x.2.2.1)=R)∧(x.2.2.2=true→R= .bad x.2.2.1)∧x.2.2.1 < l.length) (fun x=>2*x.1+(match x.2.2.2 with|true=>0|false=>1)) (fun x hx=> ?_) (n, .mk k0 n0 s0 o0 a0 u0,j,b) ⟨hR,hb,hj⟩
  obtain⟨n1,⟨k1,m1,s1,o1,a1,u1⟩,i1,b1⟩:=x
  obtain⟨hx,hxb,hi1⟩:=hx
  simp only at hx hxb hi1 ⊢
  simp only [Ex.row,go1,a0e,a0g]
  cases b1 with
  |true=>
   right
   simp only [go1]
   refine⟨_,rfl,?_⟩
   rw[hxb rfl]
   exact⟨hi1, .mk k1 m1 s1 o1 a1 u1,rfl⟩
  |false=>
   have hx:=hx rfl
   cases n1 with
   |zero=>exact(hne hx.symm).elim
   |succ n1=>
    simp only [a2m,go1,x7g l hl i1 hi1]
    rw[x1q,y2l]at hx
    cases ht:isT l i1 (bs [91])with
    |true=>
     have hi2:=hl.next hi1 (x0t ht)
     rw[ht]at hx
     simp only at hx
     have hq:p .arrow (i1+1)≠ .out:=fun e=>hne (by rw[e]at hx;exact hx.symm)
     left
     rcases x1d (hp.c .arrow (i1+1) hi2 hq)with⟨e2,j2,hr2,h3⟩|⟨e2,j2,hr2,hj2,h3⟩
     ·have h3:cF 1000150 (rP (x0a l) ((i1+1:Nat):Int) false)=_:=h3
      have hj2:=hp.lt _ _ _ _ hi2 hr2
      rw[hr2,Rs.bind_ok,x1f]at hx
      obtain⟨k3,n3,s3,o3,a3,u3⟩:=e2
      simp only [go1,h3,x3s,Ex.row,a0e,a0g,y0p l hl j2 hj2]
      cases ht2:isT l j2 (bs [93])with
      |true=>
       rw[ht2]at hx
       exact⟨(n1,ex 15 [.mk k1 m1 s1 o1 a1 u1, .mk k3 n3 s3 o3 a3 u3],j2+1,false),rfl,⟨fun _=>hx,fun h=>(by cases h),hl.next hj2 (x0t ht2)⟩,by simp only;omega⟩
      |false=>
       rw[ht2]at hx
       exact⟨(n1,ex 15 [.mk k1 m1 s1 o1 a1 u1, .mk k3 n3 s3 o3 a3 u3],j2,true),rfl,⟨fun h=>(by cases h),fun _=>hx.symm,hj2⟩,by simp only;omega⟩
     ·have h3:cF 1000150 (rP (x0a l) ((i1+1:Nat):Int) false)=_:=h3
      rw[hr2,Rs.bind_bad]at hx
      obtain⟨k3,n3,s3,o3,a3,u3⟩:=e2
      simp only [go1,h3,x3s,Ex.row,a0e,a0g,x4i l hl j2 hj2]
      exact⟨(n1,ex 15 [.mk k1 m1 s1 o1 a1 u1, .mk k3 n3 s3 o3 a3 u3],j2,true),rfl,⟨fun h=>(by cases h),fun _=>hx.symm,hj2⟩,by simp only;omega⟩
    |false=>
     rw[ht]at hx
     simp only [go1,x7g l hl i1 hi1]at hx ⊢
     cases ht2:isT l i1 (bs [119,104,101,110])with
     |false=>
      right
      rw[ht2]at hx
      refine⟨_,rfl,?_⟩
      rw[←hx];rfl
     |true=>
      left
      have hi2:=hl.next hi1 (x0t ht2)
      rw[ht2]at hx
      simp only [go1]at hx ⊢
      rcases x1d (v8g hl hi2)with⟨⟨w1,w2⟩,j2,hr2,h3⟩|⟨⟨w1,w2⟩,j2,hr2,hj2,h3⟩
      ·rw[hr2]at hx
       simp only [go1,h3,x3s,wD,a0e,a0g]
       exact⟨(n1, .mk 11 0 w1 0 [w2] [.mk k1 m1 s1 o1 a1 u1],j2,false),rfl,⟨fun _=>hx,fun h=>(by cases h),x9w hl hi2 hr2⟩,by simp only;omega⟩
      ·rw[hr2]at hx
       simp only [go1,h3,x3s,wD,a0e,a0g]
       exact⟨(n1, .mk 11 0 w1 0 [w2] [.mk k1 m1 s1 o1 a1 u1],j2,true),rfl,⟨fun h=>(by cases h),fun _=>hx.symm,hj2⟩,by simp only;omega⟩
 unfold y3t at hne ⊢
 rcases x1d (hp.c .atom i hi (x0s hne))with⟨e,j,hr,h1⟩|⟨e,j,hr,hj,h1⟩
 ·rw[hr,Rs.bind_ok]at hne ⊢
  exact lp e j false _ hne (fun _=>rfl) (fun h=>by cases h) (hp.lt _ _ _ _ hi hr) h1
 ·rw[hr,Rs.bind_bad]at hne ⊢
  exact lp e j true _ hne (fun h=>by cases h) (fun _=>rfl) hj h1
theorem v4b (i:Nat)(hi:i < l.length)(hne:x7p l p i≠ .out): ∃r,cF 1000284 (rP (x0a l) (i:Int) false)=some r∧QR Ex.row l (x7p l p i) r:=by
 refine x9t (f:=284) (by kernel_rfl) (x6q _ _ _) (by kernel_rfl) rfl ?_
 rw[w7h]
 unfold x7p at hne ⊢
 rcases x1d (hp.c .arrow i hi (x0s hne))with⟨⟨k0,n0,s0,o0,a0,u0⟩,j,hr,h1⟩|⟨⟨k0,n0,s0,o0,a0,u0⟩,j,hr,hj,h1⟩
 ·have h1:cF 1000150 (rP (x0a l) (i:Int) false)=_:=h1
  have hj:=hp.lt _ _ _ _ hi hr
  rw[hr,Rs.bind_ok]at hne ⊢
  rw[vE]at h1
  simp only [q8t,x4h, ↓bd h1, ↓x3r, ↓y0x, ↓bd (x7g l hl j hj _)]
  cases ht:isT l j (bs [119,105,116,104])with
  |false=>
   simp only [↓x3r, ↓x7v, ↓x9e, ↓cond_false, ↓bd (y0p l hl j hj _),x1f]
   cases ht2:isT l j (bs [41])with
   |true=>simp only [↓x3r, ↓x9m,x0i];rfl
   |false=>simp only [↓x3r, ↓x9m,x0i];exact⟨hj, .mk k0 n0 s0 o0 a0 u0,rfl⟩
  |true=>
   rw[ht]at hne
   have hk:=hl.next hj (x0t ht)
   simp only [↓x3r, ↓x7v, ↓x9e, ↓cond_true, ↓bd (y0p l hl (j+1) hk _),x1f]at hne ⊢
   cases t1:isT l (j+1) (bs [91])with
   |false=>
    simp only [↓x3r, ↓y0x, ↓x9m,x0i, ↓bd (z0e l _), ↓bd (x4i l hl (j+1) hk _)]
    exact⟨hk,ex 16 [.mk k0 n0 s0 o0 a0 u0,e0,e0],rfl⟩
   |true=>
    rw[t1]at hne
    have hk2:=hl.next hk (x0t t1)
    rw[Rs.bind_ok]at hne
    rcases x1d (hp.c .arrow (j+1+1) hk2 (x0s hne))with⟨⟨k2,n2,s2,o2,a2,u2⟩,m,hr2,h3⟩|⟨⟨k2,n2,s2,o2,a2,u2⟩,m,hr2,hm,h3⟩
    ·have h3:cF 1000150 (rP (x0a l) ((j+1+1:Nat):Int) false)=_:=h3
     have hm:=hp.lt _ _ _ _ hk2 hr2
     rw[hr2,Rs.bind_ok]at hne
     rw[vE]at h3
     simp only [↓bd h3, ↓x3r, ↓y0x, ↓x9m, ↓bd (y0p l hl m hm _),Rs.bind_ok,hr2]
     cases t2:isT l m (bs [93])with
     |false=>
      simp only [↓x3r, ↓y0x, ↓x9m,x0i, ↓bd (z0e l _), ↓bd (x4i l hl m hm _)]
      exact⟨hm,ex 16 [.mk k0 n0 s0 o0 a0 u0, .mk k2 n2 s2 o2 a2 u2,e0],rfl⟩
     |true=>
      rw[t2]at hne
      have hm1:=hl.next hm (x0t t2)
      simp only [↓x3r, ↓x9m, ↓bd (y0p l hl (m+1) hm1 _)]at hne ⊢
      cases t3:isT l (m+1) (bs [61])with
      |false=>
       simp only [↓x3r, ↓y0x, ↓x9m,x0i, ↓bd (z0e l _), ↓bd (x4i l hl (m+1) hm1 _)]
       exact⟨hm1,ex 16 [.mk k0 n0 s0 o0 a0 u0, .mk k2 n2 s2 o2 a2 u2,e0],rfl⟩
      |true=>
       rw[t3]at hne
       have hm2:=hl.next hm1 (x0t t3)
       rw[Rs.bind_ok]at hne
       rcases x1d (hp.c .arrow (m+1+1) hm2 (x0s hne))with⟨⟨k5,n5,s5,o5,a5,u5⟩,z,hr5,h5⟩|⟨⟨k5,n5,s5,o5,a5,u5⟩,z,hr5,hz,h5⟩
       ·have h5:cF 1000150 (rP (x0a l) ((m+1+1:Nat):Int) false)=_:=h5
        have hz:=hp.lt _ _ _ _ hm2 hr5
        rw[vE]at h5
        simp only [↓bd h5, ↓x3r, ↓y0x, ↓x9m, ↓bd (y0p l hl z hz _),Rs.bind_ok,hr5]
        cases t4:isT l z (bs [41])with
        |true=>simp only [↓x3r, ↓x9m,x0i];rfl
        |false=>simp only [↓x3r, ↓x9m,x0i];exact⟨hz,ex 16 [.mk k0 n0 s0 o0 a0 u0, .mk k2 n2 s2 o2 a2 u2, .mk k5 n5 s5 o5 a5 u5],rfl⟩
       ·have h5:cF 1000150 (rP (x0a l) ((m+1+1:Nat):Int) false)=_:=h5
        rw[vE]at h5
        simp only [↓bd h5, ↓x3r, ↓y0x, ↓x9m,x0i, ↓bd (x4i l hl z hz _),Rs.bind_ok,Rs.bind_bad,hr5]
        exact⟨hz,ex 16 [.mk k0 n0 s0 o0 a0 u0, .mk k2 n2 s2 o2 a2 u2, .mk k5 n5 s5 o5 a5 u5],rfl⟩
    ·have h3:cF 1000150 (rP (x0a l) ((j+1+1:Nat):Int) false)=_:=h3
     rw[vE]at h3
     simp only [↓bd h3, ↓x3r, ↓y0x, ↓x9m,x0i, ↓bd (x4i l hl m hm _), ↓bd (z0e l _),Rs.bind_ok,Rs.bind_bad,hr2]
     exact⟨hm,ex 16 [.mk k0 n0 s0 o0 a0 u0, .mk k2 n2 s2 o2 a2 u2,e0],rfl⟩
 ·have h1:cF 1000150 (rP (x0a l) (i:Int) false)=_:=h1
  rw[hr,Rs.bind_bad]
  rw[vE]at h1
  simp only [q8t,x4h, ↓bd h1, ↓x3r, ↓y0x, ↓x9m, ↓x7v, ↓x9e, ↓cond_false,x0i, ↓bd (x6x l hl j hj _), ↓bd (x4i l hl j hj _)]
  exact⟨hj, .mk k0 n0 s0 o0 a0 u0,rfl⟩
end
end Go.Vm
end

section
set_option maxRecDepth 100000
set_option maxHeartbeats 4000000
namespace Go.Vm
open Go.Proofs
section
variable {β : Type} (n i a1 a2 a3 : Int) (s s2 : ByteArray) (L u : LL) (b : Bool) (ds : List D) (x0 x1 x2 x3 x4 x5 x6 x7 x8 x9 y0 y1 y2 y3 : D)
theorem k4n (K:LL→Int→Bool→Option β):oR sy (PRes.val (x0:: .sl 4 L:: .int .i64 i:: .bool b::ds)).leaves 1 K=K L i b:=rfl
theorem q9r (f:ByteArray→Option β):(opS (sy.cell (.str s::ds) 0)).bind f=f s:=rfl
theorem q0w (K:LL→Int→Bool→Option β):oR sy (x0:: .sl 4 L:: .int .i64 i:: .bool b::ds) 1 K=K L i b:=rfl
theorem q1e (f:Int→Option β):(opI (sy.cell (x0::x1::x2::x3:: .int .i64 n::ds) 4) .i64).bind f=f n:=rfl
theorem q0v (K:Int→ByteArray→Int→Int→Option β):oT sy (x0::x1::x2::x3::x4:: .int .i64 a1:: .str s:: .int .i64 a2:: .int .i64 a3::ds) 5 K=K a1 s a2 a3:=rfl
theorem q1d (f:Int→Option β):(opI (sy.cell (x0::x1::x2::x3::x4::x5::x6::x7::x8:: .int .i64 n::ds) 9) .i64).bind f=f n:=rfl
theorem v8o (f:ByteArray→Option β):(opS (sy.cell (x0::x1::x2::x3::x4::x5::x6::x7::x8::x9:: .str s::ds) 10)).bind f=f s:=rfl
theorem v8p (f:Int→Option β):(opI (sy.cell (x0::x1::x2::x3::x4::x5::x6::x7::x8::x9::y0:: .int .i64 n::ds) 11) .i64).bind f=f n:=rfl
theorem q1b (f:LL→Option β):(opL (sy.cell (x0::x1::x2::x3::x4::x5::x6::x7::x8::x9::y0::y1:: .sl 6 u::ds) 12) 6).bind f=f u:=rfl
theorem w1e (f:LL→Option β):(opL (sy.cell (x0::x1::x2::x3::x4::x5::x6::x7::x8::x9::y0::y1:: .sl 1 u::ds) 12) 1).bind f=f u:=rfl
theorem q1a (f:LL→Option β):(opL (sy.cell (x0::x1::x2::x3::x4::x5::x6::x7::x8::x9::y0::y1::y2:: .sl 6 u::ds) 13) 6).bind f=f u:=rfl
theorem q0z (f:LL→Option β):(opL (sy.cell (x0::x1::x2::x3::x4::x5::x6::x7::x8::x9::y0::y1::y2::y3:: .sl 6 u::ds) 14) 6).bind f=f u:=rfl
theorem k4o (K:LL→Int→Bool→Option β):oR sy (.sl 4 L:: .int .i64 i:: .bool b::ds) 0 K=K L i b:=rfl
theorem q6y (f:Int→Option β):(opI (sy.cell (x0::x1::x2:: .int .i64 n::ds) 3) .i64).bind f=f n:=rfl
theorem q6v (K:Int→ByteArray→Int→Int→Option β):oT sy (x0::x1::x2::x3:: .int .i64 a1:: .str s:: .int .i64 a2:: .int .i64 a3::ds) 4 K=K a1 s a2 a3:=rfl
theorem q6x (f:Int→Option β):(opI (sy.cell (x0::x1::x2::x3::x4::x5::x6::x7:: .int .i64 n::ds) 8) .i64).bind f=f n:=rfl
theorem q6w (f:ByteArray→Option β):(opS (sy.cell (x0::x1::x2::x3::x4::x5::x6::x7::x8:: .str s::ds) 9)).bind f=f s:=rfl
theorem q1c (f:Int→Option β):(opI (sy.cell (x0::x1::x2::x3::x4::x5::x6::x7::x8::x9:: .int .i64 n::ds) 10) .i64).bind f=f n:=rfl
theorem q0y (f:LL→Option β):(opL (sy.cell (x0::x1::x2::x3::x4::x5::x6::x7::x8::x9::y0:: .sl 1 u::ds) 11) 1).bind f=f u:=rfl
theorem q0x (f:LL→Option β):(opL (sy.cell (x0::x1::x2::x3::x4::x5::x6::x7::x8::x9::y0::y1:: .sl 6 u::ds) 12) 6).bind f=f u:=rfl
end
section
variable {β : Type} (i : Int) (L : LL) (b : Bool) (ds : List D) (x0 x1 x2 x3 x4 x5 x6 : D)
theorem w9g (f:Bool→Option β):(opB (sy.cell (PRes.val (x0::x1::x2::x3::x4::x5:: .bool b::ds)).leaves 6)).bind f=f b:=rfl
theorem w9f (K:LL→Int→Bool→Option β):oR sy (PRes.val (x0::x1::x2::x3::x4::x5::x6:: .sl 4 L:: .int .i64 i:: .bool b::ds)).leaves 7 K=K L i b:=rfl
end
theorem vS (l:List Tk)(s:ByteArray)(j:Nat)(b:Bool):x3s sD l s j b=PRes.val (.str s:: .sl 4 (x0a l):: .int .i64 (j:Int):: .bool b::[]):=rfl
theorem v3i {l:List Tk}(hl:LOK l){es:List Ex}{i:Nat}(he:es.length≤i)(hi:i < l.length)(r:List D):sy.fits (Ex.rows es) [r] 88=true:=by
 have:=hl.few
 show decide (((Ex.rows es).length+[r].length)*(88+1)≤140737488355328)=true
 rw[x0x]
 exact a1d (by simp only [a0f,a0i];omega)
theorem k2s {l:List Tk}(hl:LOK l){es:List ByteArray}{i:Nat}(he:es.length≤i)(hi:i < l.length)(r:List D):sy.fits (x0e es) [r] 16=true:=by
 have:=hl.few
 show decide (((x0e es).length+[r].length)*(16+1)≤140737488355328)=true
 rw[x0f]
 exact a1d (by simp only [a0f,a0i];omega)
theorem x3x (es:List Ex)(k n:Int)(s:ByteArray)(o:Int)(a:List ByteArray)(u:List Ex):sy.rapp (Ex.rows es) [[.int .i64 k, .int .i64 n, .str s, .int .i64 o, .sl 1 (x0e a), .sl 6 (Ex.rows u)]]=Ex.rows (es++[.mk k n s o a u]):=(x6j (.mk k n s o a u) es).symm
theorem y0c (es:List ByteArray)(s:ByteArray):sy.rapp (x0e es) [[.str s]]=x0e (es++[s]):=by rw[←y2h];rfl
theorem y5i {α:Type}{c:α→List D}{l:List Tk}{R:Rs α}{x:Option PRes}(h: ∃r,x=some r∧QR c l R r): ∃a j b,x=some (x3s c l a j b)∧(b=false→R= .ok a j)∧(b=true→R= .bad j∧j < l.length):=by
 rcases x1d h with⟨a,j,h1,h2⟩|⟨a,j,h1,hj,h2⟩
 ·exact⟨a,j,false,h2,fun _=>h1,fun h=>by cases h⟩
 ·exact⟨a,j,true,h2,(fun h=>by cases h),fun _=>⟨h1,hj⟩⟩
section
variable {l : List Tk} (hl : LOK l) {n : Nat} {p : PR} (hp : HR l p)
include hl hp
theorem u8o {β:Type}(f:PRes→β)(nm:ByteArray)(es:List Ex)(j:Nat)(b:Bool)(hj:j < l.length)(he:es.length≤j)(hne:b=false→y0s l p nm es j≠ .out):
  ∃r,((cF 1000019 (rS (bs [101,118,101,114,121]) (x0a l) (j:Int) b)).bind fun p54=>(opB (sy.cell p54.leaves 0)).bind fun b56=>oR sy p54.leaves 1 fun l57 n58 b59=>
   bif b56 then(cF 1000277 (rP l57 n58 b59)).bind fun p60=>oE sy p60.leaves 0 fun n62 n63 s64 n65 l66 l67=>oR sy p60.leaves 6 fun l68 n69 b70=>
    bif sy.fits (Ex.rows es) [[.int .i64 n62, .int .i64 n63, .str s64, .int .i64 n65, .sl 1 l66, .sl 6 l67]] 88 then
     some (f (PRes.val [.int .i64 13, .int .i64 1, .str nm, .int .i64 0, .sl 1 [], .sl 6 (sy.rapp (Ex.rows es) [[.int .i64 n62, .int .i64 n63, .str s64, .int .i64 n65, .sl 1 l66, .sl 6 l67]]), .sl 4 l68, .int .i64 n69, .bool b70]))
    else none
   else some (f (PRes.val [.int .i64 13, .int .i64 0, .str nm, .int .i64 0, .sl 1 [], .sl 6 (Ex.rows es), .sl 4 l57, .int .i64 n58, .bool b59])))=some (f r)∧(b=false→QR Ex.row l (y0s l p nm es j) r)∧(b=true→r=x3s Ex.row l (.mk 13 0 nm 0 [] es) j true):=by
 cases b with
 |true=>
  simp only [↓bd (x6x l hl j hj _), ↓x7v, ↓x9e, ↓cond_false,vE]
  exact⟨_,rfl,fun h=>(by cases h),fun _=>rfl⟩
 |false=>
  have hne:=hne rfl
  unfold y0s at hne ⊢
  simp only [↓bd (x7g l hl j hj _)]
  cases ht:isT l j (bs [101,118,101,114,121])with
  |false=>
   simp only [↓x3r, ↓x7v, ↓x9e, ↓cond_false,vE]
   exact⟨_,rfl,fun _=>rfl,fun h=>(by cases h)⟩
  |true=>
   rw[ht]at hne
   have hj1:=hl.next hj (x0t ht)
   rcases x1d (hp.c .post (j+1) hj1 (x0s hne))with⟨⟨k2,n2,s2,o2,a2,u2⟩,m,hr2,h3⟩|⟨⟨k2,n2,s2,o2,a2,u2⟩,m,hr2,hm,h3⟩
   ·have h3:cF 1000277 (rP (x0a l) ((j+1:Nat):Int) false)=_:=h3
    rw[vE]at h3
    simp only [↓x3r, ↓y0x, ↓x7v, ↓x9e, ↓cond_true,vE, ↓bd h3,v3i hl he hj,x3x,hr2,Rs.bind_ok]
    exact⟨_,rfl,fun _=>rfl,fun h=>(by cases h)⟩
   ·have h3:cF 1000277 (rP (x0a l) ((j+1:Nat):Int) false)=_:=h3
    rw[vE]at h3
    simp only [↓x3r, ↓y0x, ↓x7v, ↓x9e, ↓cond_true,vE, ↓bd h3,v3i hl he hj,x3x,hr2,Rs.bind_bad]
    exact⟨_,rfl,fun _=>⟨hm, .mk 13 1 nm 0 [] (es++[.mk k2 n2 s2 o2 a2 u2]),rfl⟩,fun h=>(by cases h)⟩
theorem w0n (nm:ByteArray)(i:Nat)(hi:i < l.length)(hne:y3g l n p nm i≠ .out): ∃r,cF 1000286 (rS nm (x0a l) (i:Int) false)=some r∧QR Ex.row l (y3g l n p nm i) r:=by
 refine x9t (f:=286) (by kernel_rfl) (x6u _ _ _ _) (by kernel_rfl) rfl ?_
 rw[w7f]
 simp only [k3d,x4h,y0r, ↓bd (x7g l hl i hi _)]
 unfold y3g at hne ⊢
 cases ht:isT l i (bs [41])with
 |true=>
  rw[ht]at hne
  have hi1:=hl.next hi (x0t ht)
  simp only [↓x3r, ↓x7v, ↓x9e]at hne ⊢
  obtain⟨r,h1,h2,_⟩:=u8o hl hp (fun x=>x) nm [] (i+1) false hi1 (a0r _) (fun _=>hne)
  exact⟨r,h1,h2 rfl⟩
 |false=>
  rw[ht]at hne
  simp only [↓x3r, ↓x7v, ↓x9e]at hne ⊢
  obtain⟨e,j,b,h1,hok,hbad⟩:=y5i (hp.c .arrow i hi (x0s (x0s hne)))
  have h1:cF 1000150 (rP (x0a l) (i:Int) false)=_:=h1
  have hj:j < l.length:=by
   cases b with
   |false=>exact hp.lt _ _ _ _ hi (hok rfl)
   |true=>exact(hbad rfl).2
  have hj1:b=false→1≤j:=fun hb=>by have:=hp.gt _ _ _ _ hi (hok hb);omega
  generalize hL:y0q l n p (bs [41]) i=R at hne ⊢
  have hR:b=false→x1q (x7y l p (bs [41])) n ([e],j)=R:=fun hb=>by rw[←hL,y0q,hok hb];rfl
  have hb:b=true→R= .bad j:=fun hb=>by rw[←hL,y0q,(hbad hb).1];rfl
  obtain⟨k0,n0,s0,o0,a0,u0⟩:=e
  rw[vE]at h1
  simp only [↓bd h1, ↓x3r, ↓y0x]
  refine x5o (fun x:Nat × List Ex × Nat × Bool=>[.str (bs [41]), .sl 4 (x0a l), .int .i64 (x.2.2.1:Int), .bool x.2.2.2, .int .i64 0, .int .i64 0, .str (bs []), .int .i64 0, .int .i64 13, .int .i64 0, .str nm, .int .i64 0, .sl 6 (Ex.rows x.2.1)]) (fun x=>(x.2.2.2=false→x1q (x7y l p (bs [41])) x.1 (x.2.1,x.2.2.1)=R)∧(x.2.2.2=true→R= .bad x.2.2.1)∧x.2.2.1 < l.length∧(x.2.2.2=false→x.2.1.length≤x.2.2.1)) (fun x=>2*x.1+(match x.2.2.2 with|true=>0|false=>1)) (fun x hx=> ?_) (n,[.mk k0 n0 s0 o0 a0 u0],j,b) ⟨hR,hb,hj,hj1⟩
  obtain⟨n1,es,i1,b1⟩:=x
  obtain⟨hx,hxb,hi1,hel⟩:=hx
  simp only at hx hxb hi1 hel ⊢
  simp only [↓q9r, ↓q0w, ↓q1e, ↓q0v, ↓q1d, ↓v8o, ↓v8p, ↓q1b]
  cases b1 with
  |true=>
   right
   simp only [↓bd (x6x l hl i1 hi1 _), ↓bd (x4i l hl i1 hi1 _), ↓x9m, ↓x7v, ↓x9e, ↓cond_false]
   rw[hxb rfl]
   exact⟨_,rfl,hi1, .mk 13 0 nm 0 [] es,rfl⟩
  |false=>
   have hx:=hx rfl
   have hel:=hel rfl
   cases n1 with
   |zero=>exact(hne (by rw[←hx];rfl)).elim
   |succ n1=>
    simp only [↓bd (x7g l hl i1 hi1 _)]
    rw[x1q,x7y]at hx
    cases ht2:isT l i1 (bs [44])with
    |true=>
     left
     have hi2:=hl.next hi1 (x0t ht2)
     rw[ht2]at hx
     simp only at hx
     have hq2:p .arrow (i1+1)≠ .out:=fun e=>hne (by rw[e]at hx;rw[←hx];rfl)
     rcases x1d (hp.c .arrow (i1+1) hi2 hq2)with⟨⟨k2,n2,s2,o2,a2,u2⟩,m,hr2,h3⟩|⟨⟨k2,n2,s2,o2,a2,u2⟩,m,hr2,hm,h3⟩
     ·have h3:cF 1000150 (rP (x0a l) ((i1+1:Nat):Int) false)=_:=h3
      have hm:=hp.lt _ _ _ _ hi2 hr2
      have hg:=hp.gt _ _ _ _ hi2 hr2
      rw[vE]at h3
      rw[hr2]at hx
      simp only [↓x3r, ↓y0x, ↓x7v, ↓x9e, ↓cond_true, ↓bd h3,v3i hl hel hi1,x3x]
      exact⟨(n1,es++[.mk k2 n2 s2 o2 a2 u2],m,false),rfl,⟨fun _=>hx,fun h=>(by cases h),hm,fun _=>by simp only [a0j,a0f,a0i];omega⟩,by simp only;omega⟩
     ·have h3:cF 1000150 (rP (x0a l) ((i1+1:Nat):Int) false)=_:=h3
      rw[vE]at h3
      rw[hr2]at hx
      simp only [↓x3r, ↓y0x, ↓x7v, ↓x9e, ↓cond_true, ↓bd h3,v3i hl hel hi1,x3x]
      exact⟨(n1,es++[.mk k2 n2 s2 o2 a2 u2],m,true),rfl,⟨fun h=>(by cases h),fun _=>hx.symm,hm,fun h=>(by cases h)⟩,by simp only;omega⟩
    |false=>
     right
     rw[ht2,x1f]at hx
     simp only [↓x3r, ↓x7v, ↓x9e, ↓cond_false, ↓bd (y0p l hl i1 hi1 _)]at hx ⊢
     cases ht3:isT l i1 (bs [41])with
     |false=>
      rw[ht3,Rs.bind_bad]at hx
      simp only [↓x3r, ↓x9m, ↓x7v, ↓x9e, ↓cond_false, ↓bd (x6x l hl i1 hi1 _)]
      rw[←hx]
      exact⟨_,rfl,hi1, .mk 13 0 nm 0 [] es,rfl⟩
     |true=>
      have hi2:=hl.next hi1 (x0t ht3)
      rw[ht3,x1f,Rs.bind_ok]at hx
      rw[←hx,Rs.bind_ok]at hne ⊢
      simp only [↓x3r, ↓x9m]
      obtain⟨r,h1,h2,_⟩:=u8o hl hp (Sum.inr (α:=List D)) nm es (i1+1) false hi2 (by omega) (fun _=>hne)
      exact⟨r,h1,h2 rfl⟩
theorem k4j (i:Nat)(hi:i < l.length): ∃(nm:ByteArray) (j:Nat) (b:Bool),(∀ {β:Type} (K:ByteArray→LL→Int→Bool→Option β),((cF 1000058 (rP (x0a l) (i:Int) false)).bind fun p1=>(opS (sy.cell p1.leaves 0)).bind fun s3=>oR sy p1.leaves 1 fun l4 n5 b6=>
  (cF 1000059 (rS (bs [40]) l4 n5 b6)).bind fun p7=>oR sy p7.leaves 0 fun l9 n10 b11=>K s3 l9 n10 b11)=K nm (x0a l) (j:Int) b)∧j < l.length∧(b=false→ ∃k,x2l l i= .ok nm k∧x1f l [bs [40]] k= .ok () j)∧(b=true→(x2l l i= .bad j)∨ ∃nm' k,x2l l i= .ok nm' k∧x1f l [bs [40]] k= .bad j):=by
 have h1:=u5e l hl i hi
 cases hr:x2l l i with
 |out=>exact(x2t hr).elim
 |bad j=>
  have:j=i:=by unfold x2l at hr;split at hr<;>cases hr;rfl
  subst this
  rw[hr]at h1
  refine⟨bs [],j,true,fun K=> ?_,hi,fun h=>(by cases h),fun _=> .inl rfl⟩
  simp only [↓bd h1, ↓bd (x4i l hl j hi _), ↓x9m, ↓x7v, ↓v8n,vS]
 |ok nm k=>
  have hk:=x4s hl hi hr
  rw[hr]at h1
  have h2:=y0p l hl k hk (bs [40])
  cases ht:isT l k (bs [40])with
  |true=>
   rw[ht]at h2
   refine⟨nm,k+1,false,fun K=> ?_,hl.next hk (x0t ht),fun _=>⟨k,rfl,by simp only [x1f,ht]⟩,fun h=>by cases h⟩
   simp only [↓bd h1, ↓bd h2, ↓x9m, ↓x7v, ↓v8n,vS]
  |false=>
   rw[ht]at h2
   refine⟨nm,k,true,fun K=> ?_,hk,fun h=>(by cases h),fun _=> .inr ⟨nm,k,rfl,by simp only [x1f,ht]⟩⟩
   simp only [↓bd h1, ↓bd h2, ↓x9m, ↓x7v, ↓v8n,vS]
theorem v4c (i:Nat)(hi:i < l.length)(hne:x5z l n p i≠ .out): ∃r,cF 1000285 (rP (x0a l) (i:Int) false)=some r∧QR Ex.row l (x5z l n p i) r:=by
 refine x9t (f:=285) (by kernel_rfl) (x6q _ _ _) (by kernel_rfl) rfl ?_
 rw[w7g]
 obtain⟨nm,j,b,hK,hj,hok,hbad⟩:=k4j hl hp i hi
 simp only [k3e,x4h,y0r,hK]
 obtain⟨R,hRe,hR,hb⟩: ∃R:Rs (List ByteArray × List Ex),x5z l n p i=R.bind (fun q j=> .ok (.mk 12 0 nm 0 q.1 q.2) j)∧(b=false→x1q (x4j l p) n ([],[],j,true)=R)∧(b=true→R= .bad j):=by
  cases b with
  |false=>
   obtain⟨k,h1,h2⟩:=hok rfl
   refine⟨_,?_,fun _=>rfl,fun h=>by cases h⟩
   rw[x5z,h1,Rs.bind_ok,h2,Rs.bind_ok]
  |true=>
   refine⟨.bad j,?_,fun h=>(by cases h),fun _=>rfl⟩
   rcases hbad rfl with h1|⟨nm',k,h1,h2⟩
   ·rw[x5z,h1];rfl
   ·rw[x5z,h1,Rs.bind_ok,h2];rfl
 rw[hRe]at hne ⊢
 refine x5o (fun x:Nat × List ByteArray × List Ex × Nat × Bool=>[.sl 4 (x0a l), .int .i64 (x.2.2.2.1:Int), .bool x.2.2.2.2, .int .i64 0, .int .i64 0, .str (bs []), .int .i64 0, .int .i64 12, .int .i64 0, .str nm, .int .i64 0, .sl 1 (x0e x.2.1), .sl 6 (Ex.rows x.2.2.1)]) (fun x=>(x.2.2.2.2=false→x1q (x4j l p) x.1 (x.2.1,x.2.2.1,x.2.2.2.1,true)=R)∧(x.2.2.2.2=true→R= .bad x.2.2.2.1)∧x.2.2.2.1 < l.length∧x.2.1.length≤x.2.2.2.1∧x.2.2.1.length≤x.2.2.2.1) (fun x=>x.1) (fun x hx=> ?_) (n,[],[],j,b) ⟨hR,hb,hj,a0r _,a0r _⟩
 obtain⟨n1,ar,es,i1,b1⟩:=x
 obtain⟨hx,hxb,hi1,hal,hel⟩:=hx
 simp only at hx hxb hi1 hel hal ⊢
 simp only [↓k4o, ↓q6y, ↓q6v, ↓q6x, ↓q6w, ↓q1c, ↓q0y, ↓q0x]
 cases b1 with
 |true=>
  right
  (try simp only [↓x3r, ↓y0x, ↓x9m, ↓x7v, ↓x9e, ↓v8n, ↓k4n, ↓cond_true, ↓cond_false, ↓Bool.not_true, ↓a2m,vE,vS,x0i])
  rw[hxb rfl]
  exact⟨_,rfl,hi1, .mk 12 0 nm 0 ar es,rfl⟩
 |false=>
  have hx:=hx rfl
  cases n1 with
  |zero=>exact(hne (by rw[←hx];rfl)).elim
  |succ n1=>
   have h1:=q0m l hl i1 hi1
   rw[x1q,x4j]at hx
   cases hr:y3k l i1 with
   |out=>exact(y4n hr).elim
   |bad k=>
    have:k=i1:=by unfold y3k at hr;split at hr<;>cases hr;rfl
    subst this
    rw[hr]at h1 hx
    right
    simp only [↓x3r, ↓y0x, ↓x9m, ↓x7v, ↓x9e, ↓v8n, ↓cond_true,vS, ↓bd h1,k2s hl hal hi1, ↓bd (x4i l hl k hi1 _), ↓bd (z0e l _), ↓bd (x6x l hl k hi1 _),v3i hl hel hi1]
    rw[←hx]
    exact⟨_,rfl,hi1, .mk 12 0 nm 0 (ar++[bs []]) (es++[e0]),by rw[vE,←y0c];unfold e0;rw[←x3x]⟩
   |ok a k=>
    have hk:=x9v hl hi1 hr
    rw[hr]at h1 hx
    rw[Rs.bind_ok,x1f]at hx
    simp only [↓x3r, ↓x7v, ↓v8n, ↓cond_true,vS, ↓bd h1,k2s hl hal hi1, ↓bd (y0p l hl k hk _)]
    cases t1:isT l k (bs [45,62])with
    |false=>
     rw[t1]at hx
     right
     simp only [↓x3r, ↓y0x, ↓x9m, ↓x7v, ↓x9e, ↓cond_true, ↓bd (x4i l hl k hk _), ↓bd (z0e l _), ↓bd (x6x l hl k hk _),v3i hl hel hi1]
     rw[←hx]
     exact⟨_,rfl,hk, .mk 12 0 nm 0 (ar++[a]) (es++[e0]),by rw[vE,←y0c];unfold e0;rw[←x3x]⟩
    |true=>
     have hk1:=hl.next hk (x0t t1)
     rw[t1,x1f,Rs.bind_ok]at hx
     have hq:p .arrow (k+1)≠ .out:=fun e=>hne (by rw[e]at hx;rw[←hx];rfl)
     rcases x1d (hp.c .arrow (k+1) hk1 hq)with⟨⟨k2,n2,s2,o2,a2,u2⟩,m,hr2,h3⟩|⟨⟨k2,n2,s2,o2,a2,u2⟩,m,hr2,hm,h3⟩
     ·have h3:cF 1000150 (rP (x0a l) ((k+1:Nat):Int) false)=_:=h3
      have hm:=hp.lt _ _ _ _ hk1 hr2
      have hg:=hp.gt _ _ _ _ hk1 hr2
      have:=y1y hr
      rw[vE]at h3
      rw[hr2,Rs.bind_ok,x1f]at hx
      simp only [↓x3r, ↓y0x, ↓x9m, ↓cond_true, ↓bd h3,v3i hl hel hi1, ↓bd (y0p l hl m hm _),x3x,y0c]
      cases t2:isT l m (bs [41])with
      |false=>
       rw[t2]at hx
       right
       simp only [↓x3r, ↓x9m, ↓x7v, ↓x9e, ↓bd (x6x l hl m hm _)]
       rw[←hx]
       exact⟨_,rfl,hm, .mk 12 0 nm 0 (ar++[a]) (es++[.mk k2 n2 s2 o2 a2 u2]),rfl⟩
      |true=>
       have hm1:=hl.next hm (x0t t2)
       rw[t2,x1f,Rs.bind_ok]at hx
       simp only [↓x3r, ↓x9m, ↓bd (x7g l hl (m+1) hm1 _)]at hx ⊢
       cases t3:isT l (m+1) (bs [40])with
       |true=>
        left
        rw[t3]at hx
        simp only [↓x3r, ↓x7v, ↓x9e]
        exact⟨(n1,ar++[a],es++[.mk k2 n2 s2 o2 a2 u2],m+1+1,false),rfl,⟨fun _=>hx,fun h=>(by cases h),hl.next hm1 (x0t t3),by simp only [a0j,a0f,a0i];omega,by simp only [a0j,a0f,a0i];omega⟩,a1a _⟩
       |false=>
        right
        rw[t3]at hx
        simp only [↓x3r, ↓x7v, ↓x9e]
        cases n1 with
        |zero=>exact(hne (by rw[←hx];rfl)).elim
        |succ n2'=>
         simp only at hx
         rw[x1q,x4j]at hx
         rw[←hx]
         exact⟨_,rfl,rfl⟩
     ·have h3:cF 1000150 (rP (x0a l) ((k+1:Nat):Int) false)=_:=h3
      rw[vE]at h3
      rw[hr2,Rs.bind_bad]at hx
      right
      simp only [↓x3r, ↓y0x, ↓x9m, ↓x7v, ↓x9e, ↓cond_true, ↓bd h3,v3i hl hel hi1, ↓bd (x4i l hl m hm _), ↓bd (x6x l hl m hm _),x3x,y0c]
      rw[←hx]
      exact⟨_,rfl,hm, .mk 12 0 nm 0 (ar++[a]) (es++[.mk k2 n2 s2 o2 a2 u2]),rfl⟩
theorem w0u (hT: ∀j,(tkA l j).k=5→(tkA l j).s≠x5w∧(tkA l j).s≠x2r)(i:Nat)(hi:i < l.length):cF 1000282 (rP (x0a l) (i:Int) false)=some (match decide ((tkA l i).k=3),decide ((tkA l i).k=2),decide ((tkA l i).k=4),isT l i x5w,isT l i x2r with
  |true,_,_,_,_=> .val [.int .i64 1, .int .i64 (tkA l i).n, .str (bs []), .int .i64 0, .sl 1 [], .sl 6 [], .bool true, .sl 4 (x0a l), .int .i64 ((i+1:Nat):Int), .bool false]
  |_,true,_,_,_=> .val [.int .i64 4, .int .i64 0, .str (tkA l i).s, .int .i64 0, .sl 1 [], .sl 6 [], .bool true, .sl 4 (x0a l), .int .i64 ((i+1:Nat):Int), .bool false]
  |_,_,true,_,_=> .val [.int .i64 17, .int .i64 0, .str (tkA l i).s, .int .i64 0, .sl 1 [], .sl 6 [], .bool true, .sl 4 (x0a l), .int .i64 ((i+1:Nat):Int), .bool false]
  |_,_,_,true,_=> .val [.int .i64 2, .int .i64 1, .str (bs []), .int .i64 0, .sl 1 [], .sl 6 [], .bool true, .sl 4 (x0a l), .int .i64 ((i+1:Nat):Int), .bool false]
  |_,_,_,_,true=> .val [.int .i64 2, .int .i64 0, .str (bs []), .int .i64 0, .sl 1 [], .sl 6 [], .bool true, .sl 4 (x0a l), .int .i64 ((i+1:Nat):Int), .bool false]
  |_,_,_,_,_=> .val [.int .i64 0, .int .i64 0, .str (bs []), .int .i64 0, .sl 1 [], .sl 6 [], .bool false, .sl 4 (x0a l), .int .i64 (i:Int), .bool false]):=by
 have hf:=hl.few
 have h1:=x5t hi
 have h2:=x3d hi
 have w:=x0c (i:=i) (n:=l.length) hi (by omega)
 refine x4c (f:=282) (by kernel_rfl) (by with_reducible first|exact y1u _ _|exact y1t _ _ _|exact y1s _ _|exact y1r _ _ _|exact y1q _ _ _ _|exact y1p _ _ _|exact x6q _ _ _|exact x6u _ _ _ _|exact x7a _ _ _ _ _) (by kernel_rfl) rfl ?_
 rw[w7i]
 simp only [k3f,oT,go1,h1,h2,x3b,x1l,w]
 have e1:isT l i x5w=(decide ((tkA l i).k=1)&&decide (tb (tkA l i).s=tb (bs [116,114,117,101]))):=by
  unfold isT x5w
  cases h5:decide ((tkA l i).k=5)with
  |true=>
   have h5:=a0c h5
   have: ¬tb (tkA l i).s=tb (bs [116,114,117,101]):=fun e=>(hT i h5).1 (x8x e)
   rw[x1c this,a2n,Bool.and_false]
  |false=>rw[Bool.or_false,Bool.and_comm]
 have e2:isT l i x2r=(decide ((tkA l i).k=1)&&decide (tb (tkA l i).s=tb (bs [102,97,108,115,101]))):=by
  unfold isT x2r
  cases h5:decide ((tkA l i).k=5)with
  |true=>
   have h5:=a0c h5
   have: ¬tb (tkA l i).s=tb (bs [102,97,108,115,101]):=fun e=>(hT i h5).2 (x8x e)
   rw[x1c this,a2n,Bool.and_false]
  |false=>rw[Bool.or_false,Bool.and_comm]
 rw[e1,e2]
 cases decide ((tkA l i).k=3)<;>cases decide ((tkA l i).k=2)<;>cases decide ((tkA l i).k=4)<;>cases decide ((tkA l i).k=1)<;>cases decide (tb (tkA l i).s=tb (bs [116,114,117,101]))<;>cases decide (tb (tkA l i).s=tb (bs [102,97,108,115,101]))<;>rfl
theorem w0o (hT: ∀j,(tkA l j).k=5→(tkA l j).s≠x5w∧(tkA l j).s≠x2r)(i:Nat)(hi:i < l.length)(hne:y4m l n p i≠ .out): ∃r,cF 1000280 (rP (x0a l) (i:Int) false)=some r∧QR Ex.row l (y4m l n p i) r:=by
 refine x9t (f:=280) (by kernel_rfl) (x6q _ _ _) (by kernel_rfl) rfl ?_
 rw[w7k]
 have hP:=w0u hl hp hT i hi
 unfold y4m at hne ⊢
 cases c3:decide ((tkA l i).k=3)with
 |true=>
  rw[c3]at hP
  simp only [w7l,x4h, ↓x3r, ↓cond_true, ↓cond_false,x0i, ↓bd hP, ↓w9g, ↓w9f]
  rfl
 |false=>
  cases c2:decide ((tkA l i).k=2)with
  |true=>
   rw[c3,c2]at hP
   simp only [w7l,x4h, ↓x3r, ↓cond_true, ↓cond_false,x0i, ↓bd hP, ↓w9g, ↓w9f]
   rfl
  |false=>
   cases c4:decide ((tkA l i).k=4)with
   |true=>
    rw[c3,c2,c4]at hP
    simp only [w7l,x4h, ↓x3r, ↓cond_true, ↓cond_false,x0i, ↓bd hP, ↓w9g, ↓w9f]
    rfl
   |false=>
    simp only [c3,c2,c4]at hne
    unfold y2e at hne ⊢
    cases t1:isT l i x5w with
    |true=>
     rw[c3,c2,c4,t1]at hP
     simp only [w7l,x4h, ↓x3r, ↓cond_true, ↓cond_false,x0i, ↓bd hP, ↓w9g, ↓w9f]
     rfl
    |false=>
     cases t2:isT l i x2r with
     |true=>
      rw[c3,c2,c4,t1,t2]at hP
      simp only [w7l,x4h, ↓x3r, ↓cond_true, ↓cond_false,x0i, ↓bd hP, ↓w9g, ↓w9f]
      rfl
     |false=>
      rw[c3,c2,c4,t1,t2]at hP
      simp only [t1,t2]at hne
      simp only [w7l,x4h,y0r, ↓x3r, ↓cond_false, ↓bd hP, ↓w9g, ↓w9f, ↓bd (x7g l hl i hi _)]
      cases t3:isT l i (bs [91])with
      |true=>
       have hi1:=hl.next hi (x0t t3)
       simp only [t3]at hne
       simp only [↓x3r, ↓x7v, ↓x9e, ↓cond_true]
       obtain⟨e,j,b,h1,hok,hbad⟩:=y5i (hp.c .arrow (i+1) hi1 (x0s (x0s hne)))
       have h1:cF 1000150 (rP (x0a l) ((i+1:Nat):Int) false)=_:=h1
       have hj:j < l.length:=by
        cases b with
        |false=>exact hp.lt _ _ _ _ hi1 (hok rfl)
        |true=>exact(hbad rfl).2
       have hj1:b=false→1≤j:=fun hb=>by have:=hp.gt _ _ _ _ hi1 (hok hb);omega
       generalize hL:y0q l n p (bs [93]) (i+1)=R at hne ⊢
       have hR:b=false→x1q (x7y l p (bs [93])) n ([e],j)=R:=fun hb=>by rw[←hL,y0q,hok hb];rfl
       have hb:b=true→R= .bad j:=fun hb=>by rw[←hL,y0q,(hbad hb).1];rfl
       obtain⟨k0,n0,s0,o0,a0,u0⟩:=e
       rw[vE]at h1
       simp only [↓bd h1, ↓x3r, ↓y0x]
       refine x5o (fun x:Nat × List Ex × Nat × Bool=>[.str (bs [93]), .sl 4 (x0a l), .int .i64 (x.2.2.1:Int), .bool x.2.2.2, .int .i64 0, .int .i64 0, .str (bs []), .int .i64 0, .int .i64 0, .int .i64 0, .str (bs []), .int .i64 0, .sl 1 [], .sl 6 [], .sl 6 (Ex.rows x.2.1)]) (fun x=>(x.2.2.2=false→x1q (x7y l p (bs [93])) x.1 (x.2.1,x.2.2.1)=R)∧(x.2.2.2=true→R= .bad x.2.2.1)∧x.2.2.1 < l.length∧(x.2.2.2=false→x.2.1.length≤x.2.2.1)) (fun x=>2*x.1+(match x.2.2.2 with|true=>0|false=>1)) (fun x hx=> ?_) (n,[.mk k0 n0 s0 o0 a0 u0],j,b) ⟨hR,hb,hj,hj1⟩
       obtain⟨n1,es,i1,b1⟩:=x
       obtain⟨hx,hxb,hi1,hel⟩:=hx
       simp only at hx hxb hi1 hel ⊢
       simp only [↓q9r, ↓q0w, ↓q1e, ↓q0v, ↓q1d, ↓v8o, ↓v8p, ↓w1e, ↓q1a, ↓q0z]
       cases b1 with
       |true=>
        right
        simp only [↓bd (x6x l hl i1 hi1 _), ↓bd (x4i l hl i1 hi1 _), ↓x9m, ↓x7v, ↓x9e, ↓cond_false]
        rw[hxb rfl]
        exact⟨_,rfl,hi1,ex 14 es,rfl⟩
       |false=>
        have hx:=hx rfl
        have hel:=hel rfl
        cases n1 with
        |zero=>exact(hne (by rw[←hx];rfl)).elim
        |succ n1=>
         simp only [↓bd (x7g l hl i1 hi1 _)]
         rw[x1q,x7y]at hx
         cases ht2:isT l i1 (bs [44])with
         |true=>
          left
          have hi2:=hl.next hi1 (x0t ht2)
          rw[ht2]at hx
          simp only at hx
          have hq2:p .arrow (i1+1)≠ .out:=fun e=>hne (by rw[e]at hx;rw[←hx];rfl)
          rcases x1d (hp.c .arrow (i1+1) hi2 hq2)with⟨⟨k2,n2,s2,o2,a2,u2⟩,m,hr2,h3⟩|⟨⟨k2,n2,s2,o2,a2,u2⟩,m,hr2,hm,h3⟩
          ·have h3:cF 1000150 (rP (x0a l) ((i1+1:Nat):Int) false)=_:=h3
           have hm:=hp.lt _ _ _ _ hi2 hr2
           have hg:=hp.gt _ _ _ _ hi2 hr2
           rw[vE]at h3
           rw[hr2]at hx
           simp only [↓x3r, ↓y0x, ↓x7v, ↓x9e, ↓cond_true, ↓bd h3,v3i hl hel hi1,x3x]
           exact⟨(n1,es++[.mk k2 n2 s2 o2 a2 u2],m,false),rfl,⟨fun _=>hx,fun h=>(by cases h),hm,fun _=>by simp only [a0j,a0f,a0i];omega⟩,by simp only;omega⟩
          ·have h3:cF 1000150 (rP (x0a l) ((i1+1:Nat):Int) false)=_:=h3
           rw[vE]at h3
           rw[hr2]at hx
           simp only [↓x3r, ↓y0x, ↓x7v, ↓x9e, ↓cond_true, ↓bd h3,v3i hl hel hi1,x3x]
           exact⟨(n1,es++[.mk k2 n2 s2 o2 a2 u2],m,true),rfl,⟨fun h=>(by cases h),fun _=>hx.symm,hm,fun h=>(by cases h)⟩,by simp only;omega⟩
         |false=>
          right
          rw[ht2,x1f]at hx
          simp only [↓x3r, ↓x7v, ↓x9e, ↓cond_false, ↓bd (y0p l hl i1 hi1 _)]at hx ⊢
          cases ht3:isT l i1 (bs [93])with
          |false=>
           rw[ht3,Rs.bind_bad]at hx
           simp only [↓x3r, ↓x9m]
           rw[←hx]
           exact⟨_,rfl,hi1,ex 14 es,rfl⟩
          |true=>
           rw[ht3,x1f,Rs.bind_ok]at hx
           rw[←hx,Rs.bind_ok]at hne ⊢
           simp only [↓x3r, ↓x9m]
           exact⟨_,rfl,rfl⟩
      |false=>
       simp only [t3]at hne
       simp only [↓x3r, ↓x7v, ↓x9e, ↓cond_false, ↓bd (x7g l hl i hi _)]
       cases t4:isT l i (bs [40])with
       |true=>
        have hi1:=hl.next hi (x0t t4)
        simp only [t4]at hne
        obtain⟨⟨k2,n2,s2,o2,a2,u2⟩,j,b,h3,hok,hbad⟩:=y5i (v4b hl hp (i+1) hi1 hne)
        rw[vE]at h3
        simp only [↓x3r, ↓y0x, ↓x7v, ↓x9e, ↓cond_true,x0i, ↓bd h3]
        cases b with
        |false=>rw[hok rfl];rfl
        |true=>rw[(hbad rfl).1];exact⟨(hbad rfl).2, .mk k2 n2 s2 o2 a2 u2,rfl⟩
       |false=>
        simp only [t4]at hne
        simp only [↓x3r, ↓x7v, ↓x9e, ↓cond_false, ↓bd (x7g l hl i hi _)]
        cases t5:isT l i (bs [109,101,114,103,101])with
        |true=>
         have hi1:=hl.next hi (x0t t5)
         simp only [t5]at hne
         obtain⟨⟨k2,n2,s2,o2,a2,u2⟩,j,b,h3,hok,hbad⟩:=y5i (v4c hl hp (i+1) hi1 hne)
         rw[vE]at h3
         simp only [↓x3r, ↓y0x, ↓x7v, ↓x9e, ↓cond_true,x0i, ↓bd h3]
         cases b with
         |false=>rw[hok rfl];rfl
         |true=>rw[(hbad rfl).1];exact⟨(hbad rfl).2, .mk k2 n2 s2 o2 a2 u2,rfl⟩
        |false=>
         simp only [t5]at hne
         simp only [↓x3r, ↓x7v, ↓x9e, ↓cond_false, ↓bd (x7g l hl i hi _)]
         cases t6:isT l i (bs [105,102])with
         |true=>
          have hi1:=hl.next hi (x0t t6)
          simp only [t6]at hne
          simp only [↓x3r, ↓x7v, ↓x9e, ↓cond_true]
          unfold x7i at hne ⊢
          obtain⟨⟨k0,n0,s0,o0,a0,u0⟩,j,b,h1,hok,hbad⟩:=y5i (hp.c .arrow (i+1) hi1 (x0s hne))
          have h1:cF 1000150 (rP (x0a l) ((i+1:Nat):Int) false)=_:=h1
          rw[vE]at h1
          simp only [↓bd h1, ↓x3r, ↓y0x]
          cases b with
          |true=>
           obtain⟨hb,hj⟩:=hbad rfl
           rw[hb,Rs.bind_bad]
           simp only [↓x3r, ↓y0x, ↓x9m,x0i, ↓bd (x4i l hl j hj _), ↓bd (z0e l _)]
           exact⟨hj,ex 7 [.mk k0 n0 s0 o0 a0 u0,e0,e0],rfl⟩
          |false=>
           have hr:=hok rfl
           have hj:=hp.lt _ _ _ _ hi1 hr
           rw[hr,Rs.bind_ok,x1f]at hne
           rw[hr,Rs.bind_ok,x1f]
           simp only [↓x3r, ↓bd (y0p l hl j hj _)]
           cases t7:isT l j (bs [116,104,101,110])with
           |false=>
            simp only [↓x3r, ↓y0x, ↓x9m,x0i, ↓bd (x4i l hl j hj _), ↓bd (z0e l _)]
            exact⟨hj,ex 7 [.mk k0 n0 s0 o0 a0 u0,e0,e0],rfl⟩
           |true=>
            have hj1:=hl.next hj (x0t t7)
            rw[t7,x1f,Rs.bind_ok]at hne
            obtain⟨⟨k2,n2,s2,o2,a2,u2⟩,m,b,h2,hok,hbad⟩:=y5i (hp.c .arrow (j+1) hj1 (x0s hne))
            have h2:cF 1000150 (rP (x0a l) ((j+1:Nat):Int) false)=_:=h2
            rw[vE]at h2
            simp only [↓x3r, ↓y0x, ↓x9m, ↓bd h2,x1f,Rs.bind_ok]
            cases b with
            |true=>
             obtain⟨hb,hm⟩:=hbad rfl
             rw[hb,Rs.bind_bad]
             simp only [↓x3r, ↓y0x, ↓x9m,x0i, ↓bd (x4i l hl m hm _), ↓bd (z0e l _)]
             exact⟨hm,ex 7 [.mk k0 n0 s0 o0 a0 u0, .mk k2 n2 s2 o2 a2 u2,e0],rfl⟩
            |false=>
             have hr:=hok rfl
             have hm:=hp.lt _ _ _ _ hj1 hr
             rw[hr,Rs.bind_ok,x1f]at hne
             rw[hr,Rs.bind_ok]
             simp only [↓x3r, ↓bd (y0p l hl m hm _)]
             cases t8:isT l m (bs [101,108,115,101])with
             |false=>
              simp only [↓x3r, ↓y0x, ↓x9m,x0i, ↓bd (z0e l _)]
              exact⟨hm,ex 7 [.mk k0 n0 s0 o0 a0 u0, .mk k2 n2 s2 o2 a2 u2,e0],rfl⟩
             |true=>
              have hm1:=hl.next hm (x0t t8)
              rw[t8,x1f,Rs.bind_ok]at hne
              obtain⟨⟨k3,n3,s3,o3,a3,u3⟩,z,b,h3,hok,hbad⟩:=y5i (hp.c .arrow (m+1) hm1 (x0s hne))
              have h3:cF 1000150 (rP (x0a l) ((m+1:Nat):Int) false)=_:=h3
              rw[vE]at h3
              simp only [↓x3r, ↓y0x, ↓x9m,x0i, ↓bd h3,Rs.bind_ok]
              cases b with
              |true=>
               obtain⟨hb,hz⟩:=hbad rfl
               rw[hb,Rs.bind_bad]
               exact⟨hz,ex 7 [.mk k0 n0 s0 o0 a0 u0, .mk k2 n2 s2 o2 a2 u2, .mk k3 n3 s3 o3 a3 u3],rfl⟩
              |false=>rw[hok rfl];rfl
         |false=>
          simp only [t6]at hne
          have k1:=u5e l hl i hi
          simp only [↓x3r, ↓x7v, ↓x9e, ↓cond_false]
          cases hr:x2l l i with
          |out=>exact(x2t hr).elim
          |bad k=>
           have:k=i:=by unfold x2l at hr;split at hr<;>cases hr;rfl
           subst this
           rw[hr]at k1
           simp only [↓x3r, ↓x7v, ↓x9e, ↓v8n, ↓cond_false,vS,x0i, ↓bd k1, ↓bd (x6x l hl k hi _)]
           exact⟨hi, .mk 3 0 (bs []) 0 [] [],rfl⟩
          |ok nm k=>
           have hk:=x4s hl hi hr
           rw[hr]at k1
           rw[hr,Rs.bind_ok]at hne
           simp only [↓x3r, ↓x7v, ↓v8n,vS, ↓bd k1, ↓bd (x7g l hl k hk _),Rs.bind_ok]
           cases t7:isT l k (bs [40])with
           |false=>simp only [↓x3r, ↓x7v, ↓x9e, ↓cond_false,x0i];rfl
           |true=>
            simp only [t7]at hne
            obtain⟨⟨k2,n2,s2,o2,a2,u2⟩,j,b,h3,hok,hbad⟩:=y5i (w0n hl hp nm (k+1) (hl.next hk (x0t t7)) hne)
            rw[vE]at h3
            simp only [↓x3r, ↓y0x, ↓x7v, ↓x9e, ↓cond_true,x0i, ↓bd h3]
            cases b with
            |false=>rw[hok rfl];rfl
            |true=>rw[(hbad rfl).1];exact⟨(hbad rfl).2, .mk k2 n2 s2 o2 a2 u2,rfl⟩
end
def TOK (l:List Tk):Prop:= ∀j,(tkA l j).k=5→(tkA l j).s≠x5w∧(tkA l j).s≠x2r
theorem v8h {l:List Tk}(hl:LOK l)(hT:TOK l): ∀n,HR l (prs l n)
 |0=>⟨fun nt i hi h=>(h rfl).elim,fun nt i e j hi h=>(by cases h),fun nt i e j hi h=>(by cases h)⟩
 |n+1=>by
  have ih:=v8h hl hT n
  refine⟨fun nt i hi h=> ?_,fun nt i e j hi h=>(y2g hl (x6y hl n) nt i e j hi h).2,fun nt i e j hi h=>(y2g hl (x6y hl n) nt i e j hi h).1⟩
  cases nt with
  |arrow=>exact v4d hl ih i hi h
  |fby=>exact q0h hl ih i hi h
  |or=>exact q6n hl ih i hi h
  |and=>exact q0j hl ih i hi h
  |cmp=>exact q0i hl ih i hi h
  |sum=>exact q0g hl ih i hi h
  |prod=>exact w0l hl ih i hi h
  |un=>exact q6m hl ih i hi h
  |post=>exact w0m hl ih i hi h
  |atom=>exact w0o hl ih hT i hi h
theorem v6q {l:List Tk}(hl:LOK l)(hT:TOK l)(i:Nat)(hi:i < l.length): ∃r,cF 1000150 (rP (x0a l) (i:Int) false)=some r∧QR Ex.row l (y5m l i) r:=(v8h hl hT (x5u l)).c .arrow i hi (y2k hl i hi)
end Go.Vm
end

section
set_option maxRecDepth 100000
set_option maxHeartbeats 4000000
namespace Go.Vm
open Go.Proofs
mutual
def Ex.size:Ex→Nat
 | .mk _ _ _ _ _ l=>Ex.sizes l+1
def Ex.sizes:List Ex→Nat
 | []=>0
 |e::l=>e.size+Ex.sizes l
end
mutual
def Ex.okS:Ex→Prop
 | .mk _ _ s _ a l=>s.size≤100000∧((∀x∈a,x.size≤100000)∧a.length≤l.length)∧Ex.okSs l
def Ex.okSs:List Ex→Prop
 | []=>True
 |e::l=>e.okS∧Ex.okSs l
end
theorem x5s: ∀a b:List Ex,Ex.sizes (a++b)=Ex.sizes a+Ex.sizes b
 | [],b=>by simp [Ex.sizes]
 |e::a,b=>by simp [Ex.sizes,x5s a b];omega
theorem y6i: ∀a b:List Ex,Ex.okSs (a++b)↔Ex.okSs a∧Ex.okSs b
 | [],b=>by simp [Ex.okSs]
 |e::a,b=>by simp [Ex.okSs,y6i a b,and_assoc]
theorem x2v:(bs []).size≤100000:=by decide
def TS (l:List Tk):Prop:= ∀j,(tkA l j).s.size≤100000
def HS (p:PR):Prop:= ∀nt i e j,p nt i= .ok e j→i+e.size≤j∧e.okS
section
variable {l : List Tk} (ht : TS l) {n : Nat} {p : PR} (hp : HS p)
include ht hp
theorem y2q {i j:Nat}{a:ByteArray}(h:x2l l i= .ok a j):a.size≤100000:=by
 unfold x2l at h;split at h<;>cases h;exact ht _
theorem v3b {i j:Nat}{a:ByteArray}(h:y3k l i= .ok a j):a.size≤100000:=by
 unfold y3k at h;split at h<;>cases h;exact ht _
theorem u1t {i j:Nat}{w:ByteArray × ByteArray}(h:x7c l i= .ok w j):i+1≤j∧w.1.size≤100000∧w.2.size≤100000:=by
 have b1:x5w.size≤100000:=by decide
 have b2:x2r.size≤100000:=by decide
 unfold x7c at h
 split at h
 ·obtain⟨a,k,h1,h⟩:=x0d h
  have:=x5n h1;have:=y2q ht hp h1
  cases h;exact⟨by omega,by assumption,b2⟩
 ·split at h
  ·obtain⟨a,k,h1,h⟩:=x0d h
   have:=x5n h1;have:=y2q ht hp h1
   cases h;exact⟨by omega,by assumption,b1⟩
  ·obtain⟨a,k,h1,h⟩:=x0d h
   obtain⟨_,k2,h2,h⟩:=x0d h
   obtain⟨_,k3,h3,h⟩:=x0d h
   obtain⟨_,k4,h4,h⟩:=x0d h
   have:=y1y h1;have:=x1w h2;have:=x5n h3;have:=x1w h4
   have q1:=v3b ht hp h1;have q2:=y2q ht hp h3
   cases h;exact⟨by omega,q2,q1⟩
theorem z3f (side:Nt)(a m i:Nat)(e:Ex)(j:Nat)(h:x3u l n p side a m i= .ok e j):i+e.size≤j∧e.okS:=by
 unfold x3u at h
 obtain⟨e1,k,h1,h⟩:=x0d h
 refine x4u (fun x:Ex × Nat=>i+x.1.size≤x.2∧x.1.okS) (fun r j=>i+r.size≤j∧r.okS) (fun x y hx hs=> ?_) (fun x r j hx hs=> ?_) n (e1,k) e j (hp _ _ _ _ h1) h
 ·obtain⟨e2,i2⟩:=x
  rw[x3z]at hs
  split at hs
  ·cases hs
  ·split at hs<;>cases hs
   have:=hp _ _ _ _ ‹_›
   (simp only [x5c,Ex.size,Ex.sizes,Ex.okS,Ex.okSs]at*;refine⟨by omega,?_⟩;simp_all [x2v])
 ·obtain⟨e2,i2⟩:=x
  rw[x3z]at hs
  split at hs
  ·cases hs;exact hx
  ·split at hs<;>cases hs
theorem u9m (en:ByteArray)(i:Nat)(e:List Ex)(j:Nat)(h:y0q l n p en i= .ok e j):i+Ex.sizes e≤j∧Ex.okSs e:=by
 unfold y0q at h
 obtain⟨e1,k,h1,h⟩:=x0d h
 have h0:=hp _ _ _ _ h1
 refine x4u (fun x:List Ex × Nat=>i+Ex.sizes x.1≤x.2∧Ex.okSs x.1) (fun r j=>i+Ex.sizes r≤j∧Ex.okSs r) (fun x y hx hs=> ?_) (fun x r j hx hs=> ?_) n ([e1],k) e j (by(simp only [x5c,Ex.sizes,Ex.okSs]at*;refine⟨by omega,?_⟩;simp_all [])) h
 ·obtain⟨e2,i2⟩:=x
  rw[x7y]at hs
  split at hs
  ·split at hs<;>cases hs
   have:=hp _ _ _ _ ‹_›
   (simp only [x5c,Ex.sizes,Ex.okSs,x5s,y6i]at*;refine⟨by omega,?_⟩;simp_all [])
  ·cases hs
 ·obtain⟨e2,i2⟩:=x
  rw[x7y]at hs
  split at hs
  ·split at hs<;>cases hs
  ·obtain⟨_,k2,h2,h⟩:=x0d (Sum.inr.inj hs)
   have:=x1w h2
   cases h
   (simp only []at*;refine⟨by omega,?_⟩;simp_all [])
theorem w0y (i:Nat)(e:Ex)(j:Nat)(h:y3t l n p i= .ok e j):i+e.size≤j∧e.okS:=by
 unfold y3t at h
 obtain⟨e1,k,h1,h⟩:=x0d h
 refine x4u (fun x:Ex × Nat=>i+x.1.size≤x.2∧x.1.okS) (fun r j=>i+r.size≤j∧r.okS) (fun x y hx hs=> ?_) (fun x r j hx hs=> ?_) n (e1,k) e j (hp _ _ _ _ h1) h
 ·obtain⟨e2,i2⟩:=x
  rw[y2l]at hs
  split at hs
  ·split at hs<;>cases hs
   obtain⟨_,k2,h2,h⟩:=x0d ‹_›
   obtain⟨_,k3,h3,h⟩:=x0d h
   have:=hp _ _ _ _ h2
   have:=x1w h3
   cases h
   (simp only [x5c,ex,Ex.size,Ex.sizes,Ex.okS,Ex.okSs]at*;refine⟨by omega,?_⟩;simp_all [x2v])
  ·split at hs
   ·split at hs<;>cases hs
    have:=u1t ht hp ‹_›
    (simp only [x5c,Ex.size,Ex.sizes,Ex.okS,Ex.okSs]at*;refine⟨by omega,?_⟩;simp_all [])
   ·cases hs
 ·obtain⟨e2,i2⟩:=x
  rw[y2l]at hs
  split at hs
  ·split at hs<;>cases hs
  ·split at hs
   ·split at hs<;>cases hs
   ·cases hs;exact hx
theorem u3w (nm:ByteArray)(es:List Ex)(i:Nat)(e:Ex)(j:Nat)(hn:nm.size≤100000)(he:Ex.okSs es)(h:y0s l p nm es i= .ok e j):i+e.size≤j+Ex.sizes es+1∧e.okS:=by
 unfold y0s at h
 split at h
 ·obtain⟨_,k2,h2,h⟩:=x0d h
  have:=hp _ _ _ _ h2
  cases h
  (simp only [x5c,Ex.size,Ex.sizes,Ex.okS,Ex.okSs,x5s,y6i]at*;refine⟨by omega,?_⟩;simp_all [])
 ·cases h
  (simp only [x5c,Ex.size,Ex.okS]at*;refine⟨by omega,?_⟩;simp_all [])
theorem v9r (i:Nat)(e:Ex)(j:Nat)(h:y2e l n p i= .ok e j):i+e.size≤j∧e.okS:=by
 unfold y2e at h
 split at h
 ·cases h;(simp only [x5c,Ex.size,Ex.sizes,Ex.okS,Ex.okSs]at*;refine⟨by omega,?_⟩;simp_all [x2v])
 split at h
 ·cases h;(simp only [x5c,ex,Ex.size,Ex.sizes,Ex.okS,Ex.okSs]at*;refine⟨by omega,?_⟩;simp_all [x2v])
 split at h
 ·obtain⟨_,k2,h2,h⟩:=x0d h
  have:=u9m ht hp _ _ _ _ h2
  cases h
  (simp only [x5c,ex,Ex.size,Ex.okS]at*;refine⟨by omega,?_⟩;simp_all [x2v])
 split at h
 ·unfold x7p at h
  obtain⟨_,k1,h1,h⟩:=x0d h
  have:=hp _ _ _ _ h1
  split at h
  ·obtain⟨_,k2,h2,h⟩:=x0d h
   obtain⟨_,k3,h3,h⟩:=x0d h
   obtain⟨_,k4,h4,h⟩:=x0d h
   obtain⟨_,k5,h5,h⟩:=x0d h
   obtain⟨_,k6,h6,h⟩:=x0d h
   have:=x1w h2;have:=hp _ _ _ _ h3;have:=x1w h4;have:=hp _ _ _ _ h5;have:=x1w h6
   cases h
   (simp only [x5c,ex,Ex.size,Ex.sizes,Ex.okS,Ex.okSs]at*;refine⟨by omega,?_⟩;simp_all [x2v])
  ·obtain⟨_,k2,h2,h⟩:=x0d h
   have:=x1w h2
   cases h
   (simp only [x5c,ex]at*;refine⟨by omega,?_⟩;simp_all [])
 split at h
 ·unfold x5z at h
  obtain⟨nm,k1,h1,h⟩:=x0d h
  obtain⟨_,k2,h2,h⟩:=x0d h
  obtain⟨q,k3,h3,h⟩:=x0d h
  have q1:=y2q ht hp h1
  have:=x5n h1;have:=x1w h2
  have key:=x4u (fun x:List ByteArray × List Ex × Nat × Bool=>k2+Ex.sizes x.2.1≤x.2.2.1∧Ex.okSs x.2.1∧(∀y∈x.1,y.size≤100000)∧x.1.length=x.2.1.length) (fun r j=>k2+Ex.sizes r.2≤j∧Ex.okSs r.2∧(∀y∈r.1,y.size≤100000)∧r.1.length=r.2.length) (fun x y hx hs=> ?_) (fun x r j hx hs=> ?_) n ([],[],k2,true) q k3 (by simp [Ex.sizes,Ex.okSs]) h3
  ·cases h
   obtain⟨w1,w2,w3,w4⟩:=key
   refine⟨?_,q1,⟨w3,Nat.le_of_eq w4⟩,w2⟩
   simp only [Ex.size]
   omega
  ·obtain⟨ar,es,i2,b⟩:=x
   obtain⟨w1,w2,w3,w4⟩:=hx
   cases b with
   |false=>cases hs
   |true=>
    rw[x4j]at hs
    split at hs
    ·obtain⟨a,g1,r1,r⟩:=x0d ‹_›
     obtain⟨_,g2,r2,r⟩:=x0d r
     obtain⟨e2,g3,r3,r⟩:=x0d r
     obtain⟨_,g4,r4,r⟩:=x0d r
     have:=y1y r1;have:=x1w r2;have z:=hp _ _ _ _ r3;have:=x1w r4
     have q2:=v3b ht hp r1
     cases r
     split at hs<;>cases hs<;>
     (refine⟨?_,(y6i _ _).2 ⟨w2,z.2,trivial⟩,fun y hy=> ?_,by simp only [a0j,a0f,a0i]at w4 ⊢;omega⟩
      ·simp only [x5s,Ex.sizes]at w1 ⊢;omega
      ·rcases a1h.1 hy with hy|hy
       ·exact w3 y hy
       ·rw[a1l.1 hy];exact q2)
    ·cases hs
    ·cases hs
  ·obtain⟨ar,es,i2,b⟩:=x
   cases b with
   |false=>cases hs;exact hx
   |true=>
    rw[x4j]at hs
    split at hs
    ·split at hs<;>cases hs
    ·cases hs
    ·cases hs
 split at h
 ·unfold x7i at h
  obtain⟨_,k1,h1,h⟩:=x0d h
  obtain⟨_,k2,h2,h⟩:=x0d h
  obtain⟨_,k3,h3,h⟩:=x0d h
  obtain⟨_,k4,h4,h⟩:=x0d h
  obtain⟨_,k5,h5,h⟩:=x0d h
  have:=hp _ _ _ _ h1;have:=x1w h2;have:=hp _ _ _ _ h3;have:=x1w h4;have:=hp _ _ _ _ h5
  cases h
  (simp only [x5c,ex,Ex.size,Ex.sizes,Ex.okS,Ex.okSs]at*;refine⟨by omega,?_⟩;simp_all [x2v])
 ·obtain⟨nm,k1,h1,h⟩:=x0d h
  have q1:=y2q ht hp h1
  have:=x5n h1
  split at h
  ·unfold y3g at h
   split at h
   ·have:=u3w ht hp _ [] _ _ _ q1 trivial h
    (simp only [x5c,Ex.sizes]at*;refine⟨by omega,?_⟩;simp_all [])
   ·obtain⟨es,k2,h2,h⟩:=x0d h
    have q2:=u9m ht hp _ _ _ _ h2
    have:=u3w ht hp _ _ _ _ _ q1 q2.2 h
    exact⟨by omega,this.2⟩
  ·cases h
   (simp only [x5c,Ex.size,Ex.sizes,Ex.okS,Ex.okSs]at*;refine⟨by omega,?_⟩;simp_all [])
theorem w0d (nt:Nt)(i:Nat)(e:Ex)(j:Nat)(h:ntS l n p nt i= .ok e j):i+e.size≤j∧e.okS:=by
 cases nt with
 |or=>exact z3f ht hp _ _ _ _ _ _ h
 |and=>exact z3f ht hp _ _ _ _ _ _ h
 |sum=>exact z3f ht hp _ _ _ _ _ _ h
 |prod=>exact z3f ht hp _ _ _ _ _ _ h
 |post=>exact w0y ht hp _ _ _ h
 |arrow=>
  obtain⟨_,k1,h1,h⟩:=x0d (show x9u l p i= .ok e j from h)
  have:=hp _ _ _ _ h1
  split at h
  ·obtain⟨_,k2,h2,h⟩:=x0d h
   have:=hp _ _ _ _ h2
   cases h
   (simp only [x5c,ex,Ex.size,Ex.sizes,Ex.okS,Ex.okSs]at*;refine⟨by omega,?_⟩;simp_all [x2v])
  ·cases h;exact this
 |fby=>
  obtain⟨_,k1,h1,h⟩:=x0d (show v0x l p i= .ok e j from h)
  have:=hp _ _ _ _ h1
  split at h
  ·obtain⟨_,k2,h2,h⟩:=x0d h
   have:=hp _ _ _ _ h2
   cases h
   (simp only [x5c,ex,Ex.size,Ex.sizes,Ex.okS,Ex.okSs]at*;refine⟨by omega,?_⟩;simp_all [x2v])
  ·cases h;exact this
 |cmp=>
  obtain⟨_,k1,h1,h⟩:=x0d (show v1l l p i= .ok e j from h)
  have:=hp _ _ _ _ h1
  split at h
  ·cases h;exact this
  ·obtain⟨_,k2,h2,h⟩:=x0d h
   have:=hp _ _ _ _ h2
   cases h
   (simp only [x5c,Ex.size,Ex.sizes,Ex.okS,Ex.okSs]at*;refine⟨by omega,?_⟩;simp_all [x2v])
 |un=>
  have h:unS l p i= .ok e j:=h
  unfold unS at h
  split at h
  ·obtain⟨_,k2,h2,h⟩:=x0d h
   have:=hp _ _ _ _ h2
   cases h
   (simp only [x5c,Ex.size,Ex.sizes,Ex.okS,Ex.okSs]at*;refine⟨by omega,?_⟩;simp_all [x2v])
  split at h
  ·obtain⟨_,k2,h2,h⟩:=x0d h
   have:=hp _ _ _ _ h2
   cases h
   (simp only [x5c,Ex.size,Ex.sizes,Ex.okS,Ex.okSs]at*;refine⟨by omega,?_⟩;simp_all [x2v])
  split at h
  ·obtain⟨_,k2,h2,h⟩:=x0d h
   have:=hp _ _ _ _ h2
   cases h
   (simp only [x5c,ex,Ex.size,Ex.sizes,Ex.okS,Ex.okSs]at*;refine⟨by omega,?_⟩;simp_all [x2v])
  ·exact hp _ _ _ _ h
 |atom=>
  have h:y4m l n p i= .ok e j:=h
  have:=ht i
  unfold y4m at h
  split at h
  ·cases h;(simp only [x5c,Ex.size,Ex.sizes,Ex.okS,Ex.okSs]at*;refine⟨by omega,?_⟩;simp_all [x2v])
  split at h
  ·cases h;(simp only [x5c,Ex.size,Ex.sizes,Ex.okS,Ex.okSs]at*;refine⟨by omega,?_⟩;simp_all [])
  split at h
  ·cases h;(simp only [x5c,Ex.size,Ex.sizes,Ex.okS,Ex.okSs]at*;refine⟨by omega,?_⟩;simp_all [])
  ·exact v9r ht hp _ _ _ h
end
theorem u8u {l:List Tk}(ht:TS l): ∀n,HS (prs l n)
 |0=>fun nt i e j h=>by cases h
 |n+1=>fun nt i e j h=>w0d ht (u8u ht n) nt i e j h
theorem y6g {l:List Tk}(ht:TS l){i j:Nat}{e:Ex}(h:y5m l i= .ok e j):i+e.size≤j∧e.okS:=u8u ht _ _ _ _ _ h
end Go.Vm
end

section
set_option maxRecDepth 100000
set_option maxHeartbeats 4000000
namespace Go.Vm
open Go.Proofs
mutual
def Ex.depth:Ex→Nat
 | .mk _ _ _ _ _ l=>Ex.depths l+1
def Ex.depths:List Ex→Nat
 | []=>0
 |e::l=>max e.depth (Ex.depths l)
end
theorem y1o (e:Ex): ∀l:List Ex,Ex.depths (l++[e])=max (Ex.depths l) e.depth
 | []=>by simp [Ex.depths]
 |x::l=>by simp only [a0e,Ex.depths,y1o e l];omega
theorem x4o {e:Ex}: ∀ {l:List Ex} {i:Nat},l[i]? =some e→e.size≤Ex.sizes l
 |x::l,0,h=>by simp at h;subst h;simp only [Ex.sizes];omega
 |x::l,i+1,h=>by have:=x4o (l:=l) (i:=i) (by simpa using h);simp only [Ex.sizes];omega
theorem x2p: ∀l:List Ex,l.length≤Ex.sizes l
 | []=>a0m _
 | .mk k n s o a u::l=>by have:=x2p l;simp only [Ex.sizes,Ex.size,a0f];omega
theorem q5d: ∀ {l:List Ex} {i:Nat} {e:Ex},l[i]? =some e→sy.row (Ex.rows l) (i:Int)=e.row:=by
 intro l i e h
 show(Ex.rows l).getD (i:Int).toNat []=_
 rw[a0h]
 induction l generalizing i with
 |nil=>cases h
 |cons x l ih=>
  cases i with
  |zero=>simp at h;subst h;rfl
  |succ i=>exact ih (by simpa using h)
mutual
theorem v5w: ∀e:Ex,e.depth≤e.size
 | .mk _ _ _ _ _ l=>by have:=y3e l;simp only [Ex.depth,Ex.size];omega
theorem y3e: ∀l:List Ex,Ex.depths l≤Ex.sizes l
 | []=>a0m _
 |e::l=>by have:=v5w e;have:=y3e l;simp only [Ex.depths,Ex.sizes];omega
end
theorem u3f (a b:Nat):max (a:Int) (b:Int)=((max a b:Nat):Int):=by omega
theorem z4f: ∀(m:Nat) (k n:Int) (s:ByteArray) (o:Int) (a:List ByteArray) (u:List Ex),(Ex.mk k n s o a u).size≤m→m≤1000000→cF 176 [kE k n s o (x0e a) (Ex.rows u)]=some (.val [.int .i64 ((Ex.mk k n s o a u).depth:Int)])
 |0,k,n,s,o,a,u,h,_=>by simp only [Ex.size]at h;omega
 |m+1,k,n,s,o,a,u,h,hm=>by
  have hz:Ex.sizes u≤m:=by simp only [Ex.size]at h;omega
  have hl:=x2p u
  refine cOf (by kernel_rfl) rfl ?_
  rw[w3j]
  simp only [k1h,go1,x0x]
  refine x0m (fun i:Nat=>[.int .i64 (Ex.depths (u.take i):Int), .sl 6 (Ex.rows u), .int .i64 (u.length:Int), .int .i64 (i:Int)]) (fun i=>i≤u.length) (fun i=>u.length - i) (fun i hi=> ?_) 0 (a0r _)
  by_cases hlt:i < u.length
  ·left
   refine⟨i+1,?_,hlt,by omega⟩
   have hx:=a0b hlt
   have hd:Ex.depths (u.take (i+1))=max (Ex.depths (u.take i)) u[i].depth:=by rw[a1f,hx];exact y1o _ _
   rw[hd]
   generalize u[i]=e at hx
   have he:=x4o hx
   have hr:=q5d hx
   obtain⟨k2,n2,s2,o2,a2,u2⟩:=e
   have h2:=z4f m k2 n2 s2 o2 a2 u2 (by omega) (by omega)
   simp only [go1,x0x,x0n hlt,x0p hlt,hr,Ex.row,oE,h2,x0c hlt (by omega),u3f]
   rfl
  ·right
   have:i=u.length:=by omega
   subst this
   have:=y3e u
   simp only [go1,x0h,a0x,Ex.depth]
   rw[x0c (n:=Ex.depths u+1) (by omega) (by omega)]
   rfl
theorem z4d: ∀(m:Nat) (k n:Int) (s:ByteArray) (o:Int) (a:List ByteArray) (u:List Ex),(Ex.mk k n s o a u).size≤m→m≤1000000→cF 151 [kE k n s o (x0e a) (Ex.rows u)]=some (.val [.int .i64 ((Ex.mk k n s o a u).depth:Int)])
 |0,k,n,s,o,a,u,h,_=>by simp only [Ex.size]at h;omega
 |m+1,k,n,s,o,a,u,h,hm=>by
  have hz:Ex.sizes u≤m:=by simp only [Ex.size]at h;omega
  have hl:=x2p u
  refine cOf (by kernel_rfl) rfl ?_
  rw[w3s]
  simp only [k1q,go1]
  refine x0m (fun i:Nat=>[.int .i64 (Ex.depths (u.take i):Int), .int .i64 (i:Int), .int .i64 k, .int .i64 n, .str s, .int .i64 o, .sl 1 (x0e a), .sl 6 (Ex.rows u)]) (fun i=>i≤u.length) (fun i=>u.length - i) (fun i hi=> ?_) 0 (a0r _)
  by_cases hlt:i < u.length
  ·left
   refine⟨i+1,?_,hlt,by omega⟩
   have hx:=a0b hlt
   have hd:Ex.depths (u.take (i+1))=max (Ex.depths (u.take i)) u[i].depth:=by rw[a1f,hx];exact y1o _ _
   rw[hd]
   generalize u[i]=e at hx
   have he:=x4o hx
   have hr:=q5d hx
   obtain⟨k2,n2,s2,o2,a2,u2⟩:=e
   have h2:=z4d m k2 n2 s2 o2 a2 u2 (by omega) (by omega)
   simp only [go1,Nat.reduceAdd,x0x,x0n hlt,x0p hlt,hr,Ex.row,oE,h2,x0c hlt (by omega),u3f]
   rfl
  ·right
   have:i=u.length:=by omega
   subst this
   have:=y3e u
   simp only [go1,Nat.reduceAdd,oE,x0x,x0h,a0x,Ex.depth]
   rw[x0c (n:=Ex.depths u+1) (by omega) (by omega)]
   rfl
theorem z0z (e:Ex)(l:List Ex):Ex.sizes (l++[e])=Ex.sizes l+e.size:=by rw[x5s];simp [Ex.sizes]
theorem u1f: ∀(m:Nat) (k n:Int) (s:ByteArray) (o:Int) (a:List ByteArray) (u:List Ex),(Ex.mk k n s o a u).size≤m→m≤1000000→cF 152 [kE k n s o (x0e a) (Ex.rows u)]=some (.val [.int .i64 ((Ex.mk k n s o a u).size:Int)])
 |0,k,n,s,o,a,u,h,_=>by simp only [Ex.size]at h;omega
 |m+1,k,n,s,o,a,u,h,hm=>by
  have hz:Ex.sizes u≤m:=by simp only [Ex.size]at h;omega
  have hl:=x2p u
  refine cOf (by kernel_rfl) rfl ?_
  rw[w3r]
  simp only [k1p,go1]
  refine x0m (fun i:Nat=>[.int .i64 ((Ex.sizes (u.take i)+1:Nat):Int), .int .i64 (i:Int), .int .i64 k, .int .i64 n, .str s, .int .i64 o, .sl 1 (x0e a), .sl 6 (Ex.rows u)]) (fun i=>i≤u.length∧Ex.sizes (u.take i)≤m) (fun i=>u.length - i) (fun i hi=> ?_) 0 ⟨a0r _,a0r _⟩
  by_cases hlt:i < u.length
  ·left
   have hx:=a0b hlt
   have hd:Ex.sizes (u.take (i+1))=Ex.sizes (u.take i)+u[i].size:=by rw[a1f,hx];exact z0z _ _
   have hle:Ex.sizes (u.take (i+1))≤m:=by
    have:=x5s (u.take (i+1)) (u.drop (i+1));rw[a2c]at this;omega
   refine⟨i+1,?_,⟨hlt,hle⟩,by omega⟩
   rw[hd]at hle ⊢
   generalize u[i]=e at hx hle ⊢
   have he:=x4o hx
   have hr:=q5d hx
   obtain⟨k2,n2,s2,o2,a2,u2⟩:=e
   have h2:=u1f m k2 n2 s2 o2 a2 u2 (by omega) (by omega)
   simp only [go1,Nat.reduceAdd,x0x,x0n hlt,x0p hlt,hr,Ex.row,oE,h2,x0c hlt (by omega)]
   rw[x0j (by omega) (by omega)]
   congr 5;omega
  ·right
   have:i=u.length:=by omega
   subst this
   simp only [go1,Nat.reduceAdd,oE,x0x,x0h,a0x,Ex.size]
end Go.Vm
end

section
set_option maxRecDepth 100000
set_option maxHeartbeats 4000000
namespace Go.Vm
open Go.Proofs
def y5f (s:ByteArray):Bool:=y1l (tb s) || (decide (tb s=tb x5w) || decide (tb s=tb x2r))
def z3d:Ex→Bool
 | .mk k _ _ o _ u=>bif decide (k=5)then decide (o=1)&&(match u with
   | [.mk k2 _ _ _ _ _]=>decide (k2=1)
   |_=>false)else decide (k=1) || (decide (k=2) || decide (k=4))
def y9i:Ex→Bool
 | .mk k n s o a u=>bif decide (k=14)then u.all z3d else z3d (.mk k n s o a u)
def v3g (k o:Int):Bool:=bif decide (k=5)then decide (1≤o)&&decide (o≤2)else bif decide (k=6)then decide (3≤o)&&decide (o≤16)else decide (o=0)
def v3h (k n:Int):Bool:=bif decide (k=1)then decide (0≤n)else bif decide (k=2) || decide (k=13)then decide (n=0) || decide (n=1)else decide (n=0)
def z0f (k:Int)(s:ByteArray):Bool:=bif decide (k=3) || (decide (k=11) || (decide (k=12) || decide (k=13)))then x7m (tb s)else bif decide (k=4)then y1l (tb s)else bif decide (k=17)then z5s (tb s)else decide (tb s= [])
def z8u (k:Int)(a:List ByteArray):Bool:=a.all y5f&&(bif decide (k=11)then decide (a.length=1)else bif decide (k=12)then decide (1≤a.length)&&(decide (a.length≤6)&&decide a.Nodup)else decide (a.length=0))
def loB (k n:Int)(la:Nat):Int:=if k=5∨k=10∨k=11∨k=14 then 1 else if k=6∨k=8∨k=9∨k=15 then 2 else if k=7∨k=16 then 3 else if k=12 then la else if k=13 then n else 0
def hiB (k n:Int)(la:Nat):Int:=if k=14 then 8 else if k=13 then(if n=0 then 6 else 7)else loB k n la
def q3p (k:Int)(u:List Ex):Bool:=bif decide (k=8)then(match u with
 |e::_=>y9i e
 | []=>false)else true
def y7w (k:Int):Bool:=decide (1≤k)&&decide (k≤17)
def y3v:Ex→Bool
 | .mk k n s o a u=>y7w k&&(v3h k n&&(z0f k s&&(v3g k o&&(z8u k a&&(decide (loB k n a.length≤(u.length:Int))&&(decide ((u.length:Int)≤hiB k n a.length)&&q3p k u))))))
mutual
def y9u:Ex→Bool
 | .mk k n s o a u=>y3v (.mk k n s o a u)&&z8w u
def z8w:List Ex→Bool
 | []=>true
 |e::l=>y9u e&&z8w l
end
theorem q7g (k:Int)(h:y7w k=true):k=1∨k=2∨k=3∨k=4∨k=5∨k=6∨k=7∨k=8∨k=9∨k=10∨k=11∨k=12∨k=13∨k=14∨k=15∨k=16∨k=17:=by
 unfold y7w at h
 simp at h
 omega
theorem v5c {k:Int}(h:y7w k=false):k≠1∧k≠2∧k≠3∧k≠4∧k≠5∧k≠6∧k≠7∧k≠8∧k≠9∧k≠10∧k≠11∧k≠12∧k≠13∧k≠14∧k≠15∧k≠16∧k≠17:=by
 unfold y7w at h
 simp at h
 omega
theorem k4m (o:Int):(decide (o=1) || decide (o=2))=(decide (1≤o)&&decide (o≤2)):=by
 rw[a1b]
 simp
 omega
theorem z2h (k n:Int)(s:ByteArray)(o:Int)(a u:LL)(m:Int):cF 230 [kE k n s o a u, .d (.int .i64 m)]=some (.val [.bool (decide (n=0)), .bool (decide (tb s= [])), .bool (decide (o=0)), .int .i64 m, .int .i64 m, .int .i64 0]):=by
 refine cOf (by kernel_rfl) rfl ?_
 rw[w2p]
 simp only [k0n,go1,x1l]
 rfl
theorem w6l (k n:Int)(s:ByteArray)(o:Int)(a u:LL)(hk:k=1∨k=2∨k=3∨k=4∨k=17)(hs:s.size≤100000):cF 229 [kE k n s o a u]=some (.val [.bool (v3h k n), .bool (z0f k s), .bool (v3g k o), .int .i64 0, .int .i64 0, .int .i64 0]):=by
 have h1:=z2h k n s o a u 0
 have h2:=z4g s
 have h3:=z8p s
 have h4:=v9f s hs
 refine cOf (by kernel_rfl) rfl ?_
 rw[w2q]
 simp only [k0o,go1,h1,h2,h3,h4,oQ]
 rcases hk with rfl|rfl|rfl|rfl|rfl<;>simp only [go1,Int.reduceEq,v3h,z0f,v3g,Int.reduceEq]
theorem q8i (k n:Int)(s:ByteArray)(o:Int)(a:List ByteArray)(u:LL)(hs:s.size≤100000):cF 207 [kE k n s o (x0e a) u]=some (match y7w k with
  |true=> .val [.bool (v3h k n), .bool (z0f k s), .bool (v3g k o), .int .i64 (loB k n a.length), .int .i64 (hiB k n a.length), .int .i64 (if k=11 then 1 else if k=12 then 6 else 0), .bool true]
  |false=> .val [.bool false, .bool false, .bool false, .int .i64 0, .int .i64 0, .int .i64 0, .bool false]):=by
 have h1:=z2h k n s o (x0e a) u
 have h2:=z4g s
 have h5:=x0f a
 cases hk:y7w k with
 |true=>
  rcases q7g k hk with h|h|h|h|h|h|h|h|h|h|h|h|h|h|h|h|h
  all_goals (first|(have h3:=w6l k n s o (x0e a) u (by omega) hs;subst h)|(subst h;have h3:=True.intro))
  all_goals
   refine cOf (by kernel_rfl) rfl ?_
   rw[v0n]
   simp only [↓q7q, ↓h1, ↓h2, ↓h3, ↓h5,oQ,loB,hiB,go1,Int.reduceEq,v3h,z0f,v3g,Int.reduceEq,or_self,or_true,true_or,if_true,if_false]
  ·rw[k4m]
  ·by_cases hn:n=0
   ·subst hn;rfl
   ·simp only [x1c hn,cond_false,a0v,if_neg hn]
 |false=>
  obtain⟨q1,q2,q3,q4,q5,q6,q7,q8,q9,q10,q11,q12,q13,q14,q15,q16,q17⟩:=v5c hk
  refine cOf (by kernel_rfl) rfl ?_
  rw[v0n]
  simp only [q7q,go1]
  simp only [x1c q1,x1c q2,x1c q3,x1c q4,x1c q5,x1c q6,x1c q7,x1c q8,x1c q9,x1c q10,x1c q11,x1c q12,x1c q13,x1c q14,x1c q15,x1c q16,x1c q17,go1]
theorem q4b (s:ByteArray):cF 209 [.d (.str s)]=some (.val [.bool (y5f s)]):=by
 have h:=z8p s
 refine cOf (by kernel_rfl) rfl ?_
 rw[w2w]
 simp only [k0u,go1,h,x1l]
 unfold y5f
 cases y1l (tb s)<;>cases h1:decide (tb s=tb x5w)<;>cases h2:decide (tb s=tb x2r)<;>(unfold x5w at h1;unfold x2r at h2;simp only [go1,h1,h2];try rfl)
theorem u4e (s:ByteArray):cF 208 [.d (.str s)]=some (.val [.bool (!y5f s)]):=by
 have h:=q4b s
 refine cOf (by kernel_rfl) rfl ?_
 rw[w2x]
 simp only [k0v,go1,h]
theorem v1s (a:List ByteArray)(ha:a.length≤1000000):cF 144 [.d (.sl 1 (x0e a)), .fn 208 []]=some (.val [.bool (!a.all y5f)]):=by
 rw[List.not_all_eq_any_not]
 cases hall:a.any fun s=> !y5f s with
 |false=>
  refine cOf (by kernel_rfl) rfl ?_
  rw[y8v]
  simp only [z3q,go1,Int.reduceLE,x0f]
  refine x0m (fun i:Nat=>[.sl 1 (x0e a), .int .i64 (a.length:Int), .int .i64 (i:Int)]) (fun i=>i≤a.length) (fun i=>a.length - i) (fun i hi=> ?_) 0 (a0r _)
  by_cases hlt:i < a.length
  ·left
   refine⟨i+1,?_,hlt,by omega⟩
   have hx:=a0b hlt
   have h:=u4e a[i]
   have h0:(!y5f a[i])=false:=by
    have:=(List.any_eq_false.1 hall) a[i] (a1p hlt)
    simpa using this
   simp only [go1,x0f,x0n hlt,x0p hlt,x1v hx,h,h0,x0c hlt (by omega)]
   rfl
  ·right
   have:i=a.length:=by omega
   subst this
   simp only [go1,x0h]
 |true=>
  have hj:=List.findIdx_lt_length_of_exists (List.any_eq_true.1 hall)
  have hpj:=List.findIdx_getElem (w:=hj)
  generalize hJ:(a.findIdx fun s=> !y5f s)=j at hj hpj
  refine cOf (by kernel_rfl) rfl ?_
  rw[y8v]
  simp only [z3q,go1,Int.reduceLE,x0f]
  refine x0m (fun i:Nat=>[.sl 1 (x0e a), .int .i64 (a.length:Int), .int .i64 (i:Int)]) (fun i=>i≤j) (fun i=>a.length - i) (fun i hi=> ?_) 0 (a0r _)
  have hlt:i < a.length:=by omega
  have hx:=a0b hlt
  have h:=u4e a[i]
  by_cases hij:i < j
  ·left
   refine⟨i+1,?_,hij,by omega⟩
   have h0:(!y5f a[i])=false:=by
    have:=List.not_of_lt_findIdx (p:=fun s=> !y5f s) (xs:=a) (i:=i) (by omega)
    simpa using this
   simp only [go1,x0f,x0n hlt,x0p hlt,x1v hx,h,h0,x0c hlt (by omega)]
   rfl
  ·right
   have:i=j:=by omega
   subst this
   have h0:(!y5f a[i])=true:=hpj
   simp only [go1,x0f,x0n hlt,x0p hlt,x1v hx,h,h0,x1m (a2j i)]
theorem z2i (k n:Int)(s:ByteArray)(o:Int)(a:List ByteArray)(u:List Ex)(hu:u.length≤1000000):cF 231 [kE k n s o (x0e a) (Ex.rows u)]=some (.val [.bool (z3d (.mk k n s o a u))]):=by
 have h1:=x0x u
 refine cOf (by kernel_rfl) rfl ?_
 rw[w2o]
 simp only [k0m,go1,Int.reduceLE,h1]
 unfold z3d
 by_cases k5:k=5
 ·subst k5
  simp only [go1,Int.reduceEq,Int.reduceEq]
  match u with
  | []=>cases decide (o=1)<;>rfl
  | [.mk k2 n2 s2 o2 a2 u2]=>cases decide (o=1)<;>rfl
  |e1::e2::u=>
   have:decide ((((e1::e2::u).length:Nat):Int)=1)=false:=decide_eq_false (by simp only [a0f];omega)
   simp only [go1,this];try (cases decide (o=1)<;>rfl)
 ·simp only [go1,x1c k5]
  cases decide (k=1)<;>cases decide (k=2)<;>cases decide (k=4)<;>rfl
theorem z2f (k n:Int)(s:ByteArray)(o:Int)(a:List ByteArray)(u:List Ex)(hu:u.length≤1000000):cF 213 [kE k n s o (x0e a) (Ex.rows u)]=some (.val [.bool (z3d (.mk k n s o a u))]):=by
 have h1:=x0x u
 refine cOf (by kernel_rfl) rfl ?_
 rw[w2t]
 simp only [k0r,go1,Int.reduceLE,h1]
 unfold z3d
 by_cases k5:k=5
 ·subst k5
  simp only [go1,Int.reduceEq,Int.reduceEq]
  match u with
  | []=>cases decide (o=1)<;>rfl
  | [.mk k2 n2 s2 o2 a2 u2]=>cases decide (o=1)<;>rfl
  |e1::e2::u=>
   have:decide ((((e1::e2::u).length:Nat):Int)=1)=false:=decide_eq_false (by simp only [a0f];omega)
   simp only [go1,this];try (cases decide (o=1)<;>rfl)
 ·simp only [go1,x1c k5]
  cases decide (k=1)<;>cases decide (k=2)<;>cases decide (k=4)<;>rfl
end Go.Vm
end

section
set_option maxRecDepth 100000
set_option maxHeartbeats 4000000
namespace Go.Vm
open Go.Proofs
theorem u7q (z k:D)(l:LL):sy.mval z k l=mval z k l:=rfl
theorem w0a (k x:D)(l:LL):sy.mput k x l=mput k x l:=rfl
def v3j (l:List ByteArray):LL:=l.map fun s=>[.str s, .int .i64 1]
theorem u0f (a b:ByteArray):z0g (.str a) (.str b)=decide (a=b):=by
 show(a == b)=_
 have h:(a == b)=(a.data == b.data):=rfl
 rw[h,a1b,beq_iff_eq,a0t]
 exact⟨fun h=>by cases a;cases b;simp_all,fun h=>by rw[h]⟩
theorem w1i {x:ByteArray}: ∀ {l:List ByteArray},x ∉ l→z6l (.str x) (v3j l)=none
 | [],_=>rfl
 |y::l,h=>by
  have h1: ¬x=y:=fun e=>h (by rw[e];exact a1q)
  have h2:x ∉ l:=fun e=>h (a2f _ e)
  show z6l (.str x) ((D.str y::[.int .i64 1])::v3j l)=none
  have hk:z0g (.str x) (.str y)=false:=by rw[u0f];exact x1c h1
  simp only [z6l,hk,w1i h2];rfl
theorem q1k {x:ByteArray}: ∀ {l:List ByteArray},x∈l→mval (.int .i64 0) (.str x) (v3j l)= .int .i64 1
 |y::l,h=>by
  show mval (.int .i64 0) (.str x) ((D.str y::[.int .i64 1])::v3j l)=_
  by_cases he:x=y
  ·have hk:z0g (.str x) (.str y)=true:=by rw[u0f];exact x1m he
   simp only [mval,w9h,z6l,hk];rfl
  ·have hm:x∈l:=by
    rcases a1t.1 h with e|e
    ·exact absurd e he
    ·exact e
   have ih:=q1k hm
   have hk:z0g (.str x) (.str y)=false:=by rw[u0f];exact x1c he
   simp only [mval,w9h,z6l,hk]at ih ⊢
   rw[←ih]
   cases z6l (.str x) (v3j l)<;>rfl
theorem q1j {x:ByteArray}{l:List ByteArray}(h:x ∉ l):mval (.int .i64 0) (.str x) (v3j l)= .int .i64 0:=by
 unfold mval w9h;rw[w1i h];rfl
theorem q7b {x:ByteArray}{l:List ByteArray}(h:x ∉ l):mput (.str x) (.int .i64 1) (v3j l)=v3j (l++[x]):=by
 unfold mput;rw[w1i h];simp [v3j]
theorem z1l {l:List ByteArray}{i:Nat}{x:ByteArray}(h:l[i]? =some x)(hn:(l.take i).Nodup)(hx:x ∉ l.take i):(l.take (i+1)).Nodup:=by
 rw[a1f,h,a2i,List.nodup_append]
 exact⟨hn,by simp,fun a ha b hb=>by simp at hb;rw[hb];exact fun e=>hx (e▸ha)⟩
theorem z6b {l:List ByteArray}{i:Nat}{x:ByteArray}(h:l[i]? =some x)(hx:x∈l.take i): ¬l.Nodup:=by
 intro hn
 have hd:l=l.take i++l.drop i:=(a2c i l).symm
 rw[hd,List.nodup_append]at hn
 refine hn.2.2 x hx x ?_ rfl
 have:(l.drop i)[0]? =some x:=by simpa using h
 exact a0n this
theorem y9r (l:List ByteArray)(hl:l.length≤1000000):cF 54 [.d (.sl 1 (x0e l))]=some (.val [.bool (decide l.Nodup)]):=by
 refine cOf (by kernel_rfl) rfl ?_
 rw[q2r]
 simp only [g54,go1,x0f]
 refine x0m (fun i:Nat=>[.sl 1 (x0e l), .int .i64 (l.length:Int), .int .i64 (i:Int), .sl 2 (v3j (l.take i))]) (fun i=>i≤l.length∧(l.take i).Nodup) (fun i=>l.length - i) (fun i hi=> ?_) 0 ⟨a0r _,by simp⟩
 by_cases hlt:i < l.length
 ·have hx:=a0b hlt
  by_cases hm:l[i]∈l.take i
  ·right
   rw[x1c (z6b hx hm)]
   simp only [go1,Int.reduceLT,Int.reduceAdd,x0f,x0n hlt,x0p hlt,x1v hx,u7q,q1k hm]
  ·left
   refine⟨i+1,?_,⟨hlt,z1l hx hi.2 hm⟩,by omega⟩
   have hw:IntKind.i64.wrap 1=1:=rfl
   simp only [go1,Int.reduceLT,Int.reduceAdd,x0f,x0n hlt,x0p hlt,x1v hx,u7q,w0a,q1j hm,hw,q7b hm,x0c hlt (by omega)]
   rw[a1f,hx];rfl
 ·right
  have:i=l.length:=by omega
  subst this
  simp only [go1,x0h]
  rw[a0x]at hi
  rw[x1m hi.2]
theorem u2i {α:Type}{b:List D→Option (List D ⊕ α)}{r:α}(n:Nat)(mk:Nat→List D)(hb: ∀i,i < n→b (mk i)=some (.inl (mk (i+1))))(hend:b (mk n)=some (.inr r)):x7h b (mk 0)=some r:=by
 refine x0m mk (fun i=>i≤n) (fun i=>n - i) (fun i hi=> ?_) 0 (a0r _)
 by_cases h:i < n
 ·exact .inl ⟨i+1,hb i h,h,by omega⟩
 ·have:i=n:=by omega
  subst this
  exact .inr hend
theorem u0a {l:List ByteArray}{i j:Nat}{y:ByteArray}(hj:j < i)(h:l[j]? =some y):y∈l.take i:=by
 refine a0n (i:=j) ?_
 rw[a1m,if_pos hj,h]
theorem y9m (l:List ByteArray)(hl:l.length≤1000000):cF 30 [.d (.sl 1 (x0e l))]=some (.val [.bool (decide l.Nodup)]):=by
 refine cOf (by kernel_rfl) rfl ?_
 rw[q2y]
 simp only [g30,go1]
 refine x0m (fun i:Nat=>[.sl 1 (x0e l), .int .i64 (i:Int)]) (fun i=>i≤l.length∧(l.take i).Nodup) (fun i=>l.length - i) (fun i hi=> ?_) 0 ⟨a0r _,by simp⟩
 by_cases hlt:i < l.length
 ·have hx:=a0b hlt
  simp only [go1,x0f,x0n hlt]
  by_cases hm:l[i]∈l.take i
  ·right
   rw[x1c (z6b hx hm)]
   refine x0m (fun j:Nat=>[.sl 1 (x0e l), .int .i64 (i:Int), .int .i64 (j:Int)]) (fun j=>j≤i∧ ∃k,j≤k∧k < i∧l[k]? =some l[i]) (fun j=>i - j) (fun j hj=> ?_) 0 ⟨a0r _,?_⟩
   ·obtain⟨hj,k,hk1,hk2,hk3⟩:=hj
    have hjl:j < i:=by omega
    have hjl2:j < l.length:=by omega
    have hy:=a0b hjl2
    by_cases he:tb l[j]=tb l[i]
    ·right
     simp only [go1,x0f,x0n hjl,x0p hlt,x0p hjl2,x1v hx,x1v hy,x1l,x1m he]
    ·left
     refine⟨j+1,?_,⟨hjl,k,?_,hk2,hk3⟩,by omega⟩
     ·simp only [go1,x0f,x0n hjl,x0p hlt,x0p hjl2,x1v hx,x1v hy,x1l,x1c he,x0c hjl (by omega)]
      rfl
     ·rcases Nat.lt_or_ge j k with h|h
      ·exact h
      ·have:j=k:=by omega
       subst this
       rw[hy]at hk3
       exact absurd (by rw[Option.some.inj hk3]) he
   ·obtain⟨k,hk⟩:=List.getElem?_of_mem hm
    rw[a1m]at hk
    split at hk
    ·rename_i hki
     exact⟨k,a0r _,hki,hk⟩
    ·cases hk
  ·left
   refine⟨i+1,?_,⟨hlt,z1l hx hi.2 hm⟩,by omega⟩
   refine u2i i (fun j=>[.sl 1 (x0e l), .int .i64 (i:Int), .int .i64 (j:Int)]) (fun j hjl=> ?_) ?_
   ·have hjl2:j < l.length:=by omega
    have hy:=a0b hjl2
    have he: ¬tb l[j]=tb l[i]:=fun e=>hm (by rw[←x8x e];exact u0a hjl hy)
    simp only [go1,x0f,x0n hjl,x0p hlt,x0p hjl2,x1v hx,x1v hy,x1l,x1c he,x0c hjl (by omega)]
    rfl
   ·simp only [go1,x0h,x0c hlt (by omega)]
    rfl
 ·right
  have:i=l.length:=by omega
  subst this
  simp only [go1,x0f,x0h]
  rw[a0x]at hi
  rw[x1m hi.2]
theorem v7j {τ α:Type}{b:List D→Option (List D ⊕ α)}{r0 r1:α}(p:τ→Bool)(l:List τ)(mk:Nat→List D)
  (hb: ∀i x,l[i]? =some x→b (mk i)=bif p x then some (.inl (mk (i+1)))else some (.inr r0))
  (hend:l.all p=true→b (mk l.length)=some (.inr r1)):x7h b (mk 0)=some (bif l.all p then r1 else r0):=by
 suffices ∀(rest:List τ) (i:Nat),l.drop i=rest→i≤l.length→(l.take i).all p=true→x7h b (mk i)=some (bif rest.all p then r1 else r0)from this l 0 rfl (a0r _) rfl
 intro rest
 induction rest with
 |nil=>
  intro i hd hi ht
  have:i=l.length:=by have:=congrArg List.length hd;simp at this;omega
  subst this
  rw[a0x]at ht
  rw[x8s,hend ht]
  rfl
 |cons x xs ih=>
  intro i hd hi ht
  have hx:l[i]? =some x:=by
   have:=congrArg (fun r=>r[0]?) hd
   simpa using this
  have hlt:i < l.length:=(a0a.1 hx).1
  have hxs:l.drop (i+1)=xs:=by
   have:=congrArg List.tail hd
   simpa using this
  rw[x8s,hb i x hx]
  cases hp:p x with
  |false=>simp [a1s,hp]
  |true=>
   simp only [cond_true,a1s,hp,a1y]
   refine ih (i+1) hxs hlt ?_
   rw[a1f,hx,List.all_append,ht]
   simp [hp]
theorem x1u {τ α:Type}{b:List D→Option (List D ⊕ α)}{r0 r1 r:α}{ds:List D}(p:τ→Bool)(l:List τ)(mk:Nat→List D)(h0:mk 0=ds)
  (hb: ∀i x,l[i]? =some x→b (mk i)=bif p x then some (.inl (mk (i+1)))else some (.inr r0))
  (hend:l.all p=true→b (mk l.length)=some (.inr r1)) (hr:(bif l.all p then r1 else r0)=r):x7h b ds=some r:=by
 rw[←h0,v7j p l mk hb hend,hr]
theorem x8y {l:List Ex}{i:Nat}{k n:Int}{s:ByteArray}{o:Int}{a:List ByteArray}{u:List Ex}(h:l[i]? =some (.mk k n s o a u)):sy.row (Ex.rows l) (i:Int)= [.int .i64 k, .int .i64 n, .str s, .int .i64 o, .sl 1 (x0e a), .sl 6 (Ex.rows u)]:=q5d h
theorem v3q {l:List Ex}{i:Nat}{k n:Int}{s:ByteArray}{o:Int}{a:List ByteArray}{u:List Ex}(h:l[i]? =some (.mk k n s o a u))(hl:Ex.sizes l≤1000000):u.length≤1000000:=by
 have h1:=x4o h
 have h2:=x2p u
 simp only [Ex.size]at h1
 omega
theorem y9s (k n:Int)(s:ByteArray)(o:Int)(a:List ByteArray)(u:List Ex)(hu:u.length≤1000000):cF 233 [kE k n s o (x0e a) (Ex.rows u)]=some (.val [.bool (!z3d (.mk k n s o a u))]):=by
 have h:=z2i k n s o a u hu
 refine cOf (by kernel_rfl) rfl ?_
 rw[w2n]
 simp only [k0l,go1,h]
theorem v6h (l:List Ex)(hl:Ex.sizes l≤1000000): ∃i:Int,cF 244 [.d (.sl 6 (Ex.rows l)), .fn 233 []]=some (.val [.int .i64 i])∧decide (0≤i)=l.any fun s=> !z3d s:=by
 have hlen:=x2p l
 cases hall:l.any fun s=> !z3d s with
 |false=>
  refine⟨-1,?_,rfl⟩
  refine cOf (by kernel_rfl) rfl ?_
  rw[y8u]
  simp only [z3o,go1,x0x]
  refine x0m (fun i:Nat=>[.sl 6 (Ex.rows l), .int .i64 (l.length:Int), .int .i64 (i:Int)]) (fun i=>i≤l.length) (fun i=>l.length - i) (fun i hi=> ?_) 0 (a0r _)
  by_cases hlt:i < l.length
  ·left
   refine⟨i+1,?_,hlt,by omega⟩
   have hx:=a0b hlt
   have h0:(!z3d l[i])=false:=by
    have:=(List.any_eq_false.1 hall) l[i] (a1p hlt)
    simpa using this
   generalize l[i]=e at hx h0
   obtain⟨k,n,s,o,a,u⟩:=e
   have h:=y9s k n s o a u (v3q hx hl)
   simp only [go1,x0x,x0n hlt,x0p hlt,x8y hx,oE,h,h0,x0c hlt (by omega)]
   rfl
  ·right
   have:i=l.length:=by omega
   subst this
   simp only [go1,x0h]
 |true=>
  have hj:=List.findIdx_lt_length_of_exists (List.any_eq_true.1 hall)
  refine⟨((l.findIdx fun s=> !z3d s:Nat):Int),?_,a1d (a2j _)⟩
  have hpj:=List.findIdx_getElem (w:=hj)
  generalize hJ:(l.findIdx fun s=> !z3d s)=j at hj hpj
  refine cOf (by kernel_rfl) rfl ?_
  rw[y8u]
  simp only [z3o,go1,x0x]
  refine x0m (fun i:Nat=>[.sl 6 (Ex.rows l), .int .i64 (l.length:Int), .int .i64 (i:Int)]) (fun i=>i≤j) (fun i=>l.length - i) (fun i hi=> ?_) 0 (a0r _)
  have hlt:i < l.length:=by omega
  have hx:=a0b hlt
  by_cases hij:i < j
  ·left
   refine⟨i+1,?_,hij,by omega⟩
   have h0:(!z3d l[i])=false:=by
    have:=List.not_of_lt_findIdx (p:=fun s=> !z3d s) (xs:=l) (i:=i) (by omega)
    simpa using this
   generalize l[i]=e at hx h0
   obtain⟨k,n,s,o,a,u⟩:=e
   have h:=y9s k n s o a u (v3q hx hl)
   simp only [go1,x0x,x0n hlt,x0p hlt,x8y hx,oE,h,h0,x0c hlt (by omega)]
   rfl
  ·right
   have:i=j:=by omega
   subst this
   have h0:(!z3d l[i])=true:=hpj
   generalize l[i]=e at hx h0
   obtain⟨k,n,s,o,a,u⟩:=e
   have h:=y9s k n s o a u (v3q hx hl)
   simp only [go1,x0x,x0n hlt,x0p hlt,x8y hx,oE,h,h0]
theorem v1t (l:List Ex)(hl:Ex.sizes l≤1000000):cF 232 [.d (.sl 6 (Ex.rows l)), .fn 233 []]=some (.val [.bool (!l.all z3d)]):=by
 obtain⟨i,h1,h2⟩:=v6h l hl
 refine cOf (by kernel_rfl) rfl ?_
 rw[u0q]
 simp only [u3i,go1,h1]
 rw[h2,List.not_all_eq_any_not]
theorem v6u (k n:Int)(s:ByteArray)(o:Int)(a:List ByteArray)(u:List Ex)(hu:Ex.sizes u≤1000000):cF 210 [kE k n s o (x0e a) (Ex.rows u)]=some (.val [.bool (y9i (.mk k n s o a u))]):=by
 have hl:=x2p u
 have h1:=z2i k n s o a u (by omega)
 have h2:=v1t u hu
 refine cOf (by kernel_rfl) rfl ?_
 rw[w2v]
 simp only [k0t,go1,h1,h2]
 by_cases hk:k=14
 ·simp only [y9i,x1m hk,go1]
 ·simp only [y9i,x1c hk,go1]
theorem v2d (k n:Int)(s:ByteArray)(o:Int)(a:List ByteArray)(u:List Ex)(hu:Ex.sizes u≤1000000):cF 186 [kE k n s o (x0e a) (Ex.rows u)]=some (.val [.bool (y9i (.mk k n s o a u))]):=by
 have hl:=x2p u
 have h1:=z2f k n s o a u (by omega)
 refine cOf (by kernel_rfl) rfl ?_
 rw[w3d]
 simp only [k1b,go1,h1]
 by_cases hk:k=14
 ·simp only [y9i,x1m hk,go1]
  refine x1u z3d u (fun i:Nat=>[.int .i64 (i:Int), .int .i64 k, .int .i64 n, .str s, .int .i64 o, .sl 1 (x0e a), .sl 6 (Ex.rows u)]) rfl (r0:= .val [.bool false]) (r1:= .val [.bool true]) (fun i e hx=> ?_) (fun _=> ?_) (by cases u.all z3d<;>rfl)
  ·have hlt:=(a0a.1 hx).1
   obtain⟨k2,n2,s2,o2,a2,u2⟩:=e
   have h:=z2f k2 n2 s2 o2 a2 u2 (v3q hx hu)
   simp only [go1,Nat.reduceAdd,oE,x0x,x0n hlt,x0p hlt,x8y hx,h]
   cases z3d (.mk k2 n2 s2 o2 a2 u2)with
   |true=>simp only [go1,x0c hlt (by omega)];rfl
   |false=>rfl
  ·simp only [go1,Nat.reduceAdd,oE,x0x,x0h]
 ·simp only [y9i,x1c hk,go1]
end Go.Vm
end

section
set_option maxRecDepth 100000
set_option maxHeartbeats 4000000
namespace Go.Vm
open Go.Proofs
theorem w8k (k:Int)(a:List ByteArray):((!(decide ((if k=11 then(1:Int)else if k=12 then 6 else 0) < (a.length:Int)) || (decide (0 < (if k=11 then(1:Int)else if k=12 then 6 else 0))&&decide ((a.length:Int)=0))))&&(decide a.Nodup&&a.all y5f))=z8u k a:=by
 unfold z8u
 by_cases h1:k=11
 ·subst h1
  match a with
  | []=>rfl
  | [x]=>simp
  |x::y::r=>
   have:decide ((1:Int) < ((x::y::r).length:Int))=true:=a1d (by simp only [a0f];omega)
   have h2:decide ((x::y::r).length=1)=false:=decide_eq_false (by simp only [a0f];omega)
   simp only [if_true,this,a1i,Bool.not_true,a2n,decide_true,cond_true,h2,Bool.and_false]
 ·by_cases h2:k=12
  ·subst h2
   have e1:decide ((6:Int) < (a.length:Int))= !decide (a.length≤6):=by rw[a1b];simp;omega
   have e2:decide ((a.length:Int)=0)= !decide (1≤a.length):=by rw[a1b];simp;try omega
   have e3:decide ((12:Int)=11)=false:=rfl
   have e4:decide ((0:Int) < 6)=true:=rfl
   simp only [if_neg h1,if_true,e1,e2,e3,e4,decide_true,cond_true,cond_false,a1y]
   cases decide (a.length≤6)<;>cases decide (1≤a.length)<;>cases decide a.Nodup<;>cases a.all y5f<;>rfl
  ·have e4:decide ((0:Int) < 0)=false:=rfl
   simp only [if_neg h1,if_neg h2,x1c h1,x1c h2,cond_false,e4,a2n,Bool.or_false]
   match a with
   | []=>rfl
   |x::r=>
    have h3:decide ((0:Int) < ((x::r).length:Int))=true:=a1d (by simp only [a0f];omega)
    have h4:decide ((x::r).length=0)=false:=rfl
    rw[h3,h4];try simp
theorem nlt (a b:Int):decide (a < b)= !decide (b≤a):=by
 rw[a1b];simp
theorem w6k (k n:Int)(s:ByteArray)(o:Int)(a:List ByteArray)(u:List Ex)(hs:s.size≤100000)(ha:a.length≤1000000)(hu:Ex.sizes u≤1000000):
  cF 178 [kE k n s o (x0e a) (Ex.rows u)]=some (.val [.bool (y3v (.mk k n s o a u))]):=by
 have h1:=q8i k n s o a (Ex.rows u) hs
 have h2:=y9r a ha
 have h3:=v1s a ha
 have h4:=x0x u
 have h5:=x0f a
 simp only [y3v]
 rw[←w8k]
 refine cOf (by kernel_rfl) rfl ?_
 rw[w3i]
 simp only [k1g,go1,Int.reduceLE,h1,h2,h3,h4,h5]
 cases hk:y7w k with
 |false=>simp only [go1,oQ];try rfl
 |true=>
  simp only [go1,oQ,nlt]
  cases v3h k n with
  |false=>simp only [go1];try rfl
  |true=>
   cases z0f k s with
   |false=>simp only [go1];try rfl
   |true=>
    cases v3g k o with
    |false=>simp only [go1];try rfl
    |true=>
     simp only [go1]
     cases hlo:decide (loB k n a.length≤(u.length:Int))with
     |false=>simp only [go1]
     |true=>
      generalize (if k=11 then(1:Int)else if k=12 then 6 else 0)=M
      generalize (!decide ((a.length:Int)≤M) || !decide (M≤0)&&decide ((a.length:Int)=0))=X
      cases decide ((u.length:Int)≤hiB k n a.length)with
      |false=>simp only [go1]
      |true=>
       cases X with
       |true=>simp only [go1]
       |false=>
        cases decide a.Nodup with
        |false=>simp only [go1]
        |true=>
         cases a.all y5f with
         |false=>simp only [go1]
         |true=>
          simp only [go1]
          by_cases h8:k=8
          ·subst h8
           match u,hlo,hu with
           | [],hlo,_=>cases hlo
           | .mk k2 n2 s2 o2 a2 u2::u,hlo,hu=>
             have hx:(Ex.mk k2 n2 s2 o2 a2 u2::u)[0]? =some (.mk k2 n2 s2 o2 a2 u2):=rfl
             have hc:=v6u k2 n2 s2 o2 a2 u2 (by simp only [Ex.sizes,Ex.size]at hu;omega)
             have hr:sy.row (Ex.rows (.mk k2 n2 s2 o2 a2 u2::u)) 0= [.int .i64 k2, .int .i64 n2, .str s2, .int .i64 o2, .sl 1 (x0e a2), .sl 6 (Ex.rows u2)]:=x8y hx
             have hz:decide (((Ex.mk k2 n2 s2 o2 a2 u2::u).length:Int)≤0)=false:=decide_eq_false (by simp only [a0f];omega)
             simp only [go1,hz,hr,oE,hc,q3p]
          ·simp only [go1,x1c h8,q3p]
end Go.Vm
end

section
set_option maxRecDepth 100000
set_option maxHeartbeats 4000000
namespace Go.Vm
open Go.Proofs
theorem w5f {l:List Nat}{f i:Nat}(hf:f≤i)(hi:i < l.length):l.drop f=(l.take i).drop f++l.getD i 0::l.drop (i+1):=by
 have h1:l=l.take i++l.getD i 0::l.drop (i+1):=by
  rw[a0d,a0b hi]
  simp only [Option.getD_some]
  rw[List.getElem_cons_drop hi,a2c]
 conv=>lhs;rw[h1]
 rw[List.drop_append_of_le_length (by rw[a1k];omega)]
theorem y9z {l:List Nat}{f i:Nat}(hf:f≤i)(hi:i < l.length):(l.take (i+1)).drop f=(l.take i).drop f++[l.getD i 0]:=by
 rw[a1f,a0b hi,a0d,a0b hi]
 simp only [a2i,Option.getD_some]
 rw[List.drop_append_of_le_length (by rw[a1k];omega)]
theorem v9c (s:ByteArray)(c:Nat)(hs:s.size≤100000): ∃l:List ByteArray,cF 180 [.d (.str s), .d (.int .u8 (c:Int))]=some (.own 9 1 (x0e l))∧l.map tb=x1r c (tb s):=by
 have hl:=x1k s
 suffices ∃p,cF 180 [.d (.str s), .d (.int .u8 (c:Int))]=some p∧ ∃l:List ByteArray,p= .own 9 1 (x0e l)∧l.map tb=x1r c (tb s) by
  obtain⟨_,h,l,rfl,hl⟩:=this
  exact⟨l,h,hl⟩
 refine q8n (by kernel_rfl) rfl ?_
 rw[w3h]
 simp only [k1f,go1,Nat.reduceAdd]
 refine x5o (fun x:List ByteArray × Nat × Nat=>[.str s, .int .u8 (c:Int), .int .i64 (x.2.1:Int), .int .i64 (x.2.2:Int), .sl 1 (x0e x.1)])
  (fun x=>x.1.length≤x.2.2∧((x.2.2≤(tb s).length∧x.2.1≤x.2.2∧x1r c (tb s)=x.1.map tb++x1r c ((tb s).drop x.2.1)∧ ∀y∈((tb s).take x.2.2).drop x.2.1,y≠c)∨(x.2.2=(tb s).length+1∧x.1.map tb=x1r c (tb s)))) (fun x=>(tb s).length+1 - x.2.2) (fun x hx=> ?_) ([],0,0) ⟨a0m _, .inl ⟨a0r _,a0m _,rfl,by simp⟩⟩
 obtain⟨done,f,i⟩:=x
 obtain⟨hd,hx⟩:=hx
 simp only at hd hx
 rcases hx with⟨hi,hf,h1,h2⟩|⟨hi,h1⟩
 ·have hw:IntKind.i64.wrap ((i:Int)+1)=((i+1:Nat):Int):=by rw[x0j (by omega) (by omega)];rfl
  have hfit:decide ((done.length+1)*(16+1)≤140737488355328)=true:=x1m (by omega)
  by_cases hlt:i < (tb s).length
  ·simp only [go1,x0u,y4k,x0f,hw]
   rw[x1m (p:=(i:Int)≤((tb s).length:Int)) (by omega),x1c (p:=(i:Int)=((tb s).length:Int)) (by omega),x1m (p:=0≤(i:Int)∧(i:Int) < ((tb s).length:Int)) (by omega)]
   by_cases hc:(tb s).getD i 0=c
   ·left
    refine⟨(done++[s.extract (f:Int).toNat (i:Int).toNat],i+1,i+1),?_,⟨?_, .inl ⟨hlt,a0m _,?_,?_⟩⟩,(by show(tb s).length+1 - (i+1) < (tb s).length+1 - i;omega)⟩
    ·rw[x1m (p:=(((tb s).getD i 0:Nat):Int)=(c:Int)) (by omega),x1m (p:=0≤(f:Int)∧(f:Int)≤(i:Int)∧(i:Int)≤((tb s).length:Int)) (by omega)]
     simp only [go1,a2h,hfit,x0e,List.map_append,a1r,a2d,v8e]
    ·simp;omega
    ·simp only
     rw[h1,w5f hf hlt,hc,x8k c _ _ h2,List.map_append,a1r,a2d,x6g,a0h,a0h]
     simp
    ·intro y hy
     simp only at hy
     rw[List.drop_of_length_le (by rw[a1k];omega)]at hy
     simp at hy
   ·left
    refine⟨(done,f,i+1),?_,⟨(by show done.length≤i+1;omega), .inl ⟨hlt,(by show f≤i+1;omega),h1,?_⟩⟩,(by show(tb s).length+1 - (i+1) < (tb s).length+1 - i;omega)⟩
    ·rw[x1c (p:=(((tb s).getD i 0:Nat):Int)=(c:Int)) (by omega)]
     simp only [go1];try rfl
    ·intro y hy
     simp only at hy
     rw[y9z hf hlt]at hy
     rcases a1h.1 hy with hy|hy
     ·exact h2 y hy
     ·simp at hy;rw[hy];simpa using hc
  ·have hie:i=(tb s).length:=by omega
   left
   refine⟨(done++[s.extract (f:Int).toNat (i:Int).toNat],i+1,i+1),?_,⟨(by simp;omega), .inr ⟨(by show i+1=(tb s).length+1;omega),?_⟩⟩,(by show(tb s).length+1 - (i+1) < (tb s).length+1 - i;omega)⟩
   ·simp only [go1,x0u,x0f,hw]
    rw[x1m (p:=(i:Int)≤((tb s).length:Int)) (by omega),x1m (p:=(i:Int)=((tb s).length:Int)) (by omega),x1m (p:=0≤(f:Int)∧(f:Int)≤(i:Int)∧(i:Int)≤((tb s).length:Int)) (by omega)]
    simp only [go1,a2h,hfit,x0e,List.map_append,a1r,a2d,v8e]
   ·simp only
    rw[hie,a0x]at h2
    rw[h1,x8j c _ h2,List.map_append,a1r,a2d,x6g,a0h,a0h,hie,a0x]
 ·right
  simp only [go1,x0u]
  rw[x1c (p:=(i:Int)≤((tb s).length:Int)) (by omega)]
  exact⟨_,rfl,done,rfl,h1⟩
theorem u9h (l:List Nat):u5m l=(!(decide (l.length < 1) || decide (3 < l.length) || decide (l.getD 0 0=48))&&l.all x0r):=by
 unfold u5m
 by_cases h1:1≤l.length
 ·by_cases h3:l.length≤3
  ·rw[x1m h1,x1m h3,x1c (p:=l.length < 1) (by omega),x1c (p:=3 < l.length) (by omega)];simp
  ·rw[x1m h1,x1c h3,x1c (p:=l.length < 1) (by omega),x1m (p:=3 < l.length) (by omega)];simp
 ·rw[x1c h1,x1m (p:=l.length < 1) (by omega)];simp
theorem v2f (s:ByteArray)(hs:s.size≤100000):cF 146 [.d (.str s)]=some (.val [.bool (z5s (tb s))]):=by
 obtain⟨l,h,hl⟩:=v9c s 47 hs
 have hsz:=u2y hl
 have hll:l.length≤100001:=by
  have:=congrArg List.length hl
  rw[a1c,x9y]at this
  have h2:(tb s).count 47≤(tb s).length:=List.count_le_length
  rw[x1k]at h2
  omega
 unfold z5s
 rw[←hl,List.all_map]
 have h:cF 180 [.d (.str s), .d (.int .u8 47)]=_:=h
 refine cOf (by kernel_rfl) rfl ?_
 rw[w3u]
 simp only [k1s,go1,Int.reduceLE,h]
 refine x0m (fun i:Nat=>[.sl 1 (x0e l), .int .i64 (i:Int)]) (fun i=>i≤l.length∧(l.take i).all (y1g ∘ tb)=true) (fun i=>l.length - i) (fun i hi=> ?_) 0 ⟨a0r _,by simp⟩
 by_cases hlt:i < l.length
 ·have hx:=a0b hlt
  have hgd:l.getD i ByteArray.empty=l[i]:=by rw[a0d,hx];rfl
  have hxs:=a1o (hsz _ (a1p hlt)) hs
  generalize hxe:l[i]=x at hx hgd hxs
  obtain⟨ps,hp,hps⟩:=v9c x 46 hxs
  have hp:cF 180 [.d (.str x), .d (.int .u8 46)]=_:=hp
  have hbad:y1g (tb x)=false→l.all (y1g ∘ tb)=false:=fun hb=>y3j (d:=ByteArray.empty) hlt (by rw[hgd];exact hb)
  have hgood:y1g (tb x)=true→(i+1≤l.length∧(l.take (i+1)).all (y1g ∘ tb)=true):=fun hb=>⟨hlt,x4e (d:=ByteArray.empty) hlt hi.2 (by rw[hgd];exact hb)⟩
  have hpe:y1g (tb x)=match ps.map tb with
   | [a]=>x7m a
   | [a,b]=>x7m a&&u5m b
   |_=>false:=by rw[hps];rfl
  have hpl:=x9y 46 (tb x)
  rw[←hps,a1c]at hpl
  have hsub: ∀y∈ps,y.size≤100000:=by
   have key: ∀(t:List Nat),∀p∈x1r 46 t,p.length≤t.length:=by
    intro t
    induction t with
    |nil=>intro p hp;simp [x1r]at hp;simp [hp]
    |cons x xs ih=>
     intro p hp
     unfold x1r at hp
     split at hp
     ·rcases a1t.1 hp with rfl|hp
      ·simp
      ·have:=ih p hp;simp;omega
     ·split at hp
      ·simp at hp;simp [hp]
      ·rename_i q qs hq
       rcases a1t.1 hp with rfl|hp
       ·have:=ih q (by rw[hq];exact a1q);simp;omega
       ·have:=ih p (by rw[hq];exact a2f _ hp);simp;omega
   intro y hy
   have:=key (tb x) (tb y) (by rw[←hps];exact List.mem_map_of_mem hy)
   rw[x1k,x1k]at this
   omega
  simp only [go1,x0f,x0n hlt,x0p hlt,x1v hx,hp]
  match ps,hpe,hpl,hsub with
  | [],_,hpl,_=>simp at hpl
  | [a],hpe,_,hsub=>
    have ha:=y3h a (hsub a a1q)
    simp only [a1r,a2d]at hpe
    simp only [a2h,x0e,a1r,a2d,v8e,y4r,go1,List.getD_cons_zero,Int.toNat_zero,ha,hpe.symm]
    cases hb:y1g (tb x)with
    |false=>
     right
     rw[hbad hb];rfl
    |true=>
     left
     refine⟨i+1,?_,hgood hb,by omega⟩
     rw[x0c hlt (by omega)];rfl
  | [a,b],hpe,_,hsub=>
    have ha:=y3h a (hsub a a1q)
    have hbl:=x1k b
    have hbs:=hsub b (by simp)
    simp only [a1r,a2d]at hpe
    rw[u9h]at hpe
    have hr1:sy.row (x0e [a,b]) 1= [.str b]:=rfl
    have hr0:sy.row (x0e [a,b]) 0= [.str a]:=rfl
    simp only [a0f,a0i,hr0,hr1,go1,Nat.reduceAdd,ha,x0u,z4h]
    cases hla:x7m (tb a)with
    |false=>
     right
     rw[hla,a2n]at hpe
     rw[hbad hpe];rfl
    |true=>
     rw[hla,a1y]at hpe
     have e1:decide (((tb b).length:Int) < 1)=decide ((tb b).length < 1):=by rw[a1b];simp only [a0t];omega
     have e3:decide (3 < ((tb b).length:Int))=decide (3 < (tb b).length):=by rw[a1b];simp only [a0t];omega
     have e4:decide ((((tb b).getD 0 0:Nat):Int)=48)=decide ((tb b).getD 0 0=48):=by rw[a1b];simp only [a0t];omega
     simp only [go1,e1,e3,e4]
     by_cases q1:(tb b).length < 1
     ·right
      rw[x1m q1]at hpe ⊢
      rw[hbad (by rw[hpe];simp)];rfl
     by_cases q3:3 < (tb b).length
     ·right
      rw[x1c q1,x1m q3]at hpe ⊢
      rw[hbad (by rw[hpe];simp)];rfl
     rw[x1c q1,x1c q3]at hpe ⊢
     rw[x1m (p:=0 < ((tb b).length:Int)) (by omega)]
     by_cases q4:(tb b).getD 0 0=48
     ·right
      rw[x1m q4]at hpe ⊢
      rw[hbad (by rw[hpe];simp)];rfl
     rw[x1c q4]at hpe ⊢
     simp only [go1]at hpe ⊢
     cases had:(tb b).all x0r with
     |true=>
      left
      rw[had]at hpe
      refine⟨i+1,?_,hgood hpe,by omega⟩
      refine x0m (r:=Sum.inl [D.sl 1 (x0e l),D.int .i64 ((i+1:Nat):Int)]) (fun k:Nat=>[.sl 1 (x0e l), .int .i64 (i:Int), .str b, .int .i64 (k:Int)]) (fun k=>k≤(tb b).length) (fun k=>(tb b).length - k) (fun k hk=> ?_) 0 (a0r _)
      by_cases hkl:k < (tb b).length
      ·left
       refine⟨k+1,?_,hkl,by omega⟩
       have hdg:x0r ((tb b).getD k 0)=true:=by
        rw[a0d,a0b hkl]
        exact a0o.1 had _ (a1p hkl)
       simp only [go1,x0n hkl,x0p hkl,y4k,w6j,x4v,hdg,x0c hkl (by omega)]
       try rfl
      ·right
       have:k=(tb b).length:=by omega
       subst this
       simp only [go1,x0h,x0c hlt (by omega)]
       try rfl
     |false=>
      right
      rw[had]at hpe
      rw[hbad hpe]
      refine x0m (r:=Sum.inr (PRes.val [D.bool false])) (fun k:Nat=>[.sl 1 (x0e l), .int .i64 (i:Int), .str b, .int .i64 (k:Int)]) (fun k=>k≤(tb b).length∧((tb b).take k).all x0r=true) (fun k=>(tb b).length - k) (fun k hk=> ?_) 0 ⟨a0r _,by simp⟩
      by_cases hkl:k < (tb b).length
      ·cases hdg:x0r ((tb b).getD k 0)with
       |true=>
        left
        refine⟨k+1,?_,⟨hkl,x4e hkl hk.2 hdg⟩,by omega⟩
        simp only [go1,x0n hkl,x0p hkl,y4k,w6j,x4v,hdg,x0c hkl (by omega)]
        try rfl
       |false=>
        right
        simp only [go1,x0n hkl,x0p hkl,y4k,w6j,x4v,hdg]
        try rfl
      ·exfalso
       have:k=(tb b).length:=by omega
       rw[this,a0x,had]at hk
       exact absurd hk.2 (by simp)
  |_::_::_::r,hpe,_,_=>
   right
   have:y1g (tb x)=false:=hpe
   rw[hbad this]
   rw[x1m (p:=2 < (((_::_::_::r:List ByteArray).length:Nat):Int)) (by simp;omega)]
   rfl
 ·right
  have:i=l.length:=by omega
  subst this
  simp only [go1,x0f,x0h]
  rw[a0x]at hi
  rw[hi.2]
theorem v6l (s:ByteArray)(hs:s.size≤100000):cF 115 [.d (.str s), .d (.int .u8 65), .d (.int .u8 90)]=some (.val [.bool (x9c x1y (tb s))]):=by
 have hl:=x1k s
 by_cases h1:1≤(tb s).length∧(tb s).length≤12
 ·have hc:=w6j (((tb s).getD 0 0:Nat):Int) 65 90
  rw[x8a]at hc
  refine cOf (by kernel_rfl) rfl ?_
  rw[z3r]
  simp only [q3h,go1,Int.reduceLE,x0u,z4h,hc]
  rw[x1c (p:=((tb s).length:Int) < 1) (by omega),x1c (p:=12 < ((tb s).length:Int)) (by omega),x1m (p:=0 < ((tb s).length:Int)) (by omega)]
  cases hs0:x1y ((tb s).getD 0 0)with
  |false=>rw[x8r hs0];rfl
  |true=>
   simp only [go1]
   refine x0m (fun p:Nat=>[.str s, .int .i64 (p:Int)]) (fun p=>p≤(tb s).length∧((tb s).take p).all x1g=true) (fun p=>(tb s).length - p) (fun p hp=> ?_) 0 ⟨a0r _,by simp⟩
   by_cases hlt:p < (tb s).length
   ·have hi:=y2y ((tb s).getD p 0)
    simp only [go1,x0n hlt,x0p hlt,y4k,w6j,x7z,x8a,x4v,x0c hlt (by omega)]
    cases hin:x1g ((tb s).getD p 0)with
    |false=>
     right
     rw[x7x hlt hin]
     rw[hin]at hi
     have hi:=hi.symm
     simp only [Bool.or_eq_false_iff]at hi
     obtain⟨⟨⟨i1,i2⟩,i3⟩,i4⟩:=hi
     have i4': ¬(((tb s).getD p 0:Nat):Int)=95:=by
      have:=of_decide_eq_false i4;omega
     rw[x1c i4']
     simp only [i1,i2,i3,go1]
     try rfl
    |true=>
     left
     refine⟨p+1,?_,⟨hlt,x4e hlt hp.2 hin⟩,by omega⟩
     rw[hin]at hi
     cases i1:x2j ((tb s).getD p 0)<;>cases i2:x1y ((tb s).getD p 0)<;>cases i3:x0r ((tb s).getD p 0)<;>rw[i1,i2,i3]at hi<;>simp only [go1]<;>(try rfl)
     all_goals
      simp only [Bool.or_self,a0v]at hi
      have i4:=a0c hi.symm
      rw[x1m (p:=(((tb s).getD p 0:Nat):Int)=95) (by omega)]
      rfl
   ·right
    have:p=(tb s).length:=by omega
    subst this
    simp only [go1,x0h]
    rw[a0x]at hp
    unfold x9c
    rw[hp.2,hs0,x1m h1.1,x1m h1.2]
    rfl
 ·have hn:x9c x1y (tb s)=false:=by
   unfold x9c
   by_cases h:1≤(tb s).length
   ·rw[x1c (p:=(tb s).length≤12) (by omega)];simp
   ·rw[x1c h];simp
  rw[hn]
  refine cOf (by kernel_rfl) rfl ?_
  rw[z3r]
  simp only [q3h,go1,Int.reduceLE,x0u]
  by_cases h:1≤(tb s).length
  ·rw[x1m (p:=12 < ((tb s).length:Int)) (by omega)];simp only [go1];try rfl
  ·rw[x1m (p:=((tb s).length:Int) < 1) (by omega)];simp only [go1];try rfl
theorem y9n (s:ByteArray)(hs:s.size≤100000):cF 69 [.d (.str s)]=some (.val [.bool (y1l (tb s))]):=by
 have:=v6l s hs
 refine cOf (by kernel_rfl) rfl ?_
 rw[q2k]
 simp only [g69,go1,this]
 rfl
end Go.Vm
end

section
set_option maxRecDepth 100000
set_option maxHeartbeats 4000000
namespace Go.Vm
open Go.Proofs
theorem or0 (o:Int):(!decide (0≤o) || !decide (o≤0))= !decide (o=0):=by
 rw[a1b];simp;omega
theorem u1d (k n:Int)(s:ByteArray)(o:Int)(a u:LL):cF 182 [kE k n s o a u]=some (.val [.bool (v3g k o&&v3h k n)]):=by
 have key:k=5∨k=6∨k=1∨k=2∨k=13∨(k≠5∧k≠6∧k≠1∧k≠2∧k≠13):=by omega
 rcases key with rfl|rfl|rfl|rfl|rfl|⟨h1,h2,h3,h4,h5⟩
 all_goals refine cOf (by kernel_rfl) rfl ?_
 all_goals rw[w3g]
 all_goals simp only [k1e,go1,Int.reduceEq,nlt,v3g,v3h,Int.reduceEq,or0 o]
 ·cases decide (1≤o)<;>cases decide (o≤2)<;>rfl
 ·cases decide (3≤o)<;>cases decide (o≤16)<;>rfl
 ·cases decide (o=0)<;>rfl
 ·cases decide (o=0)<;>cases decide (n=0)<;>cases decide (n=1)<;>rfl
 ·cases decide (o=0)<;>cases decide (n=0)<;>cases decide (n=1)<;>rfl
 ·simp only [x1c h1,x1c h2,x1c h3,x1c h4,x1c h5,go1,Bool.or_self]
  cases decide (o=0)<;>rfl
theorem v2c (k n:Int)(s:ByteArray)(o:Int)(a u:LL)(hs:s.size≤100000):cF 183 [kE k n s o a u]=some (.val [.bool (z0f k s)]):=by
 have q1:=y3h s hs
 have q2:=y9n s hs
 have q3:=v2f s hs
 have key:k=3∨k=11∨k=12∨k=13∨k=4∨k=17∨(k≠3∧k≠11∧k≠12∧k≠13∧k≠4∧k≠17):=by omega
 rcases key with rfl|rfl|rfl|rfl|rfl|rfl|⟨h1,h2,h3,h4,h5,h6⟩
 all_goals refine cOf (by kernel_rfl) rfl ?_
 all_goals rw[w3f]
 all_goals simp only [k1d,go1,Int.reduceEq,z0f,Int.reduceEq,q1,q2,q3,x1l]
 all_goals (try rfl)
 simp only [x1c h1,x1c h2,x1c h3,x1c h4,x1c h5,x1c h6,go1,Bool.or_self]
 rfl
theorem w5y (s:ByteArray)(hs:s.size≤100000):cF 212 [.d (.str s)]=some (.val [.bool (y5f s)]):=by
 have h:=y9n s hs
 refine cOf (by kernel_rfl) rfl ?_
 rw[w2u]
 simp only [k0s,go1,h,x1l]
 unfold y5f
 cases y1l (tb s)<;>cases h1:decide (tb s=tb x5w)<;>cases h2:decide (tb s=tb x2r)<;>(unfold x5w at h1;unfold x2r at h2;simp only [go1,h1,h2];try rfl)
theorem v6o (k n:Int)(s:ByteArray)(o:Int)(a:List ByteArray)(u:LL)(ha: ∀x∈a,x.size≤100000)(hl:a.length≤1000000):cF 184 [kE k n s o (x0e a) u]=some (.val [.bool (z8u k a)]):=by
 have hO:=y9m a hl
 refine cOf (by kernel_rfl) rfl ?_
 rw[w3e]
 simp only [k1c,go1]
 refine x1u y5f a (fun i:Nat=>[.int .i64 (i:Int), .int .i64 k, .int .i64 n, .str s, .int .i64 o, .sl 1 (x0e a), .sl 6 u]) rfl (r0:= .val [.bool false]) (r1:= .val [.bool (z8u k a)]) (fun i e hx=> ?_) (fun hall=> ?_) (by unfold z8u;cases a.all y5f<;>rfl)
 ·have hlt:=(a0a.1 hx).1
  have h:=w5y e (ha e (a0n hx))
  simp only [go1,Nat.reduceAdd,oE,x0f,x0n hlt,x0p hlt,x1v hx,h]
  cases y5f e with
  |true=>simp only [go1,x0c hlt (by omega)];rfl
  |false=>rfl
 ·simp only [go1,Nat.reduceAdd,oE,x0f,x0h,hO,z8u,hall]
  have e1:decide ((a.length:Int)=1)=decide (a.length=1):=by rw[a1b];simp;try omega
  have e2:decide ((a.length:Int)=0)=decide (a.length=0):=by rw[a1b];simp;try omega
  have e3:decide ((1:Int)≤(a.length:Int))=decide (1≤a.length):=by rw[a1b];simp;try omega
  have e4:decide ((a.length:Int)≤6)=decide (a.length≤6):=by rw[a1b];simp;try omega
  rw[e1,e2,e3,e4]
  by_cases h1:k=11
  ·simp only [x1m h1,go1]
  ·by_cases h2:k=12
   ·simp only [x1c h1,x1m h2,go1]
    cases decide (1≤a.length)<;>cases decide (a.length≤6)<;>rfl
   ·simp only [x1c h1,x1c h2,go1]
theorem v6m (k n:Int)(s:ByteArray)(o:Int)(a:List ByteArray)(u:LL)(hn:k=13→n=0∨n=1):cF 185 [kE k n s o (x0e a) u]=some (.val [.int .i64 (loB k n a.length), .int .i64 (hiB k n a.length)]):=by
 have h5:=x0f a
 have key:(k=5∨k=10∨k=11∨k=6∨k=8∨k=9∨k=15∨k=7∨k=16∨k=12∨k=14)∨k=13∨(k≠5∧k≠10∧k≠11∧k≠6∧k≠8∧k≠9∧k≠15∧k≠7∧k≠16∧k≠12∧k≠14∧k≠13):=by omega
 rcases key with h|h|⟨h1,h2,h3,h4,h5,h6,h7,h8,h9,h10,h11,h12⟩
 ·rcases h with rfl|rfl|rfl|rfl|rfl|rfl|rfl|rfl|rfl|rfl|rfl
  all_goals refine cOf (by kernel_rfl) rfl ?_
  all_goals rw[z3p]
  all_goals simp only [q3d,go1,Int.reduceEq,loB,hiB,Int.reduceEq,h5,or_self,or_true,true_or,if_true,if_false]
 ·subst h
  rcases hn rfl with rfl|rfl
  ·refine cOf (by kernel_rfl) rfl ?_
   rw[z3p]
   simp only [q3d,go1,Int.reduceEq,Int.reduceAdd,loB,hiB]
   try rfl
  ·refine cOf (by kernel_rfl) rfl ?_
   rw[z3p]
   simp only [q3d,go1,Int.reduceEq,Int.reduceAdd,loB,hiB]
   try rfl
 ·refine cOf (by kernel_rfl) rfl ?_
  rw[z3p]
  simp only [q3d,go1,x1c h1,x1c h2,x1c h3,x1c h4,x1c h5,x1c h6,x1c h7,x1c h8,x1c h9,x1c h10,x1c h11,x1c h12]
  simp only [loB,hiB,h1,h2,h3,h4,h5,h6,h7,h8,h9,h10,h11,h12,or_self,if_false]
theorem v6n (k n:Int)(s:ByteArray)(o:Int)(a:List ByteArray)(u:List Ex)(hs:s.size≤100000)(ha: ∀x∈a,x.size≤100000)(hl:a.length≤1000000)(hu:Ex.sizes u≤1000000):
  cF 154 [kE k n s o (x0e a) (Ex.rows u)]=some (.val [.bool (y3v (.mk k n s o a u))]):=by
 have h1:=u1d k n s o (x0e a) (Ex.rows u)
 have h2:=v2c k n s o (x0e a) (Ex.rows u) hs
 have h3:=v6o k n s o a (Ex.rows u) ha hl
 have h4:=x0x u
 simp only [y3v]
 refine cOf (by kernel_rfl) rfl ?_
 rw[w3p]
 simp only [k1n,go1,Int.reduceLE,h1,h2,h3,h4]
 have hkk:(decide (k < 1) || decide (17 < k))= !y7w k:=by
  unfold y7w;rw[nlt,nlt];cases decide (1≤k)<;>cases decide (k≤17)<;>rfl
 cases hk:y7w k with
 |false=>
  rw[hk]at hkk
  cases g1:decide (k < 1)with
  |true=>simp only [go1];try rfl
  |false=>
   rw[g1]at hkk
   have g2:decide (17 < k)=true:=by simpa using hkk
   simp only [go1,g2];try rfl
 |true=>
  rw[hk]at hkk
  have g1:decide (k < 1)=false:=by cases g:decide (k < 1)with
   |true=>rw[g]at hkk;cases hkk
   |false=>rfl
  have g2:decide (17 < k)=false:=by rw[g1]at hkk;simpa using hkk
  simp only [go1,g1,g2]
  cases hN:v3h k n with
  |false=>cases v3g k o<;>(simp only [go1];try rfl)
  |true=>
   cases v3g k o with
   |false=>cases z0f k s<;>(simp only [go1];try rfl)
   |true=>
    cases z0f k s with
    |false=>simp only [go1,Bool.and_self];try rfl
    |true=>
     cases z8u k a with
     |false=>simp only [go1,Bool.and_self];try rfl
     |true=>
      have h5:=v6m k n s o a (Ex.rows u) (fun h=>by
       subst h
       simp [v3h]at hN
       exact hN)
      simp only [go1,Bool.and_self,h5]
      cases hlo:decide (loB k n a.length≤(u.length:Int))with
      |false=>simp only [go1];try rfl
      |true=>
       cases decide ((u.length:Int)≤hiB k n a.length)with
       |false=>simp only [go1];try rfl
       |true=>
        simp only [go1]
        by_cases h8:k=8
        ·subst h8
         match u,hlo,hu with
         | [],hlo,_=>cases hlo
         | .mk k2 n2 s2 o2 a2 u2::u,hlo,hu=>
           have hc:=v2d k2 n2 s2 o2 a2 u2 (by simp only [Ex.sizes,Ex.size]at hu;omega)
           have hr:sy.row (Ex.rows (.mk k2 n2 s2 o2 a2 u2::u)) 0= [.int .i64 k2, .int .i64 n2, .str s2, .int .i64 o2, .sl 1 (x0e a2), .sl 6 (Ex.rows u2)]:=x8y (l:= .mk k2 n2 s2 o2 a2 u2::u) (i:=0) rfl
           have hz:decide ((0:Int) < ((Ex.mk k2 n2 s2 o2 a2 u2::u).length:Int))=true:=a1d (by simp only [a0f];omega)
           have hz2:decide ((0:Int)≤0∧(0:Int) < ((Ex.mk k2 n2 s2 o2 a2 u2::u).length:Int))=true:=a1d ⟨by omega,by simp only [a0f];omega⟩
           simp only [go1,hz,hr,oE,hc,q3p]
        ·simp only [go1,x1c h8,q3p]
end Go.Vm
end

section
set_option maxRecDepth 100000
set_option maxHeartbeats 4000000
namespace Go.Vm
open Go.Proofs
noncomputable abbrev kW1 (k n:Int) (s:ByteArray) (o:Int) (a u:LL) (m:Int):List V:=[.d (.int .i64 0), .d (.int .i64 2),kE k n s o a u, .yld 0 (u5d 175), .agg [.any, .any, .any, .ptr 1 0, .any, .any, .any, .any, .any, .any], .fn 3 [.d (.int .i64 m)]]
theorem q8d (k n:Int)(s:ByteArray)(o:Int)(a u:LL)(m:Int):y1z (kW1 k n s o a u m)=some (0,[kE k n s o a u, .yld 0 (u5d 175)],[.cells (.rcd .ready) [.any, .any, .any, .ptr 1 0, .any, .any, .any, .any, .any, .any], .cells (.ty 3) [.d (.int .i64 m)]]):=rfl
noncomputable abbrev kW2 (k n:Int) (s:ByteArray) (o:Int) (a u:LL) (b:Bool):List V:=[.d (.int .i64 0), .d (.int .i64 2),kE k n s o a u, .yld 0 (u5d 143), .agg [.any, .any, .ptr 1 0, .any, .any, .any, .any, .any, .any, .any, .any, .any, .any, .any, .any, .any, .any, .any], .fn 4 [.d (.bool b)]]
theorem q8c (k n:Int)(s:ByteArray)(o:Int)(a u:LL)(b:Bool):y1z (kW2 k n s o a u b)=some (0,[kE k n s o a u, .yld 0 (u5d 143)],[.cells (.rcd .ready) [.any, .any, .ptr 1 0, .any, .any, .any, .any, .any, .any, .any, .any, .any, .any, .any, .any, .any, .any, .any], .cells (.ty 4) [.d (.bool b)]]):=rfl
theorem v1v: ∀(m:Nat) (k n:Int) (s:ByteArray) (o:Int) (a:List ByteArray) (u:List Ex) (c:Nat),(Ex.mk k n s o a u).size≤m→m≤1000000→c+m≤2000000→
  cF 1000206 (kW1 k n s o (x0e a) (Ex.rows u) (c:Int))=some (.val [.bool false, .bool true, .int .i64 ((c+(Ex.mk k n s o a u).size:Nat):Int)])
 |0,k,n,s,o,a,u,c,h,_,_=>by simp only [Ex.size]at h;omega
 |m+1,k,n,s,o,a,u,c,h,hm,hc=>by
  have hz:Ex.sizes u≤m:=by simp only [Ex.size]at h;omega
  have hl:=x2p u
  refine x4c (f:=206) (by kernel_rfl) (q8d k n s o (x0e a) (Ex.rows u) (c:Int)) (by kernel_rfl) rfl ?_
  rw[u1j]
  simp only [u4m,go1,x0x,x0c (i:=c) (n:=c+1) (by omega) (by omega)]
  refine x0m (fun i:Nat=>[.sl 6 (Ex.rows u), .int .i64 (u.length:Int), .int .i64 (i:Int), .int .i64 ((c+1+Ex.sizes (u.take i):Nat):Int)]) (fun i=>i≤u.length∧Ex.sizes (u.take i)≤m) (fun i=>u.length - i) (fun i hi=> ?_) 0 ⟨a0r _,a0r _⟩
  by_cases hlt:i < u.length
  ·left
   have hx:=a0b hlt
   have hd:Ex.sizes (u.take (i+1))=Ex.sizes (u.take i)+u[i].size:=by rw[a1f,hx];exact z0z _ _
   have hle:Ex.sizes (u.take (i+1))≤m:=by
    have:=x5s (u.take (i+1)) (u.drop (i+1));rw[a2c]at this;omega
   refine⟨i+1,?_,⟨hlt,hle⟩,by omega⟩
   rw[hd]at hle ⊢
   generalize u[i]=e at hx hle ⊢
   have he:=x4o hx
   obtain⟨k2,n2,s2,o2,a2,u2⟩:=e
   have h2:=v1v (Ex.mk k2 n2 s2 o2 a2 u2).size k2 n2 s2 o2 a2 u2 (c+1+Ex.sizes (u.take i)) (a0m _) (by omega) (by omega)
   simp only [go1,x0x,x0n hlt,x0p hlt,x8y hx,oE,h2,x0c hlt (by omega)]
   rw[a2l (c+1)]
   rfl
  ·right
   have:i=u.length:=by omega
   subst this
   simp only [go1,x0h,a0x,Ex.size]
   rw[show c+1+Ex.sizes u=c+(Ex.sizes u+1) by omega]
 termination_by m=>m
 decreasing_by omega
mutual
def Ex.fine:Ex→Prop
 | .mk _ _ s _ a u=>(s.size≤100000∧(∀x∈a,x.size≤100000)∧a.length≤1000000)∧Ex.fines u
def Ex.fines:List Ex→Prop
 | []=>True
 |e::l=>e.fine∧Ex.fines l
end
mutual
theorem y6j: ∀e:Ex,e.okS→e.size≤1000000→e.fine
 | .mk k n s o a u,h,h2=>by
   have hl:=x2p u
   have h3:Ex.sizes u+1≤1000000:=h2
   obtain⟨q1,⟨q2,q3⟩,q4⟩:=h
   exact⟨⟨q1,q2,by omega⟩,z5z u q4 (by omega)⟩
theorem z5z: ∀u:List Ex,Ex.okSs u→Ex.sizes u≤1000000→Ex.fines u
 | [],_,_=>trivial
 |e::l,h,h2=>by
  have h3:e.size+Ex.sizes l≤1000000:=h2
  exact⟨y6j e h.1 (by omega),z5z l h.2 (by omega)⟩
end
theorem z3s {e:Ex}: ∀ {l:List Ex} {i:Nat},l[i]? =some e→Ex.fines l→e.fine
 |x::l,0,h,h2=>by simp at h;subst h;exact h2.1
 |x::l,i+1,h,h2=>z3s (l:=l) (i:=i) (by simpa using h) h2.2
def q4v (b:Bool):Bool→PRes
 |true=> .val [.bool false, .bool true, .bool b]
 |false=> .val [.bool true, .bool false, .bool false]
theorem v1u: ∀(m:Nat) (k n:Int) (s:ByteArray) (o:Int) (a:List ByteArray) (u:List Ex) (b:Bool),(Ex.mk k n s o a u).size≤m→m≤1000000→(Ex.mk k n s o a u).fine→
  cF 1000206 (kW2 k n s o (x0e a) (Ex.rows u) b)=some (q4v b (y9u (.mk k n s o a u)))
 |0,k,n,s,o,a,u,b,h,_,_=>by simp only [Ex.size]at h;omega
 |m+1,k,n,s,o,a,u,b,h,hm,hf=>by
  have hz:Ex.sizes u≤m:=by simp only [Ex.size]at h;omega
  have hl:=x2p u
  obtain⟨⟨f1,f2,f3⟩,f4⟩:=hf
  have h1:=w6k k n s o a u f1 f3 (by omega)
  refine x4c (f:=206) (by kernel_rfl) (q8c k n s o (x0e a) (Ex.rows u) b) (by kernel_rfl) rfl ?_
  rw[u1k]
  simp only [u4n,go1,h1,y9u]
  cases y3v (.mk k n s o a u)with
  |false=>rfl
  |true=>
   simp only [go1,x0x]
   refine x0m (fun i:Nat=>[.sl 6 (Ex.rows u), .int .i64 (u.length:Int), .int .i64 (i:Int), .bool b]) (fun i=>i≤u.length∧z8w u=z8w (u.drop i)) (fun i=>u.length - i) (fun i hi=> ?_) 0 ⟨a0r _,rfl⟩
   by_cases hlt:i < u.length
   ·have hx:=a0b hlt
    have hd:=List.drop_eq_getElem_cons hlt
    have hi2:=hi.2
    rw[hd]at hi2
    generalize u[i]=e at hx hi2
    have he:=x4o hx
    have hfe:=z3s hx f4
    obtain⟨k2,n2,s2,o2,a2,u2⟩:=e
    have h2:=v1u (Ex.mk k2 n2 s2 o2 a2 u2).size k2 n2 s2 o2 a2 u2 b (a0m _) (by omega) hfe
    rw[hi2]
    simp only [z8w]
    cases hb:y9u (.mk k2 n2 s2 o2 a2 u2)with
    |false=>
     right
     rw[hb]at h2
     simp only [q4v]at h2
     simp only [go1,x0x,x0n hlt,x0p hlt,x8y hx,oE,h2,q4v]
    |true=>
     left
     rw[hb]at h2
     simp only [q4v]at h2
     refine⟨i+1,?_,⟨hlt,by simp only [a1y]⟩,by omega⟩
     simp only [go1,x0x,x0n hlt,x0p hlt,x8y hx,oE,h2,x0c hlt (by omega)]
     rfl
   ·right
    have:i=u.length:=by omega
    subst this
    rw[hi.2,List.drop_length]
    simp only [go1,x0h,z8w,q4v]
 termination_by m=>m
 decreasing_by omega
theorem v2j (k n:Int)(s:ByteArray)(o:Int)(a:List ByteArray)(u:List Ex)(h:(Ex.mk k n s o a u).size≤1000000):cF 175 [kE k n s o (x0e a) (Ex.rows u)]=some (.val [.int .i64 ((Ex.mk k n s o a u).size:Int)]):=by
 have h1:=v1v 1000000 k n s o a u 0 h (a0m _) (by omega)
 rw[a1z]at h1
 have h1:cF 1000206 (kW1 k n s o (x0e a) (Ex.rows u) 0)=_:=h1
 refine cOf (by kernel_rfl) rfl ?_
 rw[w3k]
 simp only [k1i,go1,h1]
def x3i (e:Ex):Bool:=decide (e.size≤60)&&decide (e.depth≤12)
theorem u4f (k n:Int)(s:ByteArray)(o:Int)(a:List ByteArray)(u:List Ex)(h:(Ex.mk k n s o a u).size≤1000000)(hf:(Ex.mk k n s o a u).fine):cF 143 [kE k n s o (x0e a) (Ex.rows u)]=some (.val [.bool (x3i (.mk k n s o a u)&&y9u (.mk k n s o a u))]):=by
 have h1:=v2j k n s o a u h
 have h2:=z4f 1000000 k n s o a u h (a0m _)
 have h3:=v1u 1000000 k n s o a u false h (a0m _) hf
 have e1:decide ((60:Int) < ((Ex.mk k n s o a u).size:Int))= !decide ((Ex.mk k n s o a u).size≤60):=by rw[a1b];simp;try omega
 have e2:decide ((12:Int) < ((Ex.mk k n s o a u).depth:Int))= !decide ((Ex.mk k n s o a u).depth≤12):=by rw[a1b];simp;try omega
 refine cOf (by kernel_rfl) rfl ?_
 rw[w3v]
 simp only [k1t,go1,h1,h2,h3,e1,e2]
 unfold x3i
 cases decide ((Ex.mk k n s o a u).size≤60)<;>cases decide ((Ex.mk k n s o a u).depth≤12)<;>cases y9u (.mk k n s o a u)<;>rfl
end Go.Vm
end

section
set_option maxRecDepth 100000
set_option maxHeartbeats 4000000
namespace Go.Vm
open Go.Proofs
mutual
def Ex.parts:Ex→List Ex
 | .mk k n s o a u=> .mk k n s o a u::Ex.partsL u
def Ex.partsL:List Ex→List Ex
 | []=>[]
 |e::l=>e.parts++Ex.partsL l
end
mutual
theorem y7n: ∀e:Ex,e.parts.length=e.size
 | .mk k n s o a u=>by simp only [Ex.parts,Ex.size,a0f,y3u u]
theorem y3u: ∀u:List Ex,(Ex.partsL u).length=Ex.sizes u
 | []=>rfl
 |e::l=>by simp only [Ex.partsL,Ex.sizes,a0j,y7n e,y3u l]
end
mutual
theorem z5t: ∀e:Ex,e.parts.all y3v=y9u e
 | .mk k n s o a u=>by simp only [Ex.parts,y9u,a1s,z1i u]
theorem z1i: ∀u:List Ex,(Ex.partsL u).all y3v=z8w u
 | []=>rfl
 |e::l=>by simp only [Ex.partsL,z8w,List.all_append,z5t e,z1i l]
end
mutual
theorem z1g: ∀e:Ex,e.fine→ ∀x∈e.parts,x.fine∧x.size≤e.size
 | .mk k n s o a u,h,x,hx=>by
   simp only [Ex.parts]at hx
   rcases a1t.1 hx with rfl|hx
   ·exact⟨h,a0m _⟩
   ·have:=y7o u h.2 x hx
    exact⟨this.1,by simp only [Ex.size];omega⟩
theorem y7o: ∀u:List Ex,Ex.fines u→ ∀x∈Ex.partsL u,x.fine∧x.size≤Ex.sizes u
 | [],_,x,hx=>by cases hx
 |e::l,h,x,hx=>by
  simp only [Ex.partsL]at hx
  rcases a1h.1 hx with hx|hx
  ·have:=z1g e h.1 x hx
   exact⟨this.1,by simp only [Ex.sizes];omega⟩
  ·have:=y7o l h.2 x hx
   exact⟨this.1,by simp only [Ex.sizes];omega⟩
end
theorem z1h: ∀a b:List Ex,Ex.partsL (a++b)=Ex.partsL a++Ex.partsL b
 | [],b=>rfl
 |e::a,b=>by simp only [a0e,Ex.partsL,z1h a b,List.append_assoc]
theorem u2e: ∀a b:List Ex,Ex.rows (a++b)=Ex.rows a++Ex.rows b
 | [],b=>rfl
 |e::a,b=>by simp only [a0e,Ex.rows,u2e a b]
theorem z8m: ∀(m:Nat) (k n:Int) (s:ByteArray) (o:Int) (a:List ByteArray) (u:List Ex),(Ex.mk k n s o a u).size≤m→m≤1000000→
  cF 114 [kE k n s o (x0e a) (Ex.rows u)]=some (.own 81 6 (Ex.rows (Ex.mk k n s o a u).parts))
 |0,k,n,s,o,a,u,h,_=>by simp only [Ex.size]at h;omega
 |m+1,k,n,s,o,a,u,h,hm=>by
  have hz:Ex.sizes u≤m:=by simp only [Ex.size]at h;omega
  have hl:=x2p u
  refine cOf (by kernel_rfl) rfl ?_
  rw[w4k]
  simp only [k2i,go1,Nat.reduceAdd]
  refine x0m (fun i:Nat=>[.int .i64 (i:Int), .int .i64 k, .int .i64 n, .str s, .int .i64 o, .sl 1 (x0e a), .sl 6 (Ex.rows u), .sl 6 (Ex.rows (.mk k n s o a u::Ex.partsL (u.take i)))]) (fun i=>i≤u.length) (fun i=>u.length - i) (fun i hi=> ?_) 0 (a0r _)
  by_cases hlt:i < u.length
  ·left
   refine⟨i+1,?_,hlt,by omega⟩
   have hx:=a0b hlt
   have hd:Ex.partsL (u.take (i+1))=Ex.partsL (u.take i)++u[i].parts:=by rw[a1f,hx,z1h];simp [Ex.partsL]
   have hsz:Ex.sizes (u.take i)≤Ex.sizes u:=by
    have:=x5s (u.take i) (u.drop i);rw[a2c]at this;omega
   rw[hd]
   generalize u[i]=e at hx
   have he:=x4o hx
   obtain⟨k2,n2,s2,o2,a2,u2⟩:=e
   have h2:=z8m (Ex.mk k2 n2 s2 o2 a2 u2).size k2 n2 s2 o2 a2 u2 (a0m _) (by omega)
   have hf:decide (((Ex.rows (.mk k n s o a u::Ex.partsL (u.take i))).length+(Ex.rows (Ex.mk k2 n2 s2 o2 a2 u2).parts).length)*(88+1)≤140737488355328)=true:=by
    refine a1d ?_
    rw[x0x,x0x,a0f,y3u,y7n]
    omega
   simp only [go1,Nat.reduceAdd,x0x,x0n hlt,x0p hlt,x8y hx,oE,h2,x0c hlt (by omega)]
   simp only [x0x]at hf
   simp only [hf,go1,u2e,←a0e]
   rfl
  ·right
   have:i=u.length:=by omega
   subst this
   simp only [go1,Nat.reduceAdd,oE,x0x,x0h,a0x,Ex.parts]
 termination_by m=>m
 decreasing_by omega
theorem z8l (k n:Int)(s:ByteArray)(o:Int)(a:List ByteArray)(u:List Ex)(h:(Ex.mk k n s o a u).size≤1000000)(hf:(Ex.mk k n s o a u).fine):cF 118 [kE k n s o (x0e a) (Ex.rows u)]=some (.val [.bool (x3i (.mk k n s o a u)&&y9u (.mk k n s o a u))]):=by
 have h1:=u1f 1000000 k n s o a u h (a0m _)
 have h2:=z4d 1000000 k n s o a u h (a0m _)
 have h3:=z8m 1000000 k n s o a u h (a0m _)
 have e1:decide ((60:Int) < ((Ex.mk k n s o a u).size:Int))= !decide ((Ex.mk k n s o a u).size≤60):=by rw[a1b];simp;try omega
 have e2:decide ((12:Int) < ((Ex.mk k n s o a u).depth:Int))= !decide ((Ex.mk k n s o a u).depth≤12):=by rw[a1b];simp;try omega
 refine cOf (by kernel_rfl) rfl ?_
 rw[w4h]
 simp only [k2f,go1,h1,h2,h3,e1,e2]
 rw[←z5t]
 have hlen:=y7n (.mk k n s o a u)
 have hpf:=z1g _ hf
 generalize (Ex.mk k n s o a u).parts=ps at*
 have hloop: ∀b:List D→Option (List D ⊕ PRes),(∀(i:Nat) e,ps[i]? =some e→b [.sl 6 (Ex.rows ps), .int .i64 (i:Int)]=bif y3v e then some (.inl [.sl 6 (Ex.rows ps), .int .i64 ((i+1:Nat):Int)])else some (.inr (.val [.bool false])))→b [.sl 6 (Ex.rows ps), .int .i64 (ps.length:Int)]=some (.inr (.val [.bool true]))→
     x7h b [.sl 6 (Ex.rows ps), .int .i64 0]=some (.val [.bool (ps.all y3v)]):=fun b h1 h2=>
  x1u y3v ps (fun i:Nat=>[.sl 6 (Ex.rows ps), .int .i64 (i:Int)]) rfl (r0:= .val [.bool false]) (r1:= .val [.bool true]) h1 (fun _=>h2) (by cases ps.all y3v<;>rfl)
 unfold x3i
 cases decide ((Ex.mk k n s o a u).size≤60)with
 |false=>rfl
 |true=>
  cases decide ((Ex.mk k n s o a u).depth≤12)with
  |false=>rfl
  |true=>
   simp only [go1,Bool.and_self]
   refine hloop _ (fun i e hx=> ?_) ?_
   ·have hlt:=(a0a.1 hx).1
    have hm:=hpf e (a0n hx)
    obtain⟨k2,n2,s2,o2,a2,u2⟩:=e
    obtain⟨⟨⟨f1,f2,f3⟩,f4⟩,f5⟩:=hm
    have hc:=v6n k2 n2 s2 o2 a2 u2 f1 f2 f3 (by simp only [Ex.size]at f5 h;omega)
    simp only [go1,x0x,x0n hlt,x0p hlt,x8y hx,oE,hc]
    cases y3v (.mk k2 n2 s2 o2 a2 u2)with
    |true=>simp only [go1,x0c hlt (by omega)];rfl
    |false=>rfl
   ·simp only [go1,x0x,x0h]
theorem z4c (a:List ByteArray)(ha:a.length≤1000000):cF 63 [.d (.sl 1 (x0e a)), .d (.sl 1 (x0e a))]=some (.val [.bool true]):=by
 refine cOf (by kernel_rfl) rfl ?_
 rw[q2o]
 simp only [g63,go1,x0f]
 refine x0m (fun i:Nat=>[.sl 1 (x0e a), .sl 1 (x0e a), .int .i64 (i:Int)]) (fun i=>i≤a.length) (fun i=>a.length - i) (fun i hi=> ?_) 0 (a0r _)
 by_cases hlt:i < a.length
 ·left
  refine⟨i+1,?_,hlt,by omega⟩
  have hx:=a0b hlt
  simp only [go1,x0f,x0n hlt,x0p hlt,x1v hx,x1l,x0c hlt (by omega)]
  rfl
 ·right
  have:i=a.length:=by omega
  subst this
  simp only [go1,x0f,x0h]
theorem u4d: ∀(m:Nat) (k n:Int) (s:ByteArray) (o:Int) (a:List ByteArray) (u:List Ex),(Ex.mk k n s o a u).size≤m→m≤1000000→(Ex.mk k n s o a u).fine→
  cF 65 [kE k n s o (x0e a) (Ex.rows u),kE k n s o (x0e a) (Ex.rows u)]=some (.val [.bool true])
 |0,k,n,s,o,a,u,h,_,_=>by simp only [Ex.size]at h;omega
 |m+1,k,n,s,o,a,u,h,hm,hf=>by
  have hz:Ex.sizes u≤m:=by simp only [Ex.size]at h;omega
  have hl:=x2p u
  obtain⟨⟨f1,f2,f3⟩,f4⟩:=hf
  have h1:=z4c a f3
  refine cOf (by kernel_rfl) rfl ?_
  rw[q2m]
  simp only [g65,go1,x0x,x1l,h1]
  refine x0m (fun i:Nat=>[.int .i64 (i:Int), .int .i64 k, .int .i64 n, .str s, .int .i64 o, .sl 1 (x0e a), .sl 6 (Ex.rows u), .int .i64 k, .int .i64 n, .str s, .int .i64 o, .sl 1 (x0e a), .sl 6 (Ex.rows u)]) (fun i=>i≤u.length) (fun i=>u.length - i) (fun i hi=> ?_) 0 (a0r _)
  by_cases hlt:i < u.length
  ·left
   refine⟨i+1,?_,hlt,by omega⟩
   have hx:=a0b hlt
   generalize u[i]=e at hx
   have he:=x4o hx
   have hfe:=z3s hx f4
   obtain⟨k2,n2,s2,o2,a2,u2⟩:=e
   have h2:=u4d (Ex.mk k2 n2 s2 o2 a2 u2).size k2 n2 s2 o2 a2 u2 (a0m _) (by omega) hfe
   simp only [go1,Nat.reduceAdd,x0x,x0n hlt,x0p hlt,x8y hx,oE,h2,x0c hlt (by omega)]
   rfl
  ·right
   have:i=u.length:=by omega
   subst this
   simp only [go1,Nat.reduceAdd,oE,x0x,x0h]
 termination_by m=>m
 decreasing_by omega
end Go.Vm
end

section
set_option maxRecDepth 100000
set_option maxHeartbeats 4000000
namespace Go.Vm
open Go.Proofs
end Go.Vm
end

section
set_option maxRecDepth 100000
set_option maxHeartbeats 4000000
namespace Go.Vm
open Go.Proofs
theorem x9z {p:Nat→Bool}{c:Nat}{r:List Nat}(h:p c=true):x1e p (c::r)=1+x1e p r:=by
 unfold x1e;rw[List.takeWhile_cons,if_pos h,a0f];omega
theorem y0a {p:Nat→Bool}{c:Nat}{r:List Nat}(h:p c=false):x1e p (c::r)=0:=by
 unfold x1e;rw[List.takeWhile_cons,h];rfl
end Go.Vm
end

section
set_option maxRecDepth 100000
set_option maxHeartbeats 4000000
namespace Go.Vm
open Go.Proofs
theorem v0h {c:Nat}(r:List Nat)(hc:x2g c=true):x5p (c::r)=1+x5p r:=by
 have h1:=x5p.eq_def (c::r)
 have h2:=x5p.eq_def r
 have hs:x1e x2g (c::r)=1+x1e x2g r:=x9z hc
 rw[hs]at h1
 have hd:(c::r).drop (1+x1e x2g r)=r.drop (x1e x2g r):=by rw[Nat.add_comm,List.drop_succ_cons]
 have hd2: ∀k,(c::r).drop (1+x1e x2g r+k)=r.drop (x1e x2g r+k):=fun k=>by
  rw[show 1+x1e x2g r+k=(x1e x2g r+k)+1 by omega,List.drop_succ_cons]
 rw[hd,hd2]at h1
 rw[h1,h2]
 split<;>omega
theorem q0a {p:Nat→Bool}{l:List Nat}(h:p (l.getD 0 0)=false):x1e p l=0:=by
 match l,h with
 | [],_=>rfl
 |c::r,h=>exact y0a h
theorem v5k {l:List Nat}(hc:x2g (l.getD 0 0)=false)(hr:z3i z5l l=false):x5p l=0:=by
 have h1:=x5p.eq_def l
 rw[q0a hc,a2g,hr]at h1
 simpa using h1
theorem w2i {l:List Nat}(hr:z3i z5l l=true):x5p l=x1e x3l l+x5p (l.drop (x1e x3l l)):=by
 have h1:=x5p.eq_def l
 have hc:x2g (l.getD 0 0)=false:=by
  have:=a0c hr
  match l,this with
  |a::b::r,h=>simp [z5l]at h;obtain⟨rfl,rfl⟩:=h;rfl
  | [a],h=>simp [z5l]at h
  | [],h=>simp [z5l]at h
 rw[q0a hc,a2g,hr]at h1
 simpa using h1
theorem w0k (l:List Nat):z3i z5l l=(decide (l.getD 0 0=45)&&(decide (1 < l.length)&&decide (l.getD 1 0=45))):=by
 match l with
 | []=>rfl
 | [a]=>simp [z3i,z5l]
 |a::b::r=>simp [z3i,z5l]
def y0u:Nat→List Nat→Nat
 |n,[]=>n
 |n,c::r=>y0u (n*10+(c - 48)) r
theorem z9i: ∀(l:List Nat) (n:Nat),n≤y0u n l
 | [],n=>a0m _
 |c::r,n=>by
  have:=z9i r (n*10+(c - 48))
  show n≤y0u (n*10+(c - 48)) r
  omega
theorem v8j: ∀(l:List UInt8) (acc:Nat),(l.map UInt8.toNat).all x0r=true→acc≤18446744073709551615→
  Lib.parseUintM 18446744073709551615 acc l=if y0u acc (l.map UInt8.toNat)≤18446744073709551615 then .ok (y0u acc (l.map UInt8.toNat))else .range
 | [],acc,_,h=>by
   rw[Lib.parseUintM,a2d]
   show _=if acc≤_ then _ else _
   rw[if_pos h];rfl
 |c::r,acc,hd,h=>by
  rw[a1r,a1s,a0p]at hd
  obtain⟨h1,h2⟩:=hd
  have hc:48≤c.toNat∧c.toNat≤57:=by
   unfold x0r at h1
   simpa using h1
  rw[Lib.parseUintM,if_pos hc,a1r]
  show _=if y0u (acc*10+(c.toNat - 48)) (r.map UInt8.toNat)≤_ then Lib.NumEnd.ok (y0u (acc*10+(c.toNat - 48)) (r.map UInt8.toNat))else _
  have hg:=z9i (r.map UInt8.toNat) (acc*10+(c.toNat - 48))
  by_cases h3:1844674407370955162≤acc
  ·rw[if_pos h3,if_neg (by omega)]
  ·rw[if_neg h3]
   by_cases h4:18446744073709551615 < acc*10+(c.toNat - 48)
   ·rw[if_pos h4,if_neg (by omega)]
   ·rw[if_neg h4]
    exact v8j r _ h2 (by omega)
theorem z5u (s:ByteArray)(hd:(tb s).all x0r=true)(hne:0 < (tb s).length):
  w9d s=decide (y0u 0 (tb s) < 9223372036854775808)∧(y0u 0 (tb s) < 9223372036854775808→u5h s=(y0u 0 (tb s):Int)):=by
 unfold w9d u5h
 unfold tb at hd hne ⊢
 generalize s.data.toList=l at hd hne ⊢
 match l,hne with
 |c::r,_=>
  have hp:=v8j (c::r) 0 hd (by omega)
  rw[a1r,a1s,a0p]at hd
  have hc:48≤c.toNat∧c.toNat≤57:=by
   have:=hd.1
   unfold x0r at this
   simpa using this
  have e1: ¬(c.toNat=43∨c.toNat=45):=by omega
  have e2: ¬c.toNat=45:=by omega
  generalize y0u 0 ((c::r).map UInt8.toNat)=v at hp ⊢
  have hp2:Lib.parseUintB 64 (c::r)=if v≤18446744073709551615 then .ok v else .range:=by
   unfold Lib.parseUintB
   rw[if_neg (by simp)]
   exact hp
  unfold Lib.parseIntB
  simp only [if_neg e1,hp2]
  by_cases hv:v≤18446744073709551615
  ·rw[if_pos hv]
   simp only [e2,not_false_eq_true,true_and,if_false,false_and]
   by_cases hv2:9223372036854775808≤v
   ·have:(2:Nat) ^ (64 - 1)≤v:=hv2
    simp only [this,if_true]
    exact⟨by rw[x1c (by omega)],fun h=>by omega⟩
   ·have: ¬(2:Nat) ^ (64 - 1)≤v:=hv2
    simp only [this,if_false]
    exact⟨by rw[x1m (by omega)],fun _=>trivial⟩
  ·rw[if_neg hv]
   exact⟨by rw[x1c (by omega)],fun h=>by omega⟩
end Go.Vm
end

section
set_option maxRecDepth 100000
set_option maxHeartbeats 4000000
namespace Go.Vm
open Go.Proofs
theorem x8d (l:List Nat)(n:Nat):(l.drop n).getD 0 0=l.getD n 0:=by
 rw[a0d,a1n,Nat.add_zero,a0d]
theorem u5z (l:List Nat)(n:Nat):(l.drop n).getD 1 0=l.getD (n+1) 0:=by
 rw[a0d,a1n,a0d]
theorem y9d {l:List Nat}{n:Nat}(h:n < l.length):l.drop n=l.getD n 0::l.drop (n+1):=by
 rw[List.drop_eq_getElem_cons h,a0d,a0b h];rfl
theorem w6i (s:ByteArray)(hs:s.size≤100000)(a:Nat)(ha:a≤(tb s).length):x7h (α:=List D ⊕ PRes) (fun ds14=>
  (opS (sy.cell ds14 0)).bind fun s15=>
   (opI (sy.cell ds14 1) IntKind.i64).bind fun n16=>
    x0q
     (bif decide (n16 < ((tb s15).length:Int))then
      bif decide (0≤n16∧n16 < ((tb s15).length:Int))then
       some (Sum.inl [D.bool !decide (((s15.data.getD n16.toNat 0).toNat:Int)=10)])
      else none
     else some (Sum.inl [D.bool false]))
     fun ds17=>
     (opB (sy.cell ds17 0)).bind fun b18=>
      bif b18 then some (Sum.inl [D.str s15,D.int IntKind.i64 (IntKind.i64.wrap (n16+1))])
      else some (Sum.inr (Sum.inl [D.str s15,D.int IntKind.i64 n16])))
  [D.str s,D.int IntKind.i64 (a:Int)]=some (.inl [D.str s,D.int IntKind.i64 ((a+x1e x3l ((tb s).drop a):Nat):Int)]):=by
 have hlen:(tb s).length≤100000:=by rw[x1k];exact hs
 refine x0m (fun n:Nat=>[.str s, .int .i64 (n:Int)]) (fun n=>n≤(tb s).length∧n+x1e x3l ((tb s).drop n)=a+x1e x3l ((tb s).drop a)) (fun n=>(tb s).length - n) (fun n hn=> ?_) a ⟨ha,rfl⟩
 obtain⟨hle,hg⟩:=hn
 by_cases hlt:n < (tb s).length
 ·have hq:((s.data.getD (n:Int).toNat 0).toNat:Int)=(((tb s).getD n 0:Nat):Int):=by rw[a0h,x3c]
  have hd:=y9d hlt
  simp only [go1]
  simp (disch:=omega) only [x0j,x1m,go1,hq]
  rw[x2c (show(((tb s).getD n 0:Nat):Int)=10↔(tb s).getD n 0=10 by omega)]
  cases h10:decide ((tb s).getD n 0=10)with
  |false=>
   left
   have:x3l ((tb s).getD n 0)=true:=by unfold x3l;rw[h10];rfl
   rw[hd,x9z this]at hg
   exact⟨n+1,by rw[a1u];rfl,⟨hlt,by omega⟩,by omega⟩
  |true=>
   right
   have:x3l ((tb s).getD n 0)=false:=by unfold x3l;rw[h10];rfl
   rw[hd,y0a this]at hg
   rw[←hg];rfl
 ·right
  have:n=(tb s).length:=by omega
  subst this
  rw[List.drop_length]at hg
  rw[←hg]
  simp only [go1]
  simp (disch:=omega) only [x0j,x1c,go1]
  rfl
theorem v2a (s:ByteArray)(hs:s.size≤100000)(a:Nat)(ha:a≤(tb s).length):cF 55 [.d (.str s), .d (.int .i64 (a:Int))]=some (.val [.int .i64 ((a+x5p ((tb s).drop a):Nat):Int)]):=by
 have hlen:(tb s).length≤100000:=by rw[x1k];exact hs
 refine cOf (by kernel_rfl) rfl ?_
 rw[q2q]
 simp only [g55,go1]
 refine x0m (fun n:Nat=>[.str s, .int .i64 (n:Int)]) (fun n=>n≤(tb s).length∧n+x5p ((tb s).drop n)=a+x5p ((tb s).drop a)) (fun n=>(tb s).length - n) (fun n hn=> ?_) a ⟨ha,rfl⟩
 obtain⟨hle,hg⟩:=hn
 by_cases hlt:n < (tb s).length
 ·have hq:((s.data.getD (n:Int).toNat 0).toNat:Int)=(((tb s).getD n 0:Nat):Int):=by rw[a0h,x3c]
  have hd:=y9d hlt
  simp only [go1]
  simp (disch:=omega) only [x0j,x1m,go1,x0u,hq]
  rw[x2c (show(((tb s).getD n 0:Nat):Int)=9↔(tb s).getD n 0=9 by omega),x2c (show(((tb s).getD n 0:Nat):Int)=10↔(tb s).getD n 0=10 by omega),x2c (show(((tb s).getD n 0:Nat):Int)=13↔(tb s).getD n 0=13 by omega),x2c (show(((tb s).getD n 0:Nat):Int)=32↔(tb s).getD n 0=32 by omega),x2c (show(((tb s).getD n 0:Nat):Int)=45↔(tb s).getD n 0=45 by omega)]
  have hb:(decide ((tb s).getD n 0=9) || decide ((tb s).getD n 0=10) || decide ((tb s).getD n 0=13) || decide ((tb s).getD n 0=32))=x2g ((tb s).getD n 0):=by
   unfold x2g
   cases decide ((tb s).getD n 0=9)<;>cases decide ((tb s).getD n 0=10)<;>cases decide ((tb s).getD n 0=13)<;>cases decide ((tb s).getD n 0=32)<;>rfl
  rw[hb]
  cases h0:x2g ((tb s).getD n 0)with
  |true=>
   left
   rw[hd,v0h _ h0]at hg
   exact⟨n+1,by rw[a1u];rfl,⟨hlt,by omega⟩,by omega⟩
  |false=>
   have hr:=w0k ((tb s).drop n)
   rw[x8d,u5z,a0z]at hr
   have stop:z3i z5l ((tb s).drop n)=false→n=a+x5p ((tb s).drop a):=fun h=>by
    rw[v5k (by rw[x8d];exact h0) h]at hg
    omega
   cases h45:decide ((tb s).getD n 0=45)with
   |false=>
    right
    rw[←stop (by rw[hr,h45];rfl)]
    rfl
   |true=>
    by_cases h1:n+1 < (tb s).length
    ·have hq1:((s.data.getD ((n:Int)+1).toNat 0).toNat:Int)=(((tb s).getD (n+1) 0:Nat):Int):=by
      have:((n:Int)+1).toNat=n+1:=by omega
      rw[this,x3c]
     rw[h45,x1m (p:=1 < (tb s).length - n) (by omega)]at hr
     simp (disch:=omega) only [x0j,x1m,x1c,go1,hq1]
     rw[x2c (show(((tb s).getD (n+1) 0:Nat):Int)=45↔(tb s).getD (n+1) 0=45 by omega)]
     cases h46:decide ((tb s).getD (n+1) 0=45)with
     |false=>
      right
      rw[←stop (by rw[hr,h46];rfl)]
      rfl
     |true=>
      left
      have hrt:z3i z5l ((tb s).drop n)=true:=by rw[hr,h46];rfl
      have h2:=y6f hrt
      have hk:=x2o x3l ((tb s).drop n)
      rw[a0z]at hk
      rw[w2i hrt,List.drop_drop]at hg
      refine⟨n+x1e x3l ((tb s).drop n),?_,⟨by omega,by omega⟩,by omega⟩
      simp only [go1]
      rw[w6i s hs n hle]
    ·right
     rw[←stop (by rw[hr,h45,x1c (p:=1 < (tb s).length - n) (by omega)];rfl)]
     simp (disch:=omega) only [x0j,x1m,x1c,go1]
     try rfl
 ·right
  have:n=(tb s).length:=by omega
  subst this
  have e0:x5p []=0:=by
   have:=z3n _ [] (a0m _)
   simpa using this
  rw[List.drop_length,e0]at hg
  rw[←hg]
  simp only [go1]
  simp (disch:=omega) only [x0j,x1m,x1c,go1,x0u]
  rfl
end Go.Vm
end
