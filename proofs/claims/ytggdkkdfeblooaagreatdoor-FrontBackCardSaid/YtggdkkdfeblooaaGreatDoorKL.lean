/- Part KL of the proof. What is proved by the whole: the statement that the claim names, with no condition. -/
import Derived.Test.YtggdkkdfeblooaaGreatDoorKK
set_option linter.all false
section
set_option maxRecDepth 100000
set_option maxHeartbeats 4000000
namespace Go.Vm
open Go.Proofs
def v6n (u:List Ex)(i:Nat):(Ex.rows u).take i=Ex.rows (u.take i):=by
 induction u generalizing i with
 |nil=>simp[Ex.rows]
 |cons e u ih=>
  cases i with
  |zero=>rfl
  |succ i=>simp only[Ex.rows,List.take_succ_cons,ih]
def cut0 (u:List Ex)(i:Nat):sy.cut (Ex.rows u) 0 (i:Int)=Ex.rows (u.take i):=by
 show((Ex.rows u).take (i:Int).toNat).drop (0:Int).toNat=_;rw[a0m,v6n];rfl
def z0s (x:Ex): ∀v:List Ex,x2d (v++[x])=x2d v++[pcs x]
 | []=>rfl
 |y::v=>by simp only[a0f,x2d,z0s x v]
def q5z (n:Int)(s:BA)(o:Int)(a:List BA)(u:List Ex)(hz:Ex.j0a u<=1000)(hs:s.size<=100000)(hn:n=0\/n=1/\u≠[])(hu: ∀x∈u,Txt x): ∃r,cF 120 [kE 13 n s o (x0b a) (Ex.rows u)]=some (.val [.str r])/\tb r=x0l (w0p n s (x2d u))/\r.size<=1000000*(Ex.j0a u+1):=by
 have hl:=x1p u;have core: ∃r,(k7z 13 n s o (x0b a) (Ex.rows u)).1=some (.val [.str r])/\tb r=x0l (w0p n s (x2d u))/\r.size<=1000000*(Ex.j0a u+1):=by
  have f1:sy.sfit s (bs [40])=true:=sfT (by rw[x1h];simp only[a0a,a0d];omega)
  rcases hn with rfl|⟨rfl,hne⟩
  ·obtain⟨r,h1,h2,h3⟩:=u6j u hz hu;have w0:IntKind.i64.wrap ((u.length:Int) - 0)=((u.length:Nat):Int):=by rw[x0v (by omega) (by omega)];omega
   have c0:decide ((0:Int)<=0/\(0:Int)<=(u.length:Int)/\(u.length:Int)<=(u.length:Int))=true:=a0s ⟨Int.le_refl _,by omega,Int.le_refl _⟩
   have c1:=cut0 u u.length;rw[a0u]at c1;have c1:((Ex.rows u).take (u.length:Int).toNat).drop (0:Int).toNat=Ex.rows u:=c1;have f2:sy.sfit (s++bs [40]) r=true:=sfT (by simp only[ByteArray.size_append,x1h,a0a,a0d];omega)
   have f3:sy.sfit (s++bs [40]++r) (bs [41])=true:=sfT (by simp only[ByteArray.size_append,x1h,a0a,a0d];omega)
   refine⟨s++bs [40]++r++bs [41],?_,?_,?_⟩
   ·simp only[k7z,go1,x0h,f1,w0,c0,c1,h1,f2,f3,Int.reduceEq]
   ·have e:w0p 0 s (x2d u)= [wd (tb s),mk 40]++x2e (x2d u)++[mk 41]:=rfl;rw[e];simp only[x0y,h2,x0t];show tb s++[40]++x0l (x2e (x2d u))++[41]=tb s++[40]++x0l (x2e (x2d u))++[41];rfl
   ·simp only[ByteArray.size_append,x1h,a0a,a0d];omega
  ·obtain⟨v,x,rfl⟩: ∃v x,u=v++[x]:=⟨_,_,(List.dropLast_concat_getLast hne).symm⟩
   have hsz:=x4z x v;have hx1:1<=x.size:=by cases x;simp[Ex.size]
   obtain⟨r,h1,h2,h3⟩:=u6j v (by omega) fun y hy=>hu y (by simp[hy])
   have hxt:=hu x (by simp)
   have hxr:(v++[x])[v.length]? =some x:=by simp
   have hr:=q0t hxr;obtain⟨k2,n2,s2,o2,a2,u2⟩:=x;obtain⟨t,h4,h5,h6⟩:=hxt k2 n2 s2 o2 a2 u2 rfl;have hL:(v++[Ex.mk k2 n2 s2 o2 a2 u2]).length=v.length+1:=by simp
   rw[hL]at hl;have w0:IntKind.i64.wrap (((v.length+1:Nat):Int) - 1)=(v.length:Int):=by rw[x0v (by omega) (by omega)];omega
   have c0:decide ((0:Int)<=0/\(0:Int)<=(v.length:Int)/\(v.length:Int)<=((v.length+1:Nat):Int))=true:=a0s ⟨Int.le_refl _,by omega,by omega⟩
   have c1:=cut0 (v++[Ex.mk k2 n2 s2 o2 a2 u2]) v.length;rw[List.take_left]at c1;have c1:((Ex.rows (v++[Ex.mk k2 n2 s2 o2 a2 u2])).take (v.length:Int).toNat).drop (0:Int).toNat=Ex.rows v:=c1;have i0:decide ((0:Int)<=(v.length:Int)/\(v.length:Int) < ((v.length+1:Nat):Int))=true:=a0s ⟨by omega,by omega⟩
   have f2:sy.sfit (s++bs [40]) r=true:=sfT (by simp only[ByteArray.size_append,x1h,a0a,a0d];omega)
   have f3:sy.sfit (s++bs [40]++r) (bs [41])=true:=sfT (by simp only[ByteArray.size_append,x1h,a0a,a0d];omega)
   have f4:sy.sfit (bs [40]) (s++bs [40]++r++bs [41])=true:=sfT (by simp only[ByteArray.size_append,x1h,a0a,a0d];omega)
   have f5:sy.sfit (bs [40]++(s++bs [40]++r++bs [41])) (bs [32,101,118,101,114,121,32])=true:=sfT (by simp only[ByteArray.size_append,x1h,a0a,a0d];omega)
   have f6:sy.sfit (bs [40]++(s++bs [40]++r++bs [41])++bs [32,101,118,101,114,121,32]) t=true:=sfT (by simp only[ByteArray.size_append,x1h,a0a,a0d];omega)
   have f7:sy.sfit (bs [40]++(s++bs [40]++r++bs [41])++bs [32,101,118,101,114,121,32]++t) (bs [41])=true:=sfT (by simp only[ByteArray.size_append,x1h,a0a,a0d];omega)
   refine⟨bs [40]++(s++bs [40]++r++bs [41])++bs [32,101,118,101,114,121,32]++t++bs [41],?_,?_,?_⟩
   ·simp only[k7z,go1,x0h,hL,f1,w0,c0,c1,h1,f2,f3,f4,f5,i0,hr,Ex.row,h4,f6,f7]
   ·have e:w0p 1 s (x2d (v++[Ex.mk k2 n2 s2 o2 a2 u2]))= [mk 40,wd (tb s),mk 40]++x2e (x2d v)++[mk 41,none,wd y5d,none]++pcs (Ex.mk k2 n2 s2 o2 a2 u2)++[mk 41]:=by
     rw[z0s];show[mk 40,wd (tb s),mk 40]++x2e ((x2d v++[pcs (Ex.mk k2 n2 s2 o2 a2 u2)]).take ((x2d v++[pcs (Ex.mk k2 n2 s2 o2 a2 u2)]).length - 1))++[mk 41,none,wd y5d,none]++(x2d v++[pcs (Ex.mk k2 n2 s2 o2 a2 u2)]).getD ((x2d v++[pcs (Ex.mk k2 n2 s2 o2 a2 u2)]).length - 1) []++[mk 41]=_;have t1:(x2d v++[pcs (Ex.mk k2 n2 s2 o2 a2 u2)]).length - 1=(x2d v).length:=by simp
     rw[t1,List.take_left,a0i,List.getElem?_concat_length];rfl
    rw[e];simp only[x0y,h2,h5,x0t];have r1:x0l [mk 40,wd (tb s),mk 40]= [40]++(tb s++[40]):=rfl;have r2:x0l [mk 41,none,wd y5d,none]= [41]++[32,101,118,101,114,121,32]:=rfl;have r3:x0l [mk 41]= [41]:=rfl;have q1:tb (bs [40])= [40]:=rfl;have q2:tb (bs [41])= [41]:=rfl;have q3:tb (bs [32,101,118,101,114,121,32])= [32,101,118,101,114,121,32]:=rfl;rw[r1,r2,r3,q1,q2,q3];simp only[List.append_assoc]
   ·simp only[ByteArray.size_append,x1h,a0a,a0d];omega
 obtain⟨r,h1,h2⟩:=core;exact⟨r,cO rfl ((k7z ..).2.trans h1),h2⟩
def tot (ts:List BA):Nat:=(ts.map ByteArray.size).sum
def z6d (ts:List BA)(t:BA):tot (ts++[t])=tot ts+t.size:=by simp[tot]
structure TS' (u:List Ex) (ts:List BA):Prop where
 m:ts.map tb=u.map fun x=>x0l (pcs x)
 z:tot ts<=1000000*Ex.j0a u
def TS'.l1 {x:Ex}{ts:List BA}(h:TS' [x] ts): ∃t,ts= [t]/\tb t=x0l (pcs x)/\t.size<=1000000*x.size:=by
 have hl:ts.length=1:=by simpa using congrArg List.length h.m
 match ts,hl,h.m,h.z with
 | [t],_,m,z=>
   simp only[a1m,a1w,List.cons.injEq]at m;simp[tot,Ex.j0a]at z;exact⟨t,rfl,m.1,by omega⟩
def TS'.l2 {x y:Ex}{ts:List BA}(h:TS' [x,y] ts): ∃t v,ts= [t,v]/\tb t=x0l (pcs x)/\tb v=x0l (pcs y)/\t.size+v.size<=1000000*(x.size+y.size):=by
 have hl:ts.length=2:=by simpa using congrArg List.length h.m
 match ts,hl,h.m,h.z with
 | [t,v],_,m,z=>
   simp only[a1m,a1w,List.cons.injEq]at m;simp[tot,Ex.j0a]at z;exact⟨t,v,rfl,m.1,m.2.1,by omega⟩
def TS'.l3 {x y z:Ex}{ts:List BA}(h:TS' [x,y,z] ts): ∃t v w,ts= [t,v,w]/\tb t=x0l (pcs x)/\tb v=x0l (pcs y)/\tb w=x0l (pcs z)/\t.size+v.size+w.size<=1000000*(x.size+y.size+z.size):=by
 have hl:ts.length=3:=by simpa using congrArg List.length h.m
 match ts,hl,h.m,h.z with
 | [t,v,w],_,m,z=>
   simp only[a1m,a1w,List.cons.injEq]at m;simp[tot,Ex.j0a]at z;exact⟨t,v,w,rfl,m.1,m.2.1,m.2.2.1,by omega⟩
def z5d (a:BA)(x:Pc): ∀(ar:List BA) (t:List Pc),ar.length=t.length->x0l (x1n (ar++[a]) (t++[x]))=x0l (x1n ar t)++[32,40]++tb a++[32,45,62,32]++x0l x++[41]
 | [],[],_=>by
   have hw:T.w ⟨if x3s (tb a)then 2 else 1,tb a,0⟩=tb a:=by
    unfold T.w;rw[if_neg (by simp only;split<;>decide)]
   have e:x1n ([]++[a]) ([]++[x])= [none,mk 40,w2c a,none,m2 45 62,none]++x++[mk 41]++x1n [] []:=rfl;have e2:x1n [] []= []:=by unfold x1n;rfl
   rw[e,e2];simp only[x0t,a0z];have:x0l [none,mk 40,w2c a,none,m2 45 62,none]= [32,40]++(T.w ⟨if x3s (tb a)then 2 else 1,tb a,0⟩++[32,45,62,32]):=rfl;rw[this,hw];show[32,40]++(tb a++[32,45,62,32])++x0l x++[41]= []++[32,40]++tb a++[32,45,62,32]++x0l x++[41];simp only[List.append_assoc,a0h]
 |b::ar,y::t,h=>by
  have ih:=z5d a x ar t (by simpa using h)
  simp only[a0f,x1n];simp only[<-a0f,x0t,ih];simp only[List.append_assoc]
 | [],_::_,h=>by simp at h
 |_::_,[],h=>by simp at h
def w1a: ∀(m:Nat) (k n:Int) (s:BA) (o:Int) (a:List BA) (u:List Ex),(Ex.mk k n s o a u).size<=m->m<=1000->x9c (.mk k n s o a u)=true->(Ex.mk k n s o a u).j0x->(Ex.mk k n s o a u).rng->
  ∃r,cF 65 [kE k n s o (x0b a) (Ex.rows u)]=some (.val [.str r])/\tb r=x0l (pcs (.mk k n s o a u))/\r.size<=1000000*(Ex.mk k n s o a u).size
 |0,k,n,s,o,a,u,h,_,_,_,_=>by simp only[Ex.size]at h;omega
 |m+1,k,n,s,o,a,u,h,hm,hall,hfine,hrng=>by
  have hz:Ex.j0a u<=m:=by simp only[Ex.size]at h;omega
  have hl:=x1p u;obtain⟨⟨fs,fa,fal⟩,fu⟩:=hfine;obtain⟨rn,ru⟩:=hrng;simp only[x9c,a0g]at hall;obtain⟨hpart,hu⟩:=hall;have hT: ∀x∈u,Txt x:=fun x hx=>by
   rintro k2 n2 s2 o2 a2 u2 rfl
   obtain⟨i,hi⟩:=List.getElem?_of_mem hx;have h1:=x2s hi;have h2:=y9k hi fu;have h3:x9c (.mk k2 n2 s2 o2 a2 u2)=true:=by
    have: ∀ {l:List Ex},y3d l=true-> ∀x∈l,x9c x=true:=by
     intro l
     induction l with
     |nil=>intro _ x h;cases h
     |cons y l ih=>
      intro h x hx;simp only[y3d,a0g]at h;rcases a1n.1 hx with rfl|hx
      ·exact h.1
      ·exact ih h.2 x hx
    exact this hu _ hx
   have h4:(Ex.mk k2 n2 s2 o2 a2 u2).rng:=by
    have: ∀ {l:List Ex},Ex.j0l l-> ∀x∈l,x.rng:=by
     intro l
     induction l with
     |nil=>intro _ x h;cases h
     |cons y l ih=>
      intro h x hx;rcases a1n.1 hx with rfl|hx
      ·exact h.1
      ·exact ih h.2 x hx
    exact this ru _ hx
   exact w1a m k2 n2 s2 o2 a2 u2 (by omega) (by omega) h3 h2 h4
  have core: ∃p,(g65 k n s o (x0b a) (Ex.rows u)).1=some p/\ ∃r,p= .val [.str r]/\tb r=x0l (pcK k n s o a (x2d u))/\r.size<=1000000*(Ex.j0a u+1):=by
   simp only[g65];refine x5n (fun x:Nat × List BA=>[.int .i64 (x.1:Int), .int .i64 k, .int .i64 n, .str s, .int .i64 o, .sl 1 (x0b a), .sl 6 (Ex.rows u), .sl 1 (x0b x.2)]) (fun x=>x.1<=u.length/\x.2.length=x.1/\TS' (u.take x.1) x.2) (fun x=>u.length - x.1) (fun x hx=> ?_) (0,[]) ⟨a0w _,rfl,⟨by simp,by simp[tot]⟩⟩
   obtain⟨i,ts⟩:=x;obtain⟨h1,hti,hts⟩:=hx;simp only at h1 hti hts ⊢
   by_cases hlt:i < u.length
   ·left
    have hx:=a0b hlt;have ht:=hT u[i] (a1j hlt);have htk:u.take (i+1)=u.take i++[u[i]]:=by rw[a1e,hx];rfl
    generalize u[i]=e at hx ht htk;have hr:=q0t hx;obtain⟨k2,n2,s2,o2,a2,u2⟩:=e;obtain⟨t,h4,h5,h6⟩:=ht k2 n2 s2 o2 a2 u2 rfl;have w1:IntKind.i64.wrap ((i:Int)+1)=((i+1:Nat):Int):=by rw[x0v (by omega) (by omega)];omega
    have l0:=x0i hlt;have i0:=x0g hlt;have fit:decide (((x0b ts).length+[[D.str t]].length)*(16+1)<=140737488355328)=true:=a0s (by rw[x0e];simp only[a0a,a0d];omega)
    refine⟨(i+1,ts++[t]),?_,⟨hlt,by simp[hti],?_,?_⟩,by simp only;omega⟩
    ·have e1:x0b ts++[[D.str t]]=x0b (ts++[t]):=by rw[<-y4h];rfl
     simp only[go1,x0h,l0,i0,hr,Ex.row,oE,h4,fit,e1,w1]
    ·simp only;rw[htk,List.map_append,List.map_append,hts.m];simp[h5]
    ·simp only;rw[htk,z6d,x4z];have:=hts.z;omega
   ·right
    have:i=u.length:=by omega
    subst this;rw[a0u]at hts;have hpart0:=hpart;unfold x9o at hpart;simp only[a0g]at hpart;obtain⟨hk,h1,h2,h3,h4,h5,h6,h7⟩:=hpart;have h5:=a0e h5;have h6:=a0e h6;have l0:decide (((u.length:Nat):Int) < (u.length:Int))=false:=x0f _;rcases w5b k hk with rfl|rfl|rfl|rfl|rfl|rfl|rfl|rfl|rfl|rfl|rfl|rfl|rfl|rfl|rfl|rfl|rfl
    · -- 1
      obtain⟨r,q1,q2,q3⟩:=z2t 1 n s o (x0b a) (Ex.rows u) (fun _=>⟨a0e h1,rn⟩) fs (by decide)
      refine⟨_,?_,r,rfl,q2,by omega⟩
      simp only[go1,oE,x0h,l0,Int.reduceEq,q1]
    · -- 2
      obtain⟨r,q1,q2,q3⟩:=z2t 2 n s o (x0b a) (Ex.rows u) (fun h=>by cases h) fs (by decide)
      refine⟨_,?_,r,rfl,q2,by omega⟩
      simp only[go1,oE,x0h,l0,Int.reduceEq,q1]
    · -- 3
      obtain⟨r,q1,q2,q3⟩:=z2t 3 n s o (x0b a) (Ex.rows u) (fun h=>by cases h) fs (by decide)
      refine⟨_,?_,r,rfl,q2,by omega⟩
      simp only[go1,oE,x0h,l0,Int.reduceEq,q1]
    · -- 4
      obtain⟨r,q1,q2,q3⟩:=z2t 4 n s o (x0b a) (Ex.rows u) (fun h=>by cases h) fs (by decide)
      refine⟨_,?_,r,rfl,q2,by omega⟩
      simp only[go1,oE,x0h,l0,Int.reduceEq,q1]
    · -- 5
      have hlu:u.length=1:=by simp[hiB,loB]at h5 h6;omega
      match u,hlu,hts,l0 with
      | [x],_,hts,l0=>
        obtain⟨t,rfl,q0,hb⟩:=hts.l1;simp only[Ex.j0a]at hz ⊢;have c0:sy.cell (sy.rown (x0b [t]) 0) 0=some (.str t):=rfl;have c0':sy.cell (sy.rown (x0b [t]) (Int.toNat 0)) 0=some (.str t):=rfl;have i0:decide ((0:Int)<=0/\(0:Int) < ((x0b [t]).length:Int))=true:=rfl
        by_cases ho:o=1
        ·subst ho;refine⟨_,?_,bs [40,45]++t++bs [41],rfl,?_,?_⟩
         ·simp (disch:=(simp only[ByteArray.size_append,x1h,a0a,a0d];omega)) only [go1,oE,x0h,l0,sfT,Int.reduceEq,c0',i0]
         ·show _=x0l ([mk 40,mk 45]++pcs x++[mk 41]);simp only[x0y,x0t,List.append_assoc,q0];rfl
         ·simp only[ByteArray.size_append,x1h,a0a,a0d];omega
        ·have e:pcK 5 n s o a (x2d [x])= [mk 40,wd v4e,none]++pcs x++[mk 41]:=by unfold pcK;rw[if_pos rfl,if_neg ho];rfl
         rw[e];have ho:=decide_eq_false ho;refine⟨_,?_,bs [40,110,111,116,32]++t++bs [41],rfl,?_,?_⟩
         ·simp (disch:=(simp only[ByteArray.size_append,x1h,a0a,a0d];omega)) only [go1,oE,x0h,l0,sfT,Int.reduceEq,c0',i0,ho]
         ·show _=x0l ([mk 40,wd v4e,none]++pcs x++[mk 41]);simp only[x0y,x0t,List.append_assoc,q0];rfl
         ·simp only[ByteArray.size_append,x1h,a0a,a0d];omega
    · -- 6
      have hlu:u.length=2:=by simp[hiB,loB]at h5 h6;omega
      match u,hlu,hts,l0 with
      | [x,y],_,hts,l0=>
        obtain⟨t,v,rfl,q0,q1,hb⟩:=hts.l2;simp only[Ex.j0a]at hz ⊢;have ho:3<=o/\o<=16:=by simpa[u4r]using h3
        obtain⟨o,rfl⟩: ∃q:Nat,o=(q:Int):=⟨o.toNat,by omega⟩
        have hsg:=q6c o (by omega) (by omega)
        have hss:(y1t o).size<=3:=by
         have h1:3<=o:=by omega
         have h2:o<=16:=by omega
         match o,h1,h2 with
         |3,_,_|4,_,_|5,_,_|6,_,_|7,_,_|8,_,_|9,_,_|10,_,_|11,_,_|12,_,_|13,_,_|14,_,_|15,_,_|16,_,_=>decide
         |o+17,_,h=>omega
        have qx:x0l [none,opK o,none]= [32]++(tb (y1t o)++[32]):=by
         show 32::(T.w ⟨if 7<=o/\o<=10 then 1 else 5,tb (y1t o),0⟩++[32])=_;unfold T.w;rw[if_neg (by simp only;split<;>decide)]
         rfl
        have c0:sy.cell (sy.rown (x0b [t,v]) 0) 0=some (.str t):=rfl;have c0':sy.cell (sy.rown (x0b [t,v]) (Int.toNat 0)) 0=some (.str t):=rfl;have i0:decide ((0:Int)<=0/\(0:Int) < ((x0b [t,v]).length:Int))=true:=rfl;have c1:sy.cell (sy.rown (x0b [t,v]) 1) 0=some (.str v):=rfl;have c1':sy.cell (sy.rown (x0b [t,v]) (Int.toNat 1)) 0=some (.str v):=rfl;have i1:decide ((0:Int)<=1/\(1:Int) < ((x0b [t,v]).length:Int))=true:=rfl;refine⟨_,?_,bs [40]++t++bs [32]++y1t o++bs [32]++v++bs [41],rfl,?_,?_⟩
        ·simp (disch:=(simp only[ByteArray.size_append,x1h,a0a,a0d];omega)) only [go1,oE,x0h,l0,sfT,Int.reduceEq,c0',i0,c1',i1,hsg]
        ·show _=x0l ([mk 40]++pcs x++[none,opK o,none]++pcs y++[mk 41]);simp only[x0y,x0t,List.append_assoc,q0,q1,qx];rfl
        ·simp only[ByteArray.size_append,x1h,a0a,a0d];omega
    · -- 7
      have hlu:u.length=3:=by simp[hiB,loB]at h5 h6;omega
      match u,hlu,hts,l0 with
      | [x,y,z],_,hts,l0=>
        obtain⟨t,v,w,rfl,q0,q1,q2,hb⟩:=hts.l3;simp only[Ex.j0a]at hz ⊢;have c0:sy.cell (sy.rown (x0b [t,v,w]) 0) 0=some (.str t):=rfl;have c0':sy.cell (sy.rown (x0b [t,v,w]) (Int.toNat 0)) 0=some (.str t):=rfl;have i0:decide ((0:Int)<=0/\(0:Int) < ((x0b [t,v,w]).length:Int))=true:=rfl;have c1:sy.cell (sy.rown (x0b [t,v,w]) 1) 0=some (.str v):=rfl;have c1':sy.cell (sy.rown (x0b [t,v,w]) (Int.toNat 1)) 0=some (.str v):=rfl;have i1:decide ((0:Int)<=1/\(1:Int) < ((x0b [t,v,w]).length:Int))=true:=rfl;have c2:sy.cell (sy.rown (x0b [t,v,w]) 2) 0=some (.str w):=rfl;have c2':sy.cell (sy.rown (x0b [t,v,w]) (Int.toNat 2)) 0=some (.str w):=rfl;have i2:decide ((0:Int)<=2/\(2:Int) < ((x0b [t,v,w]).length:Int))=true:=rfl;refine⟨_,?_,bs [40,105,102,32]++t++bs [32,116,104,101,110,32]++v++bs [32,101,108,115,101,32]++w++bs [41],rfl,?_,?_⟩
        ·simp (disch:=(simp only[ByteArray.size_append,x1h,a0a,a0d];omega)) only [go1,oE,x0h,l0,sfT,Int.reduceEq,c0',i0,c1',i1,c2',i2]
        ·show _=x0l ([mk 40,wd kIf,none]++pcs x++[none,wd u5g,none]++pcs y++[none,wd u5i,none]++pcs z++[mk 41]);simp only[x0y,x0t,List.append_assoc,q0,q1,q2];rfl
        ·simp only[ByteArray.size_append,x1h,a0a,a0d];omega
    · -- 8
      have hlu:u.length=2:=by simp[hiB,loB]at h5 h6;omega
      match u,hlu,hts,l0 with
      | [x,y],_,hts,l0=>
        obtain⟨t,v,rfl,q0,q1,hb⟩:=hts.l2;simp only[Ex.j0a]at hz ⊢;have c0:sy.cell (sy.rown (x0b [t,v]) 0) 0=some (.str t):=rfl;have c0':sy.cell (sy.rown (x0b [t,v]) (Int.toNat 0)) 0=some (.str t):=rfl;have i0:decide ((0:Int)<=0/\(0:Int) < ((x0b [t,v]).length:Int))=true:=rfl;have c1:sy.cell (sy.rown (x0b [t,v]) 1) 0=some (.str v):=rfl;have c1':sy.cell (sy.rown (x0b [t,v]) (Int.toNat 1)) 0=some (.str v):=rfl;have i1:decide ((0:Int)<=1/\(1:Int) < ((x0b [t,v]).length:Int))=true:=rfl;refine⟨_,?_,bs [40]++t++bs [32,102,98,121,32]++v++bs [41],rfl,?_,?_⟩
        ·simp (disch:=(simp only[ByteArray.size_append,x1h,a0a,a0d];omega)) only [go1,oE,x0h,l0,sfT,Int.reduceEq,c0',i0,c1',i1]
        ·show _=x0l ([mk 40]++pcs x++[none,wd w2p,none]++pcs y++[mk 41]);simp only[x0y,x0t,List.append_assoc,q0,q1];rfl
        ·simp only[ByteArray.size_append,x1h,a0a,a0d];omega
    · -- 9
      have hlu:u.length=2:=by simp[hiB,loB]at h5 h6;omega
      match u,hlu,hts,l0 with
      | [x,y],_,hts,l0=>
        obtain⟨t,v,rfl,q0,q1,hb⟩:=hts.l2;simp only[Ex.j0a]at hz ⊢;have c0:sy.cell (sy.rown (x0b [t,v]) 0) 0=some (.str t):=rfl;have c0':sy.cell (sy.rown (x0b [t,v]) (Int.toNat 0)) 0=some (.str t):=rfl;have i0:decide ((0:Int)<=0/\(0:Int) < ((x0b [t,v]).length:Int))=true:=rfl;have c1:sy.cell (sy.rown (x0b [t,v]) 1) 0=some (.str v):=rfl;have c1':sy.cell (sy.rown (x0b [t,v]) (Int.toNat 1)) 0=some (.str v):=rfl;have i1:decide ((0:Int)<=1/\(1:Int) < ((x0b [t,v]).length:Int))=true:=rfl;refine⟨_,?_,bs [40]++t++bs [32,45,62,32]++v++bs [41],rfl,?_,?_⟩
        ·simp (disch:=(simp only[ByteArray.size_append,x1h,a0a,a0d];omega)) only [go1,oE,x0h,l0,sfT,Int.reduceEq,c0',i0,c1',i1]
        ·show _=x0l ([mk 40]++pcs x++[none,m2 45 62,none]++pcs y++[mk 41]);simp only[x0y,x0t,List.append_assoc,q0,q1];rfl
        ·simp only[ByteArray.size_append,x1h,a0a,a0d];omega
    · -- 10
      have hlu:u.length=1:=by simp[hiB,loB]at h5 h6;omega
      match u,hlu,hts,l0 with
      | [x],_,hts,l0=>
        obtain⟨t,rfl,q0,hb⟩:=hts.l1;simp only[Ex.j0a]at hz ⊢;have c0:sy.cell (sy.rown (x0b [t]) 0) 0=some (.str t):=rfl;have c0':sy.cell (sy.rown (x0b [t]) (Int.toNat 0)) 0=some (.str t):=rfl;have i0:decide ((0:Int)<=0/\(0:Int) < ((x0b [t]).length:Int))=true:=rfl;refine⟨_,?_,bs [40,112,114,101,32]++t++bs [41],rfl,?_,?_⟩
        ·simp (disch:=(simp only[ByteArray.size_append,x1h,a0a,a0d];omega)) only [go1,oE,x0h,l0,sfT,Int.reduceEq,c0',i0]
        ·show _=x0l ([mk 40,wd w9d,none]++pcs x++[mk 41]);simp only[x0y,x0t,List.append_assoc,q0];rfl
        ·simp only[ByteArray.size_append,x1h,a0a,a0d];omega
    · -- 11
      have hlu:u.length=1:=by simp[hiB,loB]at h5 h6;omega
      match u,hlu,hts,l0 with
      | [x],_,hts,l0=>
        obtain⟨t,rfl,q0,hb⟩:=hts.l1;simp only[Ex.j0a]at hz ⊢;have hla:a.length=1:=by
         unfold y1a at h4;simp only[a0g]at h4;exact a0e h4.2
        obtain⟨ar,rfl⟩: ∃ar,a= [ar]:=List.length_eq_one_iff.1 hla
        obtain⟨g,g1,qx,g9900003⟩:=k6a s ar fs (fa ar (by simp))
        have ca:sy.cell (sy.row (x0b [ar]) 0) 0=some (.str ar):=rfl;have ia:decide ((0:Int)<=0/\(0:Int) < ((x0b [ar]).length:Int))=true:=rfl;have c0:sy.cell (sy.rown (x0b [t]) 0) 0=some (.str t):=rfl;have c0':sy.cell (sy.rown (x0b [t]) (Int.toNat 0)) 0=some (.str t):=rfl;have i0:decide ((0:Int)<=0/\(0:Int) < ((x0b [t]).length:Int))=true:=rfl;refine⟨_,?_,bs [40]++t++bs [32,119,104,101,110,32]++g++bs [41],rfl,?_,?_⟩
        ·simp (disch:=(simp only[ByteArray.size_append,x1h,a0a,a0d];omega)) only [go1,oE,x0h,l0,sfT,Int.reduceEq,c0',i0,ca,ia,g1]
        ·show _=x0l ([mk 40]++pcs x++[none,wd y5c,none]++onP s ar++[mk 41]);simp only[x0y,x0t,List.append_assoc,q0,qx];rfl
        ·simp only[ByteArray.size_append,x1h,a0a,a0d];omega
    · -- 12
      have hla:a.length=u.length:=by simp[hiB,loB]at h5 h6;omega
      have f0:sy.sfit (bs [40,109,101,114,103,101,32]) s=true:=sfT (by simp only[ByteArray.size_append,x1h,a0a,a0d];omega)
      have tl:ts.length=u.length:=by simpa using congrArg List.length hts.m
      have k12: ∃p,x5f (fun ds39=>
        (opS (sy.cell ds39 0)).bind fun s40=>
        (opI (sy.cell ds39 1) .i64).bind fun n41=>
        oE sy ds39 2 fun n42 n43 s44 n45 l46 l47=>
        (opL (sy.cell ds39 8) 1).bind fun l48=>
        bif (sy.ilt n41 (sy.rlen l48))then
         bif (sy.sfit s40 (bs [32,40]))then
          bif (sy.inr n41 (sy.rlen l46))then
           (opS (sy.cell (sy.row l46 n41) 0)).bind fun s49=>
           bif (sy.sfit (sy.sapp s40 (bs [32,40])) s49)then
            bif (sy.sfit (sy.sapp (sy.sapp s40 (bs [32,40])) s49) (bs [32,45,62,32]))then
             bif (sy.inr n41 (sy.rlen l48))then
              (opS (sy.cell (sy.rown l48 (sy.nat n41)) 0)).bind fun s50=>
              bif (sy.sfit (sy.sapp (sy.sapp (sy.sapp s40 (bs [32,40])) s49) (bs [32,45,62,32])) s50)then
               bif (sy.sfit (sy.sapp (sy.sapp (sy.sapp (sy.sapp s40 (bs [32,40])) s49) (bs [32,45,62,32])) s50) (bs [41]))then
                some (.inl [(.str (sy.sapp (sy.sapp (sy.sapp (sy.sapp (sy.sapp s40 (bs [32,40])) s49) (bs [32,45,62,32])) s50) (bs [41]))),(.int .i64 (sy.wrap .i64 (sy.add n41 1))),(.int .i64 n42),(.int .i64 n43),(.str s44),(.int .i64 n45),(.sl 1 l46),(.sl 6 l47),(.sl 1 l48)])
               else
                none
              else
               none
             else
              none
            else
             none
           else
            none
          else
           none
         else
          none
        else
         bif (sy.sfit s40 (bs [41]))then
          some (.inr ((.inr (PRes.val [(.str (sy.sapp s40 (bs [41])))])):List D ⊕ PRes))
         else
          none
       ) [(.str (sy.sapp (bs [40,109,101,114,103,101,32]) s)),(.int .i64 0),(.int .i64 12),(.int .i64 n),(.str s),(.int .i64 o),(.sl 1 (x0b a)),(.sl 6 (Ex.rows u)),(.sl 1 (x0b ts))]=some p/\ ∃r,p= .inr (.val [.str r])/\tb r=x0l (pcK 12 n s o a (x2d u))/\r.size<=1000000*(Ex.j0a u+1):=by
       refine x5n (fun x:Nat × BA=>[.str x.2, .int .i64 (x.1:Int), .int .i64 12, .int .i64 n, .str s, .int .i64 o, .sl 1 (x0b a), .sl 6 (Ex.rows u), .sl 1 (x0b ts)]) (fun x=>x.1<=u.length/\tb x.2= [40,109,101,114,103,101,32]++tb s++x0l (x1n (a.take x.1) (x2d (u.take x.1)))/\x.2.size<=100007+tot (ts.take x.1)+100010*x.1) (fun x=>u.length - x.1) (fun x hx=> ?_) (0,bs [40,109,101,114,103,101,32]++s) ⟨a0w _,?_,?_⟩
       ·obtain⟨i,r⟩:=x;obtain⟨g1,g2,g9900003⟩:=hx;simp only at g1 g2 g9900003 ⊢
        by_cases hlt:i < u.length
        ·left
         have hla':i < a.length:=by omega
         have hlt':i < ts.length:=by omega
         have ha:=a0b hla';have ht:=a0b hlt';have hx:=a0b hlt;have htx:tb ts[i]=x0l (pcs u[i]):=by
          have:=congrArg (fun l=>l[i]?) hts.m
          simp only[a0o,ht,hx,Option.map_some,Option.some.injEq]at this;exact this
         have az:a[i].size<=100000:=fa _ (a1j hla');have tk1:ts.take (i+1)=ts.take i++[ts[i]]:=by rw[a1e,ht];rfl
         have tk2:a.take (i+1)=a.take i++[a[i]]:=by rw[a1e,ha];rfl
         have tk3:u.take (i+1)=u.take i++[u[i]]:=by rw[a1e,hx];rfl
         have tz:tot (ts.take i)+ts[i].size<=tot ts:=by
          have e:tot ts=tot (ts.take (i+1))+tot (ts.drop (i+1)):=by
           unfold tot;rw[<-List.sum_append,<-List.map_append,a1u]
          rw[tk1,z6d]at e;omega
         have ttz:=hts.z;generalize a[i]=aa at ha az tk2;generalize ts[i]=tt at ht htx tk1 tz;generalize u[i]=xx at hx htx tk3;have ca:=x1c ha;have ct:sy.cell (sy.rown (x0b ts) i) 0=some (.str tt):=by
          show sy.cell ((x0b ts).getD i []) 0=_;rw[a0i];simp[x0b,w2l,ht];rfl
         have w1:IntKind.i64.wrap ((i:Int)+1)=((i+1:Nat):Int):=by rw[x0v (by omega) (by omega)];omega
         have l1:decide ((i:Int) < (ts.length:Int))=true:=x0i hlt';have i1:decide ((0:Int)<=(i:Int)/\(i:Int) < (ts.length:Int))=true:=x0g hlt';have i2:decide ((0:Int)<=(i:Int)/\(i:Int) < (a.length:Int))=true:=x0g hla';refine⟨(i+1,r++bs [32,40]++aa++bs [32,45,62,32]++tt++bs [41]),?_,⟨hlt,?_,?_⟩,by simp only;omega⟩
         ·simp (disch:=(simp only[ByteArray.size_append,x1h,a0a,a0d];omega)) only [go1,oE,x0e,l1,i1,i2,ca,ct,w1,sfT,a0m]
         ·simp only;rw[tk2,tk3,z0s,z5d _ _ _ _ (by rw[z6v,a1q,a1q];omega)]
          simp only[x0y,g2,htx,List.append_assoc];rfl
         ·simp only;rw[tk1,z6d];simp only[ByteArray.size_append,x1h,a0a,a0d];omega
        ·right
         have:i=u.length:=by omega
         subst this;have l1:decide (((u.length:Nat):Int) < (ts.length:Int))=false:=by rw[tl];exact x0f _
         have ttz:=hts.z;rw[<-tl,a0u]at g9900003;rw[<-hla,a0u,hla,a0u]at g2;refine⟨_,?_,r++bs [41],rfl,?_,?_⟩
         ·simp (disch:=(simp only[ByteArray.size_append,x1h,a0a,a0d];omega)) only [go1,oE,x0e,l1,sfT]
         ·show _=x0l ([mk 40,wd y7s,none,wd (tb s)]++x1n a (x2d u)++[mk 41]);simp only[x0y,g2,x0t,List.append_assoc];have:x0l [mk 40,wd y7s,none,wd (tb s)]= [40,109,101,114,103,101,32]++(tb s++[]):=rfl;rw[this];simp only[List.append_assoc,a0z];rfl
         ·simp only[ByteArray.size_append,x1h,a0a,a0d];have:1<=a.length:=by
           unfold y1a at h4;simp only[a0g]at h4;have:=h4.2;simp only[show decide ((12:Int)=11)=false from rfl,cond_false,decide_true,cond_true,a0g]at this;exact a0e this.1
          have:u.length<=6:=by
           unfold y1a at h4;simp only[a0g]at h4;have:=h4.2;simp only[show decide ((12:Int)=11)=false from rfl,cond_false,decide_true,cond_true,a0g]at this;have:=a0e this.2.1;omega
          omega
       ·show tb (bs [40,109,101,114,103,101,32]++s)=_++_++x0l (x1n (a.take 0) (x2d (u.take 0)));have:x1n (a.take 0) (x2d (u.take 0))= []:=by unfold x1n;rfl
        rw[this,x0y];simp only[x0l,a0z];rfl
       ·show(bs [40,109,101,114,103,101,32]++s).size<=_;simp only[ByteArray.size_append,x1h,a0a,a0d];omega
      obtain⟨p,g1,r,rfl,g2,g9900003⟩:=k12;refine⟨_,?_,r,rfl,g2,g9900003⟩;simp only[go1,oE,x0h,l0,Int.reduceEq,f0];simp only[u4i]at g1
      first|exact g1|(simp only[go1,oE]at g1;exact g1)
    · -- 13
      have hn:n=0\/n=1:=by simpa[u3o]using h1
      obtain⟨r,q1,q2,q3⟩:=q5z n s o a u (by omega) fs (by
       rcases hn with rfl|rfl
       ·exact .inl rfl
       ·refine .inr ⟨rfl,?_⟩
        rintro rfl
        simp[loB]at h5) hT
      refine⟨_,?_,r,rfl,q2,q3⟩;simp only[go1,oE,x0h,l0,Int.reduceEq,q1]
    · -- 14
      obtain⟨r,q1,q2,q3⟩:=u6j u (by omega) hT
      refine⟨_,?_,bs [91]++r++bs [93],rfl,?_,?_⟩
      ·simp (disch:=(simp only[ByteArray.size_append,x1h,a0a,a0d];omega)) only [go1,oE,x0h,l0,Int.reduceEq,q1,sfT]
      ·show _=x0l ([mk 91]++x2e (x2d u)++[mk 93]);simp only[x0y,x0t,List.append_assoc,q2];rfl
      ·simp only[ByteArray.size_append,x1h,a0a,a0d];omega
    · -- 15
      have hlu:u.length=2:=by simp[hiB,loB]at h5 h6;omega
      match u,hlu,hts,l0 with
      | [x,y],_,hts,l0=>
        obtain⟨t,v,rfl,q0,q1,hb⟩:=hts.l2;simp only[Ex.j0a]at hz ⊢;have c0:sy.cell (sy.rown (x0b [t,v]) 0) 0=some (.str t):=rfl;have c0':sy.cell (sy.rown (x0b [t,v]) (Int.toNat 0)) 0=some (.str t):=rfl;have i0:decide ((0:Int)<=0/\(0:Int) < ((x0b [t,v]).length:Int))=true:=rfl;have c1:sy.cell (sy.rown (x0b [t,v]) 1) 0=some (.str v):=rfl;have c1':sy.cell (sy.rown (x0b [t,v]) (Int.toNat 1)) 0=some (.str v):=rfl;have i1:decide ((0:Int)<=1/\(1:Int) < ((x0b [t,v]).length:Int))=true:=rfl;refine⟨_,?_,t++bs [91]++v++bs [93],rfl,?_,?_⟩
        ·simp (disch:=(simp only[ByteArray.size_append,x1h,a0a,a0d];omega)) only [go1,oE,x0h,l0,sfT,Int.reduceEq,c0',i0,c1',i1]
        ·show _=x0l (pcs x++[mk 91]++pcs y++[mk 93]);simp only[x0y,x0t,List.append_assoc,q0,q1];rfl
        ·simp only[ByteArray.size_append,x1h,a0a,a0d];omega
    · -- 16
      have hlu:u.length=3:=by simp[hiB,loB]at h5 h6;omega
      match u,hlu,hts,l0 with
      | [x,y,z],_,hts,l0=>
        obtain⟨t,v,w,rfl,q0,q1,q2,hb⟩:=hts.l3;simp only[Ex.j0a]at hz ⊢;have c0:sy.cell (sy.rown (x0b [t,v,w]) 0) 0=some (.str t):=rfl;have c0':sy.cell (sy.rown (x0b [t,v,w]) (Int.toNat 0)) 0=some (.str t):=rfl;have i0:decide ((0:Int)<=0/\(0:Int) < ((x0b [t,v,w]).length:Int))=true:=rfl;have c1:sy.cell (sy.rown (x0b [t,v,w]) 1) 0=some (.str v):=rfl;have c1':sy.cell (sy.rown (x0b [t,v,w]) (Int.toNat 1)) 0=some (.str v):=rfl;have i1:decide ((0:Int)<=1/\(1:Int) < ((x0b [t,v,w]).length:Int))=true:=rfl;have c2:sy.cell (sy.rown (x0b [t,v,w]) 2) 0=some (.str w):=rfl;have c2':sy.cell (sy.rown (x0b [t,v,w]) (Int.toNat 2)) 0=some (.str w):=rfl;have i2:decide ((0:Int)<=2/\(2:Int) < ((x0b [t,v,w]).length:Int))=true:=rfl;refine⟨_,?_,bs [40]++t++bs [32,119,105,116,104,32,91]++v++bs [93,32,61,32]++w++bs [41],rfl,?_,?_⟩
        ·simp (disch:=(simp only[ByteArray.size_append,x1h,a0a,a0d];omega)) only [go1,oE,x0h,l0,sfT,Int.reduceEq,c0',i0,c1',i1,c2',i2]
        ·show _=x0l ([mk 40]++pcs x++[none,wd u5f,none,mk 91]++pcs y++[mk 93,none,mk 61,none]++pcs z++[mk 41]);simp only[x0y,x0t,List.append_assoc,q0,q1,q2];rfl
        ·simp only[ByteArray.size_append,x1h,a0a,a0d];omega
    · -- 17
      obtain⟨r,q1,q2,q3⟩:=z2t 17 n s o (x0b a) (Ex.rows u) (fun h=>by cases h) fs (by decide)
      refine⟨_,?_,r,rfl,q2,by omega⟩
      simp only[go1,oE,x0h,l0,Int.reduceEq,q1]
  obtain⟨p,h1,r,rfl,h2,h3⟩:=core;refine⟨r,cO rfl ((g65 ..).2.trans h1),by rw[pcs];exact h2,?_⟩
  simp only[Ex.size];exact h3
def jnS (b:List Nat):List (List Nat)->List Nat
 | []=>[]
 |x::r=>b++x++jnS b r
def jnT (b:List Nat):List (List Nat)->List Nat
 | []=>[]
 |x::r=>x++jnS b r
def u9c (b x:List Nat): ∀r,jnS b (r++[x])=jnS b r++(b++x)
 | []=>by simp[jnS]
 |y::r=>by simp only[a0f,jnS,u9c b x r,List.append_assoc]
def u9b (b x:List Nat){r:List (List Nat)}(h:r≠[]):jnT b (r++[x])=jnT b r++(b++x):=by
 obtain⟨y,r,rfl⟩:=List.exists_cons_of_ne_nil h;simp only[a0f,jnT,u9c,List.append_assoc]
def y3l {α:Type}{r:List α}{i:Nat}{x:α}(h:r[i]? =some x):r.take (i+1)=r.take i++[x]:=by rw[a1e,h];rfl
def v5k {α:Type}{r:List α}{i:Nat}(h:i<=r.length)(h0: ¬i=0):r.take i≠[]:=fun e=>by
 have:=congrArg List.length e;rw[a1q,a0d]at this;omega
def z0n (n:Int)(hn: ¬n=4): ∀r:List BA,x0l (y5w (r.map fun x=>[some ⟨n,tb x,0⟩]))=jnS [44,32] (r.map tb)
 | []=>rfl
 |x::r=>by
  have:=z0n n hn r;simp only[a1m,y5w,jnS,mk,a0f,a0h,x0l,T.w,if_neg hn,this];simp
def z4s (n:Int)(hn: ¬n=4)(r:List BA):x0l (v2a n r)=jnT [44,32] (r.map tb):=by
 match r with
 | []=>rfl
 |x::r=>
  simp only[v2a,a1m,x2e,jnT,a0f,a0h,x0l,T.w,if_neg hn,z0n n hn r]
def w0z (r:List BA)(hr:r.length<=1000000)(hs: ∀x∈r,x.size<=100000): ∃t,cF 13 [.d (.sl 1 (x0b r))]=some (.val [.str t])/\tb t=jnT [44,32] (r.map tb)/\t.size<=100002*r.length:=by
 have core: ∃p,(g13 (x0b r)).1=some p/\ ∃t,p= .val [.str t]/\tb t=jnT [44,32] (r.map tb)/\t.size<=100002*r.length:=by
  simp only[g13];refine x5n (fun x:Nat × BA=>[.sl 1 (x0b r), .str x.2, .int .i64 (x.1:Int)]) (fun x=>x.1<=r.length/\tb x.2=jnT [44,32] ((r.take x.1).map tb)/\x.2.size<=100002*x.1) (fun x=>r.length - x.1) (fun x hx=> ?_) (0,bs []) ⟨a0w _,rfl,a0q _⟩
  obtain⟨i,s⟩:=x;obtain⟨h1,h2,h3⟩:=hx;simp only at h1 h2 h3 ⊢
  by_cases hlt:i < r.length
  ·left
   have hx:=a0b hlt;have hz:=hs _ (a1j hlt);have hr':=x1c hx;have w1:IntKind.i64.wrap ((i:Int)+1)=((i+1:Nat):Int):=by rw[x0v (by omega) (by omega)];omega
   generalize r[i]=t at hx hz hr'
   by_cases hi0:i=0
   ·subst hi0;refine⟨(1,s++t),?_,⟨hlt,?_,?_⟩,by simp only;omega⟩
    ·have sf:sy.sfit s t=true:=sfT (by omega)
     have l0:decide ((0:Int) < (r.length:Int))=true:=x0i hlt;have i0:decide ((0:Int)<=0/\(0:Int) < (r.length:Int))=true:=x0g hlt;have hr':sy.cell (sy.row (x0b r) 0) 0=_:=hr';have w1:IntKind.i64.wrap ((0:Int)+1)=((1:Nat):Int):=w1;simp only[go1,x0e,l0,i0,hr',show((0:Nat):Int)=0 from rfl,Int.lt_irrefl,sf,w1]
    ·simp only;rw[x0y,h2,y3l hx];simp[jnT,jnS]
    ·simp only[ByteArray.size_append];omega
   ·refine⟨(i+1,s++bs [44,32]++t),?_,⟨hlt,?_,?_⟩,by simp only;omega⟩
    ·have sf:sy.sfit s (bs [44,32])=true:=sfT (by simp only[x1h,a0a,a0d];omega)
     have sf2:sy.sfit (s++bs [44,32]) t=true:=sfT (by simp only[ByteArray.size_append,x1h,a0a,a0d];omega)
     have l0:=x0i hlt;have i0:=x0g hlt;have z0:decide ((0:Int) < (i:Int))=true:=a0s (by omega)
     simp only[go1,x0e,l0,i0,hr',z0,sf,sf2,w1]
    ·simp only;rw[x0y,x0y,h2,y3l hx,List.map_append,List.map_singleton,u9b _ _ (by simpa using v5k h1 hi0),List.append_assoc]
     rfl
    ·simp only[ByteArray.size_append,x1h,a0a,a0d];omega
  ·right
   have:i=r.length:=by omega
   subst this;rw[a0u]at h2;refine⟨_,?_,s,rfl,h2,h3⟩;simp only[go1,x0e,x0f]
 obtain⟨p,h1,t,rfl,h2⟩:=core;exact⟨t,cO rfl ((g13 ..).2.trans h1),h2⟩
def dig1 {c:Int}(h0:0 < c)(h8:c<=8):y0c c.toNat= [48+c.toNat]:=by
 rw[y0c,dif_pos (by omega)]
def w5a (c:Int):List Nat:=if 0 < c then[91]++[48+c.toNat]++[93]else[]
def v6t {c:Int}(h8:c<=8):x0l (lnP c)=w5a c:=by
 unfold lnP w5a;split
 ·rename_i h0;rw[dig1 h0 h8];rfl
 ·rfl
def k8z {c:Int}(h0:0 < c)(h8:c<=8):tb (sy.bstr [[.int .u8 (sy.wrap .u8 (sy.wrap .i64 (sy.add 48 c)))]])= [48+c.toNat]/\sy.isby [[.int .u8 (sy.wrap .u8 (sy.wrap .i64 (sy.add 48 c)))]]=true:=by
 obtain⟨n,rfl⟩: ∃n:Nat,c=(n:Int):=⟨c.toNat,by omega⟩
 match n,h0,h8 with
 |1,_,_|2,_,_|3,_,_|4,_,_|5,_,_|6,_,_|7,_,_|8,_,_=>exact⟨rfl,rfl⟩
 |0,h,_=>omega
 |n+9,_,h=>omega
def by8 {c:Int}(h0:0 < c)(h8:c<=8): ∃z:BA,sy.bstr [[.int .u8 (IntKind.u8.wrap (IntKind.i64.wrap (48+c)))]]=z/\tb z= [48+c.toNat]/\z.size=1/\sy.isby [[.int .u8 (IntKind.u8.wrap (IntKind.i64.wrap (48+c)))]]=true:=by
 obtain⟨h1,h2⟩:=k8z h0 h8;exact⟨_,rfl,h1,by rw[<-x2m];exact congrArg List.length h1,h2⟩
def w6l (ens:List En)(hE: ∀x∈ens,EnOK x){k e c:Int}(h:tyB ens k e c=true): ∃t,cF 113 [.d (.sl 2 (x0m ens)), .agg [.d (.int .i64 k), .d (.int .i64 e), .d (.int .i64 c)]]=some (.val [.str t])/\tb t=x0l (tyP ens k e c)/\t.size<=100010:=by
 have hq:=z9r ens k e c;rw[h]at hq;have hc:0<=c/\c<=8:=by
  unfold tyB at h;simp only[a0g,Bool.not_eq_true',Bool.or_eq_false_iff,decide_eq_false_iff_not]at h;omega
 have core: ∃t,(w9p (x0m ens) k e c).1=some (.val [.str t])/\tb t=(u6n ens k e).b++w5a c/\t.size<=100010:=by
  unfold tyB at h;simp only[a0g]at h;obtain⟨_,h⟩:=h
  by_cases h3:k=3
  ·subst h3;have h:(decide (0<=e)&&decide (e < (ens.length:Int)))=true:=by simpa using h
   simp only[a0g,a0p]at h;obtain⟨n,rfl⟩: ∃n:Nat,e=(n:Int):=⟨e.toNat,by omega⟩
   have hn:n < ens.length:=by omega
   have hx:ens[n]? =some ens[n]:=a0b hn;have hz:=(hE _ (a1j hn)).n;have hb:(u6n ens 3 (n:Int)).b=tb (ens[n]).1:=by
    unfold u6n nmE;simp only[a0m,hx,if_true]
   have hr:sy.cell (sy.row (x0m ens) (n:Int)) 0=some (.str (ens[n]).1):=by rw[y2i hx];rfl
   have i0:decide (0<=(n:Int)/\(n:Int) < (ens.length:Int))=true:=x0g hn;rw[hb];generalize (ens[n]).1=s at hz hr
   by_cases h0:0 < c
   ·obtain⟨z,e1,e2,e3,e4⟩:=by8 h0 hc.2;have s1:sy.sfit s (bs [91])=true:=sfT (by simp only[x1h,a0a,a0d];omega)
    have s2:sy.sfit (s++bs [91]) z=true:=sfT (by simp only[ByteArray.size_append,x1h,a0a,a0d];omega)
    have s3:sy.sfit (s++bs [91]++z) (bs [93])=true:=sfT (by simp only[ByteArray.size_append,x1h,a0a,a0d];omega)
    refine⟨s++bs [91]++z++bs [93],?_,?_,?_⟩
    ·simp only[w9p,go1,Int.reduceEq,hq,x1f,hr,i0,a0s h0,e1,e4,s1,s2,s3]
    ·unfold w5a;rw[if_pos h0,x0y,x0y,x0y,e2];simp[z8y]
    ·simp only[ByteArray.size_append,x1h,a0a,a0d];omega
   ·refine⟨s,?_,?_,by omega⟩
    ·simp only[w9p,go1,Int.reduceEq,hq,x1f,hr,i0,decide_eq_false h0]
    ·unfold w5a;rw[if_neg h0,a0z]
  ·by_cases h2:k=2
   ·subst h2;have hb:(u6n ens 2 e).b=q4d:=rfl;rw[hb]
    by_cases h0:0 < c
    ·obtain⟨z,e1,e2,e3,e4⟩:=by8 h0 hc.2;have s1:sy.sfit (bs [98,111,111,108]) (bs [91])=true:=sfT (by simp only[x1h,a0a,a0d];omega)
     have s2:sy.sfit (bs [98,111,111,108]++bs [91]) z=true:=sfT (by simp only[ByteArray.size_append,x1h,a0a,a0d];omega)
     have s3:sy.sfit (bs [98,111,111,108]++bs [91]++z) (bs [93])=true:=sfT (by simp only[ByteArray.size_append,x1h,a0a,a0d];omega)
     refine⟨bs [98,111,111,108]++bs [91]++z++bs [93],?_,?_,?_⟩
     ·simp only[w9p,go1,Int.reduceEq,hq,a0s h0,e1,e4,s1,s2,s3]
     ·unfold w5a;rw[if_pos h0,x0y,x0y,x0y,e2];simp[z8y,q4d]
     ·simp only[ByteArray.size_append,x1h,a0a,a0d];omega
    ·refine⟨bs [98,111,111,108],?_,?_,by simp only[x1h,a0a,a0d];omega⟩
     ·simp only[w9p,go1,Int.reduceEq,hq,decide_eq_false h0]
     ·unfold w5a;rw[if_neg h0,a0z];rfl
   ·have hb:(u6n ens k e).b=kInt:=by unfold u6n;rw[if_neg h3,if_neg h2]
    rw[hb]
    by_cases h0:0 < c
    ·obtain⟨z,e1,e2,e3,e4⟩:=by8 h0 hc.2;have s1:sy.sfit (bs [105,110,116]) (bs [91])=true:=sfT (by simp only[x1h,a0a,a0d];omega)
     have s2:sy.sfit (bs [105,110,116]++bs [91]) z=true:=sfT (by simp only[ByteArray.size_append,x1h,a0a,a0d];omega)
     have s3:sy.sfit (bs [105,110,116]++bs [91]++z) (bs [93])=true:=sfT (by simp only[ByteArray.size_append,x1h,a0a,a0d];omega)
     refine⟨bs [105,110,116]++bs [91]++z++bs [93],?_,?_,?_⟩
     ·simp only[w9p,go1,hq,decide_eq_false h2,decide_eq_false h3,a0s h0,e1,e4,s1,s2,s3]
     ·unfold w5a;rw[if_pos h0,x0y,x0y,x0y,e2];simp[z8y,kInt]
     ·simp only[ByteArray.size_append,x1h,a0a,a0d];omega
    ·refine⟨bs [105,110,116],?_,?_,by simp only[x1h,a0a,a0d];omega⟩
     ·simp only[w9p,go1,hq,decide_eq_false h2,decide_eq_false h3,decide_eq_false h0]
     ·unfold w5a;rw[if_neg h0,a0z];rfl
 obtain⟨t,h1,h2,h3⟩:=core;refine⟨t,cO rfl ((w9p ..).2.trans h1),?_,h3⟩;rw[h2];show _=(u6n ens k e).w++x0l (lnP c);rw[v6t hc.2];rfl
def v6w (ens:List En)(d:Dc):x0l (dcP ens d)=tb d.n++([58,32]++(x0l (tyP ens d.k d.e d.c)++(if tb d.o= []then[]else[32,119,104,101,110,32]++x0l (onP d.o d.q)))):=by
 have e1:x0l (dcP ens d)=tb d.n++([58]++(32::x0l (tyP ens d.k d.e d.c++whP d.o d.q))):=rfl;rw[e1,x0t];unfold whP;split
 ·rfl
 ·rfl
def v3q (ens:List En)(hE: ∀x∈ens,EnOK x)(d:Dc)(h:x3z ens d=true)(hd:DcOK d): ∃t,cF 63 [.d (.sl 2 (x0m ens)),dV d]=some (.val [.str t])/\tb t=x0l (dcP ens d)/\t.size<=1000000:=by
 have hty:tyB ens d.k d.e d.c=true:=by
  unfold x3z at h;simp only[a0g]at h;exact h.1.2
 obtain⟨y,h1,h2,h3⟩:=w6l ens hE hty;obtain⟨w,h4,h5,h6⟩:=k6a d.o d.q hd.o hd.q;have hz:=hd.n;rw[v6w];obtain⟨n,k,e,c,o,q⟩:=d;simp only at h1 h2 h3 h4 h5 h6 hz ⊢;have s1:sy.sfit n (bs [58,32])=true:=sfT (by simp only[x1h,a0a,a0d];omega)
 have s2:sy.sfit (n++bs [58,32]) y=true:=sfT (by simp only[ByteArray.size_append,x1h,a0a,a0d];omega)
 have s3:sy.sfit (n++bs [58,32]++y) (bs [32,119,104,101,110,32])=true:=sfT (by simp only[ByteArray.size_append,x1h,a0a,a0d];omega)
 have s4:sy.sfit (n++bs [58,32]++y++bs [32,119,104,101,110,32]) w=true:=sfT (by simp only[ByteArray.size_append,x1h,a0a,a0d];omega)
 have e1:(o.toList == (bs []).toList)=decide (tb o= []):=x1v _ _;have core: ∃t,(g63 (x0m ens) n k e c o q).1=some (.val [.str t])/\tb t=tb n++([58,32]++(x0l (tyP ens k e c)++(if tb o= []then[]else[32,119,104,101,110,32]++x0l (onP o q))))/\t.size<=1000000:=by
  by_cases ho:tb o= []
  ·refine⟨n++bs [58,32]++y,?_,?_,?_⟩
   ·simp only[g63,go1,s1,h1,s2,e1,a0s ho]
   ·rw[if_pos ho,x0y,x0y,h2,a0z,List.append_assoc];rfl
   ·simp only[ByteArray.size_append,x1h,a0a,a0d];omega
  ·refine⟨n++bs [58,32]++y++bs [32,119,104,101,110,32]++w,?_,?_,?_⟩
   ·simp only[g63,go1,s1,h1,s2,s3,s4,h4,e1,decide_eq_false ho]
   ·rw[if_neg ho,x0y,x0y,x0y,x0y,h2,h5,List.append_assoc,List.append_assoc,List.append_assoc];rfl
   ·simp only[ByteArray.size_append,x1h,a0a,a0d];omega
 obtain⟨t,q1,q2,q3⟩:=core;exact⟨t,cO rfl ((g63 ..).2.trans q1),q2,q3⟩
def z4t (ens:List En): ∀r:List Dc,x0l (q0d ens r)=jnS [59,32] (r.map fun d=>x0l (dcP ens d))
 | []=>rfl
 |d::r=>by
  have:=z4t ens r;show[59]++(32::x0l (dcP ens d++q0d ens r))=_;rw[x0t,this];rfl
def v6v (ens:List En)(r:List Dc):x0l (dsP ens r)=jnT [59,32] (r.map fun d=>x0l (dcP ens d)):=by
 match r with
 | []=>rfl
 |d::r=>rw[dsP,x0t,z4t];rfl
def y4b (ens:List En)(hE: ∀x∈ens,EnOK x)(r:List Dc)(hr:r.length<=1000)(h: ∀d∈r,x3z ens d=true/\DcOK d): ∃t,cF 29 [.d (.sl 2 (x0m ens)), .d (.sl 6 (x0j r))]=some (.val [.str t])/\tb t=x0l (dsP ens r)/\t.size<=1000002*r.length:=by
 have core: ∃p,(g29 (x0m ens) (x0j r)).1=some p/\ ∃t,p= .val [.str t]/\tb t=jnT [59,32] (r.map fun d=>x0l (dcP ens d))/\t.size<=1000002*r.length:=by
  simp only[g29];refine x5n (fun x:Nat × BA=>[.sl 2 (x0m ens), .sl 6 (x0j r), .str x.2, .int .i64 (x.1:Int)]) (fun x=>x.1<=r.length/\tb x.2=jnT [59,32] ((r.take x.1).map fun d=>x0l (dcP ens d))/\x.2.size<=1000002*x.1) (fun x=>r.length - x.1) (fun x hx=> ?_) (0,bs []) ⟨a0w _,rfl,a0q _⟩
  obtain⟨i,s⟩:=x;obtain⟨h1,h2,h3⟩:=hx;simp only at h1 h2 h3 ⊢
  by_cases hlt:i < r.length
  ·left
   have hx:=a0b hlt;obtain⟨g1,g2⟩:=h _ (a1j hlt);obtain⟨t,q1,q2,q3⟩:=v3q ens hE _ g1 g2;have hr':=x3t hx;have w1:IntKind.i64.wrap ((i:Int)+1)=((i+1:Nat):Int):=by rw[x0v (by omega) (by omega)];omega
   generalize r[i]=d at hx g1 g2 q1 q2 hr'
   by_cases hi0:i=0
   ·subst hi0;refine⟨(1,s++t),?_,⟨hlt,?_,?_⟩,by simp only;omega⟩
    ·have sf:sy.sfit s t=true:=sfT (by omega)
     have l0:decide ((0:Int) < (r.length:Int))=true:=x0i hlt;have i0:decide ((0:Int)<=0/\(0:Int) < (r.length:Int))=true:=x0g hlt;have hr':sy.row (x0j r) 0=_:=hr';have w1:IntKind.i64.wrap ((0:Int)+1)=((1:Nat):Int):=w1;simp only[go1,x0k,l0,i0,hr',y1h,oD,q1,show((0:Nat):Int)=0 from rfl,Int.lt_irrefl,sf,w1]
    ·simp only;rw[x0y,h2,q2,y3l hx];simp[jnT,jnS]
    ·simp only[ByteArray.size_append];omega
   ·refine⟨(i+1,s++bs [59,32]++t),?_,⟨hlt,?_,?_⟩,by simp only;omega⟩
    ·have sf:sy.sfit s (bs [59,32])=true:=sfT (by simp only[x1h,a0a,a0d];omega)
     have sf2:sy.sfit (s++bs [59,32]) t=true:=sfT (by simp only[ByteArray.size_append,x1h,a0a,a0d];omega)
     have l0:=x0i hlt;have i0:=x0g hlt;have z0:decide ((0:Int) < (i:Int))=true:=a0s (by omega)
     simp only[go1,x0k,l0,i0,hr',y1h,oD,q1,z0,sf,sf2,w1]
    ·simp only;rw[x0y,x0y,h2,q2,y3l hx,List.map_append,List.map_singleton,u9b _ _ (by simpa using v5k h1 hi0),List.append_assoc]
     rfl
    ·simp only[ByteArray.size_append,x1h,a0a,a0d];omega
  ·right
   have:i=r.length:=by omega
   subst this;rw[a0u]at h2;refine⟨_,?_,s,rfl,h2,h3⟩;simp only[go1,x0k,x0f]
 obtain⟨p,h1,t,rfl,h2,h3⟩:=core;exact⟨t,cO rfl ((g29 ..).2.trans h1),by rw[h2,v6v],h3⟩
def v3o (k n:Int)(s:BA)(o:Int)(a:List BA)(u:List Ex)(h1:x3c (.mk k n s o a u)=true)(h2:x9c (.mk k n s o a u)=true)(hf:(Ex.mk k n s o a u).j0x)(hr:(Ex.mk k n s o a u).rng): ∃t,cF 30 [kE k n s o (x0b a) (Ex.rows u)]=some (.val [.str t])/\tb t=x0l (pcs (.mk k n s o a u))/\t.size<=60000000:=by
 have hz:(Ex.mk k n s o a u).size<=60:=by
  unfold x3c at h1;simp only[a0g,a0p]at h1;exact h1.1
 obtain⟨t,q1,q2,q3⟩:=w1a 60 k n s o a u hz (by omega) h2 hf hr
 have q0:=u2y k n s o a u (by omega) hf
 rw[h1,h2]at q0;refine⟨t,?_,q2,by omega⟩
 refine cO rfl ?_;rw[(g30 ..).2];simp only[g30,go1,q0,q1,Bool.and_self]
def v1o (x:Eqn):q8g x= [32,32]++(jnT [44,32] (x.ns.map tb)++([32,61,32]++(x0l (pcs x.e)++[59,10]))):=by
 have e1:x0l (k8a x)=32::32::x0l (v2a 1 x.ns++(none::mk 61::none::(pcs x.e++[mk 59]))):=rfl;have e2:x0l (none::mk 61::none::(pcs x.e++[mk 59]))=32::([61]++(32::x0l (pcs x.e++[mk 59]))):=rfl;unfold q8g;rw[e1,x0t,e2,x0t,z4s 1 (by decide)]
 have e3:x0l [mk 59]= [59]:=rfl;rw[e3];simp
def z4j (x:Eqn): ∀r,y8c (r++[x])=y8c r++q8g x
 | []=>by simp[y8c]
 |y::r=>by simp only[a0f,y8c,z4j x r,List.append_assoc]
def k0q (a:D)(r:List D):sy.skip 1 (a::r)=r:=rfl
def sfS {a:BA}{l:List UInt8}(h:a.size<=4000000000000000000)(hl:l.length<=100):sy.sfit a (bs l)=true:=sfT (by rw[x1h];omega)
def sfA {a b:BA}(h:a.size<=4000000000000000000)(hl:b.size<=4000000000000000000):sy.sfit a b=true:=sfT (by omega)
def szS {a:BA}{l:List UInt8}{k:Nat}(h:a.size<=k):(a++bs l).size<=k+l.length:=by rw[ByteArray.size_append,x1h];omega
def szA {a b:BA}{k m:Nat}(h:a.size<=k)(hb:b.size<=m):(a++b).size<=k+m:=by rw[ByteArray.size_append];omega
structure EqF (x:Eqn):Prop where
 b:eqB x=true
 ok:EqOK x
 rng:x.e.rng
 ns:x.ns.length<=1000000
structure NdF (ens:List En) (n:Nd):Prop where
 k:NodeK ens n
 ok:NdOK n
 ins:n.ins.length<=1000
 outs:n.outs.length<=1000
 vars:n.vars.length<=1000
 eqs:n.eqs.length<=1000
 eo: ∀x∈n.eqs,EqF x
def v6u (ens:List En)(n:Nd):x0l (k2h ens n)++[10]= [110,111,100,101,32]++(tb n.n++([40]++(x0l (dsP ens n.ins)++([41,32,114,101,116,117,114,110,115,32,40]++(x0l (dsP ens n.outs)++[41,10]))))):=by
 have e1:x0l (k2h ens n)=u1a++(32::(tb n.n++([40]++x0l (dsP ens n.ins++(mk 41::none::wd w5e::none::mk 40::(dsP ens n.outs++[mk 41])))))):=rfl;have e2:x0l (mk 41::none::wd w5e::none::mk 40::(dsP ens n.outs++[mk 41]))= [41]++(32::(w5e++(32::([40]++x0l (dsP ens n.outs++[mk 41]))))):=rfl;have e3:x0l [mk 41]= [41]:=rfl;rw[e1,x0t,e2,x0t,e3];simp[u1a,w5e]
def v6s (ens:List En)(d:Dc)(r:List Dc):q9v ens (d::r)= [118,97,114,32]++(x0l (dsP ens (d::r))++[59,10]):=by
 have e1:x0l (k7h ens (d::r))=q8n++(32::x0l (dsP ens (d::r)++[mk 59])):=rfl;have e3:x0l [mk 59]= [59]:=rfl;unfold q9v;simp only;rw[e1,x0t,e3];simp[q8n]
def w0b (nm:BA)(I O V:LL)(eqs:List Eqn)(hl4:eqs.length<=1000)(heo: ∀x∈eqs,EqF x)(S0:BA)(hS:S0.size<=100000000000):
  ∃p,x5f (fun ds10=>(opS (sy.cell ds10 0)).bind fun s11=>(opI (sy.cell ds10 1) .i64).bind fun n12=>(opS (sy.cell ds10 2)).bind fun s13=>(opL (sy.cell ds10 3) 6).bind fun l14=>(opL (sy.cell ds10 4) 6).bind fun l15=>(opL (sy.cell ds10 5) 6).bind fun l16=>(opL (sy.cell ds10 6) 7).bind fun l17=>
   bif decide (n12 < (l17.length:Int))then
    bif sy.sfit s11 (bs [32,32])then
     bif decide (0<=n12/\n12 < (l17.length:Int))then
      (opL (sy.cell (sy.row l17 n12) 0) 1).bind fun l18=>(cF 13 [.d (.sl 1 l18)]).bind fun p19=>(opS (sy.cell p19.leaves 0)).bind fun s21=>
       bif sy.sfit (s11++bs [32,32]) s21 then
        bif sy.sfit (s11++bs [32,32]++s21) (bs [32,61,32])then
         bif decide (0<=n12/\n12 < (l17.length:Int))then
          oE sy (sy.skip 1 (sy.row l17 n12)) 0 fun n22 n23 s24 n25 l26 l27=>(cF 30 [kE n22 n23 s24 n25 l26 l27]).bind fun p28=>(opS (sy.cell p28.leaves 0)).bind fun s30=>
            bif sy.sfit (s11++bs [32,32]++s21++bs [32,61,32]) s30 then
             bif sy.sfit (s11++bs [32,32]++s21++bs [32,61,32]++s30) (bs [59,10])then
              some (.inl [.str (s11++bs [32,32]++s21++bs [32,61,32]++s30++bs [59,10]), .int .i64 (IntKind.i64.wrap (n12+1)), .str s13, .sl 6 l14, .sl 6 l15, .sl 6 l16, .sl 7 l17])
             else none
            else none
         else none
        else none
       else none
     else none
    else none
   else bif sy.sfit s11 (bs [116,101,108,10])then some (.inr (PRes.val [.str (s11++bs [116,101,108,10])]))else none)
   [.str S0, .int .i64 0, .str nm, .sl 6 I, .sl 6 O, .sl 6 V, .sl 7 (x1z eqs)]=some p/\ ∃t,p= .val [.str t]/\tb t=tb S0++(y8c eqs++(v2i++[10]))/\t.size<=900000000000000:=by
 refine x5n (fun x:Nat × BA=>[.str x.2, .int .i64 (x.1:Int), .str nm, .sl 6 I, .sl 6 O, .sl 6 V, .sl 7 (x1z eqs)]) (fun x=>x.1<=eqs.length/\tb x.2=tb S0++y8c (eqs.take x.1)/\x.2.size<=100000000000+200000000000*x.1) (fun x=>eqs.length - x.1) (fun x hx=> ?_) (0,S0) ⟨a0w _,by simp[y8c],by simp only;omega⟩
 obtain⟨i,s⟩:=x;obtain⟨h1,h2,h3⟩:=hx;simp only at h1 h2 h3 ⊢
 by_cases hlt:i < eqs.length
 ·left
  have hx:=a0b hlt;obtain⟨g1,g2,g9900003,g9900004⟩:=heo _ (a1j hlt);have hr:=x8v hx;have w1:IntKind.i64.wrap ((i:Int)+1)=((i+1:Nat):Int):=by rw[x0v (by omega) (by omega)];omega
  generalize eqs[i]=x at hx g1 g2 g9900003 g9900004 hr;obtain⟨ns,k,m,w,o,a,u⟩:=x;obtain⟨_,p2,p3,_⟩:=y5l g1;obtain⟨t1,q1,q2,q3⟩:=w0z ns g9900004 g2.st;obtain⟨t2,r1,r2,r3⟩:=v3o k m w o a u p2 p3 g2.fn g9900003;have g9900004:ns.length<=1000000:=g9900004;have y1:=szS (l:=[32,32]) h3;have y2:=szA y1 q3;have y3:=szS (l:=[32,61,32]) y2;have y4:=szA y3 r3;have y5:=szS (l:=[59,10]) y4;simp only[a0a,a0d]at y1 y2 y3 y4 y5;have f1:=sfS (l:=[32,32]) (a1b h3 (by omega)) (by decide)
  have f2:=sfA (b:=t1) (a1b y1 (by omega)) (by omega)
  have f3:=sfS (l:=[32,61,32]) (a1b y2 (by omega)) (by decide)
  have f4:=sfA (b:=t2) (a1b y3 (by omega)) (by omega)
  have f5:=sfS (l:=[59,10]) (a1b y4 (by omega)) (by decide)
  have l0:=x0i hlt;have i0:=x0g hlt;refine⟨(i+1,s++bs [32,32]++t1++bs [32,61,32]++t2++bs [59,10]),?_,⟨hlt,?_,?_⟩,by simp only;omega⟩
  ·simp only[go1,x1d,l0,i0,hr,v7b,Ex.row,k0q,oE,q1,r1,f1,f2,f3,f4,f5,w1]
  ·simp only;rw[x0y,x0y,x0y,x0y,x0y,h2,q2,r2,y3l hx,z4j,v1o];simp[z8y]
  ·refine a1b y5 ?_;show _<=100000000000+200000000000*(i+1);omega
 ·right
  have:i=eqs.length:=by omega
  subst this;rw[a0u]at h2;have f1:=sfS (l:=[116,101,108,10]) (a1b h3 (by omega)) (by decide)
  have y1:=szS (l:=[116,101,108,10]) h3;simp only[a0a,a0d]at y1;refine⟨_,?_,s++bs [116,101,108,10],rfl,?_,by omega⟩
  ·simp only[go1,x1d,x0f,f1]
  ·rw[x0y,h2,List.append_assoc];rfl
def v3m (ens:List En)(hE: ∀x∈ens,EnOK x)(n:Nd)(h:NdF ens n): ∃t,cF 14 [.d (.sl 2 (x0m ens)),nV n]=some (.val [.str t])/\tb t=q9w ens n/\t.size<=900000000000000:=by
 have hdc:=h.ok.dc;have hi: ∀d∈n.ins,x3z ens d=true/\DcOK d:=fun d hd=>⟨h.k.ins d hd,hdc d (by unfold x6t;simp[hd])⟩
 have ho: ∀d∈n.outs,x3z ens d=true/\DcOK d:=fun d hd=>⟨h.k.outs d hd,hdc d (by unfold x6t;simp[hd])⟩
 have hv: ∀d∈n.vars,x3z ens d=true/\DcOK d:=fun d hd=>⟨h.k.vars d hd,hdc d (by unfold x6t;simp[hd])⟩
 obtain⟨y1,a1,a2,a3⟩:=y4b ens hE n.ins h.ins hi;obtain⟨y2,b1,b2,b3⟩:=y4b ens hE n.outs h.outs ho;obtain⟨y3,c1,c2,c3⟩:=y4b ens hE n.vars h.vars hv;have hl1:=h.ins;have hl2:=h.outs;have hl3:=h.vars;have hl4:=h.eqs;have hnm:=h.ok.nm;have heo:=h.eo;have ehd:=v6u ens n;have evr:=v6s ens;unfold q9w;rw[ehd];obtain⟨nm,ins,outs,vars,eqs⟩:=n;simp only at a1 a2 a3 b1 b2 b3 c1 c2 c3 hl1 hl2 hl3 hl4 hnm heo ⊢;have z1:(bs [110,111,100,101,32]++nm).size<=200000:=by have:=szA (a:=bs [110,111,100,101,32]) (k:=5) (by rw[x1h];decide) hnm;omega
 have z2:=szS (l:=[40]) z1;have z3:=szA z2 a3;have z4:=szS (l:=[41,32,114,101,116,117,114,110,115,32,40]) z3;have z5:=szA z4 b3;have z6:=szS (l:=[41,10]) z5;have z7:=szS (l:=[118,97,114,32]) z6;have z8:=szA z7 c3;have z9:=szS (l:=[59,10]) z8;have z10:=szS (l:=[108,101,116,10]) z9;have z11:=szS (l:=[108,101,116,10]) z6;simp only[a0a,a0d]at z2 z3 z4 z5 z6 z7 z8 z9 z10 z11;have f1:sy.sfit (bs [110,111,100,101,32]) nm=true:=sfT (by rw[x1h];simp only[a0a,a0d];omega)
 have f2:=sfS (l:=[40]) (a1b z1 (by omega)) (by decide)
 have f3:=sfA (b:=y1) (a1b z2 (by omega)) (by omega)
 have f4:=sfS (l:=[41,32,114,101,116,117,114,110,115,32,40]) (a1b z3 (by omega)) (by decide)
 have f5:=sfA (b:=y2) (a1b z4 (by omega)) (by omega)
 have f6:=sfS (l:=[41,10]) (a1b z5 (by omega)) (by decide)
 have f7:=sfS (l:=[118,97,114,32]) (a1b z6 (by omega)) (by decide)
 have f8:=sfA (b:=y3) (a1b z7 (by omega)) (by omega)
 have f9:=sfS (l:=[59,10]) (a1b z8 (by omega)) (by decide)
 have f10:=sfS (l:=[108,101,116,10]) (a1b z9 (by omega)) (by decide)
 have f11:=sfS (l:=[108,101,116,10]) (a1b z6 (by omega)) (by decide)
 have core: ∃p,(g14 (x0m ens) nm (x0j ins) (x0j outs) (x0j vars) (x1z eqs)).1=some p/\ ∃t,p= .val [.str t]/\tb t=([110,111,100,101,32]++(tb nm++([40]++(x0l (dsP ens ins)++([41,32,114,101,116,117,114,110,115,32,40]++(x0l (dsP ens outs)++[41,10]))))))++(q9v ens vars++(v2j++([10]++(y8c eqs++(v2i++[10])))))/\t.size<=900000000000000:=by
  simp only[g14];cases vars with
  |nil=>
   simp only[go1,f1,f2,f3,f4,f5,f6,f11,a1,b1,x0k,a0d,show((0:Nat):Int)=0 from rfl,Int.lt_irrefl];obtain⟨p,q1,t,q2,q3,q4⟩:=w0b nm (x0j ins) (x0j outs) (x0j []) eqs hl4 heo (bs [110,111,100,101,32]++nm++bs [40]++y1++bs [41,32,114,101,116,117,114,110,115,32,40]++y2++bs [41,10]++bs [108,101,116,10]) (a1b z11 (by omega))
   refine⟨p,q1,t,q2,?_,q4⟩;rw[q3];simp only[x0y,a2,b2,List.append_assoc];rfl
  |cons d r=>
   have l0:decide ((0:Int) < (((d::r).length:Nat):Int))=true:=a0s (by simp only[a0a];omega)
   simp only[go1,f1,f2,f3,f4,f5,f6,f7,f8,f9,f10,a1,b1,c1,x0k,l0];obtain⟨p,q1,t,q2,q3,q4⟩:=w0b nm (x0j ins) (x0j outs) (x0j (d::r)) eqs hl4 heo (bs [110,111,100,101,32]++nm++bs [40]++y1++bs [41,32,114,101,116,117,114,110,115,32,40]++y2++bs [41,10]++bs [118,97,114,32]++y3++bs [59,10]++bs [108,101,116,10]) (a1b z10 (by omega))
   refine⟨p,q1,t,q2,?_,q4⟩;rw[q3,evr];simp only[x0y,a2,b2,c2,List.append_assoc];rfl
 obtain⟨p,q1,t,rfl,q2,q3⟩:=core;exact⟨t,cO rfl ((g14 ..).2.trans q1),q2,q3⟩
def v1p (e:En):q9x e= [101,110,117,109,32]++(tb e.1++([32,123,32]++(jnT [44,32] (e.2.map tb)++[32,125,59,10]))):=by
 have e1:x0l (q8w e)=u5h++(32::(tb e.1++(32::([123]++(32::x0l (v2a 2 e.2++[none,mk 125,mk 59])))))):=rfl;have e2:x0l [none,mk 125,mk 59]= [32,125,59]:=rfl;unfold q9x;rw[e1,x0t,e2,z4s 2 (by decide)]
 simp[u5h]
def z4k (x:En): ∀r,z6c (r++[x])=z6c r++q9x x
 | []=>by simp[z6c]
 |y::r=>by simp only[a0f,z6c,z4k x r,List.append_assoc]
def z4i (ens:List En)(x:Nd): ∀r,z3l ens (r++[x])=z3l ens r++q9w ens x
 | []=>by simp[z3l]
 |y::r=>by simp only[a0f,z3l,z4i ens x r,List.append_assoc]
def v3k (ens:List En)(nds:List Nd)(hc:y2l ens nds=0)(hl1:ens.length<=1000)(hl2:nds.length<=1000)(hE: ∀x∈ens,EnOK x/\x.2.length<=1000000)(hN: ∀n∈nds,NdF ens n):
  ∃t,cF 7 [.agg [.d (.sl 2 (x0m ens)), .d (.sl 5 (x1k nds))]]=some (.val [.str t])/\tb t=k8x ens nds/\t.size<=4000000000000000000:=by
 have hck:=q2q ens nds (by omega) (by omega) (fun x hx=>(hE x hx).1) fun n hn=>(hN n hn).ok
 rw[hc]at hck;have inner: ∀(S0:BA),S0.size<=1000000000000000-> ∃p,x5f (fun ds14=>(opS (sy.cell ds14 0)).bind fun s15=>(opI (sy.cell ds14 1) .i64).bind fun n16=>(opL (sy.cell ds14 2) 2).bind fun l17=>(opL (sy.cell ds14 3) 5).bind fun l18=>
     bif decide (n16 < (l18.length:Int))then
      bif decide (0<=n16/\n16 < (l18.length:Int))then
       (opS (sy.cell (sy.row l18 n16) 0)).bind fun s19=>(opL (sy.cell (sy.row l18 n16) 1) 6).bind fun l20=>(opL (sy.cell (sy.row l18 n16) 2) 6).bind fun l21=>(opL (sy.cell (sy.row l18 n16) 3) 6).bind fun l22=>(opL (sy.cell (sy.row l18 n16) 4) 7).bind fun l23=>
        (cF 14 [.d (.sl 2 l17), .agg [.d (.str s19), .d (.sl 6 l20), .d (.sl 6 l21), .d (.sl 6 l22), .d (.sl 7 l23)]]).bind fun p24=>(opS (sy.cell p24.leaves 0)).bind fun s26=>
         bif sy.sfit s15 s26 then some (.inl [.str (s15++s26), .int .i64 (IntKind.i64.wrap (n16+1)), .sl 2 l17, .sl 5 l18])else none
      else none
     else some (.inr (Sum.inr (PRes.val [.str s15]):List D ⊕ PRes))) [.str S0, .int .i64 0, .sl 2 (x0m ens), .sl 5 (x1k nds)]=some p/\ ∃t,p= .inr (.val [.str t])/\tb t=tb S0++z3l ens nds/\t.size<=4000000000000000000:=by
  intro S0 hS;refine x5n (fun x:Nat × BA=>[.str x.2, .int .i64 (x.1:Int), .sl 2 (x0m ens), .sl 5 (x1k nds)]) (fun x=>x.1<=nds.length/\tb x.2=tb S0++z3l ens (nds.take x.1)/\x.2.size<=1000000000000000+900000000000000*x.1) (fun x=>nds.length - x.1) (fun x hx=> ?_) (0,S0) ⟨a0w _,by simp[z3l],by simp only;omega⟩
  obtain⟨i,s⟩:=x;obtain⟨h1,h2,h3⟩:=hx;simp only at h1 h2 h3 ⊢
  by_cases hlt:i < nds.length
  ·left
   have hx:=a0b hlt;obtain⟨t,q1,q2,q3⟩:=v3m ens (fun x hx=>(hE x hx).1) _ (hN _ (a1j hlt))
   have hr:=x3q hx;have w1:IntKind.i64.wrap ((i:Int)+1)=((i+1:Nat):Int):=by rw[x0v (by omega) (by omega)];omega
   generalize nds[i]=x at hx hr q1 q2;have f1:=sfA (b:=t) (a1b h3 (by omega)) (by omega)
   have l0:=x0i hlt;have i0:=x0g hlt;have y1:=szA h3 q3;refine⟨(i+1,s++t),?_,⟨hlt,?_,?_⟩,by simp only;omega⟩
   ·simp only[go1,x0r,l0,i0,hr,y3j,q1,f1,w1]
   ·simp only;rw[x0y,h2,q2,y3l hx,z4i,List.append_assoc]
   ·refine a1b y1 ?_;show _<=1000000000000000+900000000000000*(i+1);omega
  ·right
   have:i=nds.length:=by omega
   subst this;rw[a0u]at h2;refine⟨_,?_,s,rfl,h2,by omega⟩
   simp only[go1,x0r,x0f]
 have core: ∃p,(g7 (x0m ens) (x1k nds)).1=some p/\ ∃t,p= .val [.str t]/\tb t=k8x ens nds/\t.size<=4000000000000000000:=by
  simp only[g7];simp only[hck,go1];refine x5n (fun x:Nat × BA=>[.str x.2, .int .i64 (x.1:Int), .sl 2 (x0m ens), .sl 5 (x1k nds)]) (fun x=>x.1<=ens.length/\tb x.2=z6c (ens.take x.1)/\x.2.size<=200000000000*x.1) (fun x=>ens.length - x.1) (fun x hx=> ?_) (0,bs []) ⟨a0w _,by simp[z6c,z8y],a0q _⟩
  obtain⟨i,s⟩:=x;obtain⟨h1,h2,h3⟩:=hx;simp only at h1 h2 h3 ⊢
  by_cases hlt:i < ens.length
  ·left
   have hx:=a0b hlt;obtain⟨g1,g2⟩:=hE _ (a1j hlt);have hr:=y2i hx;have w1:IntKind.i64.wrap ((i:Int)+1)=((i+1:Nat):Int):=by rw[x0v (by omega) (by omega)];omega
   generalize ens[i]=e at hx hr g1 g2;obtain⟨t,q1,q2,q3⟩:=w0z e.2 g2 g1.c;have hz:=g1.n;have y1:=szS (l:=[101,110,117,109,32]) h3;have y2:=szA y1 hz;have y3:=szS (l:=[32,123,32]) y2;have y4:=szA y3 q3;have y5:=szS (l:=[32,125,59,10]) y4;simp only[a0a,a0d]at y1 y2 y3 y4 y5;have f1:=sfS (l:=[101,110,117,109,32]) (a1b h3 (by omega)) (by decide)
   have f2:=sfA (b:=e.1) (a1b y1 (by omega)) (by omega)
   have f3:=sfS (l:=[32,123,32]) (a1b y2 (by omega)) (by decide)
   have f4:=sfA (b:=t) (a1b y3 (by omega)) (by omega)
   have f5:=sfS (l:=[32,125,59,10]) (a1b y4 (by omega)) (by decide)
   have l0:=x0i hlt;have i0:=x0g hlt;refine⟨(i+1,s++bs [101,110,117,109,32]++e.1++bs [32,123,32]++t++bs [32,125,59,10]),?_,⟨hlt,?_,?_⟩,by simp only;omega⟩
   ·simp only[go1,x1f,l0,i0,hr,k0q,q1,f1,f2,f3,f4,f5,w1]
   ·simp only;rw[x0y,x0y,x0y,x0y,x0y,h2,q2,y3l hx,z4k,v1p];simp[z8y]
   ·refine a1b y5 ?_;show _<=200000000000*(i+1);omega
  ·right
   have:i=ens.length:=by omega
   subst this;rw[a0u]at h2;obtain⟨p,q1,t,q2,q3,q4⟩:=inner s (by omega)
   refine⟨_,?_,t,rfl,by rw[q3,h2];rfl,q4⟩
   subst q2;simp only[go1,x1f,x0f];exact q1
 obtain⟨p,q1,t,rfl,q2,q3⟩:=core;exact⟨t,cO rfl ((g7 ..).2.trans q1),q2,q3⟩
theorem y8w: ∀a b:List Ex,Ex.j0l (a++b)↔Ex.j0l a/\Ex.j0l b
 | [],b=>by simp[Ex.j0l]
 |e::a,b=>by simp[Ex.j0l,y8w a b,and_assoc]
def TN (l:List Tk):Prop:= ∀j,(tkA l j).n < 9223372036854775808
theorem n0:(0:Int) < 9223372036854775808:=by decide
theorem n1:(1:Int) < 9223372036854775808:=by decide
def HG (p:PR):Prop:= ∀nt i e j,p nt i= .ok e j->e.rng
section
variable {l : List Tk} (ht : TN l) {n : Nat} {p : PR} (hp : HG p)
include ht hp
theorem z7h (side:Nt)(a m i:Nat)(e:Ex)(j:Nat)(h:x5w l n p side a m i= .ok e j):e.rng:=by
 unfold x5w at h;obtain⟨e1,k,h1,h⟩:=x0d h;refine x3m (fun x:Ex × Nat=>x.1.rng) (fun r j=>r.rng) (fun x y hx hs=> ?_) (fun x r j hx hs=> ?_) n (e1,k) e j (hp _ _ _ _ h1) h
 ·obtain⟨e2,i2⟩:=x;rw[x6y]at hs;split at hs
  ·cases hs
  ·split at hs<;>cases hs
   have:=hp _ _ _ _ ‹_›
   (simp only[x5e,Ex.rng,Ex.j0l]at*;simp_all [n0])
 ·obtain⟨e2,i2⟩:=x;rw[x6y]at hs;split at hs
  ·cases hs;exact hx
  ·split at hs<;>cases hs
theorem v8f (en:BA)(i:Nat)(e:List Ex)(j:Nat)(h:y3t l n p en i= .ok e j):Ex.j0l e:=by
 unfold y3t at h;obtain⟨e1,k,h1,h⟩:=x0d h;have h0:=hp _ _ _ _ h1;refine x3m (fun x:List Ex × Nat=>Ex.j0l x.1) (fun r j=>Ex.j0l r) (fun x y hx hs=> ?_) (fun x r j hx hs=> ?_) n ([e1],k) e j (by(simp only[x5e,Ex.j0l]at*;simp_all [])) h
 ·obtain⟨e2,i2⟩:=x;rw[y0v]at hs;split at hs
  ·split at hs<;>cases hs
   have:=hp _ _ _ _ ‹_›
   (simp only[x5e,Ex.j0l,y8w]at*;simp_all [])
  ·cases hs
 ·obtain⟨e2,i2⟩:=x;rw[y0v]at hs;split at hs
  ·split at hs<;>cases hs
  ·obtain⟨_,k2,h2,h⟩:=x0d (Sum.inr.inj hs);have:=x1m h2;cases h
   (simp only[]at*;simp_all [])
theorem q2u (i:Nat)(e:Ex)(j:Nat)(h:y1k l n p i= .ok e j):e.rng:=by
 unfold y1k at h;obtain⟨e1,k,h1,h⟩:=x0d h;refine x3m (fun x:Ex × Nat=>x.1.rng) (fun r j=>r.rng) (fun x y hx hs=> ?_) (fun x r j hx hs=> ?_) n (e1,k) e j (hp _ _ _ _ h1) h
 ·obtain⟨e2,i2⟩:=x;rw[x9n]at hs;split at hs
  ·split at hs<;>cases hs
   obtain⟨_,k2,h2,h⟩:=x0d ‹_›;obtain⟨_,k3,h3,h⟩:=x0d h;have:=hp _ _ _ _ h2;have:=x1m h3;cases h
   (simp only[x5e,ex,Ex.rng,Ex.j0l]at*;simp_all [n0])
  ·split at hs
   ·split at hs<;>cases hs
    (simp only[x5e,Ex.rng,Ex.j0l]at*;simp_all [n0])
   ·cases hs
 ·obtain⟨e2,i2⟩:=x;rw[x9n]at hs;split at hs
  ·split at hs<;>cases hs
  ·split at hs
   ·split at hs<;>cases hs
   ·cases hs;exact hx
theorem u9z (nm:BA)(es:List Ex)(i:Nat)(e:Ex)(j:Nat)(he:Ex.j0l es)(h:y1n l p nm es i= .ok e j):e.rng:=by
 unfold y1n at h;split at h
 ·obtain⟨_,k2,h2,h⟩:=x0d h;have:=hp _ _ _ _ h2;cases h
  (simp only[x5e,Ex.rng,Ex.j0l,y8w]at*;simp_all [n0,n1])
 ·cases h
  (simp only[x5e,Ex.rng]at*;simp_all [n0])
theorem q0v (i:Nat)(e:Ex)(j:Nat)(h:x7q l n p i= .ok e j):e.rng:=by
 unfold x7q at h;split at h
 ·cases h;(simp only[x5e,Ex.rng,Ex.j0l]at*;simp_all [n0,n1])
 split at h
 ·cases h;(simp only[x5e,ex,Ex.rng,Ex.j0l]at*;simp_all [n0])
 split at h
 ·obtain⟨_,k2,h2,h⟩:=x0d h;have:=v8f ht hp _ _ _ _ h2;cases h
  (simp only[x5e,ex,Ex.rng]at*;simp_all [n0])
 split at h
 ·unfold x8i at h;obtain⟨_,k1,h1,h⟩:=x0d h;have:=hp _ _ _ _ h1;split at h
  ·obtain⟨_,k2,h2,h⟩:=x0d h;obtain⟨_,k3,h3,h⟩:=x0d h;obtain⟨_,k4,h4,h⟩:=x0d h;obtain⟨_,k5,h5,h⟩:=x0d h;obtain⟨_,k6,h6,h⟩:=x0d h;have:=x1m h2;have:=hp _ _ _ _ h3;have:=x1m h4;have:=hp _ _ _ _ h5;have:=x1m h6;cases h
   (simp only[x5e,ex,Ex.rng,Ex.j0l]at*;simp_all [n0])
  ·obtain⟨_,k2,h2,h⟩:=x0d h;have:=x1m h2;cases h
   (simp only[x5e,ex]at*;simp_all [])
 split at h
 ·unfold x9v at h;obtain⟨nm,k1,h1,h⟩:=x0d h;obtain⟨_,k2,h2,h⟩:=x0d h;obtain⟨q,k3,h3,h⟩:=x0d h;have:=x4u h1;have:=x1m h2;have key:=x3m (fun x:List BA × List Ex × Nat × Bool=>Ex.j0l x.2.1) (fun r j=>Ex.j0l r.2) (fun x y hx hs=> ?_) (fun x r j hx hs=> ?_) n ([],[],k2,true) q k3 (by simp[Ex.j0l]) h3
  ·cases h;exact⟨n0,key⟩
  ·obtain⟨ar,es,i2,b⟩:=x;cases b with
   |false=>cases hs
   |true=>
    rw[x4q]at hs;split at hs
    ·obtain⟨a,g1,r1,r⟩:=x0d ‹_›;obtain⟨_,g2,r2,r⟩:=x0d r;obtain⟨e2,g9900003,r3,r⟩:=x0d r;obtain⟨_,g9900004,r4,r⟩:=x0d r;have z:=hp _ _ _ _ r3;cases r;split at hs<;>cases hs<;>exact(y8w _ _).2 ⟨hx,z,trivial⟩
    ·cases hs
    ·cases hs
  ·obtain⟨ar,es,i2,b⟩:=x;cases b with
   |false=>cases hs;exact hx
   |true=>
    rw[x4q]at hs;split at hs
    ·split at hs<;>cases hs
    ·cases hs
    ·cases hs
 split at h
 ·unfold x7a at h;obtain⟨_,k1,h1,h⟩:=x0d h;obtain⟨_,k2,h2,h⟩:=x0d h;obtain⟨_,k3,h3,h⟩:=x0d h;obtain⟨_,k4,h4,h⟩:=x0d h;obtain⟨_,k5,h5,h⟩:=x0d h;have:=hp _ _ _ _ h1;have:=x1m h2;have:=hp _ _ _ _ h3;have:=x1m h4;have:=hp _ _ _ _ h5;cases h
  (simp only[x5e,ex,Ex.rng,Ex.j0l]at*;simp_all [n0])
 ·obtain⟨nm,k1,h1,h⟩:=x0d h;have:=x4u h1;split at h
  ·unfold y3z at h;split at h
   ·exact u9z ht hp _ [] _ _ _ trivial h
   ·obtain⟨es,k2,h2,h⟩:=x0d h;have q2:=v8f ht hp _ _ _ _ h2;exact u9z ht hp _ _ _ _ _ q2 h
  ·cases h
   (simp only[x5e,Ex.rng,Ex.j0l]at*;simp_all [n0])
theorem q2h (nt:Nt)(i:Nat)(e:Ex)(j:Nat)(h:ntS l n p nt i= .ok e j):e.rng:=by
 cases nt with
 |or=>exact z7h ht hp _ _ _ _ _ _ h
 |and=>exact z7h ht hp _ _ _ _ _ _ h
 |sum=>exact z7h ht hp _ _ _ _ _ _ h
 |prod=>exact z7h ht hp _ _ _ _ _ _ h
 |post=>exact q2u ht hp _ _ _ h
 |arrow=>
  obtain⟨_,k1,h1,h⟩:=x0d (show y1i l p i= .ok e j from h);have:=hp _ _ _ _ h1;split at h
  ·obtain⟨_,k2,h2,h⟩:=x0d h;have:=hp _ _ _ _ h2;cases h
   (simp only[x5e,ex,Ex.rng,Ex.j0l]at*;simp_all [n0])
  ·cases h;exact this
 |fby=>
  obtain⟨_,k1,h1,h⟩:=x0d (show v4g l p i= .ok e j from h);have:=hp _ _ _ _ h1;split at h
  ·obtain⟨_,k2,h2,h⟩:=x0d h;have:=hp _ _ _ _ h2;cases h
   (simp only[x5e,ex,Ex.rng,Ex.j0l]at*;simp_all [n0])
  ·cases h;exact this
 |cmp=>
  obtain⟨_,k1,h1,h⟩:=x0d (show v4i l p i= .ok e j from h);have:=hp _ _ _ _ h1;split at h
  ·cases h;exact this
  ·obtain⟨_,k2,h2,h⟩:=x0d h;have:=hp _ _ _ _ h2;cases h
   (simp only[x5e,Ex.rng,Ex.j0l]at*;simp_all [n0])
 |un=>
  have h:unS l p i= .ok e j:=h;unfold unS at h;split at h
  ·obtain⟨_,k2,h2,h⟩:=x0d h;have:=hp _ _ _ _ h2;cases h
   (simp only[x5e,Ex.rng,Ex.j0l]at*;simp_all [n0])
  split at h
  ·obtain⟨_,k2,h2,h⟩:=x0d h;have:=hp _ _ _ _ h2;cases h
   (simp only[x5e,Ex.rng,Ex.j0l]at*;simp_all [n0])
  split at h
  ·obtain⟨_,k2,h2,h⟩:=x0d h;have:=hp _ _ _ _ h2;cases h
   (simp only[x5e,ex,Ex.rng,Ex.j0l]at*;simp_all [n0])
  ·exact hp _ _ _ _ h
 |atom=>
  have h:x8e l n p i= .ok e j:=h;have:=ht i;unfold x8e at h;split at h
  ·cases h;(simp only[x5e,Ex.rng,Ex.j0l]at*;simp_all [])
  split at h
  ·cases h;(simp only[x5e,Ex.rng,Ex.j0l]at*;simp_all [n0])
  split at h
  ·cases h;(simp only[x5e,Ex.rng,Ex.j0l]at*;simp_all [n0])
  ·exact q0v ht hp _ _ _ h
end
theorem w8t {l:List Tk}(ht:TN l): ∀n,HG (prs l n)
 |0=>fun nt i e j h=>by cases h
 |n+1=>fun nt i e j h=>q2h ht (w8t ht n) nt i e j h
theorem w3y {l:List Tk}(ht:TN l){i j:Nat}{e:Ex}(h:y4j l i= .ok e j):e.rng:=w8t ht _ _ _ _ _ h
theorem q2w (s:BA)(h:w8u s=true):z9w s < 9223372036854775808:=by
 unfold w8u at h;unfold z9w;cases hp:Lib.parseIntB 64 s.data.toList with
 |ok v=>exact(Lib.parseIntB_bounds hp).2
 |_=>rw[hp]at h;cases h
def TI (t:Tk):Prop:=t.n < 9223372036854775808/\(t.k=4->y6e (tb t.s)=true)
theorem w4s (s:BA)(h:(x0z s).ok=true):(x0z s).n < 9223372036854775808/\((x0z s).k=4->y6e (tb (x0z s).s)=true):=by
 have e4: ∀k:Int,k=4->k≠1/\k≠2/\k≠3/\k≠5:=fun k h=>by omega
 unfold x0z at h ⊢;simp only at h ⊢;split
 ·unfold y0h;simp only;split
  ·exact⟨n0,fun h=>by cases h⟩
  ·exact⟨n0,fun h=>by cases h⟩
 ·rename_i h1 h2;rw[h1,h2]at h;have h:(x5m s).ok=true:=h;unfold x5m at h ⊢;simp only[a0g]at h;exact⟨q2w _ h.1,fun h=>by cases h⟩
 ·rename_i h1 h2 h3;rw[h1,h2,h3]at h;have h:(y2y s).ok=true:=h;unfold y2y at h ⊢;split
  ·rename_i hi;rw[hi]at h;cases h
  ·rename_i i hi;rw[hi]at h;exact⟨n0,fun _=>h⟩
 ·unfold y0s;split
  ·exact⟨n0,fun h=>by cases h⟩
  ·exact⟨n0,fun h=>by cases h⟩
  ·exact⟨n0,fun h=>by cases h⟩
theorem w9c (s:BA): ∀(m a:Nat),(tb s).length - a<=m-> ∀t∈(y2z s a).1,TI t
 |m,a,hm=>by
  rw[y2z];split
  ·rename_i hp;split
   ·rename_i h;have ih:=w9c s (m - 1) (a+x7n ((tb s).drop a)+(x0z (s.extract (a+x7n ((tb s).drop a)) (tb s).length)).w) (by omega)
    intro t ht;rcases a1n.1 ht with rfl|ht
    ·exact w4s _ h.1
    ·exact ih t ht
   ·simp
  ·simp
 termination_by m a=>(tb s).length - a
 decreasing_by omega
theorem q9y (s:BA)(j:Nat):TI (tkA (x7s s) j):=by
 refine z6f (Q:=TI) ⟨n0,fun h=>by cases h⟩ (fun t ht=> ?_) j
 rcases a1o.1 ht with h|h
 ·exact w9c s _ 0 (a0q _) t h
 ·rw[a1h.1 h];exact⟨n0,fun h=>by cases h⟩
theorem q7t (s:BA):TN (x7s s):=fun j=>(q9y s j).1
theorem u8s {α:Type}{p:α->Prop}{l:List α}{x:α}(h: ∀y∈l,p y)(hx:p x): ∀y∈l++[x],p y:=fun y hy=>by
 rcases a1o.1 hy with hy|hy
 ·exact h y hy
 ·rw[a1h.1 hy];exact hx
theorem u5d (s:BA): ∀(m a:Nat),(tb s).length - a<=m->(∀t∈(y2z s a).1,t.a<=(tb s).length)/\((y2z s a).2.2=false->(y2z s a).2.1<=(tb s).length)
 |m,a,hm=>by
  rw[y2z];split
  ·rename_i hp;split
   ·rename_i h;have ih:=u5d s (m - 1) (a+x7n ((tb s).drop a)+(x0z (s.extract (a+x7n ((tb s).drop a)) (tb s).length)).w) (by omega)
    refine⟨fun t ht=> ?_,ih.2⟩
    rcases a1n.1 ht with rfl|ht
    ·exact Nat.le_of_lt hp
    ·exact ih.1 t ht
   ·exact⟨by simp,fun _=>Nat.le_of_lt hp⟩
  ·exact⟨by simp,fun h=>by cases h⟩
 termination_by m a=>(tb s).length - a
 decreasing_by omega
theorem q1t (s:BA)(j:Nat):(tkA (x7s s) j).a<=(tb s).length:=by
 refine z6f (Q:=fun t=>t.a<=(tb s).length) (a0w _) (fun t ht=> ?_) j
 rcases a1o.1 ht with h|h
 ·exact(u5d s _ 0 (a0q _)).1 t h
 ·rw[a1h.1 h];exact a0q _
def NZ {α:Type}(m:RM α):Prop:= ∀i p c,m i= .bad p c->1<=c/\c<=1000000
section
variable {α β : Type} {l : List Tk} {m : RM α} {k : α -> RM β}
theorem NZ.bind (h1:NZ m)(h2: ∀a,NZ (k a)):NZ (m.bind k):=fun i p c h=>by
 unfold RM.bind at h;cases hm:m i with
 |ok a j=>rw[hm]at h;exact h2 a j p c h
 |bad p2 c2=>rw[hm]at h;cases h;exact h1 i _ _ hm
theorem NZ.ret (a:α):NZ (RM.ret a):=fun i p c h=>by cases h
theorem w9a {f:Nat->Nat}{c0:Int}(h0:1<=c0/\c0<=1000000):NZ (α:=α) (fun j=> .bad (f j) c0):=fun i p c h=>by cases h;exact h0
theorem z3s (x:BA):NZ (tkR l x):=fun i p c h=>by
 unfold tkR at h;split at h<;>cases h
theorem z0y (n:Int):NZ (z6e l n):=fun i p c h=>by
 unfold z6e at h;split at h
 ·cases h
 ·cases h;decide
theorem x6w (w:List BA):NZ (x6p l w):=fun i p c h=>by
 unfold x6p at h;split at h
 ·cases h
 ·cases h;decide
 ·cases h;decide
theorem q3a:NZ (z6b l):=fun i p c h=>by
 unfold z6b at h;split at h
 ·cases h
 ·cases h;decide
 ·cases h;decide
theorem q3f:NZ (y8l l):=fun i p c h=>by
 unfold y8l at h;split at h
 ·cases h;decide
 ·cases h;decide
 ·rename_i e j _;cases h1:x3c e<;>cases h2:x9c e<;>rw[h1,h2]at h<;>cases h<;>decide
theorem q3e (b:Bool):NZ (y1m l b):=fun i p c h=>by
 unfold y1m at h;split at h<;>cases h
theorem u0h (n:Int): ∀(z:Nat) (acc:List BA),NZ (y4s l n z acc)
 |0,acc=>NZ.ret acc
 |z+1,acc=>NZ.bind (z3s _) fun v=>by
  cases v with
  |true=>exact NZ.bind (z0y _) fun t=>u0h n z _
  |false=>exact NZ.ret acc
theorem u8i (n:Int):NZ (z1d l n):=NZ.bind (z0y _) fun t=>u0h n _ _
theorem q3g:NZ (v2z l):=NZ.bind (z0y _) fun _=>NZ.bind (x6w _) fun _=>NZ.bind (u8i _) fun _=>NZ.bind (x6w _) fun _=>NZ.ret _
variable {ens : List En}
theorem q3h:NZ (w1x l ens):=NZ.bind (z3s _) fun v=>by
 cases v with
 |true=>exact NZ.ret _
 |false=>
  refine NZ.bind (z3s _) fun v=> ?_
  cases v with
  |true=>exact NZ.ret _
  |false=>
   refine NZ.bind (z0y _) fun t=> ?_
   unfold u6q;split
   ·exact NZ.ret _
   ·exact w9a (by decide)
theorem k9w:NZ (tyR l ens):=NZ.bind q3h fun b=>NZ.bind (z3s _) fun v=>by
 cases v with
 |false=>exact NZ.ret _
 |true=>
   refine NZ.bind (z0y _) fun t=> ?_
   split
   ·exact w9a (by decide)
   ·exact NZ.bind (x6w _) fun _=>NZ.ret _
theorem v7t:NZ (v3d l ens):=NZ.bind (z0y _) fun t=>NZ.bind (x6w _) fun _=>NZ.bind k9w fun y=>NZ.bind (z3s _) fun v=>by
 cases v with
 |true=>exact NZ.bind q3a fun w=>NZ.ret _
 |false=>exact NZ.ret _
theorem u0j (b:Bool): ∀(z:Nat) (acc:List Dc),NZ (y2k l ens b z acc)
 |0,acc=>NZ.ret acc
 |z+1,acc=>NZ.bind (q3e b) fun v=>by
  cases v with
  |true=>exact NZ.bind v7t fun d=>u0j b z _
  |false=>exact NZ.ret acc
theorem z7b (b:Bool):NZ (y5q l ens b):=NZ.bind v7t fun d=>u0j b _ _
theorem k9x:NZ (eqR l):=NZ.bind (u8i _) fun _=>NZ.bind (x6w _) fun _=>NZ.bind q3f fun _=>NZ.bind (x6w _) fun _=>NZ.ret _
theorem v7s: ∀(z:Nat) (acc:List Eqn),NZ (w9z l z acc)
 |0,acc=>NZ.ret acc
 |z+1,acc=>NZ.bind (z3s _) fun v=>by
  cases v with
  |true=>exact NZ.ret acc
  |false=>exact NZ.bind k9x fun q=>v7s z _
theorem k1j:NZ (k2e l ens):=NZ.bind (z3s _) fun v=>by
 cases v with
 |false=>exact NZ.bind (z7b _) fun d=>NZ.bind (x6w _) fun _=>NZ.ret d
 |true=>exact NZ.ret _
theorem q3b:NZ (v4o l ens):=NZ.bind (z3s _) fun v=>by
 cases v with
 |true=>exact NZ.bind (z7b _) fun d=>NZ.bind (x6w _) fun _=>NZ.ret d
 |false=>exact NZ.ret _
theorem q3d:NZ (v1z l ens):=NZ.bind (z0y _) fun _=>NZ.bind (x6w _) fun _=>NZ.bind k1j fun _=>NZ.bind (x6w _) fun _=>NZ.bind (z7b _) fun _=>NZ.bind (x6w _) fun _=>NZ.bind q3b fun _=>NZ.bind (x6w _) fun _=>NZ.bind (v7s _ _) fun _=>NZ.ret _
theorem u0i: ∀(z:Nat) (acc:List En),NZ (y5m l z acc)
 |0,acc=>NZ.ret acc
 |z+1,acc=>NZ.bind (z3s _) fun v=>by
  cases v with
  |true=>exact NZ.bind q3g fun d=>u0i z _
  |false=>exact NZ.ret acc
theorem u0g: ∀(z:Nat) (acc:List Nd),NZ (y4q l ens z acc)
 |0,acc=>NZ.ret acc
 |z+1,acc=>NZ.bind (z3s _) fun v=>by
  cases v with
  |true=>exact NZ.bind q3d fun d=>u0g z _
  |false=>exact NZ.ret acc
theorem k1k:NZ (w2r l):=fun i p c h=>by
 unfold w2r at h;split at h
 ·cases h
 ·cases h;decide
theorem q3c:NZ (y3q l):=NZ.bind (u0i _ _) fun _=>NZ.bind (u0g _ _) fun _=>NZ.bind k1k fun _=>NZ.ret _
end
section
variable {l : List Tk} (hn : TN l)
include hn
theorem eq_rg {i j:Nat}{x:Eqn}(h:eqR l i= .ok x j):x.e.rng:=by
 obtain⟨_,_,_,h⟩:=bind_ok h;obtain⟨_,_,_,h⟩:=bind_ok h;obtain⟨e,_,h1,h⟩:=bind_ok h;obtain⟨_,_,_,h⟩:=bind_ok h;cases h;unfold y8l at h1;split at h1
 ·cases h1
 ·cases h1
 ·rename_i e2 j2 hR;cases h3:x3c e2<;>cases h4:x9c e2<;>rw[h3,h4]at h1<;>cases h1
  exact w3y hn hR
theorem w0a: ∀(z:Nat) (acc:List Eqn) {i j:Nat} {r:List Eqn},w9z l z acc i= .ok r j->(∀x∈acc,x.e.rng)-> ∀x∈r,x.e.rng
 |0,acc,i,j,r,h,ha=>by cases h;exact ha
 |z+1,acc,i,j,r,h,ha=>by
  obtain⟨v,_,_,h⟩:=bind_ok h;cases v with
  |true=>cases h;exact ha
  |false=>
   obtain⟨q,_,h1,h⟩:=bind_ok h;exact w0a z _ h (u8s ha (eq_rg hn h1))
theorem q3i {ens:List En}{i j:Nat}{n:Nd}(h:v1z l ens i= .ok n j): ∀x∈n.eqs,x.e.rng:=by
 obtain⟨_,_,_,h⟩:=bind_ok h;obtain⟨_,_,_,h⟩:=bind_ok h;obtain⟨_,_,_,h⟩:=bind_ok h;obtain⟨_,_,_,h⟩:=bind_ok h;obtain⟨_,_,_,h⟩:=bind_ok h;obtain⟨_,_,_,h⟩:=bind_ok h;obtain⟨_,_,_,h⟩:=bind_ok h;obtain⟨_,_,_,h⟩:=bind_ok h;obtain⟨q,_,h1,h⟩:=bind_ok h;cases h;exact w0a hn _ _ h1 (by simp)
theorem u0o {ens:List En}: ∀(z:Nat) (acc:List Nd) {i j:Nat} {r:List Nd},y4q l ens z acc i= .ok r j->(∀n∈acc,∀x∈n.eqs,x.e.rng)-> ∀n∈r,∀x∈n.eqs,x.e.rng
 |0,acc,i,j,r,h,ha=>by cases h;exact ha
 |z+1,acc,i,j,r,h,ha=>by
  obtain⟨v,_,_,h⟩:=bind_ok h;cases v with
  |false=>cases h;exact ha
  |true=>
   obtain⟨n,_,h1,h⟩:=bind_ok h;exact u0o z _ h (u8s (p:=fun n:Nd=> ∀x∈n.eqs,x.e.rng) ha (q3i hn h1))
theorem q2s {i j:Nat}{r:List En × List Nd}(h:y3q l i= .ok r j): ∀n∈r.2,∀x∈n.eqs,x.e.rng:=by
 obtain⟨_,_,_,h⟩:=bind_ok h;obtain⟨_,_,h1,h⟩:=bind_ok h;obtain⟨_,_,_,h⟩:=bind_ok h;cases h;exact u0o hn _ _ h1 (by simp)
end
def u7k (s:BA):(tb s).length=s.size:=x2m s
def w6d {ens:List En}{nds:List Nd}(h:y2l ens nds=0):ens.length<=4/\0 < nds.length/\nds.length<=6/\ ∀n∈nds,n.ins.length<=6/\n.outs.length<=6/\n.vars.length<=12/\n.eqs.length<=18:=by
 have hE:=(z2r h).1;have h0:ens.length<=4:=by
  unfold x5y at hE;cases h1:x5r ens with
  |true=>rw[h1]at hE;cases hE
  |false=>
   unfold x5r at h1;simp only[Bool.or_eq_false_iff,decide_eq_false_iff_not]at h1;omega
 unfold y2l at h;rw[hE]at h;simp only[decide_true,Bool.not_true,cond_false]at h
 by_cases h2:(nds.length:Int)=0
 ·rw[a0s h2]at h;cases h
 ·rw[decide_eq_false h2]at h;simp only[cond_false]at h;cases h3:(decide (6 < (nds.length:Int)) || nds.any x8m)with
  |true=>rw[h3]at h;cases h
  |false=>
   simp only[Bool.or_eq_false_iff,decide_eq_false_iff_not,List.any_eq_false]at h3;refine⟨h0,by omega,by omega,fun n hn=> ?_⟩
   have:=h3.2 n hn;unfold x8m at this;simp only[Bool.or_eq_true,a0p,not_or]at this;omega
def y7x {c:Bool}{x y:Int}(h1:0<=x/\x<=6)(h2:0<=y/\y<=6):0<=(bif c then x else y)/\(bif c then x else y)<=6:=by cases c<;>assumption
def k5v (ens:List En)(nds:List Nd):0<=y2l ens nds/\y2l ens nds<=6:=y7x (y7x ⟨by omega,by omega⟩ (y7x ⟨by omega,by omega⟩ (y7x ⟨by omega,by omega⟩ ⟨by omega,by omega⟩))) (y7x ⟨by omega,by omega⟩ (y7x ⟨by omega,by omega⟩ (y7x ⟨by omega,by omega⟩ (y7x ⟨by omega,by omega⟩ ⟨by omega,by omega⟩))))
def w3z (s:BA)(hs:s.size<=2500):(∃n c:Int,x8w s=(([],[]),n,c)/\(1<=c/\c<=1000000)/\0<=n/\n<=(s.size:Int))\/ ∃ens nds,x8w s=((ens,nds),(s.size:Int),0)/\y2l ens nds=0/\ ∀n∈nds,∀x∈n.eqs,x.e.rng:=by
 have hz:=u7k s;have hp:=u5d s _ 0 (a0q _);unfold x8w;rw[decide_eq_false (by omega: ¬(6000:Int) < ((tb s).length:Int))]
 cases hk:(y2z s 0).2.2 with
 |false=>
  have:=hp.2 hk;exact .inl ⟨_,_,rfl,by decide,by omega,by omega⟩
 |true=>
  simp only;cases hR:y3q (x7s s) 0 with
  |bad p c=>
   have:=q1t s p;exact .inl ⟨_,_,rfl,q3c _ _ _ hR,by omega,by omega⟩
  |ok r j=>
   simp only
   by_cases hc:y2l r.1 r.2=0
   ·refine .inr ⟨r.1,r.2,?_,hc,q2s (q7t s) hR⟩;rw[a0s hc,hz];rfl
   ·refine .inl ⟨((tb s).length:Int),y2l r.1 r.2,?_,by have:=k5v r.1 r.2;omega,by omega,by omega⟩
    rw[decide_eq_false hc];rfl
def q5a (k:IntKind)(a:Int):eqD (.int k a) (.int k a)=true:=by
 show(a == a)=true;simp
def q4z (a:BA):eqD (.str a) (.str a)=true:=by
 show(_ == _)=true;simp
def u4l (l:List Dc)(h:l.length<=1000000):cF 32 [.d (.sl 6 (x0j l)), .d (.sl 6 (x0j l))]=some (.val [.bool true]):=by
 refine cO rfl ?_;rw[(g32 ..).2];simp only[g32,go1,x0k];refine x3x l.length (fun i=>[.sl 6 (x0j l), .sl 6 (x0j l), .int .i64 (i:Int)]) rfl (fun i hlt=> ?_) ?_
 ·have hx:=a0b hlt;have hd:y7u [.str l[i].n, .int .i64 l[i].k, .int .i64 l[i].e, .int .i64 l[i].c, .str l[i].o, .str l[i].q] [.str l[i].n, .int .i64 l[i].k, .int .i64 l[i].e, .int .i64 l[i].c, .str l[i].o, .str l[i].q]=true:=by
   simp only[y7u,q5a,q4z,a2a]
  simp only[go1,oD,y1h,x0k,x0i hlt,x0g hlt,x3t hx,hd,x0a hlt (by omega)]
  rfl
 ·simp only[go1,x0k,x0f]
def q2n (l:List En)(h:l.length<=1000000)(hc: ∀e∈l,e.2.length<=1000000):cF 15 [.d (.sl 2 (x0m l)), .d (.sl 2 (x0m l))]=some (.val [.bool true]):=by
 refine cO rfl ?_;rw[(g15 ..).2];simp only[g15,go1,x1f];refine x3x l.length (fun i=>[.sl 2 (x0m l), .sl 2 (x0m l), .int .i64 (i:Int)]) rfl (fun i hlt=> ?_) ?_
 ·have hx:=a0b hlt;have h1:=z8c l[i].2 (hc _ (a1j hlt));simp only[go1,x1f,x0i hlt,x0g hlt,y2i hx,k7l,x1v,h1,x0a hlt (by omega)]
  rfl
 ·simp only[go1,x1f,x0f]
def sk1E {α:Type}(d:D)(k n o:Int)(q:BA)(a u:LL)(K:Int->Int->BA->Int->LL->LL->Option α):oE sy (sy.skip 1 [d, .int .i64 k, .int .i64 n, .str q, .int .i64 o, .sl 1 a, .sl 6 u]) 0 K=K k n q o a u:=rfl
def k0t (n:Nd)(h:NdOK n):cF 16 [nV n,nV n]=some (.val [.bool true]):=by
 have hal:=h.al;have hdl:n.ins.length<=1000000/\n.outs.length<=1000000/\n.vars.length<=1000000:=by
  unfold x6t at hal;simp only[a0k]at hal;omega
 have h1:=u4l n.ins hdl.1;have h2:=u4l n.outs hdl.2.1;have h3:=u4l n.vars hdl.2.2;have heq:=h.eq;have heo:=h.eo;obtain⟨nm,ins,outs,vars,eqs⟩:=n;simp only at h1 h2 h3 heq heo;refine cO rfl ?_;rw[(g16 ..).2];simp only[g16,go1,x1v,h1,h2,h3,x1d];refine x3x eqs.length (fun i=>[.int .i64 (i:Int), .str nm, .sl 6 (x0j ins), .sl 6 (x0j outs), .sl 6 (x0j vars), .sl 7 (x1z eqs), .str nm, .sl 6 (x0j ins), .sl 6 (x0j outs), .sl 6 (x0j vars), .sl 7 (x1z eqs)]) rfl (fun i hlt=> ?_) ?_
 ·have hx:=a0b hlt;have hok:=heo _ (a1j hlt);have hr:=x8v hx;generalize eqs[i]=x at hok hr;obtain⟨ns,e⟩:=x;obtain⟨k,m,y,o,a,u⟩:=e;have c1:=z8c ns hok.ns;have c2:=v0e (Ex.mk k m y o a u).size k m y o a u (a0q _) hok.sz hok.fn;have hr':sy.row (x1z eqs) (i:Int)= [.sl 1 (x0b ns), .int .i64 k, .int .i64 m, .str y, .int .i64 o, .sl 1 (x0b a), .sl 6 (Ex.rows u)]:=hr;simp only[go1,x1d,x0i hlt,x0g hlt,hr',sk1E,c1,c2,x0a hlt (by omega)]
  rfl
 ·simp only[go1,x1d,x0f]
def k0s (ens:List En)(nds:List Nd)(hE:ens.length<=1000000)(hN:nds.length<=1000000)(hc: ∀e∈ens,e.2.length<=1000000)(h: ∀n∈nds,NdOK n):cF 8 [.agg [.d (.sl 2 (x0m ens)), .d (.sl 5 (x1k nds))], .agg [.d (.sl 2 (x0m ens)), .d (.sl 5 (x1k nds))]]=some (.val [.bool true]):=by
 have h1:=q2n ens hE hc;refine cO rfl ?_;rw[(g8 ..).2];simp only[g8,go1,h1,x0r];refine x3x nds.length (fun i=>[.int .i64 (i:Int), .sl 2 (x0m ens), .sl 5 (x1k nds), .sl 2 (x0m ens), .sl 5 (x1k nds)]) rfl (fun i hlt=> ?_) ?_
 ·have hx:=a0b hlt;have c1:=k0t nds[i] (h _ (a1j hlt));simp only[go1,y3j,x0r,x0i hlt,x0g hlt,x3q hx,c1,x0a hlt (by omega)]
  rfl
 ·simp only[go1,x0r,x0f]
end Go.Vm
end
section
set_option maxRecDepth 100000
set_option maxHeartbeats 4000000
namespace Go.Vm
open Go.Proofs
def v8w {n:Int}(h:Rg n):I64 n:=by unfold Rg at h;unfold I64;omega
def u6v {n e x:Int}(h:x≠0){w:BA}(t:tb w=z8u n e x): ¬tb w= [111,107]:=by
 rw[t];unfold z8u;rw[x1j (fun q=>h q.2.2)]
 intro e;simp at e
def w2x {w:BA}(t:tb w=z8u 0 0 0):tb w= [111,107]:=t.trans rfl
def c_FrontBack (s:BA):cF 3 [.d (.str s)]=some (.val [.bool true]):=by
 have hl:=w6w;have t0:tb (bs [111,107])= [111,107]:=rfl;refine cO rfl ?_;rw[(g3 ..).2]
 by_cases hs:2500 < (s.size:Int)
 ·simp only[g3,go1,x1y hs,hl]
 ·have ok:=w4a s (by omega)
  rcases w3z s (by omega)with⟨n,c,e,hc,hn1,hn2⟩|⟨ens,nds,e,hc,hr⟩
  ·have hc0:c≠0:=by omega
   have h1:=x6n s (by omega) (a:=0) (b:=0) (c:=0) (fun h=>by rw[e]at h;exact absurd h hc0)
   rw[e]at h1;simp only[decide_eq_false hc0,cond_false]at h1;obtain⟨w,w1,w2⟩:=z8i 0 (-1) c ⟨by omega,by omega⟩ ⟨by omega,by omega⟩ ⟨by omega,by omega⟩
   have w3:=u6v hc0 w2;have hd:=deq3 0 (-1) c;rw[x1j (fun q=>hc0 q.2.2)]at hd
   simp only[g3,go1,Int.reduceEq,x1j hs,h1,w1,x1v,t0,x1j w3,hl];rfl
  ·rw[e]at ok;obtain⟨m1,m2,m3,m4⟩:=w6d hc;obtain⟨hc1,hc2⟩:=z2r hc;have oe: ∀x∈ens,EnOK x:=ok.eo
   have oc: ∀x∈ens,x.2.length<=1000000:=ok.c
   have on: ∀n∈nds,NdOK n:=ok.no
   obtain⟨p,u1,a,b,c,rfl,ra,rb,rc⟩:=q1c (ens:=ens) (nds:=nds) (by omega) (by omega) on
   have h1:=x6n s (by omega) (a:=a) (b:=b) (c:=c) (fun h=>by rw[e];exact u1)
   rw[e]at h1;have hz:decide ((0:Int)=0)=true:=rfl;simp only[]at h1
   by_cases hc0:c=0
   ·rw[x1y hc0,cond_true]at h1;subst hc0;obtain⟨w,w1,w2⟩:=z8i 0 0 0 ⟨by omega,by omega⟩ ⟨by omega,by omega⟩ ⟨by omega,by omega⟩
    have w3:=w2x w2;have hd:sy.deq [.int .i64 0, .int .i64 0, .int .i64 0] [.int .i64 0, .int .i64 0, .int .i64 0]=true:=rfl;obtain⟨t,t1,t2,t3⟩:=v3k ens nds hc (by omega) (by omega) (fun x hx=>⟨oe x hx,oc x hx⟩) fun n hn=>⟨y6l (hc2 n hn),on n hn,by have:=m4 n hn;omega,by have:=m4 n hn;omega,by have:=m4 n hn;omega,by have:=m4 n hn;omega,fun x hx=>⟨(y6l (hc2 n hn)).eqs x hx,(on n hn).eo x hx,hr n hn x hx,((on n hn).eo x hx).ns⟩⟩
    by_cases h6:6000 < (t.size:Int)
    ·simp only[g3,go1,x1j hs,h1,w1,t1,x1y h6,hl]
    ·have hb:=v1s t ens nds t2 (by rw[u7k];omega) hc hr
     have h2:=x6n t (by omega) (a:=a) (b:=b) (c:=0) (fun h=>by rw[hb];exact u1)
     rw[hb]at h2;simp only[]at h2;have h3:=k0s ens nds (by omega) (by omega) oc on
     have hlt:decide (0 < (nds.length:Int))=true:=x1y (by omega)
     simp only[g3,go1,x1j hs,h1,w1,t1,x1j h6,h2,h3,x0r,hlt,x1v,t0,x1y w3,hl]
   ·rw[x1j hc0,cond_false]at h1;obtain⟨w,w1,w2⟩:=z8i a b c (v8w ra) (v8w rb) (v8w rc);have w3:=u6v hc0 w2;simp only[g3,go1,x1j hs,h1,x1j hc0,w1,x1v,t0,x1j w3,hl];rfl
end Go.Vm
#print axioms Go.Vm.c_FrontBack
end
