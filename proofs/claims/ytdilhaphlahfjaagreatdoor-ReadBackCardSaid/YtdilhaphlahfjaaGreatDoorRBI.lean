/- Part RBI of the proof. What is proved by the whole: the statement that the claim names, with no condition. -/
import Derived.Test.YtdilhaphlahfjaaGreatDoorRBH
set_option linter.all false
section
set_option maxRecDepth 100000
set_option maxHeartbeats 4000000
namespace Go.Vm
open Go.Proofs
noncomputable abbrev kW1 (k n:Int) (s:BA) (o:Int) (a u:LL) (m:Int):List V:=[.d (.int .i64 0), .d (.int .i64 2),kE k n s o a u, .yld 0 (u8y 175), .agg [.any, .any, .any, .ptr 1 0, .any, .any, .any, .any, .any, .any], .fn 3 [.d (.int .i64 m)]]
def k6k (k n:Int)(s:BA)(o:Int)(a u:LL)(m:Int):y2d (kW1 k n s o a u m)=some (0,[kE k n s o a u, .yld 0 (u8y 175)],[.cells (.rcd .ready) [.any, .any, .any, .ptr 1 0, .any, .any, .any, .any, .any, .any], .cells (.ty 3) [.d (.int .i64 m)]]):=rfl
noncomputable abbrev kW2 (k n:Int) (s:BA) (o:Int) (a u:LL) (b:Bool):List V:=[.d (.int .i64 0), .d (.int .i64 2),kE k n s o a u, .yld 0 (u8y 143), .agg [.any, .any, .ptr 1 0, .any, .any, .any, .any, .any, .any, .any, .any, .any, .any, .any, .any, .any, .any, .any], .fn 4 [.d (.bool b)]]
def k6j (k n:Int)(s:BA)(o:Int)(a u:LL)(b:Bool):y2d (kW2 k n s o a u b)=some (0,[kE k n s o a u, .yld 0 (u8y 143)],[.cells (.rcd .ready) [.any, .any, .ptr 1 0, .any, .any, .any, .any, .any, .any, .any, .any, .any, .any, .any, .any, .any, .any, .any], .cells (.ty 4) [.d (.bool b)]]):=rfl
def v7i: ∀(m:Nat) (k n:Int) (s:BA) (o:Int) (a:List BA) (u:List Ex) (c:Nat),(Ex.mk k n s o a u).size<=m->m<=1000000->c+m<=2000000->
  cF 1000206 (kW1 k n s o (x0b a) (Ex.rows u) (c:Int))=some (.val [.bool false, .bool true, .int .i64 ((c+(Ex.mk k n s o a u).size:Nat):Int)])
 |0,k,n,s,o,a,u,c,h,_,_=>by simp only[Ex.size]at h;omega
 |m+1,k,n,s,o,a,u,c,h,hm,hc=>by
  have hz:Ex.j0a u<=m:=by simp only[Ex.size]at h;omega
  have hl:=x2j u;refine k1u (f:=206) (by kernel_rfl) (k6k k n s o (x0b a) (Ex.rows u) (c:Int)) (by kernel_rfl) rfl ?_
  rw[u4d];simp only[u8b,go1,x0h,x0e (i:=c) (n:=c+1) (by omega) (by omega)]
  refine x0v (fun i:Nat=>[.sl 6 (Ex.rows u), .int .i64 (u.length:Int), .int .i64 (i:Int), .int .i64 ((c+1+Ex.j0a (u.take i):Nat):Int)]) (fun i=>i<=u.length/\Ex.j0a (u.take i)<=m) (fun i=>u.length - i) (fun i hi=> ?_) 0 ⟨a0t _,a0t _⟩
  by_cases hlt:i < u.length
  ·left
   have hx:=a0a hlt;have hd:Ex.j0a (u.take (i+1))=Ex.j0a (u.take i)+u[i].size:=by rw[a1d,hx];exact x4n _ _
   have hle:Ex.j0a (u.take (i+1))<=m:=by
    have:=x4u (u.take (i+1)) (u.drop (i+1));rw[a1w]at this;omega
   refine⟨i+1,?_,⟨hlt,hle⟩,by omega⟩
   rw[hd]at hle ⊢;generalize u[i]=e at hx hle ⊢;have he:=x3u hx;obtain⟨k2,n2,s2,o2,a2,u2⟩:=e;have h2:=v7i (Ex.mk k2 n2 s2 o2 a2 u2).size k2 n2 s2 o2 a2 u2 (c+1+Ex.j0a (u.take i)) (a0q _) (by omega) (by omega)
   simp only[go1,x0h,x0l hlt,x0k hlt,x9x hx,oE,h2,x0e hlt (by omega)]
   rw[a2e (c+1)];rfl
  ·right
   have:i=u.length:=by omega
   subst this;simp only[go1,x0g,a0r,Ex.size];rw[show c+1+Ex.j0a u=c+(Ex.j0a u+1) by omega]
 termination_by m=>m
 decreasing_by omega
mutual
def Ex.j1f:Ex->Prop
 | .mk _ _ s _ a u=>(s.size<=100000/\(∀x∈a,x.size<=100000)/\a.length<=1000000)/\Ex.j1o u
def Ex.j1o:List Ex->Prop
 | []=>True
 |e::l=>e.j1f/\Ex.j1o l
end
mutual
def z5b: ∀e:Ex,e.okS->e.size<=1000000->e.j1f
 | .mk k n s o a u,h,h2=>by
   have hl:=x2j u;have h3:Ex.j0a u+1<=1000000:=h2;obtain⟨q1,⟨q2,q3⟩,q4⟩:=h;exact⟨⟨q1,q2,by omega⟩,z8b u q4 (by omega)⟩
def z8b: ∀u:List Ex,Ex.j0m u->Ex.j0a u<=1000000->Ex.j1o u
 | [],_,_=>trivial
 |e::l,h,h2=>by
  have h3:e.size+Ex.j0a l<=1000000:=h2;exact⟨z5b e h.1 (by omega),z8b l h.2 (by omega)⟩
end
def y7m {e:Ex}: ∀ {l:List Ex} {i:Nat},l[i]? =some e->Ex.j1o l->e.j1f
 |x::l,0,h,h2=>by simp at h;subst h;exact h2.1
 |x::l,i+1,h,h2=>y7m (l:=l) (i:=i) (by simpa using h) h2.2
def k2k (b:Bool):Bool->PRes
 |true=> .val [.bool false, .bool true, .bool b]
 |false=> .val [.bool true, .bool false, .bool false]
def v7h: ∀(m:Nat) (k n:Int) (s:BA) (o:Int) (a:List BA) (u:List Ex) (b:Bool),(Ex.mk k n s o a u).size<=m->m<=1000000->(Ex.mk k n s o a u).j1f->
  cF 1000206 (kW2 k n s o (x0b a) (Ex.rows u) b)=some (k2k b (y1y (.mk k n s o a u)))
 |0,k,n,s,o,a,u,b,h,_,_=>by simp only[Ex.size]at h;omega
 |m+1,k,n,s,o,a,u,b,h,hm,hf=>by
  have hz:Ex.j0a u<=m:=by simp only[Ex.size]at h;omega
  have hl:=x2j u;obtain⟨⟨f1,f2,f3⟩,f4⟩:=hf;have h1:=q3h k n s o a u f1 f3 (by omega)
  refine k1u (f:=206) (by kernel_rfl) (k6j k n s o (x0b a) (Ex.rows u) b) (by kernel_rfl) rfl ?_
  rw[u4e];simp only[u8c,go1,h1,y1y];cases y0f (.mk k n s o a u)with
  |false=>rfl
  |true=>
   simp only[go1,x0h];refine x0v (fun i:Nat=>[.sl 6 (Ex.rows u), .int .i64 (u.length:Int), .int .i64 (i:Int), .bool b]) (fun i=>i<=u.length/\y4a u=y4a (u.drop i)) (fun i=>u.length - i) (fun i hi=> ?_) 0 ⟨a0t _,rfl⟩
   by_cases hlt:i < u.length
   ·have hx:=a0a hlt;have hd:=List.drop_eq_getElem_cons hlt;have hi2:=hi.2;rw[hd]at hi2;generalize u[i]=e at hx hi2;have he:=x3u hx;have hfe:=y7m hx f4;obtain⟨k2,n2,s2,o2,a2,u2⟩:=e;have h2:=v7h (Ex.mk k2 n2 s2 o2 a2 u2).size k2 n2 s2 o2 a2 u2 b (a0q _) (by omega) hfe
    rw[hi2];simp only[y4a];cases hb:y1y (.mk k2 n2 s2 o2 a2 u2)with
    |false=>
     right
     rw[hb]at h2;simp only[k2k]at h2;simp only[go1,x0h,x0l hlt,x0k hlt,x9x hx,oE,h2,k2k]
    |true=>
     left
     rw[hb]at h2;simp only[k2k]at h2;refine⟨i+1,?_,⟨hlt,by simp only[a2j]⟩,by omega⟩
     simp only[go1,x0h,x0l hlt,x0k hlt,x9x hx,oE,h2,x0e hlt (by omega)]
     rfl
   ·right
    have:i=u.length:=by omega
    subst this;rw[hi.2,List.drop_length];simp only[go1,x0g,y4a,k2k]
 termination_by m=>m
 decreasing_by omega
def v7y (k n:Int)(s:BA)(o:Int)(a:List BA)(u:List Ex)(h:(Ex.mk k n s o a u).size<=1000000):cF 175 [kE k n s o (x0b a) (Ex.rows u)]=some (.val [.int .i64 ((Ex.mk k n s o a u).size:Int)]):=by
 have h1:=v7i 1000000 k n s o a u 0 h (a0q _) (by omega)
 rw[a1y]at h1;have h1:cF 1000206 (kW1 k n s o (x0b a) (Ex.rows u) 0)=_:=h1;refine cO rfl ?_;rw[q0a];simp only[k9r,go1,h1]
def x3k (e:Ex):Bool:=decide (e.size<=60)&&decide (e.depth<=12)
def u7s (k n:Int)(s:BA)(o:Int)(a:List BA)(u:List Ex)(h:(Ex.mk k n s o a u).size<=1000000)(hf:(Ex.mk k n s o a u).j1f):cF 143 [kE k n s o (x0b a) (Ex.rows u)]=some (.val [.bool (x3k (.mk k n s o a u)&&y1y (.mk k n s o a u))]):=by
 have h1:=v7y k n s o a u h;have h2:=z6h 1000000 k n s o a u h (a0q _);have h3:=v7h 1000000 k n s o a u false h (a0q _) hf;have e1:decide ((60:Int) < ((Ex.mk k n s o a u).size:Int))= !decide ((Ex.mk k n s o a u).size<=60):=by rw[a1g];simp;try omega
 have e2:decide ((12:Int) < ((Ex.mk k n s o a u).depth:Int))= !decide ((Ex.mk k n s o a u).depth<=12):=by rw[a1g];simp;try omega
 refine cO rfl ?_;rw[q0r];simp only[g143,go1,h1,h2,h3,e1,e2];unfold x3k;cases decide ((Ex.mk k n s o a u).size<=60)<;>cases decide ((Ex.mk k n s o a u).depth<=12)<;>cases y1y (.mk k n s o a u)<;>rfl
mutual
def Ex.parts:Ex->List Ex
 | .mk k n s o a u=> .mk k n s o a u::Ex.j0f u
def Ex.j0f:List Ex->List Ex
 | []=>[]
 |e::l=>e.parts++Ex.j0f l
end
mutual
def y3a: ∀e:Ex,e.parts.length=e.size
 | .mk k n s o a u=>by simp only[Ex.parts,Ex.size,a0b,y4m u]
def y4m: ∀u:List Ex,(Ex.j0f u).length=Ex.j0a u
 | []=>rfl
 |e::l=>by simp only[Ex.j0f,Ex.j0a,a0j,y3a e,y4m l]
end
mutual
def z7w: ∀e:Ex,e.parts.all y0f=y1y e
 | .mk k n s o a u=>by simp only[Ex.parts,y1y,a1p,z3b u]
def z3b: ∀u:List Ex,(Ex.j0f u).all y0f=y4a u
 | []=>rfl
 |e::l=>by simp only[Ex.j0f,y4a,List.all_append,z7w e,z3b l]
end
mutual
def z2z: ∀e:Ex,e.j1f-> ∀x∈e.parts,x.j1f/\x.size<=e.size
 | .mk k n s o a u,h,x,hx=>by
   simp only[Ex.parts]at hx;rcases a1n.1 hx with rfl|hx
   ·exact⟨h,a0q _⟩
   ·have:=y8v u h.2 x hx;exact⟨this.1,by simp only[Ex.size];omega⟩
def y8v: ∀u:List Ex,Ex.j1o u-> ∀x∈Ex.j0f u,x.j1f/\x.size<=Ex.j0a u
 | [],_,x,hx=>by cases hx
 |e::l,h,x,hx=>by
  simp only[Ex.j0f]at hx;rcases a1k.1 hx with hx|hx
  ·have:=z2z e h.1 x hx;exact⟨this.1,by simp only[Ex.j0a];omega⟩
  ·have:=y8v l h.2 x hx;exact⟨this.1,by simp only[Ex.j0a];omega⟩
end
def z3a: ∀a b:List Ex,Ex.j0f (a++b)=Ex.j0f a++Ex.j0f b
 | [],b=>rfl
 |e::a,b=>by simp only[a0d,Ex.j0f,z3a a b,List.append_assoc]
def u5c: ∀a b:List Ex,Ex.rows (a++b)=Ex.rows a++Ex.rows b
 | [],b=>rfl
 |e::a,b=>by simp only[a0d,Ex.rows,u5c a b]
def z0z: ∀(m:Nat) (k n:Int) (s:BA) (o:Int) (a:List BA) (u:List Ex),(Ex.mk k n s o a u).size<=m->m<=1000000->
  cF 114 [kE k n s o (x0b a) (Ex.rows u)]=some (.own 81 6 (Ex.rows (Ex.mk k n s o a u).parts))
 |0,k,n,s,o,a,u,h,_=>by simp only[Ex.size]at h;omega
 |m+1,k,n,s,o,a,u,h,hm=>by
  have hz:Ex.j0a u<=m:=by simp only[Ex.size]at h;omega
  have hl:=x2j u;refine cO rfl ?_;rw[q1i];simp only[g114,go1,Nat.reduceAdd];refine x0v (fun i:Nat=>[.int .i64 (i:Int), .int .i64 k, .int .i64 n, .str s, .int .i64 o, .sl 1 (x0b a), .sl 6 (Ex.rows u), .sl 6 (Ex.rows (.mk k n s o a u::Ex.j0f (u.take i)))]) (fun i=>i<=u.length) (fun i=>u.length - i) (fun i hi=> ?_) 0 (a0t _)
  by_cases hlt:i < u.length
  ·left
   refine⟨i+1,?_,hlt,by omega⟩
   have hx:=a0a hlt;have hd:Ex.j0f (u.take (i+1))=Ex.j0f (u.take i)++u[i].parts:=by rw[a1d,hx,z3a];simp[Ex.j0f]
   have hsz:Ex.j0a (u.take i)<=Ex.j0a u:=by
    have:=x4u (u.take i) (u.drop i);rw[a1w]at this;omega
   rw[hd];generalize u[i]=e at hx;have he:=x3u hx;obtain⟨k2,n2,s2,o2,a2,u2⟩:=e;have h2:=z0z (Ex.mk k2 n2 s2 o2 a2 u2).size k2 n2 s2 o2 a2 u2 (a0q _) (by omega)
   have hf:decide (((Ex.rows (.mk k n s o a u::Ex.j0f (u.take i))).length+(Ex.rows (Ex.mk k2 n2 s2 o2 a2 u2).parts).length)*(88+1)<=140737488355328)=true:=by
    refine a0o ?_;rw[x0h,x0h,a0b,y4m,y3a];omega
   simp only[go1,Nat.reduceAdd,x0h,x0l hlt,x0k hlt,x9x hx,oE,h2,x0e hlt (by omega)]
   simp only[x0h]at hf;simp only[hf,go1,u5c,<-a0d];rfl
  ·right
   have:i=u.length:=by omega
   subst this;simp only[go1,Nat.reduceAdd,oE,x0h,x0g,a0r,Ex.parts]
 termination_by m=>m
 decreasing_by omega
def u0r (k n:Int)(s:BA)(o:Int)(a:List BA)(u:List Ex)(h:(Ex.mk k n s o a u).size<=1000000)(hf:(Ex.mk k n s o a u).j1f):cF 118 [kE k n s o (x0b a) (Ex.rows u)]=some (.val [.bool (x3k (.mk k n s o a u)&&y1y (.mk k n s o a u))]):=by
 have h1:=v7r 1000000 k n s o a u h (a0q _);have h2:=u7q 1000000 k n s o a u h (a0q _);have h3:=z0z 1000000 k n s o a u h (a0q _);have e1:decide ((60:Int) < ((Ex.mk k n s o a u).size:Int))= !decide ((Ex.mk k n s o a u).size<=60):=by rw[a1g];simp;try omega
 have e2:decide ((12:Int) < ((Ex.mk k n s o a u).depth:Int))= !decide ((Ex.mk k n s o a u).depth<=12):=by rw[a1g];simp;try omega
 refine cO rfl ?_;rw[q1f];simp only[g118,go1,h1,h2,h3,e1,e2];rw[<-z7w];have hlen:=y3a (.mk k n s o a u);have hpf:=z2z _ hf;generalize (Ex.mk k n s o a u).parts=ps at*;have hloop: ∀b:List D->Option (List D ⊕ PRes),(∀(i:Nat) e,ps[i]? =some e->b [.sl 6 (Ex.rows ps), .int .i64 (i:Int)]=bif y0f e then some (.inl [.sl 6 (Ex.rows ps), .int .i64 ((i+1:Nat):Int)])else some (.inr (.val [.bool false])))->b [.sl 6 (Ex.rows ps), .int .i64 (ps.length:Int)]=some (.inr (.val [.bool true]))->
     x6d b [.sl 6 (Ex.rows ps), .int .i64 0]=some (.val [.bool (ps.all y0f)]):=fun b h1 h2=>
  x2e y0f ps (fun i:Nat=>[.sl 6 (Ex.rows ps), .int .i64 (i:Int)]) rfl (r0:= .val [.bool false]) (r1:= .val [.bool true]) h1 (fun _=>h2) (by cases ps.all y0f<;>rfl)
 unfold x3k;cases decide ((Ex.mk k n s o a u).size<=60)with
 |false=>rfl
 |true=>
  cases decide ((Ex.mk k n s o a u).depth<=12)with
  |false=>rfl
  |true=>
   simp only[go1,Bool.and_self];refine hloop _ (fun i e hx=> ?_) ?_
   ·have hlt:=(a0c.1 hx).1;have hm:=hpf e (a0p hx);obtain⟨k2,n2,s2,o2,a2,u2⟩:=e;obtain⟨⟨⟨f1,f2,f3⟩,f4⟩,f5⟩:=hm;have hc:=w2s k2 n2 s2 o2 a2 u2 f1 f2 f3 (by simp only[Ex.size]at f5 h;omega)
    simp only[go1,x0h,x0l hlt,x0k hlt,x9x hx,oE,hc];cases y0f (.mk k2 n2 s2 o2 a2 u2)with
    |true=>simp only[go1,x0e hlt (by omega)];rfl
    |false=>rfl
   ·simp only[go1,x0h,x0g]
def z6e (a:List BA)(ha:a.length<=1000000):cF 63 [.d (.sl 1 (x0b a)), .d (.sl 1 (x0b a))]=some (.val [.bool true]):=by
 refine cO rfl ?_;rw[q9p];simp only[g63,go1,x0c];refine x0v (fun i:Nat=>[.sl 1 (x0b a), .sl 1 (x0b a), .int .i64 (i:Int)]) (fun i=>i<=a.length) (fun i=>a.length - i) (fun i hi=> ?_) 0 (a0t _)
 by_cases hlt:i < a.length
 ·left
  refine⟨i+1,?_,hlt,by omega⟩
  have hx:=a0a hlt;simp only[go1,x0c,x0l hlt,x0k hlt,x1j hx,x2f,x0e hlt (by omega)]
  rfl
 ·right
  have:i=a.length:=by omega
  subst this;simp only[go1,x0c,x0g]
def u7o: ∀(m:Nat) (k n:Int) (s:BA) (o:Int) (a:List BA) (u:List Ex),(Ex.mk k n s o a u).size<=m->m<=1000000->(Ex.mk k n s o a u).j1f->
  cF 65 [kE k n s o (x0b a) (Ex.rows u),kE k n s o (x0b a) (Ex.rows u)]=some (.val [.bool true])
 |0,k,n,s,o,a,u,h,_,_=>by simp only[Ex.size]at h;omega
 |m+1,k,n,s,o,a,u,h,hm,hf=>by
  have hz:Ex.j0a u<=m:=by simp only[Ex.size]at h;omega
  have hl:=x2j u;obtain⟨⟨f1,f2,f3⟩,f4⟩:=hf;have h1:=z6e a f3;refine cO rfl ?_;rw[q9n];simp only[g65,go1,x0h,x2f,h1];refine x0v (fun i:Nat=>[.int .i64 (i:Int), .int .i64 k, .int .i64 n, .str s, .int .i64 o, .sl 1 (x0b a), .sl 6 (Ex.rows u), .int .i64 k, .int .i64 n, .str s, .int .i64 o, .sl 1 (x0b a), .sl 6 (Ex.rows u)]) (fun i=>i<=u.length) (fun i=>u.length - i) (fun i hi=> ?_) 0 (a0t _)
  by_cases hlt:i < u.length
  ·left
   refine⟨i+1,?_,hlt,by omega⟩
   have hx:=a0a hlt;generalize u[i]=e at hx;have he:=x3u hx;have hfe:=y7m hx f4;obtain⟨k2,n2,s2,o2,a2,u2⟩:=e;have h2:=u7o (Ex.mk k2 n2 s2 o2 a2 u2).size k2 n2 s2 o2 a2 u2 (a0q _) (by omega) hfe
   simp only[go1,Nat.reduceAdd,x0h,x0l hlt,x0k hlt,x9x hx,oE,h2,x0e hlt (by omega)]
   rfl
  ·right
   have:i=u.length:=by omega
   subst this;simp only[go1,Nat.reduceAdd,oE,x0h,x0g]
 termination_by m=>m
 decreasing_by omega

def z2p {p:Nat->Bool}{c:Nat}{r:List Nat}(h:p c=true):x2v p (c::r)=1+x2v p r:=by
 unfold x2v;rw[List.takeWhile_cons,if_pos h,a0b];omega
def u8r {p:Nat->Bool}{c:Nat}{r:List Nat}(h:p c=false):x2v p (c::r)=0:=by
 unfold x2v;rw[List.takeWhile_cons,h];rfl
def v5n {c:Nat}(r:List Nat)(hc:x2z c=true):x7r (c::r)=1+x7r r:=by
 have h1:=x7r.eq_def (c::r);have h2:=x7r.eq_def r;have hs:x2v x2z (c::r)=1+x2v x2z r:=z2p hc;rw[hs]at h1;have hd:(c::r).drop (1+x2v x2z r)=r.drop (x2v x2z r):=by rw[Nat.add_comm,List.drop_succ_cons]
 have hd2: ∀k,(c::r).drop (1+x2v x2z r+k)=r.drop (x2v x2z r+k):=fun k=>by
  rw[show 1+x2v x2z r+k=(x2v x2z r+k)+1 by omega,List.drop_succ_cons]
 rw[hd,hd2]at h1;rw[h1,h2];split<;>omega
def q7d {p:Nat->Bool}{l:List Nat}(h:p (l.getD 0 0)=false):x2v p l=0:=by
 match l,h with
 | [],_=>rfl
 |c::r,h=>exact u8r h
def x7q {l:List Nat}(hc:x2z (l.getD 0 0)=false)(hr:u1h v3g l=false):x7r l=0:=by
 have h1:=x7r.eq_def l;rw[q7d hc,a2k,hr]at h1
 simpa using h1
def z2j:Nat->List Nat->Nat
 |n,[]=>n
 |n,c::r=>z2j (n*10+(c - 48)) r
def v1q: ∀(l:List Nat) (n:Nat),n<=z2j n l
 | [],n=>a0q _
 |c::r,n=>by
  have:=v1q r (n*10+(c - 48));show n<=z2j (n*10+(c - 48)) r;omega
def w4o: ∀(l:List UInt8) (acc:Nat),(l.map UInt8.toNat).all x0x=true->acc<=18446744073709551615->
  Lib.parseUintM 18446744073709551615 acc l=if z2j acc (l.map UInt8.toNat)<=18446744073709551615 then .ok (z2j acc (l.map UInt8.toNat))else .range
 | [],acc,_,h=>by
   rw[Lib.parseUintM,a1x];show _=if acc<=_ then _ else _;rw[if_pos h];rfl
 |c::r,acc,hd,h=>by
  rw[a1o,a1p,a0g]at hd;obtain⟨h1,h2⟩:=hd;have hc:48<=c.toNat/\c.toNat<=57:=by
   unfold x0x at h1
   simpa using h1
  rw[Lib.parseUintM,if_pos hc,a1o];show _=if z2j (acc*10+(c.toNat - 48)) (r.map UInt8.toNat)<=_ then Lib.NumEnd.ok (z2j (acc*10+(c.toNat - 48)) (r.map UInt8.toNat))else _;have hg:=v1q (r.map UInt8.toNat) (acc*10+(c.toNat - 48))
  by_cases h3:1844674407370955162<=acc
  ·rw[if_pos h3,if_neg (by omega)]
  ·rw[if_neg h3]
   by_cases h4:18446744073709551615 < acc*10+(c.toNat - 48)
   ·rw[if_pos h4,if_neg (by omega)]
   ·rw[if_neg h4];exact w4o r _ h2 (by omega)
def z7x (s:BA)(hd:(tb s).all x0x=true)(hne:0 < (tb s).length):
  q5y s=decide (z2j 0 (tb s) < 9223372036854775808)/\(z2j 0 (tb s) < 9223372036854775808->u9d s=(z2j 0 (tb s):Int)):=by
 unfold q5y u9d;unfold tb at hd hne ⊢;generalize s.data.toList=l at hd hne ⊢
 match l,hne with
 |c::r,_=>
  have hp:=w4o (c::r) 0 hd (by omega)
  rw[a1o,a1p,a0g]at hd;have hc:48<=c.toNat/\c.toNat<=57:=by
   have:=hd.1;unfold x0x at this
   simpa using this
  have e1: ¬(c.toNat=43\/c.toNat=45):=by omega
  have e2: ¬c.toNat=45:=by omega
  generalize z2j 0 ((c::r).map UInt8.toNat)=v at hp ⊢;have hp2:Lib.parseUintB 64 (c::r)=if v<=18446744073709551615 then .ok v else .range:=by
   unfold Lib.parseUintB;rw[if_neg (by simp)]
   exact hp
  unfold Lib.parseIntB;simp only[if_neg e1,hp2]
  by_cases hv:v<=18446744073709551615
  ·rw[if_pos hv];simp only[e2,not_false_eq_true,true_and,if_false,false_and]
   by_cases hv2:9223372036854775808<=v
   ·have:(2:Nat) ^ (64 - 1)<=v:=hv2;simp only[this,if_true];exact⟨by rw[x1p (by omega)],fun h=>by omega⟩
   ·have: ¬(2:Nat) ^ (64 - 1)<=v:=hv2;simp only[this,if_false];exact⟨by rw[x2p (by omega)],fun _=>trivial⟩
  ·rw[if_neg hv];exact⟨by rw[x1p (by omega)],fun h=>by omega⟩

def u4n: ∀(l r:List Nat) (n:Nat),z2j n (l++r)=z2j (z2j n l) r
 | [],_,_=>rfl
 |x::l,r,n=>u4n l r (n*10+(x - 48))



def z3p (s:BA)(a b:Nat):(s.extract a b).size<=s.size:=by
 rw[ByteArray.size_extract];omega
def w0w (s:BA):(x1e s).s.size<=s.size:=by
 have h0:(bs []).size<=s.size:=a0t _;unfold x1e;simp only;split
 ·unfold y0c;simp only;split<;>exact z3p _ _ _
 ·exact z3p _ _ _
 ·unfold y2z;split
  ·exact h0
  ·exact z3p _ _ _
 ·unfold y0h;split
  ·exact z3p _ _ _
  ·exact z3p _ _ _
  ·exact h0
def w0x (s:BA)(h:(x1e s).k=5):(x1e s).s.size<=2:=by
 unfold x1e at h ⊢;simp only at h ⊢;split at h
 ·rename_i hc;unfold y0c at h;simp only at h;split at h<;>cases h
 ·cases h
 ·unfold y2z at h;split at h<;>cases h
 ·rename_i h1 h2 h3;unfold y0h at h ⊢;split
  ·show(s.extract 0 2).size<=2;rw[ByteArray.size_extract];omega
  ·show(s.extract 0 1).size<=2;rw[ByteArray.size_extract];omega
  ·rename_i h4 h5;rw[h4,h5]at h;cases h
def y7f (s:BA): ∀(m a:Nat),(tb s).length - a<=m->(∀t∈(y5u s a).1,t.s.size<=s.size/\(t.k=5->t.s.size<=2))/\(y5u s a).1.length<=(tb s).length - a
 |m,a,hm=>by
  rw[y5u];split
  ·rename_i hp;split
   ·rename_i h;have ih:=y7f s (m - 1) (a+x7r ((tb s).drop a)+(x1e (s.extract (a+x7r ((tb s).drop a)) (tb s).length)).w) (by omega)
    refine⟨fun t ht=> ?_,?_⟩
    ·rcases a1n.1 ht with rfl|ht
     ·exact⟨a1a (w0w _) (z3p _ _ _),fun h5=>w0x _ h5⟩
     ·exact ih.1 t ht
    ·simp only[a0b];omega
   ·exact⟨(by simp),a0t _⟩
  ·exact⟨(by simp),a0t _⟩
 termination_by m a=>(tb s).length - a
 decreasing_by omega
def x9d (s:BA):List Tk:=(y5u s 0).1++[q6h s]
def v9t {s:BA}(hs:s.size<=100000){t:Tk}(h:t∈x9d s):t.s.size<=100000/\(t.k=5->t.s.size<=2):=by
 rcases a1k.1 h with h|h
 ·have:=(y7f s _ 0 (a0q _)).1 t h;exact⟨by omega,this.2⟩
 ·rw[a1h.1 h];exact⟨x3j,fun h=>by cases h⟩
def v9v {l:List Tk}{Q:Tk->Prop}(h0:Q ⟨6,bs [],0,0⟩)(h: ∀t∈l,Q t)(j:Nat):Q (tkA l j):=by
 unfold tkA;rw[a0i];cases hx:l[j]? with
 |none=>exact h0
 |some t=>exact h t (a0p hx)
def k7l {l:List Tk}(h: ∀t∈l,t.s.size<=100000):TS l:=fun j=>v9v (Q:=fun t=>t.s.size<=100000) (by decide) h j
def w3t (s:BA)(hs:s.size<=100000):LOK (x9d s):=by
 have h:=(y7f s _ 0 (a0q _)).2;have h2:(tb s).length<=100000:=by rw[x2i];exact hs
 refine⟨by simp[x9d],?_,?_⟩
 ·simp[tkA,x9d,q6h]
 ·simp only[x9d,a0j,a0b,a0e];omega
def u9g (l:List Tk)(i:Int):Bool:=decide (0<=i)&&(decide (i < (l.length:Int))&&decide ((tkA l (l.length - 1)).k=6))
def w8j {l:List Tk}(h:0 < l.length)(hl:l.length<=1000000):IntKind.i64.wrap ((l.length:Int) - 1)=((l.length - 1:Nat):Int):=by
 rw[x0p (by omega) (by omega)];omega
def u0s (l:List Tk)(i:Int)(hl:l.length<=1000000):cF 203 [.d (.sl 4 (x0i l)), .d (.int .i64 i)]=some (.val [.bool (u9g l i)]):=by
 refine cO rfl ?_;rw[w9o];simp only[k9f,go1,x6u];unfold u9g;cases h0:decide (0<=i)with
 |false=>rfl
 |true=>
  cases h1:decide (i < (l.length:Int))with
  |false=>rfl
  |true=>
   have h0:=a0f h0;have h1:=a0f h1;have hpos:0 < l.length:=by omega
   have hlt:l.length - 1 < l.length:=by omega
   have q1:=y6o hlt;have q2:=y0p hlt;rw[x6u]at q1;simp only[go1,w8j hpos hl,q1,q2,x7x]
def encP:Ex × Int × Int->PRes
 |(.mk k n s o a u,p,r)=> .val [.int .i64 k, .int .i64 n, .str s, .int .i64 o, .sl 1 (x0b a), .sl 6 (Ex.rows u), .int .i64 p, .int .i64 r]
def v3v (l:List Tk)(i:Nat):Ex × Int × Int:=match y4l l i with
 | .out=>(e0,(i:Int),1)
 | .bad j=>(e0,(j:Int),2)
 | .ok e j=>bif !x3k e then(e0,(i:Int),3)else bif !y1y e then(e0,(i:Int),1)else(e,(j:Int),0)
def v2o (e:Ex):(decide ((12:Int) < (e.depth:Int)) || decide ((60:Int) < (e.size:Int)))= !x3k e:=by
 unfold x3k;rw[nlt,nlt];have e1:decide ((e.depth:Int)<=12)=decide (e.depth<=12):=by rw[a1g];simp;try omega
 have e2:decide ((e.size:Int)<=60)=decide (e.size<=60):=by rw[a1g];simp;try omega
 rw[e1,e2];cases decide (e.depth<=12)<;>cases decide (e.size<=60)<;>rfl
def q2y {l:List Tk}(hl:LOK l)(i:Nat)(hi:i < l.length):cF 204 [.d (.sl 4 (x0i l)), .d (.int .i64 (i:Int))]=some (match y4l l i with
  | .ok (.mk k n s o a u) j=> .val [.int .i64 k, .int .i64 n, .str s, .int .i64 o, .sl 1 (x0b a), .sl 6 (Ex.rows u), .int .i64 (j:Int), .bool true]
  | .bad j=> .val [.int .i64 0, .int .i64 0, .str (bs []), .int .i64 0, .sl 1 [], .sl 6 [], .int .i64 (j:Int), .bool false]
  | .out=> .val []):=by
 have h:=w2w hl i hi;have hne:=z4q hl i hi;refine cO rfl ?_;rw[w9n];simp only[k9e,go1,h];cases hR:y4l l i with
 |out=>exact(hne hR).elim
 |bad j=>rfl
 |ok e j=>obtain⟨k,n,s,o,a,u⟩:=e;rfl
def q3c {l:List Tk}(hl:LOK l)(ht:TS l)(i:Nat)(hi:i < l.length):cF 171 [.d (.sl 4 (x0i l)), .d (.int .i64 (i:Int))]=some (encP (v3v l i)):=by
 have hf:=hl.few;have h1:=u0s l (i:Int) hf;have h0:u9g l (i:Int)=true:=by
  unfold u9g;rw[x2p (by omega),x2p (by omega),hl.last];rfl
 rw[h0]at h1;have h2:=q2y hl i hi;have hne:=z4q hl i hi;unfold v3v;refine cO rfl ?_;rw[q0c];simp only[k9t,go1,h1,h2];cases hR:y4l l i with
 |out=>exact(hne hR).elim
 |bad j=>rfl
 |ok e j=>
  have hz:=z4p ht hR;have hj:=((y2b hl (fuel l)).pos .arrow i e j hi hR).2;have hff:=z5b e hz.2 (by omega)
  have hsm:=v2o e;obtain⟨k,n,s,o,a,u⟩:=e;have k1:=z6h 1000000 k n s o a u (by omega) (a0q _)
  have k2:=v7y k n s o a u (by omega)
  have k3:=u7s k n s o a u (by omega) hff
  simp only[go1,oE,k1,k2,k3];cases g1:decide ((12:Int) < ((Ex.mk k n s o a u).depth:Int))with
  |true=>
   rw[g1,a1r]at hsm;simp only[go1,<-hsm];rfl
  |false=>
   cases g2:decide ((60:Int) < ((Ex.mk k n s o a u).size:Int))with
   |true=>
    rw[g1,g2,a1e]at hsm;simp only[go1,<-hsm];rfl
   |false=>
    rw[g1,g2,a1e]at hsm;have hsm2:x3k (.mk k n s o a u)=true:=by cases h:x3k (.mk k n s o a u)with
     |true=>rfl
     |false=>rw[h]at hsm;cases hsm
    simp only[go1,hsm2];cases y1y (.mk k n s o a u)<;>(simp only[go1];rfl)
def k3j:BA × BA × Int × Bool->PRes
 |(a,b,p,ok)=> .val [.str a, .str b, .int .i64 p, .bool ok]
def u8j (l:List Tk)(i:Nat):BA × BA × Int × Bool:=match x6j l i with
 | .ok w j=>(w.1,w.2,(j:Int),true)
 | .bad j=>(bs [],bs [],(j:Int),false)
 | .out=>(bs [],bs [],0,false)
def q2z {l:List Tk}(hl:LOK l)(i:Nat)(hi:i < l.length):cF 226 [.d (.sl 4 (x0i l)), .d (.int .i64 (i:Int))]=some (k3j (u8j l i)):=by
 have h:=v7t l hl i hi;unfold u8j;refine cO rfl ?_;rw[w9g];simp only[k8x,go1,h];cases hR:x6j l i with
 |out=>exact(z4e hl (y2b hl 0) i hR).elim
 |bad j=>rfl
 |ok e j=>rfl
def q3b {l:List Tk}(hl:LOK l)(i:Nat)(hi:i < l.length):cF 202 [.d (.sl 4 (x0i l)), .d (.int .i64 (i:Int))]=some (k3j (u8j l i)):=by
 have hf:=hl.few;have h1:=u0s l (i:Int) hf;have h0:u9g l (i:Int)=true:=by
  unfold u9g;rw[x2p (by omega),x2p (by omega),hl.last];rfl
 rw[h0]at h1;have h2:=q2z hl i hi;refine cO rfl ?_;rw[w9p];simp only[k9g,go1,h1,h2];unfold u8j;cases x6j l i<;>rfl
inductive Rc (α:Type) where
 |ok (a:α) (j:Nat)
 |bad (p:Nat) (c:Int)
abbrev RM (α:Type):=Nat->Rc α
def RM.bind {α β:Type}(m:RM α)(k:α->RM β):RM β:=fun i=>match m i with
 | .ok a j=>k a j
 | .bad p c=> .bad p c
def RM.ret {α:Type}(a:α):RM α:=fun i=> .ok a i
structure St where
 i:Nat
 b:Bool
 a:Int
 w:Int
structure Post {α:Type} (F:Int->St->Nat->Int->Prop) (l:List Tk) (m:RM α) (s:St) (v:α) (s':St):Prop where
 le:s.i<=s'.i
 lt:s'.i < l.length
 bad:s.b=false->s'=s
 good:s.b=true->match m s.i with
  | .ok u j=>v=u/\s'=⟨j,true,s.a,s.w⟩
  | .bad p c=>s'.b=false/\F s.a s' p c
section
variable {α β : Type} {F : Int -> St -> Nat -> Int -> Prop} {l : List Tk} {m : RM α} {k : α -> RM β} {s s1 s2 : St} {v : α} {u : β}
theorem Post.bind (h1:Post F l m s v s1)(h2:Post F l (k v) s1 u s2):Post F l (m.bind k) s u s2:=by
 refine⟨a1a h1.le h2.le,h2.lt,fun hb=> ?_,fun hb=> ?_⟩
 ·have e:=h1.bad hb;subst e;exact h2.bad hb
 ·have g:=h1.good hb;unfold RM.bind;cases hm:m s.i with
  |ok a j=>
   rw[hm]at g;obtain⟨rfl,rfl⟩:=g;exact h2.good rfl
  |bad p c=>
   rw[hm]at g;have e:=h2.bad g.1;subst e;exact g
theorem Post.ret (hs:s.i < l.length):Post F l (RM.ret v) s v s:=by
 refine⟨a0q _,hs,fun _=>rfl,fun hb=> ?_⟩
 obtain⟨i,b,a,w⟩:=s;cases hb;exact⟨rfl,rfl⟩
theorem Post.map {f:α->β}(h:Post F l m s v s1):Post F l (m.bind fun x=>RM.ret (f x)) s (f v) s1:=h.bind (Post.ret h.lt)
theorem Post.of {m':RM α}(h:Post F l m s v s1)(e:s.b=true->m' s.i=m s.i):Post F l m' s v s1:=
 ⟨h.le,h.lt,h.bad,fun hb=>by rw[e hb];exact h.good hb⟩
end
def FP (l:List Tk):Int->St->Nat->Int->Prop:=fun _ s p c=>s.a=(tkA l p).a/\s.w=c
abbrev x4i {α:Type}(l:List Tk)(m:RM α)(s:St)(v:α)(s':St):Prop:=Post (FP l) l m s v s'
def stD (l:List Tk)(en:LL)(s:St):List D:=[.sl 4 (x0i l), .int .i64 (s.i:Int), .bool s.b, .int .i64 s.a, .int .i64 s.w, .sl 2 en]
section
variable (l w a en : LL) (i x y e : Int) (s : BA) (b k : Bool)
theorem dcR:y2d (kR l i en b x y)=some (0,[.ptr 0 0],[.cells (.ty 47) [.d (.sl 4 l), .d (.int .i64 i), .own 1, .ifo 51 b [.int .i64 x, .int .i64 y]], .arr 66 2 en]):=rfl
theorem dcRS:y2d (kRS s l i en b x y)=some (0,[.ptr 0 0, .d (.str s)],[.cells (.ty 47) [.d (.sl 4 l), .d (.int .i64 i), .own 1, .ifo 51 b [.int .i64 x, .int .i64 y]], .arr 66 2 en]):=rfl
theorem dcRI:y2d (kRI e l i en b x y)=some (0,[.ptr 0 0, .d (.int .i64 e)],[.cells (.ty 47) [.d (.sl 4 l), .d (.int .i64 i), .own 1, .ifo 51 b [.int .i64 x, .int .i64 y]], .arr 66 2 en]):=rfl
theorem k6l:y2d (kRB k l i en b x y)=some (0,[.ptr 0 0, .d (.bool k)],[.cells (.ty 47) [.d (.sl 4 l), .d (.int .i64 i), .own 1, .ifo 51 b [.int .i64 x, .int .i64 y]], .arr 66 2 en]):=rfl
theorem dcRF (p c:Int):y2d (kRF p c l i en b x y)=some (0,[.ptr 0 0, .d (.int .i64 p), .d (.int .i64 c)],[.cells (.ty 47) [.d (.sl 4 l), .d (.int .i64 i), .own 1, .ifo 51 b [.int .i64 x, .int .i64 y]], .arr 66 2 en]):=rfl
theorem dcRN:y2d (kRN w l i en b x y)=some (0,[.ptr 0 0, .own 1],[.cells (.ty 47) [.d (.sl 4 l), .d (.int .i64 i), .own 2, .ifo 51 b [.int .i64 x, .int .i64 y]], .arr 9 1 w, .arr 66 2 en]):=rfl
theorem dcQ:y2d (qR l i b en e)=some (0,[.ptr 0 0],[.cells (.ty 63) [.ptr 1 0, .own 2, .d (.int .i64 e)], .cells (.ty 61) [.d (.sl 4 l), .d (.int .i64 i), .d (.bool b)], .arr 66 2 en]):=rfl
theorem dcQB:y2d (qRB k l i b en e)=some (0,[.ptr 0 0, .d (.bool k)],[.cells (.ty 63) [.ptr 1 0, .own 2, .d (.int .i64 e)], .cells (.ty 61) [.d (.sl 4 l), .d (.int .i64 i), .d (.bool b)], .arr 66 2 en]):=rfl
end
theorem cBr (f:FuncId){k:FuncId}{pn:Nat}{xs key:List V}{hs:List Box}{p:PRes}(hn:kn k key=none)(h:fB sy eF f pn xs hs=some p)(hg:x4g Tryz.prog k=false:=by kernel_rfl)(hd:y2d key=some (pn,xs,hs):=by with_reducible first|exact dcR .. |exact dcRS .. |exact dcRI .. |exact k6l .. |exact dcRF .. |exact dcRN .. |exact dcQ .. |exact dcQB ..)(hk:Nat.beq k (z1g f)=true:=by kernel_rfl):cF k key=some p:=k1u hg hd hk hn h
theorem q3m {B:Type}{f k:FuncId}{pn:Nat}{xs key:List V}{hs:List Box}{c:B->PRes}{Q:B->Prop}(hg:x4g Tryz.prog k=false)(hd:y2d key=some (pn,xs,hs))(hk:Nat.beq k (z1g f)=true)(hn:kn k key=none)(h: ∃x,fB sy eF f pn xs hs=some (c x)/\Q x): ∃x,cF k key=some (c x)/\Q x:=
 h.imp fun _ h=>⟨k1u hg hd hk hn h.1,h.2⟩
theorem cXr {B:Type}(f:FuncId){k:FuncId}{pn:Nat}{xs key:List V}{hs:List Box}{c:B->PRes}{Q:B->Prop}(hn:kn k key=none)(h: ∃x,fB sy eF f pn xs hs=some (c x)/\Q x)(hg:x4g Tryz.prog k=false:=by kernel_rfl)(hd:y2d key=some (pn,xs,hs):=by with_reducible first|exact dcR .. |exact dcRS .. |exact dcRI .. |exact k6l .. |exact dcRF .. |exact dcRN .. |exact dcQ .. |exact dcQB ..)(hk:Nat.beq k (z1g f)=true:=by kernel_rfl): ∃x,cF k key=some (c x)/\Q x:=q3m hg hd hk hn h
theorem y2k {σ B α:Type}{b:List D->Option (List D ⊕ α)}{c:B->α}(mk:σ->List D)(I:σ->Prop)(μ:σ->Nat)(Q:σ->B->Prop)
  (h: ∀x,I x->(∃y,b (mk x)=some (.inl (mk y))/\I y/\μ y < μ x/\ ∀r,Q y r->Q x r)\/ ∃r,b (mk x)=some (.inr (c r))/\Q x r) (x:σ) (hx:I x): ∃r,x6d b (mk x)=some (c r)/\Q x r:=by
 generalize hn:μ x=n
 induction n using Nat.strongRecOn generalizing x with
 |_ n ih=>
  rcases h x hx with⟨y,h1,h2,h3,h4⟩|⟨r,h1,h2⟩
  ·obtain⟨r,h5,h6⟩:=ih (μ y) (hn▸h3) y h2 rfl;refine⟨r,?_,h4 r h6⟩;rw[x9o,h1];exact h5
  ·exact⟨r,by rw[x9o,h1],h2⟩
def tkR (l:List Tk)(x:BA):RM Bool:=fun i=>match isT l i x with
 |true=> .ok true (i+1)
 |false=> .ok false i
def q1r {α:Type}(p:Nat)(c:Int):RM α:=fun _=> .bad p c
def z6u (l:List Tk)(k:Int):RM Tk:=fun i=>match decide ((tkA l i).k=k)&& !(decide (k=1)&&x4r (tb (tkA l i).s))with
 |true=> .ok (tkA l i) (i+1)
 |false=> .bad i 2
def x6l (l:List Tk)(ws:List BA):RM Unit:=fun i=>match x2b l ws i with
 | .ok _ j=> .ok () j
 | .bad p=> .bad p 2
 | .out=> .bad 0 2
theorem x9l {α:Type}{F:Int->St->Nat->Int->Prop}{l:List Tk}{m:RM α}{s:St}{v:α}(h:s.i < l.length)(hb:s.b=false):Post F l m s v s:=
 ⟨a0q _,h,fun _=>rfl,fun h=>by rw[hb]at h;cases h⟩
section
variable {l : List Tk} (hl : LOK l) (en : LL) (s : St) (hs : s.i < l.length)
include hl hs
theorem x7h (x:BA): ∃v s',cF 1000037 (kRS x (x0i l) (s.i:Int) en s.b s.a s.w)=some (.val (.bool v::stD l en s'))/\x4i l (tkR l x) s v s'/\(v=true->s.b=true/\s'.i=s.i+1):=by
 have hf:=hl.few;have h1:=y6o hs;have h2:=y0p hs;have e0:IntKind.i64.wrap ((s.i:Int)+0)=(s.i:Int):=by rw[Int.add_zero];exact x0p (by omega) (by omega)
 have e1:IntKind.i64.wrap ((s.i:Int)+1)=((s.i+1:Nat):Int):=by rw[x0e (n:=l.length) hs (by omega)];rfl
 have e2:decide (((x0i l).length:Int)<=(s.i:Int))=false:=x1p (by rw[x6u];omega)
 obtain⟨i,b,a,w⟩:=s;simp only at hs h1 h2 e0 e1 e2;cases b with
 |false=>
  refine⟨false,⟨i,false,a,w⟩,?_,x9l hs rfl,fun h=>(by cases h)⟩
  refine cBr 37 rfl ?_;rw[v8n];simp only[b37,stD,go1]
 |true=>
  cases hT:isT l i x with
  |true=>
   refine⟨true,⟨i+1,true,a,w⟩,?_,⟨Nat.le_succ _,hl.next hs (x1m hT),fun h=>(by cases h),fun _=> ?_⟩,fun _=>⟨rfl,rfl⟩⟩
   ·refine cBr 37 rfl ?_;rw[v8n];simp only[b37,stD,go1,e0,e1,e2,h1,h2,x7x,x2f];rw[<-show isT l i x=(decide (tb (tkA l i).s=tb x)&&(decide ((tkA l i).k=1) || decide ((tkA l i).k=5)))from rfl,hT];rfl
   ·simp only[tkR,hT];exact⟨trivial,trivial⟩
  |false=>
   refine⟨false,⟨i,true,a,w⟩,?_,⟨a0q _,hs,fun h=>(by cases h),fun _=> ?_⟩,fun h=>(by cases h)⟩
   ·refine cBr 37 rfl ?_;rw[v8n];simp only[b37,stD,go1,e0,e1,e2,h1,h2,x7x,x2f];rw[<-show isT l i x=(decide (tb (tkA l i).s=tb x)&&(decide ((tkA l i).k=1) || decide ((tkA l i).k=5)))from rfl,hT];rfl
   ·simp only[tkR,hT];exact⟨trivial,trivial⟩
theorem y2q (p:Nat)(hp:p < l.length)(c:Int): ∃s',cF 1000042 (kRF (p:Int) c (x0i l) (s.i:Int) en s.b s.a s.w)=some (.val (stD l en s'))/\x4i l (q1r p c) s () s'/\s'.b=false/\s'.i=s.i:=by
 have h1:=y6o hp;have h2:=y0p hp;obtain⟨i,b,a,w⟩:=s;simp only at hs;cases b with
 |false=>
  refine⟨⟨i,false,a,w⟩,?_,x9l hs rfl,rfl,rfl⟩;refine cBr 42 rfl ?_;rw[w5y];simp only[b42,stD,go1]
 |true=>
  refine⟨⟨i,false,(tkA l p).a,c⟩,?_,⟨a0q _,hs,fun h=>(by cases h),fun _=>⟨rfl,rfl,rfl⟩⟩,rfl,rfl⟩
  refine cBr 42 rfl ?_;rw[w5y];simp only[b42,stD,go1,h1,h2,x7x];rfl
theorem u3w (k:Nat)(hk:k < 6): ∃v s',cF 1000086 (kRI (k:Int) (x0i l) (s.i:Int) en s.b s.a s.w)=some (.val (x7x v++stD l en s'))/\x4i l (z6u l (k:Int)) s v s':=by
 have hf:=hl.few;have h1:=y6o hs;have h2:=y0p hs;have h3:=u7t (tkA l s.i).s;have e1:IntKind.i64.wrap ((s.i:Int)+1)=((s.i+1:Nat):Int):=by rw[x0e (n:=l.length) hs (by omega)];rfl
 obtain⟨s',hf1,hp1,hp2,hp3⟩:=y2q hl en s hs s.i hs 2;cases hb:s.b with
 |false=>
  rw[hb]at hf1;refine⟨⟨0,bs [],0,0⟩,s',?_,?_⟩
  ·refine cBr 86 rfl ?_;rw[v8m];simp only[b86,oV,oT,stD,a0d,a0h,go1,h1,h2,x7x,hf1];rfl
  ·have e:=hp1.bad hb;subst e;exact x9l hs hb
 |true=>
  rw[hb]at hf1;cases hT:decide ((tkA l s.i).k=(k:Int))&& !(decide ((k:Int)=1)&&x4r (tb (tkA l s.i).s))with
  |true=>
   refine⟨tkA l s.i,⟨s.i+1,true,s.a,s.w⟩,?_,?_⟩
   ·refine cBr 86 rfl ?_;rw[v8m];simp only[b86,oV,oT,stD,a0d,a0h,go1,h1,h2,x7x,h3,hf1,e1]
    revert hT
    cases decide ((tkA l s.i).k=(k:Int))<;>cases decide ((k:Int)=1)<;>cases x4r (tb (tkA l s.i).s)<;>intro hT<;>first|(cases hT;done)|rfl
   ·have hk6:(tkA l s.i).k≠6:=by
     simp only[a0g,a0u]at hT;omega
    refine⟨Nat.le_succ _,hl.next hs hk6,fun h=>(by rw[hb]at h;cases h),fun _=> ?_⟩
    unfold z6u;rw[hT];exact⟨rfl,rfl⟩
  |false=>
   refine⟨⟨0,bs [],0,0⟩,s',?_,?_⟩
   ·refine cBr 86 rfl ?_;rw[v8m];simp only[b86,oV,oT,stD,a0d,a0h,go1,h1,h2,x7x,h3,hf1,e1]
    revert hT
    cases decide ((tkA l s.i).k=(k:Int))<;>cases decide ((k:Int)=1)<;>cases x4r (tb (tkA l s.i).s)<;>intro hT<;>first|(cases hT;done)|rfl|(simp only[go1,Nat.reduceAdd,Int.reduceEq,Int.reduceLT,Int.reduceLE,Int.reduceSub,Int.reduceAdd,Bool.not_true,a2f,hf1];done)
   ·refine⟨hp1.le,hp1.lt,hp1.bad,fun h=> ?_⟩
    have g:=hp1.good h;unfold z6u;rw[hT];exact g
theorem x5p (ws:List BA)(hw:ws.length<=1000): ∃s',cF 1000087 (kRN (x0b ws) (x0i l) (s.i:Int) en s.b s.a s.w)=some (.val [.sl 4 (x0i l), .int .i64 (s'.i:Int), .bool s'.b, .int .i64 s'.a, .int .i64 s'.w, .sl 1 (x0b ws), .sl 2 en])/\x4i l (x6l l ws) s () s':=by
 refine cXr 87 rfl ?_;rw[k2d];simp only[b87,oV,oR,go1,Nat.reduceAdd];have e1:(x0b ws).length=ws.length:=x0c ws;refine y2k (σ:=Nat × St) (B:=St) (fun x=>[.int .i64 ((x0b ws).length:Int), .int .i64 (x.1:Int), .sl 4 (x0i l), .int .i64 (x.2.i:Int), .bool x.2.b, .int .i64 x.2.a, .int .i64 x.2.w, .sl 1 (x0b ws), .sl 2 en]) (fun x=>x.1<=ws.length/\x.2.i < l.length) (fun x=>ws.length - x.1) (fun x y=>x4i l (x6l l (ws.drop x.1)) x.2 () y) ?_ (0,s) ⟨a0t _,hs⟩
 rintro⟨k,s⟩ ⟨hk,hs⟩
 simp only at hk hs ⊢
 by_cases hlt:k < ws.length
 ·left
  have e3:sy.rown (x0b ws) k= [.str ws[k]]:=by
   show(x0b ws).getD k []=_;rw[a0i];simp[x0b,v9y,hlt]
  obtain⟨v,s1,h1,r1,_⟩:=x7h hl en s hs ws[k];have e2:x6l l (ws.drop k)=(tkR l ws[k]).bind fun v=>match v with
      |true=>x6l l (ws.drop (k+1))
      |false=>fun i=> .bad i 2:=by
   funext i;unfold x6l RM.bind tkR;rw[List.drop_eq_getElem_cons hlt,x2b];cases isT l i ws[k]<;>rfl
  cases v with
  |true=>
   refine⟨(k+1,s1),?_,⟨hlt,r1.lt⟩,by simp only;omega,fun y hy=> ?_⟩
   ·simp only[go1,stD,e1,x0l hlt,x0k hlt,a0n,e3,h1];rw[x0e hlt (by omega)];rfl
   ·rw[e2];exact r1.bind hy
  |false=>
   obtain⟨s2,h2,r2,_,_⟩:=y2q hl en s1 r1.lt s1.i r1.lt 2;refine⟨(k+1,s2),?_,⟨hlt,r2.lt⟩,by simp only;omega,fun y hy=> ?_⟩
   ·simp only[go1,stD,e1,x0l hlt,x0k hlt,a0n,e3,h1,h2];rw[x0e hlt (by omega)];rfl
   ·rw[e2];refine r1.bind ⟨a1a r2.le hy.le,hy.lt,fun hb=> ?_,fun hb=> ?_⟩
    ·have e:=r2.bad hb;subst e;exact hy.bad hb
    ·have g:=r2.good hb;have e:=hy.bad g.1;subst e;exact g
 ·right
  have:k=ws.length:=by omega
  subst this;refine⟨s,?_,?_⟩
  ·simp only[go1,e1,x0g]
  ·rw[List.drop_length];exact Post.ret hs
end
def y5t (l:List Tk)(k:Int):Nat->List BA->RM (List BA)
 |0,acc=>RM.ret acc
 |n+1,acc=>(tkR l (bs [44])).bind fun v=>match v with
  |true=>(z6u l k).bind fun t=>y5t l k n (acc++[t.s])
  |false=>RM.ret acc
def z3g (l:List Tk)(k:Int):RM (List BA):=(z6u l k).bind fun t=>y5t l k l.length [t.s]
theorem x4m (acc:List BA)(x:BA):x0b (acc++[x])=x0b acc++[[.str x]]:=by simp[x0b,v9y]
section
variable {l : List Tk} (hl : LOK l) (en : LL) (s : St) (hs : s.i < l.length)
include hl hs
theorem u7n (k:Nat)(hk:k < 6): ∃x:List BA × St,cF 1000088 (kRI (k:Int) (x0i l) (s.i:Int) en s.b s.a s.w)=some (.val (.sl 1 (x0b x.1)::stD l en x.2))/\x4i l (z3g l (k:Int)) s x.1 x.2:=by
 have hf:=hl.few;obtain⟨t,s0,h0,r0⟩:=u3w hl en s hs k hk;refine cXr 88 rfl ?_;rw[k2c];simp only[b88,oV,oT,stD,a0d,a0h,go1,Nat.reduceAdd,h0,x7x];refine(y2k (σ:=Nat × List BA × St) (B:=List BA × St) (c:=fun x=>PRes.val [.sl 1 (x0b x.1), .sl 4 (x0i l), .int .i64 (x.2.i:Int), .bool x.2.b, .int .i64 x.2.a, .int .i64 x.2.w, .sl 2 en]) (fun x=>[.int .i64 (k:Int), .sl 4 (x0i l), .int .i64 (x.2.2.i:Int), .bool x.2.2.b, .int .i64 x.2.2.a, .int .i64 x.2.2.w, .sl 2 en, .sl 1 (x0b x.2.1)])
  (fun x=>l.length - x.2.2.i<=x.1/\x.2.1.length<=x.2.2.i+1/\x.2.2.i < l.length) (fun x=>x.1) (fun x y=>x4i l (y5t l k x.1 x.2.1) x.2.2 y.1 y.2) ?_ (l.length,[t.s],s0) ⟨by simp only;omega,by simp,r0.lt⟩).imp fun x h=>⟨h.1,r0.bind h.2⟩
 rintro⟨n,acc,s⟩ ⟨hn,ha,hs⟩
 simp only at hn ha hs ⊢;obtain⟨v,s1,h1,r1,hv⟩:=x7h hl en s hs (bs [44]);obtain⟨n,rfl⟩: ∃m,n=m+1:=⟨n - 1,by omega⟩
 cases v with
 |true=>
  left
  obtain⟨_,hi⟩:=hv rfl;obtain⟨t,s2,h2,r2⟩:=u3w hl en s1 r1.lt k hk;refine⟨(n,acc++[t.s],s2),?_,⟨?_,?_,r2.lt⟩,a1m _,fun y hy=>r1.bind (r2.bind hy)⟩
  ·simp only[go1,stD,a0d,a0h,h1,h2,x7x];have e:=y0z (x0b acc) [[.str t.s]] 16 (by rw[x0c];simp only[a0b,a0e];omega)
   simp only[go1,e];rw[x4m]
  ·have:=r2.le;simp only;omega
  ·have:=r2.le;simp only[a0j,a0b,a0e];omega
 |false=>
  right
  refine⟨(acc,s1),?_,r1.bind (Post.ret r1.lt)⟩;simp only[go1,stD,h1]
end
abbrev En:=BA × List BA
def v0h (e:En):List D:=[.str e.1, .sl 1 (x0b e.2)]
def x0j (l:List En):LL:=l.map v0h
theorem x0t (l:List En):(x0j l).length=l.length:=by simp[x0j]
def v6o (l:List Tk):RM En:=(z6u l 1).bind fun t=>(x6l l [bs [123]]).bind fun _=>(z3g l 2).bind fun cs=>(x6l l [bs [125],bs [59]]).bind fun _=>RM.ret (t.s,cs)
section
variable {l : List Tk} (hl : LOK l) (en : LL) (s : St) (hs : s.i < l.length)
include hl hs
theorem q2r: ∃x:En × St,cF 1000038 (kR (x0i l) (s.i:Int) en s.b s.a s.w)=some (.val (v0h x.1++stD l en x.2))/\x4i l (v6o l) s x.1 x.2:=by
 obtain⟨t,s1,h1,r1⟩:=u3w hl en s hs 1 (by omega)
 obtain⟨s2,h2,r2⟩:=x5p hl en s1 r1.lt [bs [123]] (by simp)
 obtain⟨⟨cs,s3⟩,h3,r3⟩:=u7n hl en s2 r2.lt 2 (by omega)
 simp only at h3 r3;obtain⟨s4,h4,r4⟩:=x5p hl en s3 r3.lt [bs [125],bs [59]] (by simp)
 rw[<-y0d]at h2;rw[<-q7c]at h4;refine⟨((t.s,cs),s4),?_,r1.bind (r2.bind (r3.bind (r4.bind (Post.ret r4.lt))))⟩;have h1:cF 1000086 (kRI 1 (x0i l) (s.i:Int) en s.b s.a s.w)=_:=h1;have h3:cF 1000088 (kRI 2 (x0i l) (s2.i:Int) en s2.b s2.a s2.w)=_:=h3;refine cBr 38 rfl ?_;rw[k2f];simp only[b38,oV,oR,oT,stD,a0d,a0h,go1,Nat.reduceAdd,h1,h2,h3,h4,x7x,v0h]
end
def q6e (ens:List En)(nm:BA):Option Nat:=ens.findIdx? fun e=>decide (tb e.1=tb nm)
def v1c (ens:List En)(t:Tk):RM (Int × Int):=match q6e ens t.s with
 |some x=>RM.ret (3,(x:Int))
 |none=>fun j=> .bad (j - 1) 2
def w3l (l:List Tk)(ens:List En):RM (Int × Int):=(tkR l (bs [105,110,116])).bind fun v=>match v with
 |true=>RM.ret (1,0)
 |false=>(tkR l (bs [98,111,111,108])).bind fun v=>match v with
  |true=>RM.ret (2,0)
  |false=>(z6u l 1).bind (v1c ens)
theorem y4e {l:List Tk}{k:Int}{i j:Nat}{t:Tk}(h:z6u l k i= .ok t j):t=tkA l i/\j=i+1:=by
 unfold z6u at h;split at h
 ·cases h;exact⟨rfl,rfl⟩
 ·cases h
section
variable {l : List Tk} (hl : LOK l) (ens : List En) (hE : ens.length <= 1000000) (s : St) (hs : s.i < l.length)
include hl hs
theorem z7t {α:Type}{k:Int}{t:Tk}{s1 s2:St}{u:α}(r:x4i l (z6u l k) s t s1)(f:x4i l (q1r (α:=Unit) s.i 2) s1 () s2):x4i l (fun j=> .bad (j - 1) 2:RM α) s1 u s2:=by
 refine⟨f.le,f.lt,f.bad,fun hb=> ?_⟩
 have g:=f.good hb;have hb0:s.b=true:=by
  cases h:s.b with
  |true=>rfl
  |false=>have e:=r.bad h;rw[e,h]at hb;cases hb
 have g1:=r.good hb0;cases hm:z6u l k s.i with
 |ok a j=>
  rw[hm]at g1;obtain⟨_,e⟩:=g1;have ej:=(y4e hm).2;have:s1.i - 1=s.i:=by rw[e,ej];simp
  rw[this];exact g
 |bad p c=>
  rw[hm]at g1;rw[g1.1]at hb;cases hb
include hE
theorem q2u: ∃x:(Int × Int) × St,cF 1000201 (kR (x0i l) (s.i:Int) (x0j ens) s.b s.a s.w)=some (.val (.int .i64 x.1.1:: .int .i64 x.1.2:: .int .i64 0::stD l (x0j ens) x.2))/\x4i l (w3l l ens) s x.1 x.2:=by
 have hf:=hl.few;obtain⟨v,s1,h1,r1,_⟩:=x7h hl (x0j ens) s hs (bs [105,110,116]);cases v with
 |true=>
  refine⟨((1,0),s1),?_,r1.bind (Post.ret r1.lt)⟩;refine cBr 201 rfl ?_;rw[u4f];simp only[k3o,oV,oT,stD,go1,Nat.reduceAdd,Int.reduceLT,h1]
 |false=>
  obtain⟨v,s2,h2,r2,_⟩:=x7h hl (x0j ens) s1 r1.lt (bs [98,111,111,108]);cases v with
  |true=>
   refine⟨((2,0),s2),?_,r1.bind (r2.bind (Post.ret r2.lt))⟩;refine cBr 201 rfl ?_;rw[u4f];simp only[k3o,oV,oT,stD,go1,Nat.reduceAdd,Int.reduceLT,h1,h2]
  |false=>
   obtain⟨t,s3,h3,r3⟩:=u3w hl (x0j ens) s2 r2.lt 1 (by omega)
   have h3:cF 1000086 (kRI 1 (x0i l) (s2.i:Int) (x0j ens) s2.b s2.a s2.w)=_:=h3;obtain⟨s4,h4,r4,_⟩:=y2q hl (x0j ens) s3 r3.lt s2.i r2.lt 2;have hback:=z7t (u:=((0,0):Int × Int)) hl s2 r2.lt r3 r4;refine cXr 201 rfl ?_;rw[u4f];simp only[k3o,oV,oT,stD,a0d,a0h,go1,Nat.reduceAdd,Int.reduceLT,h1,h2,h3,x7x];refine(y2k (σ:=Nat) (B:=(Int × Int) × St) (c:=fun x=>PRes.val [.int .i64 x.1.1, .int .i64 x.1.2, .int .i64 0, .sl 4 (x0i l), .int .i64 (x.2.i:Int), .bool x.2.b, .int .i64 x.2.a, .int .i64 x.2.w, .sl 2 (x0j ens)]) (fun k=>[.int .i64 ((x0j ens).length:Int), .int .i64 (k:Int), .sl 4 (x0i l), .int .i64 (s3.i:Int), .bool s3.b, .int .i64 s3.a, .int .i64 s3.w, .sl 2 (x0j ens), .int .i64 0, .int .i64 0, .int .i64 0, .str t.s])
    (fun k=>k<=ens.length/\ ∀(j:Nat) (h:j < ens.length),j < k->decide (tb ens[j].1=tb t.s)=false) (fun k=>ens.length - k) (fun _ y=>x4i l (v1c ens t) s3 y.1 y.2) ?_ 0 ⟨a0t _,fun j _ h=>(by omega)⟩).imp fun x h=>⟨h.1,r1.bind (r2.bind (r3.bind h.2))⟩
   rintro k ⟨hk,hi⟩
   by_cases hlt:k < ens.length
   ·have e3:sy.rown (x0j ens) k= [.str ens[k].1, .sl 1 (x0b ens[k].2)]:=by
     show(x0j ens).getD k []=_;rw[a0i];simp[x0j,v0h,hlt]
    have e4:decide ((k:Int) < 0)=false:=x1p (by omega)
    cases hp:decide (tb ens[k].1=tb t.s)with
    |true=>
     right
     refine⟨((3,(k:Int)),s3),?_,?_⟩
     ·simp only[go1,x0t,x0l hlt,x0k hlt,hlt,a0n,e3,x2f,hp,e4]
     ·have e:q6e ens t.s=some k:=List.findIdx?_eq_some_iff_getElem.2 ⟨hlt,hp,fun j hj=>by rw[hi j (by omega) hj];simp⟩
      unfold v1c;rw[e];exact Post.ret r3.lt
    |false=>
     left
     refine⟨k+1,?_,⟨hlt,fun j h hj=> ?_⟩,by omega,fun _ h=>h⟩
     ·simp only[go1,x0t,x0l hlt,x0k hlt,hlt,a0n,e3,x2f,hp];rw[x0e hlt (by omega)];rfl
     ·by_cases e:j=k
      ·subst e;exact hp
      ·exact hi j h (by omega)
   ·right
    have:k=ens.length:=by omega
    subst this;refine⟨((0,0),s4),?_,?_⟩
    ·simp only[go1,x0t,x0g,h4,stD]
    ·have e:q6e ens t.s=none:=List.findIdx?_eq_none_iff.2 fun x hx=>by
      obtain⟨j,hj,rfl⟩:=List.getElem_of_mem hx;exact hi j hj hj
     unfold v1c;rw[e];exact hback
end
def Ib (b:Nat)(l:List Tk)(i:Nat):Prop:=b<=i/\i < l.length
def Gd {α:Type}(b:Nat)(l:List Tk):Rs α->Prop
 | .out=>True
 | .ok _ j=>Ib b l j
 | .bad j=>Ib b l j
section
variable {l : List Tk} {b : Nat}
theorem x1a {α β:Type}{r:Rs α}{f:α->Nat->Rs β}(h:Gd b l r)(h2: ∀a k,Ib b l k->Gd b l (f a k)):Gd b l (r.bind f):=by
 cases r with
 |ok a k=>exact h2 a k h
 |bad k=>exact h
 |out=>trivial
theorem z0d {σ B:Type}{st:σ->σ ⊕ Rs B}(P:σ->Prop)(h: ∀x,P x->(∃y,st x= .inl y/\P y)\/ ∃r,st x= .inr r/\Gd b l r): ∀(n:Nat) (x:σ),P x->Gd b l (x2k st n x)
 |0,_,_=>trivial
 |n+1,x,hx=>by
  unfold x2k;rcases h x hx with⟨y,h1,h2⟩|⟨r,h1,h2⟩
  ·rw[h1];exact z0d P h n y h2
  ·rw[h1];exact h2
variable (hl : LOK l)
include hl
theorem nk {i:Nat}(hi:Ib b l i)(h:(tkA l i).k≠6):Ib b l (i+1):=⟨Nat.le_succ_of_le hi.1,hl.next hi.2 h⟩
theorem nx {i:Nat}{w:BA}(hi:Ib b l i)(h:isT l i w=true):Ib b l (i+1):=nk hl hi (x1m h)
theorem z0c {i:Nat}(hi:Ib b l i):Gd b l (x4l l i):=by
 cases h:x4l l i with
 |ok n j=>exact⟨by have:=x5t h;have:=hi.1;omega,x7m hl hi.2 h⟩
 |out=>trivial
 |bad j=>
  unfold x4l at h;split at h<;>cases h
  exact hi
theorem w4y {i:Nat}(hi:Ib b l i):Gd b l (z1j l i):=by
 cases h:z1j l i with
 |ok n j=>exact⟨by unfold z1j at h;split at h<;>cases h;have:=hi.1;omega,y5f hl hi.2 h⟩
 |out=>trivial
 |bad j=>
  unfold z1j at h;split at h<;>cases h
  exact hi
theorem x5a: ∀(w:List BA) {i:Nat},Ib b l i->Gd b l (x2b l w i)
 | [],i,hi=>hi
 |x::w,i,hi=>by
  unfold x2b;split
  ·rename_i h;exact x5a w (nx hl hi h)
  ·exact hi
theorem v5l {i:Nat}(hi:Ib b l i):Gd b l (x6j l i):=by
 unfold x6j;split
 ·rename_i h;exact x1a (z0c hl (nx hl hi h)) fun _ _ hk=>hk
 ·split
  ·exact x1a (z0c hl hi) fun _ _ hk=>hk
  ·exact x1a (w4y hl hi) fun _ _ hk=>x1a (x5a hl _ hk) fun _ _ hk=>x1a (z0c hl hk) fun _ _ hk=>x1a (x5a hl _ hk) fun _ _ hk=>hk
variable {n : Nat} {p : PR} (hp : ∀ nt i, Ib b l i -> Gd b l (p nt i))
include hp
theorem z5p (side:Nt)(a m:Nat){i:Nat}(hi:Ib b l i):Gd b l (x5v l n p side a m i):=by
 refine x1a (hp _ _ hi) fun e k hk=>z0d (fun x=>Ib b l x.2) (fun x hx=> ?_) n (e,k) hk
 obtain⟨e2,i2⟩:=x;rw[x7d];split
 ·exact .inr ⟨_,rfl,hx⟩
 ·rename_i o ho;have h3:=hp side (i2+1) (nk hl hx (x4d ho).1);split
  ·rename_i hq;rw[hq]at h3;exact .inl ⟨_,rfl,h3⟩
  ·rename_i hq;rw[hq]at h3;exact .inr ⟨_,rfl,h3⟩
  ·exact .inr ⟨_,rfl,trivial⟩
theorem v5m (en:BA){i:Nat}(hi:Ib b l i):Gd b l (y4t l n p en i):=by
 refine x1a (hp _ _ hi) fun e k hk=>z0d (fun x=>Ib b l x.2) (fun x hx=> ?_) n ([e],k) hk
 obtain⟨e2,i2⟩:=x;rw[y0x];split
 ·rename_i ht;have h3:=hp .arrow (i2+1) (nx hl hx ht);split
  ·rename_i hq;rw[hq]at h3;exact .inl ⟨_,rfl,h3⟩
  ·rename_i hq;rw[hq]at h3;exact .inr ⟨_,rfl,h3⟩
  ·exact .inr ⟨_,rfl,trivial⟩
 ·exact .inr ⟨_,rfl,x1a (x5a hl _ hx) fun _ _ hk=>hk⟩
theorem w8y {i:Nat}(hi:Ib b l i):Gd b l (y1t l n p i):=by
 refine x1a (hp _ _ hi) fun e k hk=>z0d (fun x=>Ib b l x.2) (fun x hx=> ?_) n (e,k) hk
 obtain⟨e2,i2⟩:=x;rw[y0e];split
 ·rename_i ht;have h3:Gd b l (((p .arrow (i2+1)).bind fun a j=>(x2b l [bs [93]] j).bind fun _ j=> .ok a j:Rs Ex)):=x1a (hp .arrow _ (nx hl hx ht)) fun _ _ hk=>x1a (x5a hl _ hk) fun _ _ hk=>hk
  split
  ·rename_i hq;rw[hq]at h3;exact .inl ⟨_,rfl,h3⟩
  ·rename_i hq;rw[hq]at h3;exact .inr ⟨_,rfl,h3⟩
  ·exact .inr ⟨_,rfl,trivial⟩
 ·split
  ·rename_i ht;have h3:=v5l hl (nx hl hx ht);split
   ·rename_i hq;rw[hq]at h3;exact .inl ⟨_,rfl,h3⟩
   ·rename_i hq;rw[hq]at h3;exact .inr ⟨_,rfl,h3⟩
   ·exact .inr ⟨_,rfl,trivial⟩
  ·exact .inr ⟨_,rfl,hx⟩
theorem u6o (nm:BA)(es:List Ex){i:Nat}(hi:Ib b l i):Gd b l (y1w l p nm es i):=by
 unfold y1w;split
 ·rename_i ht;exact x1a (hp _ _ (nx hl hi ht)) fun _ _ hk=>hk
 ·exact hi
theorem w1n {i:Nat}(hi:Ib b l i):Gd b l (y0a l n p i):=by
 refine x1a (z0c hl hi) fun _ _ hk=>x1a (x5a hl _ hk) fun _ _ hk=>x1a (z0d (fun x=>Ib b l x.2.2.1) (fun x hx=> ?_) n _ hk) fun _ _ hk=>hk
 obtain⟨ar,es,i2,b⟩:=x;cases b with
 |false=>exact .inr ⟨_,rfl,hx⟩
 |true=>
  rw[x4o];have h3:Gd b l ((z1j l i2).bind fun a j=>(x2b l [bs [45,62]] j).bind fun _ j=>(p .arrow j).bind fun e j=>(x2b l [bs [41]] j).bind fun _ j=> .ok (a,e) j:Rs (BA × Ex)):=x1a (w4y hl hx) fun _ _ hk=>x1a (x5a hl _ hk) fun _ _ hk=>x1a (hp _ _ hk) fun _ _ hk=>x1a (x5a hl _ hk) fun _ _ hk=>hk
  split
  ·rename_i hq;rw[hq]at h3;split
   ·rename_i ht;exact .inl ⟨_,rfl,nx hl h3 ht⟩
   ·exact .inl ⟨_,rfl,h3⟩
  ·rename_i hq;rw[hq]at h3;exact .inr ⟨_,rfl,h3⟩
  ·exact .inr ⟨_,rfl,trivial⟩
theorem w8w {i:Nat}(hi:Ib b l i):Gd b l (x7w l n p i):=by
 unfold x7w;split
 ·rename_i ht;exact nx hl hi ht
 split
 ·rename_i ht;exact nx hl hi ht
 split
 ·rename_i ht;exact x1a (v5m hl hp _ (nx hl hi ht)) fun _ _ hk=>hk
 split
 ·rename_i ht;unfold x8m;refine x1a (hp _ _ (nx hl hi ht)) fun _ j hk=> ?_
  split
  ·rename_i ht;exact x1a (x5a hl _ (nx hl hk ht)) fun _ _ hk=>x1a (hp _ _ hk) fun _ _ hk=>x1a (x5a hl _ hk) fun _ _ hk=>x1a (hp _ _ hk) fun _ _ hk=>x1a (x5a hl _ hk) fun _ _ hk=>hk
  ·exact x1a (x5a hl _ hk) fun _ _ hk=>hk
 split
 ·rename_i ht;exact w1n hl hp (nx hl hi ht)
 split
 ·rename_i ht;exact x1a (hp _ _ (nx hl hi ht)) fun _ _ hk=>x1a (x5a hl _ hk) fun _ _ hk=>x1a (hp _ _ hk) fun _ _ hk=>x1a (x5a hl _ hk) fun _ _ hk=>x1a (hp _ _ hk) fun _ _ hk=>hk
 ·refine x1a (z0c hl hi) fun _ j hk=> ?_
  split
  ·rename_i ht;have hj:=nx hl hk ht;unfold y3x;split
   ·rename_i ht;exact u6o hl hp _ _ (nx hl hj ht)
   ·exact x1a (v5m hl hp _ hj) fun _ _ hk=>u6o hl hp _ _ hk
  ·exact hk
theorem w8x (nt:Nt){i:Nat}(hi:Ib b l i):Gd b l (ntS l n p nt i):=by
 cases nt with
 |or=>exact z5p hl hp _ _ _ hi
 |and=>exact z5p hl hp _ _ _ hi
 |sum=>exact z5p hl hp _ _ _ hi
 |prod=>exact z5p hl hp _ _ _ hi
 |post=>exact w8y hl hp hi
 |arrow=>
  refine x1a (hp _ _ hi) fun _ j hk=> ?_
  split
  ·rename_i ht;exact x1a (hp _ _ (nx hl hk ht)) fun _ _ hk=>hk
  ·exact hk
 |fby=>
  refine x1a (hp _ _ hi) fun _ j hk=> ?_
  split
  ·rename_i ht;exact x1a (hp _ _ (nx hl hk ht)) fun _ _ hk=>hk
  ·exact hk
 |cmp=>
  refine x1a (hp _ _ hi) fun _ j hk=> ?_
  split
  ·exact hk
  ·rename_i o ho;exact x1a (hp _ _ (nk hl hk (x4d ho).1)) fun _ _ hk=>hk
 |un=>
  show Gd b l (unS l p i);unfold unS;split
  ·rename_i ht;exact x1a (hp _ _ (nx hl hi ht)) fun _ _ hk=>hk
  split
  ·rename_i ht;exact x1a (hp _ _ (nx hl hi ht)) fun _ _ hk=>hk
  split
  ·rename_i ht;exact x1a (hp _ _ (nx hl hi ht)) fun _ _ hk=>hk
  ·exact hp _ _ hi
 |atom=>
  show Gd b l (x8h l n p i);have ne: ∀k:Int,decide ((tkA l i).k=k)=true->k≠6->Ib b l (i+1):=fun k h hk=>nk hl hi (by rw[a0f h];exact hk)
  unfold x8h;split
  ·rename_i ht;exact ne _ ht (by decide)
  split
  ·rename_i ht;exact ne _ ht (by decide)
  split
  ·rename_i ht;exact ne _ ht (by decide)
  ·exact w8w hl hp hi
end
theorem w4x {l:List Tk}{b:Nat}(hl:LOK l): ∀(n:Nat) (nt:Nt) (i:Nat),Ib b l i->Gd b l (prs l n nt i)
 |0,_,_,_=>trivial
 |n+1,nt,i,hi=>w8x hl (w4x hl n) nt hi
theorem u5k {l:List Tk}(hl:LOK l){i:Nat}(hi:i < l.length){j:Nat}(h:y4l l i= .bad j):i<=j/\j < l.length:=by
 have:=w4x (b:=i) hl (fuel l) .arrow i ⟨a0q _,hi⟩;unfold y4l at h;rw[h]at this;exact this
section
variable {α : Type}
theorem hC {f:FuncId}{k:List V}{p:PRes}(h:cF f k=some p)(K:PRes->Option α):(eF.call f k).bind K=K p:=by rw[show eF.call f k=cF f k from rfl,h];rfl
theorem hB0 (v:Bool)(r:List D)(K:Bool->Option α):(opB (sy.cell (PRes.val (.bool v::r)).leaves 0)).bind K=K v:=rfl
theorem hI0 (v:Int)(r:List D)(K:Int->Option α):(opI (sy.cell (PRes.val (.int .i64 v::r)).leaves 0) .i64).bind K=K v:=rfl
theorem hI1 (d:D)(v:Int)(r:List D)(K:Int->Option α):(opI (sy.cell (PRes.val (d:: .int .i64 v::r)).leaves 1) .i64).bind K=K v:=rfl
theorem hI2 (d e:D)(v:Int)(r:List D)(K:Int->Option α):(opI (sy.cell (PRes.val (d::e:: .int .i64 v::r)).leaves 2) .i64).bind K=K v:=rfl
theorem hI3 (d e f:D)(v:Int)(r:List D)(K:Int->Option α):(opI (sy.cell (PRes.val (d::e::f:: .int .i64 v::r)).leaves 3) .i64).bind K=K v:=rfl
theorem hI4 (d e f g:D)(v:Int)(r:List D)(K:Int->Option α):(opI (sy.cell (PRes.val (d::e::f::g:: .int .i64 v::r)).leaves 4) .i64).bind K=K v:=rfl
theorem hL0 (k:Nat)(v:LL)(r:List D)(K:LL->Option α):(opL (sy.cell (PRes.val (.sl k v::r)).leaves 0) k).bind K=K v:=by
 show(opL (some (.sl k v)) k).bind K=K v;unfold opL;simp
theorem hS0 (v:BA)(r:List D)(K:BA->Option α):(opS (sy.cell (PRes.val (.str v::r)).leaves 0)).bind K=K v:=rfl
theorem hS1 (d:D)(v:BA)(r:List D)(K:BA->Option α):(opS (sy.cell (PRes.val (d:: .str v::r)).leaves 1)).bind K=K v:=rfl
variable (l : List Tk) (en : LL) (s : St) (K : LL -> Int -> Bool -> Int -> Int -> LL -> Option α)
theorem hV0:oV sy (PRes.val (stD l en s)).leaves 0 K=K (x0i l) (s.i:Int) s.b s.a s.w en:=rfl
theorem hV1 (d:D):oV sy (PRes.val (d::stD l en s)).leaves 1 K=K (x0i l) (s.i:Int) s.b s.a s.w en:=rfl
theorem hV2 (d e:D):oV sy (PRes.val (d::e::stD l en s)).leaves 2 K=K (x0i l) (s.i:Int) s.b s.a s.w en:=rfl
theorem hV3 (d e f:D):oV sy (PRes.val (d::e::f::stD l en s)).leaves 3 K=K (x0i l) (s.i:Int) s.b s.a s.w en:=rfl
theorem hV4 (t:Tk):oV sy (PRes.val (x7x t++stD l en s)).leaves 4 K=K (x0i l) (s.i:Int) s.b s.a s.w en:=rfl
theorem hT4 (t:Tk)(r:List D)(K:Int->BA->Int->Int->Option α):oT sy (PRes.val (x7x t++r)).leaves 0 K=K t.k t.s t.n t.a:=rfl
theorem hN0 (a b:LL)(i x y:Int)(q:Bool)(r:List D)(K:LL->Int->Bool->Option α):oR sy (PRes.val (.sl 4 a:: .int .i64 i:: .bool q::r)).leaves 0 K=K a i q:=rfl
theorem hN5 (d e f g h:D)(k:Nat)(v:LL)(r:List D)(K:LL->Option α):(opL (sy.cell (PRes.val (d::e::f::g::h:: .sl k v::r)).leaves 5) k).bind K=K v:=by
 show(opL (some (.sl k v)) k).bind K=K v;unfold opL;simp
theorem hN6 (d e f g h i:D)(k:Nat)(v:LL)(r:List D)(K:LL->Option α):(opL (sy.cell (PRes.val (d::e::f::g::h::i:: .sl k v::r)).leaves 6) k).bind K=K v:=by
 show(opL (some (.sl k v)) k).bind K=K v;unfold opL;simp
theorem hNt {β:Type}(a b:β):cond (sy.bnot true) a b=b:=rfl
theorem hNf {β:Type}(a b:β):cond (sy.bnot false) a b=a:=rfl
theorem hCt {β:Type}(a b:β):cond true a b=a:=rfl
theorem hCf {β:Type}(a b:β):cond false a b=b:=rfl
theorem hXt {β:Type}{c:Bool}(h:c=true)(a b:β):cond c a b=a:=by rw[h];rfl
theorem hXf {β:Type}{c:Bool}(h:c=false)(a b:β):cond c a b=b:=by rw[h];rfl
theorem hKt {B:Type}(c a b:Bool)(K:List D->Option B):x0u (cond c (some (.inl [.bool a])) (some (.inl [.bool b]))) K=K [.bool (cond c a b)]:=by cases c<;>rfl
theorem hB (v:Bool)(K:Bool->Option α):(opB (sy.cell [.bool v] 0)).bind K=K v:=rfl
end
def tyR (l:List Tk)(ens:List En):RM (Int × Int × Int):=(w3l l ens).bind fun b=>(tkR l (bs [91])).bind fun v=>match v with
 |false=>RM.ret (b.1,b.2,0)
 |true=>(z6u l 3).bind fun t=>match decide (t.n < 1) || decide (8 < t.n)with
  |true=>fun j=> .bad (j - 1) 2
  |false=>(x6l l [bs [93]]).bind fun _=>RM.ret (b.1,b.2,t.n)
def u1o (l:List Tk):RM (BA × BA):=fun i=>match x6j l i with
 | .ok w j=> .ok w j
 | .bad j=> .bad j 2
 | .out=> .bad 0 2
structure Dc where
 n:BA
 k:Int
 e:Int
 c:Int
 o:BA
 q:BA
def z3r (d:Dc):List D:=[.str d.n, .int .i64 d.k, .int .i64 d.e, .int .i64 d.c, .str d.o, .str d.q]
def x0m (l:List Dc):LL:=l.map z3r
theorem x0q (l:List Dc):(x0m l).length=l.length:=by simp[x0m]
theorem v0i (l:List Dc)(d:Dc):x0m (l++[d])=x0m l++[z3r d]:=by simp[x0m]
def v6u (l:List Tk)(ens:List En):RM Dc:=(z6u l 1).bind fun t=>(x6l l [bs [58]]).bind fun _=>(tyR l ens).bind fun y=>(tkR l (bs [119,104,101,110])).bind fun v=>match v with
 |true=>(u1o l).bind fun w=>RM.ret ⟨t.s,y.1,y.2.1,y.2.2,w.1,w.2⟩
 |false=>RM.ret ⟨t.s,y.1,y.2.1,y.2.2,bs [],bs []⟩
section
variable {l : List Tk} (hl : LOK l) (ens : List En) (hE : ens.length <= 1000000) (s : St) (hs : s.i < l.length)
include hl hs
theorem q2m (hb:s.b=true)(en:LL): ∃x:(BA × BA) × St,cF 1000170 (kR (x0i l) (s.i:Int) en s.b s.a s.w)=some (.val (.str x.1.1:: .str x.1.2::stD l en x.2))/\x4i l (u1o l) s x.1 x.2:=by
 have h1:=q3b hl s.i hs;cases hR:x6j l s.i with
 |out=>exact(z4e hl (y2b hl 0) s.i hR).elim
 |bad j=>
  have hg:=v5l (b:=s.i) hl ⟨a0q _,hs⟩;rw[hR]at hg;have hj:j < l.length:=hg.2;obtain⟨s1,h2,r2,_⟩:=y2q hl en s hs j hj 2;refine⟨((bs [],bs []),s1),?_,⟨r2.le,r2.lt,r2.bad,fun h=> ?_⟩⟩
  ·unfold u8j at h1;rw[hR]at h1;simp only[k3j]at h1;refine cBr 170 rfl ?_;rw[v8o];simp only[k7c,oV,stD,go1,h1,h2]
  ·have g:=r2.good h;unfold u1o;rw[hR];exact g
 |ok w j=>
  refine⟨(w,⟨j,true,s.a,s.w⟩),?_,⟨z4f hl (y2b hl 0) hR,y6v hl hs hR,fun h=>(by rw[hb]at h;cases h),fun h=> ?_⟩⟩
  ·unfold u8j at h1;rw[hR]at h1;simp only[k3j]at h1;refine cBr 170 rfl ?_;rw[v8o];simp only[k7c,oV,stD,go1,h1];rw[hb]
  ·unfold u1o;rw[hR];exact⟨rfl,rfl⟩
include hE
theorem k6n: ∃x:(Int × Int × Int) × St,cF 1000169 (kR (x0i l) (s.i:Int) (x0j ens) s.b s.a s.w)=some (.val (.int .i64 x.1.1:: .int .i64 x.1.2.1:: .int .i64 x.1.2.2::stD l (x0j ens) x.2))/\x4i l (tyR l ens) s x.1 x.2:=by
 obtain⟨⟨b,s1⟩,h1,r1⟩:=q2u hl ens hE s hs;simp only at h1 r1;obtain⟨v,s2,h2,r2,_⟩:=x7h hl (x0j ens) s1 r1.lt (bs [91]);cases v with
 |false=>
  refine⟨((b.1,b.2,0),s2),?_,r1.bind (r2.bind (Post.ret r2.lt))⟩;refine cBr 169 rfl ?_;rw[u4g];unfold k3p;simp only[↓hB0, ↓hI0, ↓hI1, ↓hI2, ↓hV1, ↓hV3, ↓hNf, ↓hC h1, ↓hC h2];rfl
 |true=>
  obtain⟨t,s3,h3,r3⟩:=u3w hl (x0j ens) s2 r2.lt 3 (by omega)
  have h3:cF 1000086 (kRI 3 (x0i l) (s2.i:Int) (x0j ens) s2.b s2.a s2.w)=_:=h3;obtain⟨s4,h4,r4,_⟩:=y2q hl (x0j ens) s3 r3.lt s2.i r2.lt 2;have hback:=z7t (u:=((b.1,b.2,0):Int × Int × Int)) hl s2 r2.lt r3 r4;obtain⟨s5,h5,r5⟩:=x5p hl (x0j ens) s3 r3.lt [bs [93]] (by simp)
  rw[<-y0d]at h5;cases hc:decide (t.n < 1) || decide (8 < t.n)with
  |true=>
   refine⟨((b.1,b.2,0),s4),?_,r1.bind (r2.bind (r3.bind ?_))⟩
   ·have hx:cond (sy.ilt t.n 1) true (sy.ilt 8 t.n)=true:=by
     show cond (decide (t.n < 1)) true (decide (8 < t.n))=true
     revert hc;cases decide (t.n < 1)<;>cases decide (8 < t.n)<;>intro hc<;>first|rfl|cases hc
    refine cBr 169 rfl ?_;rw[u4g];unfold k3p;simp only[↓hB0, ↓hI0, ↓hI1, ↓hI2, ↓hV0, ↓hV1, ↓hV3, ↓hV4, ↓hT4, ↓hNt, ↓hKt, ↓hB, ↓hC h1, ↓hC h2, ↓hC h3, ↓hC h4, ↓hXt hx];rfl
   ·simp only[hc];exact hback
  |false=>
   refine⟨((b.1,b.2,t.n),s5),?_,r1.bind (r2.bind (r3.bind ?_))⟩
   ·have hx:cond (sy.ilt t.n 1) true (sy.ilt 8 t.n)=false:=by
     show cond (decide (t.n < 1)) true (decide (8 < t.n))=false
     revert hc;cases decide (t.n < 1)<;>cases decide (8 < t.n)<;>intro hc<;>first|rfl|cases hc
    refine cBr 169 rfl ?_;rw[u4g];unfold k3p;simp only[↓hB0, ↓hI0, ↓hI1, ↓hI2, ↓hI3, ↓hI4, ↓hV1, ↓hV3, ↓hV4, ↓hT4, ↓hN0, ↓hN5, ↓hN6, ↓hNt, ↓hKt, ↓hB, ↓hC h1, ↓hC h2, ↓hC h3, ↓hC h5, ↓hXf hx];rfl
   ·simp only[hc];exact r5.bind (Post.ret r5.lt)
theorem v7q: ∃x:Dc × St,cF 1000129 (kR (x0i l) (s.i:Int) (x0j ens) s.b s.a s.w)=some (.val (z3r x.1++stD l (x0j ens) x.2))/\x4i l (v6u l ens) s x.1 x.2:=by
 obtain⟨t,s1,h1,r1⟩:=u3w hl (x0j ens) s hs 1 (by omega)
 have h1:cF 1000086 (kRI 1 (x0i l) (s.i:Int) (x0j ens) s.b s.a s.w)=_:=h1;obtain⟨s2,h2,r2⟩:=x5p hl (x0j ens) s1 r1.lt [bs [58]] (by simp)
 rw[<-y0d]at h2;obtain⟨⟨y,s3⟩,h3,r3⟩:=k6n hl ens hE s2 r2.lt;simp only at h3 r3;obtain⟨v,s4,h4,r4,hv⟩:=x7h hl (x0j ens) s3 r3.lt (bs [119,104,101,110]);cases v with
 |true=>
  have hb:s4.b=true:=by
   have g:=r4.good (hv rfl).1;cases hm:tkR l (bs [119,104,101,110]) s3.i with
   |ok a j=>rw[hm]at g;rw[g.2]
   |bad p c=>unfold tkR at hm;split at hm<;>cases hm
  obtain⟨⟨w,s5⟩,h5,r5⟩:=q2m hl s4 r4.lt hb (x0j ens);simp only at h5 r5;refine⟨(⟨t.s,y.1,y.2.1,y.2.2,w.1,w.2⟩,s5),?_,r1.bind (r2.bind (r3.bind (r4.bind (r5.bind (Post.ret r5.lt)))))⟩;refine cBr 129 rfl ?_;rw[v8p];unfold k2g;simp only[↓hB0, ↓hI0, ↓hI1, ↓hI2, ↓hI3, ↓hI4, ↓hS0, ↓hS1, ↓hV1, ↓hV2, ↓hV3, ↓hV4, ↓hT4, ↓hN0, ↓hN5, ↓hN6, ↓hCt, ↓hC h1, ↓hC h2, ↓hC h3, ↓hC h4, ↓hC h5];rfl
 |false=>
  refine⟨(⟨t.s,y.1,y.2.1,y.2.2,bs [],bs []⟩,s4),?_,r1.bind (r2.bind (r3.bind (r4.bind (Post.ret r4.lt))))⟩;refine cBr 129 rfl ?_;rw[v8p];unfold k2g;simp only[↓hB0, ↓hI0, ↓hI1, ↓hI2, ↓hI3, ↓hI4, ↓hV1, ↓hV3, ↓hV4, ↓hT4, ↓hN0, ↓hN5, ↓hN6, ↓hCf, ↓hC h1, ↓hC h2, ↓hC h3, ↓hC h4];rfl
end
def z5v (l:List Tk):RM Ex:=fun i=>match y4l l i with
 | .out=> .bad i 1
 | .bad j=> .bad j 2
 | .ok e j=>bif !x3k e then .bad i 3 else bif !y1y e then .bad i 1 else .ok e j
structure Eqn where
 ns:List BA
 e:Ex
def z7o (q:Eqn):List D:= .sl 1 (x0b q.ns)::q.e.row
def x3e (l:List Eqn):LL:=l.map z7o
theorem x2c (l:List Eqn):(x3e l).length=l.length:=by simp[x3e]
theorem u8z (l:List Eqn)(d:Eqn):x3e (l++[d])=x3e l++[z7o d]:=by simp[x3e]
def eqR (l:List Tk):RM Eqn:=(z3g l 1).bind fun ns=>(x6l l [bs [61]]).bind fun _=>(z5v l).bind fun e=>(x6l l [bs [59]]).bind fun _=>RM.ret ⟨ns,e⟩
theorem v0f {l:List Tk}(hl:LOK l){i:Nat}(hi:i < l.length):(∃e j,z5v l i= .ok e j/\v3v l i=(e,(j:Int),0)/\i<=j/\j < l.length)\/ ∃p c,z5v l i= .bad p c/\v3v l i=(e0,(p:Int),c)/\i<=p/\p < l.length/\c≠0:=by
 unfold z5v v3v;cases hR:y4l l i with
 |out=>exact .inr ⟨i,1,rfl,rfl,a0q _,hi,by decide⟩
 |bad j=>exact .inr ⟨j,2,rfl,rfl,(u5k hl hi hR).1,(u5k hl hi hR).2,by decide⟩
 |ok e j=>
  have h:=(y2b hl (fuel l)).pos _ _ _ _ hi hR;simp only;cases x3k e with
  |false=>exact .inr ⟨i,3,rfl,rfl,a0q _,hi,by decide⟩
  |true=>
   cases y1y e with
   |false=>exact .inr ⟨i,1,rfl,rfl,a0q _,hi,by decide⟩
   |true=>exact .inl ⟨e,j,rfl,rfl,by omega,h.2⟩
theorem hEm {α:Type}(k n o:Int)(q:BA)(a:List BA)(u:List Ex)(r:List D)(K:Int->Int->BA->Int->LL->LL->Option α):oE sy (PRes.val ((Ex.mk k n q o a u).row++r)).leaves 0 K=K k n q o (x0b a) (Ex.rows u):=rfl
theorem hE6 {α:Type}(k n o v:Int)(q:BA)(a:List BA)(u:List Ex)(r:List D)(K:Int->Option α):(opI (sy.cell (PRes.val ((Ex.mk k n q o a u).row++ .int .i64 v::r)).leaves 6) .i64).bind K=K v:=rfl
theorem hE7 {α:Type}(k n o v:Int)(d:D)(q:BA)(a:List BA)(u:List Ex)(r:List D)(K:Int->Option α):(opI (sy.cell (PRes.val ((Ex.mk k n q o a u).row++d:: .int .i64 v::r)).leaves 7) .i64).bind K=K v:=rfl
theorem hV6 {α:Type}(l:List Tk)(en:LL)(s:St)(k n o:Int)(q:BA)(a:List BA)(u:List Ex)(K:LL->Int->Bool->Int->Int->LL->Option α):oV sy (PRes.val ((Ex.mk k n q o a u).row++stD l en s)).leaves 6 K=K (x0i l) (s.i:Int) s.b s.a s.w en:=rfl
section
variable {l : List Tk} (hl : LOK l) (ht : TS l) (en : LL) (s : St) (hs : s.i < l.length)
include hl hs ht
theorem q2q: ∃x:Ex × St,cF 1000130 (kR (x0i l) (s.i:Int) en s.b s.a s.w)=some (.val (x.1.row++stD l en x.2))/\x4i l (z5v l) s x.1 x.2:=by
 cases hb:s.b with
 |false=>
  refine⟨(e0,s),?_,x9l hs hb⟩;refine cBr 130 rfl ?_;rw[u4h];unfold q6k;simp only[↓hB0, ↓hNf];rw[<-hb];rfl
 |true=>
  have h1:=q3c hl ht s.i hs;rcases v0f hl hs with⟨e,j,hR,hP,hij,hj⟩|⟨p,c,hR,hP,_,hp,hc⟩
  ·rw[hP]at h1;obtain⟨k,n,q,o,a,u⟩:=e;refine⟨(.mk k n q o a u,⟨j,true,s.a,s.w⟩),?_,⟨hij,hj,fun h=>(by rw[hb]at h;cases h),fun _=>by rw[hR];exact⟨rfl,rfl⟩⟩⟩
   refine cBr 130 rfl ?_;rw[u4h];unfold q6k;simp only[↓hB0, ↓hNt, ↓hC h1];rfl
  ·rw[hP]at h1;obtain⟨s1,h2,r2,_⟩:=y2q hl en s hs p hp c;rw[hb]at h2;have hx:sy.bnot (sy.ieq c 0)=true:=by
    show(!decide (c=0))=true;rw[x1p hc];rfl
   refine⟨(e0,s1),?_,⟨r2.le,r2.lt,r2.bad,fun h=>by rw[hR];exact r2.good h⟩⟩
   have h1:cF 171 [.d (.sl 4 (x0i l)), .d (.int .i64 (s.i:Int))]=some (.val ((Ex.mk 0 0 (bs []) 0 [] []).row++[.int .i64 (p:Int), .int .i64 c])):=h1;refine cBr 130 rfl ?_;rw[u4h];unfold q6k;simp only[↓hB0, ↓hV0, ↓hNt, ↓hC h1, ↓hC h2, ↓hEm, ↓hE6, ↓hE7, ↓hXt hx];rfl
theorem k6o: ∃x:Eqn × St,cF 1000090 (kR (x0i l) (s.i:Int) en s.b s.a s.w)=some (.val (z7o x.1++stD l en x.2))/\x4i l (eqR l) s x.1 x.2:=by
 obtain⟨⟨ns,s1⟩,h1,r1⟩:=u7n hl en s hs 1 (by omega)
 simp only at h1 r1;have h1:cF 1000088 (kRI 1 (x0i l) (s.i:Int) en s.b s.a s.w)=_:=h1;obtain⟨s2,h2,r2⟩:=x5p hl en s1 r1.lt [bs [61]] (by simp)
 rw[<-y0d]at h2;obtain⟨⟨e,s3⟩,h3,r3⟩:=q2q hl ht en s2 r2.lt;simp only at h3 r3;obtain⟨s4,h4,r4⟩:=x5p hl en s3 r3.lt [bs [59]] (by simp)
 rw[<-y0d]at h4;refine⟨(⟨ns,e⟩,s4),?_,r1.bind (r2.bind (r3.bind (r4.bind (Post.ret r4.lt))))⟩;obtain⟨k,n,q,o,a,u⟩:=e;refine cBr 90 rfl ?_;rw[k2a];unfold b90;simp only[↓hB0, ↓hI3, ↓hI4, ↓hL0, ↓hV1, ↓hN0, ↓hN5, ↓hN6, ↓hC h1, ↓hC h2, ↓hC h3, ↓hC h4, ↓hEm, ↓hV6];rfl
end
def v9g:BA:=bs [108,101,116]
def y1u (l:List Tk)(last:Bool):RM Bool:=fun i=>match isT l i (bs [59])&& !(last&&isT l (i+1) v9g)with
 |true=> .ok true (i+1)
 |false=> .ok false i
def y2c (l:List Tk)(ens:List En)(last:Bool):Nat->List Dc->RM (List Dc)
 |0,acc=>RM.ret acc
 |n+1,acc=>(y1u l last).bind fun v=>match v with
  |true=>(v6u l ens).bind fun d=>y2c l ens last n (acc++[d])
  |false=>RM.ret acc
def y6c (l:List Tk)(ens:List En)(last:Bool):RM (List Dc):=(v6u l ens).bind fun d=>y2c l ens last l.length [d]
theorem hIs {α:Type}{l:List Tk}{j:Int}{i:Nat}(hj:j=(i:Int))(hi:i < l.length)(x:BA)(K:List D->Option α):
  ((opI (sy.cell (sy.row (x0i l) j) 0) .i64).bind fun n1=>(opS (sy.cell (sy.row (x0i l) j) 1)).bind fun s2=>(opI (sy.cell (sy.row (x0i l) j) 2) .i64).bind fun n3=>(opI (sy.cell (sy.row (x0i l) j) 3) .i64).bind fun n4=>
    x0u (cond (sy.seq s2 x) (cond (sy.ieq n1 1) (some (.inl [.bool true])) (some (.inl [.bool (sy.ieq n1 5)]))) (some (.inl [.bool false]))) K)=K [.bool (isT l i x)]:=by
 subst hj;rw[y0p hi];show x0u (cond ((tkA l i).s.toList == x.toList) (cond (decide ((tkA l i).k=1)) (some (.inl [.bool true])) (some (.inl [.bool (decide ((tkA l i).k=5))]))) (some (.inl [.bool false]))) K=_;rw[x2f];unfold isT;cases decide (tb (tkA l i).s=tb x)<;>cases decide ((tkA l i).k=1)<;>rfl
theorem hD0 {α:Type}(d:Dc)(r:List D)(K:BA->Int->Int->Int->BA->BA->Option α):oD sy (PRes.val (z3r d++r)).leaves 0 K=K d.n d.k d.e d.c d.o d.q:=rfl
theorem hVd {α:Type}(l:List Tk)(en:LL)(s:St)(d:Dc)(K:LL->Int->Bool->Int->Int->LL->Option α):oV sy (PRes.val (z3r d++stD l en s)).leaves 6 K=K (x0i l) (s.i:Int) s.b s.a s.w en:=rfl
theorem lB {α:Type}(v:Bool)(r:List D)(K:Bool->Option α):(opB (sy.cell (.bool v::r) 0)).bind K=K v:=rfl
theorem lV {α:Type}(v:D)(l:List Tk)(en:LL)(s:St)(r:List D)(K:LL->Int->Bool->Int->Int->LL->Option α):oV sy (v::(stD l en s++r)) 1 K=K (x0i l) (s.i:Int) s.b s.a s.w en:=rfl
theorem lL {α:Type}(v:D)(l:List Tk)(en:LL)(s:St)(k:Nat)(x:LL)(r:List D)(K:LL->Option α):(opL (sy.cell (v::(stD l en s++ .sl k x::r)) 7) k).bind K=K x:=by
 show(opL (some (.sl k x)) k).bind K=K x;unfold opL;simp
section
variable {l : List Tk} (hl : LOK l) (ens : List En) (hE : ens.length <= 1000000) (s : St) (hs : s.i < l.length)
include hl hs hE
theorem z6d (f:Bool): ∃x:List Dc × St,cF 1000089 (kRB f (x0i l) (s.i:Int) (x0j ens) s.b s.a s.w)=some (.val (.sl 6 (x0m x.1)::stD l (x0j ens) x.2))/\x4i l (y6c l ens f) s x.1 x.2:=by
 have hf:=hl.few;obtain⟨⟨d,s0⟩,h0,r0⟩:=v7q hl ens hE s hs;simp only at h0 r0;refine q3m (f:=89) (by kernel_rfl) (by with_reducible first|exact k6l ..) (by kernel_rfl) rfl ?_
 rw[k2b];unfold b89;simp only[↓hC h0, ↓hD0, ↓hVd];rw[u0b];refine(y2k (σ:=Nat × List Dc × St) (B:=List Dc × St) (c:=fun x=>PRes.val (.sl 6 (x0m x.1)::stD l (x0j ens) x.2)) (fun x=> .bool f::(stD l (x0j ens) x.2.2++[.sl 6 (x0m x.2.1)]))
  (fun x=>l.length - x.2.2.i<=x.1/\x.2.1.length<=x.2.2.i+1/\x.2.2.i < l.length) (fun x=>x.1) (fun x y=>x4i l (y2c l ens f x.1 x.2.1) x.2.2 y.1 y.2) ?_ (l.length,[d],s0) ⟨by simp only;omega,by simp,r0.lt⟩).imp fun x h=>⟨h.1,r0.bind h.2⟩
 rintro⟨n,acc,s⟩ ⟨hn,ha,hs⟩
 simp only at hn ha hs ⊢;obtain⟨n,rfl⟩: ∃m,n=m+1:=⟨n - 1,by omega⟩
 cases hb:s.b with
 |false=>
  right
  refine⟨(acc,s),?_,x9l hs hb⟩;simp only[↓lB, ↓lV, ↓lL, ↓hXf hb];rfl
 |true=>
  have e0:sy.wrap .i64 (sy.add (s.i:Int) 0)=(s.i:Int):=by
   show IntKind.i64.wrap ((s.i:Int)+0)=_;rw[Int.add_zero];exact x0p (by omega) (by omega)
  have e1:sy.wrap .i64 (sy.add (s.i:Int) 1)=((s.i+1:Nat):Int):=by
   show IntKind.i64.wrap ((s.i:Int)+1)=_;rw[x0e (n:=l.length) hs (by omega)];rfl
  have c0:sy.ile (sy.rlen (x0i l)) (sy.wrap .i64 (sy.add (s.i:Int) 0))=false:=by
   rw[e0];exact x1p (by show ¬((x0i l).length:Int)<=_;rw[x6u];omega)
  have d0:sy.inr (sy.wrap .i64 (sy.add (s.i:Int) 0)) (sy.rlen (x0i l))=true:=by rw[e0];exact y6o hs
  cases hT:isT l s.i (bs [59])with
  |false=>
   right
   refine⟨(acc,s),?_,?_⟩
   ·simp only[↓lB, ↓lV, ↓lL, ↓hXt hb, ↓hXf c0, ↓hXt d0, ↓hIs e0 hs,hT, ↓hCf];rfl
   ·have hm:y1u l f s.i= .ok false s.i:=by unfold y1u;rw[hT];rfl
    refine⟨a0q _,hs,fun _=>rfl,fun _=> ?_⟩
    unfold y2c RM.bind;rw[hm];obtain⟨i,b,a,w⟩:=s;cases hb;exact⟨rfl,rfl⟩
  |true=>
   have hi1:s.i+1 < l.length:=hl.next hs (x1m hT);have c1:sy.ile (sy.rlen (x0i l)) (sy.wrap .i64 (sy.add (s.i:Int) 1))=false:=by
    rw[e1];exact x1p (by show ¬((x0i l).length:Int)<=_;rw[x6u];omega)
   have d1:sy.inr (sy.wrap .i64 (sy.add (s.i:Int) 1)) (sy.rlen (x0i l))=true:=by rw[e1];exact y6o hi1
   by_cases hstop:(f&&isT l (s.i+1) v9g)=true
   ·right
    have hff:f=true:=by cases f<;>simp_all
    subst hff;have hL:isT l (s.i+1) (bs [108,101,116])=true:=by simpa[v9g]using hstop
    refine⟨(acc,s),?_,?_⟩
    ·simp only[↓lB, ↓lV, ↓lL, ↓hXt hb, ↓hXf c0, ↓hXt d0, ↓hIs e0 hs,hT, ↓hCt, ↓hXf c1, ↓hXt d1, ↓hIs e1 hi1,hL, ↓hNt];rfl
    ·have hm:y1u l true s.i= .ok false s.i:=by unfold y1u;rw[hT];simp only[v9g,hL];rfl
     refine⟨a0q _,hs,fun _=>rfl,fun _=> ?_⟩
     unfold y2c RM.bind;rw[hm];obtain⟨i,b,a,w⟩:=s;cases hb;exact⟨rfl,rfl⟩
   ·left
    obtain⟨s1,h1,r1⟩:=x5p hl (x0j ens) s hs [bs [59]] (by simp)
    rw[<-y0d]at h1;obtain⟨⟨d2,s2⟩,h2,r2⟩:=v7q hl ens hE s1 r1.lt;simp only at h2 r2;have hm:y1u l f s.i= .ok true (s.i+1):=by
     unfold y1u;rw[hT];cases h:(f&&isT l (s.i+1) v9g)with
     |true=>exact(hstop h).elim
     |false=>rfl
    have hnd:x6l l [bs [59]] s.i= .ok () (s.i+1):=by simp[x6l,x2b,hT]
    have g:=r1.good hb;rw[hnd]at g;have rm:x4i l (y1u l f) s true s1:=⟨r1.le,r1.lt,r1.bad,fun _=>by rw[hm];exact⟨rfl,g.2⟩⟩
    have hs1:s1.i=s.i+1:=by rw[g.2]
    have hfit:sy.fits (x0m acc) [z3r d2] 72=true:=y0z (x0m acc) [z3r d2] 72 (by rw[x0q];simp only[a0b,a0e];omega)
    refine⟨(n,acc++[d2],s2),?_,⟨?_,?_,r2.lt⟩,a1m _,fun y hy=>rm.bind (r2.bind hy)⟩
    ·have fin:sy.rapp (x0m acc) [z3r d2]=x0m (acc++[d2]):=by rw[v0i];rfl
     cases f with
     |false=>
      simp only[↓lB, ↓lV, ↓lL, ↓hXt hb, ↓hXf c0, ↓hXt d0, ↓hIs e0 hs,hT, ↓hCt, ↓hCf, ↓hNf, ↓hC h1, ↓hN0, ↓hI3, ↓hI4, ↓hN5, ↓hN6, ↓hC h2, ↓hD0, ↓hVd];rw[<-fin];exact hXt hfit _ _
     |true=>
      have hL:isT l (s.i+1) (bs [108,101,116])=false:=by
       cases h:isT l (s.i+1) (bs [108,101,116])with
       |true=>exact(hstop (by simpa[v9g]using h)).elim
       |false=>rfl
      simp only[↓lB, ↓lV, ↓lL, ↓hXt hb, ↓hXf c0, ↓hXt d0, ↓hIs e0 hs,hT, ↓hCt, ↓hXf c1, ↓hXt d1, ↓hIs e1 hi1,hL, ↓hNf, ↓hC h1, ↓hN0, ↓hI3, ↓hI4, ↓hN5, ↓hN6, ↓hC h2, ↓hD0, ↓hVd];rw[<-fin];exact hXt hfit _ _
    ·have:=r2.le;simp only;omega
    ·have:=r2.le;simp only[a0j,a0b,a0e];omega
end
structure Nd where
 n:BA
 ins:List Dc
 outs:List Dc
 vars:List Dc
 eqs:List Eqn
def y7d (n:Nd):List D:=[.str n.n, .sl 6 (x0m n.ins), .sl 6 (x0m n.outs), .sl 6 (x0m n.vars), .sl 7 (x3e n.eqs)]
def x1x (l:List Nd):LL:=l.map y7d
theorem x1l (l:List Nd):(x1x l).length=l.length:=by simp[x1x]
theorem u9i (l:List Nd)(d:Nd):x1x (l++[d])=x1x l++[y7d d]:=by simp[x1x]
def k3d (l:List Tk)(ens:List En):RM (List Dc):=(tkR l (bs [41])).bind fun v=>match v with
 |false=>(y6c l ens false).bind fun d=>(x6l l [bs [41]]).bind fun _=>RM.ret d
 |true=>RM.ret []
def v9m (l:List Tk)(ens:List En):RM (List Dc):=(tkR l (bs [118,97,114])).bind fun v=>match v with
 |true=>(y6c l ens true).bind fun d=>(x6l l [bs [59]]).bind fun _=>RM.ret d
 |false=>RM.ret []
def q6g (l:List Tk):Nat->List Eqn->RM (List Eqn)
 |0,acc=>RM.ret acc
 |n+1,acc=>(tkR l (bs [116,101,108])).bind fun v=>match v with
  |true=>RM.ret acc
  |false=>(eqR l).bind fun q=>q6g l n (acc++[q])
def w0u (l:List Tk)(ens:List En):RM Nd:=(z6u l 1).bind fun t=>(x6l l [bs [40]]).bind fun _=>(k3d l ens).bind fun i=>(x6l l [bs [114,101,116,117,114,110,115],bs [40]]).bind fun _=>(y6c l ens false).bind fun o=>(x6l l [bs [41]]).bind fun _=>(v9m l ens).bind fun w=>(x6l l [v9g]).bind fun _=>(q6g l l.length []).bind fun q=>RM.ret ⟨t.s,i,o,w,q⟩
theorem u7e {B τ α:Type}{X:Option (List D ⊕ α)}{K:List D->Option α}{cc:τ->α}{R:τ->Prop}(c:B->List D)(Q:B->Prop)(h: ∃y,X=some (.inl (c y))/\Q y)(hK: ∀y,Q y-> ∃x,K (c y)=some (cc x)/\R x): ∃x,x0u X K=some (cc x)/\R x:=by
 obtain⟨y,rfl,hy⟩:=h;exact hK y hy
theorem bind_ok {α β:Type}{m:RM α}{k:α->RM β}{i j:Nat}{b:β}(h:m.bind k i= .ok b j): ∃a x,m i= .ok a x/\k a x= .ok b j:=by
 unfold RM.bind at h;split at h
 ·rename_i a x hm;exact⟨a,x,hm,h⟩
 ·cases h
theorem x9w {l:List Tk}{w:BA}{i j:Nat}{v:Bool}(h:tkR l w i= .ok v j):i<=j:=by
 unfold tkR at h;split at h<;>cases h<;>omega
theorem x3g {l:List Tk}{w:List BA}{i j:Nat}{v:Unit}(h:x6l l w i= .ok v j):i<=j:=by
 unfold x6l at h;split at h
 ·rename_i hn;cases h;exact x2h hn
 ·cases h
 ·cases h
theorem z8j {l:List Tk}{k:Int}: ∀(n:Nat) (acc:List BA) {i j:Nat} {r:List BA},y5t l k n acc i= .ok r j->i<=j
 |0,acc,i,j,r,h=>by cases h;exact a0q _
 |n+1,acc,i,j,r,h=>by
  unfold y5t at h;obtain⟨v,x,h1,h2⟩:=bind_ok h;have:=x9w h1;cases v with
  |true=>
   obtain⟨t,y,h3,h4⟩:=bind_ok h2;have:=(y4e h3).2;have:=z8j n _ h4;omega
  |false=>cases h2;omega
theorem q1v {l:List Tk}(ht:TS l){i j:Nat}{q:Eqn}(h:eqR l i= .ok q j):i < j:=by
 unfold eqR at h;obtain⟨ns,x,h1,h⟩:=bind_ok h;obtain⟨_,y,h2,h⟩:=bind_ok h;obtain⟨e,z,h3,h⟩:=bind_ok h;obtain⟨_,u,h4,h⟩:=bind_ok h;cases h;unfold z3g at h1;obtain⟨t,a,h5,h6⟩:=bind_ok h1;have:=(y4e h5).2;have:=z8j _ _ h6;have:=x3g h2;have:=x3g h4;have h7:y<=z:=by
  unfold z5v at h3;split at h3
  ·cases h3
  ·cases h3
  ·rename_i e2 j2 hR
   revert h3
   cases x3k e2<;>cases y1y e2<;>intro h3<;>first|(cases h3;done)|skip
   cases h3;have:=(z4p ht hR).1;omega
 omega
section
variable {α : Type} (l : List Tk) (en : LL) (s : St) (r : List D) (d e f g : D) (k : Nat) (x : LL) (K : LL -> Option α)
theorem lV0 (K:LL->Int->Bool->Int->Int->LL->Option α):oV sy (stD l en s++r) 0 K=K (x0i l) (s.i:Int) s.b s.a s.w en:=(rfl)
theorem lS6 (x:BA)(K:BA->Option α):(opS (sy.cell (stD l en s++ .str x::r) 6)).bind K=K x:=(rfl)
theorem lS7 (x:BA)(K:BA->Option α):(opS (sy.cell (stD l en s++d:: .str x::r) 7)).bind K=K x:=(rfl)
theorem x9y:(opL (some (.sl k x)) k).bind K=K x:=by unfold opL;simp
theorem lL8:(opL (sy.cell (stD l en s++d::e:: .sl k x::r) 8) k).bind K=K x:=x9y k x K
theorem lL9:(opL (sy.cell (stD l en s++d::e::f:: .sl k x::r) 9) k).bind K=K x:=x9y k x K
theorem k3b:(opL (sy.cell (stD l en s++d::e::f::g:: .sl k x::r) 10) k).bind K=K x:=x9y k x K
theorem k5d (h:D):(opL (sy.cell (stD l en s++d::e::f::g::h:: .sl k x::r) 11) k).bind K=K x:=x9y k x K
end
theorem hQ0 {α:Type}(q:Eqn)(r:List D)(K:LL->Option α):(opL (sy.cell (PRes.val (z7o q++r)).leaves 0) 1).bind K=K (x0b q.ns):=by
 show(opL (some (.sl 1 (x0b q.ns))) 1).bind K=_;unfold opL;simp
theorem hQ1 {α:Type}(k n o:Int)(q:BA)(a ns:List BA)(u:List Ex)(r:List D)(K:Int->Int->BA->Int->LL->LL->Option α):oE sy (PRes.val (z7o ⟨ns,Ex.mk k n q o a u⟩++r)).leaves 1 K=K k n q o (x0b a) (Ex.rows u):=rfl
theorem hQ7 {α:Type}(l:List Tk)(en:LL)(s:St)(q:Eqn)(K:LL->Int->Bool->Int->Int->LL->Option α):oV sy (PRes.val (z7o q++stD l en s)).leaves 7 K=K (x0i l) (s.i:Int) s.b s.a s.w en:=by
 obtain⟨ns,e⟩:=q;obtain⟨k,m,y,o,a,u⟩:=e;rfl
section
variable {l : List Tk} (hl : LOK l) (ht : TS l) (ens : List En) (hE : ens.length <= 1000000) (s : St) (hs : s.i < l.length)
include hl ht hE hs
theorem q2n: ∃x:Nd × St,cF 1000039 (kR (x0i l) (s.i:Int) (x0j ens) s.b s.a s.w)=some (.val (y7d x.1++stD l (x0j ens) x.2))/\x4i l (w0u l ens) s x.1 x.2:=by
 have hf:=hl.few;obtain⟨t,s1,h1,r1⟩:=u3w hl (x0j ens) s hs 1 (by omega)
 have h1:cF 1000086 (kRI 1 (x0i l) (s.i:Int) (x0j ens) s.b s.a s.w)=_:=h1;obtain⟨s2,h2,r2⟩:=x5p hl (x0j ens) s1 r1.lt [bs [40]] (by simp)
 rw[<-y0d]at h2;refine q3m (f:=39) (by kernel_rfl) (by with_reducible first|exact dcR ..) (by kernel_rfl) rfl ?_
 rw[k2e];unfold b39;simp only[↓hC h1, ↓hT4, ↓hV4, ↓hC h2, ↓hN0, ↓hI3, ↓hI4, ↓hN5, ↓hN6];refine u7e (B:=List Dc × St) (fun y=>stD l (x0j ens) y.2++[.str (bs []), .str t.s, .sl 6 (x0m y.1)]) (fun y=>x4i l (k3d l ens) s2 y.1 y.2) ?_ ?_
 ·obtain⟨v,s3,h3,r3,_⟩:=x7h hl (x0j ens) s2 r2.lt (bs [41]);cases v with
  |true=>
   refine⟨([],s3),?_,r3.bind (Post.ret r3.lt)⟩;simp only[↓hC h3, ↓hB0, ↓hV1, ↓hNt];rfl
  |false=>
   obtain⟨⟨ds,s4⟩,h4,r4⟩:=z6d hl ens hE s3 r3.lt false;simp only at h4 r4;obtain⟨s5,h5,r5⟩:=x5p hl (x0j ens) s4 r4.lt [bs [41]] (by simp)
   rw[<-y0d]at h5;refine⟨(ds,s5),?_,r3.bind (r4.bind (r5.bind (Post.ret r5.lt)))⟩;simp only[↓hC h3, ↓hB0, ↓hV1, ↓hNf, ↓hC h4, ↓hL0, ↓hC h5, ↓hN0, ↓hI3, ↓hI4, ↓hN5, ↓hN6];rfl
 ·rintro⟨ins,s3⟩ r3
  simp only at r3 ⊢;obtain⟨s4,h4,r4⟩:=x5p hl (x0j ens) s3 r3.lt [bs [114,101,116,117,114,110,115],bs [40]] (by simp)
  rw[<-q7c]at h4;obtain⟨⟨os,s5⟩,h5,r5⟩:=z6d hl ens hE s4 r4.lt false;simp only at h5 r5;obtain⟨s6,h6,r6⟩:=x5p hl (x0j ens) s5 r5.lt [bs [41]] (by simp)
  rw[<-y0d]at h6;simp only[↓lV0, ↓lS6, ↓lS7, ↓lL8, ↓hC h4, ↓hN0, ↓hI3, ↓hI4, ↓hN5, ↓hN6, ↓hC h5, ↓hL0, ↓hV1, ↓hC h6];refine u7e (B:=List Dc × St) (fun y=>stD l (x0j ens) y.2++[.str (bs []), .str t.s, .sl 6 (x0m ins), .sl 6 (x0m os), .sl 6 (x0m y.1)]) (fun y=>x4i l (v9m l ens) s6 y.1 y.2) ?_ ?_
  ·obtain⟨v,s7,h7,r7,_⟩:=x7h hl (x0j ens) s6 r6.lt (bs [118,97,114]);cases v with
   |false=>
    refine⟨([],s7),?_,r7.bind (Post.ret r7.lt)⟩;simp only[↓hC h7, ↓hB0, ↓hV1, ↓hCf];rfl
   |true=>
    obtain⟨⟨ds,s8⟩,h8,r8⟩:=z6d hl ens hE s7 r7.lt true;simp only at h8 r8;obtain⟨s9,h9,r9⟩:=x5p hl (x0j ens) s8 r8.lt [bs [59]] (by simp)
    rw[<-y0d]at h9;refine⟨(ds,s9),?_,r7.bind (r8.bind (r9.bind (Post.ret r9.lt)))⟩;simp only[↓hC h7, ↓hB0, ↓hV1, ↓hCt, ↓hC h8, ↓hL0, ↓hC h9, ↓hN0, ↓hI3, ↓hI4, ↓hN5, ↓hN6];rfl
  ·rintro⟨vs,s7⟩ r7
   simp only at r7 ⊢;obtain⟨s8,h8,r8⟩:=x5p hl (x0j ens) s7 r7.lt [bs [108,101,116]] (by simp)
   rw[<-y0d]at h8;simp only[↓lV0, ↓lS6, ↓lS7, ↓lL8, ↓lL9, ↓k3b, ↓hC h8, ↓hN0, ↓hI3, ↓hI4, ↓hN5, ↓hN6];rw[u0b];refine(y2k (σ:=Nat × List Eqn × St) (B:=List Eqn × St) (c:=fun x=>PRes.val (.str t.s:: .sl 6 (x0m ins):: .sl 6 (x0m os):: .sl 6 (x0m vs):: .sl 7 (x3e x.1)::stD l (x0j ens) x.2))
    (fun x=>stD l (x0j ens) x.2.2++[.str (bs []), .str t.s, .sl 6 (x0m ins), .sl 6 (x0m os), .sl 6 (x0m vs), .sl 7 (x3e x.2.1)])
    (fun x=>(x.2.2.b=true->l.length - x.2.2.i<=x.1/\x.2.1.length<=x.2.2.i)/\x.2.1.length<=x.2.2.i+1/\x.2.2.i < l.length) (fun x=>x.1) (fun x y=>x4i l (q6g l x.1 x.2.1) x.2.2 y.1 y.2) ?_ (l.length,[],s8) ⟨fun _=>⟨by simp only;omega,by simp⟩,by simp,r8.lt⟩).elim fun x h=>⟨(⟨t.s,ins,os,vs,x.1⟩,x.2),h.1,r1.bind (r2.bind (r3.bind (r4.bind (r5.bind (r6.bind (r7.bind (r8.bind (h.2.bind (Post.ret h.2.lt)))))))))⟩
   rintro⟨n,acc,s⟩ ⟨hn,ha,hs⟩
   simp only at hn ha hs ⊢;cases hb:s.b with
   |false=>
    right
    refine⟨(acc,s),?_,x9l hs hb⟩;simp only[↓lV0, ↓lS6, ↓lS7, ↓lL8, ↓lL9, ↓k3b, ↓k5d, ↓hXf hb];rfl
   |true=>
    obtain⟨hn1,hn2⟩:=hn hb;obtain⟨n,rfl⟩: ∃m,n=m+1:=⟨n - 1,by omega⟩
    obtain⟨v,s1,h1,r1,_⟩:=x7h hl (x0j ens) s hs (bs [116,101,108]);cases v with
    |true=>
     right
     refine⟨(acc,s1),?_,r1.bind (Post.ret r1.lt)⟩;simp only[↓lV0, ↓lS6, ↓lS7, ↓lL8, ↓lL9, ↓k3b, ↓k5d, ↓hXt hb, ↓hC h1, ↓hB0, ↓hV1, ↓hNt];rfl
    |false=>
     left
     obtain⟨⟨q,s2⟩,h2,r2⟩:=k6o hl ht (x0j ens) s1 r1.lt;simp only at h2 r2;have hfit:sy.fits (x3e acc) [z7o q] 112=true:=y0z (x3e acc) [z7o q] 112 (by rw[x2c];simp only[a0b,a0e];omega)
     have fin:sy.rapp (x3e acc) [z7o q]=x3e (acc++[q]):=by rw[u8z];rfl
     have hb1:s1.b=true:=by
      have g:=r1.good hb;cases hm:tkR l (bs [116,101,108]) s.i with
      |ok a j=>rw[hm]at g;rw[g.2]
      |bad p c=>unfold tkR at hm;split at hm<;>cases hm
     refine⟨(n,acc++[q],s2),?_,⟨fun hb2=> ?_,?_,r2.lt⟩,a1m _,fun y hy=>r1.bind (r2.bind hy)⟩
     ·obtain⟨ns,e⟩:=q;obtain⟨k,m,y,o,a,u⟩:=e;simp only[↓lV0, ↓lS6, ↓lS7, ↓lL8, ↓lL9, ↓k3b, ↓k5d, ↓hXt hb, ↓hC h1, ↓hB0, ↓hV1, ↓hNf, ↓hC h2, ↓hQ0, ↓hQ1, ↓hQ7];rw[<-fin];exact hXt hfit _ _
     ·have g:=r2.good hb1;cases hm:eqR l s1.i with
      |ok w j=>
       rw[hm]at g;have hp:=q1v ht hm;have e:=r1.le;have:s2.i=j:=by rw[g.2]
       simp only[a0j,a0b,a0e];omega
      |bad p c=>rw[hm]at g;rw[g.1]at hb2;cases hb2
     ·have e1:=r1.le;have e2:=r2.le;simp only[a0j,a0b,a0e];omega
end
end Go.Vm
end
section
set_option maxRecDepth 1000000
set_option maxHeartbeats 0
namespace Go.Vm
open Go.Proofs
noncomputable section
variable (A : Sy) (E : Env)
def g94 (l_:LL):Option PRes:=bif (A.ilt 4 (A.rlen l_))then vL [.bool true] else E.lp (fun ds1=>zL A ds1 0 2 fun l2=>zI A ds1 1 fun n3=>zI A ds1 2 fun n4=>bif (A.ilt n4 n3)then iT (A.inr n4 (A.rlen l2)) <| zS A (A.row l2 n4) 0 fun s5=>zL A (A.row l2 n4) 1 1 fun l6=>bif (A.ilt 6 (A.rlen l6))then some (.inr (.val [.bool (A.ile 0 n4)])) else iL [.sl 2 l2,nI n3,nI (zW A (A.add n4 1))] else some (.inr (.val [.bool (A.ile 0 (-1))]))) [.sl 2 l_,nI (A.rlen l_),nI 0]
def q8u (l_:LL):fT A E 94 [.d (.sl 2 l_)]=g94 A E l_:=by kernel_rfl
def g47 (l_:LL):Option PRes:=zC E 94 [.d (.sl 2 l_)] fun p1=>yB A p1 0 fun b3=>bif b3 then vL [nI 4] else E.lp (fun ds4=>zL A ds4 0 2 fun l5=>zL A ds4 1 2 fun l6=>zI A ds4 2 fun n7=>zI A ds4 3 fun n8=>zL A ds4 4 1 fun l9=>zL A ds4 5 1 fun l10=>zB A ds4 6 fun b11=>bif (A.ilt n8 n7)then iT (A.inr n8 (A.rlen l6)) <| zS A (A.row l6 n8) 0 fun s12=>zL A (A.row l6 n8) 1 1 fun l13=>iT (A.fits l9 [[.str s12]] 16) <| x0u (bif b11 then zC E 95 [.d (.str s12)] fun p14=>yB A p14 0 fun b16=>vB b16 else vB false) fun ds17=>zB A ds17 0 fun b18=>x0u (bif b18 then vB (A.ilt 0 (A.rlen l13)) else vB false) fun ds19=>zB A ds19 0 fun b20=>iL [.sl 2 l5, .sl 2 l6,nI n7,nI (zW A (A.add n8 1)), .sl 1 (A.rapp l9 [[.str s12]]), .sl 1 l10, .bool b20] else E.lp (fun ds21=>zL A ds21 0 2 fun l22=>zI A ds21 1 fun n23=>zI A ds21 2 fun n24=>zL A ds21 3 1 fun l25=>zL A ds21 4 1 fun l26=>zB A ds21 5 fun b27=>zL A ds21 6 2 fun l28=>zL A ds21 7 2 fun l29=>zL A ds21 8 2 fun l30=>zI A ds21 9 fun n31=>zI A ds21 10 fun n32=>zB A ds21 11 fun b33=>zL A ds21 12 2 fun l34=>bif (A.ilt n24 n23)then iT (A.inr n24 (A.rlen l22)) <| zS A (A.row l22 n24) 0 fun s35=>zL A (A.row l22 n24) 1 1 fun l36=>E.lp (fun ds37=>zI A ds37 0 fun n38=>zL A ds37 1 2 fun l39=>zI A ds37 2 fun n40=>zI A ds37 3 fun n41=>zL A ds37 4 1 fun l42=>zI A ds37 5 fun n43=>zI A ds37 6 fun n44=>zL A ds37 7 1 fun l45=>zL A ds37 8 1 fun l46=>zB A ds37 9 fun b47=>zL A ds37 10 2 fun l48=>zL A ds37 11 2 fun l49=>zL A ds37 12 2 fun l50=>zI A ds37 13 fun n51=>zI A ds37 14 fun n52=>zB A ds37 15 fun b53=>zL A ds37 16 2 fun l54=>bif (A.ilt n44 n43)then iT (A.inr n44 (A.rlen l42)) <| zS A (A.row l42 n44) 0 fun s55=>iT (A.fits l46 [[.str s55]] 16) <| x0u (bif b47 then zC E 97 [.d (.str s55)] fun p56=>yB A p56 0 fun b58=>vB b58 else vB false) fun ds59=>zB A ds59 0 fun b60=>bif (A.bnot true)then bif (A.bnot b60)then some (.inr (.inr (.inr (.val [nI 1])))) else zC E 54 [.d (.sl 1 l45)] fun p61=>yB A p61 0 fun b63=>x0u (bif (A.bnot b63)then vB true else zC E 54 [.d (.sl 1 (A.rapp l46 [[.str s55]]))] fun p64=>yB A p64 0 fun b66=>vB (A.bnot b66)) fun ds67=>zB A ds67 0 fun b68=>bif b68 then some (.inr (.inr (.inr (.val [nI 6])))) else some (.inr (.inr (.inr (.val [nI 0])))) else iL [nI n38, .sl 2 l39,nI n40,nI n41, .sl 1 l42,nI n43,nI (zW A (A.add n44 1)), .sl 1 l45, .sl 1 (A.rapp l46 [[.str s55]]), .bool b60, .sl 2 l48, .sl 2 l49, .sl 2 l50,nI n51,nI n52, .bool b53, .sl 2 l54] else some (.inr (.inl [.sl 2 l39,nI n40,nI (zW A (A.add n41 1)), .sl 1 l45, .sl 1 l46, .bool b47, .sl 2 l48, .sl 2 l49, .sl 2 l50,nI n51,nI n52, .bool b53, .sl 2 l54]))) [nI n24, .sl 2 l22,nI n23,nI n24, .sl 1 l36,nI (A.rlen l36),nI 0, .sl 1 l25, .sl 1 l26, .bool b27, .sl 2 l28, .sl 2 l29, .sl 2 l30,nI n31,nI n32, .bool b33, .sl 2 l34] else bif (A.bnot b27)then some (.inr (.inr (.val [nI 1]))) else zC E 54 [.d (.sl 1 l25)] fun p69=>yB A p69 0 fun b71=>x0u (bif (A.bnot b71)then vB true else zC E 54 [.d (.sl 1 l26)] fun p72=>yB A p72 0 fun b74=>vB (A.bnot b74)) fun ds75=>zB A ds75 0 fun b76=>bif b76 then some (.inr (.inr (.val [nI 6]))) else some (.inr (.inr (.val [nI 0])))) [.sl 2 l5,nI (A.rlen l5),nI 0, .sl 1 l9, .sl 1 l10, .bool b11, .sl 2 l5, .sl 2 l5, .sl 2 l6,nI n7,nI n8, .bool false, .sl 2 l5]) [.sl 2 l_, .sl 2 l_,nI (A.rlen l_),nI 0, .sl 1 [], .sl 1 [], .bool true]
def w5c (l_:LL):fT A E 47 [.d (.sl 2 l_)]=g47 A E l_:=by kernel_rfl
def g139 (A:Sy)(E:Env)(l_:LL)(t_0 t_1 t_2:Int):Option PRes:=x0u (bif (A.ilt t_2 0)then vB true else vB (A.ilt 8 t_2)) fun ds1=>zB A ds1 0 fun b2=>bif b2 then vL [.bool false] else bif (A.ieq t_0 1)then vL [.bool (A.ieq t_1 0)] else bif (A.ieq t_0 2)then vL [.bool (A.ieq t_1 0)] else bif (A.ieq t_0 3)then x0u (bif (A.ile 0 t_1)then vB (A.ilt t_1 (A.rlen l_)) else vB false) fun ds3=>zB A ds3 0 fun b4=>vL [.bool b4] else vL [.bool false]
def q0u (l_:LL)(t_0 t_1 t_2:Int):fT A E 139 [.d (.sl 2 l_), .agg [.d (.int .i64 t_0), .d (.int .i64 t_1), .d (.int .i64 t_2)]]=g139 A E l_ t_0 t_1 t_2:=by kernel_rfl
def g140 (s_:BA):Option PRes:=zC E 97 [.d (.str s_)] fun p1=>yB A p1 0 fun b3=>x0u (bif b3 then vB true else vB (A.seq s_ (bs [116,114,117,101]))) fun ds4=>zB A ds4 0 fun b5=>x0u (bif b5 then vB true else vB (A.seq s_ (bs [102,97,108,115,101]))) fun ds6=>zB A ds6 0 fun b7=>vL [.bool b7]
def q0t (s_:BA):fT A E 140 [.d (.str s_)]=g140 A E s_:=by kernel_rfl
def g100 (n_0:BA)(n_1 n_2 n_3 n_4:LL):Option PRes:=zC E 141 [.d (.sl 1 [[.sl 6 n_1],[.sl 6 n_2],[.sl 6 n_3]])] fun p1=>yL A p1 0 6 fun l3=>vL [.sl 6 l3]
def q1l (n_0:BA)(n_1 n_2 n_3 n_4:LL):fT A E 100 [.agg [.d (.str n_0), .d (.sl 6 n_1), .d (.sl 6 n_2), .d (.sl 6 n_3), .d (.sl 7 n_4)]]=g100 A E n_0 n_1 n_2 n_3 n_4:=by kernel_rfl
def g141 (slices_:LL):Option PRes:=E.lp (fun ds1=>zL A ds1 0 1 fun l2=>zI A ds1 1 fun n3=>zL A ds1 2 1 fun l4=>zI A ds1 3 fun n5=>zI A ds1 4 fun n6=>bif (A.ilt n6 n5)then iT (A.inr n6 (A.rlen l4)) <| zL A (A.row l4 n6) 0 6 fun l7=>bif (A.ilt (zW A (A.add n3 (A.rlen l7))) 0)then none else iL [.sl 1 l2,nI (zW A (A.add n3 (A.rlen l7))), .sl 1 l4,nI n5,nI (zW A (A.add n6 1))] else (opM (E.call 174 [.nils, .d (nI n3)]) 127 6).bind fun r8=>E.lp (fun ds9=>zL A ds9 0 1 fun l10=>zI A ds9 1 fun n11=>zI A ds9 2 fun n12=>zL A ds9 3 6 fun l13=>bif (A.ilt n12 n11)then iT (A.inr n12 (A.rlen l10)) <| zL A (A.row l10 n12) 0 6 fun l14=>iT (A.fits l13 l14 72) <| iL [.sl 1 l10,nI n11,nI (zW A (A.add n12 1)), .sl 6 (A.rapp l13 l14)] else some (.inr (.inr (.own 127 6 l13)))) [.sl 1 l2,nI (A.rlen l2),nI 0, .sl 6 r8]) [.sl 1 slices_,nI 0, .sl 1 slices_,nI (A.rlen slices_),nI 0]
def q0s (slices_:LL):fT A E 141 [.d (.sl 1 slices_)]=g141 A E slices_:=by kernel_rfl
def g103 (x_0:LL)(x_1 x_2:Int)(x_3:BA)(x_4:Int)(x_5 x_6:LL):Option PRes:=x0u (bif (A.ieq (A.rlen x_0) 0)then vB true else zC E 143 [kE x_1 x_2 x_3 x_4 x_5 x_6] fun p1=>yB A p1 0 fun b3=>vB (A.bnot b3)) fun ds4=>zB A ds4 0 fun b5=>x0u (bif b5 then vB true else bif (A.ilt 1 (A.rlen x_0))then vB (A.bnot (A.ieq x_1 13)) else vB false) fun ds6=>zB A ds6 0 fun b7=>bif b7 then vL [.bool false] else E.lp (fun ds8=>zL A ds8 0 1 fun l9=>zI A ds8 1 fun n10=>zI A ds8 2 fun n11=>zL A ds8 3 1 fun l12=>oE A ds8 4 fun n13 n14 s15 n16 l17 l18=>bif (A.ilt n11 n10)then iT (A.inr n11 (A.rlen l9)) <| zS A (A.row l9 n11) 0 fun s19=>zC E 95 [.d (.str s19)] fun p20=>yB A p20 0 fun b22=>bif (A.bnot b22)then some (.inr (.val [.bool (A.bnot (A.ile 0 n11))])) else iL [.sl 1 l9,nI n10,nI (zW A (A.add n11 1)), .sl 1 l12,nI n13,nI n14, .str s15,nI n16, .sl 1 l17, .sl 6 l18] else some (.inr (.val [.bool (A.bnot (A.ile 0 (-1)))]))) [.sl 1 x_0,nI (A.rlen x_0),nI 0, .sl 1 x_0,nI x_1,nI x_2, .str x_3,nI x_4, .sl 1 x_5, .sl 6 x_6]
def q1k (x_0:LL)(x_1 x_2:Int)(x_3:BA)(x_4:Int)(x_5 x_6:LL):fT A E 103 [.agg [.d (.sl 1 x_0), .d (.int .i64 x_1), .d (.int .i64 x_2), .d (.str x_3), .d (.int .i64 x_4), .d (.sl 1 x_5), .d (.sl 6 x_6)]]=g103 A E x_0 x_1 x_2 x_3 x_4 x_5 x_6:=by kernel_rfl
def g51 (l_:LL)(n_0:BA)(n_1 n_2 n_3 n_4:LL):Option PRes:=zC E 100 [.agg [.d (.str n_0), .d (.sl 6 n_1), .d (.sl 6 n_2), .d (.sl 6 n_3), .d (.sl 7 n_4)]] fun p1=>yL A p1 0 6 fun l3=>E.lp (fun ds4=>zL A ds4 0 6 fun l5=>zI A ds4 1 fun n6=>zI A ds4 2 fun n7=>zS A ds4 3 fun s8=>zL A ds4 4 6 fun l9=>zL A ds4 5 6 fun l10=>zL A ds4 6 6 fun l11=>zL A ds4 7 7 fun l12=>zL A ds4 8 2 fun l13=>bif (A.ilt n7 n6)then iT (A.inr n7 (A.rlen l5)) <| oD A (A.row l5 n7) 0 fun s14 n15 n16 n17 s18 s19=>x0u (bif (A.seq s18 (bs []))then vB (A.seq s19 (bs [])) else vB false) fun ds20=>zB A ds20 0 fun b21=>zC E 95 [.d (.str s14)] fun p22=>yB A p22 0 fun b24=>x0u (bif b24 then zC E 139 [.d (.sl 2 l13), .agg [.d (nI n15), .d (nI n16), .d (nI n17)]] fun p25=>yB A p25 0 fun b27=>vB b27 else vB false) fun ds28=>zB A ds28 0 fun b29=>x0u (bif b29 then bif b21 then vB true else zC E 95 [.d (.str s18)] fun p30=>yB A p30 0 fun b32=>bif b32 then zC E 140 [.d (.str s19)] fun p33=>yB A p33 0 fun b35=>vB b35 else vB false else vB false) fun ds36=>zB A ds36 0 fun b37=>bif (A.bnot b37)then some (.inr (.val [.bool false])) else iL [.sl 6 l5,nI n6,nI (zW A (A.add n7 1)), .str s8, .sl 6 l9, .sl 6 l10, .sl 6 l11, .sl 7 l12, .sl 2 l13] else x0u (E.lp (fun ds38=>zL A ds38 0 6 fun l39=>zI A ds38 1 fun n40=>zI A ds38 2 fun n41=>zS A ds38 3 fun s42=>zL A ds38 4 6 fun l43=>zL A ds38 5 6 fun l44=>zL A ds38 6 6 fun l45=>zL A ds38 7 7 fun l46=>zL A ds38 8 2 fun l47=>bif (A.ilt n41 n40)then iT (A.inr n41 (A.rlen l39)) <| oD A (A.row l39 n41) 0 fun s48 n49 n50 n51 s52 s53=>bif (A.bnot (A.seq s52 (bs [])))then bif (A.ile 0 n41)then some (.inr (.inl [.bool true, .str s42, .sl 6 l43, .sl 6 l44, .sl 6 l45, .sl 7 l46])) else E.lp (fun ds54=>zL A ds54 0 6 fun l55=>zI A ds54 1 fun n56=>zI A ds54 2 fun n57=>zS A ds54 3 fun s58=>zL A ds54 4 6 fun l59=>zL A ds54 5 6 fun l60=>zL A ds54 6 6 fun l61=>zL A ds54 7 7 fun l62=>zL A ds54 8 2 fun l63=>bif (A.ilt n57 n56)then iT (A.inr n57 (A.rlen l55)) <| oD A (A.row l55 n57) 0 fun s64 n65 n66 n67 s68 s69=>bif (A.bnot (A.seq s68 (bs [])))then some (.inr (.inr (.inl [.bool (A.ile 0 n57), .str s58, .sl 6 l59, .sl 6 l60, .sl 6 l61, .sl 7 l62]))) else iL [.sl 6 l55,nI n56,nI (zW A (A.add n57 1)), .str s58, .sl 6 l59, .sl 6 l60, .sl 6 l61, .sl 7 l62, .sl 2 l63] else some (.inr (.inr (.inl [.bool (A.ile 0 (-1)), .str s58, .sl 6 l59, .sl 6 l60, .sl 6 l61, .sl 7 l62])))) [.sl 6 l44,nI (A.rlen l44),nI 0, .str s42, .sl 6 l43, .sl 6 l44, .sl 6 l45, .sl 7 l46, .sl 2 l47] else iL [.sl 6 l39,nI n40,nI (zW A (A.add n41 1)), .str s42, .sl 6 l43, .sl 6 l44, .sl 6 l45, .sl 7 l46, .sl 2 l47] else bif (A.ile 0 (-1))then some (.inr (.inl [.bool true, .str s42, .sl 6 l43, .sl 6 l44, .sl 6 l45, .sl 7 l46])) else E.lp (fun ds70=>zL A ds70 0 6 fun l71=>zI A ds70 1 fun n72=>zI A ds70 2 fun n73=>zS A ds70 3 fun s74=>zL A ds70 4 6 fun l75=>zL A ds70 5 6 fun l76=>zL A ds70 6 6 fun l77=>zL A ds70 7 7 fun l78=>zL A ds70 8 2 fun l79=>bif (A.ilt n73 n72)then iT (A.inr n73 (A.rlen l71)) <| oD A (A.row l71 n73) 0 fun s80 n81 n82 n83 s84 s85=>bif (A.bnot (A.seq s84 (bs [])))then some (.inr (.inr (.inl [.bool (A.ile 0 n73), .str s74, .sl 6 l75, .sl 6 l76, .sl 6 l77, .sl 7 l78]))) else iL [.sl 6 l71,nI n72,nI (zW A (A.add n73 1)), .str s74, .sl 6 l75, .sl 6 l76, .sl 6 l77, .sl 7 l78, .sl 2 l79] else some (.inr (.inr (.inl [.bool (A.ile 0 (-1)), .str s74, .sl 6 l75, .sl 6 l76, .sl 6 l77, .sl 7 l78])))) [.sl 6 l44,nI (A.rlen l44),nI 0, .str s42, .sl 6 l43, .sl 6 l44, .sl 6 l45, .sl 7 l46, .sl 2 l47]) [.sl 6 l9,nI (A.rlen l9),nI 0, .str s8, .sl 6 l9, .sl 6 l10, .sl 6 l11, .sl 7 l12, .sl 2 l13]) fun ds86=>zB A ds86 0 fun b87=>zS A ds86 1 fun s88=>zL A ds86 2 6 fun l89=>zL A ds86 3 6 fun l90=>zL A ds86 4 6 fun l91=>zL A ds86 5 7 fun l92=>bif b87 then some (.inr (.val [.bool false])) else E.lp (fun ds93=>zL A ds93 0 7 fun l94=>zI A ds93 1 fun n95=>zI A ds93 2 fun n96=>zS A ds93 3 fun s97=>zL A ds93 4 6 fun l98=>zL A ds93 5 6 fun l99=>zL A ds93 6 6 fun l100=>zL A ds93 7 7 fun l101=>bif (A.ilt n96 n95)then
 iT (A.inr n96 (A.rlen l94)) <| zL A (A.row l94 n96) 0 1 fun l102=>oE A (A.row l94 n96) 1 fun n103 n104 s105 n106 l107 l108=>zC E 103 [.agg [.d (.sl 1 l102), .d (nI n103), .d (nI n104), .d (.str s105), .d (nI n106), .d (.sl 1 l107), .d (.sl 6 l108)]] fun p109=>yB A p109 0 fun k3q=>bif (A.bnot k3q)then some (.inr (.inr (.val [.bool false]))) else iL [.sl 7 l94,nI n95,nI (zW A (A.add n96 1)), .str s97, .sl 6 l98, .sl 6 l99, .sl 6 l100, .sl 7 l101] else zC E 95 [.d (.str s97)] fun p112=>yB A p112 0 fun b114=>x0u (bif b114 then vB (A.ilt 0 (A.rlen l99)) else vB false) fun ds115=>zB A ds115 0 fun b116=>some (.inr (.inr (.val [.bool b116])))) [.sl 7 l92,nI (A.rlen l92),nI 0, .str s88, .sl 6 l89, .sl 6 l90, .sl 6 l91, .sl 7 l92]) [.sl 6 l3,nI (A.rlen l3),nI 0, .str n_0, .sl 6 n_1, .sl 6 n_2, .sl 6 n_3, .sl 7 n_4, .sl 2 l_]
def q9s (l_:LL)(n_0:BA)(n_1 n_2 n_3 n_4:LL):fT A E 51 [.d (.sl 2 l_), .agg [.d (.str n_0), .d (.sl 6 n_1), .d (.sl 6 n_2), .d (.sl 6 n_3), .d (.sl 7 n_4)]]=g51 A E l_ n_0 n_1 n_2 n_3 n_4:=by kernel_rfl
def g53 (n_0:BA)(n_1 n_2 n_3 n_4:LL):Option PRes:=zC E 100 [.agg [.d (.str n_0), .d (.sl 6 n_1), .d (.sl 6 n_2), .d (.sl 6 n_3), .d (.sl 7 n_4)]] fun p1=>yL A p1 0 6 fun l3=>E.lp (fun ds4=>zL A ds4 0 6 fun l5=>zI A ds4 1 fun n6=>zI A ds4 2 fun n7=>zL A ds4 3 1 fun l8=>bif (A.ilt n7 n6)then iT (A.inr n7 (A.rlen l5)) <| oD A (A.row l5 n7) 0 fun s9 n10 n11 n12 s13 s14=>iT (A.fits l8 [[.str s9]] 16) <| iL [.sl 6 l5,nI n6,nI (zW A (A.add n7 1)), .sl 1 (A.rapp l8 [[.str s9]])] else zC E 54 [.d (.sl 1 l8)] fun p15=>yB A p15 0 fun b17=>some (.inr (.val [.bool b17]))) [.sl 6 l3,nI (A.rlen l3),nI 0, .sl 1 []]
def q9r (n_0:BA)(n_1 n_2 n_3 n_4:LL):fT A E 53 [.agg [.d (.str n_0), .d (.sl 6 n_1), .d (.sl 6 n_2), .d (.sl 6 n_3), .d (.sl 7 n_4)]]=g53 A E n_0 n_1 n_2 n_3 n_4:=by kernel_rfl
def g17 (p_0 p_1:LL):Option PRes:=zC E 47 [.d (.sl 2 p_0)] fun p1=>yI A p1 0 fun n3=>bif (A.bnot (A.ieq n3 0))then vL [nI n3] else E.lp (fun ds4=>zL A ds4 0 5 fun l5=>zI A ds4 1 fun n6=>zI A ds4 2 fun n7=>zL A ds4 3 2 fun l8=>zL A ds4 4 5 fun l9=>zL A ds4 5 1 fun l10=>bif (A.ilt n7 n6)then iT (A.inr n7 (A.rlen l5)) <| zS A (A.row l5 n7) 0 fun s11=>zL A (A.row l5 n7) 1 6 fun l12=>zL A (A.row l5 n7) 2 6 fun l13=>zL A (A.row l5 n7) 3 6 fun l14=>zL A (A.row l5 n7) 4 7 fun l15=>iT (A.fits l10 [[.str s11]] 16) <| iL [.sl 5 l5,nI n6,nI (zW A (A.add n7 1)), .sl 2 l8, .sl 5 l9, .sl 1 (A.rapp l10 [[.str s11]])] else bif (A.ieq (A.rlen l9) 0)then some (.inr (.val [nI 5])) else x0u (bif (A.ilt 6 (A.rlen l9))then iL [.bool true, .sl 2 l8, .sl 5 l9, .sl 1 l10] else E.lp (fun ds16=>zL A ds16 0 5 fun l17=>zI A ds16 1 fun n18=>zI A ds16 2 fun n19=>zL A ds16 3 2 fun l20=>zL A ds16 4 5 fun l21=>zL A ds16 5 1 fun l22=>zL A ds16 6 2 fun l23=>zL A ds16 7 5 fun l24=>bif (A.ilt n19 n18)then iT (A.inr n19 (A.rlen l17)) <| zS A (A.row l17 n19) 0 fun s25=>zL A (A.row l17 n19) 1 6 fun l26=>zL A (A.row l17 n19) 2 6 fun l27=>zL A (A.row l17 n19) 3 6 fun l28=>zL A (A.row l17 n19) 4 7 fun l29=>x0u (bif (A.ilt 6 (A.rlen l26))then vB true else vB (A.ilt 6 (A.rlen l27))) fun ds30=>zB A ds30 0 fun b31=>x0u (bif b31 then vB true else vB (A.ilt 12 (A.rlen l28))) fun ds32=>zB A ds32 0 fun b33=>x0u (bif b33 then vB true else vB (A.ilt 18 (A.rlen l29))) fun ds34=>zB A ds34 0 fun b35=>bif b35 then some (.inr (.inl [.bool (A.ile 0 n19), .sl 2 l20, .sl 5 l21, .sl 1 l22])) else iL [.sl 5 l17,nI n18,nI (zW A (A.add n19 1)), .sl 2 l20, .sl 5 l21, .sl 1 l22, .sl 2 l23, .sl 5 l24] else some (.inr (.inl [.bool (A.ile 0 (-1)), .sl 2 l20, .sl 5 l21, .sl 1 l22]))) [.sl 5 l9,nI (A.rlen l9),nI 0, .sl 2 l8, .sl 5 l9, .sl 1 l10, .sl 2 l8, .sl 5 l9]) fun ds36=>zB A ds36 0 fun b37=>zL A ds36 1 2 fun l38=>zL A ds36 2 5 fun l39=>zL A ds36 3 1 fun l40=>bif b37 then some (.inr (.val [nI 4])) else x0u (E.lp (fun ds41=>zL A ds41 0 5 fun l42=>zI A ds41 1 fun n43=>zI A ds41 2 fun n44=>zL A ds41 3 2 fun l45=>zL A ds41 4 5 fun l46=>zL A ds41 5 1 fun l47=>zL A ds41 6 2 fun l48=>zL A ds41 7 5 fun l49=>bif (A.ilt n44 n43)then iT (A.inr n44 (A.rlen l42)) <| zS A (A.row l42 n44) 0 fun s50=>zL A (A.row l42 n44) 1 6 fun l51=>zL A (A.row l42 n44) 2 6 fun l52=>zL A (A.row l42 n44) 3 6 fun l53=>zL A (A.row l42 n44) 4 7 fun l54=>zC E 51 [.d (.sl 2 l45), .agg [.d (.str s50), .d (.sl 6 l51), .d (.sl 6 l52), .d (.sl 6 l53), .d (.sl 7 l54)]] fun p55=>yB A p55 0 fun b57=>bif (A.bnot b57)then some (.inr (.inl [.bool (A.ile 0 n44), .sl 2 l45, .sl 5 l46, .sl 1 l47])) else iL [.sl 5 l42,nI n43,nI (zW A (A.add n44 1)), .sl 2 l45, .sl 5 l46, .sl 1 l47, .sl 2 l48, .sl 5 l49] else some (.inr (.inl [.bool (A.ile 0 (-1)), .sl 2 l45, .sl 5 l46, .sl 1 l47]))) [.sl 5 l39,nI (A.rlen l39),nI 0, .sl 2 l38, .sl 5 l39, .sl 1 l40, .sl 2 l38, .sl 5 l39]) fun ds58=>zB A ds58 0 fun b59=>zL A ds58 1 2 fun l60=>zL A ds58 2 5 fun l61=>zL A ds58 3 1 fun l62=>bif b59 then some (.inr (.val [nI 1])) else x0u (E.lp (fun ds63=>zL A ds63 0 5 fun l64=>zI A ds63 1 fun n65=>zI A ds63 2 fun n66=>zL A ds63 3 2 fun l67=>zL A ds63 4 5 fun l68=>zL A ds63 5 1 fun l69=>zL A ds63 6 2 fun l70=>zL A ds63 7 5 fun l71=>bif (A.ilt n66 n65)then iT (A.inr n66 (A.rlen l64)) <| zS A (A.row l64 n66) 0 fun s72=>zL A (A.row l64 n66) 1 6 fun l73=>zL A (A.row l64 n66) 2 6 fun l74=>zL A (A.row l64 n66) 3 6 fun l75=>zL A (A.row l64 n66) 4 7 fun l76=>zC E 53 [.agg [.d (.str s72), .d (.sl 6 l73), .d (.sl 6 l74), .d (.sl 6 l75), .d (.sl 7 l76)]] fun p77=>yB A p77 0 fun b79=>bif (A.bnot b79)then x0u (bif (A.ile 0 n66)then vB true else zC E 54 [.d (.sl 1 l69)] fun p80=>yB A p80 0 fun b82=>vB (A.bnot b82)) fun ds83=>zB A ds83 0 fun b84=>some (.inr (.inl [.bool b84, .sl 2 l67, .sl 5 l68, .sl 1 l69])) else iL [.sl 5 l64,nI n65,nI (zW A (A.add n66 1)), .sl 2 l67, .sl 5 l68, .sl 1 l69, .sl 2 l70, .sl 5 l71] else x0u (bif (A.ile 0 (-1))then vB true else zC E 54 [.d (.sl 1 l69)] fun p85=>
 yB A p85 0 fun b87=>vB (A.bnot b87)) fun ds88=>zB A ds88 0 fun b89=>some (.inr (.inl [.bool b89, .sl 2 l67, .sl 5 l68, .sl 1 l69]))) [.sl 5 l61,nI (A.rlen l61),nI 0, .sl 2 l60, .sl 5 l61, .sl 1 l62, .sl 2 l60, .sl 5 l61]) fun ds90=>zB A ds90 0 fun b91=>zL A ds90 1 2 fun l92=>zL A ds90 2 5 fun l93=>zL A ds90 3 1 fun l94=>bif b91 then some (.inr (.val [nI 6])) else some (.inr (.val [nI 0]))) [.sl 5 p_1,nI (A.rlen p_1),nI 0, .sl 2 p_0, .sl 5 p_1, .sl 1 []]
def k0g (p_0 p_1:LL):fT A E 17 [.agg [.d (.sl 2 p_0), .d (.sl 5 p_1)]]=g17 A E p_0 p_1:=by kernel_rfl
end
end Go.Vm
end
section
set_option maxRecDepth 100000
set_option maxHeartbeats 4000000
namespace Go.Vm
open Go.Proofs
def x7p (l:List En):Bool:=decide (4 < (l.length:Int)) || l.any fun e=>decide (6 < (e.2.length:Int))
def x1q (l:List En):List BA:=l.flatMap (·.2)
def u6b (l:List En):Bool:=l.all fun e=>x3r (tb e.1)&&decide (0 < (e.2.length:Int))
def y0y (l:List BA):Bool:=l.all fun c=>x3h (tb c)
def x7s (l:List En):Int:=bif x7p l then 4 else bif !(u6b l&&y0y (x1q l))then 1 else bif !(decide (l.map (·.1)).Nodup) || !(decide (x1q l).Nodup)then 6 else 0
def y2e (n:Nd):List Dc:=n.ins++n.outs++n.vars
def tyB (ens:List En)(k e c:Int):Bool:= !(decide (c < 0) || decide (8 < c))&&(bif decide (k=1)then decide (e=0)else bif decide (k=2)then decide (e=0)else decide (k=3)&&(decide (0<=e)&&decide (e < (ens.length:Int))))
def v1d (d:Dc):Bool:=decide (tb d.o=tb (bs []))&&decide (tb d.q=tb (bs []))
def x3y (ens:List En)(d:Dc):Bool:=(x3r (tb d.n)&&tyB ens d.k d.e d.c)&&(v1d d || (x3r (tb d.o)&&x9a d.q))
def Ex.k:Ex->Int| .mk k _ _ _ _ _=>k
def eqB (x:Eqn):Bool:= !(decide ((x.ns.length:Int)=0))&&(x3k x.e&&y1y x.e)&& !(decide (1 < (x.ns.length:Int))&& !decide (x.e.k=13))&&x.ns.all fun s=>x3r (tb s)
def y4r (l:List Dc):Bool:=l.all fun d=>decide (tb d.o=tb (bs []))
def y0u (ens:List En)(n:Nd):Bool:=(y2e n).all (x3y ens)&&(y4r n.ins&&(y4r n.outs&&(n.eqs.all eqB&&(x3r (tb n.n)&&decide (0 < (n.outs.length:Int))))))
def y5x (n:Nd):Bool:=decide (6 < (n.ins.length:Int)) || (decide (6 < (n.outs.length:Int)) || (decide (12 < (n.vars.length:Int)) || decide (18 < (n.eqs.length:Int))))
def y6l (n:Nd):Bool:=decide ((y2e n).map (·.n)).Nodup
def y6r (ens:List En)(nds:List Nd):Int:=bif !decide (x7s ens=0)then x7s ens else bif decide ((nds.length:Int)=0)then 5 else bif decide (6 < (nds.length:Int)) || nds.any y5x then 4 else bif !(nds.all (y0u ens))then 1 else bif !(nds.all y6l) || !decide (nds.map (·.n)).Nodup then 6 else 0
def x9m {l:List Nd}{i:Nat}{x:Nd}(h:l[i]? =some x):sy.row (x1x l) (i:Int)=y7d x:=by
 rw[y5l,a0n,a0i];unfold x1x;rw[a0m,h];rfl
def x9s {l:List Dc}{i:Nat}{x:Dc}(h:l[i]? =some x):sy.row (x0m l) (i:Int)=z3r x:=by
 rw[y5l,a0n,a0i];unfold x0m;rw[a0m,h];rfl
def y8n {l:List Eqn}{i:Nat}{x:Eqn}(h:l[i]? =some x):sy.row (x3e l) (i:Int)=z7o x:=by
 rw[y5l,a0n,a0i];unfold x3e;rw[a0m,h];rfl
def x7f {l:List En}{i:Nat}{x:En}(h:l[i]? =some x):sy.row (x0j l) (i:Int)= [.str x.1, .sl 1 (x0b x.2)]:=by
 rw[y5l,a0n,a0i];unfold x0j;rw[a0m,h];rfl
def x3n {α:Type}{b:List D->Option (List D ⊕ α)}{r:α}{ds:List D}(n:Nat)(mk:Nat->List D)(h0:ds=mk 0)(hb: ∀i,i < n->b (mk i)=some (.inl (mk (i+1))))(hend:b (mk n)=some (.inr r)):x6d b ds=some r:=by
 rw[h0];exact u5g n mk hb hend
def w1l {l:List En}(h:x7p l=false):l.length<=4/\ ∀e∈l,e.2.length<=6:=by
 unfold x7p at h;rw[Bool.or_eq_false_iff]at h;refine⟨by have:=of_decide_eq_false h.1;omega,fun e he=> ?_⟩
 have:=List.any_eq_false.1 h.2 e he;simp at this;omega
def z0s {l:List En}{i:Nat}{x:En}(h:l[i]? =some x):x1q (l.take (i+1))=x1q (l.take i)++x.2:=by
 rw[a1d,h];simp[x1q]
def v4k {l:List En}{i:Nat}{x:En}(h:l[i]? =some x):u6b (l.take (i+1))=(u6b (l.take i)&&(x3r (tb x.1)&&decide (0 < (x.2.length:Int)))):=by
 rw[a1d,h];simp[u6b]
def z9b (a b:List BA):y0y (a++b)=(y0y a&&y0y b):=by simp[y0y]
def u9r {l:List BA}{i:Nat}{x:BA}(h:l[i]? =some x):y0y (l.take (i+1))=(y0y (l.take i)&&x3h (tb x)):=by
 rw[a1d,h];simp[y0y]
def z3f {l:List En}{i:Nat}{x:En}(h:l[i]? =some x):(l.take (i+1)).map (·.1)=(l.take i).map (·.1)++[x.1]:=by
 rw[a1d,h,List.map_append];rfl
def z0t: ∀ {l:List En},(∀e∈l,e.2.length<=6)->(x1q l).length<=6*l.length
 | [],_=>by simp[x1q]
 |x::l,h=>by
  have h1:=h x a0v;have h2:=z0t (l:=l) fun e he=>h e (a0w _ he)
  unfold x1q at*;simp only[List.flatMap_cons,a0j,a0b];omega
def v0k {l:List En}(i:Nat):(x1q (l.take i)).length<=(x1q l).length:=by
 have h:x1q l=x1q (l.take i)++x1q (l.drop i):=by
  unfold x1q;rw[<-List.flatMap_append,a1w]
 rw[h,a0j];omega
def v7k (l:List En)(hl:l.length<=1000000):cF 94 [.d (.sl 2 (x0j l))]=some (.val [.bool (x7p l)]):=by
 unfold x7p;refine cO rfl ?_;rw[q8u];simp only[g94,go1,Int.reduceLE,x0t];cases decide (4 < (l.length:Int))with
 |true=>rfl
 |false=>
  simp only[go1];refine x2e (r0:=PRes.val [.bool true]) (r1:=PRes.val [.bool false]) (fun e:En=> !decide (6 < (e.2.length:Int))) l (fun i=>[.sl 2 (x0j l), .int .i64 (l.length:Int), .int .i64 (i:Int)]) rfl (fun i x hx=> ?_) (fun _=> ?_) ?_
  ·have hlt:=(a0c.1 hx).1;simp only[go1,x0t,x0c,x0l hlt,x0k hlt,x7f hx,x0e hlt (by omega),x2p (a2h i)]
   cases decide (6 < (x.2.length:Int))<;>rfl
  ·simp only[go1,x0g];try rfl
  ·rw[List.any_eq_not_all_not];cases List.all l _<;>rfl
def v7l (l:List En)(hl:l.length<=1000000):cF 47 [.d (.sl 2 (x0j l))]=some (.val [.int .i64 (x7s l)]):=by
 have hg:=v7k l hl;unfold x7s;cases hG:x7p l with
 |true=>
  rw[hG]at hg;refine cO rfl ?_;rw[w5c];simp only[g47,go1,Nat.reduceAdd,hg]
 |false=>
  rw[hG]at hg;obtain⟨h4,h6⟩:=w1l hG;have hcb:=z0t h6;have hO1:=z1d (l.map (·.1)) (by simp;omega)
  have hO2:=z1d (x1q l) (by omega)
  refine cO rfl ?_;rw[w5c];simp only[g47,go1,Nat.reduceAdd,hg,x0t];refine x3n l.length (fun i=>[.sl 2 (x0j l), .sl 2 (x0j l), .int .i64 (l.length:Int), .int .i64 (i:Int), .sl 1 (x0b ((l.take i).map (·.1))), .sl 1 [], .bool (u6b (l.take i))]) rfl (fun i hlt=> ?_) ?_
  ·have hx:=a0a hlt;have hL:=z6i l[i].1;have hf:=y0z (x0b ((l.take i).map (·.1))) [[.str l[i].1]] 16 (by rw[x0c,a1f,a1q];simp only[a0b,a0e];omega)
   rw[z3f hx,x4m,v4k hx];simp only[go1,Nat.reduceAdd,x0t,x0c,x0l hlt,x0k hlt,x7f hx,hL,a0b,a0e,x0e hlt (by omega)]at hf ⊢
   rw[hf];cases u6b (l.take i)<;>cases x3r (tb l[i].1)<;>rfl
  ·simp only[go1,x0t,x0g,a0r];refine x3n l.length (fun i=>[.sl 2 (x0j l), .int .i64 (l.length:Int), .int .i64 (i:Int), .sl 1 (x0b (l.map (·.1))), .sl 1 (x0b (x1q (l.take i))), .bool (y0y (x1q (l.take i))&&u6b l), .sl 2 (x0j l), .sl 2 (x0j l), .sl 2 (x0j l), .int .i64 (l.length:Int), .int .i64 (l.length:Int), .bool false, .sl 2 (x0j l)]) rfl (fun i hlt=> ?_) ?_
   ·have hx:=a0a hlt;have hci:=h6 _ (a1i hlt);have hb1:=v0k (l:=l) i;rw[z0s hx];simp only[go1,x0t,x0c,x0l hlt,x0k hlt,x7f hx];refine x3n l[i].2.length (fun j=>[.int .i64 (i:Int), .sl 2 (x0j l), .int .i64 (l.length:Int), .int .i64 (i:Int), .sl 1 (x0b l[i].2), .int .i64 (l[i].2.length:Int), .int .i64 (j:Int), .sl 1 (x0b (l.map (·.1))), .sl 1 (x0b (x1q (l.take i)++l[i].2.take j)), .bool (y0y (x1q (l.take i)++l[i].2.take j)&&u6b l), .sl 2 (x0j l), .sl 2 (x0j l), .sl 2 (x0j l), .int .i64 (l.length:Int), .int .i64 (l.length:Int), .bool false, .sl 2 (x0j l)]) (by simp only[List.take_zero,a0y];rfl) (fun j hj=> ?_) ?_
    ·have hy:=a0a hj;have hH:=u0u l[i].2[j];have hf:=y0z (x0b (x1q (l.take i)++l[i].2.take j)) [[.str l[i].2[j]]] 16 (by rw[x0c,a0j,a1q];simp only[a0b,a0e];omega)
     rw[z9b _ (l[i].2.take (j+1)),u9r hy,<-Bool.and_assoc,<-z9b,a1d,hy,a2g,<-List.append_assoc,x4m];simp only[go1,Nat.reduceAdd,x0c,x0l hj,x0k hj,x1j hy,hH,a0b,a0e,x0e hj (by omega)]at hf ⊢
     rw[hf];cases y0y (x1q (l.take i)++l[i].2.take j)<;>cases u6b l<;>cases x3h (tb l[i].2[j])<;>rfl
    ·simp only[go1,x0g,a0r,x0e hlt (by omega)]
     rfl
   ·simp only[go1,x0g,a0r,hO1,hO2];rw[Bool.and_comm (u6b l)];cases y0y (x1q l)&&u6b l
    ·rfl
    ·cases decide (l.map (·.1)).Nodup<;>cases decide (x1q l).Nodup<;>rfl
def k1q (n:Int)(h:0<=n/\n<=1000000):cF 174 [V.nils, .d (.int .i64 n)]=some (.own 127 6 []):=by
 refine y2p ?_;show(match decide (0<=n/\n<=1000000)with
  |true=>some (PRes.own 127 6 [])
  |false=>none)=_
 rw[x2p h]
def y3u (a b:List Dc):x0m a++x0m b=x0m (a++b):=by simp[x0m]
def u0j (L:List (List Dc)):LL:=L.map fun d=>[.sl 6 (x0m d)]
def v6v {l:List (List Dc)}{i:Nat}{x:List Dc}(h:l[i]? =some x):sy.row (u0j l) (i:Int)= [.sl 6 (x0m x)]:=by
 rw[y5l,a0n,a0i];unfold u0j;rw[a0m,h];rfl
def w3a (L:List (List Dc))(h:L.flatten.length<=1000000)(hL:L.length<=1000):cF 141 [.d (.sl 1 (u0j L))]=some (.own 127 6 (x0m L.flatten)):=by
 have hg:=k1q (L.flatten.length:Int) (by omega)
 have hc:(u0j L).length=L.length:=by simp[u0j]
 have hs: ∀i (hi:i < L.length),(L.take (i+1)).flatten=(L.take i).flatten++L[i]:=fun i hi=>by
  rw[a1d,a0a hi,a2g,List.flatten_append,List.flatten_cons,List.flatten_nil,a0y]
 have hb: ∀i,(L.take i).flatten.length<=1000000:=fun i=>by
  have e:L.flatten.length=(L.take i).flatten.length+(L.drop i).flatten.length:=by
   rw[<-a0j,<-List.flatten_append,a1w]
  omega
 refine cO rfl ?_;rw[q0s];simp only[g141,go1,Nat.reduceAdd,hc];refine x3n L.length (fun i=>[.sl 1 (u0j L), .int .i64 ((L.take i).flatten.length:Int), .sl 1 (u0j L), .int .i64 (L.length:Int), .int .i64 (i:Int)]) rfl (fun i hlt=> ?_) ?_
 ·have hx:=a0a hlt;have h1:=hb (i+1);have w:IntKind.i64.wrap (((L.take i).flatten.length:Int)+((x0m L[i]).length:Int))=((L.take (i+1)).flatten.length:Int):=by
   rw[hs i hlt,a0j]at h1 ⊢;rw[x0q];rw[x0p (by omega) (by omega)];omega
  simp only[go1,hc,x0l hlt,x0k hlt,v6v hx,w,x1p (p:=((L.take (i+1)).flatten.length:Int) < 0) (by omega),x0e hlt (by omega)]
  rfl
 ·simp only[go1,x0g,a0r,hg,hc];refine x3n L.length (fun i=>[.sl 1 (u0j L), .int .i64 (L.length:Int), .int .i64 (i:Int), .sl 6 (x0m (L.take i).flatten)]) rfl (fun i hlt=> ?_) ?_
  ·have hx:=a0a hlt;have h1:=hb (i+1);rw[hs i hlt,a0j]at h1;have hf:=y0z (x0m (L.take i).flatten) (x0m L[i]) 72 (by rw[x0q,x0q];omega)
   rw[hs i hlt,<-y3u];simp only[go1,Nat.reduceAdd]at hf;simp only[go1,hc,x0l hlt,x0k hlt,v6v hx,hf,x0e hlt (by omega)]
   rfl
  ·simp only[go1,x0g,a0r]
def k1s (n:Nd)(h:(y2e n).length<=1000000):cF 100 [.agg [.d (.str n.n), .d (.sl 6 (x0m n.ins)), .d (.sl 6 (x0m n.outs)), .d (.sl 6 (x0m n.vars)), .d (.sl 7 (x3e n.eqs))]]=some (.val [.sl 6 (x0m (y2e n))]):=by
 have e:[n.ins,n.outs,n.vars].flatten=y2e n:=by simp[y2e]
 have h1:=w3a [n.ins,n.outs,n.vars] (by rw[e];exact h) (by simp)
 rw[e]at h1;have h1:cF 141 [.d (.sl 1 [[.sl 6 (x0m n.ins)],[.sl 6 (x0m n.outs)],[.sl 6 (x0m n.vars)]])]=_:=h1;refine cO rfl ?_;rw[q1l];simp only[g100,go1,h1]
def k1m (n:Nd)(h:(y2e n).length<=1000000):cF 53 [.agg [.d (.str n.n), .d (.sl 6 (x0m n.ins)), .d (.sl 6 (x0m n.outs)), .d (.sl 6 (x0m n.vars)), .d (.sl 7 (x3e n.eqs))]]=some (.val [.bool (y6l n)]):=by
 have h1:=k1s n h;have h2:=z1d ((y2e n).map (·.n)) (by rw[a1f];exact h)
 unfold y6l;generalize y2e n=l at h h1 h2 ⊢;refine cO rfl ?_;rw[q9r];simp only[g53,go1,Nat.reduceAdd,h1,x0q];refine x3n l.length (fun i=>[.sl 6 (x0m l), .int .i64 (l.length:Int), .int .i64 (i:Int), .sl 1 (x0b ((l.take i).map (·.n)))]) rfl (fun i hlt=> ?_) ?_
 ·have hx:=a0a hlt;have hf:=y0z (x0b ((l.take i).map (·.n))) [[.str l[i].n]] 16 (by rw[x0c,a1f,a1q];simp only[a0b,a0e];omega)
  rw[a1d,hx,a2g,List.map_append,a1o,a1x,x4m];simp only[go1,Nat.reduceAdd,a0b,a0e]at hf;simp only[go1,oD,z3r,x0q,x0l hlt,x0k hlt,x9s hx,hf,a0b,a0e,x0e hlt (by omega)]
  rfl
 ·simp only[go1,x0g,a0r,h2]
def v7j (ens:List En)(k e c:Int):cF 139 [.d (.sl 2 (x0j ens)), .agg [.d (.int .i64 k), .d (.int .i64 e), .d (.int .i64 c)]]=some (.val [.bool (tyB ens k e c)]):=by
 unfold tyB;refine cO rfl ?_;rw[q0u];simp only[g139,go1,x0t];cases decide (c < 0)<;>cases decide (8 < c)<;>cases decide (k=1)<;>cases decide (k=2)<;>cases decide (k=3)<;>cases decide (0<=e)<;>rfl
def k6r (s:BA):cF 140 [.d (.str s)]=some (.val [.bool (x9a s)]):=by
 have h:=u0u s;unfold x9a;refine cO rfl ?_;rw[q0t];simp only[g140,go1,h,x2f];rw[show tb x6f=tb (bs [116,114,117,101])from rfl,show tb x3q=tb (bs [102,97,108,115,101])from rfl];cases x3h (tb s)<;>cases decide (tb s=tb (bs [116,114,117,101]))<;>rfl
def z5x {α:Type}{X:Option (List D ⊕ α)}{L:List D}{K:List D->Option α}(h:X=some (.inl L)):x0u X K=K L:=by rw[h];rfl
abbrev nV (n:Nd):V:= .agg [.d (.str n.n), .d (.sl 6 (x0m n.ins)), .d (.sl 6 (x0m n.outs)), .d (.sl 6 (x0m n.vars)), .d (.sl 7 (x3e n.eqs))]
structure EqOK (x:Eqn):Prop where
 ns:x.ns.length<=1000000
 sz:x.e.size<=1000000
 fn:x.e.j1f
 st: ∀s∈x.ns,s.size<=100000
structure DcOK (d:Dc):Prop where
 n:d.n.size<=100000
 o:d.o.size<=100000
 q:d.q.size<=100000
structure NdOK (n:Nd):Prop where
 al:(y2e n).length<=1000000
 eq:n.eqs.length<=1000000
 eo: ∀x∈n.eqs,EqOK x
 dc: ∀d∈y2e n,DcOK d
 nm:n.n.size<=100000
def v0s (ns:List BA)(k m:Int)(s:BA)(o:Int)(a:List BA)(u:List Ex)(h:EqOK ⟨ns, .mk k m s o a u⟩):cF 103 [.agg [.d (.sl 1 (x0b ns)), .d (.int .i64 k), .d (.int .i64 m), .d (.str s), .d (.int .i64 o), .d (.sl 1 (x0b a)), .d (.sl 6 (Ex.rows u))]]=some (.val [.bool (eqB ⟨ns, .mk k m s o a u⟩)]):=by
 have h1:=u7s k m s o a u h.sz h.fn;have hl:ns.length<=1000000:=h.ns;have eE:eqB ⟨ns, .mk k m s o a u⟩=(!(decide ((ns.length:Int)=0))&&(x3k (.mk k m s o a u)&&y1y (.mk k m s o a u))&& !(decide (1 < (ns.length:Int))&& !decide (k=13))&&ns.all fun s=>x3r (tb s)):=rfl
 rw[eE];refine cO rfl ?_;rw[q1k];simp only[g103,go1,Int.reduceLE,x0c,h1];cases hz:decide ((ns.length:Int)=0)with
 |true=>rfl
 |false=>
  cases hr:x3k (.mk k m s o a u)&&y1y (.mk k m s o a u)with
  |false=>rfl
  |true=>
   cases hm:decide (1 < (ns.length:Int))&& !decide (k=13)with
   |true=>
    have:decide (1 < (ns.length:Int))=true/\decide (k=13)=false:=by
     revert hm;cases decide (1 < (ns.length:Int))<;>cases decide (k=13)<;>simp
    simp only[go1]
   |false=>
    have e: ∀(K:List D->Option PRes),x0u (bif decide (1 < (ns.length:Int))then some (.inl [.bool (!decide (k=13))])else some (.inl [.bool false])) K=K [.bool false]:=by
     revert hm;cases decide (1 < (ns.length:Int))<;>cases decide (k=13)<;>intro hm K<;>first|rfl|cases hm
    simp only[go1];refine x2e (r0:=PRes.val [.bool false]) (r1:=PRes.val [.bool true]) (fun s:BA=>x3r (tb s)) ns (fun i=>[.sl 1 (x0b ns), .int .i64 (ns.length:Int), .int .i64 (i:Int), .sl 1 (x0b ns), .int .i64 k, .int .i64 m, .str s, .int .i64 o, .sl 1 (x0b a), .sl 6 (Ex.rows u)]) rfl (fun i x hx=> ?_) (fun _=> ?_) ?_
    ·have hlt:=(a0c.1 hx).1;have hL:=z6i x;simp only[go1,Nat.reduceAdd,oE,x0c,x0l hlt,x0k hlt,x1j hx,hL,x0e hlt (by omega),x2p (a2h i)]
     cases x3r (tb x)<;>rfl
    ·simp only[go1,Nat.reduceAdd,oE,x0g];try rfl
    ·cases List.all ns _<;>rfl
def q2p (ens:List En)(n:Nd)(h:NdOK n):cF 51 [.d (.sl 2 (x0j ens)),nV n]=some (.val [.bool (y0u ens n)]):=by
 have h1:=k1s n h.al;have hal:=h.al;have hdl:n.ins.length<=1000000/\n.outs.length<=1000000:=by
  unfold y2e at hal;simp only[a0j]at hal;omega
 have heo:=h.eo;have heq:=h.eq;obtain⟨nm,ins,outs,vars,eqs⟩:=n;unfold y0u;generalize y2e ⟨nm,ins,outs,vars,eqs⟩=l at hal h1 ⊢;simp only at h1 hdl heo heq ⊢;refine cO rfl ?_;rw[q9s];simp only[g51,go1,Int.reduceLE,h1,x0q];have hnm:=z6i nm;refine x2e (r0:=PRes.val [.bool false]) (r1:=PRes.val [.bool (y4r ins&&(y4r outs&&(eqs.all eqB&&(x3r (tb nm)&&decide (0 < (outs.length:Int))))))]) (x3y ens) l (fun i=>[.sl 6 (x0m l), .int .i64 (l.length:Int), .int .i64 (i:Int), .str nm, .sl 6 (x0m ins), .sl 6 (x0m outs), .sl 6 (x0m vars), .sl 7 (x3e eqs), .sl 2 (x0j ens)]) rfl (fun i x hx=> ?_) (fun _=> ?_) ?_
 ·have hlt:=(a0c.1 hx).1;have c1:=z6i x.n;have c2:=v7j ens x.k x.e x.c;have c3:=z6i x.o;have c4:=k6r x.q;unfold x3y v1d;simp only[go1,oD,z3r,x0q,x0l hlt,x0k hlt,x9s hx,c1,c2,c3,c4,x2f,x0e hlt (by omega)]
  cases x3r (tb x.n)<;>cases tyB ens x.k x.e x.c<;>cases decide (tb x.o=tb (bs []))<;>cases decide (tb x.q=tb (bs []))<;>cases x3r (tb x.o)<;>cases x9a x.q<;>first|rfl|(simp only[go1,Nat.reduceAdd,Int.reduceEq,Int.reduceLT,Int.reduceLE,Int.reduceSub,Int.reduceAdd,c2,c3,c4];rfl)
 ·simp only[go1,x0g,x0q];have hin: ∀(L:List Dc) (hL:L.length<=1000000),True:=fun _ _=>trivial
  refine(z5x (L:=[.bool (!(y4r ins&&y4r outs)), .str nm, .sl 6 (x0m ins), .sl 6 (x0m outs), .sl 6 (x0m vars), .sl 7 (x3e eqs)]) ?_).trans ?_
  ·refine x2e (r0:=Sum.inl [.bool true, .str nm, .sl 6 (x0m ins), .sl 6 (x0m outs), .sl 6 (x0m vars), .sl 7 (x3e eqs)]) (r1:=Sum.inl [.bool (!y4r outs), .str nm, .sl 6 (x0m ins), .sl 6 (x0m outs), .sl 6 (x0m vars), .sl 7 (x3e eqs)]) (fun d:Dc=>decide (tb d.o=tb (bs []))) ins (fun i=>[.sl 6 (x0m ins), .int .i64 (ins.length:Int), .int .i64 (i:Int), .str nm, .sl 6 (x0m ins), .sl 6 (x0m outs), .sl 6 (x0m vars), .sl 7 (x3e eqs), .sl 2 (x0j ens)]) rfl (fun i x hx=> ?_) (fun _=> ?_) ?_
   ·have hlt:=(a0c.1 hx).1;simp only[go1,oD,z3r,x0q,x0l hlt,x0k hlt,x9s hx,x2f,x0e hlt (by omega),x2p (a2h i)]
    cases decide (tb x.o=tb (bs []))<;>rfl
   ·simp only[go1,x0g,x0q];refine x2e (r0:=Sum.inr (Sum.inl [.bool true, .str nm, .sl 6 (x0m ins), .sl 6 (x0m outs), .sl 6 (x0m vars), .sl 7 (x3e eqs)])) (r1:=Sum.inr (Sum.inl [.bool false, .str nm, .sl 6 (x0m ins), .sl 6 (x0m outs), .sl 6 (x0m vars), .sl 7 (x3e eqs)])) (fun d:Dc=>decide (tb d.o=tb (bs []))) outs (fun i=>[.sl 6 (x0m outs), .int .i64 (outs.length:Int), .int .i64 (i:Int), .str nm, .sl 6 (x0m ins), .sl 6 (x0m outs), .sl 6 (x0m vars), .sl 7 (x3e eqs), .sl 2 (x0j ens)]) rfl (fun i x hx=> ?_) (fun _=> ?_) ?_
    ·have hlt:=(a0c.1 hx).1;simp only[go1,oD,z3r,x0q,x0l hlt,x0k hlt,x9s hx,x2f,x0e hlt (by omega),x2p (a2h i)]
     cases decide (tb x.o=tb (bs []))<;>rfl
    ·simp only[go1,x0g];try rfl
    ·unfold y4r;cases List.all outs _<;>rfl
   ·unfold y4r;cases List.all ins _<;>cases List.all outs _<;>rfl
  ·simp only[go1];cases hio:y4r ins&&y4r outs with
   |false=>
    simp only[go1]
    revert hio;cases y4r ins<;>cases y4r outs<;>simp
   |true=>
    have:y4r ins=true/\y4r outs=true:=by revert hio;cases y4r ins<;>cases y4r outs<;>simp
    rw[this.1,this.2];simp only[go1,x2c];refine x2e (r0:=Sum.inr (PRes.val [.bool false])) (r1:=Sum.inr (PRes.val [.bool (x3r (tb nm)&&decide (0 < (outs.length:Int)))])) eqB eqs (fun i=>[.sl 7 (x3e eqs), .int .i64 (eqs.length:Int), .int .i64 (i:Int), .str nm, .sl 6 (x0m ins), .sl 6 (x0m outs), .sl 6 (x0m vars), .sl 7 (x3e eqs)]) rfl (fun i x hx=> ?_) (fun _=> ?_) ?_
    ·have hlt:=(a0c.1 hx).1;have hok:=heo x (a0p hx);have hr:=y8n hx;obtain⟨ns,e⟩:=x;obtain⟨k,m,y,o,a,u⟩:=e;have c1:=v0s ns k m y o a u hok;have hr':sy.row (x3e eqs) (i:Int)= [.sl 1 (x0b ns), .int .i64 k, .int .i64 m, .str y, .int .i64 o, .sl 1 (x0b a), .sl 6 (Ex.rows u)]:=hr;simp only[go1,Nat.reduceAdd,oE,x2c,x0l hlt,x0k hlt,hr',c1,x0e hlt (by omega)]
     cases eqB ⟨ns, .mk k m y o a u⟩<;>rfl
    ·simp only[go1,x0g,hnm,x0q]
     try (cases x3r (tb nm)<;>rfl)
    ·cases List.all eqs _<;>rfl
 ·cases List.all l _<;>rfl
def q3j (ens:List En)(nds:List Nd)(hE:ens.length<=1000000)(hN:nds.length<=1000000)(h: ∀n∈nds,NdOK n):cF 17 [.agg [.d (.sl 2 (x0j ens)), .d (.sl 5 (x1x nds))]]=some (.val [.int .i64 (y6r ens nds)]):=by
 have h1:=v7l ens hE;have hO:=z1d (nds.map (·.n)) (by rw[a1f];exact hN)
 unfold y6r;refine cO rfl ?_;rw[k0g];simp only[g17,go1,Nat.reduceAdd,Int.reduceLE,h1];cases he:decide (x7s ens=0)with
 |false=>simp only[go1]
 |true=>
  simp only[go1,x1l];refine x3n nds.length (fun i=>[.sl 5 (x1x nds), .int .i64 (nds.length:Int), .int .i64 (i:Int), .sl 2 (x0j ens), .sl 5 (x1x nds), .sl 1 (x0b ((nds.take i).map (·.n)))]) rfl (fun i hlt=> ?_) ?_
  ·have hx:=a0a hlt;have hf:=y0z (x0b ((nds.take i).map (·.n))) [[.str nds[i].n]] 16 (by rw[x0c,a1f,a1q];simp only[a0b,a0e];omega)
   rw[a1d,hx,a2g,List.map_append,a1o,a1x,x4m];simp only[go1,Nat.reduceAdd,a0b,a0e]at hf;simp only[go1,y7d,x1l,x0l hlt,x0k hlt,x9m hx,hf,a0b,a0e,x0e hlt (by omega)]
   rfl
  ·simp only[go1,x0g,a0r,x1l];cases hz:decide ((nds.length:Int)=0)with
   |true=>rfl
   |false=>
    simp only[go1];refine(z5x (L:=[.bool (decide (6 < (nds.length:Int)) || nds.any y5x), .sl 2 (x0j ens), .sl 5 (x1x nds), .sl 1 (x0b (nds.map (·.n)))]) ?_).trans ?_
    ·cases h6:decide (6 < (nds.length:Int))with
     |true=>rfl
     |false=>
      simp only[go1];refine x2e (r0:=Sum.inl [.bool true, .sl 2 (x0j ens), .sl 5 (x1x nds), .sl 1 (x0b (nds.map (·.n)))]) (r1:=Sum.inl [.bool false, .sl 2 (x0j ens), .sl 5 (x1x nds), .sl 1 (x0b (nds.map (·.n)))]) (fun n=> !y5x n) nds (fun i=>[.sl 5 (x1x nds), .int .i64 (nds.length:Int), .int .i64 (i:Int), .sl 2 (x0j ens), .sl 5 (x1x nds), .sl 1 (x0b (nds.map (·.n))), .sl 2 (x0j ens), .sl 5 (x1x nds)]) rfl (fun i x hx=> ?_) (fun _=> ?_) ?_
      ·have hlt:=(a0c.1 hx).1;unfold y5x;simp only[go1,y7d,x1l,x0q,x2c,x0l hlt,x0k hlt,x9m hx,x0e hlt (by omega),x2p (a2h i)]
       cases decide (6 < (x.ins.length:Int))<;>cases decide (6 < (x.outs.length:Int))<;>cases decide (12 < (x.vars.length:Int))<;>cases decide (18 < (x.eqs.length:Int))<;>rfl
      ·simp only[go1,x0g];try rfl
      ·rw[List.any_eq_not_all_not];cases List.all nds _<;>rfl
    ·simp only[go1];cases hg:decide (6 < (nds.length:Int)) || nds.any y5x with
     |true=>rfl
     |false=>
      simp only[go1,x1l];refine(z5x (L:=[.bool (!nds.all (y0u ens)), .sl 2 (x0j ens), .sl 5 (x1x nds), .sl 1 (x0b (nds.map (·.n)))]) ?_).trans ?_
      ·refine x2e (r0:=Sum.inl [.bool true, .sl 2 (x0j ens), .sl 5 (x1x nds), .sl 1 (x0b (nds.map (·.n)))]) (r1:=Sum.inl [.bool false, .sl 2 (x0j ens), .sl 5 (x1x nds), .sl 1 (x0b (nds.map (·.n)))]) (y0u ens) nds (fun i=>[.sl 5 (x1x nds), .int .i64 (nds.length:Int), .int .i64 (i:Int), .sl 2 (x0j ens), .sl 5 (x1x nds), .sl 1 (x0b (nds.map (·.n))), .sl 2 (x0j ens), .sl 5 (x1x nds)]) rfl (fun i x hx=> ?_) (fun _=> ?_) ?_
       ·have hlt:=(a0c.1 hx).1;have c1:=q2p ens x (h x (a0p hx));simp only[go1,y7d,x1l,x0l hlt,x0k hlt,x9m hx,c1,x0e hlt (by omega),x2p (a2h i)]
        cases y0u ens x<;>rfl
       ·simp only[go1,x0g];try rfl
       ·cases List.all nds _<;>rfl
      ·simp only[go1];cases hr:nds.all (y0u ens)with
       |false=>rfl
       |true=>
        simp only[go1,x1l];refine(z5x (L:=[.bool (!nds.all y6l || !decide (nds.map (·.n)).Nodup), .sl 2 (x0j ens), .sl 5 (x1x nds), .sl 1 (x0b (nds.map (·.n)))]) ?_).trans ?_
        ·refine x2e (r0:=Sum.inl [.bool true, .sl 2 (x0j ens), .sl 5 (x1x nds), .sl 1 (x0b (nds.map (·.n)))]) (r1:=Sum.inl [.bool (!decide (nds.map (·.n)).Nodup), .sl 2 (x0j ens), .sl 5 (x1x nds), .sl 1 (x0b (nds.map (·.n)))]) y6l nds (fun i=>[.sl 5 (x1x nds), .int .i64 (nds.length:Int), .int .i64 (i:Int), .sl 2 (x0j ens), .sl 5 (x1x nds), .sl 1 (x0b (nds.map (·.n))), .sl 2 (x0j ens), .sl 5 (x1x nds)]) rfl (fun i x hx=> ?_) (fun _=> ?_) ?_
         ·have hlt:=(a0c.1 hx).1;have c1:=k1m x (h x (a0p hx)).al;simp only[go1,y7d,x1l,x0l hlt,x0k hlt,x9m hx,c1,x0e hlt (by omega),x2p (a2h i)]
          cases y6l x<;>rfl
         ·simp only[go1,x0g,hO];try rfl
         ·cases List.all nds _<;>rfl
        ·simp only[go1];cases !nds.all y6l || !decide (nds.map (·.n)).Nodup<;>rfl
end Go.Vm
end
