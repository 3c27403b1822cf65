/- Part KI of the proof. What is proved by the whole: the statement that the claim names, with no condition. -/
import Derived.Test.YtggdkkdfeblooaaGreatDoorKH
set_option linter.all false
section
set_option maxRecDepth 100000
set_option maxHeartbeats 4000000
namespace Go.Vm
open Go.Proofs
mutual
def Ex.parts:Ex->List Ex
 | .mk k n s o a u=> .mk k n s o a u::Ex.j0h u
def Ex.j0h:List Ex->List Ex
 | []=>[]
 |e::l=>e.parts++Ex.j0h l
end
mutual
def z0t: ∀e:Ex,e.parts.length=e.size
 | .mk k n s o a u=>by simp only[Ex.parts,Ex.size,a0a,y6f u]
def y6f: ∀u:List Ex,(Ex.j0h u).length=Ex.j0a u
 | []=>rfl
 |e::l=>by simp only[Ex.j0h,Ex.j0a,a0k,z0t e,y6f l]
end
mutual
def z9z: ∀e:Ex,e.parts.all x9o=x9c e
 | .mk k n s o a u=>by simp only[Ex.parts,x9c,a1r,z4x u]
def z4x: ∀u:List Ex,(Ex.j0h u).all x9o=y3d u
 | []=>rfl
 |e::l=>by simp only[Ex.j0h,y3d,List.all_append,z9z e,z4x l]
end
mutual
def z4v: ∀e:Ex,e.j0x-> ∀x∈e.parts,x.j0x/\x.size<=e.size
 | .mk k n s o a u,h,x,hx=>by
   simp only[Ex.parts]at hx;rcases a1n.1 hx with rfl|hx
   ·exact⟨h,a0q _⟩
   ·have:=z0u u h.2 x hx;exact⟨this.1,by simp only[Ex.size];omega⟩
def z0u: ∀u:List Ex,Ex.j1r u-> ∀x∈Ex.j0h u,x.j0x/\x.size<=Ex.j0a u
 | [],_,x,hx=>by cases hx
 |e::l,h,x,hx=>by
  simp only[Ex.j0h]at hx;rcases a1o.1 hx with hx|hx
  ·have:=z4v e h.1 x hx;exact⟨this.1,by simp only[Ex.j0a];omega⟩
  ·have:=z0u l h.2 x hx;exact⟨this.1,by simp only[Ex.j0a];omega⟩
end
def z4w: ∀a b:List Ex,Ex.j0h (a++b)=Ex.j0h a++Ex.j0h b
 | [],b=>rfl
 |e::a,b=>by simp only[a0f,Ex.j0h,z4w a b,List.append_assoc]
def u7q: ∀a b:List Ex,Ex.rows (a++b)=Ex.rows a++Ex.rows b
 | [],b=>rfl
 |e::a,b=>by simp only[a0f,Ex.rows,u7q a b]
def u2z: ∀(m:Nat) (k n:Int) (s:BA) (o:Int) (a:List BA) (u:List Ex),(Ex.mk k n s o a u).size<=m->m<=1000000->
  cF 117 [kE k n s o (x0b a) (Ex.rows u)]=some (.own 71 6 (Ex.rows (Ex.mk k n s o a u).parts))
 |0,k,n,s,o,a,u,h,_=>by simp only[Ex.size]at h;omega
 |m+1,k,n,s,o,a,u,h,hm=>by
  have hz:Ex.j0a u<=m:=by simp only[Ex.size]at h;omega
  have hl:=x1p u;refine cO rfl ?_;rw[(g117 ..).2];simp only[g117,go1,Nat.reduceAdd];refine x0w (fun i:Nat=>[.int .i64 (i:Int), .int .i64 k, .int .i64 n, .str s, .int .i64 o, .sl 1 (x0b a), .sl 6 (Ex.rows u), .sl 6 (Ex.rows (.mk k n s o a u::Ex.j0h (u.take i)))]) (fun i=>i<=u.length) (fun i=>u.length - i) (fun i hi=> ?_) 0 (a0w _)
  by_cases hlt:i < u.length
  ·left
   refine⟨i+1,?_,hlt,by omega⟩
   have hx:=a0b hlt;have hd:Ex.j0h (u.take (i+1))=Ex.j0h (u.take i)++u[i].parts:=by rw[a1e,hx,z4w];simp[Ex.j0h]
   have hsz:Ex.j0a (u.take i)<=Ex.j0a u:=by
    have:=x4e (u.take i) (u.drop i);rw[a1u]at this;omega
   rw[hd];generalize u[i]=e at hx;have he:=x2s hx;obtain⟨k2,n2,s2,o2,a2,u2⟩:=e;have h2:=u2z (Ex.mk k2 n2 s2 o2 a2 u2).size k2 n2 s2 o2 a2 u2 (a0q _) (by omega)
   have hf:decide (((Ex.rows (.mk k n s o a u::Ex.j0h (u.take i))).length+(Ex.rows (Ex.mk k2 n2 s2 o2 a2 u2).parts).length)*(88+1)<=140737488355328)=true:=by
    refine a0s ?_;rw[x0h,x0h,a0a,y6f,z0t];omega
   simp only[go1,Nat.reduceAdd,x0h,x0i hlt,x0g hlt,x5a hx,oE,h2,x0a hlt (by omega)]
   simp only[x0h]at hf;simp only[hf,go1,u7q,<-a0f];rfl
  ·right
   have:i=u.length:=by omega
   subst this;simp only[go1,Nat.reduceAdd,oE,x0h,x0f,a0u,Ex.parts]
 termination_by m=>m
 decreasing_by omega
def u2y (k n:Int)(s:BA)(o:Int)(a:List BA)(u:List Ex)(h:(Ex.mk k n s o a u).size<=1000000)(hf:(Ex.mk k n s o a u).j0x):cF 64 [kE k n s o (x0b a) (Ex.rows u)]=some (.val [.bool (x3c (.mk k n s o a u)&&x9c (.mk k n s o a u))]):=by
 have h1:=w1e 1000000 k n s o a u h (a0q _);have h2:=v0f 1000000 k n s o a u h (a0q _);have h3:=u2z 1000000 k n s o a u h (a0q _);have e1:decide ((60:Int) < ((Ex.mk k n s o a u).size:Int))= !decide ((Ex.mk k n s o a u).size<=60):=by rw[a1g];simp;try omega
 have e2:decide ((12:Int) < ((Ex.mk k n s o a u).depth:Int))= !decide ((Ex.mk k n s o a u).depth<=12):=by rw[a1g];simp;try omega
 refine cO rfl ?_;rw[(g64 ..).2];simp only[g64,go1,h1,h2,h3,e1,e2];rw[<-z9z];have hlen:=z0t (.mk k n s o a u);have hpf:=z4v _ hf;generalize (Ex.mk k n s o a u).parts=ps at*;have hloop: ∀b:List D->Option (List D ⊕ PRes),(∀(i:Nat) e,ps[i]? =some e->b [.sl 6 (Ex.rows ps), .int .i64 (i:Int)]=bif x9o e then some (.inl [.sl 6 (Ex.rows ps), .int .i64 ((i+1:Nat):Int)])else some (.inr (.val [.bool false])))->b [.sl 6 (Ex.rows ps), .int .i64 (ps.length:Int)]=some (.inr (.val [.bool true]))->
     x5f b [.sl 6 (Ex.rows ps), .int .i64 0]=some (.val [.bool (ps.all x9o)]):=fun b h1 h2=>
  x2k x9o ps (fun i:Nat=>[.sl 6 (Ex.rows ps), .int .i64 (i:Int)]) rfl (r0:= .val [.bool false]) (r1:= .val [.bool true]) h1 (fun _=>h2) (by cases ps.all x9o<;>rfl)
 unfold x3c;cases decide ((Ex.mk k n s o a u).size<=60)with
 |false=>rfl
 |true=>
  cases decide ((Ex.mk k n s o a u).depth<=12)with
  |false=>rfl
  |true=>
   simp only[go1,Bool.and_self];refine hloop _ (fun i e hx=> ?_) ?_
   ·have hlt:=(a0c.1 hx).1;have hm:=hpf e (a0j hx);obtain⟨k2,n2,s2,o2,a2,u2⟩:=e;obtain⟨⟨⟨f1,f2,f3⟩,f4⟩,f5⟩:=hm;have hc:=w6r k2 n2 s2 o2 a2 u2 f1 f2 f3 (by simp only[Ex.size]at f5 h;omega)
    simp only[go1,x0h,x0i hlt,x0g hlt,x5a hx,oE,hc];cases x9o (.mk k2 n2 s2 o2 a2 u2)with
    |true=>simp only[go1,x0a hlt (by omega)];rfl
    |false=>rfl
   ·simp only[go1,x0h,x0f]
def z8c (a:List BA)(ha:a.length<=1000000):cF 31 [.d (.sl 1 (x0b a)), .d (.sl 1 (x0b a))]=some (.val [.bool true]):=by
 refine cO rfl ?_;rw[(g31 ..).2];simp only[g31,go1,x0e];refine x0w (fun i:Nat=>[.sl 1 (x0b a), .sl 1 (x0b a), .int .i64 (i:Int)]) (fun i=>i<=a.length) (fun i=>a.length - i) (fun i hi=> ?_) 0 (a0w _)
 by_cases hlt:i < a.length
 ·left
  refine⟨i+1,?_,hlt,by omega⟩
  have hx:=a0b hlt;simp only[go1,x0e,x0i hlt,x0g hlt,x1c hx,x1v,x0a hlt (by omega)]
  rfl
 ·right
  have:i=a.length:=by omega
  subst this;simp only[go1,x0e,x0f]
def v0e: ∀(m:Nat) (k n:Int) (s:BA) (o:Int) (a:List BA) (u:List Ex),(Ex.mk k n s o a u).size<=m->m<=1000000->(Ex.mk k n s o a u).j0x->
  cF 33 [kE k n s o (x0b a) (Ex.rows u),kE k n s o (x0b a) (Ex.rows u)]=some (.val [.bool true])
 |0,k,n,s,o,a,u,h,_,_=>by simp only[Ex.size]at h;omega
 |m+1,k,n,s,o,a,u,h,hm,hf=>by
  have hz:Ex.j0a u<=m:=by simp only[Ex.size]at h;omega
  have hl:=x1p u;obtain⟨⟨f1,f2,f3⟩,f4⟩:=hf;have h1:=z8c a f3;refine cO rfl ?_;rw[(g33 ..).2];simp only[g33,go1,x0h,x1v,h1];refine x0w (fun i:Nat=>[.int .i64 (i:Int), .int .i64 k, .int .i64 n, .str s, .int .i64 o, .sl 1 (x0b a), .sl 6 (Ex.rows u), .int .i64 k, .int .i64 n, .str s, .int .i64 o, .sl 1 (x0b a), .sl 6 (Ex.rows u)]) (fun i=>i<=u.length) (fun i=>u.length - i) (fun i hi=> ?_) 0 (a0w _)
  by_cases hlt:i < u.length
  ·left
   refine⟨i+1,?_,hlt,by omega⟩
   have hx:=a0b hlt;generalize u[i]=e at hx;have he:=x2s hx;have hfe:=y9k hx f4;obtain⟨k2,n2,s2,o2,a2,u2⟩:=e;have h2:=v0e (Ex.mk k2 n2 s2 o2 a2 u2).size k2 n2 s2 o2 a2 u2 (a0q _) (by omega) hfe
   simp only[go1,Nat.reduceAdd,x0h,x0i hlt,x0g hlt,x5a hx,oE,h2,x0a hlt (by omega)]
   rfl
  ·right
   have:i=u.length:=by omega
   subst this;simp only[go1,Nat.reduceAdd,oE,x0h,x0f]
 termination_by m=>m
 decreasing_by omega

def z4o {p:Nat->Bool}{c:Nat}{r:List Nat}(h:p c=true):x2y p (c::r)=1+x2y p r:=by
 unfold x2y;rw[List.takeWhile_cons,if_pos h,a0a];omega
def v1k {p:Nat->Bool}{c:Nat}{r:List Nat}(h:p c=false):x2y p (c::r)=0:=by
 unfold x2y;rw[List.takeWhile_cons,h];rfl
def z5l (s:BA)(a b:Nat):(s.extract a b).size<=s.size:=by
 rw[ByteArray.size_extract];omega
def w4r (s:BA):(x0z s).s.size<=s.size:=by
 have h0:(bs []).size<=s.size:=a0w _;unfold x0z;simp only;split
 ·unfold y0h;simp only;split<;>exact z5l _ _ _
 ·exact z5l _ _ _
 ·unfold y2y;split
  ·exact h0
  ·exact z5l _ _ _
 ·unfold y0s;split
  ·exact z5l _ _ _
  ·exact z5l _ _ _
  ·exact h0
def w4t (s:BA)(h:(x0z s).k=5):(x0z s).s.size<=2:=by
 unfold x0z at h ⊢;simp only at h ⊢;split at h
 ·rename_i hc;unfold y0h at h;simp only at h;split at h<;>cases h
 ·cases h
 ·unfold y2y at h;split at h<;>cases h
 ·rename_i h1 h2 h3;unfold y0s at h ⊢;split
  ·show(s.extract 0 2).size<=2;rw[ByteArray.size_extract];omega
  ·show(s.extract 0 1).size<=2;rw[ByteArray.size_extract];omega
  ·rename_i h4 h5;rw[h4,h5]at h;cases h
def y9b (s:BA): ∀(m a:Nat),(tb s).length - a<=m->(∀t∈(y2z s a).1,t.s.size<=s.size/\(t.k=5->t.s.size<=2))/\(y2z s a).1.length<=(tb s).length - a
 |m,a,hm=>by
  rw[y2z];split
  ·rename_i hp;split
   ·rename_i h;have ih:=y9b s (m - 1) (a+x7n ((tb s).drop a)+(x0z (s.extract (a+x7n ((tb s).drop a)) (tb s).length)).w) (by omega)
    refine⟨fun t ht=> ?_,?_⟩
    ·rcases a1n.1 ht with rfl|ht
     ·exact⟨a1b (w4r _) (z5l _ _ _),fun h5=>w4t _ h5⟩
     ·exact ih.1 t ht
    ·simp only[a0a];omega
   ·exact⟨(by simp),a0w _⟩
  ·exact⟨(by simp),a0w _⟩
 termination_by m a=>(tb s).length - a
 decreasing_by omega
def x7s (s:BA):List Tk:=(y2z s 0).1++[q8u s]
def w3l {s:BA}(hs:s.size<=100000){t:Tk}(h:t∈x7s s):t.s.size<=100000/\(t.k=5->t.s.size<=2):=by
 rcases a1o.1 h with h|h
 ·have:=(y9b s _ 0 (a0q _)).1 t h;exact⟨by omega,this.2⟩
 ·rw[a1h.1 h];exact⟨x3v,fun h=>by cases h⟩
def z6f {l:List Tk}{Q:Tk->Prop}(h0:Q ⟨6,bs [],0,0⟩)(h: ∀t∈l,Q t)(j:Nat):Q (tkA l j):=by
 unfold tkA;rw[a0i];cases hx:l[j]? with
 |none=>exact h0
 |some t=>exact h t (a0j hx)
def TS_of {l:List Tk}(h: ∀t∈l,t.s.size<=100000):TS l:=fun j=>z6f (Q:=fun t=>t.s.size<=100000) (by decide) h j
def w7p (s:BA)(hs:s.size<=100000):LOK (x7s s):=by
 have h:=(y9b s _ 0 (a0q _)).2;have h2:(tb s).length<=100000:=by rw[x2m];exact hs
 refine⟨by simp[x7s],?_,?_⟩
 ·simp[tkA,x7s,q8u]
 ·simp only[x7s,a0k,a0a,a0d];omega
def v1w (l:List Tk)(i:Int):Bool:=decide (0<=i)&&(decide (i < (l.length:Int))&&decide ((tkA l (l.length - 1)).k=6))
def q3z {l:List Tk}(h:0 < l.length)(hl:l.length<=1000000):IntKind.i64.wrap ((l.length:Int) - 1)=((l.length - 1:Nat):Int):=by
 rw[x0v (by omega) (by omega)];omega
def u3a (l:List Tk)(i:Int)(hl:l.length<=1000000):cF 216 [.d (.sl 4 (x0n l)), .d (.int .i64 i)]=some (.val [.bool (v1w l i)]):=by
 refine cO rfl ?_;rw[(g216 ..).2];simp only[g216,go1,x7r];unfold v1w;cases h0:decide (0<=i)with
 |false=>rfl
 |true=>
  cases h1:decide (i < (l.length:Int))with
  |false=>rfl
  |true=>
   have h0:=a0e h0;have h1:=a0e h1;have hpos:0 < l.length:=by omega
   have hlt:l.length - 1 < l.length:=by omega
   have q1:=y8i hlt;have q2:=y1w hlt;rw[x7r]at q1;simp only[go1,q3z hpos hl,q1,q2,x8q]
def encP:Ex × Int × Int->PRes
 |(.mk k n s o a u,p,r)=> .val [.int .i64 k, .int .i64 n, .str s, .int .i64 o, .sl 1 (x0b a), .sl 6 (Ex.rows u), .int .i64 p, .int .i64 r]
def v7l (l:List Tk)(i:Nat):Ex × Int × Int:=match y4j l i with
 | .out=>(e0,(i:Int),1)
 | .bad j=>(e0,(j:Int),2)
 | .ok e j=>bif !x3c e then(e0,(i:Int),3)else bif !x9c e then(e0,(i:Int),1)else(e,(j:Int),0)
def v6a (e:Ex):(decide ((12:Int) < (e.depth:Int)) || decide ((60:Int) < (e.size:Int)))= !x3c e:=by
 unfold x3c;rw[nlt,nlt];have e1:decide ((e.depth:Int)<=12)=decide (e.depth<=12):=by rw[a1g];simp;try omega
 have e2:decide ((e.size:Int)<=60)=decide (e.size<=60):=by rw[a1g];simp;try omega
 rw[e1,e2];cases decide (e.depth<=12)<;>cases decide (e.size<=60)<;>rfl
def q6e {l:List Tk}(hl:LOK l)(i:Nat)(hi:i < l.length):cF 217 [.d (.sl 4 (x0n l)), .d (.int .i64 (i:Int))]=some (match y4j l i with
  | .ok (.mk k n s o a u) j=> .val [.int .i64 k, .int .i64 n, .str s, .int .i64 o, .sl 1 (x0b a), .sl 6 (Ex.rows u), .int .i64 (j:Int), .bool true]
  | .bad j=> .val [.int .i64 0, .int .i64 0, .str (bs []), .int .i64 0, .sl 1 [], .sl 6 [], .int .i64 (j:Int), .bool false]
  | .out=> .val []):=by
 have h:=w6u hl i hi;have hne:=z6q hl i hi;refine cO rfl ?_;rw[(g217 ..).2];simp only[g217,go1,h];cases hR:y4j l i with
 |out=>exact(hne hR).elim
 |bad j=>rfl
 |ok e j=>obtain⟨k,n,s,o,a,u⟩:=e;rfl
def q6i {l:List Tk}(hl:LOK l)(ht:TS l)(i:Nat)(hi:i < l.length):cF 177 [.d (.sl 4 (x0n l)), .d (.int .i64 (i:Int))]=some (encP (v7l l i)):=by
 have hf:=hl.few;have h1:=u3a l (i:Int) hf;have h0:v1w l (i:Int)=true:=by
  unfold v1w;rw[x1y (by omega),x1y (by omega),hl.last];rfl
 rw[h0]at h1;have h2:=q6e hl i hi;have hne:=z6q hl i hi;unfold v7l;refine cO rfl ?_;rw[(g177 ..).2];simp only[g177,go1,h1,h2];cases hR:y4j l i with
 |out=>exact(hne hR).elim
 |bad j=>rfl
 |ok e j=>
  have hz:=z6p ht hR;have hj:=((y3i hl (fuel l)).pos .arrow i e j hi hR).2;have hff:=z7a e hz.2 (by omega)
  have hsm:=v6a e;obtain⟨k,n,s,o,a,u⟩:=e;have k1:=z8g 1000000 k n s o a u (by omega) (a0q _)
  have k2:=w1j k n s o a u (by omega)
  have k3:=z8f k n s o a u (by omega) hff
  simp only[go1,oE,k1,k2,k3];cases g1:decide ((12:Int) < ((Ex.mk k n s o a u).depth:Int))with
  |true=>
   rw[g1,a1t]at hsm;simp only[go1,<-hsm];rfl
  |false=>
   cases g2:decide ((60:Int) < ((Ex.mk k n s o a u).size:Int))with
   |true=>
    rw[g1,g2,a1d]at hsm;simp only[go1,<-hsm];rfl
   |false=>
    rw[g1,g2,a1d]at hsm;have hsm2:x3c (.mk k n s o a u)=true:=by cases h:x3c (.mk k n s o a u)with
     |true=>rfl
     |false=>rw[h]at hsm;cases hsm
    simp only[go1,hsm2];cases x9c (.mk k n s o a u)<;>(simp only[go1];rfl)
def k8c:BA × BA × Int × Bool->PRes
 |(a,b,p,ok)=> .val [.str a, .str b, .int .i64 p, .bool ok]
def v0z (l:List Tk)(i:Nat):BA × BA × Int × Bool:=match x7e l i with
 | .ok w j=>(w.1,w.2,(j:Int),true)
 | .bad j=>(bs [],bs [],(j:Int),false)
 | .out=>(bs [],bs [],0,false)
def q6f {l:List Tk}(hl:LOK l)(i:Nat)(hi:i < l.length):cF 250 [.d (.sl 4 (x0n l)), .d (.int .i64 (i:Int))]=some (k8c (v0z l i)):=by
 have h:=w1g l hl i hi;unfold v0z;refine cO rfl ?_;rw[(g250 ..).2];simp only[g250,go1,h];cases hR:x7e l i with
 |out=>exact(z5z hl (y3i hl 0) i hR).elim
 |bad j=>rfl
 |ok e j=>rfl
def q6h {l:List Tk}(hl:LOK l)(i:Nat)(hi:i < l.length):cF 215 [.d (.sl 4 (x0n l)), .d (.int .i64 (i:Int))]=some (k8c (v0z l i)):=by
 have hf:=hl.few;have h1:=u3a l (i:Int) hf;have h0:v1w l (i:Int)=true:=by
  unfold v1w;rw[x1y (by omega),x1y (by omega),hl.last];rfl
 rw[h0]at h1;have h2:=q6f hl i hi;refine cO rfl ?_;rw[(g215 ..).2];simp only[g215,go1,h1,h2];unfold v0z;cases x7e l i<;>rfl
end Go.Vm
end
section
namespace Go.Vm

end Go.Vm
end
section
set_option maxRecDepth 100000
set_option maxHeartbeats 4000000
namespace Go.Vm
open Go.Proofs
inductive Rc (α:Type) where
 |ok (a:α) (j:Nat)
 |bad (p:Nat) (c:Int)
abbrev RM (α:Type):=Nat->Rc α
def RM.bind {α β:Type}(m:RM α)(k:α->RM β):RM β:=fun i=>match m i with
 | .ok a j=>k a j
 | .bad p c=> .bad p c
def RM.ret {α:Type}(a:α):RM α:=fun i=> .ok a i
structure St where
 i:Nat
 b:Bool
 a:Int
 w:Int
structure Post {α:Type} (F:Int->St->Nat->Int->Prop) (l:List Tk) (m:RM α) (s:St) (v:α) (s':St):Prop where
 le:s.i<=s'.i
 lt:s'.i < l.length
 bad:s.b=false->s'=s
 good:s.b=true->match m s.i with
  | .ok u j=>v=u/\s'=⟨j,true,s.a,s.w⟩
  | .bad p c=>s'.b=false/\F s.a s' p c
section
variable {α β : Type} {F : Int -> St -> Nat -> Int -> Prop} {l : List Tk} {m : RM α} {k : α -> RM β} {s s1 s2 : St} {v : α} {u : β}
theorem Post.bind (h1:Post F l m s v s1)(h2:Post F l (k v) s1 u s2):Post F l (m.bind k) s u s2:=by
 refine⟨a1b h1.le h2.le,h2.lt,fun hb=> ?_,fun hb=> ?_⟩
 ·have e:=h1.bad hb;subst e;exact h2.bad hb
 ·have g:=h1.good hb;unfold RM.bind;cases hm:m s.i with
  |ok a j=>
   rw[hm]at g;obtain⟨rfl,rfl⟩:=g;exact h2.good rfl
  |bad p c=>
   rw[hm]at g;have e:=h2.bad g.1;subst e;exact g
theorem Post.ret (hs:s.i < l.length):Post F l (RM.ret v) s v s:=by
 refine⟨a0q _,hs,fun _=>rfl,fun hb=> ?_⟩
 obtain⟨i,b,a,w⟩:=s;cases hb;exact⟨rfl,rfl⟩
theorem Post.map {f:α->β}(h:Post F l m s v s1):Post F l (m.bind fun x=>RM.ret (f x)) s (f v) s1:=h.bind (Post.ret h.lt)
theorem Post.of {m':RM α}(h:Post F l m s v s1)(e:s.b=true->m' s.i=m s.i):Post F l m' s v s1:=
 ⟨h.le,h.lt,h.bad,fun hb=>by rw[e hb];exact h.good hb⟩
end
def FP (l:List Tk):Int->St->Nat->Int->Prop:=fun _ s p c=>s.a=(tkA l p).a/\s.w=c
abbrev x4t {α:Type}(l:List Tk)(m:RM α)(s:St)(v:α)(s':St):Prop:=Post (FP l) l m s v s'
def stD (l:List Tk)(en:LL)(s:St):List D:=[.sl 4 (x0n l), .int .i64 (s.i:Int), .bool s.b, .int .i64 s.a, .int .i64 s.w, .sl 2 en]
section
variable (l w a en : LL) (i x y e : Int) (s : BA) (b k : Bool)
theorem dcR:y0d (kR l i en b x y)=some (0,[.ptr 0 0],[.cells (.ty 61) [.d (.sl 4 l), .d (.int .i64 i), .own 1, .ifo 65 b [.int .i64 x, .int .i64 y]], .arr 43 2 en]):=rfl
theorem dcRS:y0d (kRS s l i en b x y)=some (0,[.ptr 0 0, .d (.str s)],[.cells (.ty 61) [.d (.sl 4 l), .d (.int .i64 i), .own 1, .ifo 65 b [.int .i64 x, .int .i64 y]], .arr 43 2 en]):=rfl
theorem dcRI:y0d (kRI e l i en b x y)=some (0,[.ptr 0 0, .d (.int .i64 e)],[.cells (.ty 61) [.d (.sl 4 l), .d (.int .i64 i), .own 1, .ifo 65 b [.int .i64 x, .int .i64 y]], .arr 43 2 en]):=rfl
theorem dcRB:y0d (kRB k l i en b x y)=some (0,[.ptr 0 0, .d (.bool k)],[.cells (.ty 61) [.d (.sl 4 l), .d (.int .i64 i), .own 1, .ifo 65 b [.int .i64 x, .int .i64 y]], .arr 43 2 en]):=rfl
theorem dcRF (p c:Int):y0d (kRF p c l i en b x y)=some (0,[.ptr 0 0, .d (.int .i64 p), .d (.int .i64 c)],[.cells (.ty 61) [.d (.sl 4 l), .d (.int .i64 i), .own 1, .ifo 65 b [.int .i64 x, .int .i64 y]], .arr 43 2 en]):=rfl
theorem dcRN:y0d (kRN w l i en b x y)=some (0,[.ptr 0 0, .own 1],[.cells (.ty 61) [.d (.sl 4 l), .d (.int .i64 i), .own 2, .ifo 65 b [.int .i64 x, .int .i64 y]], .arr 9 1 w, .arr 43 2 en]):=rfl
theorem dcQ:y0d (qR l i b en e)=some (0,[.ptr 0 0],[.cells (.ty 9900063) [.ptr 1 0, .own 2, .d (.int .i64 e)], .cells (.ty 9900061) [.d (.sl 4 l), .d (.int .i64 i), .d (.bool b)], .arr 43 2 en]):=rfl
theorem dcQB:y0d (qRB k l i b en e)=some (0,[.ptr 0 0, .d (.bool k)],[.cells (.ty 9900063) [.ptr 1 0, .own 2, .d (.int .i64 e)], .cells (.ty 9900061) [.d (.sl 4 l), .d (.int .i64 i), .d (.bool b)], .arr 43 2 en]):=rfl
end
theorem cBr (f:FuncId){k:FuncId}{pn:Nat}{xs key:List V}{hs:List Box}{p:PRes}(hn:kn k key=none)(h:fB sy eF f pn xs hs=some p)(hg:x4o Tryz.prog k=false:=by kernel_rfl)(hd:y0d key=some (pn,xs,hs):=by with_reducible first|exact dcR .. |exact dcRS .. |exact dcRI .. |exact dcRB .. |exact dcRF .. |exact dcRN .. |exact dcQ .. |exact dcQB ..)(hk:Nat.beq k (y8m f)=true:=by kernel_rfl):cF k key=some p:=q8x hg hd hk hn h
theorem q6s {ρ:Type}{f k:FuncId}{pn:Nat}{xs key:List V}{hs:List Box}{c:ρ->PRes}{Q:ρ->Prop}(hg:x4o Tryz.prog k=false)(hd:y0d key=some (pn,xs,hs))(hk:Nat.beq k (y8m f)=true)(hn:kn k key=none)(h: ∃x,fB sy eF f pn xs hs=some (c x)/\Q x): ∃x,cF k key=some (c x)/\Q x:=
 h.imp fun _ h=>⟨q8x hg hd hk hn h.1,h.2⟩
theorem cXr {ρ:Type}(f:FuncId){k:FuncId}{pn:Nat}{xs key:List V}{hs:List Box}{c:ρ->PRes}{Q:ρ->Prop}(hn:kn k key=none)(h: ∃x,fB sy eF f pn xs hs=some (c x)/\Q x)(hg:x4o Tryz.prog k=false:=by kernel_rfl)(hd:y0d key=some (pn,xs,hs):=by with_reducible first|exact dcR .. |exact dcRS .. |exact dcRI .. |exact dcRB .. |exact dcRF .. |exact dcRN .. |exact dcQ .. |exact dcQB ..)(hk:Nat.beq k (y8m f)=true:=by kernel_rfl): ∃x,cF k key=some (c x)/\Q x:=q6s hg hd hk hn h
theorem y3s {σ ρ α:Type}{b:List D->Option (List D ⊕ α)}{c:ρ->α}(mk:σ->List D)(I:σ->Prop)(μ:σ->Nat)(Q:σ->ρ->Prop)
  (h: ∀x,I x->(∃y,b (mk x)=some (.inl (mk y))/\I y/\μ y < μ x/\ ∀r,Q y r->Q x r)\/ ∃r,b (mk x)=some (.inr (c r))/\Q x r) (x:σ) (hx:I x): ∃r,x5f b (mk x)=some (c r)/\Q x r:=by
 generalize hn:μ x=n
 induction n using Nat.strongRecOn generalizing x with
 |_ n ih=>
  rcases h x hx with⟨y,h1,h2,h3,h4⟩|⟨r,h1,h2⟩
  ·obtain⟨r,h5,h6⟩:=ih (μ y) (hn▸h3) y h2 rfl;refine⟨r,?_,h4 r h6⟩;rw[x4n,h1];exact h5
  ·exact⟨r,by rw[x4n,h1],h2⟩
def tkR (l:List Tk)(x:BA):RM Bool:=fun i=>match isT l i x with
 |true=> .ok true (i+1)
 |false=> .ok false i
def q4u {α:Type}(p:Nat)(c:Int):RM α:=fun _=> .bad p c
def z6e (l:List Tk)(k:Int):RM Tk:=fun i=>match decide ((tkA l i).k=k)&& !(decide (k=1)&&x5h (tb (tkA l i).s))with
 |true=> .ok (tkA l i) (i+1)
 |false=> .bad i 2
def x6p (l:List Tk)(ws:List BA):RM Unit:=fun i=>match x2i l ws i with
 | .ok _ j=> .ok () j
 | .bad p=> .bad p 2
 | .out=> .bad 0 2
theorem y0q {α:Type}{F:Int->St->Nat->Int->Prop}{l:List Tk}{m:RM α}{s:St}{v:α}(h:s.i < l.length)(hb:s.b=false):Post F l m s v s:=
 ⟨a0q _,h,fun _=>rfl,fun h=>by rw[hb]at h;cases h⟩
section
variable {l : List Tk} (hl : LOK l) (en : LL) (s : St) (hs : s.i < l.length)
include hl hs
theorem x8d (x:BA): ∃v s',cF 1000036 (kRS x (x0n l) (s.i:Int) en s.b s.a s.w)=some (.val (.bool v::stD l en s'))/\x4t l (tkR l x) s v s'/\(v=true->s.b=true/\s'.i=s.i+1):=by
 have hf:=hl.few;have h1:=y8i hs;have h2:=y1w hs;have e0:IntKind.i64.wrap ((s.i:Int)+0)=(s.i:Int):=by rw[Int.add_zero];exact x0v (by omega) (by omega)
 have e1:IntKind.i64.wrap ((s.i:Int)+1)=((s.i+1:Nat):Int):=by rw[x0a (n:=l.length) hs (by omega)];rfl
 have e2:decide (((x0n l).length:Int)<=(s.i:Int))=false:=x1j (by rw[x7r];omega)
 obtain⟨i,b,a,w⟩:=s;simp only at hs h1 h2 e0 e1 e2;cases b with
 |false=>
  refine⟨false,⟨i,false,a,w⟩,?_,y0q hs rfl,fun h=>(by cases h)⟩
  refine cBr 36 rfl ?_;rw[(b36 ..).2];simp only[b36,stD,go1]
 |true=>
  cases hT:isT l i x with
  |true=>
   refine⟨true,⟨i+1,true,a,w⟩,?_,⟨Nat.le_succ _,hl.next hs (x1s hT),fun h=>(by cases h),fun _=> ?_⟩,fun _=>⟨rfl,rfl⟩⟩
   ·refine cBr 36 rfl ?_;rw[(b36 ..).2];simp only[b36,stD,go1,e0,e1,e2,h1,h2,x8q,x1v];rw[<-show isT l i x=(decide (tb (tkA l i).s=tb x)&&(decide ((tkA l i).k=1) || decide ((tkA l i).k=5)))from rfl,hT];rfl
   ·simp only[tkR,hT];exact⟨trivial,trivial⟩
  |false=>
   refine⟨false,⟨i,true,a,w⟩,?_,⟨a0q _,hs,fun h=>(by cases h),fun _=> ?_⟩,fun h=>(by cases h)⟩
   ·refine cBr 36 rfl ?_;rw[(b36 ..).2];simp only[b36,stD,go1,e0,e1,e2,h1,h2,x8q,x1v];rw[<-show isT l i x=(decide (tb (tkA l i).s=tb x)&&(decide ((tkA l i).k=1) || decide ((tkA l i).k=5)))from rfl,hT];rfl
   ·simp only[tkR,hT];exact⟨trivial,trivial⟩
theorem y4a (p:Nat)(hp:p < l.length)(c:Int): ∃s',cF 1000041 (kRF (p:Int) c (x0n l) (s.i:Int) en s.b s.a s.w)=some (.val (stD l en s'))/\x4t l (q4u p c) s () s'/\s'.b=false/\s'.i=s.i:=by
 have h1:=y8i hp;have h2:=y1w hp;obtain⟨i,b,a,w⟩:=s;simp only at hs;cases b with
 |false=>
  refine⟨⟨i,false,a,w⟩,?_,y0q hs rfl,rfl,rfl⟩;refine cBr 41 rfl ?_;rw[(b41 ..).2];simp only[b41,stD,go1]
 |true=>
  refine⟨⟨i,false,(tkA l p).a,c⟩,?_,⟨a0q _,hs,fun h=>(by cases h),fun _=>⟨rfl,rfl,rfl⟩⟩,rfl,rfl⟩
  refine cBr 41 rfl ?_;rw[(b41 ..).2];simp only[b41,stD,go1,h1,h2,x8q];rfl
theorem u6i (k:Nat)(hk:k < 6): ∃v s',cF 1000078 (kRI (k:Int) (x0n l) (s.i:Int) en s.b s.a s.w)=some (.val (x8q v++stD l en s'))/\x4t l (z6e l (k:Int)) s v s':=by
 have hf:=hl.few;have h1:=y8i hs;have h2:=y1w hs;have h3:=v0i (tkA l s.i).s;have e1:IntKind.i64.wrap ((s.i:Int)+1)=((s.i+1:Nat):Int):=by rw[x0a (n:=l.length) hs (by omega)];rfl
 obtain⟨s',hf1,hp1,hp2,hp3⟩:=y4a hl en s hs s.i hs 2;cases hb:s.b with
 |false=>
  rw[hb]at hf1;refine⟨⟨0,bs [],0,0⟩,s',?_,?_⟩
  ·refine cBr 78 rfl ?_;rw[(b78 ..).2];simp only[b78,oV,oT,stD,a0f,a0h,go1,h1,h2,x8q,hf1];rfl
  ·have e:=hp1.bad hb;subst e;exact y0q hs hb
 |true=>
  rw[hb]at hf1;cases hT:decide ((tkA l s.i).k=(k:Int))&& !(decide ((k:Int)=1)&&x5h (tb (tkA l s.i).s))with
  |true=>
   refine⟨tkA l s.i,⟨s.i+1,true,s.a,s.w⟩,?_,?_⟩
   ·refine cBr 78 rfl ?_;rw[(b78 ..).2];simp only[b78,oV,oT,stD,a0f,a0h,go1,h1,h2,x8q,h3,hf1,e1]
    revert hT
    cases decide ((tkA l s.i).k=(k:Int))<;>cases decide ((k:Int)=1)<;>cases x5h (tb (tkA l s.i).s)<;>intro hT<;>first|(cases hT;done)|rfl
   ·have hk6:(tkA l s.i).k≠6:=by
     simp only[a0g,a0p]at hT;omega
    refine⟨Nat.le_succ _,hl.next hs hk6,fun h=>(by rw[hb]at h;cases h),fun _=> ?_⟩
    unfold z6e;rw[hT];exact⟨rfl,rfl⟩
  |false=>
   refine⟨⟨0,bs [],0,0⟩,s',?_,?_⟩
   ·refine cBr 78 rfl ?_;rw[(b78 ..).2];simp only[b78,oV,oT,stD,a0f,a0h,go1,h1,h2,x8q,h3,hf1,e1]
    revert hT
    cases decide ((tkA l s.i).k=(k:Int))<;>cases decide ((k:Int)=1)<;>cases x5h (tb (tkA l s.i).s)<;>intro hT<;>first|(cases hT;done)|rfl|(simp only[go1,Nat.reduceAdd,Int.reduceEq,Int.reduceLT,Int.reduceLE,Int.reduceSub,Int.reduceAdd,Bool.not_true,a2i,hf1];done)
   ·refine⟨hp1.le,hp1.lt,hp1.bad,fun h=> ?_⟩
    have g:=hp1.good h;unfold z6e;rw[hT];exact g
theorem x6j (ws:List BA)(hw:ws.length<=1000): ∃s',cF 1000079 (kRN (x0b ws) (x0n l) (s.i:Int) en s.b s.a s.w)=some (.val [.sl 4 (x0n l), .int .i64 (s'.i:Int), .bool s'.b, .int .i64 s'.a, .int .i64 s'.w, .sl 1 (x0b ws), .sl 2 en])/\x4t l (x6p l ws) s () s':=by
 refine cXr 79 rfl ?_;rw[(b79 ..).2];simp only[b79,oV,oR,go1,Nat.reduceAdd];have e1:(x0b ws).length=ws.length:=x0e ws;refine y3s (σ:=Nat × St) (ρ:=St) (fun x=>[.int .i64 ((x0b ws).length:Int), .int .i64 (x.1:Int), .sl 4 (x0n l), .int .i64 (x.2.i:Int), .bool x.2.b, .int .i64 x.2.a, .int .i64 x.2.w, .sl 1 (x0b ws), .sl 2 en]) (fun x=>x.1<=ws.length/\x.2.i < l.length) (fun x=>ws.length - x.1) (fun x y=>x4t l (x6p l (ws.drop x.1)) x.2 () y) ?_ (0,s) ⟨a0w _,hs⟩
 rintro⟨k,s⟩ ⟨hk,hs⟩
 simp only at hk hs ⊢
 by_cases hlt:k < ws.length
 ·left
  have e3:sy.rown (x0b ws) k= [.str ws[k]]:=by
   show(x0b ws).getD k []=_;rw[a0i];simp[x0b,w2l,hlt]
  obtain⟨v,s1,h1,r1,_⟩:=x8d hl en s hs ws[k];have e2:x6p l (ws.drop k)=(tkR l ws[k]).bind fun v=>match v with
      |true=>x6p l (ws.drop (k+1))
      |false=>fun i=> .bad i 2:=by
   funext i;unfold x6p RM.bind tkR;rw[List.drop_eq_getElem_cons hlt,x2i];cases isT l i ws[k]<;>rfl
  cases v with
  |true=>
   refine⟨(k+1,s1),?_,⟨hlt,r1.lt⟩,by simp only;omega,fun y hy=> ?_⟩
   ·simp only[go1,stD,e1,x0i hlt,x0g hlt,a0m,e3,h1];rw[x0a hlt (by omega)];rfl
   ·rw[e2];exact r1.bind hy
  |false=>
   obtain⟨s2,h2,r2,_,_⟩:=y4a hl en s1 r1.lt s1.i r1.lt 2;refine⟨(k+1,s2),?_,⟨hlt,r2.lt⟩,by simp only;omega,fun y hy=> ?_⟩
   ·simp only[go1,stD,e1,x0i hlt,x0g hlt,a0m,e3,h1,h2];rw[x0a hlt (by omega)];rfl
   ·rw[e2];refine r1.bind ⟨a1b r2.le hy.le,hy.lt,fun hb=> ?_,fun hb=> ?_⟩
    ·have e:=r2.bad hb;subst e;exact hy.bad hb
    ·have g:=r2.good hb;have e:=hy.bad g.1;subst e;exact g
 ·right
  have:k=ws.length:=by omega
  subst this;refine⟨s,?_,?_⟩
  ·simp only[go1,e1,x0f]
  ·rw[List.drop_length];exact Post.ret hs
end
def y4s (l:List Tk)(k:Int):Nat->List BA->RM (List BA)
 |0,acc=>RM.ret acc
 |n+1,acc=>(tkR l (bs [44])).bind fun v=>match v with
  |true=>(z6e l k).bind fun t=>y4s l k n (acc++[t.s])
  |false=>RM.ret acc
def z1d (l:List Tk)(k:Int):RM (List BA):=(z6e l k).bind fun t=>y4s l k l.length [t.s]
theorem x4y (acc:List BA)(x:BA):x0b (acc++[x])=x0b acc++[[.str x]]:=by simp[x0b,w2l]
section
variable {l : List Tk} (hl : LOK l) (en : LL) (s : St) (hs : s.i < l.length)
include hl hs
theorem v0d (k:Nat)(hk:k < 6): ∃x:List BA × St,cF 1000080 (kRI (k:Int) (x0n l) (s.i:Int) en s.b s.a s.w)=some (.val (.sl 1 (x0b x.1)::stD l en x.2))/\x4t l (z1d l (k:Int)) s x.1 x.2:=by
 have hf:=hl.few;obtain⟨t,s0,h0,r0⟩:=u6i hl en s hs k hk;refine cXr 80 rfl ?_;rw[(b80 ..).2];simp only[b80,oV,oT,stD,a0f,a0h,go1,Nat.reduceAdd,h0,x8q];refine(y3s (σ:=Nat × List BA × St) (ρ:=List BA × St) (c:=fun x=>PRes.val [.sl 1 (x0b x.1), .sl 4 (x0n l), .int .i64 (x.2.i:Int), .bool x.2.b, .int .i64 x.2.a, .int .i64 x.2.w, .sl 2 en]) (fun x=>[.int .i64 (k:Int), .sl 4 (x0n l), .int .i64 (x.2.2.i:Int), .bool x.2.2.b, .int .i64 x.2.2.a, .int .i64 x.2.2.w, .sl 2 en, .sl 1 (x0b x.2.1)])
  (fun x=>l.length - x.2.2.i<=x.1/\x.2.1.length<=x.2.2.i+1/\x.2.2.i < l.length) (fun x=>x.1) (fun x y=>x4t l (y4s l k x.1 x.2.1) x.2.2 y.1 y.2) ?_ (l.length,[t.s],s0) ⟨by simp only;omega,by simp,r0.lt⟩).imp fun x h=>⟨h.1,r0.bind h.2⟩
 rintro⟨n,acc,s⟩ ⟨hn,ha,hs⟩
 simp only at hn ha hs ⊢;obtain⟨v,s1,h1,r1,hv⟩:=x8d hl en s hs (bs [44]);obtain⟨n,rfl⟩: ∃m,n=m+1:=⟨n - 1,by omega⟩
 cases v with
 |true=>
  left
  obtain⟨_,hi⟩:=hv rfl;obtain⟨t,s2,h2,r2⟩:=u6i hl en s1 r1.lt k hk;refine⟨(n,acc++[t.s],s2),?_,⟨?_,?_,r2.lt⟩,a1p _,fun y hy=>r1.bind (r2.bind hy)⟩
  ·simp only[go1,stD,a0f,a0h,h1,h2,x8q];have e:=x6e (x0b acc) [[.str t.s]] 16 (by rw[x0e];simp only[a0a,a0d];omega)
   simp only[go1,e];rw[x4y]
  ·have:=r2.le;simp only;omega
  ·have:=r2.le;simp only[a0k,a0a,a0d];omega
 |false=>
  right
  refine⟨(acc,s1),?_,r1.bind (Post.ret r1.lt)⟩;simp only[go1,stD,h1]
end
abbrev En:=BA × List BA
def v9y (e:En):List D:=[.str e.1, .sl 1 (x0b e.2)]
def x0m (l:List En):LL:=l.map v9y
theorem x1f (l:List En):(x0m l).length=l.length:=by simp[x0m]
def v2z (l:List Tk):RM En:=(z6e l 1).bind fun t=>(x6p l [bs [123]]).bind fun _=>(z1d l 2).bind fun cs=>(x6p l [bs [125],bs [59]]).bind fun _=>RM.ret (t.s,cs)
section
variable {l : List Tk} (hl : LOK l) (en : LL) (s : St) (hs : s.i < l.length)
include hl hs
theorem q5x: ∃x:En × St,cF 1000037 (kR (x0n l) (s.i:Int) en s.b s.a s.w)=some (.val (v9y x.1++stD l en x.2))/\x4t l (v2z l) s x.1 x.2:=by
 obtain⟨t,s1,h1,r1⟩:=u6i hl en s hs 1 (by omega)
 obtain⟨s2,h2,r2⟩:=x6j hl en s1 r1.lt [bs [123]] (by simp)
 obtain⟨⟨cs,s3⟩,h3,r3⟩:=v0d hl en s2 r2.lt 2 (by omega)
 simp only at h3 r3;obtain⟨s4,h4,r4⟩:=x6j hl en s3 r3.lt [bs [125],bs [59]] (by simp)
 rw[<-y1j]at h2;rw[<-k0n]at h4;refine⟨((t.s,cs),s4),?_,r1.bind (r2.bind (r3.bind (r4.bind (Post.ret r4.lt))))⟩;have h1:cF 1000078 (kRI 1 (x0n l) (s.i:Int) en s.b s.a s.w)=_:=h1;have h3:cF 1000080 (kRI 2 (x0n l) (s2.i:Int) en s2.b s2.a s2.w)=_:=h3;refine cBr 37 rfl ?_;rw[(b37 ..).2];simp only[b37,oV,oR,oT,stD,a0f,a0h,go1,Nat.reduceAdd,h1,h2,h3,h4,x8q,v9y]
end
def q8o (ens:List En)(nm:BA):Option Nat:=ens.findIdx? fun e=>decide (tb e.1=tb nm)
def u6q (ens:List En)(t:Tk):RM (Int × Int):=match q8o ens t.s with
 |some x=>RM.ret (3,(x:Int))
 |none=>fun j=> .bad (j - 1) 2
def w1x (l:List Tk)(ens:List En):RM (Int × Int):=(tkR l (bs [105,110,116])).bind fun v=>match v with
 |true=>RM.ret (1,0)
 |false=>(tkR l (bs [98,111,111,108])).bind fun v=>match v with
  |true=>RM.ret (2,0)
  |false=>(z6e l 1).bind (u6q ens)
theorem y5x {l:List Tk}{k:Int}{i j:Nat}{t:Tk}(h:z6e l k i= .ok t j):t=tkA l i/\j=i+1:=by
 unfold z6e at h;split at h
 ·cases h;exact⟨rfl,rfl⟩
 ·cases h
section
variable {l : List Tk} (hl : LOK l) (ens : List En) (hE : ens.length <= 1000000) (s : St) (hs : s.i < l.length)
include hl hs
theorem z9v {α:Type}{k:Int}{t:Tk}{s1 s2:St}{u:α}(r:x4t l (z6e l k) s t s1)(f:x4t l (q4u (α:=Unit) s.i 2) s1 () s2):x4t l (fun j=> .bad (j - 1) 2:RM α) s1 u s2:=by
 refine⟨f.le,f.lt,f.bad,fun hb=> ?_⟩
 have g:=f.good hb;have hb0:s.b=true:=by
  cases h:s.b with
  |true=>rfl
  |false=>have e:=r.bad h;rw[e,h]at hb;cases hb
 have g1:=r.good hb0;cases hm:z6e l k s.i with
 |ok a j=>
  rw[hm]at g1;obtain⟨_,e⟩:=g1;have ej:=(y5x hm).2;have:s1.i - 1=s.i:=by rw[e,ej];simp
  rw[this];exact g
 |bad p c=>
  rw[hm]at g1;rw[g1.1]at hb;cases hb
include hE
theorem q6a: ∃x:(Int × Int) × St,cF 1000214 (kR (x0n l) (s.i:Int) (x0m ens) s.b s.a s.w)=some (.val (.int .i64 x.1.1:: .int .i64 x.1.2:: .int .i64 0::stD l (x0m ens) x.2))/\x4t l (w1x l ens) s x.1 x.2:=by
 have hf:=hl.few;obtain⟨v,s1,h1,r1,_⟩:=x8d hl (x0m ens) s hs (bs [105,110,116]);cases v with
 |true=>
  refine⟨((1,0),s1),?_,r1.bind (Post.ret r1.lt)⟩;refine cBr 214 rfl ?_;rw[(q8y ..).2];simp only[q8y,oV,oT,stD,go1,Nat.reduceAdd,Int.reduceLT,h1]
 |false=>
  obtain⟨v,s2,h2,r2,_⟩:=x8d hl (x0m ens) s1 r1.lt (bs [98,111,111,108]);cases v with
  |true=>
   refine⟨((2,0),s2),?_,r1.bind (r2.bind (Post.ret r2.lt))⟩;refine cBr 214 rfl ?_;rw[(q8y ..).2];simp only[q8y,oV,oT,stD,go1,Nat.reduceAdd,Int.reduceLT,h1,h2]
  |false=>
   obtain⟨t,s3,h3,r3⟩:=u6i hl (x0m ens) s2 r2.lt 1 (by omega)
   have h3:cF 1000078 (kRI 1 (x0n l) (s2.i:Int) (x0m ens) s2.b s2.a s2.w)=_:=h3;obtain⟨s4,h4,r4,_⟩:=y4a hl (x0m ens) s3 r3.lt s2.i r2.lt 2;have hback:=z9v (u:=((0,0):Int × Int)) hl s2 r2.lt r3 r4;refine cXr 214 rfl ?_;rw[(q8y ..).2];simp only[q8y,oV,oT,stD,a0f,a0h,go1,Nat.reduceAdd,Int.reduceLT,h1,h2,h3,x8q];refine(y3s (σ:=Nat) (ρ:=(Int × Int) × St) (c:=fun x=>PRes.val [.int .i64 x.1.1, .int .i64 x.1.2, .int .i64 0, .sl 4 (x0n l), .int .i64 (x.2.i:Int), .bool x.2.b, .int .i64 x.2.a, .int .i64 x.2.w, .sl 2 (x0m ens)]) (fun k=>[.int .i64 ((x0m ens).length:Int), .int .i64 (k:Int), .sl 4 (x0n l), .int .i64 (s3.i:Int), .bool s3.b, .int .i64 s3.a, .int .i64 s3.w, .sl 2 (x0m ens), .int .i64 0, .int .i64 0, .int .i64 0, .str t.s])
    (fun k=>k<=ens.length/\ ∀(j:Nat) (h:j < ens.length),j < k->decide (tb ens[j].1=tb t.s)=false) (fun k=>ens.length - k) (fun _ y=>x4t l (u6q ens t) s3 y.1 y.2) ?_ 0 ⟨a0w _,fun j _ h=>(by omega)⟩).imp fun x h=>⟨h.1,r1.bind (r2.bind (r3.bind h.2))⟩
   rintro k ⟨hk,hi⟩
   by_cases hlt:k < ens.length
   ·have e3:sy.rown (x0m ens) k= [.str ens[k].1, .sl 1 (x0b ens[k].2)]:=by
     show(x0m ens).getD k []=_;rw[a0i];simp[x0m,v9y,hlt]
    have e4:decide ((k:Int) < 0)=false:=x1j (by omega)
    cases hp:decide (tb ens[k].1=tb t.s)with
    |true=>
     right
     refine⟨((3,(k:Int)),s3),?_,?_⟩
     ·simp only[go1,x1f,x0i hlt,x0g hlt,hlt,a0m,e3,x1v,hp,e4]
     ·have e:q8o ens t.s=some k:=List.findIdx?_eq_some_iff_getElem.2 ⟨hlt,hp,fun j hj=>by rw[hi j (by omega) hj];simp⟩
      unfold u6q;rw[e];exact Post.ret r3.lt
    |false=>
     left
     refine⟨k+1,?_,⟨hlt,fun j h hj=> ?_⟩,by omega,fun _ h=>h⟩
     ·simp only[go1,x1f,x0i hlt,x0g hlt,hlt,a0m,e3,x1v,hp];rw[x0a hlt (by omega)];rfl
     ·by_cases e:j=k
      ·subst e;exact hp
      ·exact hi j h (by omega)
   ·right
    have:k=ens.length:=by omega
    subst this;refine⟨((0,0),s4),?_,?_⟩
    ·simp only[go1,x1f,x0f,h4,stD]
    ·have e:q8o ens t.s=none:=List.findIdx?_eq_none_iff.2 fun x hx=>by
      obtain⟨j,hj,rfl⟩:=List.getElem_of_mem hx;exact hi j hj hj
     unfold u6q;rw[e];exact hback
end
def Ib (b:Nat)(l:List Tk)(i:Nat):Prop:=b<=i/\i < l.length
def Gd {α:Type}(b:Nat)(l:List Tk):Rs α->Prop
 | .out=>True
 | .ok _ j=>Ib b l j
 | .bad j=>Ib b l j
section
variable {l : List Tk} {b : Nat}
theorem x1e {α β:Type}{r:Rs α}{f:α->Nat->Rs β}(h:Gd b l r)(h2: ∀a k,Ib b l k->Gd b l (f a k)):Gd b l (r.bind f):=by
 cases r with
 |ok a k=>exact h2 a k h
 |bad k=>exact h
 |out=>trivial
theorem z2d {σ ρ:Type}{st:σ->σ ⊕ Rs ρ}(P:σ->Prop)(h: ∀x,P x->(∃y,st x= .inl y/\P y)\/ ∃r,st x= .inr r/\Gd b l r): ∀(n:Nat) (x:σ),P x->Gd b l (x2o st n x)
 |0,_,_=>trivial
 |n+1,x,hx=>by
  unfold x2o;rcases h x hx with⟨y,h1,h2⟩|⟨r,h1,h2⟩
  ·rw[h1];exact z2d P h n y h2
  ·rw[h1];exact h2
variable (hl : LOK l)
include hl
theorem nk {i:Nat}(hi:Ib b l i)(h:(tkA l i).k≠6):Ib b l (i+1):=⟨Nat.le_succ_of_le hi.1,hl.next hi.2 h⟩
theorem nx {i:Nat}{w:BA}(hi:Ib b l i)(h:isT l i w=true):Ib b l (i+1):=nk hl hi (x1s h)
theorem z2c {i:Nat}(hi:Ib b l i):Gd b l (x4x l i):=by
 cases h:x4x l i with
 |ok n j=>exact⟨by have:=x4u h;have:=hi.1;omega,x8j hl hi.2 h⟩
 |out=>trivial
 |bad j=>
  unfold x4x at h;split at h<;>cases h
  exact hi
theorem w9i {i:Nat}(hi:Ib b l i):Gd b l (z3d l i):=by
 cases h:z3d l i with
 |ok n j=>exact⟨by unfold z3d at h;split at h<;>cases h;have:=hi.1;omega,y7c hl hi.2 h⟩
 |out=>trivial
 |bad j=>
  unfold z3d at h;split at h<;>cases h
  exact hi
theorem x5s: ∀(w:List BA) {i:Nat},Ib b l i->Gd b l (x2i l w i)
 | [],i,hi=>hi
 |x::w,i,hi=>by
  unfold x2i;split
  ·rename_i h;exact x5s w (nx hl hi h)
  ·exact hi
theorem v9k {i:Nat}(hi:Ib b l i):Gd b l (x7e l i):=by
 unfold x7e;split
 ·rename_i h;exact x1e (z2c hl (nx hl hi h)) fun _ _ hk=>hk
 ·split
  ·exact x1e (z2c hl hi) fun _ _ hk=>hk
  ·exact x1e (w9i hl hi) fun _ _ hk=>x1e (x5s hl _ hk) fun _ _ hk=>x1e (z2c hl hk) fun _ _ hk=>x1e (x5s hl _ hk) fun _ _ hk=>hk
variable {n : Nat} {p : PR} (hp : ∀ nt i, Ib b l i -> Gd b l (p nt i))
include hp
theorem z7o (side:Nt)(a m:Nat){i:Nat}(hi:Ib b l i):Gd b l (x5w l n p side a m i):=by
 refine x1e (hp _ _ hi) fun e k hk=>z2d (fun x=>Ib b l x.2) (fun x hx=> ?_) n (e,k) hk
 obtain⟨e2,i2⟩:=x;rw[x6y];split
 ·exact .inr ⟨_,rfl,hx⟩
 ·rename_i o ho;have h3:=hp side (i2+1) (nk hl hx (x4m ho).1);split
  ·rename_i hq;rw[hq]at h3;exact .inl ⟨_,rfl,h3⟩
  ·rename_i hq;rw[hq]at h3;exact .inr ⟨_,rfl,h3⟩
  ·exact .inr ⟨_,rfl,trivial⟩
theorem v9l (en:BA){i:Nat}(hi:Ib b l i):Gd b l (y3t l n p en i):=by
 refine x1e (hp _ _ hi) fun e k hk=>z2d (fun x=>Ib b l x.2) (fun x hx=> ?_) n ([e],k) hk
 obtain⟨e2,i2⟩:=x;rw[y0v];split
 ·rename_i ht;have h3:=hp .arrow (i2+1) (nx hl hx ht);split
  ·rename_i hq;rw[hq]at h3;exact .inl ⟨_,rfl,h3⟩
  ·rename_i hq;rw[hq]at h3;exact .inr ⟨_,rfl,h3⟩
  ·exact .inr ⟨_,rfl,trivial⟩
 ·exact .inr ⟨_,rfl,x1e (x5s hl _ hx) fun _ _ hk=>hk⟩
theorem q4o {i:Nat}(hi:Ib b l i):Gd b l (y1k l n p i):=by
 refine x1e (hp _ _ hi) fun e k hk=>z2d (fun x=>Ib b l x.2) (fun x hx=> ?_) n (e,k) hk
 obtain⟨e2,i2⟩:=x;rw[x9n];split
 ·rename_i ht;have h3:Gd b l (((p .arrow (i2+1)).bind fun a j=>(x2i l [bs [93]] j).bind fun _ j=> .ok a j:Rs Ex)):=x1e (hp .arrow _ (nx hl hx ht)) fun _ _ hk=>x1e (x5s hl _ hk) fun _ _ hk=>hk
  split
  ·rename_i hq;rw[hq]at h3;exact .inl ⟨_,rfl,h3⟩
  ·rename_i hq;rw[hq]at h3;exact .inr ⟨_,rfl,h3⟩
  ·exact .inr ⟨_,rfl,trivial⟩
 ·split
  ·rename_i ht;have h3:=v9k hl (nx hl hx ht);split
   ·rename_i hq;rw[hq]at h3;exact .inl ⟨_,rfl,h3⟩
   ·rename_i hq;rw[hq]at h3;exact .inr ⟨_,rfl,h3⟩
   ·exact .inr ⟨_,rfl,trivial⟩
  ·exact .inr ⟨_,rfl,hx⟩
theorem u9h (nm:BA)(es:List Ex){i:Nat}(hi:Ib b l i):Gd b l (y1n l p nm es i):=by
 unfold y1n;split
 ·rename_i ht;exact x1e (hp _ _ (nx hl hi ht)) fun _ _ hk=>hk
 ·exact hi
theorem w5m {i:Nat}(hi:Ib b l i):Gd b l (x9v l n p i):=by
 refine x1e (z2c hl hi) fun _ _ hk=>x1e (x5s hl _ hk) fun _ _ hk=>x1e (z2d (fun x=>Ib b l x.2.2.1) (fun x hx=> ?_) n _ hk) fun _ _ hk=>hk
 obtain⟨ar,es,i2,b⟩:=x;cases b with
 |false=>exact .inr ⟨_,rfl,hx⟩
 |true=>
  rw[x4q];have h3:Gd b l ((z3d l i2).bind fun a j=>(x2i l [bs [45,62]] j).bind fun _ j=>(p .arrow j).bind fun e j=>(x2i l [bs [41]] j).bind fun _ j=> .ok (a,e) j:Rs (BA × Ex)):=x1e (w9i hl hx) fun _ _ hk=>x1e (x5s hl _ hk) fun _ _ hk=>x1e (hp _ _ hk) fun _ _ hk=>x1e (x5s hl _ hk) fun _ _ hk=>hk
  split
  ·rename_i hq;rw[hq]at h3;split
   ·rename_i ht;exact .inl ⟨_,rfl,nx hl h3 ht⟩
   ·exact .inl ⟨_,rfl,h3⟩
  ·rename_i hq;rw[hq]at h3;exact .inr ⟨_,rfl,h3⟩
  ·exact .inr ⟨_,rfl,trivial⟩
theorem q4m {i:Nat}(hi:Ib b l i):Gd b l (x7q l n p i):=by
 unfold x7q;split
 ·rename_i ht;exact nx hl hi ht
 split
 ·rename_i ht;exact nx hl hi ht
 split
 ·rename_i ht;exact x1e (v9l hl hp _ (nx hl hi ht)) fun _ _ hk=>hk
 split
 ·rename_i ht;unfold x8i;refine x1e (hp _ _ (nx hl hi ht)) fun _ j hk=> ?_
  split
  ·rename_i ht;exact x1e (x5s hl _ (nx hl hk ht)) fun _ _ hk=>x1e (hp _ _ hk) fun _ _ hk=>x1e (x5s hl _ hk) fun _ _ hk=>x1e (hp _ _ hk) fun _ _ hk=>x1e (x5s hl _ hk) fun _ _ hk=>hk
  ·exact x1e (x5s hl _ hk) fun _ _ hk=>hk
 split
 ·rename_i ht;exact w5m hl hp (nx hl hi ht)
 split
 ·rename_i ht;exact x1e (hp _ _ (nx hl hi ht)) fun _ _ hk=>x1e (x5s hl _ hk) fun _ _ hk=>x1e (hp _ _ hk) fun _ _ hk=>x1e (x5s hl _ hk) fun _ _ hk=>x1e (hp _ _ hk) fun _ _ hk=>hk
 ·refine x1e (z2c hl hi) fun _ j hk=> ?_
  split
  ·rename_i ht;have hj:=nx hl hk ht;unfold y3z;split
   ·rename_i ht;exact u9h hl hp _ _ (nx hl hj ht)
   ·exact x1e (v9l hl hp _ hj) fun _ _ hk=>u9h hl hp _ _ hk
  ·exact hk
theorem q4n (nt:Nt){i:Nat}(hi:Ib b l i):Gd b l (ntS l n p nt i):=by
 cases nt with
 |or=>exact z7o hl hp _ _ _ hi
 |and=>exact z7o hl hp _ _ _ hi
 |sum=>exact z7o hl hp _ _ _ hi
 |prod=>exact z7o hl hp _ _ _ hi
 |post=>exact q4o hl hp hi
 |arrow=>
  refine x1e (hp _ _ hi) fun _ j hk=> ?_
  split
  ·rename_i ht;exact x1e (hp _ _ (nx hl hk ht)) fun _ _ hk=>hk
  ·exact hk
 |fby=>
  refine x1e (hp _ _ hi) fun _ j hk=> ?_
  split
  ·rename_i ht;exact x1e (hp _ _ (nx hl hk ht)) fun _ _ hk=>hk
  ·exact hk
 |cmp=>
  refine x1e (hp _ _ hi) fun _ j hk=> ?_
  split
  ·exact hk
  ·rename_i o ho;exact x1e (hp _ _ (nk hl hk (x4m ho).1)) fun _ _ hk=>hk
 |un=>
  show Gd b l (unS l p i);unfold unS;split
  ·rename_i ht;exact x1e (hp _ _ (nx hl hi ht)) fun _ _ hk=>hk
  split
  ·rename_i ht;exact x1e (hp _ _ (nx hl hi ht)) fun _ _ hk=>hk
  split
  ·rename_i ht;exact x1e (hp _ _ (nx hl hi ht)) fun _ _ hk=>hk
  ·exact hp _ _ hi
 |atom=>
  show Gd b l (x8e l n p i);have ne: ∀k:Int,decide ((tkA l i).k=k)=true->k≠6->Ib b l (i+1):=fun k h hk=>nk hl hi (by rw[a0e h];exact hk)
  unfold x8e;split
  ·rename_i ht;exact ne _ ht (by decide)
  split
  ·rename_i ht;exact ne _ ht (by decide)
  split
  ·rename_i ht;exact ne _ ht (by decide)
  ·exact q4m hl hp hi
end
theorem w9h {l:List Tk}{b:Nat}(hl:LOK l): ∀(n:Nat) (nt:Nt) (i:Nat),Ib b l i->Gd b l (prs l n nt i)
 |0,_,_,_=>trivial
 |n+1,nt,i,hi=>q4n hl (w9h hl n) nt hi
theorem u7z {l:List Tk}(hl:LOK l){i:Nat}(hi:i < l.length){j:Nat}(h:y4j l i= .bad j):i<=j/\j < l.length:=by
 have:=w9h (b:=i) hl (fuel l) .arrow i ⟨a0q _,hi⟩;unfold y4j at h;rw[h]at this;exact this
section
variable {α : Type}
theorem hC {f:FuncId}{k:List V}{p:PRes}(h:cF f k=some p)(K:PRes->Option α):(eF.call f k).bind K=K p:=by rw[show eF.call f k=cF f k from rfl,h];rfl
theorem hB0 (v:Bool)(r:List D)(K:Bool->Option α):(opB (sy.cell (PRes.val (.bool v::r)).leaves 0)).bind K=K v:=rfl
theorem hI0 (v:Int)(r:List D)(K:Int->Option α):(opI (sy.cell (PRes.val (.int .i64 v::r)).leaves 0) .i64).bind K=K v:=rfl
theorem hI1 (d:D)(v:Int)(r:List D)(K:Int->Option α):(opI (sy.cell (PRes.val (d:: .int .i64 v::r)).leaves 1) .i64).bind K=K v:=rfl
theorem hI2 (d e:D)(v:Int)(r:List D)(K:Int->Option α):(opI (sy.cell (PRes.val (d::e:: .int .i64 v::r)).leaves 2) .i64).bind K=K v:=rfl
theorem hI3 (d e f:D)(v:Int)(r:List D)(K:Int->Option α):(opI (sy.cell (PRes.val (d::e::f:: .int .i64 v::r)).leaves 3) .i64).bind K=K v:=rfl
theorem hI4 (d e f g:D)(v:Int)(r:List D)(K:Int->Option α):(opI (sy.cell (PRes.val (d::e::f::g:: .int .i64 v::r)).leaves 4) .i64).bind K=K v:=rfl
theorem hL0 (k:Nat)(v:LL)(r:List D)(K:LL->Option α):(opL (sy.cell (PRes.val (.sl k v::r)).leaves 0) k).bind K=K v:=by
 show(opL (some (.sl k v)) k).bind K=K v;unfold opL;simp
theorem hS0 (v:BA)(r:List D)(K:BA->Option α):(opS (sy.cell (PRes.val (.str v::r)).leaves 0)).bind K=K v:=rfl
theorem hS1 (d:D)(v:BA)(r:List D)(K:BA->Option α):(opS (sy.cell (PRes.val (d:: .str v::r)).leaves 1)).bind K=K v:=rfl
variable (l : List Tk) (en : LL) (s : St) (K : LL -> Int -> Bool -> Int -> Int -> LL -> Option α)
theorem hV0:oV sy (PRes.val (stD l en s)).leaves 0 K=K (x0n l) (s.i:Int) s.b s.a s.w en:=rfl
theorem hV1 (d:D):oV sy (PRes.val (d::stD l en s)).leaves 1 K=K (x0n l) (s.i:Int) s.b s.a s.w en:=rfl
theorem hV2 (d e:D):oV sy (PRes.val (d::e::stD l en s)).leaves 2 K=K (x0n l) (s.i:Int) s.b s.a s.w en:=rfl
theorem hV3 (d e f:D):oV sy (PRes.val (d::e::f::stD l en s)).leaves 3 K=K (x0n l) (s.i:Int) s.b s.a s.w en:=rfl
theorem hV4 (t:Tk):oV sy (PRes.val (x8q t++stD l en s)).leaves 4 K=K (x0n l) (s.i:Int) s.b s.a s.w en:=rfl
theorem hT4 (t:Tk)(r:List D)(K:Int->BA->Int->Int->Option α):oT sy (PRes.val (x8q t++r)).leaves 0 K=K t.k t.s t.n t.a:=rfl
theorem hN0 (a b:LL)(i x y:Int)(q:Bool)(r:List D)(K:LL->Int->Bool->Option α):oR sy (PRes.val (.sl 4 a:: .int .i64 i:: .bool q::r)).leaves 0 K=K a i q:=rfl
theorem hN5 (d e f g h:D)(k:Nat)(v:LL)(r:List D)(K:LL->Option α):(opL (sy.cell (PRes.val (d::e::f::g::h:: .sl k v::r)).leaves 5) k).bind K=K v:=by
 show(opL (some (.sl k v)) k).bind K=K v;unfold opL;simp
theorem hN6 (d e f g h i:D)(k:Nat)(v:LL)(r:List D)(K:LL->Option α):(opL (sy.cell (PRes.val (d::e::f::g::h::i:: .sl k v::r)).leaves 6) k).bind K=K v:=by
 show(opL (some (.sl k v)) k).bind K=K v;unfold opL;simp
theorem hNt {β:Type}(a b:β):cond (sy.bnot true) a b=b:=rfl
theorem hNf {β:Type}(a b:β):cond (sy.bnot false) a b=a:=rfl
theorem hCt {β:Type}(a b:β):cond true a b=a:=rfl
theorem hCf {β:Type}(a b:β):cond false a b=b:=rfl
theorem hXt {β:Type}{c:Bool}(h:c=true)(a b:β):cond c a b=a:=by rw[h];rfl
theorem hXf {β:Type}{c:Bool}(h:c=false)(a b:β):cond c a b=b:=by rw[h];rfl
theorem hKt {ρ:Type}(c a b:Bool)(K:List D->Option ρ):v3e (cond c (some (.inl [.bool a])) (some (.inl [.bool b]))) K=K [.bool (cond c a b)]:=by cases c<;>rfl
theorem hB (v:Bool)(K:Bool->Option α):(opB (sy.cell [.bool v] 0)).bind K=K v:=rfl
end
def tyR (l:List Tk)(ens:List En):RM (Int × Int × Int):=(w1x l ens).bind fun b=>(tkR l (bs [91])).bind fun v=>match v with
 |false=>RM.ret (b.1,b.2,0)
 |true=>(z6e l 3).bind fun t=>match decide (t.n < 1) || decide (8 < t.n)with
  |true=>fun j=> .bad (j - 1) 2
  |false=>(x6p l [bs [93]]).bind fun _=>RM.ret (b.1,b.2,t.n)
def z6b (l:List Tk):RM (BA × BA):=fun i=>match x7e l i with
 | .ok w j=> .ok w j
 | .bad j=> .bad j 2
 | .out=> .bad 0 2
structure Dc where
 n:BA
 k:Int
 e:Int
 c:Int
 o:BA
 q:BA
def y1h (d:Dc):List D:=[.str d.n, .int .i64 d.k, .int .i64 d.e, .int .i64 d.c, .str d.o, .str d.q]
def x0j (l:List Dc):LL:=l.map y1h
theorem x0k (l:List Dc):(x0j l).length=l.length:=by simp[x0j]
theorem v3a (l:List Dc)(d:Dc):x0j (l++[d])=x0j l++[y1h d]:=by simp[x0j]
def v3d (l:List Tk)(ens:List En):RM Dc:=(z6e l 1).bind fun t=>(x6p l [bs [58]]).bind fun _=>(tyR l ens).bind fun y=>(tkR l (bs [119,104,101,110])).bind fun v=>match v with
 |true=>(z6b l).bind fun w=>RM.ret ⟨t.s,y.1,y.2.1,y.2.2,w.1,w.2⟩
 |false=>RM.ret ⟨t.s,y.1,y.2.1,y.2.2,bs [],bs []⟩
section
variable {l : List Tk} (hl : LOK l) (ens : List En) (hE : ens.length <= 1000000) (s : St) (hs : s.i < l.length)
include hl hs
theorem q5s (hb:s.b=true)(en:LL): ∃x:(BA × BA) × St,cF 1000176 (kR (x0n l) (s.i:Int) en s.b s.a s.w)=some (.val (.str x.1.1:: .str x.1.2::stD l en x.2))/\x4t l (z6b l) s x.1 x.2:=by
 have h1:=q6h hl s.i hs;cases hR:x7e l s.i with
 |out=>exact(z5z hl (y3i hl 0) s.i hR).elim
 |bad j=>
  have hg:=v9k (b:=s.i) hl ⟨a0q _,hs⟩;rw[hR]at hg;have hj:j < l.length:=hg.2;obtain⟨s1,h2,r2,_⟩:=y4a hl en s hs j hj 2;refine⟨((bs [],bs []),s1),?_,⟨r2.le,r2.lt,r2.bad,fun h=> ?_⟩⟩
  ·unfold v0z at h1;rw[hR]at h1;simp only[k8c]at h1;refine cBr 176 rfl ?_;rw[(k8g ..).2];simp only[k8g,oV,stD,go1,h1,h2]
  ·have g:=r2.good h;unfold z6b;rw[hR];exact g
 |ok w j=>
  refine⟨(w,⟨j,true,s.a,s.w⟩),?_,⟨z6a hl (y3i hl 0) hR,y8q hl hs hR,fun h=>(by rw[hb]at h;cases h),fun h=> ?_⟩⟩
  ·unfold v0z at h1;rw[hR]at h1;simp only[k8c]at h1;refine cBr 176 rfl ?_;rw[(k8g ..).2];simp only[k8g,oV,stD,go1,h1];rw[hb]
  ·unfold z6b;rw[hR];exact⟨rfl,rfl⟩
include hE
theorem c_rty: ∃x:(Int × Int × Int) × St,cF 1000175 (kR (x0n l) (s.i:Int) (x0m ens) s.b s.a s.w)=some (.val (.int .i64 x.1.1:: .int .i64 x.1.2.1:: .int .i64 x.1.2.2::stD l (x0m ens) x.2))/\x4t l (tyR l ens) s x.1 x.2:=by
 obtain⟨⟨b,s1⟩,h1,r1⟩:=q6a hl ens hE s hs;simp only at h1 r1;obtain⟨v,s2,h2,r2,_⟩:=x8d hl (x0m ens) s1 r1.lt (bs [91]);cases v with
 |false=>
  refine⟨((b.1,b.2,0),s2),?_,r1.bind (r2.bind (Post.ret r2.lt))⟩;refine cBr 175 rfl ?_;rw[(q8z ..).2];simp only[q8z];simp only[↓hB0, ↓hI0, ↓hI1, ↓hI2, ↓hV1, ↓hV3, ↓hNf, ↓hC h1, ↓hC h2];rfl
 |true=>
  obtain⟨t,s3,h3,r3⟩:=u6i hl (x0m ens) s2 r2.lt 3 (by omega)
  have h3:cF 1000078 (kRI 3 (x0n l) (s2.i:Int) (x0m ens) s2.b s2.a s2.w)=_:=h3;obtain⟨s4,h4,r4,_⟩:=y4a hl (x0m ens) s3 r3.lt s2.i r2.lt 2;have hback:=z9v (u:=((b.1,b.2,0):Int × Int × Int)) hl s2 r2.lt r3 r4;obtain⟨s5,h5,r5⟩:=x6j hl (x0m ens) s3 r3.lt [bs [93]] (by simp)
  rw[<-y1j]at h5;cases hc:decide (t.n < 1) || decide (8 < t.n)with
  |true=>
   refine⟨((b.1,b.2,0),s4),?_,r1.bind (r2.bind (r3.bind ?_))⟩
   ·have hx:cond (sy.ilt t.n 1) true (sy.ilt 8 t.n)=true:=by
     show cond (decide (t.n < 1)) true (decide (8 < t.n))=true
     revert hc;cases decide (t.n < 1)<;>cases decide (8 < t.n)<;>intro hc<;>first|rfl|cases hc
    refine cBr 175 rfl ?_;rw[(q8z ..).2];simp only[q8z];simp only[↓hB0, ↓hI0, ↓hI1, ↓hI2, ↓hV0, ↓hV1, ↓hV3, ↓hV4, ↓hT4, ↓hNt, ↓hKt, ↓hB, ↓hC h1, ↓hC h2, ↓hC h3, ↓hC h4, ↓hXt hx];rfl
   ·simp only[hc];exact hback
  |false=>
   refine⟨((b.1,b.2,t.n),s5),?_,r1.bind (r2.bind (r3.bind ?_))⟩
   ·have hx:cond (sy.ilt t.n 1) true (sy.ilt 8 t.n)=false:=by
     show cond (decide (t.n < 1)) true (decide (8 < t.n))=false
     revert hc;cases decide (t.n < 1)<;>cases decide (8 < t.n)<;>intro hc<;>first|rfl|cases hc
    refine cBr 175 rfl ?_;rw[(q8z ..).2];simp only[q8z];simp only[↓hB0, ↓hI0, ↓hI1, ↓hI2, ↓hI3, ↓hI4, ↓hV1, ↓hV3, ↓hV4, ↓hT4, ↓hN0, ↓hN5, ↓hN6, ↓hNt, ↓hKt, ↓hB, ↓hC h1, ↓hC h2, ↓hC h3, ↓hC h5, ↓hXf hx];rfl
   ·simp only[hc];exact r5.bind (Post.ret r5.lt)
theorem w1d: ∃x:Dc × St,cF 1000131 (kR (x0n l) (s.i:Int) (x0m ens) s.b s.a s.w)=some (.val (y1h x.1++stD l (x0m ens) x.2))/\x4t l (v3d l ens) s x.1 x.2:=by
 obtain⟨t,s1,h1,r1⟩:=u6i hl (x0m ens) s hs 1 (by omega)
 have h1:cF 1000078 (kRI 1 (x0n l) (s.i:Int) (x0m ens) s.b s.a s.w)=_:=h1;obtain⟨s2,h2,r2⟩:=x6j hl (x0m ens) s1 r1.lt [bs [58]] (by simp)
 rw[<-y1j]at h2;obtain⟨⟨y,s3⟩,h3,r3⟩:=c_rty hl ens hE s2 r2.lt;simp only at h3 r3;obtain⟨v,s4,h4,r4,hv⟩:=x8d hl (x0m ens) s3 r3.lt (bs [119,104,101,110]);cases v with
 |true=>
  have hb:s4.b=true:=by
   have g:=r4.good (hv rfl).1;cases hm:tkR l (bs [119,104,101,110]) s3.i with
   |ok a j=>rw[hm]at g;rw[g.2]
   |bad p c=>unfold tkR at hm;split at hm<;>cases hm
  obtain⟨⟨w,s5⟩,h5,r5⟩:=q5s hl s4 r4.lt hb (x0m ens);simp only at h5 r5;refine⟨(⟨t.s,y.1,y.2.1,y.2.2,w.1,w.2⟩,s5),?_,r1.bind (r2.bind (r3.bind (r4.bind (r5.bind (Post.ret r5.lt)))))⟩;refine cBr 131 rfl ?_;rw[(k8h ..).2];simp only[k8h];simp only[↓hB0, ↓hI0, ↓hI1, ↓hI2, ↓hI3, ↓hI4, ↓hS0, ↓hS1, ↓hV1, ↓hV2, ↓hV3, ↓hV4, ↓hT4, ↓hN0, ↓hN5, ↓hN6, ↓hCt, ↓hC h1, ↓hC h2, ↓hC h3, ↓hC h4, ↓hC h5];rfl
 |false=>
  refine⟨(⟨t.s,y.1,y.2.1,y.2.2,bs [],bs []⟩,s4),?_,r1.bind (r2.bind (r3.bind (r4.bind (Post.ret r4.lt))))⟩;refine cBr 131 rfl ?_;rw[(k8h ..).2];simp only[k8h];simp only[↓hB0, ↓hI0, ↓hI1, ↓hI2, ↓hI3, ↓hI4, ↓hV1, ↓hV3, ↓hV4, ↓hT4, ↓hN0, ↓hN5, ↓hN6, ↓hCf, ↓hC h1, ↓hC h2, ↓hC h3, ↓hC h4];rfl
end
def y8l (l:List Tk):RM Ex:=fun i=>match y4j l i with
 | .out=> .bad i 1
 | .bad j=> .bad j 2
 | .ok e j=>bif !x3c e then .bad i 3 else bif !x9c e then .bad i 1 else .ok e j
structure Eqn where
 ns:List BA
 e:Ex
def v7b (q:Eqn):List D:= .sl 1 (x0b q.ns)::q.e.row
def x1z (l:List Eqn):LL:=l.map v7b
theorem x1d (l:List Eqn):(x1z l).length=l.length:=by simp[x1z]
theorem v1q (l:List Eqn)(d:Eqn):x1z (l++[d])=x1z l++[v7b d]:=by simp[x1z]
def eqR (l:List Tk):RM Eqn:=(z1d l 1).bind fun ns=>(x6p l [bs [61]]).bind fun _=>(y8l l).bind fun e=>(x6p l [bs [59]]).bind fun _=>RM.ret ⟨ns,e⟩
theorem v2x {l:List Tk}(hl:LOK l){i:Nat}(hi:i < l.length):(∃e j,y8l l i= .ok e j/\v7l l i=(e,(j:Int),0)/\i<=j/\j < l.length)\/ ∃p c,y8l l i= .bad p c/\v7l l i=(e0,(p:Int),c)/\i<=p/\p < l.length/\c≠0:=by
 unfold y8l v7l;cases hR:y4j l i with
 |out=>exact .inr ⟨i,1,rfl,rfl,a0q _,hi,by decide⟩
 |bad j=>exact .inr ⟨j,2,rfl,rfl,(u7z hl hi hR).1,(u7z hl hi hR).2,by decide⟩
 |ok e j=>
  have h:=(y3i hl (fuel l)).pos _ _ _ _ hi hR;simp only;cases x3c e with
  |false=>exact .inr ⟨i,3,rfl,rfl,a0q _,hi,by decide⟩
  |true=>
   cases x9c e with
   |false=>exact .inr ⟨i,1,rfl,rfl,a0q _,hi,by decide⟩
   |true=>exact .inl ⟨e,j,rfl,rfl,by omega,h.2⟩
theorem hEm {α:Type}(k n o:Int)(q:BA)(a:List BA)(u:List Ex)(r:List D)(K:Int->Int->BA->Int->LL->LL->Option α):oE sy (PRes.val ((Ex.mk k n q o a u).row++r)).leaves 0 K=K k n q o (x0b a) (Ex.rows u):=rfl
theorem hE6 {α:Type}(k n o v:Int)(q:BA)(a:List BA)(u:List Ex)(r:List D)(K:Int->Option α):(opI (sy.cell (PRes.val ((Ex.mk k n q o a u).row++ .int .i64 v::r)).leaves 6) .i64).bind K=K v:=rfl
theorem hE7 {α:Type}(k n o v:Int)(d:D)(q:BA)(a:List BA)(u:List Ex)(r:List D)(K:Int->Option α):(opI (sy.cell (PRes.val ((Ex.mk k n q o a u).row++d:: .int .i64 v::r)).leaves 7) .i64).bind K=K v:=rfl
theorem hV6 {α:Type}(l:List Tk)(en:LL)(s:St)(k n o:Int)(q:BA)(a:List BA)(u:List Ex)(K:LL->Int->Bool->Int->Int->LL->Option α):oV sy (PRes.val ((Ex.mk k n q o a u).row++stD l en s)).leaves 6 K=K (x0n l) (s.i:Int) s.b s.a s.w en:=rfl
section
variable {l : List Tk} (hl : LOK l) (ht : TS l) (en : LL) (s : St) (hs : s.i < l.length)
include hl hs ht
theorem q5w: ∃x:Ex × St,cF 1000132 (kR (x0n l) (s.i:Int) en s.b s.a s.w)=some (.val (x.1.row++stD l en x.2))/\x4t l (y8l l) s x.1 x.2:=by
 cases hb:s.b with
 |false=>
  refine⟨(e0,s),?_,y0q hs hb⟩;refine cBr 132 rfl ?_;rw[(q9a ..).2];simp only[q9a];simp only[↓hB0, ↓hNf];rw[<-hb];rfl
 |true=>
  have h1:=q6i hl ht s.i hs;rcases v2x hl hs with⟨e,j,hR,hP,hij,hj⟩|⟨p,c,hR,hP,_,hp,hc⟩
  ·rw[hP]at h1;obtain⟨k,n,q,o,a,u⟩:=e;refine⟨(.mk k n q o a u,⟨j,true,s.a,s.w⟩),?_,⟨hij,hj,fun h=>(by rw[hb]at h;cases h),fun _=>by rw[hR];exact⟨rfl,rfl⟩⟩⟩
   refine cBr 132 rfl ?_;rw[(q9a ..).2];simp only[q9a];simp only[↓hB0, ↓hNt, ↓hC h1];rfl
  ·rw[hP]at h1;obtain⟨s1,h2,r2,_⟩:=y4a hl en s hs p hp c;rw[hb]at h2;have hx:sy.bnot (sy.ieq c 0)=true:=by
    show(!decide (c=0))=true;rw[x1j hc];rfl
   refine⟨(e0,s1),?_,⟨r2.le,r2.lt,r2.bad,fun h=>by rw[hR];exact r2.good h⟩⟩
   have h1:cF 177 [.d (.sl 4 (x0n l)), .d (.int .i64 (s.i:Int))]=some (.val ((Ex.mk 0 0 (bs []) 0 [] []).row++[.int .i64 (p:Int), .int .i64 c])):=h1;refine cBr 132 rfl ?_;rw[(q9a ..).2];simp only[q9a];simp only[↓hB0, ↓hV0, ↓hNt, ↓hC h1, ↓hC h2, ↓hEm, ↓hE6, ↓hE7, ↓hXt hx];rfl
theorem c_req: ∃x:Eqn × St,cF 1000082 (kR (x0n l) (s.i:Int) en s.b s.a s.w)=some (.val (v7b x.1++stD l en x.2))/\x4t l (eqR l) s x.1 x.2:=by
 obtain⟨⟨ns,s1⟩,h1,r1⟩:=v0d hl en s hs 1 (by omega)
 simp only at h1 r1;have h1:cF 1000080 (kRI 1 (x0n l) (s.i:Int) en s.b s.a s.w)=_:=h1;obtain⟨s2,h2,r2⟩:=x6j hl en s1 r1.lt [bs [61]] (by simp)
 rw[<-y1j]at h2;obtain⟨⟨e,s3⟩,h3,r3⟩:=q5w hl ht en s2 r2.lt;simp only at h3 r3;obtain⟨s4,h4,r4⟩:=x6j hl en s3 r3.lt [bs [59]] (by simp)
 rw[<-y1j]at h4;refine⟨(⟨ns,e⟩,s4),?_,r1.bind (r2.bind (r3.bind (r4.bind (Post.ret r4.lt))))⟩;obtain⟨k,n,q,o,a,u⟩:=e;refine cBr 82 rfl ?_;rw[(b82 ..).2];simp only[b82];simp only[↓hB0, ↓hI3, ↓hI4, ↓hL0, ↓hV1, ↓hN0, ↓hN5, ↓hN6, ↓hC h1, ↓hC h2, ↓hC h3, ↓hC h4, ↓hEm, ↓hV6];rfl
end
def w7h:BA:=bs [108,101,116]
def y1m (l:List Tk)(last:Bool):RM Bool:=fun i=>match isT l i (bs [59])&& !(last&&isT l (i+1) w7h)with
 |true=> .ok true (i+1)
 |false=> .ok false i
def y2k (l:List Tk)(ens:List En)(last:Bool):Nat->List Dc->RM (List Dc)
 |0,acc=>RM.ret acc
 |n+1,acc=>(y1m l last).bind fun v=>match v with
  |true=>(v3d l ens).bind fun d=>y2k l ens last n (acc++[d])
  |false=>RM.ret acc
def y5q (l:List Tk)(ens:List En)(last:Bool):RM (List Dc):=(v3d l ens).bind fun d=>y2k l ens last l.length [d]
theorem hIs {α:Type}{l:List Tk}{j:Int}{i:Nat}(hj:j=(i:Int))(hi:i < l.length)(x:BA)(K:List D->Option α):
  ((opI (sy.cell (sy.row (x0n l) j) 0) .i64).bind fun n1=>(opS (sy.cell (sy.row (x0n l) j) 1)).bind fun s2=>(opI (sy.cell (sy.row (x0n l) j) 2) .i64).bind fun n3=>(opI (sy.cell (sy.row (x0n l) j) 3) .i64).bind fun n4=>
    v3e (cond (sy.seq s2 x) (cond (sy.ieq n1 1) (some (.inl [.bool true])) (some (.inl [.bool (sy.ieq n1 5)]))) (some (.inl [.bool false]))) K)=K [.bool (isT l i x)]:=by
 subst hj;rw[y1w hi];show v3e (cond ((tkA l i).s.toList == x.toList) (cond (decide ((tkA l i).k=1)) (some (.inl [.bool true])) (some (.inl [.bool (decide ((tkA l i).k=5))]))) (some (.inl [.bool false]))) K=_;rw[x1v];unfold isT;cases decide (tb (tkA l i).s=tb x)<;>cases decide ((tkA l i).k=1)<;>rfl
theorem hD0 {α:Type}(d:Dc)(r:List D)(K:BA->Int->Int->Int->BA->BA->Option α):oD sy (PRes.val (y1h d++r)).leaves 0 K=K d.n d.k d.e d.c d.o d.q:=rfl
theorem hVd {α:Type}(l:List Tk)(en:LL)(s:St)(d:Dc)(K:LL->Int->Bool->Int->Int->LL->Option α):oV sy (PRes.val (y1h d++stD l en s)).leaves 6 K=K (x0n l) (s.i:Int) s.b s.a s.w en:=rfl
theorem lB {α:Type}(v:Bool)(r:List D)(K:Bool->Option α):(opB (sy.cell (.bool v::r) 0)).bind K=K v:=rfl
theorem lV {α:Type}(v:D)(l:List Tk)(en:LL)(s:St)(r:List D)(K:LL->Int->Bool->Int->Int->LL->Option α):oV sy (v::(stD l en s++r)) 1 K=K (x0n l) (s.i:Int) s.b s.a s.w en:=rfl
theorem lL {α:Type}(v:D)(l:List Tk)(en:LL)(s:St)(k:Nat)(x:LL)(r:List D)(K:LL->Option α):(opL (sy.cell (v::(stD l en s++ .sl k x::r)) 7) k).bind K=K x:=by
 show(opL (some (.sl k x)) k).bind K=K x;unfold opL;simp
section
variable {l : List Tk} (hl : LOK l) (ens : List En) (hE : ens.length <= 1000000) (s : St) (hs : s.i < l.length)
include hl hs hE
theorem z8b (f:Bool): ∃x:List Dc × St,cF 1000081 (kRB f (x0n l) (s.i:Int) (x0m ens) s.b s.a s.w)=some (.val (.sl 6 (x0j x.1)::stD l (x0m ens) x.2))/\x4t l (y5q l ens f) s x.1 x.2:=by
 have hf:=hl.few;obtain⟨⟨d,s0⟩,h0,r0⟩:=w1d hl ens hE s hs;simp only at h0 r0;refine q6s (f:=81) (by kernel_rfl) (by with_reducible first|exact dcRB ..) (by kernel_rfl) rfl ?_
 rw[(b81 ..).2];simp only[b81];simp only[↓hC h0, ↓hD0, ↓hVd];rw[u5y];refine(y3s (σ:=Nat × List Dc × St) (ρ:=List Dc × St) (c:=fun x=>PRes.val (.sl 6 (x0j x.1)::stD l (x0m ens) x.2)) (fun x=> .bool f::(stD l (x0m ens) x.2.2++[.sl 6 (x0j x.2.1)]))
  (fun x=>l.length - x.2.2.i<=x.1/\x.2.1.length<=x.2.2.i+1/\x.2.2.i < l.length) (fun x=>x.1) (fun x y=>x4t l (y2k l ens f x.1 x.2.1) x.2.2 y.1 y.2) ?_ (l.length,[d],s0) ⟨by simp only;omega,by simp,r0.lt⟩).imp fun x h=>⟨h.1,r0.bind h.2⟩
 rintro⟨n,acc,s⟩ ⟨hn,ha,hs⟩
 simp only at hn ha hs ⊢;obtain⟨n,rfl⟩: ∃m,n=m+1:=⟨n - 1,by omega⟩
 cases hb:s.b with
 |false=>
  right
  refine⟨(acc,s),?_,y0q hs hb⟩;simp only[↓lB, ↓lV, ↓lL, ↓hXf hb];rfl
 |true=>
  have e0:sy.wrap .i64 (sy.add (s.i:Int) 0)=(s.i:Int):=by
   show IntKind.i64.wrap ((s.i:Int)+0)=_;rw[Int.add_zero];exact x0v (by omega) (by omega)
  have e1:sy.wrap .i64 (sy.add (s.i:Int) 1)=((s.i+1:Nat):Int):=by
   show IntKind.i64.wrap ((s.i:Int)+1)=_;rw[x0a (n:=l.length) hs (by omega)];rfl
  have c0:sy.ile (sy.rlen (x0n l)) (sy.wrap .i64 (sy.add (s.i:Int) 0))=false:=by
   rw[e0];exact x1j (by show ¬((x0n l).length:Int)<=_;rw[x7r];omega)
  have d0:sy.inr (sy.wrap .i64 (sy.add (s.i:Int) 0)) (sy.rlen (x0n l))=true:=by rw[e0];exact y8i hs
  cases hT:isT l s.i (bs [59])with
  |false=>
   right
   refine⟨(acc,s),?_,?_⟩
   ·simp only[↓lB, ↓lV, ↓lL, ↓hXt hb, ↓hXf c0, ↓hXt d0, ↓hIs e0 hs,hT, ↓hCf];rfl
   ·have hm:y1m l f s.i= .ok false s.i:=by unfold y1m;rw[hT];rfl
    refine⟨a0q _,hs,fun _=>rfl,fun _=> ?_⟩
    unfold y2k RM.bind;rw[hm];obtain⟨i,b,a,w⟩:=s;cases hb;exact⟨rfl,rfl⟩
  |true=>
   have hi1:s.i+1 < l.length:=hl.next hs (x1s hT);have c1:sy.ile (sy.rlen (x0n l)) (sy.wrap .i64 (sy.add (s.i:Int) 1))=false:=by
    rw[e1];exact x1j (by show ¬((x0n l).length:Int)<=_;rw[x7r];omega)
   have d1:sy.inr (sy.wrap .i64 (sy.add (s.i:Int) 1)) (sy.rlen (x0n l))=true:=by rw[e1];exact y8i hi1
   by_cases hstop:(f&&isT l (s.i+1) w7h)=true
   ·right
    have hff:f=true:=by cases f<;>simp_all
    subst hff;have hL:isT l (s.i+1) (bs [108,101,116])=true:=by simpa[w7h]using hstop
    refine⟨(acc,s),?_,?_⟩
    ·simp only[↓lB, ↓lV, ↓lL, ↓hXt hb, ↓hXf c0, ↓hXt d0, ↓hIs e0 hs,hT, ↓hCt, ↓hXf c1, ↓hXt d1, ↓hIs e1 hi1,hL, ↓hNt];rfl
    ·have hm:y1m l true s.i= .ok false s.i:=by unfold y1m;rw[hT];simp only[w7h,hL];rfl
     refine⟨a0q _,hs,fun _=>rfl,fun _=> ?_⟩
     unfold y2k RM.bind;rw[hm];obtain⟨i,b,a,w⟩:=s;cases hb;exact⟨rfl,rfl⟩
   ·left
    obtain⟨s1,h1,r1⟩:=x6j hl (x0m ens) s hs [bs [59]] (by simp)
    rw[<-y1j]at h1;obtain⟨⟨d2,s2⟩,h2,r2⟩:=w1d hl ens hE s1 r1.lt;simp only at h2 r2;have hm:y1m l f s.i= .ok true (s.i+1):=by
     unfold y1m;rw[hT];cases h:(f&&isT l (s.i+1) w7h)with
     |true=>exact(hstop h).elim
     |false=>rfl
    have hnd:x6p l [bs [59]] s.i= .ok () (s.i+1):=by simp[x6p,x2i,hT]
    have g:=r1.good hb;rw[hnd]at g;have rm:x4t l (y1m l f) s true s1:=⟨r1.le,r1.lt,r1.bad,fun _=>by rw[hm];exact⟨rfl,g.2⟩⟩
    have hs1:s1.i=s.i+1:=by rw[g.2]
    have hfit:sy.fits (x0j acc) [y1h d2] 72=true:=x6e (x0j acc) [y1h d2] 72 (by rw[x0k];simp only[a0a,a0d];omega)
    refine⟨(n,acc++[d2],s2),?_,⟨?_,?_,r2.lt⟩,a1p _,fun y hy=>rm.bind (r2.bind hy)⟩
    ·have fin:sy.rapp (x0j acc) [y1h d2]=x0j (acc++[d2]):=by rw[v3a];rfl
     cases f with
     |false=>
      simp only[↓lB, ↓lV, ↓lL, ↓hXt hb, ↓hXf c0, ↓hXt d0, ↓hIs e0 hs,hT, ↓hCt, ↓hCf, ↓hNf, ↓hC h1, ↓hN0, ↓hI3, ↓hI4, ↓hN5, ↓hN6, ↓hC h2, ↓hD0, ↓hVd];rw[<-fin];exact hXt hfit _ _
     |true=>
      have hL:isT l (s.i+1) (bs [108,101,116])=false:=by
       cases h:isT l (s.i+1) (bs [108,101,116])with
       |true=>exact(hstop (by simpa[w7h]using h)).elim
       |false=>rfl
      simp only[↓lB, ↓lV, ↓lL, ↓hXt hb, ↓hXf c0, ↓hXt d0, ↓hIs e0 hs,hT, ↓hCt, ↓hXf c1, ↓hXt d1, ↓hIs e1 hi1,hL, ↓hNf, ↓hC h1, ↓hN0, ↓hI3, ↓hI4, ↓hN5, ↓hN6, ↓hC h2, ↓hD0, ↓hVd];rw[<-fin];exact hXt hfit _ _
    ·have:=r2.le;simp only;omega
    ·have:=r2.le;simp only[a0k,a0a,a0d];omega
end
structure Nd where
 n:BA
 ins:List Dc
 outs:List Dc
 vars:List Dc
 eqs:List Eqn
def y3j (n:Nd):List D:=[.str n.n, .sl 6 (x0j n.ins), .sl 6 (x0j n.outs), .sl 6 (x0j n.vars), .sl 7 (x1z n.eqs)]
def x1k (l:List Nd):LL:=l.map y3j
theorem x0r (l:List Nd):(x1k l).length=l.length:=by simp[x1k]
theorem v1y (l:List Nd)(d:Nd):x1k (l++[d])=x1k l++[y3j d]:=by simp[x1k]
def k2e (l:List Tk)(ens:List En):RM (List Dc):=(tkR l (bs [41])).bind fun v=>match v with
 |false=>(y5q l ens false).bind fun d=>(x6p l [bs [41]]).bind fun _=>RM.ret d
 |true=>RM.ret []
def v4o (l:List Tk)(ens:List En):RM (List Dc):=(tkR l (bs [118,97,114])).bind fun v=>match v with
 |true=>(y5q l ens true).bind fun d=>(x6p l [bs [59]]).bind fun _=>RM.ret d
 |false=>RM.ret []
def w9z (l:List Tk):Nat->List Eqn->RM (List Eqn)
 |0,acc=>RM.ret acc
 |n+1,acc=>(tkR l (bs [116,101,108])).bind fun v=>match v with
  |true=>RM.ret acc
  |false=>(eqR l).bind fun q=>w9z l n (acc++[q])
def v1z (l:List Tk)(ens:List En):RM Nd:=(z6e l 1).bind fun t=>(x6p l [bs [40]]).bind fun _=>(k2e l ens).bind fun i=>(x6p l [bs [114,101,116,117,114,110,115],bs [40]]).bind fun _=>(y5q l ens false).bind fun o=>(x6p l [bs [41]]).bind fun _=>(v4o l ens).bind fun w=>(x6p l [w7h]).bind fun _=>(w9z l l.length []).bind fun q=>RM.ret ⟨t.s,i,o,w,q⟩
theorem u9u {ρ τ α:Type}{X:Option (List D ⊕ α)}{K:List D->Option α}{cc:τ->α}{R:τ->Prop}(c:ρ->List D)(Q:ρ->Prop)(h: ∃y,X=some (.inl (c y))/\Q y)(hK: ∀y,Q y-> ∃x,K (c y)=some (cc x)/\R x): ∃x,v3e X K=some (cc x)/\R x:=by
 obtain⟨y,rfl,hy⟩:=h;exact hK y hy
theorem bind_ok {α β:Type}{m:RM α}{k:α->RM β}{i j:Nat}{b:β}(h:m.bind k i= .ok b j): ∃a x,m i= .ok a x/\k a x= .ok b j:=by
 unfold RM.bind at h;split at h
 ·rename_i a x hm;exact⟨a,x,hm,h⟩
 ·cases h
theorem y1d {l:List Tk}{w:BA}{i j:Nat}{v:Bool}(h:tkR l w i= .ok v j):i<=j:=by
 unfold tkR at h;split at h<;>cases h<;>omega
theorem x3r {l:List Tk}{w:List BA}{i j:Nat}{v:Unit}(h:x6p l w i= .ok v j):i<=j:=by
 unfold x6p at h;split at h
 ·rename_i hn;cases h;exact x1m hn
 ·cases h
 ·cases h
theorem u0r {l:List Tk}{k:Int}: ∀(n:Nat) (acc:List BA) {i j:Nat} {r:List BA},y4s l k n acc i= .ok r j->i<=j
 |0,acc,i,j,r,h=>by cases h;exact a0q _
 |n+1,acc,i,j,r,h=>by
  unfold y4s at h;obtain⟨v,x,h1,h2⟩:=bind_ok h;have:=y1d h1;cases v with
  |true=>
   obtain⟨t,y,h3,h4⟩:=bind_ok h2;have:=(y5x h3).2;have:=u0r n _ h4;omega
  |false=>cases h2;omega
theorem q4y {l:List Tk}(ht:TS l){i j:Nat}{q:Eqn}(h:eqR l i= .ok q j):i < j:=by
 unfold eqR at h;obtain⟨ns,x,h1,h⟩:=bind_ok h;obtain⟨_,y,h2,h⟩:=bind_ok h;obtain⟨e,z,h3,h⟩:=bind_ok h;obtain⟨_,u,h4,h⟩:=bind_ok h;cases h;unfold z1d at h1;obtain⟨t,a,h5,h6⟩:=bind_ok h1;have:=(y5x h5).2;have:=u0r _ _ h6;have:=x3r h2;have:=x3r h4;have h7:y<=z:=by
  unfold y8l at h3;split at h3
  ·cases h3
  ·cases h3
  ·rename_i e2 j2 hR
   revert h3
   cases x3c e2<;>cases x9c e2<;>intro h3<;>first|(cases h3;done)|skip
   cases h3;have:=(z6p ht hR).1;omega
 omega
section
variable {α : Type} (l : List Tk) (en : LL) (s : St) (r : List D) (d e f g : D) (k : Nat) (x : LL) (K : LL -> Option α)
theorem lV0 (K:LL->Int->Bool->Int->Int->LL->Option α):oV sy (stD l en s++r) 0 K=K (x0n l) (s.i:Int) s.b s.a s.w en:=(rfl)
theorem lS6 (x:BA)(K:BA->Option α):(opS (sy.cell (stD l en s++ .str x::r) 6)).bind K=K x:=(rfl)
theorem lS7 (x:BA)(K:BA->Option α):(opS (sy.cell (stD l en s++d:: .str x::r) 7)).bind K=K x:=(rfl)
theorem y1e:(opL (some (.sl k x)) k).bind K=K x:=by unfold opL;simp
theorem lL8:(opL (sy.cell (stD l en s++d::e:: .sl k x::r) 8) k).bind K=K x:=y1e k x K
theorem lL9:(opL (sy.cell (stD l en s++d::e::f:: .sl k x::r) 9) k).bind K=K x:=y1e k x K
theorem k7m:(opL (sy.cell (stD l en s++d::e::f::g:: .sl k x::r) 10) k).bind K=K x:=y1e k x K
theorem lL11 (h:D):(opL (sy.cell (stD l en s++d::e::f::g::h:: .sl k x::r) 11) k).bind K=K x:=y1e k x K
end
theorem hQ0 {α:Type}(q:Eqn)(r:List D)(K:LL->Option α):(opL (sy.cell (PRes.val (v7b q++r)).leaves 0) 1).bind K=K (x0b q.ns):=by
 show(opL (some (.sl 1 (x0b q.ns))) 1).bind K=_;unfold opL;simp
theorem hQ1 {α:Type}(k n o:Int)(q:BA)(a ns:List BA)(u:List Ex)(r:List D)(K:Int->Int->BA->Int->LL->LL->Option α):oE sy (PRes.val (v7b ⟨ns,Ex.mk k n q o a u⟩++r)).leaves 1 K=K k n q o (x0b a) (Ex.rows u):=rfl
theorem hQ7 {α:Type}(l:List Tk)(en:LL)(s:St)(q:Eqn)(K:LL->Int->Bool->Int->Int->LL->Option α):oV sy (PRes.val (v7b q++stD l en s)).leaves 7 K=K (x0n l) (s.i:Int) s.b s.a s.w en:=by
 obtain⟨ns,e⟩:=q;obtain⟨k,m,y,o,a,u⟩:=e;rfl
section
variable {l : List Tk} (hl : LOK l) (ht : TS l) (ens : List En) (hE : ens.length <= 1000000) (s : St) (hs : s.i < l.length)
include hl ht hE hs
theorem q5t: ∃x:Nd × St,cF 1000038 (kR (x0n l) (s.i:Int) (x0m ens) s.b s.a s.w)=some (.val (y3j x.1++stD l (x0m ens) x.2))/\x4t l (v1z l ens) s x.1 x.2:=by
 have hf:=hl.few;obtain⟨t,s1,h1,r1⟩:=u6i hl (x0m ens) s hs 1 (by omega)
 have h1:cF 1000078 (kRI 1 (x0n l) (s.i:Int) (x0m ens) s.b s.a s.w)=_:=h1;obtain⟨s2,h2,r2⟩:=x6j hl (x0m ens) s1 r1.lt [bs [40]] (by simp)
 rw[<-y1j]at h2;refine q6s (f:=38) (by kernel_rfl) (by with_reducible first|exact dcR ..) (by kernel_rfl) rfl ?_
 rw[(b38 ..).2];simp only[b38];simp only[↓hC h1, ↓hT4, ↓hV4, ↓hC h2, ↓hN0, ↓hI3, ↓hI4, ↓hN5, ↓hN6];refine u9u (ρ:=List Dc × St) (fun y=>stD l (x0m ens) y.2++[.str (bs []), .str t.s, .sl 6 (x0j y.1)]) (fun y=>x4t l (k2e l ens) s2 y.1 y.2) ?_ ?_
 ·obtain⟨v,s3,h3,r3,_⟩:=x8d hl (x0m ens) s2 r2.lt (bs [41]);cases v with
  |true=>
   refine⟨([],s3),?_,r3.bind (Post.ret r3.lt)⟩;simp only[↓hC h3, ↓hB0, ↓hV1, ↓hNt];rfl
  |false=>
   obtain⟨⟨ds,s4⟩,h4,r4⟩:=z8b hl ens hE s3 r3.lt false;simp only at h4 r4;obtain⟨s5,h5,r5⟩:=x6j hl (x0m ens) s4 r4.lt [bs [41]] (by simp)
   rw[<-y1j]at h5;refine⟨(ds,s5),?_,r3.bind (r4.bind (r5.bind (Post.ret r5.lt)))⟩;simp only[↓hC h3, ↓hB0, ↓hV1, ↓hNf, ↓hC h4, ↓hL0, ↓hC h5, ↓hN0, ↓hI3, ↓hI4, ↓hN5, ↓hN6];rfl
 ·rintro⟨ins,s3⟩ r3
  simp only at r3 ⊢;obtain⟨s4,h4,r4⟩:=x6j hl (x0m ens) s3 r3.lt [bs [114,101,116,117,114,110,115],bs [40]] (by simp)
  rw[<-k0n]at h4;obtain⟨⟨os,s5⟩,h5,r5⟩:=z8b hl ens hE s4 r4.lt false;simp only at h5 r5;obtain⟨s6,h6,r6⟩:=x6j hl (x0m ens) s5 r5.lt [bs [41]] (by simp)
  rw[<-y1j]at h6;simp only[↓lV0, ↓lS6, ↓lS7, ↓lL8, ↓hC h4, ↓hN0, ↓hI3, ↓hI4, ↓hN5, ↓hN6, ↓hC h5, ↓hL0, ↓hV1, ↓hC h6];refine u9u (ρ:=List Dc × St) (fun y=>stD l (x0m ens) y.2++[.str (bs []), .str t.s, .sl 6 (x0j ins), .sl 6 (x0j os), .sl 6 (x0j y.1)]) (fun y=>x4t l (v4o l ens) s6 y.1 y.2) ?_ ?_
  ·obtain⟨v,s7,h7,r7,_⟩:=x8d hl (x0m ens) s6 r6.lt (bs [118,97,114]);cases v with
   |false=>
    refine⟨([],s7),?_,r7.bind (Post.ret r7.lt)⟩;simp only[↓hC h7, ↓hB0, ↓hV1, ↓hCf];rfl
   |true=>
    obtain⟨⟨ds,s8⟩,h8,r8⟩:=z8b hl ens hE s7 r7.lt true;simp only at h8 r8;obtain⟨s9,h9,r9⟩:=x6j hl (x0m ens) s8 r8.lt [bs [59]] (by simp)
    rw[<-y1j]at h9;refine⟨(ds,s9),?_,r7.bind (r8.bind (r9.bind (Post.ret r9.lt)))⟩;simp only[↓hC h7, ↓hB0, ↓hV1, ↓hCt, ↓hC h8, ↓hL0, ↓hC h9, ↓hN0, ↓hI3, ↓hI4, ↓hN5, ↓hN6];rfl
  ·rintro⟨vs,s7⟩ r7
   simp only at r7 ⊢;obtain⟨s8,h8,r8⟩:=x6j hl (x0m ens) s7 r7.lt [bs [108,101,116]] (by simp)
   rw[<-y1j]at h8;simp only[↓lV0, ↓lS6, ↓lS7, ↓lL8, ↓lL9, ↓k7m, ↓hC h8, ↓hN0, ↓hI3, ↓hI4, ↓hN5, ↓hN6];rw[u5y];refine(y3s (σ:=Nat × List Eqn × St) (ρ:=List Eqn × St) (c:=fun x=>PRes.val (.str t.s:: .sl 6 (x0j ins):: .sl 6 (x0j os):: .sl 6 (x0j vs):: .sl 7 (x1z x.1)::stD l (x0m ens) x.2))
    (fun x=>stD l (x0m ens) x.2.2++[.str (bs []), .str t.s, .sl 6 (x0j ins), .sl 6 (x0j os), .sl 6 (x0j vs), .sl 7 (x1z x.2.1)])
    (fun x=>(x.2.2.b=true->l.length - x.2.2.i<=x.1/\x.2.1.length<=x.2.2.i)/\x.2.1.length<=x.2.2.i+1/\x.2.2.i < l.length) (fun x=>x.1) (fun x y=>x4t l (w9z l x.1 x.2.1) x.2.2 y.1 y.2) ?_ (l.length,[],s8) ⟨fun _=>⟨by simp only;omega,by simp⟩,by simp,r8.lt⟩).elim fun x h=>⟨(⟨t.s,ins,os,vs,x.1⟩,x.2),h.1,r1.bind (r2.bind (r3.bind (r4.bind (r5.bind (r6.bind (r7.bind (r8.bind (h.2.bind (Post.ret h.2.lt)))))))))⟩
   rintro⟨n,acc,s⟩ ⟨hn,ha,hs⟩
   simp only at hn ha hs ⊢;cases hb:s.b with
   |false=>
    right
    refine⟨(acc,s),?_,y0q hs hb⟩;simp only[↓lV0, ↓lS6, ↓lS7, ↓lL8, ↓lL9, ↓k7m, ↓lL11, ↓hXf hb];rfl
   |true=>
    obtain⟨hn1,hn2⟩:=hn hb;obtain⟨n,rfl⟩: ∃m,n=m+1:=⟨n - 1,by omega⟩
    obtain⟨v,s1,h1,r1,_⟩:=x8d hl (x0m ens) s hs (bs [116,101,108]);cases v with
    |true=>
     right
     refine⟨(acc,s1),?_,r1.bind (Post.ret r1.lt)⟩;simp only[↓lV0, ↓lS6, ↓lS7, ↓lL8, ↓lL9, ↓k7m, ↓lL11, ↓hXt hb, ↓hC h1, ↓hB0, ↓hV1, ↓hNt];rfl
    |false=>
     left
     obtain⟨⟨q,s2⟩,h2,r2⟩:=c_req hl ht (x0m ens) s1 r1.lt;simp only at h2 r2;have hfit:sy.fits (x1z acc) [v7b q] 112=true:=x6e (x1z acc) [v7b q] 112 (by rw[x1d];simp only[a0a,a0d];omega)
     have fin:sy.rapp (x1z acc) [v7b q]=x1z (acc++[q]):=by rw[v1q];rfl
     have hb1:s1.b=true:=by
      have g:=r1.good hb;cases hm:tkR l (bs [116,101,108]) s.i with
      |ok a j=>rw[hm]at g;rw[g.2]
      |bad p c=>unfold tkR at hm;split at hm<;>cases hm
     refine⟨(n,acc++[q],s2),?_,⟨fun hb2=> ?_,?_,r2.lt⟩,a1p _,fun y hy=>r1.bind (r2.bind hy)⟩
     ·obtain⟨ns,e⟩:=q;obtain⟨k,m,y,o,a,u⟩:=e;simp only[↓lV0, ↓lS6, ↓lS7, ↓lL8, ↓lL9, ↓k7m, ↓lL11, ↓hXt hb, ↓hC h1, ↓hB0, ↓hV1, ↓hNf, ↓hC h2, ↓hQ0, ↓hQ1, ↓hQ7];rw[<-fin];exact hXt hfit _ _
     ·have g:=r2.good hb1;cases hm:eqR l s1.i with
      |ok w j=>
       rw[hm]at g;have hp:=q4y ht hm;have e:=r1.le;have:s2.i=j:=by rw[g.2]
       simp only[a0k,a0a,a0d];omega
      |bad p c=>rw[hm]at g;rw[g.1]at hb2;cases hb2
     ·have e1:=r1.le;have e2:=r2.le;simp only[a0k,a0a,a0d];omega
end
end Go.Vm
end
section
set_option maxRecDepth 1000000
set_option maxHeartbeats 0
namespace Go.Vm
open Go.Proofs
noncomputable section
def g86 a:=(⟨_,pq 86 [.d (.sl 2 a)] 0xdf5a095bb6d68665efc13e3039ded64e2b6b126fd10⟩:SQ _)
def g46 a:=(⟨_,pq 46 [.d (.sl 2 a)] 0x101fd019c0b000443601560cb3737954cbbb855693f2c6ff2bdd949a88723e8b02da89995a27f2eb7cf5af564b4a2895d3731fd6b22fd5ffa3aaede2c1ea73c1a17713efaa09a608957e385600ffcab0af5696bee0d73924a5710731b8eaa132dd7f1d695695ec2dbe1b25f375763352186f010ffdb8e73a907777ac0d323be9f7510006606a49f7440e699f0a87⟩:SQ _)
def g141 a b c d:=(⟨_,pq 141 [.d (.sl 2 a), .agg [.d (.int .i64 b), .d (.int .i64 c), .d (.int .i64 d)]] 0xe8124291ee6b55dfe90af96c1c91e87d9211fe91226e59⟩:SQ _)
def g142 a:=(⟨_,pq 142 [.d (.str a)] 0xfceb161fb5abeef9a592a318b9dfa64f4ed7⟩:SQ _)
def g92 a b c d e:=(⟨_,pq 92 [.agg [.d (.str a), .d (.sl 6 b), .d (.sl 6 c), .d (.sl 6 d), .d (.sl 7 e)]] 0xcebc09e8ae59dbe4c8⟩:SQ _)
def g143 a:=(⟨_,pq 143 [.d (.sl 1 a)] 0x121f7bbd1539f72072125c83c7817b7704ba0821e345b19342e054712ba395dec53571c6fc52e894d956609b2b2⟩:SQ _)
def g95 a b c d e f g:=(⟨_,pq 95 [.agg [.d (.sl 1 a), .d (.int .i64 b), .d (.int .i64 c), .d (.str d), .d (.int .i64 e), .d (.sl 1 f), .d (.sl 6 g)]] 0x4657190d8a879690f2d1cc790f57b21d8ee2b3bd19c0ae0b99b7b0dffa74f6db4d7485ebf7a6e7ff8b4123f4a792d5776bec00f9572⟩:SQ _)
def g50 a b c d e f:=(⟨_,pq 50 [.d (.sl 2 a), .agg [.d (.str b), .d (.sl 6 c), .d (.sl 6 d), .d (.sl 6 e), .d (.sl 7 f)]] 0x802afa1037757fecaa1825935bff6129371b3edce12f606a59e068b919b9f4542658bd60899628f8fb73692bfeb1e92c61818c0addcc065d61608f937ba4e9172f303e19d1534f6413421f14b36127ac75c121eedcc4c2dd3247a725fb753c6af9a9c02da104f9f870b131c1e25914892ec596d503477b3d6360711d329ce8e0bb8561f189df0810aa9092a2150428b69b8323304de4ce5ac348161d241ceeeba4c958d997164425bf607c3d3648de3d02bc5800afc7637d6b2bada2d5949f9711b9b5⟩:SQ _)
def g52 a b c d e:=(⟨_,pq 52 [.agg [.d (.str a), .d (.sl 6 b), .d (.sl 6 c), .d (.sl 6 d), .d (.sl 7 e)]] 0x17bbff7bb1b756281e4a42ab15e5e1247a9d73cb87b0c5175b3a6165a08e150f⟩:SQ _)
def g20 a b:=(⟨_,pq 20 [.agg [.d (.sl 2 a), .d (.sl 5 b)]] 0x61a2e2715a340b80e966c17c85ebb18795bceef4b97f2a51c2729c482cf44c3fcd4610759d6af5222feea69b0abb522632d5fb5403a2df26f601cac2fa19be547cdecb94d7688eb9fd94f914ac5949a5285fe2b75bc9c8c4e4a9bf2e433b1f216f4c51252877136ae84c125c22055861f03aafc8b5235380db0bd689b6ae9bd36261f03a6e494b4c67c7c09792602ba99f86ea053127c73a7b51905ee8c8a411f6a4cb8d345de270421d348cf9d484d3da2b3c193b1629d7b6394a557de4572844a0⟩:SQ _)
end
end Go.Vm
end
section
set_option maxRecDepth 100000
set_option maxHeartbeats 4000000
namespace Go.Vm
open Go.Proofs
def x5r (l:List En):Bool:=decide (4 < (l.length:Int)) || l.any fun e=>decide (6 < (e.2.length:Int))
def x1w (l:List En):List BA:=l.flatMap (·.2)
def u8u (l:List En):Bool:=l.all fun e=>x4c (tb e.1)&&decide (0 < (e.2.length:Int))
def y2c (l:List BA):Bool:=l.all fun c=>x3s (tb c)
def x5y (l:List En):Int:=bif x5r l then 4 else bif !(u8u l&&y2c (x1w l))then 1 else bif !(decide (l.map (·.1)).Nodup) || !(decide (x1w l).Nodup)then 6 else 0
def x6t (n:Nd):List Dc:=n.ins++n.outs++n.vars
def tyB (ens:List En)(k e c:Int):Bool:= !(decide (c < 0) || decide (8 < c))&&(bif decide (k=1)then decide (e=0)else bif decide (k=2)then decide (e=0)else decide (k=3)&&(decide (0<=e)&&decide (e < (ens.length:Int))))
def v3y (d:Dc):Bool:=decide (tb d.o=tb (bs []))&&decide (tb d.q=tb (bs []))
def x3z (ens:List En)(d:Dc):Bool:=(x4c (tb d.n)&&tyB ens d.k d.e d.c)&&(v3y d || (x4c (tb d.o)&&y0f d.q))
def Ex.k:Ex->Int| .mk k _ _ _ _ _=>k
def eqB (x:Eqn):Bool:= !(decide ((x.ns.length:Int)=0))&&(x3c x.e&&x9c x.e)&& !(decide (1 < (x.ns.length:Int))&& !decide (x.e.k=13))&&x.ns.all fun s=>x4c (tb s)
def y6m (l:List Dc):Bool:=l.all fun d=>decide (tb d.o=tb (bs []))
def x8x (ens:List En)(n:Nd):Bool:=(x6t n).all (x3z ens)&&(y6m n.ins&&(y6m n.outs&&(n.eqs.all eqB&&(x4c (tb n.n)&&decide (0 < (n.outs.length:Int))))))
def x8m (n:Nd):Bool:=decide (6 < (n.ins.length:Int)) || (decide (6 < (n.outs.length:Int)) || (decide (12 < (n.vars.length:Int)) || decide (18 < (n.eqs.length:Int))))
def y6j (n:Nd):Bool:=decide ((x6t n).map (·.n)).Nodup
def y2l (ens:List En)(nds:List Nd):Int:=bif !decide (x5y ens=0)then x5y ens else bif decide ((nds.length:Int)=0)then 5 else bif decide (6 < (nds.length:Int)) || nds.any x8m then 4 else bif !(nds.all (x8x ens))then 1 else bif !(nds.all y6j) || !decide (nds.map (·.n)).Nodup then 6 else 0
def x3q {l:List Nd}{i:Nat}{x:Nd}(h:l[i]? =some x):sy.row (x1k l) (i:Int)=y3j x:=by
 rw[y1r,a0m,a0i];unfold x1k;rw[a0o,h];rfl
def x3t {l:List Dc}{i:Nat}{x:Dc}(h:l[i]? =some x):sy.row (x0j l) (i:Int)=y1h x:=by
 rw[y1r,a0m,a0i];unfold x0j;rw[a0o,h];rfl
def x8v {l:List Eqn}{i:Nat}{x:Eqn}(h:l[i]? =some x):sy.row (x1z l) (i:Int)=v7b x:=by
 rw[y1r,a0m,a0i];unfold x1z;rw[a0o,h];rfl
def y2i {l:List En}{i:Nat}{x:En}(h:l[i]? =some x):sy.row (x0m l) (i:Int)= [.str x.1, .sl 1 (x0b x.2)]:=by
 rw[y1r,a0m,a0i];unfold x0m;rw[a0o,h];rfl
def x3x {α:Type}{b:List D->Option (List D ⊕ α)}{r:α}{ds:List D}(n:Nat)(mk:Nat->List D)(h0:ds=mk 0)(hb: ∀i,i < n->b (mk i)=some (.inl (mk (i+1))))(hend:b (mk n)=some (.inr r)):x5f b ds=some r:=by
 rw[h0];exact u7u n mk hb hend
def w5k {l:List En}(h:x5r l=false):l.length<=4/\ ∀e∈l,e.2.length<=6:=by
 unfold x5r at h;rw[Bool.or_eq_false_iff]at h;refine⟨by have:=of_decide_eq_false h.1;omega,fun e he=> ?_⟩
 have:=List.any_eq_false.1 h.2 e he;simp at this;omega
def z2o {l:List En}{i:Nat}{x:En}(h:l[i]? =some x):x1w (l.take (i+1))=x1w (l.take i)++x.2:=by
 rw[a1e,h];simp[x1w]
def v8d {l:List En}{i:Nat}{x:En}(h:l[i]? =some x):u8u (l.take (i+1))=(u8u (l.take i)&&(x4c (tb x.1)&&decide (0 < (x.2.length:Int)))):=by
 rw[a1e,h];simp[u8u]
def u1g (a b:List BA):y2c (a++b)=(y2c a&&y2c b):=by simp[y2c]
def v2k {l:List BA}{i:Nat}{x:BA}(h:l[i]? =some x):y2c (l.take (i+1))=(y2c (l.take i)&&x3s (tb x)):=by
 rw[a1e,h];simp[y2c]
def z5b {l:List En}{i:Nat}{x:En}(h:l[i]? =some x):(l.take (i+1)).map (·.1)=(l.take i).map (·.1)++[x.1]:=by
 rw[a1e,h,List.map_append];rfl
def z2p: ∀ {l:List En},(∀e∈l,e.2.length<=6)->(x1w l).length<=6*l.length
 | [],_=>by simp[x1w]
 |x::l,h=>by
  have h1:=h x a0t;have h2:=z2p (l:=l) fun e he=>h e (a0v _ he)
  unfold x1w at*;simp only[List.flatMap_cons,a0k,a0a];omega
def v3f {l:List En}(i:Nat):(x1w (l.take i)).length<=(x1w l).length:=by
 have h:x1w l=x1w (l.take i)++x1w (l.drop i):=by
  unfold x1w;rw[<-List.flatMap_append,a1u]
 rw[h,a0k];omega
def w0x (l:List En)(hl:l.length<=1000000):cF 86 [.d (.sl 2 (x0m l))]=some (.val [.bool (x5r l)]):=by
 unfold x5r;refine cO rfl ?_;rw[(g86 ..).2];simp only[g86,go1,Int.reduceLE,x1f];cases decide (4 < (l.length:Int))with
 |true=>rfl
 |false=>
  simp only[go1];refine x2k (r0:=PRes.val [.bool true]) (r1:=PRes.val [.bool false]) (fun e:En=> !decide (6 < (e.2.length:Int))) l (fun i=>[.sl 2 (x0m l), .int .i64 (l.length:Int), .int .i64 (i:Int)]) rfl (fun i x hx=> ?_) (fun _=> ?_) ?_
  ·have hlt:=(a0c.1 hx).1;simp only[go1,x1f,x0e,x0i hlt,x0g hlt,y2i hx,x0a hlt (by omega),x1y (a2f i)]
   cases decide (6 < (x.2.length:Int))<;>rfl
  ·simp only[go1,x0f];try rfl
  ·rw[List.any_eq_not_all_not];cases List.all l _<;>rfl
def w0y (l:List En)(hl:l.length<=1000000):cF 46 [.d (.sl 2 (x0m l))]=some (.val [.int .i64 (x5y l)]):=by
 have hg:=w0x l hl;unfold x5y;cases hG:x5r l with
 |true=>
  rw[hG]at hg;refine cO rfl ?_;rw[(g46 ..).2];simp only[g46,go1,Nat.reduceAdd,hg]
 |false=>
  rw[hG]at hg;obtain⟨h4,h6⟩:=w5k hG;have hcb:=z2p h6;have hO1:=z2y (l.map (·.1)) (by simp;omega)
  have hO2:=z2y (x1w l) (by omega)
  refine cO rfl ?_;rw[(g46 ..).2];simp only[g46,go1,Nat.reduceAdd,hg,x1f];refine x3x l.length (fun i=>[.sl 2 (x0m l), .sl 2 (x0m l), .int .i64 (l.length:Int), .int .i64 (i:Int), .sl 1 (x0b ((l.take i).map (·.1))), .sl 1 [], .bool (u8u (l.take i))]) rfl (fun i hlt=> ?_) ?_
  ·have hx:=a0b hlt;have hL:=z8j l[i].1;have hf:=x6e (x0b ((l.take i).map (·.1))) [[.str l[i].1]] 16 (by rw[x0e,a1f,a1q];simp only[a0a,a0d];omega)
   rw[z5b hx,x4y,v8d hx];simp only[go1,Nat.reduceAdd,x1f,x0e,x0i hlt,x0g hlt,y2i hx,hL,a0a,a0d,x0a hlt (by omega)]at hf ⊢
   rw[hf];cases u8u (l.take i)<;>cases x4c (tb l[i].1)<;>rfl
  ·simp only[go1,x1f,x0f,a0u];refine x3x l.length (fun i=>[.sl 2 (x0m l), .int .i64 (l.length:Int), .int .i64 (i:Int), .sl 1 (x0b (l.map (·.1))), .sl 1 (x0b (x1w (l.take i))), .bool (y2c (x1w (l.take i))&&u8u l), .sl 2 (x0m l), .sl 2 (x0m l), .sl 2 (x0m l), .int .i64 (l.length:Int), .int .i64 (l.length:Int), .bool false, .sl 2 (x0m l)]) rfl (fun i hlt=> ?_) ?_
   ·have hx:=a0b hlt;have hci:=h6 _ (a1j hlt);have hb1:=v3f (l:=l) i;rw[z2o hx];simp only[go1,x1f,x0e,x0i hlt,x0g hlt,y2i hx];refine x3x l[i].2.length (fun j=>[.int .i64 (i:Int), .sl 2 (x0m l), .int .i64 (l.length:Int), .int .i64 (i:Int), .sl 1 (x0b l[i].2), .int .i64 (l[i].2.length:Int), .int .i64 (j:Int), .sl 1 (x0b (l.map (·.1))), .sl 1 (x0b (x1w (l.take i)++l[i].2.take j)), .bool (y2c (x1w (l.take i)++l[i].2.take j)&&u8u l), .sl 2 (x0m l), .sl 2 (x0m l), .sl 2 (x0m l), .int .i64 (l.length:Int), .int .i64 (l.length:Int), .bool false, .sl 2 (x0m l)]) (by simp only[List.take_zero,a0z];rfl) (fun j hj=> ?_) ?_
    ·have hy:=a0b hj;have hH:=u3c l[i].2[j];have hf:=x6e (x0b (x1w (l.take i)++l[i].2.take j)) [[.str l[i].2[j]]] 16 (by rw[x0e,a0k,a1q];simp only[a0a,a0d];omega)
     rw[u1g _ (l[i].2.take (j+1)),v2k hy,<-Bool.and_assoc,<-u1g,a1e,hy,a2j,<-List.append_assoc,x4y];simp only[go1,Nat.reduceAdd,x0e,x0i hj,x0g hj,x1c hy,hH,a0a,a0d,x0a hj (by omega)]at hf ⊢
     rw[hf];cases y2c (x1w (l.take i)++l[i].2.take j)<;>cases u8u l<;>cases x3s (tb l[i].2[j])<;>rfl
    ·simp only[go1,x0f,a0u,x0a hlt (by omega)]
     rfl
   ·simp only[go1,x0f,a0u,hO1,hO2];rw[Bool.and_comm (u8u l)];cases y2c (x1w l)&&u8u l
    ·rfl
    ·cases decide (l.map (·.1)).Nodup<;>cases decide (x1w l).Nodup<;>rfl
def k6g (n:Int)(h:0<=n/\n<=1000000):cF 180 [V.nils, .d (.int .i64 n)]=some (.own 123 6 []):=by
 refine x8c ?_;show(match decide (0<=n/\n<=1000000)with
  |true=>some (PRes.own 123 6 [])
  |false=>none)=_
 rw[x1y h]
def y5o (a b:List Dc):x0j a++x0j b=x0j (a++b):=by simp[x0j]
def u2p (L:List (List Dc)):LL:=L.map fun d=>[.sl 6 (x0j d)]
def w0k {l:List (List Dc)}{i:Nat}{x:List Dc}(h:l[i]? =some x):sy.row (u2p l) (i:Int)= [.sl 6 (x0j x)]:=by
 rw[y1r,a0m,a0i];unfold u2p;rw[a0o,h];rfl
def z8h (L:List (List Dc))(h:L.flatten.length<=1000000)(hL:L.length<=1000):cF 143 [.d (.sl 1 (u2p L))]=some (.own 123 6 (x0j L.flatten)):=by
 have hg:=k6g (L.flatten.length:Int) (by omega)
 have hc:(u2p L).length=L.length:=by simp[u2p]
 have hs: ∀i (hi:i < L.length),(L.take (i+1)).flatten=(L.take i).flatten++L[i]:=fun i hi=>by
  rw[a1e,a0b hi,a2j,List.flatten_append,List.flatten_cons,List.flatten_nil,a0z]
 have hb: ∀i,(L.take i).flatten.length<=1000000:=fun i=>by
  have e:L.flatten.length=(L.take i).flatten.length+(L.drop i).flatten.length:=by
   rw[<-a0k,<-List.flatten_append,a1u]
  omega
 refine cO rfl ?_;rw[(g143 ..).2];simp only[g143,go1,Nat.reduceAdd,hc];refine x3x L.length (fun i=>[.sl 1 (u2p L), .int .i64 ((L.take i).flatten.length:Int), .sl 1 (u2p L), .int .i64 (L.length:Int), .int .i64 (i:Int)]) rfl (fun i hlt=> ?_) ?_
 ·have hx:=a0b hlt;have h1:=hb (i+1);have w:IntKind.i64.wrap (((L.take i).flatten.length:Int)+((x0j L[i]).length:Int))=((L.take (i+1)).flatten.length:Int):=by
   rw[hs i hlt,a0k]at h1 ⊢;rw[x0k];rw[x0v (by omega) (by omega)];omega
  simp only[go1,hc,x0i hlt,x0g hlt,w0k hx,w,x1j (p:=((L.take (i+1)).flatten.length:Int) < 0) (by omega),x0a hlt (by omega)]
  rfl
 ·simp only[go1,x0f,a0u,hg,hc];refine x3x L.length (fun i=>[.sl 1 (u2p L), .int .i64 (L.length:Int), .int .i64 (i:Int), .sl 6 (x0j (L.take i).flatten)]) rfl (fun i hlt=> ?_) ?_
  ·have hx:=a0b hlt;have h1:=hb (i+1);rw[hs i hlt,a0k]at h1;have hf:=x6e (x0j (L.take i).flatten) (x0j L[i]) 72 (by rw[x0k,x0k];omega)
   rw[hs i hlt,<-y5o];simp only[go1,Nat.reduceAdd]at hf;simp only[go1,hc,x0i hlt,x0g hlt,w0k hx,hf,x0a hlt (by omega)]
   rfl
  ·simp only[go1,x0f,a0u]
def q6p (n:Nd)(h:(x6t n).length<=1000000):cF 92 [.agg [.d (.str n.n), .d (.sl 6 (x0j n.ins)), .d (.sl 6 (x0j n.outs)), .d (.sl 6 (x0j n.vars)), .d (.sl 7 (x1z n.eqs))]]=some (.val [.sl 6 (x0j (x6t n))]):=by
 have e:[n.ins,n.outs,n.vars].flatten=x6t n:=by simp[x6t]
 have h1:=z8h [n.ins,n.outs,n.vars] (by rw[e];exact h) (by simp)
 rw[e]at h1;have h1:cF 143 [.d (.sl 1 [[.sl 6 (x0j n.ins)],[.sl 6 (x0j n.outs)],[.sl 6 (x0j n.vars)]])]=_:=h1;refine cO rfl ?_;rw[(g92 ..).2];simp only[g92,go1,h1]
def k6c (n:Nd)(h:(x6t n).length<=1000000):cF 52 [.agg [.d (.str n.n), .d (.sl 6 (x0j n.ins)), .d (.sl 6 (x0j n.outs)), .d (.sl 6 (x0j n.vars)), .d (.sl 7 (x1z n.eqs))]]=some (.val [.bool (y6j n)]):=by
 have h1:=q6p n h;have h2:=z2y ((x6t n).map (·.n)) (by rw[a1f];exact h)
 unfold y6j;generalize x6t n=l at h h1 h2 ⊢;refine cO rfl ?_;rw[(g52 ..).2];simp only[g52,go1,Nat.reduceAdd,h1,x0k];refine x3x l.length (fun i=>[.sl 6 (x0j l), .int .i64 (l.length:Int), .int .i64 (i:Int), .sl 1 (x0b ((l.take i).map (·.n)))]) rfl (fun i hlt=> ?_) ?_
 ·have hx:=a0b hlt;have hf:=x6e (x0b ((l.take i).map (·.n))) [[.str l[i].n]] 16 (by rw[x0e,a1f,a1q];simp only[a0a,a0d];omega)
  rw[a1e,hx,a2j,List.map_append,a1m,a1w,x4y];simp only[go1,Nat.reduceAdd,a0a,a0d]at hf;simp only[go1,oD,y1h,x0k,x0i hlt,x0g hlt,x3t hx,hf,a0a,a0d,x0a hlt (by omega)]
  rfl
 ·simp only[go1,x0f,a0u,h2]
def w0w (ens:List En)(k e c:Int):cF 141 [.d (.sl 2 (x0m ens)), .agg [.d (.int .i64 k), .d (.int .i64 e), .d (.int .i64 c)]]=some (.val [.bool (tyB ens k e c)]):=by
 unfold tyB;refine cO rfl ?_;rw[(g141 ..).2];simp only[g141,go1,x1f];cases decide (c < 0)<;>cases decide (8 < c)<;>cases decide (k=1)<;>cases decide (k=2)<;>cases decide (k=3)<;>cases decide (0<=e)<;>rfl
def c_arm (s:BA):cF 142 [.d (.str s)]=some (.val [.bool (y0f s)]):=by
 have h:=u3c s;unfold y0f;refine cO rfl ?_;rw[(g142 ..).2];simp only[g142,go1,h,x1v];rw[show tb x7k=tb (bs [116,114,117,101])from rfl,show tb x4k=tb (bs [102,97,108,115,101])from rfl];cases x3s (tb s)<;>cases decide (tb s=tb (bs [116,114,117,101]))<;>rfl
def z7t {α:Type}{X:Option (List D ⊕ α)}{L:List D}{K:List D->Option α}(h:X=some (.inl L)):v3e X K=K L:=by rw[h];rfl
abbrev nV (n:Nd):V:= .agg [.d (.str n.n), .d (.sl 6 (x0j n.ins)), .d (.sl 6 (x0j n.outs)), .d (.sl 6 (x0j n.vars)), .d (.sl 7 (x1z n.eqs))]
structure EqOK (x:Eqn):Prop where
 ns:x.ns.length<=1000000
 sz:x.e.size<=1000000
 fn:x.e.j0x
 st: ∀s∈x.ns,s.size<=100000
structure DcOK (d:Dc):Prop where
 n:d.n.size<=100000
 o:d.o.size<=100000
 q:d.q.size<=100000
structure NdOK (n:Nd):Prop where
 al:(x6t n).length<=1000000
 eq:n.eqs.length<=1000000
 eo: ∀x∈n.eqs,EqOK x
 dc: ∀d∈x6t n,DcOK d
 nm:n.n.size<=100000
def v3p (ns:List BA)(k m:Int)(s:BA)(o:Int)(a:List BA)(u:List Ex)(h:EqOK ⟨ns, .mk k m s o a u⟩):cF 95 [.agg [.d (.sl 1 (x0b ns)), .d (.int .i64 k), .d (.int .i64 m), .d (.str s), .d (.int .i64 o), .d (.sl 1 (x0b a)), .d (.sl 6 (Ex.rows u))]]=some (.val [.bool (eqB ⟨ns, .mk k m s o a u⟩)]):=by
 have h1:=z8f k m s o a u h.sz h.fn;have hl:ns.length<=1000000:=h.ns;have eE:eqB ⟨ns, .mk k m s o a u⟩=(!(decide ((ns.length:Int)=0))&&(x3c (.mk k m s o a u)&&x9c (.mk k m s o a u))&& !(decide (1 < (ns.length:Int))&& !decide (k=13))&&ns.all fun s=>x4c (tb s)):=rfl
 rw[eE];refine cO rfl ?_;rw[(g95 ..).2];simp only[g95,go1,Int.reduceLE,x0e,h1];cases hz:decide ((ns.length:Int)=0)with
 |true=>rfl
 |false=>
  cases hr:x3c (.mk k m s o a u)&&x9c (.mk k m s o a u)with
  |false=>rfl
  |true=>
   cases hm:decide (1 < (ns.length:Int))&& !decide (k=13)with
   |true=>
    have:decide (1 < (ns.length:Int))=true/\decide (k=13)=false:=by
     revert hm;cases decide (1 < (ns.length:Int))<;>cases decide (k=13)<;>simp
    simp only[go1]
   |false=>
    have e: ∀(K:List D->Option PRes),v3e (bif decide (1 < (ns.length:Int))then some (.inl [.bool (!decide (k=13))])else some (.inl [.bool false])) K=K [.bool false]:=by
     revert hm;cases decide (1 < (ns.length:Int))<;>cases decide (k=13)<;>intro hm K<;>first|rfl|cases hm
    simp only[go1];refine x2k (r0:=PRes.val [.bool false]) (r1:=PRes.val [.bool true]) (fun s:BA=>x4c (tb s)) ns (fun i=>[.sl 1 (x0b ns), .int .i64 (ns.length:Int), .int .i64 (i:Int), .sl 1 (x0b ns), .int .i64 k, .int .i64 m, .str s, .int .i64 o, .sl 1 (x0b a), .sl 6 (Ex.rows u)]) rfl (fun i x hx=> ?_) (fun _=> ?_) ?_
    ·have hlt:=(a0c.1 hx).1;have hL:=z8j x;simp only[go1,Nat.reduceAdd,oE,x0e,x0i hlt,x0g hlt,x1c hx,hL,x0a hlt (by omega),x1y (a2f i)]
     cases x4c (tb x)<;>rfl
    ·simp only[go1,Nat.reduceAdd,oE,x0f];try rfl
    ·cases List.all ns _<;>rfl
def q5v (ens:List En)(n:Nd)(h:NdOK n):cF 50 [.d (.sl 2 (x0m ens)),nV n]=some (.val [.bool (x8x ens n)]):=by
 have h1:=q6p n h.al;have hal:=h.al;have hdl:n.ins.length<=1000000/\n.outs.length<=1000000:=by
  unfold x6t at hal;simp only[a0k]at hal;omega
 have heo:=h.eo;have heq:=h.eq;obtain⟨nm,ins,outs,vars,eqs⟩:=n;unfold x8x;generalize x6t ⟨nm,ins,outs,vars,eqs⟩=l at hal h1 ⊢;simp only at h1 hdl heo heq ⊢;refine cO rfl ?_;rw[(g50 ..).2];simp only[g50,go1,Int.reduceLE,h1,x0k];have hnm:=z8j nm;refine x2k (r0:=PRes.val [.bool false]) (r1:=PRes.val [.bool (y6m ins&&(y6m outs&&(eqs.all eqB&&(x4c (tb nm)&&decide (0 < (outs.length:Int))))))]) (x3z ens) l (fun i=>[.sl 6 (x0j l), .int .i64 (l.length:Int), .int .i64 (i:Int), .str nm, .sl 6 (x0j ins), .sl 6 (x0j outs), .sl 6 (x0j vars), .sl 7 (x1z eqs), .sl 2 (x0m ens)]) rfl (fun i x hx=> ?_) (fun _=> ?_) ?_
 ·have hlt:=(a0c.1 hx).1;have c1:=z8j x.n;have c2:=w0w ens x.k x.e x.c;have c3:=z8j x.o;have c4:=c_arm x.q;unfold x3z v3y;simp only[go1,oD,y1h,x0k,x0i hlt,x0g hlt,x3t hx,c1,c2,c3,c4,x1v,x0a hlt (by omega)]
  cases x4c (tb x.n)<;>cases tyB ens x.k x.e x.c<;>cases decide (tb x.o=tb (bs []))<;>cases decide (tb x.q=tb (bs []))<;>cases x4c (tb x.o)<;>cases y0f x.q<;>first|rfl|(simp only[go1,Nat.reduceAdd,Int.reduceEq,Int.reduceLT,Int.reduceLE,Int.reduceSub,Int.reduceAdd,c2,c3,c4];rfl)
 ·simp only[go1,x0f,x0k];have hin: ∀(L:List Dc) (hL:L.length<=1000000),True:=fun _ _=>trivial
  refine(z7t (L:=[.bool (!(y6m ins&&y6m outs)), .str nm, .sl 6 (x0j ins), .sl 6 (x0j outs), .sl 6 (x0j vars), .sl 7 (x1z eqs)]) ?_).trans ?_
  ·refine x2k (r0:=Sum.inl [.bool true, .str nm, .sl 6 (x0j ins), .sl 6 (x0j outs), .sl 6 (x0j vars), .sl 7 (x1z eqs)]) (r1:=Sum.inl [.bool (!y6m outs), .str nm, .sl 6 (x0j ins), .sl 6 (x0j outs), .sl 6 (x0j vars), .sl 7 (x1z eqs)]) (fun d:Dc=>decide (tb d.o=tb (bs []))) ins (fun i=>[.sl 6 (x0j ins), .int .i64 (ins.length:Int), .int .i64 (i:Int), .str nm, .sl 6 (x0j ins), .sl 6 (x0j outs), .sl 6 (x0j vars), .sl 7 (x1z eqs), .sl 2 (x0m ens)]) rfl (fun i x hx=> ?_) (fun _=> ?_) ?_
   ·have hlt:=(a0c.1 hx).1;simp only[go1,oD,y1h,x0k,x0i hlt,x0g hlt,x3t hx,x1v,x0a hlt (by omega),x1y (a2f i)]
    cases decide (tb x.o=tb (bs []))<;>rfl
   ·simp only[go1,x0f,x0k];refine x2k (r0:=Sum.inr (Sum.inl [.bool true, .str nm, .sl 6 (x0j ins), .sl 6 (x0j outs), .sl 6 (x0j vars), .sl 7 (x1z eqs)])) (r1:=Sum.inr (Sum.inl [.bool false, .str nm, .sl 6 (x0j ins), .sl 6 (x0j outs), .sl 6 (x0j vars), .sl 7 (x1z eqs)])) (fun d:Dc=>decide (tb d.o=tb (bs []))) outs (fun i=>[.sl 6 (x0j outs), .int .i64 (outs.length:Int), .int .i64 (i:Int), .str nm, .sl 6 (x0j ins), .sl 6 (x0j outs), .sl 6 (x0j vars), .sl 7 (x1z eqs), .sl 2 (x0m ens)]) rfl (fun i x hx=> ?_) (fun _=> ?_) ?_
    ·have hlt:=(a0c.1 hx).1;simp only[go1,oD,y1h,x0k,x0i hlt,x0g hlt,x3t hx,x1v,x0a hlt (by omega),x1y (a2f i)]
     cases decide (tb x.o=tb (bs []))<;>rfl
    ·simp only[go1,x0f];try rfl
    ·unfold y6m;cases List.all outs _<;>rfl
   ·unfold y6m;cases List.all ins _<;>cases List.all outs _<;>rfl
  ·simp only[go1];cases hio:y6m ins&&y6m outs with
   |false=>
    simp only[go1]
    revert hio;cases y6m ins<;>cases y6m outs<;>simp
   |true=>
    have:y6m ins=true/\y6m outs=true:=by revert hio;cases y6m ins<;>cases y6m outs<;>simp
    rw[this.1,this.2];simp only[go1,x1d];refine x2k (r0:=Sum.inr (PRes.val [.bool false])) (r1:=Sum.inr (PRes.val [.bool (x4c (tb nm)&&decide (0 < (outs.length:Int)))])) eqB eqs (fun i=>[.sl 7 (x1z eqs), .int .i64 (eqs.length:Int), .int .i64 (i:Int), .str nm, .sl 6 (x0j ins), .sl 6 (x0j outs), .sl 6 (x0j vars), .sl 7 (x1z eqs)]) rfl (fun i x hx=> ?_) (fun _=> ?_) ?_
    ·have hlt:=(a0c.1 hx).1;have hok:=heo x (a0j hx);have hr:=x8v hx;obtain⟨ns,e⟩:=x;obtain⟨k,m,y,o,a,u⟩:=e;have c1:=v3p ns k m y o a u hok;have hr':sy.row (x1z eqs) (i:Int)= [.sl 1 (x0b ns), .int .i64 k, .int .i64 m, .str y, .int .i64 o, .sl 1 (x0b a), .sl 6 (Ex.rows u)]:=hr;simp only[go1,Nat.reduceAdd,oE,x1d,x0i hlt,x0g hlt,hr',c1,x0a hlt (by omega)]
     cases eqB ⟨ns, .mk k m y o a u⟩<;>rfl
    ·simp only[go1,x0f,hnm,x0k]
     try (cases x4c (tb nm)<;>rfl)
    ·cases List.all eqs _<;>rfl
 ·cases List.all l _<;>rfl
def w1k (ens:List En)(nds:List Nd)(hE:ens.length<=1000000)(hN:nds.length<=1000000)(h: ∀n∈nds,NdOK n):cF 20 [.agg [.d (.sl 2 (x0m ens)), .d (.sl 5 (x1k nds))]]=some (.val [.int .i64 (y2l ens nds)]):=by
 have h1:=w0y ens hE;have hO:=z2y (nds.map (·.n)) (by rw[a1f];exact hN)
 unfold y2l;refine cO rfl ?_;rw[(g20 ..).2];simp only[g20,go1,Nat.reduceAdd,Int.reduceLE,h1];cases he:decide (x5y ens=0)with
 |false=>simp only[go1]
 |true=>
  simp only[go1,x0r];refine x3x nds.length (fun i=>[.sl 5 (x1k nds), .int .i64 (nds.length:Int), .int .i64 (i:Int), .sl 2 (x0m ens), .sl 5 (x1k nds), .sl 1 (x0b ((nds.take i).map (·.n)))]) rfl (fun i hlt=> ?_) ?_
  ·have hx:=a0b hlt;have hf:=x6e (x0b ((nds.take i).map (·.n))) [[.str nds[i].n]] 16 (by rw[x0e,a1f,a1q];simp only[a0a,a0d];omega)
   rw[a1e,hx,a2j,List.map_append,a1m,a1w,x4y];simp only[go1,Nat.reduceAdd,a0a,a0d]at hf;simp only[go1,y3j,x0r,x0i hlt,x0g hlt,x3q hx,hf,a0a,a0d,x0a hlt (by omega)]
   rfl
  ·simp only[go1,x0f,a0u,x0r];cases hz:decide ((nds.length:Int)=0)with
   |true=>rfl
   |false=>
    simp only[go1];refine(z7t (L:=[.bool (decide (6 < (nds.length:Int)) || nds.any x8m), .sl 2 (x0m ens), .sl 5 (x1k nds), .sl 1 (x0b (nds.map (·.n)))]) ?_).trans ?_
    ·cases h6:decide (6 < (nds.length:Int))with
     |true=>rfl
     |false=>
      simp only[go1];refine x2k (r0:=Sum.inl [.bool true, .sl 2 (x0m ens), .sl 5 (x1k nds), .sl 1 (x0b (nds.map (·.n)))]) (r1:=Sum.inl [.bool false, .sl 2 (x0m ens), .sl 5 (x1k nds), .sl 1 (x0b (nds.map (·.n)))]) (fun n=> !x8m n) nds (fun i=>[.sl 5 (x1k nds), .int .i64 (nds.length:Int), .int .i64 (i:Int), .sl 2 (x0m ens), .sl 5 (x1k nds), .sl 1 (x0b (nds.map (·.n))), .sl 2 (x0m ens), .sl 5 (x1k nds)]) rfl (fun i x hx=> ?_) (fun _=> ?_) ?_
      ·have hlt:=(a0c.1 hx).1;unfold x8m;simp only[go1,y3j,x0r,x0k,x1d,x0i hlt,x0g hlt,x3q hx,x0a hlt (by omega),x1y (a2f i)]
       cases decide (6 < (x.ins.length:Int))<;>cases decide (6 < (x.outs.length:Int))<;>cases decide (12 < (x.vars.length:Int))<;>cases decide (18 < (x.eqs.length:Int))<;>rfl
      ·simp only[go1,x0f];try rfl
      ·rw[List.any_eq_not_all_not];cases List.all nds _<;>rfl
    ·simp only[go1];cases hg:decide (6 < (nds.length:Int)) || nds.any x8m with
     |true=>rfl
     |false=>
      simp only[go1,x0r];refine(z7t (L:=[.bool (!nds.all (x8x ens)), .sl 2 (x0m ens), .sl 5 (x1k nds), .sl 1 (x0b (nds.map (·.n)))]) ?_).trans ?_
      ·refine x2k (r0:=Sum.inl [.bool true, .sl 2 (x0m ens), .sl 5 (x1k nds), .sl 1 (x0b (nds.map (·.n)))]) (r1:=Sum.inl [.bool false, .sl 2 (x0m ens), .sl 5 (x1k nds), .sl 1 (x0b (nds.map (·.n)))]) (x8x ens) nds (fun i=>[.sl 5 (x1k nds), .int .i64 (nds.length:Int), .int .i64 (i:Int), .sl 2 (x0m ens), .sl 5 (x1k nds), .sl 1 (x0b (nds.map (·.n))), .sl 2 (x0m ens), .sl 5 (x1k nds)]) rfl (fun i x hx=> ?_) (fun _=> ?_) ?_
       ·have hlt:=(a0c.1 hx).1;have c1:=q5v ens x (h x (a0j hx));simp only[go1,y3j,x0r,x0i hlt,x0g hlt,x3q hx,c1,x0a hlt (by omega),x1y (a2f i)]
        cases x8x ens x<;>rfl
       ·simp only[go1,x0f];try rfl
       ·cases List.all nds _<;>rfl
      ·simp only[go1];cases hr:nds.all (x8x ens)with
       |false=>rfl
       |true=>
        simp only[go1,x0r];refine(z7t (L:=[.bool (!nds.all y6j || !decide (nds.map (·.n)).Nodup), .sl 2 (x0m ens), .sl 5 (x1k nds), .sl 1 (x0b (nds.map (·.n)))]) ?_).trans ?_
        ·refine x2k (r0:=Sum.inl [.bool true, .sl 2 (x0m ens), .sl 5 (x1k nds), .sl 1 (x0b (nds.map (·.n)))]) (r1:=Sum.inl [.bool (!decide (nds.map (·.n)).Nodup), .sl 2 (x0m ens), .sl 5 (x1k nds), .sl 1 (x0b (nds.map (·.n)))]) y6j nds (fun i=>[.sl 5 (x1k nds), .int .i64 (nds.length:Int), .int .i64 (i:Int), .sl 2 (x0m ens), .sl 5 (x1k nds), .sl 1 (x0b (nds.map (·.n))), .sl 2 (x0m ens), .sl 5 (x1k nds)]) rfl (fun i x hx=> ?_) (fun _=> ?_) ?_
         ·have hlt:=(a0c.1 hx).1;have c1:=k6c x (h x (a0j hx)).al;simp only[go1,y3j,x0r,x0i hlt,x0g hlt,x3q hx,c1,x0a hlt (by omega),x1y (a2f i)]
          cases y6j x<;>rfl
         ·simp only[go1,x0f,hO];try rfl
         ·cases List.all nds _<;>rfl
        ·simp only[go1];cases !nds.all y6j || !decide (nds.map (·.n)).Nodup<;>rfl
end Go.Vm
end
section
namespace Go.Vm
open Go.Proofs
def q2d {α β:Type}(P:α->Prop)(Q:β->Prop):α ⊕ β->Prop
 | .inl a=>P a
 | .inr b=>Q b
section
variable {α : Type} {Q : α -> Prop}
def x0q {c:Bool}{A B:Option α}(h1:c=true-> ∃p,A=some p/\Q p)(h2:c=false-> ∃p,B=some p/\Q p): ∃p,(bif c then A else B)=some p/\Q p:=by
 cases c with
 |true=>exact h1 rfl
 |false=>exact h2 rfl
def y3b {σ τ:Type}{b:List D->Option (List D ⊕ α)}(l:List τ)(mk:Nat->σ->List D)(I:Nat->σ->Prop)(s:σ)(h:I 0 s){ds:List D}(h0:mk 0 s=ds)
  (hb: ∀i s x,l[i]? =some x->I i s->i < l.length-> ∃r,b (mk i s)=some r/\q2d (fun d=> ∃s',d=mk (i+1) s'/\I (i+1) s') Q r)
  (he: ∀s,I l.length s-> ∃r,b (mk l.length s)=some r/\q2d (fun _=>False) Q r): ∃r,x5f b ds=some r/\Q r:=by
 subst h0
 suffices ∀(n i:Nat) (s:σ),l.length - i=n->i<=l.length->I i s-> ∃r,x5f b (mk i s)=some r/\Q r from this _ 0 s rfl (a0w _) h
 intro n
 induction n with
 |zero=>
  intro i s hn hi hI;have:i=l.length:=by omega
  subst this;obtain⟨r,h1,h2⟩:=he s hI;cases r with
  |inl d=>exact h2.elim
  |inr a=>exact⟨a,by rw[x4n,h1],h2⟩
 |succ n ih=>
  intro i s hn hi hI;have hlt:i < l.length:=by omega
  obtain⟨r,h1,h2⟩:=hb i s l[i] (a0b hlt) hI hlt;cases r with
  |inl d=>
   obtain⟨s',rfl,h3⟩:=h2;obtain⟨r,h4,h5⟩:=ih (i+1) s' (by omega) hlt h3
   exact⟨r,by rw[x4n,h1];exact h4,h5⟩
  |inr a=>exact⟨a,by rw[x4n,h1],h2⟩
def x3d {τ:Type}{b:List D->Option (List D ⊕ α)}(p:Nat)(l:List τ){ds:List D}(h0:ds.set p (.int .i64 ((0:Nat):Int))=ds)
  (hb: ∀i x,l[i]? =some x->i < l.length-> ∃r,b (ds.set p (.int .i64 ((i:Nat):Int)))=some r/\q2d (fun d=>d=ds.set p (.int .i64 ((i+1:Nat):Int))) Q r)
  (he: ∃r,b (ds.set p (.int .i64 ((l.length:Nat):Int)))=some r/\q2d (fun _=>False) Q r): ∃r,x5f b ds=some r/\Q r:=
 y3b l (fun i (_:Unit)=>ds.set p (.int .i64 (i:Int))) (fun _ _=>True) () trivial h0 (fun i s x hx _ hlt=>by
  obtain⟨r,h1,h2⟩:=hb i x hx hlt;refine⟨r,h1,?_⟩;cases r with
  |inl d=>exact⟨(),h2,trivial⟩
  |inr a=>exact h2) fun _ _=>he
def for_n {σ:Type}{b:List D->Option (List D ⊕ α)}(n:Nat)(mk:Nat->σ->List D)(I:Nat->σ->Prop)(s:σ)(h:I 0 s){ds:List D}(h0:mk 0 s=ds)
  (hb: ∀i s,I i s->i < n-> ∃r,b (mk i s)=some r/\q2d (fun d=> ∃s',d=mk (i+1) s'/\I (i+1) s') Q r)
  (he: ∀s,I n s-> ∃r,b (mk n s)=some r/\q2d (fun _=>False) Q r): ∃r,x5f b ds=some r/\Q r:=by
 have e:(List.range n).length=n:=List.length_range;refine y3b (List.range n) mk I s h h0 (fun i s x hx hI hl=>hb i s hI (by omega)) (fun s hI=> ?_)
 rw[e]at hI ⊢;exact he s hI
def u3z {σ:Type}{b:List D->Option (List D ⊕ α)}(mk:σ->List D)(I:σ->Prop)(μ:σ->Nat)(s:σ)(h:I s){ds:List D}(h0:mk s=ds)
  (hb: ∀s,I s-> ∃r,b (mk s)=some r/\q2d (fun d=> ∃s',d=mk s'/\I s'/\μ s' < μ s) Q r): ∃r,x5f b ds=some r/\Q r:=by
 subst h0;generalize hn:μ s=n
 induction n using Nat.strongRecOn generalizing s with
 |_ n ih=>
  obtain⟨r,h1,h2⟩:=hb s h;cases r with
  |inl d=>
   obtain⟨s',rfl,h3,h4⟩:=h2;obtain⟨r,h5,h6⟩:=ih (μ s') (by omega) s' h3 rfl
   exact⟨r,by rw[x4n,h1];exact h5,h6⟩
  |inr a=>exact⟨a,by rw[x4n,h1],h2⟩
end
end Go.Vm
end
section
set_option maxRecDepth 1000000
set_option maxHeartbeats 0
namespace Go.Vm
open Go.Proofs
noncomputable section
def g280 a b c:=(⟨_,pq 280 [.agg [.d (.int .i64 a), .d (.int .i64 b), .d (.int .i64 c)]] 0xc9131e7e064227f3⟩:SQ _)
def g297 a b c:=(⟨_,pq 297 [.agg [.d (.int .i64 a), .d (.int .i64 b), .d (.int .i64 c)]] 0x324fffcc67c0df81⟩:SQ _)
def g292 a:=(⟨_,pq 292 [.d (.sl 3 a)] 0x145d19709470fc7fd1b55161df33b4bbae3986630c79acf04c758e2444eaeb⟩:SQ _)
def k7p a b c d e f g:=(⟨_,pq 302 [.d (.sl 2 a), .agg [.d (.int .i64 b), .d (.int .i64 c), .d (.str d), .d (.int .i64 e), .d (.sl 1 f), .d (.sl 6 g)]] 0x8fb621573042c81b8e8bd35c4cd1e8e85f1a3a896280f8282d9106f18⟩:SQ _)
def g291 a b:=(⟨_,pq 291 [.d (.sl 2 a), .d (.sl 6 b)] 0x2c7c4bbea3f27c646aa44b88b25d80a1db26800f7353e45928346469bac8d563a1e52f2cb3ded86d1b1294b6d0414c91c580d0a04f49eebbfab2f04a3f4d880⟩:SQ _)
def w9m a b c d e f g:=(⟨_,pq 276 [.d (.sl 2 a), .agg [.d (.int .i64 b), .d (.int .i64 c), .d (.str d), .d (.int .i64 e), .d (.sl 1 f), .d (.sl 6 g)]] 0x1644e222f8b169fad7d51f672e7b3ce8444e25b69157450d779fb163b247d1fa8f86f65792de088c5f7a7146⟩:SQ _)
def g96 a b:=(⟨_,pq 96 [.agg [.d (.sl 2 a), .d (.sl 5 b)]] 0x2fef5f9841a166bf3c981d3a9892961915ee63972a6ff8836eabc3fd1099eb0ecb731b483768339c569f39a35167a⟩:SQ _)
def g264 a b c d e f g h i j k l m:=(⟨_,pq 264 [.agg [.d (.sl 2 a), .d (.sl 5 b), .d (.str c), .d (.sl 6 d), .d (.sl 6 e), .d (.sl 6 f), .d (.sl 7 g)], .agg [.d (.int .i64 h), .d (.int .i64 i), .d (.str j), .d (.int .i64 k), .d (.sl 1 l), .d (.sl 6 m)]] 0x180b0fd438ffb1c41031119e10918b35267e05b0b5695856df1abc06a3bfc55dfdf1944d2e9b8f6b1fbd283ced8cdc8c8c7d1a⟩:SQ _)
def k7q a b c d e f g h i j k:=(⟨_,pq 293 [.agg [.d (.sl 2 a), .d (.sl 5 b), .d (.str c), .d (.sl 6 d), .d (.sl 6 e), .d (.sl 6 f), .d (.sl 7 g)], .agg [.d (.int .i64 h), .d (.int .i64 i), .d (.int .i64 j)], .d (.sl 1 k)] 0xeba867d02c49f8cdc44a7a165c9c75293a92eec649f337d2b68bb6f20d44a621eae373c408⟩:SQ _)
def g188 a b c d e f g h i:=(⟨_,pq 188 [.agg [.d (.sl 2 a), .d (.sl 5 b), .d (.str c), .d (.sl 6 d), .d (.sl 6 e), .d (.sl 6 f), .d (.sl 7 g)], .d (.str h), .d (.str i)] 0x34f1cabf5de4d9c0f36a388569bf712dbd853e578dc25e7b60f1bbf26b571d⟩:SQ _)
def q8p a b c d e f g h i j k l m n:=(⟨_,pq 265 [.agg [.d (.sl 2 a), .d (.sl 5 b), .d (.str c), .d (.sl 6 d), .d (.sl 6 e), .d (.sl 6 f), .d (.sl 7 g)], .agg [.d (.int .i64 h), .d (.int .i64 i), .d (.str j), .d (.int .i64 k), .d (.sl 1 l), .d (.sl 6 m)], .d (.sl 3 n)] 0x23547579d956bab5b20fe1361cbfd68361a9750d655da2fe55e264df6024b445372e8f1e17013381d6ca4d77067575bb1cf2ed65f586f7b6f6987b09e2bdbaeabf959adf1080f28292ecc381b604ad6b1db2ff399ae9ec1e4700ee45aa373e604ff37b16dfbc10fcf0⟩:SQ _)
def w2q a b c d e f g h i j k l m n:=(⟨_,pq 278 [.agg [.d (.sl 2 a), .d (.sl 5 b), .d (.str c), .d (.sl 6 d), .d (.sl 6 e), .d (.sl 6 f), .d (.sl 7 g)], .agg [.d (.int .i64 h), .d (.int .i64 i), .d (.str j), .d (.int .i64 k), .d (.sl 1 l), .d (.sl 6 m)], .d (.sl 3 n)] 0x1e93f3f7952a1ee73ddb0454943148ff35a44f296e7ecacebb9294c039337672523b3511077d2504c718ca58f1d84f6b1ac9feabae10649a783dd2fc37ed102278fa0bafcc80321246e4db37a3c2016f9dc1356db93c16fbc433f1a9f5379fe9ed6ce21b1ff3b16389ba6690ca31c8fc227de61b63fc513521241bab244653285f237c7a8069b4329c50⟩:SQ _)
def v4f a b c d e f g h i j k l m n:=(⟨_,pq 279 [.agg [.d (.sl 2 a), .d (.sl 5 b), .d (.str c), .d (.sl 6 d), .d (.sl 6 e), .d (.sl 6 f), .d (.sl 7 g)], .agg [.d (.int .i64 h), .d (.int .i64 i), .d (.str j), .d (.int .i64 k), .d (.sl 1 l), .d (.sl 6 m)], .d (.sl 3 n)] 0x3794e4f8a9dc3810354cf09bfdbe691184c3acb5e47cc9093e2a6744a99139c8397c3f1d02d7e9e4b22b6908ca792b63728433559a01022562846208511e6767f8be3b397b28fabefd1945b3ab7ccdde04fadcc8a0ff4c7d5912a329095898e36c0203b87fda18e94c5898540bbf7abe77e86a25a9d0e0cabbbd0dc724a27437865737c58021432e10319575d0345d157697188d044fbe3a58412f59331e81da3a79b7ca44e09c4674e8b402e4762a1e8125f603d3feaca53ad98d0f256764d6cd1ed35⟩:SQ _)
def g277 a b c d e f g h i j k l m:=(⟨_,pq 277 [.agg [.d (.sl 2 a), .d (.sl 5 b), .d (.str c), .d (.sl 6 d), .d (.sl 6 e), .d (.sl 6 f), .d (.sl 7 g)], .agg [.d (.int .i64 h), .d (.int .i64 i), .d (.str j), .d (.int .i64 k), .d (.sl 1 l), .d (.sl 6 m)]] 0x219538eff2e2fab95c713031bb857437a2e981b17ab116494def53f9bda50c3b151d0b6b8f2a1cfa128b103b69fbf81736ce4⟩:SQ _)
def u3r a b c d e f g h i j k l m:=(⟨_,pq 263 [.agg [.d (.sl 2 a), .d (.sl 5 b), .d (.str c), .d (.sl 6 d), .d (.sl 6 e), .d (.sl 6 f), .d (.sl 7 g)], .agg [.d (.int .i64 h), .d (.int .i64 i), .d (.str j), .d (.int .i64 k), .d (.sl 1 l), .d (.sl 6 m)]] 0x53e44336b6ea491e3cc9e23e72e578b769f1ce11bb5db9dd5ec78619152a8583868d8227ee1f786725372af0019d8d35d34e0b53902615fc98929908c62410413c003236a08e2e8c9e519dfeeb27ea68e1f4d9e4c0b159e38c32778d8ae8170c5eb06c1828c3e055825f69cbeafbace32531e7e25e1fb94efc9d0744298dd755c9c57a0f9af3280dac79b1ad965feac0a4d1c2eb93e4523f9203159175fa9cd0ca133e6aa0a258adee8324782bf469b34b273e1edb5e47574aad68daeb8bfc73da01e061267062bb9a5f07a2c744⟩:SQ _)
def q8r a b c d e f g h i j k l m:=(⟨_,pq 229 [.agg [.d (.sl 2 a), .d (.sl 5 b), .d (.str c), .d (.sl 6 d), .d (.sl 6 e), .d (.sl 6 f), .d (.sl 7 g)], .agg [.d (.int .i64 h), .d (.int .i64 i), .d (.str j), .d (.int .i64 k), .d (.sl 1 l), .d (.sl 6 m)]] 0x77e60c5461a68278f3e97ca1171cee496e215d63b8bd3a743991dfc552f1a6a54d7ad74ca8d14892c26cca5ee7fea23d47d672c018a40907508455b48c192016e2338a4e73ede43770662a65f56ca597b⟩:SQ _)
def k7u a b c d e f g h i j k l m n:=(⟨_,pq 189 [.agg [.d (.sl 2 a), .d (.sl 5 b), .d (.str c), .d (.sl 6 d), .d (.sl 6 e), .d (.sl 6 f), .d (.sl 7 g)], .agg [.d (.sl 1 h), .d (.int .i64 i), .d (.int .i64 j), .d (.str k), .d (.int .i64 l), .d (.sl 1 m), .d (.sl 6 n)]] 0x3c42e0056b112d909f887a7588cc8b07b4cc93662e19d41ceb1cc4efaedb1991ce67d5b62ab44aa99fcf8efe3a129612e363e4ee88ea389b189e6447bb8af90ac73f23ea9698452956e4cd7be9e785d2b0ac35501⟩:SQ _)
def g149 a b c d e f g h:=(⟨_,pq 149 [.agg [.d (.sl 2 a), .d (.sl 5 b), .d (.str c), .d (.sl 6 d), .d (.sl 6 e), .d (.sl 6 f), .d (.sl 7 g)], .d (.int .i64 h)] 0x9014e07e54f676aab14796bcb7ff0dd32f2304408909a6739eb3edcc54629f15fc2353bc2aa231d878dc7355d03bd2e29dabddabcd23895d4cf727c5e43a3c870f483e387b11e074e5d28f969be065a36a06e745bd15000072fe247d0ad1f5c6736f3a64684a8c3c⟩:SQ _)
def g296 a b c:=(⟨_,pq 296 [.agg [.d (.int .i64 a), .d (.int .i64 b), .d (.int .i64 c)]] 0x3d4883a8⟩:SQ _)
def g262 a b:=(⟨_,pq 262 [.d (.sl 2 a), .d (.str b)] 0x7ce45eea3cbf587147b3d654c9e72d004bb2913880e18e09cd3f37a92a4d866258cffbb06f7a39aa9ec38c9ac81a95c2565aa78ed8635be3196c9020aaaf1bd0b966800d5b4d4895b023b8b287d5fd595⟩:SQ _)
def g228 a b:=(⟨_,pq 228 [.d (.sl 2 a), .d (.str b)] 0xb740cfe2ade59071509cd12dd65603f3be84c9bf9fa595e7154cf⟩:SQ _)
def g306 a:=(⟨_,pq 306 [.d (.int .i64 a)] 0x1137238da1672e01644f700cac126ffbe24928681651ce1d477304bd56dc7ec6591bd5733923834db8f8b6ec⟩:SQ _)
def g294 a b c d:=(⟨_,pq 294 [.d (.int .i64 a), .agg [.d (.int .i64 b), .d (.int .i64 c), .d (.int .i64 d)]] 0xdb5ee1451481d6b3a7967e911015f8d01237fe6059647adc06cc53403a28360d7e4e57b4bdcdc535c3e9e138911a09317b6a⟩:SQ _)
def g295 a b c d e f g:=(⟨_,pq 295 [.d (.int .i64 a), .agg [.d (.int .i64 b), .d (.int .i64 c), .d (.int .i64 d)], .agg [.d (.int .i64 e), .d (.int .i64 f), .d (.int .i64 g)]] 0xb722f00a1dc4142fbd9e554e66714de608f74f530432f9235400dc4e0e74cde8537a016f44e64126af6399f88cddee2a360e7b884d477957cb8dd12b03eecb9435545a7881387a06573e8879e9399def74e5ae480e8d962b4391f833dfc8300ec8c1501a56ec435e⟩:SQ _)
def g274 a b c:=(⟨_,pq 274 [.agg [.d (.sl 2 a), .d (.sl 5 b)], .d (.str c)] 0x3e43396fee35fd09e4c81ac458af1bee879bde825d4⟩:SQ _)
def g227 a b c d e f:=(⟨_,pq 227 [.agg [.d (.str a), .d (.sl 6 b), .d (.sl 6 c), .d (.sl 6 d), .d (.sl 7 e)], .d (.str f)] 0x1043bbb54350edca97313be0d93e3fc7ebcb2ad1fc0287f8a9ab612d2bd7d83161c5124b6e12c811fe2b8861c2abee70b00cf8af0a99cd01affc459503a366526942b5465cc2bcb2a60f5602e789ed6e87⟩:SQ _)
def g190 a b c d e f:=(⟨_,pq 190 [.agg [.d (.str a), .d (.sl 6 b), .d (.sl 6 c), .d (.sl 6 d), .d (.sl 7 e)], .d (.str f)] 0xef9c31e82b264dddaff92877c945be069f63bd6ec5932232e5e7bfb1f3da5f3666c22812e1fb45b7d9812aad2c17564c3e4b8d96bfbb677f5fff4cc87d66320b1fcd10d87100f746b2ba8902b7376a01fad375a221fef6ee164b7cbe6482f972fcca7bd3ff00a15dda69c88cf5740f2a2a508e70443054331aad1b2d5cf7405523b246f5442dd6349f6⟩:SQ _)
end
end Go.Vm
end
section
set_option maxRecDepth 100000
set_option maxHeartbeats 4000000
namespace Go.Vm
open Go.Proofs
abbrev pV (ens:List En)(nds:List Nd):V:= .agg [.d (.sl 2 (x0m ens)), .d (.sl 5 (x1k nds))]
def k7g (R:Bool->Prop)(p:PRes):Prop:= ∃b,p= .val [.bool b]/\R b
def w7z (ens:List En)(nds:List Nd)(s:BA)(hl:nds.length<=1000000): ∃p,cF 274 [pV ens nds, .d (.str s)]=some p/\ ∃i:Int,p= .val [.int .i64 i]/\(i < 0\/ ∃(j:Nat) (n:Nd),i=(j:Int)/\nds[j]? =some n):=by
 refine x3g (by kernel_rfl) rfl ?_
 rw[(g274 ..).2];simp only[g274,go1];refine x3d 2 nds rfl (fun i x hx hlt=> ?_) ?_
 ·simp only[go1,List.set,y3j,x0r,x0i hlt,x0g hlt,x3q hx,x1v,x0a hlt (by omega)]
  exact x0q (fun _=>⟨_,rfl,(i:Int),rfl, .inr ⟨i,x,rfl,hx⟩⟩) fun _=>⟨_,rfl,rfl⟩
 ·simp only[go1,List.set,x0r,x0f];exact⟨_,rfl, -1,rfl, .inl (by omega)⟩
def DeclQ (n:Nd)(p:PRes):Prop:=(∃d∈x6t n,p= .val [.str d.n, .int .i64 d.k, .int .i64 d.e, .int .i64 d.c, .str d.o, .str d.q, .bool true])\/p= .val [.str (bs []), .int .i64 0, .int .i64 0, .int .i64 0, .str (bs []), .str (bs []), .bool false]
def w8a (n:Nd)(s:BA)(h:(x6t n).length<=1000000): ∃p,cF 227 [nV n, .d (.str s)]=some p/\DeclQ n p:=by
 have h1:=q6p n h;refine x3g (by kernel_rfl) rfl ?_
 rw[(g227 ..).2];simp only[g227,go1,Int.reduceLT,Int.reduceLE,h1];refine x3d 2 (x6t n) rfl (fun i x hx hlt=> ?_) ?_
 ·simp only[go1,List.set,y1h,x0k,x0i hlt,x0g hlt,x3t hx,x1v,x0a hlt (by omega),x1j (p:=(i:Int) < 0) (by omega)]
  exact x0q (fun _=>⟨_,rfl, .inl ⟨x,a0j hx,rfl⟩⟩) fun _=>⟨_,rfl,rfl⟩
 ·simp only[go1,List.set,x0k,x0f];exact⟨_,rfl, .inr rfl⟩
def ClkQ (p:PRes):Prop:= ∃(l:List Dc) (b:Bool),p= .val [.sl 6 (x0j l), .bool b]/\l.length<=13
def u2g {l:List Dc}{i:Nat}(d:Dc)(h:i < l.length):sy.rput (x0j l) i 0 [.str d.n, .int .i64 d.k, .int .i64 d.e, .int .i64 d.c, .str d.o, .str d.q]=x0j (l.set i d):=by
 have h2:i < (x0j l).length:=by rw[x0k];exact h
 show(x0j l).set i (((x0j l).getD i []).take 0++y1h d++((x0j l).getD i []).drop (0+6))=_;have:(x0j l).getD i []=y1h (l[i]'h):=by simp[x0j,h]
 rw[this];simp[x0j,List.map_set,y1h]
def w5x {l:List Dc}{i:Nat}{d:Dc}(h:l[i]? =some d):sy.rown (x0j l) i=y1h d:=by
 show(x0j l).getD i []=_;simp[x0j,h]
def w8z {l:List Dc}{i:Nat}{d:Dc}(h:l[i]? =some d){α:Type}(f:BA->Int->Int->Int->BA->BA->Option α):oD sy (sy.rown (x0j l) i) 0 f=f d.n d.k d.e d.c d.o d.q:=by
 rw[w5x h];rfl
def oD8 {a b c e f g h k:D}{n o q:BA}{x y z:Int}{α:Type}(F:BA->Int->Int->Int->BA->BA->Option α):oD sy [a,b,c,e,f,g,h,k, .str n, .int .i64 x, .int .i64 y, .int .i64 z, .str o, .str q] 8 F=F n x y z o q:=rfl
def v5d (n:Nd)(s:BA)(h:(x6t n).length<=1000000): ∃p,cF 190 [nV n, .d (.str s)]=some p/\ClkQ p:=by
 have hn:ClkQ (.val [.sl 6 [], .bool false]):=⟨[],false,rfl,by simp⟩
 refine x3g (by kernel_rfl) rfl ?_
 rw[(g190 ..).2];simp only[g190,go1,Nat.reduceAdd];refine for_n 13 (fun i (x:List Dc × BA)=>[.str x.2, .int .i64 (i:Int), .str n.n, .sl 6 (x0j n.ins), .sl 6 (x0j n.outs), .sl 6 (x0j n.vars), .sl 7 (x1z n.eqs), .sl 6 (x0j x.1)]) (fun i x=>x.1.length<=i) ([],s) (by simp) rfl (fun i x hI hlt=> ?_) (fun x hI=> ?_)
 ·obtain⟨_,h1,h2⟩:=w8a n x.2 h;rcases h2 with⟨d, -,rfl⟩|rfl
  ·have hf:=x6e (x0j x.1) [y1h d] 72 (by rw[x0k];simp only[a0a,a0d];omega)
   simp only[go1,Nat.reduceAdd,y1h]at hf;simp only[go1,h1,x1y (p:=(i:Int) < 13) (by omega),x0a hlt (by omega)]
   refine x0q (fun _=> ?_) fun _=> ?_
   rotate_left
   ·rw[hf];exact⟨_,rfl,(x.1++[d],d.o),by simp[x0j,y1h],by simp;omega⟩
   refine u3z (fun (q:Nat × Int × List Dc)=>[.int .i64 (q.1:Int), .int .i64 q.2.1, .str n.n, .sl 6 (x0j n.ins), .sl 6 (x0j n.outs), .sl 6 (x0j n.vars), .sl 7 (x1z n.eqs), .sl 6 (x0j q.2.2), .str d.n, .int .i64 d.k, .int .i64 d.e, .int .i64 d.c, .str d.o, .str d.q]) (fun q=>q.1<=13/\q.2.1 < (q.2.2.length:Int)/\q.2.2.length<=13/\ -1<=q.2.1) (fun q=>(q.2.1+1).toNat) (0,(x.1.length:Int) - 1,x.1) (by simp only;omega) (by simp only[x0k];rw[x0v (by omega) (by omega)];rfl) (fun q hq=> ?_)
   obtain⟨i',j,l⟩:=q;obtain⟨q1,q2,q3,q4⟩:=hq;simp only at q1 q2 q3 q4;simp only[go1,oD8];refine x0q (fun hc=> ?_) fun _=>⟨_,rfl,l,true,rfl,q3⟩
   have hc:=a0e hc;obtain⟨j',rfl⟩:=Int.eq_ofNat_of_zero_le (show 0<=j by omega)
   have hj:j' < l.length:=by omega
   have hi:i' < l.length:=by omega
   obtain⟨dj,e1⟩: ∃d,l[j']? =some d:=⟨_,a0b hj⟩
   obtain⟨di,e2⟩: ∃d,l[i']? =some d:=⟨_,a0b hi⟩
   have hj2:j' < (l.set i' dj).length:=by simpa using hj
   simp only[go1,x0k,x0g hj,x0g hi,a0m,x1y hj,x1y hi];simp only[w8z e1,w8z e2];simp only[u2g dj hi,u2g di hj2,x0k,List.length_set,x1y hj,x1y (show 0<=(j':Int)/\(j':Int) < (l.length:Int) by omega),cond_true]
   refine⟨_,rfl,(i'+1,(j':Int) - 1,(l.set i' dj).set j' di),?_,by simp only[List.length_set];omega,by simp only;omega⟩
   rw[x0a (n:=13) (by omega) (by omega),x0v (by omega) (by omega)];rfl
  ·simp only[go1,h1,x1y (p:=(i:Int) < 13) (by omega)]
   exact⟨_,rfl,hn⟩
 ·simp only[go1];exact⟨_,rfl,hn⟩
structure PB (ens:List En) (nds:List Nd):Prop where
 el:ens.length<=1000000
 ec: ∀e∈ens,e.2.length<=1000000
 nl:nds.length<=1000000
 al: ∀n∈nds,(x6t n).length<=1000000
 ql: ∀n∈nds,n.eqs.length<=1000
 ns: ∀n∈nds,∀x∈n.eqs,x.ns.length<=1000000
 sz: ∀n∈nds,∀x∈n.eqs,x.e.size<=1000
 fn: ∀n∈nds,∀x∈n.eqs,x.e.j0x
 dt: ∀n∈nds,∀d∈x6t n,d.k=3->0<=d.e/\d.e < (ens.length:Int)
def tQ (ens:List En)(k e:Int):Prop:=k=3->0<=e/\e < (ens.length:Int)
section
variable {ens : List En} {nds : List Nd} (hp : PB ens nds)
include hp
theorem q9r (s:BA): ∃p,cF 262 [.d (.sl 2 (x0m ens)), .d (.str s)]=some p/\ ∃(i k:Int) (b:Bool),p= .val [.int .i64 i, .int .i64 k, .bool b]/\(b=true->0<=i/\i < (ens.length:Int)):=by
 have hl:=hp.el;refine x3g (by kernel_rfl) rfl ?_
 rw[(g262 ..).2];simp only[g262,go1];refine x3d 2 ens rfl (fun i x hx hlt=> ?_) ?_
 ·have hxl:=hp.ec x (a0j hx);simp only[go1,Nat.reduceAdd,oT,List.set,x1f,x0i hlt,x0g hlt,y2i hx];refine x3d 6 x.2 rfl (fun j c hc hjl=> ?_) ?_
  ·simp only[go1,List.set,x0e,x0i hjl,x0g hjl,x1c hc,x1v,x0a hjl (by omega)]
   exact x0q (fun _=>⟨_,rfl,_,_,_,rfl,fun _=>⟨by omega,by omega⟩⟩) fun _=>⟨_,rfl,rfl⟩
  ·simp only[go1,List.set,x0e,x0f,x0a hlt (by omega)]
   exact⟨_,rfl,rfl⟩
 ·simp only[go1,Nat.reduceAdd,oT,List.set,x1f,x0f];exact⟨_,rfl,0,0,false,rfl,fun h=>by cases h⟩
def ArmQ (ens:List En)(p:PRes):Prop:= ∃(k e n:Int) (b:Bool),p= .val [.int .i64 k, .int .i64 e, .int .i64 0, .int .i64 n, .bool b]/\tQ ens k e
theorem v1d (s:BA): ∃p,cF 228 [.d (.sl 2 (x0m ens)), .d (.str s)]=some p/\ArmQ ens p:=by
 obtain⟨_,h1,i,k,b,rfl,h2⟩:=q9r hp s;refine x3g (by kernel_rfl) rfl ?_
 rw[(g228 ..).2];simp only[g228,go1,h1];refine x0q (fun _=>⟨_,rfl,2,0,1,true,rfl,fun h=>by cases h⟩) fun _=>x0q (fun _=>⟨_,rfl,2,0,0,true,rfl,fun h=>by cases h⟩) fun _=> ?_
 cases b with
 |false=>exact⟨_,rfl,0,0,0,false,rfl,fun h=>by cases h⟩
 |true=>exact⟨_,rfl,3,i,k,true,rfl,fun _=>h2 rfl⟩
theorem v4w (k m:Int)(s:BA)(o:Int)(a:List BA)(u:List Ex)(h:z3t (.mk k m s o a u)=true):
  ∃p,cF 302 [.d (.sl 2 (x0m ens)),kE k m s o (x0b a) (Ex.rows u)]=some p/\ ∃(n k' e':Int) (b:Bool),p= .val [.int .i64 n, .int .i64 k', .int .i64 e', .int .i64 0, .bool b]/\tQ ens k' e':=by
 obtain⟨_,h1,k',e',n',b,rfl,hb⟩:=v1d hp s;unfold z3t at h
 by_cases h5:k=5
 ·subst h5;simp only[decide_true,cond_true,a0g]at h;obtain⟨ho,hu⟩:=h;split at hu
  ·rename_i k2 m2 s2 o2 a2 u2;have e1:sy.cell (sy.skip 1 (sy.row (Ex.rows [.mk k2 m2 s2 o2 a2 u2]) 0)) 0=some (.int .i64 m2):=rfl;have e2:((Ex.rows [Ex.mk k2 m2 s2 o2 a2 u2]).length:Int)=1:=rfl;refine x3g (by kernel_rfl) rfl ?_
   rw[(k7p ..).2];simp only[k7p,go1,Int.reduceEq,Int.reduceLT,Int.reduceLE,x1y,e2,e1];exact⟨_,rfl,_,1,0,true,rfl,fun h=>by cases h⟩
  ·cases hu
 ·refine x3g (by kernel_rfl) rfl ?_
  rw[(k7p ..).2];simp only[k7p,go1,Int.reduceLE,h1,x1j h5];refine x0q (fun _=>⟨_,rfl,m,1,0,true,rfl,fun h=>by cases h⟩) fun _=>x0q (fun hk=>⟨_,rfl,m,2,0,true,rfl,fun h=>by cases h⟩) fun _=>⟨_,rfl,_,_,_,_,rfl,hb⟩
abbrev T3:=Int × Int × Int
def irow (n:Int):List D:=[.int .i64 n]
def y5g (l:List Int):LL:=l.map irow
omit hp in
theorem y5f (l:List Int):(y5g l).length=l.length:=by simp[y5g]
def q8i (t:T3):List D:=[.int .i64 t.1, .int .i64 t.2.1, .int .i64 t.2.2]
def x2b (l:List T3):LL:=l.map q8i
omit hp in
theorem x2x (l:List T3):(x2b l).length=l.length:=by simp[x2b]
omit hp in
theorem y9y {l:List T3}{i:Nat}{t:T3}(h:l[i]? =some t):sy.row (x2b l) (i:Int)= [.int .i64 t.1, .int .i64 t.2.1, .int .i64 t.2.2]:=by
 rw[y1r,a0m,a0i];unfold x2b;rw[a0o,h];rfl
omit hp in
theorem v4v (t:T3)(l:List T3)(hl:(t::l).length<=1000000): ∃p,cF 292 [.d (.sl 3 (x2b (t::l)))]=some p/\k7g (fun _=>True) p:=by
 have h0:sy.row (x2b (t::l)) 0= [.int .i64 t.1, .int .i64 t.2.1, .int .i64 t.2.2]:=rfl;have hi:decide ((0:Int) < ((t::l).length:Int))=true:=x1y (by simp only[a0a];omega)
 refine x3g (by kernel_rfl) rfl ?_
 rw[(g292 ..).2];simp only[g292,go1,Int.reduceLE];refine x3d 2 (t::l) rfl (fun i x hx hlt=> ?_) ?_
 ·simp only[go1,List.set,x2x,x0i hlt,x0g hlt,y9y hx,h0,hi,x0a hlt (by omega)]
  exact x0q (fun _=>⟨_,rfl,_,rfl,trivial⟩) fun _=>⟨_,rfl,rfl⟩
 ·simp only[go1,List.set,x2x,x0f];exact⟨_,rfl,_,rfl,trivial⟩
end
abbrev BQ:=k7g fun _=>True
theorem bq (b:Bool):BQ (.val [.bool b]):=⟨b,rfl,trivial⟩
def TQ (p:PRes):Prop:= ∃(k e c:Int) (b:Bool),p= .val [.int .i64 k, .int .i64 e, .int .i64 c, .bool b]
theorem tq (k e c:Int)(b:Bool):TQ (.val [.int .i64 k, .int .i64 e, .int .i64 c, .bool b]):=⟨k,e,c,b,rfl⟩
def CelQ (p:PRes):Prop:= ∃(v:List Int) (k e c:Int) (b:Bool),p= .val [.sl 1 (y5g v), .int .i64 k, .int .i64 e, .int .i64 c, .bool b]
abbrev kT (k e c:Int):V:= .agg [.d (.int .i64 k), .d (.int .i64 e), .d (.int .i64 c)]
theorem u4d (k e c:Int): ∃p,cF 280 [kT k e c]=some p/\BQ p:=by
 refine x3g (by kernel_rfl) rfl ?_
 rw[(g280 ..).2];simp only[g280,go1];exact⟨_,rfl,bq _⟩
theorem v4u (k e c:Int): ∃p,cF 297 [kT k e c]=some p/\BQ p:=by
 refine x3g (by kernel_rfl) rfl ?_
 rw[(g297 ..).2];simp only[g297,go1];exact⟨_,rfl,bq _⟩
theorem q9p (k e c:Int): ∃p,cF 296 [kT k e c]=some p/\ ∃k e c:Int,p= .val [.int .i64 k, .int .i64 e, .int .i64 c]:=by
 refine x3g (by kernel_rfl) rfl ?_
 rw[(g296 ..).2];simp only[g296];exact⟨_,rfl,_,_,_,rfl⟩
theorem q1m (o:Int): ∃p,cF 306 [.d (.int .i64 o)]=some p/\ ∃c:Int,p= .val [.int .i64 c]:=by
 refine x3g (by kernel_rfl) rfl ?_
 rw[(g306 ..).2];simp only[g306,go1]
 repeat' first|exact⟨_,rfl,_,rfl⟩|refine x0q (fun _=> ?_) fun _=> ?_
theorem q9o (o k e c:Int): ∃p,cF 294 [.d (.int .i64 o),kT k e c]=some p/\TQ p:=by
 refine x3g (by kernel_rfl) rfl ?_
 rw[(g294 ..).2];simp only[g294,go1,Int.reduceEq]
 repeat' first|exact⟨_,rfl,tq _ _ _ _⟩|refine x0q (fun _=> ?_) fun _=> ?_
theorem q1s (o k e c k2 e2 c2:Int): ∃p,cF 295 [.d (.int .i64 o),kT k e c,kT k2 e2 c2]=some p/\TQ p:=by
 obtain⟨_,h1,g,rfl⟩:=q1m o;refine x3g (by kernel_rfl) rfl ?_
 rw[(g295 ..).2];simp only[g295,go1,h1]
 repeat' first|exact⟨_,rfl,tq _ _ _ _⟩|refine x0q (fun _=> ?_) fun _=> ?_
section
variable {ens : List En} {nds : List Nd} (hp : PB ens nds)
include hp
theorem v4z (u:List Ex)(hu: ∀e∈u,z3t e=true)(h0:u≠[])(hl:u.length<=1000): ∃p,cF 291 [.d (.sl 2 (x0m ens)), .d (.sl 6 (Ex.rows u))]=some p/\CelQ p:=by
 refine x3g (by kernel_rfl) rfl ?_
 rw[(g291 ..).2];simp only[g291,go1,Nat.reduceAdd,Int.reduceLE,x0h];refine y3b u (fun i (x:List Int × List T3)=>[.sl 2 (x0m ens), .sl 6 (Ex.rows u), .int .i64 (u.length:Int), .int .i64 (i:Int), .int .i64 0, .int .i64 0, .int .i64 0, .sl 1 (y5g x.1), .sl 3 (x2b x.2)]) (fun i x=>x.1.length=i/\x.2.length=i) ([],[]) (by simp) rfl (fun i x e he hI hil=> ?_) (fun x hI=> ?_)
 ·obtain⟨I1,I2⟩:=hI;obtain⟨k,m,s,o,a,w⟩:=e;obtain⟨_,h1,n,k',e',b,rfl, -⟩:=v4w hp k m s o a w (hu _ (a0j he));have f1:=x6e (y5g x.1) [[.int .i64 n]] 8 (by rw[y5f];simp only[a0a,a0d];omega)
  have f2:=x6e (x2b x.2) [[.int .i64 k', .int .i64 e', .int .i64 0]] 24 (by rw[x2x];simp only[a0a,a0d];omega)
  simp only[go1,Nat.reduceAdd]at f1 f2;simp only[go1,oE,x0h,x0i hil,x0g hil,x5a he,h1,f1,f2,x0a hil (by omega)]
  refine x0q (fun _=>⟨_,rfl,[],_,_,_,_,rfl⟩) fun _=>⟨_,rfl,(x.1++[n],x.2++[(k',e',0)]),by simp[y5g,irow,x2b,q8i],by simp[I1],by simp[I2]⟩
 ·obtain⟨v,ts⟩:=x;obtain⟨I1,I2⟩:=hI;simp only at I1 I2;cases ts with
  |nil=>cases u with
   |nil=>exact absurd rfl h0
   |cons e u=>cases I2
  |cons t l=>
   obtain⟨_,h1,b,rfl, -⟩:=v4v t l (by omega)
   have hi:decide ((0:Int) < ((t::l).length:Int))=true:=x1y (by simp only[a0a];omega)
   have hi2:decide (0 < (t::l).length)=true:=x1y (by simp only[a0a];omega)
   have hr:sy.rown (x2b (t::l)) 0=q8i t:=rfl;simp only[go1,oE,x0f,h1];refine x0q (fun _=>⟨_,rfl,[],_,_,_,_,rfl⟩) fun _=> ?_
   simp only[go1,x2x,hi,hi2,hr,q8i,Int.toNat_zero];exact⟨_,rfl,v,_,_,_,_,rfl⟩
end
end Go.Vm
end
section
set_option maxRecDepth 1000000
set_option maxHeartbeats 0
namespace Go.Vm
open Go.Proofs
noncomputable section
def g97 a b c:=(⟨_,pq 97 [.agg [.d (.sl 2 a), .d (.sl 5 b), .d (.int .i64 c)]] 0xe59e72977c1875849f18cc3303774c0366d862cfcc84b63c142466658090f0e82c04d39dec289322773fa008d2edcbf9bcb59356df25d35f29675d78c9f9b61b28586fe35b7d4b5ee3604691630751c0a20fa8ca74b62098d7199d553b15686f1d7c⟩:SQ _)
def g191 a b c d e:=(⟨_,pq 191 [.agg [.d (.sl 2 a), .d (.sl 5 b), .d (.int .i64 c)], .d (.str d), .d (.str e)] 0xee4d9dc82ded4d1⟩:SQ _)
def g151 a b c d e f g h i j:=(⟨_,pq 151 [.agg [.d (.sl 2 a), .d (.sl 5 b), .d (.int .i64 c)], .agg [.d (.sl 1 d), .d (.int .i64 e), .d (.int .i64 f), .d (.str g), .d (.int .i64 h), .d (.sl 1 i), .d (.sl 6 j)]] 0x2a056f85e7ad716a8f481ae7b28318f9b814d7c5c340665563b744d3003b2f749e975d833e318af98900731943b94e85fab8c7cd897ce82d246a1524f5e8e34f67894b4cf294c9e3d87de8c76367f95360aa5373914cb2⟩:SQ _)
def q8s a b c d e f g h i j:=(⟨_,pq 194 [.agg [.d (.sl 2 a), .d (.sl 5 b), .d (.int .i64 c)], .agg [.d (.int .i64 d), .d (.int .i64 e), .d (.str f), .d (.int .i64 g), .d (.sl 1 h), .d (.sl 6 i)], .d (.sl 2 j)] 0xc2950aac2a960ddc19bbb61a5bcf99d880d0a6cd14f5a9c193aded2f02b7a8e3dd5ecf2831a346a27d4b2187d94d11b73d74f6e24e9dc536fdf35e52ec4253d9595fd34297a700111655467f1f44fdb3d7b58963b35b6e367292698cd267b65f22f217af423270c5c90f0f5536d35f34a3006f89c327b734fc876b79f967d9faa830e462bfc1fd0e10124d767af104f2ae126fb32fd0ac00cebaf4aa9df4f6⟩:SQ _)
def g193 a b c d e:=(⟨_,pq 193 [.agg [.d (.sl 2 a), .d (.sl 5 b), .d (.int .i64 c)], .d (.str d), .d (.sl 2 e)] 0x188f473efbd40ab51db9da8c7909daaa⟩:SQ _)
def g150 a b c d:=(⟨_,pq 150 [.agg [.d (.sl 2 a), .d (.sl 5 b), .d (.int .i64 c)], .d (.str d)] 0x633feee8761a709c96a85f637b6f2509971e40cc9955d6c516e2a944a6a2814c42dc7bd55820963675a091add7e3c5f5dcfc803fcc62bd7⟩:SQ _)
def w9n a b c d e f g h i j:=(⟨_,pq 234 [.agg [.d (.sl 2 a), .d (.sl 5 b), .d (.int .i64 c)], .agg [.d (.int .i64 d), .d (.int .i64 e), .d (.str f), .d (.int .i64 g), .d (.sl 1 h), .d (.sl 6 i)], .d (.sl 2 j)] 0x11596d3c6a52fc4e81a49df2835538ffc92c65d2a701d0994aa9ac4fbb8dc3a473b173bb7415840e3dae848bca9d41e7dbccc28bf14ef55826d32e3ecb02a01b13bc4e07aa01d35c0ebc857bf010b347162cd345192dde0182⟩:SQ _)
def g54 a b:=(⟨_,pq 54 [.agg [.d (.sl 2 a), .d (.sl 5 b)]] 0x68474f721d02d1eabe41ea3f6b23ad53cef738e5dd95eca4c3e748c7cac22f7fcb9⟩:SQ _)
def g233 a b:=(⟨_,pq 233 [.d (.sl 2 a), .d (.sl 2 b)] 0xa3f7f7b0c1f2e5ae5a70825f06d11d85a929366039f8c81a6298066⟩:SQ _)
def g305 a b:=(⟨_,pq 305 [.d (.sl 1 a), .d (.sl 1 b)] 0x1de11aded2989b41f3a2decf10c3bae95a0a2230ace8c0⟩:SQ _)
def g56 a b:=(⟨_,pq 56 [.d (.sl 1 a), .d (.int .i64 b)] 0xada1c6a4d173544de566ecace01ef1e3ae35⟩:SQ _)
def g195 a b c d e f:=(⟨_,pq 195 [.agg [.d (.int .i64 a), .d (.int .i64 b), .d (.str c), .d (.int .i64 d), .d (.sl 1 e), .d (.sl 6 f)]] 0x3dfe48702bdbcb3baaa31db90a1dc5e29a616644346f1ad54e288529be8542e0365d10bbe7b9f29b9177a9ff6e4cc95387de2211958fb3bd36d3d465e66d98276f28a13f948b4331b973d9a3fb8702e9981c29257aea779435f7652b8493c1790812261a5d02bfc1cd653e12a143d35017cd869069ecbb8b1d0c5ab03b71f7146b13d24f6a07e65a089bd7b97787d3df72f0c62ca45c1672f62096b2e76f0c364aa209a826b98880b047c5a0716f7d97eef8b1473e⟩:SQ _)
def k7x a b c d e f g h i j k l:=(⟨_,pq 152 [.agg [.d (.str a), .d (.sl 6 b), .d (.sl 6 c), .d (.sl 6 d), .d (.sl 7 e)], .agg [.d (.sl 1 f), .d (.int .i64 g), .d (.int .i64 h), .d (.str i), .d (.int .i64 j), .d (.sl 1 k), .d (.sl 6 l)]] 0x1ca0750beec46e93d91b88d0269e8adb61c726a61fea598ef4f2d2ed0445329e16f3ece75024bec21014c82762477c⟩:SQ _)
def g55 a b c d e:=(⟨_,pq 55 [.agg [.d (.str a), .d (.sl 6 b), .d (.sl 6 c), .d (.sl 6 d), .d (.sl 7 e)]] 0x1fc59426e5ed9a97aa4cb3b4ea93235b1463690ed0fa665944bc8ecbe1e6bc49d376c4dce1b56ac6c31841623d1f2eaae320e5ee1917742415eca641c6379891d62e486e845007d849d7733c054a8bb60c015ce5fbed977b73a27bd44818488b863fe49544ada54df5bc8087d784c980f4b864a4a0be353ea4b508964461f4a6ba62fb52d19218583736527251469262793d1488dcafbfb69c3f91b4d4c6a017a547550131a369eab97fd411cecf75f3319b8bdecd9816a9432878140a602007522debb20f712adf6d9d32fbef65af0302aa26822b2277711762ee253c3d69d215f1e551594820f39e401a7fa4eeb53634bcef98f⟩:SQ _)
def g21 a b:=(⟨_,pq 21 [.agg [.d (.sl 2 a), .d (.sl 5 b)]] 0x147c4e67f8771ed15a80d0891a7feb51addec62c056999602287940dc1a874758709555cb8fa4cb678dfa21f30c145f9f02d31ee2a29abb510c9a017731fdb3575dcd4b9296223e4⟩:SQ _)
def q8q a b c d e f g h i j:=(⟨_,pq 235 [.agg [.d (.sl 2 a), .d (.sl 5 b), .d (.int .i64 c)], .agg [.d (.int .i64 d), .d (.int .i64 e), .d (.str f), .d (.int .i64 g), .d (.sl 1 h), .d (.sl 6 i)], .d (.sl 2 j)] 0x1cf166fafc6858afe6bfa9e142df1fb2ee5dea96057ce3ba09b7fa3fd47c230956d2e65d6269e6e697e9ce6bb90f31a11de1bd93156d6e20f202eec97ca124d455bef298ccb0ce50890368478e08b4e0369b8adf50d7f81198d24bb477b7ef8f9a9⟩:SQ _)
def k7y a b:=(⟨_,pq 148 [.agg [.d (.sl 2 a), .d (.sl 5 b)]] 0x127334dcf0ef143de505e7574aa80cd802ef78af44020b22a6cf8803392375b1c153d7ad7c523e771393c92ca6037ca4a62cbc5b88aebad1a53007dcc369fb6cfbe8feaeb372cad6facb4ae19903998f3750cdc4c3affef8db70d7340a0ea0a959086a450673d944932e38709427282995fd15a9cdcb50b5db474c46c5951ac5abae2bc50⟩:SQ _)
end
end Go.Vm
end
section
set_option maxRecDepth 100000
set_option maxHeartbeats 4000000
namespace Go.Vm
open Go.Proofs
theorem y3g {l:List T3}{t:T3}(h:l[0]? =some t):sy.row (x2b l) 0= [.int .i64 t.1, .int .i64 t.2.1, .int .i64 t.2.2]:=y9y h
theorem v8s {n:Nat}(h:0 < n):decide ((0:Int) < (n:Int))=true:=x1y (by omega)
theorem u7i {l:List BA}{x:BA}(h:l[0]? =some x):sy.cell (sy.row (x0b l) 0) 0=some (.str x):=x1c h
theorem y9w (l:List T3)(q:Nat):(x2b l).take q=x2b (l.take q):=by simp[x2b]
theorem v5b (a b:List BA)(ha:a.length<=1000000): ∃p,cF 305 [.d (.sl 1 (x0b a)), .d (.sl 1 (x0b b))]=some p/\BQ p:=by
 refine x3g (by kernel_rfl) rfl ?_
 rw[(g305 ..).2];simp only[g305,go1,x0e];refine x0q (fun _=>⟨_,rfl,bq _⟩) fun h=> ?_
 have h:a.length=b.length:=by simp at h;omega
 refine x3d 3 a rfl (fun i x hx hil=> ?_) ?_
 ·have hi2:i < b.length:=by omega
  simp only[go1,List.set,x0e,x0i hil,x0g hil,x1c hx,x0g hi2,x1c (a0b hi2),x0a hil (by omega)]
  exact x0q (fun _=>⟨_,rfl,bq _⟩) fun _=>⟨_,rfl,rfl⟩
 ·simp only[go1,List.set,x0f];exact⟨_,rfl,bq _⟩
structure ArB (k m:Int) (a:List BA) (u:List Ex):Prop where
 kd:1<=k/\k<=17
 a1:k=5\/k=10\/k=11->u.length=1
 a2:k=6\/k=8\/k=9\/k=15->u.length=2
 a3:k=7\/k=16->u.length=3
 a12:k=12->1<=u.length
 a13:k=13->m=0\/m=1/\1<=u.length
 a14:k=14->1<=u.length
 a11:k=11->a.length=1
theorem q7k {k m:Int}{s:BA}{o:Int}{a:List BA}{u:List Ex}(h:x9o (.mk k m s o a u)=true):ArB k m a u:=by
 unfold x9o at h;simp only[a0g,a0p]at h;obtain⟨hk,hn, -, -,ha,hlo,hhi, -⟩:=h;have hk':1<=k/\k<=17:=by unfold y8g at hk;simpa using hk
 unfold loB at hlo;unfold hiB loB at hhi;refine⟨hk',fun h=> ?_,fun h=> ?_,fun h=> ?_,fun h=> ?_,fun h=> ?_,fun h=> ?_,fun h=> ?_⟩
 ·rcases h with rfl|rfl|rfl<;>simp at hlo hhi<;>omega
 ·rcases h with rfl|rfl|rfl|rfl<;>simp at hlo hhi<;>omega
 ·rcases h with rfl|rfl<;>simp at hlo hhi<;>omega
 ·subst h;simp at hlo hhi;unfold y1a at ha;simp at ha;omega
 ·subst h;simp at hlo hhi;unfold u3o at hn;simp at hn;rcases hn with rfl|rfl<;>simp at hhi hlo<;>omega
 ·subst h;simp at hlo hhi;omega
 ·subst h;unfold y1a at ha;simp at ha;exact ha.2
theorem q3w {α:Type}{l:List α}(h:l.length=1): ∃a,l= [a]:=by
 match l,h with
 | [a],_=>exact⟨a,rfl⟩
theorem k1x {α:Type}{l:List α}(h:l.length=2): ∃a b,l= [a,b]:=by
 match l,h with
 | [a,b],_=>exact⟨a,b,rfl⟩
theorem len3 {α:Type}{l:List α}(h:l.length=3): ∃a b c,l= [a,b,c]:=by
 match l,h with
 | [a,b,c],_=>exact⟨a,b,c,rfl⟩
abbrev xV (ens:List En)(nds:List Nd)(n:Nd):V:= .agg [.d (.sl 2 (x0m ens)), .d (.sl 5 (x1k nds)), .d (.str n.n), .d (.sl 6 (x0j n.ins)), .d (.sl 6 (x0j n.outs)), .d (.sl 6 (x0j n.vars)), .d (.sl 7 (x1z n.eqs))]
section
variable {ens : List En} {nds : List Nd} (hp : PB ens nds)
include hp
theorem v5c (k m:Int)(s:BA)(o:Int)(a:List BA)(u:List Ex)(hs:(Ex.mk k m s o a u).size<=1000)(hf:(Ex.mk k m s o a u).j0x):
  ∃p,cF 276 [.d (.sl 2 (x0m ens)),kE k m s o (x0b a) (Ex.rows u)]=some p/\CelQ p:=by
 have h1:=z8f k m s o a u (by omega) hf
 have hsz:Ex.j0a u<=1000:=by simp only[Ex.size]at hs;omega
 have h2:=v0h k m s o a u (by omega)
 have hul:=x1p u;have h0:CelQ (.val [.sl 1 [], .int .i64 0, .int .i64 0, .int .i64 0, .bool false]):=⟨[],_,_,_,_,rfl⟩;cases hr:x3c (.mk k m s o a u)&&x9c (.mk k m s o a u)with
 |false=>
  rw[hr]at h1;refine x3g (by kernel_rfl) rfl ?_
  rw[(w9m ..).2];simp only[w9m,go1,h1];exact⟨_,rfl,h0⟩
 |true=>
  rw[hr]at h1;cases hc:y5r (.mk k m s o a u)with
  |false=>
   rw[hc]at h2;refine x3g (by kernel_rfl) rfl ?_
   rw[(w9m ..).2];simp only[w9m,go1,h1,h2];exact⟨_,rfl,h0⟩
  |true=>
   rw[hc]at h2;rw[a0g]at hr;have hall:=hr.2;unfold x9c at hall;rw[a0g]at hall
   by_cases h14:k=14
   ·subst h14;have:=(q7k hall.1).a14 rfl;obtain⟨_,h3,v,k',e',c',b,rfl⟩:=v4z hp u (fun x hx=>a0l.1 hc x hx) (by rintro rfl;simp at this) (by omega)
    refine x3g (by kernel_rfl) rfl ?_
    rw[(w9m ..).2];simp only[w9m,go1,h1,h2,h3];refine x0q (fun _=>⟨_,rfl,v,_,_,_,_,rfl⟩) fun _=>⟨_,rfl,v,_,_,_,_,rfl⟩
   ·have hlit:z3t (.mk k m s o a u)=true:=by simp only[y5r,x1j h14,cond_false]at hc;exact hc
    obtain⟨_,h3,v,k',e',c',b,rfl⟩:=v4z hp [.mk k m s o a u] (fun x hx=>by simp at hx;subst hx;exact hlit) (by simp) (by simp)
    have h3:cF 291 [.d (.sl 2 (x0m ens)), .d (.sl 6 [[.int .i64 k, .int .i64 m, .str s, .int .i64 o, .sl 1 (x0b a), .sl 6 (Ex.rows u)]])]=_:=h3;refine x3g (by kernel_rfl) rfl ?_
    rw[(w9m ..).2];simp only[w9m,go1,h1,h2,x1j h14,h3];exact⟨_,rfl,v,_,_,_,_,rfl⟩
variable {n : Nd} (hn : n ∈ nds)
include hn
theorem w3i (s:BA): ∃(m:BA) (k e c:Int) (o q:BA) (b:Bool),cF 227 [nV n, .d (.str s)]=some (.val [.str m, .int .i64 k, .int .i64 e, .int .i64 c, .str o, .str q, .bool b])/\tQ ens k e:=by
 obtain⟨_,h1,⟨d,hd,rfl⟩|rfl⟩:=w8a n s (hp.al n hn)
 ·exact⟨_,_,_,_,_,_,_,h1,fun h=>hp.dt n hn d hd h⟩
 ·exact⟨_,_,_,_,_,_,_,h1,fun h=>by cases h⟩
theorem w7t (s a:BA): ∃p,cF 188 [xV ens nds n, .d (.str s), .d (.str a)]=some p/\BQ p:=by
 obtain⟨dn,dk,de,dc,d1,d2,db,h1, -⟩:=w3i hp hn s;obtain⟨_,h2,k,e,c,b,rfl, -⟩:=v1d hp a;refine x3g (by kernel_rfl) rfl ?_
 rw[(g188 ..).2];simp only[g188,go1,h1,h2];exact⟨_,rfl,bq _⟩
omit hn in
theorem q9n (k e c:Int)(a:List BA)(ha:a.length<=1000000)(ht:tQ ens k e): ∃p,cF 293 [xV ens nds n,kT k e c, .d (.sl 1 (x0b a))]=some p/\BQ p:=by
 obtain⟨_,h1,b1,rfl, -⟩:=u4d k e c;obtain⟨_,h2,b2,rfl, -⟩:=v5b a [bs [116,114,117,101],bs [102,97,108,115,101]] ha;have h2:cF 305 [.d (.sl 1 (x0b a)), .d (.sl 1 [[.str (bs [116,114,117,101])],[.str (bs [102,97,108,115,101])]])]=_:=h2
 by_cases hk:k=3
 ·subst hk;obtain⟨he0,he1⟩:=ht rfl;have hlt:e.toNat < ens.length:=by omega
  have hx:=a0b hlt;have ee:((e.toNat:Nat):Int)=e:=Int.toNat_of_nonneg he0;have hir:=x0g hlt;have hrw:=y2i hx;rw[ee]at hir hrw;obtain⟨_,h3,b3,rfl, -⟩:=v5b a ens[e.toNat].2 ha;have e1:sy.cell (sy.skip 1 [D.str ens[e.toNat].1, .sl 1 (x0b ens[e.toNat].2)]) 0=some (.sl 1 (x0b ens[e.toNat].2)):=rfl;refine x3g (by kernel_rfl) rfl ?_
  rw[(k7q ..).2];simp only[k7q,go1,h1,h2,x1f,hir,hrw,e1,h3];exact x0q (fun _=>⟨_,rfl,bq _⟩) fun _=>x0q (fun _=>⟨_,rfl,bq _⟩) fun _=>⟨_,rfl,bq _⟩
 ·refine x3g (by kernel_rfl) rfl ?_
  rw[(k7q ..).2];simp only[k7q,go1,h1,h2,x1j hk];exact x0q (fun _=>⟨_,rfl,bq _⟩) fun _=>⟨_,rfl,bq _⟩
omit hn in
theorem w7y (k m:Int)(s:BA)(o:Int)(a:List BA)(u:List Ex)(ts:List T3)(hl:ts.length<=1000000)(hm:m=0\/m=1/\1<=ts.length):
  ∃p,cF 265 [xV ens nds n,kE k m s o (x0b a) (Ex.rows u), .d (.sl 3 (x2b ts))]=some p/\ ∃(c:Nd) (b:Bool),p= .val [.str c.n, .sl 6 (x0j c.ins), .sl 6 (x0j c.outs), .sl 6 (x0j c.vars), .sl 7 (x1z c.eqs), .bool b]/\c.outs.length<=1000000:=by
 obtain⟨_,h1,i,rfl,hi⟩:=w7z ens nds s hp.nl
 by_cases hi0:i < 0
 ·refine x3g (by kernel_rfl) rfl ?_
  rw[(q8p ..).2];simp only[q8p,go1,Int.reduceLE,h1,x1y hi0];exact⟨_,rfl,⟨bs [],[],[],[],[]⟩,false,rfl,by simp⟩
 ·obtain⟨j,c,rfl,hj⟩:=hi.resolve_left hi0;have hlt:=(a0c.1 hj).1;have hal:=hp.al c (a0j hj);unfold x6t at hal;simp only[a0k]at hal;have fin: ∀b,∃(x:Nd) (b':Bool),PRes.val [.str c.n, .sl 6 (x0j c.ins), .sl 6 (x0j c.outs), .sl 6 (x0j c.vars), .sl 7 (x1z c.eqs), .bool b]= .val [.str x.n, .sl 6 (x0j x.ins), .sl 6 (x0j x.outs), .sl 6 (x0j x.vars), .sl 7 (x1z x.eqs), .bool b']/\x.outs.length<=1000000:=fun b=>⟨c,b,rfl,by omega⟩
  obtain⟨q,hq,hqe,hq2⟩: ∃q:Nat,q<=ts.length/\IntKind.i64.wrap ((ts.length:Int) - m)=(q:Int)/\(m=1->q < ts.length):=by
   rcases hm with rfl|⟨rfl,hm⟩
   ·exact⟨ts.length,a0q _,by rw[x0v (by omega) (by omega)];omega,by omega⟩
   ·exact⟨ts.length - 1,by omega,by rw[x0v (by omega) (by omega)];omega,by omega⟩
  have hck:decide (0<=(q:Int)/\(q:Int)<=(ts.length:Int))=true:=x1y (by omega)
  have hlq:(ts.take q).length=q:=by rw[a1q];omega
  by_cases h1m:m=1
  case' pos=>
   have hql:=hq2 h1m;have ht:=a0b hql;obtain⟨_,h4,b4,rfl, -⟩:=u4d ts[q].1 ts[q].2.1 ts[q].2.2;refine x3g (by kernel_rfl) rfl ?_
   rw[(q8p ..).2];simp only[q8p,go1,Int.reduceLE,h1,x1j hi0,y3j,x0r,x0g hlt,x3q hj,x2x,hqe,hck,a0m,Int.toNat_zero,y9w,a1y,hlq,x1y h1m,x0g hql,y9y ht,h4,x0k];refine x0q (fun _=>⟨_,rfl,⟨bs [],[],[],[],[]⟩,false,rfl,by simp⟩) fun _=> ?_
  case' neg=>
   refine x3g (by kernel_rfl) rfl ?_
   rw[(q8p ..).2];simp only[q8p,go1,Int.reduceLE,h1,x1j hi0,y3j,x0r,x0g hlt,x3q hj,x2x,hqe,hck,a0m,Int.toNat_zero,y9w,a1y,hlq,x1j h1m,x0k]
  all_goals
   refine x0q (fun _=>⟨_,rfl,fin _⟩) fun hc=> ?_
   have hc:c.ins.length=q:=by simp at hc;omega
   refine x3d 3 c.ins rfl (fun i d hd hil=> ?_) ?_
   ·have hi2:i < (ts.take q).length:=by omega
    simp only[go1,oD,List.set,y1h,x0k,x2x,x0i hil,x0g hil,x3t hd,x0g hi2,y9y (a0b hi2),x0a hil (by omega)]
    exact x0q (fun _=>⟨_,rfl,fin _⟩) fun _=>⟨_,rfl,rfl⟩
   ·simp only[go1,List.set,x0f];exact⟨_,rfl,fin _⟩
end
theorem q1h (ens:List En)(nds:List Nd)(n:Nd)(k m:Int)(s:BA)(o:Int)(a:List BA)(u:List Ex)(ts:List T3)(hp:ArB k m a u)(hl:ts.length=u.length)(hm:u.length<=1000)(hk:k=5\/k=6\/k=7\/k=14\/k=15\/k=16):
  ∃p,cF 279 [xV ens nds n,kE k m s o (x0b a) (Ex.rows u), .d (.sl 3 (x2b ts))]=some p/\TQ p:=by
 rcases hk with rfl|rfl|rfl|rfl|rfl|rfl
 ·obtain⟨t0,rfl⟩:=q3w (hl.trans (hp.a1 (.inl rfl)));obtain⟨_,h1,k',e',c',b,rfl⟩:=q9o o t0.1 t0.2.1 t0.2.2;have l1:((x2b [t0]).length:Int)=1:=rfl;refine x3g (by kernel_rfl) rfl ?_
  rw[(v4f ..).2];simp only[v4f,go1,Int.reduceEq,Int.reduceLT,Int.reduceLE,l1,y3g (l:=[t0]) rfl,h1];exact⟨_,rfl,tq _ _ _ _⟩
 ·obtain⟨t0,t1,rfl⟩:=k1x (hl.trans (hp.a2 (.inl rfl)));obtain⟨_,h1,k',e',c',b,rfl⟩:=q1s o t0.1 t0.2.1 t0.2.2 t1.1 t1.2.1 t1.2.2;have l1:((x2b [t0,t1]).length:Int)=2:=rfl;have r1:sy.row (x2b [t0,t1]) 1= [.int .i64 t1.1, .int .i64 t1.2.1, .int .i64 t1.2.2]:=rfl;refine x3g (by kernel_rfl) rfl ?_
  rw[(v4f ..).2];simp only[v4f,go1,Int.reduceEq,Int.reduceLT,Int.reduceLE,l1,y3g (l:=[t0,t1]) rfl,r1,h1];exact⟨_,rfl,tq _ _ _ _⟩
 ·obtain⟨t0,t1,t2,rfl⟩:=len3 (hl.trans (hp.a3 (.inl rfl)));obtain⟨_,h1,b,rfl, -⟩:=u4d t0.1 t0.2.1 t0.2.2;have l1:((x2b [t0,t1,t2]).length:Int)=3:=rfl;have r1:sy.row (x2b [t0,t1,t2]) 1= [.int .i64 t1.1, .int .i64 t1.2.1, .int .i64 t1.2.2]:=rfl;have r2:sy.row (x2b [t0,t1,t2]) 2= [.int .i64 t2.1, .int .i64 t2.2.1, .int .i64 t2.2.2]:=rfl;refine x3g (by kernel_rfl) rfl ?_
  rw[(v4f ..).2];simp only[v4f,go1,Int.reduceEq,Int.reduceLT,Int.reduceLE,l1,y3g (l:=[t0,t1,t2]) rfl,r1,r2,h1];exact x0q (fun _=>⟨_,rfl,tq _ _ _ _⟩) fun _=>⟨_,rfl,tq _ _ _ _⟩
 ·have hu:=hp.a14 rfl;cases ts with
  |nil=>simp only[a0d]at hl;omega
  |cons t l=>
   obtain⟨_,h1,b,rfl, -⟩:=v4v t l (by omega)
   have e2:sy.cell (sy.skip 2 [D.int .i64 t.1,D.int .i64 t.2.1,D.int .i64 t.2.2]) 0=some (.int .i64 t.2.2):=rfl;refine x3g (by kernel_rfl) rfl ?_
   rw[(v4f ..).2];simp only[v4f,go1,Int.reduceEq,Int.reduceLE,x2x,v8s (show 0 < (t::l).length by omega),y3g (l:=t::l) rfl,e2,h1]
   exact x0q (fun _=>⟨_,rfl,tq _ _ _ _⟩) fun _=>⟨_,rfl,tq _ _ _ _⟩
 ·obtain⟨t0,t1,rfl⟩:=k1x (hl.trans (hp.a2 (.inr (.inr (.inr rfl)))));obtain⟨_,h1,k1,e1,c1,rfl⟩:=q9p t0.1 t0.2.1 t0.2.2;obtain⟨_,h2,b,rfl, -⟩:=v4u t1.1 t1.2.1 t1.2.2;have l1:((x2b [t0,t1]).length:Int)=2:=rfl;have r1:sy.row (x2b [t0,t1]) 1= [.int .i64 t1.1, .int .i64 t1.2.1, .int .i64 t1.2.2]:=rfl;have e2:sy.cell (sy.skip 2 [D.int .i64 t0.1,D.int .i64 t0.2.1,D.int .i64 t0.2.2]) 0=some (.int .i64 t0.2.2):=rfl;refine x3g (by kernel_rfl) rfl ?_
  rw[(v4f ..).2];simp only[v4f,go1,Int.reduceEq,Int.reduceLT,Int.reduceLE,l1,y3g (l:=[t0,t1]) rfl,r1,h1,h2,e2];exact x0q (fun _=>⟨_,rfl,tq _ _ _ _⟩) fun _=>⟨_,rfl,tq _ _ _ _⟩
 ·obtain⟨t0,t1,t2,rfl⟩:=len3 (hl.trans (hp.a3 (.inr rfl)));obtain⟨_,h1,k1,e1,c1,rfl⟩:=q9p t0.1 t0.2.1 t0.2.2;obtain⟨_,h2,b,rfl, -⟩:=v4u t1.1 t1.2.1 t1.2.2;have l1:((x2b [t0,t1,t2]).length:Int)=3:=rfl;have r1:sy.row (x2b [t0,t1,t2]) 1= [.int .i64 t1.1, .int .i64 t1.2.1, .int .i64 t1.2.2]:=rfl;have r2:sy.row (x2b [t0,t1,t2]) 2= [.int .i64 t2.1, .int .i64 t2.2.1, .int .i64 t2.2.2]:=rfl;have e2:sy.cell (sy.skip 2 [D.int .i64 t0.1,D.int .i64 t0.2.1,D.int .i64 t0.2.2]) 0=some (.int .i64 t0.2.2):=rfl;refine x3g (by kernel_rfl) rfl ?_
  rw[(v4f ..).2];simp only[v4f,go1,Int.reduceEq,Int.reduceLT,Int.reduceLE,l1,y3g (l:=[t0,t1,t2]) rfl,r1,r2,h1,h2,e2]
  repeat' first|exact⟨_,rfl,tq _ _ _ _⟩|refine x0q (fun _=> ?_) (fun _=> ?_)
section
variable {ens : List En} {nds : List Nd} (hp : PB ens nds) {n : Nd} (hn : n ∈ nds)
include hp hn
theorem q9l (k m:Int)(s:BA)(o:Int)(a:List BA)(u:List Ex)(ts:List T3)(hb:ArB k m a u)(ha:a.length<=1000000)(hl:ts.length=u.length)(hm:u.length<=1000)(hk:k=9\/k=10\/k=11\/k=12\/k=13):
  ∃p,cF 278 [xV ens nds n,kE k m s o (x0b a) (Ex.rows u), .d (.sl 3 (x2b ts))]=some p/\TQ p:=by
 rcases hk with rfl|rfl|rfl|rfl|rfl
 ·obtain⟨t0,t1,rfl⟩:=k1x (hl.trans (hb.a2 (.inr (.inr (.inl rfl)))));have l1:((x2b [t0,t1]).length:Int)=2:=rfl;have r1:sy.row (x2b [t0,t1]) 1= [.int .i64 t1.1, .int .i64 t1.2.1, .int .i64 t1.2.2]:=rfl;refine x3g (by kernel_rfl) rfl ?_
  rw[(w2q ..).2];simp only[w2q,go1,Int.reduceEq,Int.reduceLT,Int.reduceLE,l1,y3g (l:=[t0,t1]) rfl,r1];exact⟨_,rfl,tq _ _ _ _⟩
 ·obtain⟨t0,rfl⟩:=q3w (hl.trans (hb.a1 (.inr (.inl rfl))));have l1:((x2b [t0]).length:Int)=1:=rfl;refine x3g (by kernel_rfl) rfl ?_
  rw[(w2q ..).2];simp only[w2q,go1,Int.reduceEq,Int.reduceLT,Int.reduceLE,l1,y3g (l:=[t0]) rfl];exact⟨_,rfl,tq _ _ _ _⟩
 ·obtain⟨t0,rfl⟩:=q3w (hl.trans (hb.a1 (.inr (.inr rfl))));obtain⟨a0,rfl⟩:=q3w (hb.a11 rfl);obtain⟨_,h1,b,rfl, -⟩:=w7t hp hn s a0;have l1:((x2b [t0]).length:Int)=1:=rfl;have l2:((x0b [a0]).length:Int)=1:=rfl;refine x3g (by kernel_rfl) rfl ?_
  rw[(w2q ..).2];simp only[w2q,go1,Int.reduceEq,Int.reduceLT,Int.reduceLE,l1,l2,y3g (l:=[t0]) rfl,u7i (l:=[a0]) rfl,h1];exact⟨_,rfl,tq _ _ _ _⟩
 ·have hu:=hb.a12 rfl;obtain⟨dn,dk,de,dc,d1,d2,db,h1,ht⟩:=w3i hp hn s;obtain⟨_,h3,b3,rfl, -⟩:=q9n hp (n:=n) dk de dc a ha ht;cases ts with
  |nil=>simp only[a0d]at hl;omega
  |cons t l=>
   obtain⟨_,h2,b,rfl, -⟩:=v4v t l (by omega)
   refine x3g (by kernel_rfl) rfl ?_
   rw[(w2q ..).2];simp only[w2q,go1,Int.reduceEq,Int.reduceLE,x2x,v8s (show 0 < (t::l).length by omega),y3g (l:=t::l) rfl,h1,h2]
   repeat' first|exact⟨_,rfl,tq _ _ _ _⟩|refine x0q (fun _=> ?_) (fun _=> ?_)
   rw[h3];exact⟨_,rfl,tq _ _ _ _⟩
 ·obtain⟨_,h1,c,b,rfl,ho⟩:=w7y hp (n:=n) 13 m s o a u ts (by omega) (by have:=hb.a13 rfl;omega)
  refine x3g (by kernel_rfl) rfl ?_
  rw[(w2q ..).2];simp only[w2q,go1,Int.reduceEq,Int.reduceLE,h1,x0k];refine x0q (fun _=>⟨_,rfl,tq _ _ _ _⟩) fun hc=> ?_
  have hc:c.outs.length=1:=by simp at hc;omega
  obtain⟨d,hd⟩:=q3w hc;have r0:sy.row (x0j c.outs) 0=y1h d:=by rw[hd];rfl
  have e0: ∀ {K:Nat},sy.skip 1 (y1h d)= [.int .i64 d.k, .int .i64 d.e, .int .i64 d.c, .str d.o, .str d.q]:=rfl
  simp only[go1,v8s (show 0 < c.outs.length by omega),r0,e0 (K:=0)]
  exact⟨_,rfl,tq _ _ _ _⟩
theorem w7v (k m:Int)(s:BA)(o:Int)(a:List BA)(u:List Ex)(hul:u.length<=1000)(hu: ∀k m s o a v,Ex.mk k m s o a v∈u-> ∃p,cF 263 [xV ens nds n,kE k m s o (x0b a) (Ex.rows v)]=some p/\TQ p):
  ∃p,cF 264 [xV ens nds n,kE k m s o (x0b a) (Ex.rows u)]=some p/\ ∃(ts:List T3) (b:Bool),p= .val [.sl 3 (x2b ts), .bool b]/\(b=true->ts.length=u.length):=by
 refine x3g (by kernel_rfl) rfl ?_
 rw[(g264 ..).2];simp only[g264,go1,Nat.reduceAdd,x0h];refine y3b u (fun i (ts:List T3)=>[.sl 6 (Ex.rows u), .int .i64 (u.length:Int), .int .i64 (i:Int), .sl 2 (x0m ens), .sl 5 (x1k nds), .str n.n, .sl 6 (x0j n.ins), .sl 6 (x0j n.outs), .sl 6 (x0j n.vars), .sl 7 (x1z n.eqs), .sl 3 (x2b ts)]) (fun i ts=>ts.length=i) [] rfl rfl (fun i ts e he hI hil=> ?_) (fun ts hI=> ?_)
 ·obtain⟨ek,em,es,eo,ea,eu⟩:=e;obtain⟨_,h1,k',e',c',b,rfl⟩:=hu _ _ _ _ _ _ (a0j he);have hf:=x6e (x2b ts) [[.int .i64 k', .int .i64 e', .int .i64 c']] 24 (by rw[x2x];simp only[a0a,a0d];omega)
  simp only[go1,Nat.reduceAdd]at hf;simp only[go1,oE,x0h,x0i hil,x0g hil,x5a he,h1,hf,x0a hil (by omega)]
  exact x0q (fun _=>⟨_,rfl,[],false,rfl,fun h=>by cases h⟩) fun _=>⟨_,rfl,ts++[(k',e',c')],by simp[x2b,q8i],by simp[hI]⟩
 ·simp only[go1,x0f];exact⟨_,rfl,ts,true,rfl,fun _=>hI⟩
end
theorem y2g: ∀ {u:List Ex},Ex.j1r u-> ∀x∈u,x.j0x
 | [],_,x,hx=>by cases hx
 |e::u,h,x,hx=>by
  rcases a1n.1 hx with rfl|hx
  ·exact h.1
  ·exact y2g h.2 x hx
theorem z3g: ∀ {u:List Ex},y3d u=true-> ∀x∈u,x9c x=true
 | [],_,x,hx=>by cases hx
 |e::u,h,x,hx=>by
  unfold y3d at h;rw[a0g]at h;rcases a1n.1 hx with rfl|hx
  ·exact h.1
  ·exact z3g h.2 x hx
structure PA (ens:List En) (nds:List Nd):Prop extends PB ens nds where
 ab: ∀n∈nds,∀x∈n.eqs,x9c x.e=true
 n0: ∀n∈nds,∀x∈n.eqs,x.ns≠[]
section
variable {ens : List En} {nds : List Nd} (hp : PB ens nds) {n : Nd} (hn : n ∈ nds)
include hp hn
theorem k8q (k m:Int)(s:BA)(o:Int)(a:List BA)(u:List Ex)(hs:(Ex.mk k m s o a u).size<=1000)(hf:(Ex.mk k m s o a u).j0x)(hb:ArB k m a u)(hu: ∀k m s o a v,Ex.mk k m s o a v∈u-> ∃p,cF 263 [xV ens nds n,kE k m s o (x0b a) (Ex.rows v)]=some p/\TQ p):
  ∃p,cF 263 [xV ens nds n,kE k m s o (x0b a) (Ex.rows u)]=some p/\TQ p:=by
 have hsz:Ex.j0a u<=1000:=by simp only[Ex.size]at hs;omega
 have hul:=x1p u;have ha:a.length<=1000000:=hf.1.2.2;have hkd:=hb.kd;obtain⟨_,h1,v,k1,e1,c1,b1,rfl⟩:=v5c hp k m s o a u hs hf;obtain⟨dn,dk,de,dc,d1,d2,db,h2, -⟩:=w3i hp hn s;obtain⟨_,h3,ts,b3,rfl,h3q⟩:=w7v hp hn k m s o a u (by omega) hu
 rcases(by omega:(k=1\/k=2\/k=4)\/k=3\/k=8\/k=17\/(k=9\/k=10\/k=11\/k=12\/k=13)\/(k=5\/k=6\/k=7\/k=14\/k=15\/k=16))with hk|rfl|rfl|rfl|hk|hk
 ·refine x3g (by kernel_rfl) rfl ?_
  rw[(u3r ..).2];simp only[u3r,go1,h1];rcases hk with rfl|rfl|rfl<;>simp only[go1,Int.reduceEq]<;>exact⟨_,rfl,tq _ _ _ _⟩
 ·refine x3g (by kernel_rfl) rfl ?_
  rw[(u3r ..).2];simp only[u3r,go1,Int.reduceEq,h2];exact⟨_,rfl,tq _ _ _ _⟩
 ·obtain⟨c,e,rfl⟩:=k1x (hb.a2 (by omega))
  have hcs:c.size<=1000/\e.size<=1000:=by simp only[Ex.j0a]at hsz;omega
  have hfc:c.j0x:=hf.2.1;obtain⟨ck,cm,cs',co,ca,cu⟩:=c;obtain⟨ek,em,es,eo,ea,eu⟩:=e;obtain⟨_,h4,v4,k4,e4,c4,b4,rfl⟩:=v5c hp ck cm cs' co ca cu hcs.1 hfc;obtain⟨_,h5,k5,e5,c5,b5,rfl⟩:=hu ek em es eo ea eu (by simp)
  have h6: ∃p,cF 277 [xV ens nds n,kE 8 m s o (x0b a) (Ex.rows [.mk ck cm cs' co ca cu, .mk ek em es eo ea eu])]=some p/\TQ p:=by
   have l2:((Ex.rows [.mk ck cm cs' co ca cu, .mk ek em es eo ea eu]).length:Int)=2:=rfl;have r0:sy.row (Ex.rows [.mk ck cm cs' co ca cu, .mk ek em es eo ea eu]) 0= [.int .i64 ck, .int .i64 cm, .str cs', .int .i64 co, .sl 1 (x0b ca), .sl 6 (Ex.rows cu)]:=rfl;have r1:sy.row (Ex.rows [.mk ck cm cs' co ca cu, .mk ek em es eo ea eu]) 1= [.int .i64 ek, .int .i64 em, .str es, .int .i64 eo, .sl 1 (x0b ea), .sl 6 (Ex.rows eu)]:=rfl;refine x3g (by kernel_rfl) rfl ?_
   rw[(g277 ..).2];simp only[g277,go1,Int.reduceLT,Int.reduceLE,oE,l2,r0,r1,h4,h5]
   repeat' first|exact⟨_,rfl,tq _ _ _ _⟩|refine x0q (fun _=> ?_) (fun _=> ?_)
  obtain⟨_,h6,k6,e6,c6,b6,rfl⟩:=h6;refine x3g (by kernel_rfl) rfl ?_
  rw[(u3r ..).2];simp only[u3r,go1,Int.reduceEq,h6];exact⟨_,rfl,tq _ _ _ _⟩
 ·refine x3g (by kernel_rfl) rfl ?_
  rw[(u3r ..).2];simp only[u3r,go1,Int.reduceEq];exact⟨_,rfl,tq _ _ _ _⟩
 ·cases b3 with
  |false=>
   refine x3g (by kernel_rfl) rfl ?_
   rw[(u3r ..).2];simp only[u3r,go1,h1,h3];rcases hk with rfl|rfl|rfl|rfl|rfl<;>simp only[go1,Int.reduceEq]<;>exact⟨_,rfl,tq _ _ _ _⟩
  |true=>
   obtain⟨_,h4,k4,e4,c4,b4,rfl⟩:=q9l hp hn k m s o a u ts hb ha (h3q rfl) (by omega) hk
   refine x3g (by kernel_rfl) rfl ?_
   rw[(u3r ..).2];simp only[u3r,go1,h1,h3,h4];rcases hk with rfl|rfl|rfl|rfl|rfl<;>simp only[go1,Int.reduceEq]<;>exact⟨_,rfl,tq _ _ _ _⟩
 ·cases b3 with
  |false=>
   refine x3g (by kernel_rfl) rfl ?_
   rw[(u3r ..).2];simp only[u3r,go1,h1,h3];rcases hk with rfl|rfl|rfl|rfl|rfl|rfl<;>simp only[go1,Int.reduceEq]<;>exact⟨_,rfl,tq _ _ _ _⟩
  |true=>
   obtain⟨_,h4,k4,e4,c4,b4,rfl⟩:=q1h ens nds n k m s o a u ts hb (h3q rfl) (by omega) hk
   refine x3g (by kernel_rfl) rfl ?_
   rw[(u3r ..).2];simp only[u3r,go1,h1,h3,h4];rcases hk with rfl|rfl|rfl|rfl|rfl|rfl<;>simp only[go1,Int.reduceEq]<;>exact⟨_,rfl,tq _ _ _ _⟩
theorem k8r: ∀(N:Nat) (k m:Int) (s:BA) (o:Int) (a:List BA) (u:List Ex),(Ex.mk k m s o a u).size<=N->(Ex.mk k m s o a u).size<=1000->(Ex.mk k m s o a u).j0x->x9c (.mk k m s o a u)=true->
  ∃p,cF 263 [xV ens nds n,kE k m s o (x0b a) (Ex.rows u)]=some p/\TQ p
 |0,k,m,s,o,a,u,h,_,_,_=>by simp only[Ex.size]at h;omega
 |N+1,k,m,s,o,a,u,h,hs,hf,hb=>by
  unfold x9c at hb;rw[a0g]at hb;refine k8q hp hn k m s o a u hs hf (q7k hb.1) fun k' m' s' o' a' v he=> ?_
  obtain⟨i,hi⟩:=List.getElem?_of_mem he;have h1:=x2s hi;rw[Ex.size]at h hs;exact k8r N k' m' s' o' a' v (by omega) (by omega) (y2g hf.2 _ he) (z3g hb.2 _ he)
end
end Go.Vm
end
