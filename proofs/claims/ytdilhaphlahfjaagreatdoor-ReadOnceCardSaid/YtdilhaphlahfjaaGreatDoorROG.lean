/- Part ROG of the proof. What is proved by the whole: the statement that the claim names, with no condition. -/
import Derived.Test.YtdilhaphlahfjaaGreatDoorROF
import Derived.Laws.Strings
set_option linter.all false
section
namespace Go.Vm
def tb (s:BA):List Nat:=s.data.toList.map UInt8.toNat
def x2g (s:BA):(tb s).length=s.size:=by
 unfold tb;rw[a1f,Array.length_toList];rfl
def z3h: ∀ {a b:List UInt8},a.map UInt8.toNat=b.map UInt8.toNat->a=b
 | [],[],_=>rfl
 | [],_::_,h=>by simp at h
 |_::_,[],h=>by simp at h
 |x::a,y::b,h=>by
  simp only[a1o,List.cons.injEq]at h;rw[UInt8.toNat_inj.1 h.1,z3h h.2]
def x3f {s u:BA}(h:tb s=tb u):s=u:=by
 have h1:s.data.toList=u.data.toList:=by
  unfold tb at h;exact z3h h
 cases s;cases u;simp only[ByteArray.mk.injEq];exact Array.toList_inj.1 h1
def q7p {s u:BA}:tb s=tb u↔s=u:=⟨x3f,fun h=>by rw[h]⟩
def u1y {s u:BA}(h:s.toList=u.toList):s=u:=by
 have e: ∀t:BA,t.toList=t.data.toList:=fun t=>ByteArray.toList_eq t
 rw[e,e]at h;cases s;cases u;simp only[ByteArray.mk.injEq];exact Array.toList_inj.1 h
def x2c (s u:BA):(s.toList == u.toList)=decide (tb s=tb u):=by
 rw[a1g,beq_iff_eq,a0s,q7p];exact⟨u1y,fun h=>by rw[h]⟩
def y2e (s:BA)(i:Nat):(tb s).getD i 0=(s.data.getD i 0).toNat:=by
 unfold tb;rw[a0i,a0m,a1b]
 by_cases h:i < s.data.size
 ·rw[a0x h];simp[Array.getD,show i < s.size from h]
 ·rw[Array.getElem?_eq_none (by omega)];simp[Array.getD,show ¬i < s.size from h]
def x0y (s u:BA):tb (s++u)=tb s++tb u:=by
 unfold tb;rw[ByteArray.data_append,Array.toList_append,List.map_append]
def x7w (s:BA)(a b:Int):tb (s.extract a.toNat b.toNat)=((tb s).take b.toNat).drop a.toNat:=by
 unfold tb;rw[ByteArray.data_extract,Array.toList_extract];simp[List.extract_eq_take_drop,List.map_take,List.map_drop,List.drop_take]
def z6y (l:List UInt8):tb (bs l)=l.map UInt8.toNat:=by simp[tb,bs]
def w5d (s:BA)(i:Nat):(s.get! i).toNat=(tb s).getD i 0:=by
 rw[y2e];show(s.data[i]!).toNat=_
 by_cases h:i < s.data.size
 ·simp[Array.getD,show i < s.size from h]
 ·simp only[Array.getD,h,dite_false];rw[getElem!_neg s.data i h];rfl
def z0r {s:BA}{i:Nat}(hb:(tb s).getD i 0 < 128):u0m s (i:Int)=(((tb s).getD i 0:Nat):Int)/\w2g s (i:Int)=1:=by
 unfold u0m w2g Utf8.decode;rw[a0n];simp only[Nat.add_zero,w5d];rw[if_pos hb];exact⟨rfl,rfl⟩
def u3y {s:BA}{i:Nat}(hb:128<=(tb s).getD i 0):128<=u0m s (i:Int)/\1<=w2g s (i:Int):=by
 unfold u0m w2g Utf8.decode;rw[a0n];simp only[Nat.add_zero,w5d];rw[if_neg (by omega)]
 have hr:128<=Utf8.runeError:=by decide
 repeat' split
 all_goals first|omega|(simp only[ge_iff_le,a0g,a0s]at*;omega)
def x1t (c:Nat):Bool:=decide (97<=c)&&decide (c<=122)
def x1y (c:Nat):Bool:=decide (65<=c)&&decide (c<=90)
def x0x (c:Nat):Bool:=decide (48<=c)&&decide (c<=57)
def x0t (c:Nat):Bool:=x1t c || x1y c || x0x c || decide (c=95)
def x6c (first:Nat->Bool)(l:List Nat):Bool:=decide (1<=l.length)&&decide (l.length<=12)&&first (l.getD 0 0)&&l.all x0t
def x1m (c:Nat):List Nat->List (List Nat)
 | []=>[[]]
 |x::xs=>if x=c then[]::x1m c xs else match x1m c xs with
  | []=>[[x]]
  |p::ps=>(x::p)::ps
def y0j (c:Nat): ∀l,x1m c l≠[]
 | []=>by simp[x1m]
 |x::xs=>by
  unfold x1m;split
  ·simp
  ·split<;>simp
def y4o (c:Nat): ∀(p l:List Nat),(∀x∈p,x≠c)->x1m c (p++l)=match x1m c l with
  | []=>[p]
  |q::qs=>(p++q)::qs
 | [],l,_=>by
   simp only[a0h];cases h:x1m c l with
   |nil=>exact absurd h (y0j c l)
   |cons q qs=>rfl
 |x::p,l,hp=>by
  rw[a0d,x1m,if_neg (hp x a0u),y4o c p l fun y hy=>hp y (a0v _ hy)]
  cases h:x1m c l with
  |nil=>exact absurd h (y0j c l)
  |cons q qs=>rfl
def x9c (c:Nat)(p:List Nat)(hp: ∀x∈p,x≠c):x1m c p= [p]:=by
 have:=y4o c p [] hp;rw[a0y]at this;rw[this];simp[x1m]
def x9d (c:Nat)(p l:List Nat)(hp: ∀x∈p,x≠c):x1m c (p++c::l)=p::x1m c l:=by
 rw[y4o c p _ hp];simp[x1m]
def w3z:List (List Nat):=["node", "returns", "var", "let", "tel", "enum", "if", "then", "else", "fby", "pre", "when", "merge", "every", "not", "and", "or", "xor", "mod", "true", "false", "int", "bool", "with"].map fun s=>s.toUTF8.data.toList.map UInt8.toNat
def x4q (l:List Nat):Bool:=w3z.contains l
def x3q (l:List Nat):Bool:=x6c x1t l&& !x4q l
def x3h (l:List Nat):Bool:=x6c x1y l
def u5x (l:List Nat):Bool:=decide (1<=l.length)&&decide (l.length<=3)&& !decide (l.getD 0 0=48)&&l.all x0x
def y0p (l:List Nat):Bool:=match x1m 46 l with
 | [a]=>x3q a
 | [a,b]=>x3q a&&u5x b
 |_=>false
def y4q (l:List Nat):Bool:=(x1m 47 l).all y0p
def y5c (c:Nat):List Nat->Option Nat
 | []=>none
 |x::xs=>if x=c then some 0 else(y5c c xs).map (· +1)
def x8v {c:Nat}: ∀ {l:List Nat},y5c c l=none-> ∀x∈l,x≠c
 | [],_,x,hx=>by simp at hx
 |y::ys,h,x,hx=>by
  unfold y5c at h;split at h
  ·cases h
  ·rw[Option.map_eq_none_iff]at h;rcases a1m.1 hx with rfl|hx
   ·assumption
   ·exact x8v h x hx
def x4z {c:Nat}: ∀ {l:List Nat} {i:Nat},y5c c l=some i->i < l.length/\l=l.take i++c::l.drop (i+1)/\ ∀x∈l.take i,x≠c
 | [],i,h=>by cases h
 |y::ys,i,h=>by
  unfold y5c at h;split at h
  ·cases h;rename_i e;subst e;exact⟨by simp,by simp,by simp⟩
  ·rename_i hne;rw[a0k]at h;obtain⟨j,hj,rfl⟩:=h;obtain⟨h1,h2,h3⟩:=x4z hj;refine⟨by simp;omega,?_,fun x hx=> ?_⟩
   ·simp only[List.take_succ_cons,List.drop_succ_cons,a0d];rw[<-h2]
   ·rw[List.take_succ_cons]at hx;rcases a1m.1 hx with rfl|hx
    ·exact hne
    ·exact h3 x hx
def v4c (l:List Nat):y0p l=match y5c 46 l with
  |none=>x3q l
  |some i=>x3q (l.take i)&&u5x (l.drop (i+1)):=by
 cases h:y5c 46 l with
 |none=>
  unfold y0p;rw[x9c 46 l (x8v h)]
 |some i=>
  obtain⟨h1,h2,h3⟩:=x4z h;simp only;generalize hb:l.take i=b at h2 h3 ⊢;generalize ha:l.drop (i+1)=a at h2 ⊢;subst h2;unfold y0p;rw[x9d 46 b a h3];cases hq:y5c 46 a with
  |none=>rw[x9c 46 a (x8v hq)]
  |some j=>
   obtain⟨q1,q2,q3⟩:=x4z hq;have e:u5x a=false:=by
    unfold u5x;have:a.all x0x=false:=by
     rw[q2,List.all_append,a1p];have:x0x 46=false:=by decide
     rw[this];simp
    rw[this];simp
   have hs:x1m 46 a=a.take j::x1m 46 (a.drop (j+1)):=by
    conv=>lhs;rw[q2]
    exact x9d 46 _ _ q3
   rw[hs,e,Bool.and_false];cases hz:x1m 46 (a.drop (j+1))with
   |nil=>exact absurd hz (y0j _ _)
   |cons z zs=>rfl
end Go.Vm
end
section
set_option maxRecDepth 100000
set_option maxHeartbeats 2000000
namespace Go.Vm
open Go.Proofs
def inI (a b n:Int):Bool:=decide (a<=n)&&decide (n<=b)
def x8t (c:Nat):inI 97 122 (c:Int)=x1t c:=by
 unfold inI x1t;rw[a1g];simp only[a0g,a0s];omega
def x8u (c:Nat):inI 65 90 (c:Int)=x1y c:=by
 unfold inI x1y;rw[a1g];simp only[a0g,a0s];omega
def x4y (c:Nat):inI 48 57 (c:Int)=x0x c:=by
 unfold inI x0x;rw[a1g];simp only[a0g,a0s];omega
def y2n {a b n:Int}(h:b < n):inI a b n=false:=by
 unfold inI;rw[x1q (p:=n<=b) (by omega),Bool.and_false]
def z6f (n:Int):cF 134 [.d (.int .i32 n)]=some (.val [.bool (inI 97 122 n)]):=by
 refine cO rfl ?_;rw[q1o];simp only[g134,go1];rfl
def z6j (n:Int):cF 136 [.d (.int .i32 n)]=some (.val [.bool (inI 65 90 n)]):=by
 refine cO rfl ?_;rw[q1n];simp only[g136,go1];rfl
def y5h (n:Int):cF 173 [.d (.int .i32 n)]=some (.val [.bool (inI 48 57 n)]):=by
 refine cO rfl ?_;rw[q0t];simp only[g173,go1];rfl
def x4j {α:Type}{l:List α}{p:Nat}{f:α->Bool}{d:α}(hp:p < l.length)(h:(l.take p).all f=true)(hx:f (l.getD p d)=true):(l.take (p+1)).all f=true:=by
 rw[a1e,List.all_append,h,a0b hp];rw[a0i,a0b hp]at hx
 simpa using hx
def y4g {α:Type}{l:List α}{p:Nat}{f:α->Bool}{d:α}(hp:p < l.length)(hx:f (l.getD p d)=false):l.all f=false:=by
 rw[a0i,a0b hp]at hx;rw[Bool.eq_false_iff];intro hh;have:=a0l.1 hh _ (a1i hp);simp at hx;rw[hx]at this;cases this
def x8r {first:Nat->Bool}{l:List Nat}{p:Nat}(hp:p < l.length)(hx:x0t (l.getD p 0)=false):x6c first l=false:=by
 unfold x6c;rw[y4g hp hx,Bool.and_false]
def x9k {first:Nat->Bool}{l:List Nat}(hx:first (l.getD 0 0)=false):x6c first l=false:=by
 unfold x6c;rw[hx,Bool.and_false,Bool.false_and]
def x1p (s:BA):(s.size:Int)=((tb s).length:Int):=by rw[x2g]
def y3r (c:Nat):x0t c=(x1t c || x1y c || x0x c || decide (c=95)):=rfl
def z9e {c:Nat}(h:128<=c):x0t c=false:=by
 unfold x0t x1t x1y x0x;simp;omega
def k2c (s:BA):cF 133 [.d (.str s), .fn 134 []]=some (.val [.bool (x6c x1t (tb s))]):=by
 refine cO rfl ?_;rw[u3n];simp only[u6x,go1];refine x0r (fun p:Nat=>[.str s, .str s, .int .i64 (p:Int)]) (fun p=>p<=(tb s).length/\((tb s).take p).all x0t=true/\(0 < p->x1t ((tb s).getD 0 0)=true)) (fun p=>(tb s).length - p) (fun p hp=> ?_) 0 ⟨a0w _,by simp,by omega⟩
 obtain⟨hle,hall,hfst⟩:=hp
 by_cases hlt:p < (tb s).length
 ·by_cases hc:(tb s).getD p 0 < 128
  ·obtain⟨e1,e2⟩:=z0r hc;simp only[go1,x1p,x0l hlt,y4n,y4m,e1,e2,z6f,z6j,y5h,x8t,x8u,x4y];have hi:=y3r ((tb s).getD p 0)
   by_cases h0:p=0
   ·subst h0;cases hs:x1t ((tb s).getD 0 0)with
    |false=>
     right
     rw[x9k hs];simp only[go1];rfl
    |true=>
     left
     rw[hs]at hi;refine⟨0+1,?_,⟨hlt,x4j hlt hall (by rw[hi];rfl),fun _=>(by first|rfl|exact hs)⟩,by omega⟩
     simp only[go1];rfl
   ·rw[x1q (p:=(p:Int)=0) (by omega)]
    cases hin:x0t ((tb s).getD p 0)with
    |false=>
     right
     rw[x8r hlt hin];rw[hin]at hi;have hi:=hi.symm;simp only[Bool.or_eq_false_iff]at hi;obtain⟨⟨⟨i1,i2⟩,i3⟩,i4⟩:=hi;have i4': ¬(((tb s).getD p 0:Nat):Int)=95:=by
      have:=of_decide_eq_false i4;omega
     rw[x1q i4'];simp only[i1,i2,i3,go1]
    |true=>
     left
     refine⟨p+1,?_,⟨hlt,x4j hlt hall hin,fun _=>hfst (by omega)⟩,by omega⟩
     rw[hin]at hi;cases i1:x1t ((tb s).getD p 0)<;>cases i2:x1y ((tb s).getD p 0)<;>cases i3:x0x ((tb s).getD p 0)<;>rw[i1,i2,i3]at hi<;>simp only[go1]<;>(try rfl)
     all_goals
      simp only[Bool.or_self,a1d]at hi;have i4:=a0f hi.symm;rw[x2r (p:=(((tb s).getD p 0:Nat):Int)=95) (by omega)]
      rfl
  ·have hb:=u3y (s:=s) (i:=p) (by omega)
   right
   have hin:x0t ((tb s).getD p 0)=false:=by
    exact z9e (by omega)
   rw[x8r hlt hin];have hz: ¬u0m s (p:Int)=95:=by omega
   simp only[go1,x1p,x0l hlt,y4n,y4m,z6f,z6j,y5h,y2n (a:=97) (b:=122) (n:=u0m s (p:Int)) (by omega),y2n (a:=65) (b:=90) (n:=u0m s (p:Int)) (by omega),y2n (a:=48) (b:=57) (n:=u0m s (p:Int)) (by omega)]
   cases decide ((p:Int)=0)
   ·simp only[cond_true,cond_false];simp[hz]
   ·rfl
 ·right
  have:p=(tb s).length:=by omega
  subst this;simp only[go1,x1p,x0g];rw[a0t]at hall;unfold x6c;rw[hall,a2a]
  by_cases h0:0 < (tb s).length
  ·rw[hfst h0,a2a]
   by_cases h12:(tb s).length<=12
   ·rw[x2r (p:=1<=((tb s).length:Int)) (by omega),x2r (p:=((tb s).length:Int)<=12) (by omega),x2r (p:=1<=(tb s).length) (by omega),x2r h12]
    first|done|rfl
   ·rw[x2r (p:=1<=((tb s).length:Int)) (by omega),x1q (p:=((tb s).length:Int)<=12) (by omega),x1q h12]
    first|done|rfl|simp
  ·rw[x1q (p:=1<=((tb s).length:Int)) (by omega),x1q (p:=1<=(tb s).length) (by omega)]
   first|done|rfl|simp
def x0e (l:List BA):(x0c l).length=l.length:=by simp[x0c]
def y2z (a b:List BA):x0c a++x0c b=x0c (a++b):=by simp[x0c]
def z7k {l:List BA}{i:Nat}{x:BA}(h:l[i]? =some x):sy.row (x0c l) (i:Int)= [.str x]:=by
 rw[y5q,a0n,a0i];unfold x0c;rw[a0m,h];rfl
def x1w {l:List BA}{i:Nat}{x:BA}(h:l[i]? =some x):sy.cell (sy.row (x0c l) (i:Int)) 0=some (.str x):=by rw[z7k h];rfl
def u1m (c:Nat)(l:List Nat):Int:=match y5c c l with
 |none=> -1
 |some i=>i
def u6s (c:UInt8): ∀l:List UInt8,Lib.indexByte l c=u1m c.toNat (l.map UInt8.toNat)
 | []=>rfl
 |b::l=>by
  unfold Lib.indexByte u1m;rw[a1o,y5c];have ih:=u6s c l
  by_cases h:b=c
  ·subst h;simp
  ·have h1: ¬b.toNat=c.toNat:=fun e=>h (UInt8.toNat_inj.1 e)
   have h2:(b == c)=false:=by simp[h]
   rw[h2,if_neg h1,ih];unfold u1m;cases y5c c.toNat (l.map UInt8.toNat)with
   |none=>rfl
   |some i=>
    have:((i:Int) == -1)=false:=by rw[beq_eq_false_iff_ne];omega
    simp[this]
def v2x (s:BA)(m:UInt8):sy.sidx s ((m.toNat:Nat):Int)=u1m m.toNat (tb s):=by
 rw[w7e,a0n,u6s];have:m.toNat.toUInt8=m:=by simp
 rw[this];rfl
def w7n (l:List UInt8):((bs l).size:Int)=l.length:=by
 show((l.toArray.size:Nat):Int)=_;simp
def z1b (s:BA)(m:UInt8):cF 163 [.d (.str s), .d (.str (bs [m]))]=some (.val [.int .i64 (u1m m.toNat (tb s))]):=by
 have h72:cF 168 [.d (.str s), .d (.int .u8 (sy.sbyte (bs [m]) 0))]=some (.val [.int .i64 (u1m m.toNat (tb s))]):=by
  refine cO rfl ?_;rw[v6f];simp only[k6f,go1];show some (PRes.val [D.int .i64 (sy.sidx s ((m.toNat:Nat):Int))])=_;rw[v2x]
 refine cO rfl ?_;rw[q0w];unfold g163;have e1:sy.ieq (sy.slen (bs [m])) 0=false:=rfl;have e2:sy.ieq (sy.slen (bs [m])) 1=true:=rfl;have e3:sy.inr 0 (sy.slen (bs [m]))=true:=rfl;rw[<-z0m]at h72;cases h:sy.seq (bs [m]) s with
 |true=>
  have:tb (bs [m])=tb s:=by
   rw[u4w,x2c]at h;exact a0f h
  have hz:u1m m.toNat (tb s)=0:=by
   rw[<-this];unfold u1m tb bs;simp[y5c]
  rw[hz]
  repeat' (first|with_reducible exact y8c|with_reducible apply z7j|with_reducible apply y8d|((with_reducible apply q7s);(first|with_reducible exact e1|with_reducible exact h|rfl))|((with_reducible apply q7t);(first|with_reducible exact e1|with_reducible exact h|rfl))|with_reducible apply v2u|with_reducible apply z7i|with_reducible exact z7h|with_reducible apply z7f|with_reducible apply z7g|with_reducible apply z7e|rfl)
 |false=>
  repeat' (first|with_reducible exact y8c|with_reducible apply z7j|with_reducible apply y8d|((with_reducible apply q7s);(first|with_reducible exact e1|with_reducible exact e2|with_reducible exact e3|with_reducible exact h|rfl))|((with_reducible apply q7t);(first|with_reducible exact e1|with_reducible exact e2|with_reducible exact e3|with_reducible exact h|rfl))|with_reducible apply v2u|with_reducible apply z7i|with_reducible exact z7h|with_reducible apply z7f|with_reducible apply z7g|with_reducible apply z7e|exact h72|rfl)
def v8f (s:BA)(m:UInt8):cF 125 [.d (.str s), .d (.str (bs [m]))]=some (.val [.int .i64 (u1m m.toNat (tb s))]):=by
 have:=z1b s m;refine cO rfl ?_;rw[q1r];simp only[g125,go1,this]
def u3c (c:Nat)(l:List Nat):u1m c l= -1/\y5c c l=none\/ ∃i:Nat,u1m c l=i/\y5c c l=some i/\i < l.length:=by
 unfold u1m;cases h:y5c c l with
 |none=>exact .inl ⟨rfl,rfl⟩
 |some i=>exact .inr ⟨i,rfl,rfl,(x4z h).1⟩
def k7i (s:BA)(m:UInt8)(hs:s.size<=100000): ∃a b f,cF 197 [.d (.str s), .d (.str (bs [m]))]=some (.val [.str a, .str b, .bool f])/\
  ((f=false/\y5c m.toNat (tb s)=none/\tb a=tb s)\/(f=true/\ ∃i,y5c m.toNat (tb s)=some i/\tb a=(tb s).take i/\tb b=(tb s).drop (i+1))):=by
 have hI:=z1b s m;have hl:=x2g s;rcases u3c m.toNat (tb s)with⟨hz,hn⟩|⟨i,hz,hn,hi⟩
 ·refine⟨s,bs [],false,?_, .inl ⟨rfl,hn,rfl⟩⟩;rw[hz]at hI;have h60:cF 222 [.d (.str s), .d (.str (bs [m]))]=some (.val [.str s, .str (bs []), .bool false]):=by
   refine cO rfl ?_;rw[v6c];simp only[k6c,go1,Int.reduceLE,hI]
  refine cO rfl ?_;rw[v6e];simp only[k6e,go1,h60]
 ·rw[hz]at hI;have h60:cF 222 [.d (.str s), .d (.str (bs [m]))]=some (.val [.str (s.extract (0:Int).toNat ((i:Nat):Int).toNat), .str (s.extract ((i:Int)+1).toNat ((s.size:Nat):Int).toNat), .bool true]):=by
   refine cO rfl ?_;rw[v6c];simp only[k6c,go1,Int.reduceLE,hI,w7n];rw[x2r (p:=0<=(i:Int)) (by omega),x2r (p:=0<=(i:Int)/\(i:Int)<=(s.size:Int)) (by omega)]
   have hw:IntKind.i64.wrap ((i:Int)+((([m]:List UInt8).length:Nat):Int))=(i:Int)+1:=by
    rw[show((([m]:List UInt8).length:Nat):Int)=1 from rfl,x0v (by omega) (by omega)]
   rw[hw,x2r (p:=0<=(i:Int)+1/\(i:Int)+1<=(s.size:Int)/\(s.size:Int)<=(s.size:Int)) (by omega)]
   rfl
  refine⟨s.extract (0:Int).toNat ((i:Nat):Int).toNat,s.extract ((i:Int)+1).toNat ((s.size:Nat):Int).toNat,true,?_, .inr ⟨rfl,i,hn,?_,?_⟩⟩
  ·refine cO rfl ?_;rw[v6e];simp only[k6e,go1,h60]
  ·rw[x7w];simp
  ·rw[x7w];have e1:((i:Int)+1).toNat=i+1:=by omega
   rw[e1,a0n,<-hl,a0t]
end Go.Vm
end
section
set_option maxRecDepth 100000
set_option maxHeartbeats 4000000
namespace Go.Vm
open Go.Proofs
def x8h:List BA:=[bs [110,111,100,101],bs [114,101,116,117,114,110,115],bs [118,97,114],bs [108,101,116],bs [116,101,108],bs [101,110,117,109],bs [105,102],bs [116,104,101,110],bs [101,108,115,101],bs [102,98,121],bs [112,114,101],bs [119,104,101,110],bs [109,101,114,103,101],bs [101,118,101,114,121],bs [110,111,116],bs [97,110,100],bs [111,114],bs [120,111,114],bs [109,111,100],bs [116,114,117,101],bs [102,97,108,115,101],bs [105,110,116],bs [98,111,111,108],bs [119,105,116,104]]
def v1p:x8h.map tb=w3z:=by decide+kernel
def z6v (s:BA):x4q (tb s)=x8h.any fun w=>decide (tb s=tb w):=by
 unfold x4q;rw[<-v1p,List.contains_eq_any_beq,List.any_map];congr 1;funext w;rw[a1g];simp
def u7y (s:BA):cF 123 [.d (.str s)]=some (.val [.bool (x4q (tb s))]):=by
 rw[z6v];refine cO rfl ?_;rw[q1s];simp only[g123,go1];unfold x8h;simp only[x2c,List.any_cons,List.any_nil,Bool.or_false];cases decide (tb s=tb (bs [110,111,100,101]))<;>simp only[cond_true,cond_false,a1q,a1d]
 cases decide (tb s=tb (bs [114,101,116,117,114,110,115]))<;>simp only[cond_true,cond_false,a1q,a1d]
 cases decide (tb s=tb (bs [118,97,114]))<;>simp only[cond_true,cond_false,a1q,a1d]
 cases decide (tb s=tb (bs [108,101,116]))<;>simp only[cond_true,cond_false,a1q,a1d]
 cases decide (tb s=tb (bs [116,101,108]))<;>simp only[cond_true,cond_false,a1q,a1d]
 cases decide (tb s=tb (bs [101,110,117,109]))<;>simp only[cond_true,cond_false,a1q,a1d]
 cases decide (tb s=tb (bs [105,102]))<;>simp only[cond_true,cond_false,a1q,a1d]
 cases decide (tb s=tb (bs [116,104,101,110]))<;>simp only[cond_true,cond_false,a1q,a1d]
 cases decide (tb s=tb (bs [101,108,115,101]))<;>simp only[cond_true,cond_false,a1q,a1d]
 cases decide (tb s=tb (bs [102,98,121]))<;>simp only[cond_true,cond_false,a1q,a1d]
 cases decide (tb s=tb (bs [112,114,101]))<;>simp only[cond_true,cond_false,a1q,a1d]
 cases decide (tb s=tb (bs [119,104,101,110]))<;>simp only[cond_true,cond_false,a1q,a1d]
 cases decide (tb s=tb (bs [109,101,114,103,101]))<;>simp only[cond_true,cond_false,a1q,a1d]
 cases decide (tb s=tb (bs [101,118,101,114,121]))<;>simp only[cond_true,cond_false,a1q,a1d]
 cases decide (tb s=tb (bs [110,111,116]))<;>simp only[cond_true,cond_false,a1q,a1d]
 cases decide (tb s=tb (bs [97,110,100]))<;>simp only[cond_true,cond_false,a1q,a1d]
 cases decide (tb s=tb (bs [111,114]))<;>simp only[cond_true,cond_false,a1q,a1d]
 cases decide (tb s=tb (bs [120,111,114]))<;>simp only[cond_true,cond_false,a1q,a1d]
 cases decide (tb s=tb (bs [109,111,100]))<;>simp only[cond_true,cond_false,a1q,a1d]
 cases decide (tb s=tb (bs [116,114,117,101]))<;>simp only[cond_true,cond_false,a1q,a1d]
 cases decide (tb s=tb (bs [102,97,108,115,101]))<;>simp only[cond_true,cond_false,a1q,a1d]
 cases decide (tb s=tb (bs [105,110,116]))<;>simp only[cond_true,cond_false,a1q,a1d]
 cases decide (tb s=tb (bs [98,111,111,108]))<;>simp only[cond_true,cond_false,a1q,a1d]
 cases decide (tb s=tb (bs [119,105,116,104]))<;>simp only[cond_true,cond_false]
def z6l (s:BA):cF 95 [.d (.str s)]=some (.val [.bool (x3q (tb s))]):=by
 have h1:=k2c s;have h2:=u7y s;refine cO rfl ?_;rw[q9o];simp only[g95,go1,h1,h2];rfl
def u5w {l:List Nat}{p:Nat}(hp:p < l.length)(hx:x0x (l.getD p 0)=false):u5x l=false:=by
 unfold u5x;rw[y4g hp hx,Bool.and_false]
def w3b (s:BA):cF 198 [.d (.str s)]=some (.val [.bool (u5x (tb s))]):=by
 refine cO rfl ?_;rw[q0i];simp only[k9w,go1];refine x0r (fun p:Nat=>[.str s, .str s, .int .i64 (p:Int)]) (fun p=>p<=(tb s).length/\((tb s).take p).all x0x=true/\(0 < p->(tb s).getD 0 0≠48)) (fun p=>(tb s).length - p) (fun p hp=> ?_) 0 ⟨a0w _,by simp,by omega⟩
 obtain⟨hle,hall,hfst⟩:=hp
 by_cases hlt:p < (tb s).length
 ·by_cases hc:(tb s).getD p 0 < 128
  ·obtain⟨e1,e2⟩:=z0r hc;simp only[go1,x1p,x0l hlt,y4n,y4m,e1,e2,y5h,x4y];cases hin:x0x ((tb s).getD p 0)with
   |false=>
    right
    rw[u5w hlt hin];simp only[go1]
   |true=>
    by_cases h0:p=0
    ·subst h0
     by_cases h48:(tb s).getD 0 0=48
     ·right
      have:u5x (tb s)=false:=by unfold u5x;rw[x2r h48];simp
      rw[this,x2r (p:=(((tb s).getD 0 0:Nat):Int)=48) (by omega)]
      simp only[go1];rfl
     ·left
      refine⟨0+1,?_,⟨hlt,x4j hlt hall hin,fun _=>h48⟩,by omega⟩
      rw[x1q (p:=(((tb s).getD 0 0:Nat):Int)=48) (by omega)]
      simp only[go1];rfl
    ·left
     refine⟨p+1,?_,⟨hlt,x4j hlt hall hin,fun _=>hfst (by omega)⟩,by omega⟩
     rw[x1q (p:=(p:Int)=0) (by omega)]
     simp only[go1];rfl
  ·have hb:=u3y (s:=s) (i:=p) (by omega)
   right
   have hin:x0x ((tb s).getD p 0)=false:=by
    have:128<=(tb s).getD p 0:=by omega
    generalize (tb s).getD p 0=c at this;unfold x0x;simp;omega
   rw[u5w hlt hin];simp only[go1,x1p,x0l hlt,y4n,y4m,y5h,y2n (a:=48) (b:=57) (n:=u0m s (p:Int)) (by omega)]
 ·right
  have:p=(tb s).length:=by omega
  subst this;simp only[go1,x1p,x0g];rw[a0t]at hall;unfold u5x;rw[hall,a2a]
  by_cases h0:0 < (tb s).length
  ·rw[x1q (hfst h0),x2r (p:=1<=((tb s).length:Int)) (by omega),x2r (p:=1<=(tb s).length) (by omega)]
   by_cases h3:(tb s).length<=3
   ·rw[x2r (p:=((tb s).length:Int)<=3) (by omega),x2r h3];rfl
   ·rw[x1q (p:=((tb s).length:Int)<=3) (by omega),x1q h3];rfl
  ·rw[x1q (p:=1<=((tb s).length:Int)) (by omega),x1q (p:=1<=(tb s).length) (by omega)]
   rfl
def k1z (s:BA)(hs:s.size<=100000):cF 165 [.d (.str s)]=some (.val [.bool (y0p (tb s))]):=by
 obtain⟨a,b,f,h1,h2⟩:=k7i s 46 hs;have h3:=z6l a;have h4:=w3b b;rw[v4c];rcases h2 with⟨rfl,hn,ha⟩|⟨rfl,i,hn,ha,hb⟩
 ·rw[ha]at h3;have hn:y5c 46 (tb s)=none:=hn;rw[hn];refine cO rfl ?_;rw[v6g];simp only[k6g,go1,h1,h3]
  try (cases x3q (tb s)<;>rfl)
 ·rw[ha]at h3;rw[hb]at h4;have hn:y5c 46 (tb s)=some i:=hn;rw[hn];refine cO rfl ?_;rw[v6g];simp only[k6g,go1,h1,h3,h4]
  try (cases x3q ((tb s).take i)<;>rfl)
end Go.Vm
end
section
namespace Go.Vm
def x4x {σ α:Type}{b:List D->Option (List D ⊕ α)}{Q:α->Prop}(mk:σ->List D)(I:σ->Prop)(μ:σ->Nat)
  (h: ∀x,I x->(∃y,b (mk x)=some (.inl (mk y))/\I y/\μ y < μ x)\/ ∃r,b (mk x)=some (.inr r)/\Q r) (x:σ) (h0:I x): ∃r,x6n b (mk x)=some r/\Q r:=by
 suffices ∀n x,μ x < n->I x-> ∃r,x6n b (mk x)=some r/\Q r from this _ x (a1n _) h0
 intro n
 induction n with
 |zero=>intro x h;omega
 |succ n ih=>
  intro x hlt hi;rw[x9m];rcases h x hi with⟨d,h1,h2,h3⟩|⟨r,h1,h2⟩
  ·rw[h1];exact ih d (by omega) h2
  ·rw[h1];exact⟨r,rfl,h2⟩
def viaL {α:Type}{X:Option (List D ⊕ α)}{L L':List D}(h:X=some (.inl L))(e:L=L'):X=some (.inl L'):=by rw[h,e]
def viaR {α:Type}{X:Option (List D ⊕ α)}{Q:α->Prop}{r:α}(h:X=some (.inr r))(e:Q r): ∃r,X=some (.inr r)/\Q r:=⟨r,h,e⟩
end Go.Vm
end
section
set_option maxRecDepth 100000
set_option maxHeartbeats 4000000
namespace Go.Vm
open Go.Proofs
def v7d (c:UInt8): ∀l:List UInt8,(l.map UInt8.toNat).count c.toNat=l.count c
 | []=>rfl
 |b::l=>by
  rw[a1o,List.count_cons,List.count_cons,v7d c l]
  by_cases h:b=c
  ·subst h;simp
  ·have h1:(b.toNat == c.toNat)=false:=by
    rw[beq_eq_false_iff_ne];exact fun e=>h (UInt8.toNat_inj.1 e)
   have h2:(b == c)=false:=by simp[h]
   rw[h1,h2]
def w7p (s:BA)(m:UInt8):sy.scnt s ((m.toNat:Nat):Int)=(((tb s).count m.toNat:Nat):Int):=by
 rw[w7f,a0n];have:m.toNat.toUInt8=m:=by simp
 rw[this];unfold Lib.countByte tb;rw[v7d]
def q4d (s:BA)(m:UInt8):cF 221 [.d (.str s), .d (.str (bs [m]))]=some (.val [.int .i64 (((tb s).count m.toNat:Nat):Int)]):=by
 refine cO rfl ?_;rw[w9z];unfold k9n;have e1:sy.ieq (sy.slen (bs [m])) 0=false:=rfl;have e2:sy.ieq (sy.slen (bs [m])) 1=true:=rfl;have e3:sy.inr 0 (sy.slen (bs [m]))=true:=rfl;rw[<-w7p]
 repeat' (first|with_reducible exact y8c|with_reducible apply z7j|with_reducible apply y8d|((with_reducible apply q7s);(first|with_reducible exact e1|with_reducible exact e2|with_reducible exact e3|rfl))|((with_reducible apply q7t);(first|with_reducible exact e1|with_reducible exact e2|with_reducible exact e3|rfl))|with_reducible apply v2u|with_reducible apply z7i|with_reducible exact z7h|with_reducible apply z7f|with_reducible apply z7g|with_reducible apply z7e|rfl)
def y1h (c:Nat): ∀l:List Nat,(x1m c l).length=l.count c+1
 | []=>rfl
 |x::xs=>by
  unfold x1m;have ih:=y1h c xs;rw[List.count_cons]
  by_cases h:x=c
  ·subst h;simp[ih]
  ·rw[if_neg h];have h2:(x == c)=false:=by simp[h]
   rw[h2];cases hq:x1m c xs with
   |nil=>exact absurd hq (y0j c xs)
   |cons p ps=>rw[hq]at ih;simpa using ih
def q2x {c:Nat}{l:List Nat}{j:Nat}(h:y5c c l=some j):l.count c=(l.drop (j+1)).count c+1:=by
 obtain⟨h1,h2,h3⟩:=x4z h
 conv=>lhs;rw[h2]
 rw[List.count_append,List.count_cons,List.count_eq_zero.2 (fun hm=>h3 c hm rfl)]
 simp
def w2h {c:Nat}{l:List Nat}(h:y5c c l=none):l.count c=0:=List.count_eq_zero.2 fun hm=>x8v h c hm rfl
def u1s:List D:=[.str (bs [])]
def w0d (d:List BA)(k:Nat)(x:BA):sy.rput (x0c d++List.replicate (k+1) u1s) d.length 0 [.str x]=x0c (d++[x])++List.replicate k u1s:=by
 have hg:(x0c d++List.replicate (k+1) u1s).getD d.length []=u1s:=by
  rw[a0i,List.getElem?_append_right (by rw[x0e];exact a0p _),x0e,Nat.sub_self]
  simp
 show(x0c d++List.replicate (k+1) u1s).set d.length (((x0c d++List.replicate (k+1) u1s).getD d.length []).take 0++[.str x]++((x0c d++List.replicate (k+1) u1s).getD d.length []).drop (0+1))=_;rw[hg,List.set_append_right _ _ (by rw[x0e];exact a0p _),x0e,Nat.sub_self,List.replicate_succ]
 rw[show(u1s.take 0++[D.str x]++u1s.drop (0+1))= [D.str x]from rfl];simp[x0c,w0a]
def v0v (s:BA)(hs:s.size<=100000): ∃p,cF 196 [.d (.str s), .d (.str (bs [47])), .d (.int .i64 0), .d (.int .i64 (-1))]=some p/\ ∃l:List BA,p= .own 9 1 (x0c l)/\l.map tb=x1m 47 (tb s):=by
 have hc:=q4d s 47;have hI:=fun r=>v8f r 47
 have hl:=x2g s;have h47:(47:UInt8).toNat=47:=rfl;rw[h47]at hc;have hcl:(tb s).count 47<=(tb s).length:=List.count_le_length;refine cOfP (by kernel_rfl) rfl ?_
 rw[q0j];unfold k9x;generalize hN:(tb s).count 47=N at hc hcl;have hw:sy.imin (sy.wrap .i64 (sy.add ((N:Nat):Int) 1)) (sy.wrap .i64 (sy.add (sy.slen s) 1))=((N+1:Nat):Int):=by
  show min (IntKind.i64.wrap ((N:Int)+1)) (IntKind.i64.wrap ((s.size:Int)+1))=_;rw[x0v (by omega) (by omega),x0v (by omega) (by omega)]
  omega
 have z1:sy.ieq (-1) 0=false:=rfl;have z2:sy.seq (bs [47]) (bs [])=false:=by rw[u4w,x2c];rfl
 have z3:sy.ilt (-1) 0=true:=rfl;simp only[z1,z2,z3,cond_true,cond_false,z0m,hc,a1l,y4y,z4k,u2i,hw];have z4:sy.mkok ((N+1:Nat):Int) ((N+1:Nat):Int) 16=true:=a0q ⟨rfl,by omega,by omega⟩
 rw[z4,cond_true,u3t];have z5:sy.wrap .i64 (sy.sub ((N+1:Nat):Int) 1)=(N:Int):=by
  show IntKind.i64.wrap (((N+1:Nat):Int) - 1)=_;rw[x0v (by omega) (by omega)];omega
 rw[z5];have z6:sy.rep ((N+1:Nat):Int) [D.str (bs [])]=x0c []++List.replicate (N+1) u1s:=by
  rw[v2h,a0n];rfl
 rw[z6];refine x4x (fun x:List BA × BA × Nat=>[.str x.2.1, .str (bs [47]), .int .i64 0, .int .i64 (N:Int), .int .i64 (x.1.length:Int), .sl 1 (x0c x.1++List.replicate (x.2.2+1) u1s)])
  (fun x=>x1m 47 (tb s)=x.1.map tb++x1m 47 (tb x.2.1)/\x.2.2=(tb x.2.1).count 47/\x.1.length+x.2.2=N/\x.2.1.size<=100000) (fun x=>(tb x.2.1).length) (fun x hx=> ?_) ([],s,N) ⟨rfl,hN.symm,by simp,hs⟩
 obtain⟨done,rest,k⟩:=x;obtain⟨h1,hk,h2,h3⟩:=hx;simp only at h1 hk h2 h3;have hr:=x2g rest;have hIr:=hI rest;rw[h47]at hIr;have hput:=w0d done k;have f2:sy.inr (done.length:Int) (sy.rlen (x0c done++List.replicate (k+1) u1s))=true:=a0q (by
  rw[z4j,a0j,x0e,List.length_replicate];omega)
 have f3:sy.inrn (sy.nat (done.length:Int)) (x0c done++List.replicate (k+1) u1s)=true:=a0q (by
  rw[a0j,x0e,List.length_replicate];show(done.length:Int).toNat < _;omega)
 have hw1:sy.wrap .i64 (sy.add (done.length:Int) 1)=((done.length+1:Nat):Int):=by
  show IntKind.i64.wrap ((done.length:Int)+1)=_;rw[x0v (by omega) (by omega)];rfl
 have hnat:sy.nat (done.length:Int)=done.length:=a0n _;rcases u3c 47 (tb rest)with⟨hz,hn⟩|⟨j,hz,hn,hj⟩
 ·right
  have hk0:=w2h hn;rw[hk0]at hk;subst hk;have f1:sy.ilt (done.length:Int) (N:Int)=false:=decide_eq_false (by omega)
  have f4:sy.cutok 0 (sy.wrap .i64 (sy.add (done.length:Int) 1)) (sy.rlen (sy.rput (x0c done++List.replicate (0+1) u1s) (sy.nat (done.length:Int)) 0 [.str rest]))=true:=by
   rw[hw1,hnat,hput];exact a0q (by rw[z4j,a0j,x0e,a0j];simp;omega)
  apply viaR
  ·repeat' (first|with_reducible exact y8c|with_reducible apply z7j|with_reducible apply y8d|((with_reducible apply q7s);(first|with_reducible exact f1|with_reducible exact f2|with_reducible exact f3|with_reducible exact f4|rfl))|((with_reducible apply q7t);(first|with_reducible exact f1|with_reducible exact f2|with_reducible exact f3|with_reducible exact f4|rfl))|with_reducible apply v2u|with_reducible apply z7i|with_reducible exact z7h|with_reducible apply z7f|with_reducible apply z7g|with_reducible apply z7e|rfl)
  ·refine⟨done++[rest],?_,?_⟩
   ·rw[hw1,hnat,hput];show PRes.own 9 1 ((x0c (done++[rest])++List.replicate 0 u1s).take ((done.length+1:Nat):Int).toNat)=_;rw[List.replicate_zero,a0y,a0n,List.take_of_length_le (by rw[x0e];simp)]
   ·rw[h1,x9c 47 _ (x8v hn)];simp
 ·left
  have hc2:=q2x hn;have hd:=x7w rest ((j:Int)+1) (rest.size:Int);have hd0:=x7w rest 0 (j:Int);have e1:((j:Int)+1).toNat=j+1:=by omega
  rw[e1,a0n,<-hr,a0t]at hd;rw[a0n]at hd0;have hw2:sy.wrap .i64 (sy.add (j:Int) 0)=(j:Int):=by
   show IntKind.i64.wrap ((j:Int)+0)=_;rw[x0v (by omega) (by omega)];omega
  have hw3:sy.wrap .i64 (sy.add (j:Int) (sy.slen (bs [47])))=(j:Int)+1:=by
   show IntKind.i64.wrap ((j:Int)+1)=_;rw[x0v (by omega) (by omega)]
  have f1:sy.ilt (done.length:Int) (N:Int)=true:=a0q (by omega)
  have g1:sy.ilt (j:Int) 0=false:=decide_eq_false (show ¬(j:Int) < 0 by omega)
  have g2:sy.cutok 0 (sy.wrap .i64 (sy.add (j:Int) 0)) (sy.slen rest)=true:=by
   rw[hw2];exact a0q (by rw[y8a];omega)
  have g3:sy.cutok (sy.wrap .i64 (sy.add (j:Int) (sy.slen (bs [47])))) (sy.slen rest) (sy.slen rest)=true:=by
   rw[hw3];exact a0q (by rw[y8a];omega)
  rw[hz]at hIr;obtain⟨k',rfl⟩: ∃k',k=k'+1:=⟨k - 1,by omega⟩
  refine⟨(done++[rest.extract (0:Int).toNat (j:Int).toNat],rest.extract (j+1) (tb rest).length,k'),?_,⟨?_,?_,?_,?_⟩,?_⟩
  ·apply viaL
   ·repeat' (first|with_reducible exact y8c|with_reducible apply z7j|with_reducible apply y8d|((with_reducible apply q7s);(first|with_reducible exact f1|with_reducible exact f2|with_reducible exact f3|with_reducible exact g1|with_reducible exact g2|with_reducible exact g3|rfl))|((with_reducible apply q7t);(first|with_reducible exact f1|with_reducible exact f2|with_reducible exact f3|with_reducible exact g1|with_reducible exact g2|with_reducible exact g3|rfl))|with_reducible apply v2u|with_reducible apply z7i|with_reducible exact z7h|with_reducible apply z7f|with_reducible apply z7g|with_reducible apply z7e|exact hIr|rfl)
   ·rw[hw1,hw2,hw3,hnat,hput];simp only[u1z,y8a,e1,a0n,hr,a0j,List.length_singleton]
  ·rw[h1];simp only[List.map_append,a1o,a1x];rw[show(j:Int).toNat=j from a0n j]at*;rw[hd0,hd];obtain⟨i1,i2,i3⟩:=x4z hn
   conv=>lhs;rw[i2,x9d 47 _ _ i3]
   simp
  ·simp only;rw[hd];omega
  ·simp;omega
  ·simp only;have:=x2g (rest.extract (j+1) (tb rest).length);rw[<-this,hd,a1u];omega
  ·simp only;rw[hd,a1u];omega
def q4c (s:BA)(hs:s.size<=100000): ∃l:List BA,cF 164 [.d (.str s), .d (.str (bs [47]))]=some (.val [.sl 1 (x0c l)])/\l.map tb=x1m 47 (tb s):=by
 obtain⟨_,h,l,rfl,hl⟩:=v0v s hs;refine⟨l,?_,hl⟩;refine cO rfl ?_;rw[q0v];simp only[g164,go1,h]
def u6g {s:BA}{l:List BA}(hl:l.map tb=x1m 47 (tb s)): ∀x∈l,x.size<=s.size:=by
 have key: ∀(c:Nat) (t:List Nat),∀p∈x1m c t,p.length<=t.length:=by
  intro c t
  induction t with
  |nil=>intro p hp;simp[x1m]at hp;simp[hp]
  |cons x xs ih=>
   intro p hp;unfold x1m at hp;split at hp
   ·rcases a1m.1 hp with rfl|hp
    ·simp
    ·have:=ih p hp;simp;omega
   ·split at hp
    ·simp at hp;simp[hp]
    ·rename_i q qs hq;rcases a1m.1 hp with rfl|hp
     ·have:=ih q (by rw[hq];exact a0u);simp;omega
     ·have:=ih p (by rw[hq];exact a0v _ hp);simp;omega
 intro x hx;have:=key 47 (tb s) (tb x) (by rw[<-hl];exact List.mem_map_of_mem hx)
 rw[x2g,x2g]at this;exact this
def w6b (s:BA)(hs:s.size<=100000):cF 126 [.d (.str s)]=some (.val [.bool (y4q (tb s))]):=by
 obtain⟨l,h,hl⟩:=q4c s hs;have hsz:=u6g hl;have hll:l.length<=100001:=by
  have:=congrArg List.length hl;rw[a1f,y1h]at this;have h2:(tb s).count 47<=(tb s).length:=List.count_le_length;rw[x2g]at h2;omega
 unfold y4q;rw[<-hl,List.all_map];refine cO rfl ?_;rw[q1q];simp only[g126,go1,h,x0e];refine x0r (fun i:Nat=>[.sl 1 (x0c l), .int .i64 (l.length:Int), .int .i64 (i:Int)]) (fun i=>i<=l.length/\(l.take i).all (y0p ∘ tb)=true) (fun i=>l.length - i) (fun i hi=> ?_) 0 ⟨a0w _,by simp⟩
 by_cases hlt:i < l.length
 ·have hx:=a0b hlt;have hp:=k1z l[i] (a1a (hsz _ (a1i hlt)) hs);have hgd:l.getD i ByteArray.empty=l[i]:=by rw[a0i,hx];rfl
  simp only[go1,x0e,x0l hlt,x0m hlt,x1w hx,hp,x0d hlt (by omega)]
  cases hb:y0p (tb l[i])with
  |false=>
   right
   rw[y4g (d:=ByteArray.empty) hlt (by rw[hgd];exact hb)]
   simp only[go1]
  |true=>
   left
   refine⟨i+1,?_,⟨hlt,x4j (d:=ByteArray.empty) hlt hi.2 (by rw[hgd];exact hb)⟩,by omega⟩
   simp only[go1];rfl
 ·right
  have:i=l.length:=by omega
  subst this;simp only[go1,x0g];rw[a0t]at hi;rw[hi.2]
def q3w (s:BA):cF 133 [.d (.str s), .fn 136 []]=some (.val [.bool (x6c x1y (tb s))]):=by
 refine cO rfl ?_;rw[u3m];simp only[u6w,go1];refine x0r (fun p:Nat=>[.str s, .str s, .int .i64 (p:Int)]) (fun p=>p<=(tb s).length/\((tb s).take p).all x0t=true/\(0 < p->x1y ((tb s).getD 0 0)=true)) (fun p=>(tb s).length - p) (fun p hp=> ?_) 0 ⟨a0w _,by simp,by omega⟩
 obtain⟨hle,hall,hfst⟩:=hp
 by_cases hlt:p < (tb s).length
 ·by_cases hc:(tb s).getD p 0 < 128
  ·obtain⟨e1,e2⟩:=z0r hc;simp only[go1,x1p,x0l hlt,y4n,y4m,e1,e2,z6f,z6j,y5h,x8t,x8u,x4y];have hi:=y3r ((tb s).getD p 0)
   by_cases h0:p=0
   ·subst h0;cases hs:x1y ((tb s).getD 0 0)with
    |false=>
     right
     rw[x9k hs];simp only[go1];rfl
    |true=>
     left
     rw[hs]at hi;refine⟨0+1,?_,⟨hlt,x4j hlt hall (by rw[hi];simp),fun _=>(by first|rfl|exact hs)⟩,by omega⟩
     cases x1t ((tb s).getD 0 0)<;>simp only[go1]<;>rfl
   ·rw[x1q (p:=(p:Int)=0) (by omega)]
    cases hin:x0t ((tb s).getD p 0)with
    |false=>
     right
     rw[x8r hlt hin];rw[hin]at hi;have hi:=hi.symm;simp only[Bool.or_eq_false_iff]at hi;obtain⟨⟨⟨i1,i2⟩,i3⟩,i4⟩:=hi;have i4': ¬(((tb s).getD p 0:Nat):Int)=95:=by
      have:=of_decide_eq_false i4;omega
     rw[x1q i4'];simp only[i1,i2,i3,go1]
    |true=>
     left
     refine⟨p+1,?_,⟨hlt,x4j hlt hall hin,fun _=>hfst (by omega)⟩,by omega⟩
     rw[hin]at hi;cases i1:x1t ((tb s).getD p 0)<;>cases i2:x1y ((tb s).getD p 0)<;>cases i3:x0x ((tb s).getD p 0)<;>rw[i1,i2,i3]at hi<;>simp only[go1]<;>(try rfl)
     all_goals
      simp only[Bool.or_self,a1d]at hi;have i4:=a0f hi.symm;rw[x2r (p:=(((tb s).getD p 0:Nat):Int)=95) (by omega)]
      rfl
  ·have hb:=u3y (s:=s) (i:=p) (by omega)
   right
   have hin:x0t ((tb s).getD p 0)=false:=by
    exact z9e (by omega)
   rw[x8r hlt hin];have hz: ¬u0m s (p:Int)=95:=by omega
   simp only[go1,x1p,x0l hlt,y4n,y4m,z6f,z6j,y5h,y2n (a:=97) (b:=122) (n:=u0m s (p:Int)) (by omega),y2n (a:=65) (b:=90) (n:=u0m s (p:Int)) (by omega),y2n (a:=48) (b:=57) (n:=u0m s (p:Int)) (by omega)]
   cases decide ((p:Int)=0)
   ·simp only[cond_true,cond_false];simp[hz]
   ·rfl
 ·right
  have:p=(tb s).length:=by omega
  subst this;simp only[go1,x1p,x0g];rw[a0t]at hall;unfold x6c;rw[hall,a2a]
  by_cases h0:0 < (tb s).length
  ·rw[hfst h0,a2a]
   by_cases h12:(tb s).length<=12
   ·rw[x2r (p:=1<=((tb s).length:Int)) (by omega),x2r (p:=((tb s).length:Int)<=12) (by omega),x2r (p:=1<=(tb s).length) (by omega),x2r h12]
    first|done|rfl
   ·rw[x2r (p:=1<=((tb s).length:Int)) (by omega),x1q (p:=((tb s).length:Int)<=12) (by omega),x1q h12]
    first|done|rfl|simp
  ·rw[x1q (p:=1<=((tb s).length:Int)) (by omega),x1q (p:=1<=(tb s).length) (by omega)]
   first|done|rfl|simp
def u1a (s:BA):cF 97 [.d (.str s)]=some (.val [.bool (x3h (tb s))]):=by
 have:=q3w s;refine cO rfl ?_;rw[q9n];simp only[g97,go1,this];rfl
def x2x (c:Nat):Bool:=decide (c=32) || decide (c=9) || decide (c=10) || decide (c=13)
def x9w (c:Nat):Bool:= !decide (c=10)
def u7r (n:Nat):cF 78 [.d (.int .u8 (n:Int))]=some (.val [.bool (x1t n)]):=by
 refine cO rfl ?_;rw[q9w];simp only[g78,go1];rw[<-x8t];try rfl
def z6d (n:Nat):cF 79 [.d (.int .u8 (n:Int))]=some (.val [.bool (x1y n)]):=by
 refine cO rfl ?_;rw[q9v];simp only[g79,go1];rw[<-x8u];try rfl
def z6e (n:Nat):cF 81 [.d (.int .u8 (n:Int))]=some (.val [.bool (x0x n)]):=by
 refine cO rfl ?_;rw[q9t];simp only[g81,go1];rw[<-x4y];try rfl
def x8c {p q:Prop} [Decidable p] [Decidable q] (h:p↔q):decide p=decide q:=by
 by_cases hq:q
 ·rw[x2r hq,x2r (h.2 hq)]
 ·rw[x1q hq,x1q (fun hp=>hq (h.1 hp))]
def w2p (n:Nat):cF 75 [.d (.int .u8 (n:Int))]=some (.val [.bool (x2x n)]):=by
 refine cO rfl ?_;rw[q9z];simp only[g75,go1];unfold x2x;rw[x8c (show(n:Int)=32↔n=32 by omega),x8c (show(n:Int)=9↔n=9 by omega),x8c (show(n:Int)=10↔n=10 by omega),x8c (show(n:Int)=13↔n=13 by omega)]
 (try (cases decide (n=32)<;>cases decide (n=9)<;>cases decide (n=10)<;>cases decide (n=13)<;>rfl))
def q3d (n:Nat):cF 77 [.d (.int .u8 (n:Int))]=some (.val [.bool (x9w n)]):=by
 refine cO rfl ?_;rw[q9x];simp only[g77,go1];rw[x8c (show(n:Int)=10↔n=10 by omega)];try rfl
def w2o (n:Nat):cF 122 [.d (.int .u8 (n:Int))]=some (.val [.bool (x0t n)]):=by
 refine cO rfl ?_;rw[q1t];simp only[g122,go1,u7r,z6d,z6e];rw[x8c (show(n:Int)=95↔n=95 by omega)]
 unfold x0t;cases x1t n<;>cases x1y n<;>cases x0x n<;>cases decide (n=95)<;>rfl
def x2t (p:Nat->Bool)(l:List Nat):Nat:=(l.takeWhile p).length
def x4r (p:Nat->Bool)(l:List Nat):x2t p l<=l.length:=(List.takeWhile_prefix p).length_le
def z2q {p:Nat->Bool}{l:List Nat}{n:Nat}(hn:n<=l.length)(h:(l.take n).all p=true)(hx:n < l.length->p (l.getD n 0)=false):x2t p l=n:=by
 unfold x2t;have e:l=l.take n++l.drop n:=(a1w n l).symm;have h1:(l.take n++l.drop n).takeWhile p=l.take n++(l.drop n).takeWhile p:=List.takeWhile_append_of_pos (fun x hx=>a0l.1 h x hx)
 have h2:(l.drop n).takeWhile p= []:=by
  by_cases hlt:n < l.length
  ·rw[List.drop_eq_getElem_cons hlt,List.takeWhile_cons];have:=hx hlt;rw[a0i,a0b hlt]at this;simp only[Option.getD_some]at this;rw[this];rfl
  ·rw[List.drop_of_length_le (by omega)];rfl
 rw[<-e]at h1;rw[h1,h2];simp;omega
def u7s {f k:Nat}(p:Nat->Bool)(G:BA->Option PRes)
  (hc: ∀n:Nat,cF k [.d (.int .u8 (n:Int))]=some (.val [.bool (p n)])) (s:BA) (hs:s.size<=1000000)
  (hG:G s=x6n (fun ds1=>
   (opS (sy.cell ds1 0)).bind fun s2=>
   (opI (sy.cell ds1 1) .i64).bind fun n3=>
   bif sy.ilt n3 (sy.slen s2)then
    bif sy.inr n3 (sy.slen s2)then
     (cF k [V.d (D.int .u8 (sy.sbyte s2 n3))]).bind fun p4=>
     (opB (sy.cell p4.leaves 0)).bind fun b6=>
     bif b6 then
      some (.inl [(D.str s2),(D.int .i64 (sy.wrap .i64 (sy.add n3 1)))])
     else
      some (.inr (PRes.val [(D.int .i64 n3)]))
    else none
   else
    some (.inr (PRes.val [(D.int .i64 n3)]))) [(D.str s),(D.int .i64 0)]):G s=some (.val [.int .i64 ((x2t p (tb s):Nat):Int)]):=by
 rw[hG];refine x0r (fun n:Nat=>[.str s, .int .i64 (n:Int)]) (fun n=>n<=(tb s).length/\((tb s).take n).all p=true) (fun n=>(tb s).length - n) (fun n hn=> ?_) 0 ⟨a0w _,by simp⟩
 obtain⟨hle,hall⟩:=hn;have hlen:(tb s).length<=1000000:=by rw[x2g];exact hs
 by_cases hlt:n < (tb s).length
 ·have hq:(s.data.getD (n:Int).toNat 0).toNat=(tb s).getD n 0:=by rw[a0n,y2e]
  simp only[go1,x1p,x0l hlt,x0m hlt,hc,hq];cases hp:p ((tb s).getD n 0)with
  |true=>
   left
   refine⟨n+1,?_,⟨hlt,x4j hlt hall hp⟩,by omega⟩
   (try simp only[go1])
   rw[x0d hlt (by omega)]
   try rfl
  |false=>
   right
   rw[z2q hle hall (fun _=>hp)]
   (try simp only[go1])
 ·right
  have:n=(tb s).length:=by omega
  subst this;simp only[go1,x1p,x0g];rw[z2q (a0p _) hall (fun h=>absurd h (Nat.lt_irrefl _))]
def w2u (s:BA)(hs:s.size<=1000000):cF 74 [.d (.str s), .fn 75 []]=some (.val [.int .i64 ((x2t x2x (tb s):Nat):Int)]):=
 cO rfl ((v6a sy eF s).trans (u7s (f:=0) x2x (fun s=>w5i sy eF s) w2p s hs rfl))
def q3e (s:BA)(hs:s.size<=1000000):cF 74 [.d (.str s), .fn 77 []]=some (.val [.int .i64 ((x2t x9w (tb s):Nat):Int)]):=
 cO rfl ((v5z sy eF s).trans (u7s (f:=0) x9w (fun s=>w5h sy eF s) q3d s hs rfl))
def w2s (s:BA)(hs:s.size<=1000000):cF 74 [.d (.str s), .fn 122 []]=some (.val [.int .i64 ((x2t x0t (tb s):Nat):Int)]):=
 cO rfl ((v0e sy eF s).trans (u7s (f:=0) x0t (fun s=>v6b sy eF s) w2o s hs rfl))
def w2t (s:BA)(hs:s.size<=1000000):cF 74 [.d (.str s), .fn 81 []]=some (.val [.int .i64 ((x2t x0x (tb s):Nat):Int)]):=
 cO rfl ((v5y sy eF s).trans (u7s (f:=0) x0x (fun s=>w5g sy eF s) z6e s hs rfl))
def u1n (m l:List Nat):Bool:=decide (l.take m.length=m)
def x6h (s:BA)(a b:Nat):tb (s.extract a b)=((tb s).take b).drop a:=by
 have:=x7w s (a:Int) (b:Int)
 rwa [a0n,a0n]at this
def k2d (s m:BA):cF 121 [.d (.str s), .d (.str m)]=some (.val [.bool (u1n (tb m) (tb s))]):=by
 refine cO rfl ?_;rw[q1u];simp only[g121,go1,Int.reduceLE]
 by_cases h:(tb m).length<=(tb s).length
 ·have e:((s.extract (0:Int).toNat ((tb m).length:Int).toNat).toList == m.toList)=u1n (tb m) (tb s):=by
   rw[x2c,x7w];unfold u1n;rw[a0n];rfl
  simp (disch:=omega) only [x0v,x2r,go1,x1p,e]
 ·have e:u1n (tb m) (tb s)=false:=by
   unfold u1n;refine x1q fun he=>h ?_
   rw[<-he,a1s];omega
  rw[e];simp (disch:=omega) only [x0v,x1q,go1,x1p]
def k2h (s m:BA):cF 76 [.d (.str s), .d (.str m)]=some (.val [.bool (u1n (tb m) (tb s))]):=by
 have:=k2d s m;refine cO rfl ?_;rw[q9y];simp only[g76,go1,this]
def u4e (s:BA)(m:UInt8):cF 128 [.d (.str s), .d (.int .u8 ((m.toNat:Nat):Int))]=some (.val [.int .i64 (u1m m.toNat (tb s))]):=by
 have h72:cF 168 [.d (.str s), .d (.int .u8 ((m.toNat:Nat):Int))]=some (.val [.int .i64 (u1m m.toNat (tb s))]):=by
  refine cO rfl ?_;rw[v6f];simp only[k6f];show some (PRes.val [D.int .i64 (sy.sidx s ((m.toNat:Nat):Int))])=_;rw[v2x]
 refine cO rfl ?_;rw[q1p];simp only[g128,go1,h72]
def v3m:List Nat:=[45,45]
def z4q {l:List Nat}(h:u1n v3m l=true):2<=x2t x9w l:=by
 have:=a0f h
 match l,this with
 |a::b::r,h=>
  simp[v3m]at h;obtain⟨rfl,rfl⟩:=h;simp[x2t,x9w]
 | [a],h=>simp[v3m]at h
 | [],h=>simp[v3m]at h
def x6s (l:List Nat):Nat:=
 if h:u1n v3m (l.drop (x2t x2x l))=true then x2t x2x l+x2t x9w (l.drop (x2t x2x l))+x6s (l.drop (x2t x2x l+x2t x9w (l.drop (x2t x2x l))))else x2t x2x l
 termination_by l.length
 decreasing_by
  have h1:=z4q h;have h2:=x4r x9w (l.drop (x2t x2x l));have h3:=x4r x2x l;simp only[a1u]at h2 ⊢;omega
def v5x: ∀(n:Nat) (l:List Nat),l.length<=n->x6s l<=l.length
 |n,l,hn=>by
  unfold x6s;split
  ·rename_i h;have h1:=z4q h;have h2:=x4r x9w (l.drop (x2t x2x l));have h3:=x4r x2x l;simp only[a1u]at h2;cases n with
   |zero=>omega
   |succ n=>
    have:=v5x n (l.drop (x2t x2x l+x2t x9w (l.drop (x2t x2x l)))) (by simp only[a1u];omega)
    simp only[a1u]at this;omega
  ·exact x4r _ _
def y7n (s:BA)(n:Nat)(hn:n<=(tb s).length):tb (s.extract (n:Int).toNat ((tb s).length:Int).toNat)=(tb s).drop n:=by
 rw[x7w,a0n,a0n,a0t]
def k7f (s:BA)(hs:s.size<=1000000):cF 35 [.d (.str s)]=some (.val [.int .i64 ((x6s (tb s):Nat):Int)]):=by
 refine cO rfl ?_;rw[k0n];simp only[g35,go1];have hlen:(tb s).length<=1000000:=by rw[x2g];exact hs
 refine x0r (fun n:Nat=>[.str s, .int .i64 (n:Int)]) (fun n=>n<=(tb s).length/\n+x6s ((tb s).drop n)=x6s (tb s)) (fun n=>(tb s).length - n) (fun n hn=> ?_) 0 ⟨a0w _,by simp⟩
 obtain⟨hle,hg⟩:=hn;have e1:=y7n s n hle;have z1:(s.extract (n:Int).toNat ((tb s).length:Int).toNat).size<=1000000:=by rw[<-x2g,e1];simp;omega
 have k1:=w2u _ z1;rw[e1]at k1;generalize hm:x2t x2x ((tb s).drop n)=m at k1;have hmle:m<=(tb s).length - n:=by have:=x4r x2x ((tb s).drop n);simp only[a1u]at this;omega
 have w1:IntKind.i64.wrap ((n:Int)+(m:Int))=((n+m:Nat):Int):=by rw[x0v (by omega) (by omega)];omega
 have e2:=y7n s (n+m) (by omega)
 have z2:(s.extract ((n+m:Nat):Int).toNat ((tb s).length:Int).toNat).size<=1000000:=by rw[<-x2g,e2];simp;omega
 have k2:=k2h (s.extract ((n+m:Nat):Int).toNat ((tb s).length:Int).toNat) (bs [45,45]);rw[e2]at k2;have k3:=q3e _ z2;rw[e2]at k3;have hd:((tb s).drop n).drop m=(tb s).drop (n+m):=by rw[List.drop_drop]
 have hgn:=x6s.eq_def ((tb s).drop n);rw[hm,hd]at hgn;have hb:u1n (tb (bs [45,45])) ((tb s).drop (n+m))=u1n v3m ((tb s).drop (n+m)):=rfl;rw[hb]at k2;simp (disch:=omega) only [x0v,x2r,go1,x1p,k1];cases hr:u1n v3m ((tb s).drop (n+m))with
 |false=>
  right
  rw[hr]at hgn;simp only[Bool.false_eq_true,dite_false]at hgn;rw[<-hg,hgn];rw[Int.natCast_add]at k2;simp (disch:=omega) only [x0v,go1,k2,hr,Int.natCast_add]
 |true=>
  left
  rw[hr]at hgn;simp only[dite_true]at hgn;have h2:=z4q hr;have hk:=x4r x9w ((tb s).drop (n+m));simp only[a1u]at hk;generalize hkk:x2t x9w ((tb s).drop (n+m))=k at k3 hgn h2 hk;have w2:IntKind.i64.wrap (((n+m:Nat):Int)+(k:Int))=((n+m+k:Nat):Int):=by rw[x0v (by omega) (by omega)];omega
  refine⟨n+m+k,?_,⟨by omega,?_⟩,by omega⟩
  ·rw[Int.natCast_add]at k2 k3;simp (disch:=omega) only [x0v,go1,k2,hr,k3,Int.natCast_add]
  ·rw[<-hg,hgn,List.drop_drop];have:n+(m+k)=n+m+k:=by omega
   rw[this];omega
structure Tok where
 k:Int
 s:BA
 n:Int
 w:Nat
 ok:Bool
def Tok.r (t:Tok):PRes:= .val [.int .i64 t.k, .str t.s, .int .i64 t.n, .int .i64 0, .int .i64 (t.w:Int), .bool t.ok]
def q8u:Tok:=⟨0,bs [],0,0,false⟩
def x9a (s:BA):Tok:=
 let n:=x2t x0t (tb s)
 let w:=s.extract 0 n
 match x1y ((tb s).getD 0 0)with
 |true=>⟨2,w,0,n,x3h (tb w)⟩
 |false=>⟨1,w,0,n,x3q (tb w) || x4q (tb w)⟩
def x4w (s:BA):Tok:=
 let n:=x2t x0x (tb s)
 let w:=s.extract 0 n
 ⟨3,w,z7v w,n,w4s w&&(!decide ((tb s).getD 0 0=48) || decide (n=1))⟩
def y1s (s:BA):Tok:=match y5c 39 ((tb s).drop 1)with
 |none=>q8u
 |some i=>⟨4,s.extract 1 (i+1),0,i+2,y4q (tb (s.extract 1 (i+1)))⟩
def k3l:List BA:=[bs [58,61],bs [45,62],bs [60,61],bs [62,61],bs [60,62]]
def y2w:List (List Nat):=[[58,61],[45,62],[60,61],[62,61],[60,62]]
def k5f:List UInt8:=[40,41,123,125,91,93,44,59,58,61,60,62,43,45,42,47]
def u2k:List Nat:=[40,41,123,125,91,93,44,59,58,61,60,62,43,45,42,47]
def x9l (s:BA):Tok:=match y2w.contains ((tb s).take 2),u2k.contains ((tb s).getD 0 0)with
 |true,_=>⟨5,s.extract 0 2,0,2,true⟩
 |false,true=>⟨5,s.extract 0 1,0,1,true⟩
 |false,false=>q8u
def x0w (s:BA):Tok:=
 let c:=(tb s).getD 0 0
 match x1t c || x1y c,x0x c,decide (c=39)with
 |true,_,_=>x9a s
 |false,true,_=>x4w s
 |false,false,true=>y1s s
 |false,false,false=>x9l s
def z5y (s:BA)(a b:Nat)(hb:b<=(tb s).length)(hab:a<=b):(tb (s.extract a b)).length=b - a:=by rw[x6h];simp;omega
def w5r (s:BA)(b i:Nat)(hi:i < b):(tb (s.extract 0 b)).getD i 0=(tb s).getD i 0:=by
 rw[x6h,a2k,a0i,a1t,if_pos hi,a0i]
def y2y:(0:Int).toNat=0:=rfl
def v2c:(1:Int).toNat=1:=rfl
def y6x {p:Nat->Bool}{l:List Nat}(h:p (l.getD 0 0)=true)(hl:0 < l.length):0 < x2t p l:=by
 match l,hl with
 |c::r,_=>
  have h:p c=true:=h;unfold x2t;rw[List.takeWhile_cons,h];simp
def k1w (s:BA)(hs:s.size<=100000)(h0:0 < (tb s).length)(hc:x0t ((tb s).getD 0 0)=true):cF 80 [.d (.str s)]=some (x9a s).r:=by
 have k1:=w2s s (by omega)
 have hp:=y6x hc h0;have hle:=x4r x0t (tb s);have hlen:(tb s).length<=100000:=by rw[x2g];exact hs
 unfold x9a;simp only;generalize hn:x2t x0t (tb s)=n at k1 hp hle;have hsz:=z5y s 0 n hle (a0w _);rw[Nat.sub_zero]at hsz;have z:(s.extract 0 n).size<=100000:=by rw[<-x2g,hsz];omega
 have hat:=w5r s n 0 hp;have hq:((s.extract 0 n).data.getD (0:Int).toNat 0).toNat=(tb s).getD 0 0:=by rw[y2y,<-y2e,hat]
 have k2:=z6d ((tb s).getD 0 0);have k3:=u1a (s.extract 0 n);have k4:=z6l (s.extract 0 n);have k5:=u7y (s.extract 0 n);refine cO rfl ?_;rw[q9u];simp only[g80,go1,Int.reduceLE,k1];simp (disch:=omega) only [x0v,x2r,go1,x1p,y2y,a0n,hsz];rw[y2y]at hq;simp (disch:=omega) only [x0v,go1,hq,k2];cases x1y ((tb s).getD 0 0)with
 |true=>
  simp (disch:=omega) only [x0v,go1,k3,Tok.r]
 |false=>
  simp only[go1,k4,Tok.r];cases x3q (tb (s.extract 0 n))with
  |true=>simp only[go1];try rfl
  |false=>simp only[go1,k5];try rfl
def v8b (s:BA)(hs:s.size<=100000)(h0:0 < (tb s).length)(hc:x0x ((tb s).getD 0 0)=true):cF 82 [.d (.str s)]=some (x4w s).r:=by
 have k1:=w2t s (by omega)
 have hp:=y6x hc h0;have hle:=x4r x0x (tb s);have hlen:(tb s).length<=100000:=by rw[x2g];exact hs
 unfold x4w;simp only;generalize hn:x2t x0x (tb s)=n at k1 hp hle;have hsz:=z5y s 0 n hle (a0w _);rw[Nat.sub_zero]at hsz;have hat:=w5r s n 0 hp;have hq:((s.extract 0 n).data.getD (0:Int).toNat 0).toNat=(tb s).getD 0 0:=by rw[y2y,<-y2e,hat]
 rw[y2y]at hq;refine cO rfl ?_;rw[q9s];simp only[g82,go1,Int.reduceLE,k1];simp (disch:=omega) only [x0v,x2r,go1,x1p,y2y,a0n,hsz];rw[x8c (show((((s.extract 0 n).data.getD 0 0).toNat:Nat):Int)=48↔(tb s).getD 0 0=48 by omega),x8c (show(n:Int)=1↔n=1 by omega)]
 rfl
def q3t (s:BA)(hs:s.size<=100000)(h0:0 < (tb s).length):cF 83 [.d (.str s)]=some (y1s s).r:=by
 have hlen:(tb s).length<=100000:=by rw[x2g];exact hs
 have e1:tb (s.extract 1 (tb s).length)=(tb s).drop 1:=by rw[x6h,a0t]
 have k1:=v8f (s.extract 1 (tb s).length) 39;rw[e1]at k1;have h39:(39:UInt8).toNat=39:=rfl;rw[h39]at k1;refine cO rfl ?_;rw[q9r];simp only[g83,go1,Int.reduceLE];simp (disch:=omega) only [x0v,x2r,go1,x1p,v2c,a0n,k1];unfold y1s u1m;cases hi:y5c 39 ((tb s).drop 1)with
 |none=>simp only[go1,Int.reduceLT,Int.reduceAdd];rfl
 |some i=>
  have hlt:=(x4z hi).1;simp only[a1u]at hlt;have e2:((i:Int)+1).toNat=i+1:=by omega
  have z:(s.extract 1 (i+1)).size<=100000:=by rw[<-x2g,z5y _ _ _ (by omega) (by omega)];omega
  have k2:=w6b (s.extract 1 (i+1)) z;simp (disch:=omega) only [x0v,x2r,x1q,go1,e2,k2,Tok.r]
  first|rfl|(simp only[Int.natCast_add];rfl)
def w3f:cF 127 [.d (.str (bs [58,61,32,45,62,32,60,61,32,62,61,32,60,62]))]=some (.val [.sl 1 (x0c k3l)]):=y2r rfl
def w4a (i:Nat)(hi:i < 5): ∃m,k3l[i]? =some m/\tb m=y2w.getD i []/\(y2w.getD i []).length=2:=by
 match i,hi with
 |0,_|1,_|2,_|3,_|4,_=>exact⟨_,rfl,rfl,rfl⟩
def y5p {x:List Nat}:y2w.contains x=true↔ ∃i,i < 5/\x=y2w.getD i []:=by
 constructor
 ·intro h;rw[List.contains_iff_mem]at h;obtain⟨i,hi,he⟩:=List.mem_iff_getElem.1 h;exact⟨i,hi,by rw[a0i,a0b hi];exact he.symm⟩
 ·rintro⟨i,hi,rfl⟩
  match i,hi with
  |0,_|1,_|2,_|3,_|4,_=>rfl
def w1p (c:Nat)(l:List Nat):decide (u1m c l < 0)= !l.contains c:=by
 rcases u3c c l with⟨h,hn⟩|⟨i,h,hs,_⟩
 ·rw[h];have: ¬c∈l:=fun hm=>x8v hn c hm rfl
  simp[this]
 ·rw[h];have:c∈l:=by
   have e:=(x4z hs).2.1;rw[e];simp
  simp[this]
def q9j (s:BA):(s.data.getD 0 0).toNat=(tb s).getD 0 0:=(y2e s 0).symm
def q3x (s:BA)(hs:s.size<=100000)(h0:0 < (tb s).length):cF 84 [.d (.str s)]=some (x9l s).r:=by
 have hlen:(tb s).length<=100000:=by rw[x2g];exact hs
 have k0:=w3f;refine cO rfl ?_;rw[q9q];simp only[g84,go1,Int.reduceLE,k0];refine x0r (fun i:Nat=>[.str s, .sl 1 (x0c k3l), .int .i64 (5:Int), .int .i64 (i:Int), .int .i64 0, .str (bs []), .int .i64 0, .int .i64 0]) (fun i=>i<=5/\ ∀j,j < i->(tb s).take 2≠y2w.getD j []) (fun i=>5 - i) (fun i hi=> ?_) 0 ⟨by omega,fun j hj=>by omega⟩
 obtain⟨hle,hno⟩:=hi
 by_cases hlt:i < 5
 ·obtain⟨m,hm,htm,hl2⟩:=w4a i hlt;have k1:=k2h s m;rw[htm]at k1;have hrl:((x0c k3l).length:Int)=5:=rfl;have hcell:=x1w hm;have hsm:(tb m).length=2:=by rw[htm];exact hl2
  simp only[go1,z7k hm];simp (disch:=omega) only [x0v,x2r,go1,k1,hrl,x1p,hsm];cases hh:u1n (y2w.getD i []) (tb s)with
  |true=>
   right
   have he:=a0f hh;rw[hl2]at he;have hc:y2w.contains ((tb s).take 2)=true:=y5p.2 ⟨i,hlt,he⟩;have hx:m=s.extract 0 2:=x3f (by rw[x6h,a2k,he,htm])
   unfold x9l;rw[hc,<-hx];rfl
  |false=>
   left
   have he:=of_decide_eq_false hh;rw[hl2]at he;exact⟨i+1,by rw[Int.natCast_add];rfl,⟨by omega,fun j hj=>by
    by_cases e:j=i
    ·subst e;exact he
    ·exact hno j (by omega)⟩,by omega⟩
 ·right
  have:i=5:=by omega
  subst this;have hc:y2w.contains ((tb s).take 2)=false:=by
   rw[Bool.eq_false_iff];intro h;obtain⟨j,hj,he⟩:=y5p.1 h;exact hno j hj he
  have k2:=u4e (bs k5f) (s.data.getD 0 0);have e1:tb (bs k5f)=u2k:=rfl;rw[e1]at k2;have e2:bs k5f=bs [40,41,123,125,91,93,44,59,58,61,60,62,43,45,42,47]:=rfl;rw[e2]at k2;have hx:=w1p (s.data.getD 0 0).toNat u2k;unfold x9l;rw[hc];simp (disch:=omega) only [x0v,x2r,x1q,go1,x1p,k2,hx,y2y,v2c];rw[q9j];cases u2k.contains ((tb s).getD 0 0)<;>rfl
def k2b (s:BA)(hs:s.size<=100000)(h0:0 < (tb s).length):cF 36 [.d (.str s)]=some (x0w s).r:=by
 have hlen:(tb s).length<=100000:=by rw[x2g];exact hs
 have hq:((s.data.getD (0:Int).toNat 0).toNat:Int)=(((tb s).getD 0 0:Nat):Int):=by rw[y2y,q9j]
 have k1:=u7r ((tb s).getD 0 0);have k2:=z6d ((tb s).getD 0 0);have k3:=z6e ((tb s).getD 0 0);have e39:((s.extract (0:Int).toNat (1:Int).toNat).toList == (bs [39]).toList)=decide ((tb s).getD 0 0=39):=by
  rw[x2c,x7w,y2y,v2c];refine x8c ?_
  match hl:tb s,h0 with
  |c::r,_=>simp[z6y]
 refine cO rfl ?_;rw[k0m];simp only[g36,go1,Int.reduceLE];simp (disch:=omega) only [x0v,x2r,go1,x1p,hq,k1,k2,k3,e39];have wd:x0t ((tb s).getD 0 0)=true->cF 80 [.d (.str s)]=some (x9a s).r:=fun h=>k1w s hs h0 h
 have nd:x0x ((tb s).getD 0 0)=true->cF 82 [.d (.str s)]=some (x4w s).r:=fun h=>v8b s hs h0 h
 have pd:=q3t s hs h0;have md:=q3x s hs h0;cases h1:x1t ((tb s).getD 0 0)with
 |true=>
  have:=wd (by unfold x0t;rw[h1];rfl)
  have e:x0w s=x9a s:=by unfold x0w;simp only[h1,a1q]
  rw[e];simp only[go1,this,Tok.r]
 |false=>
  cases h2:x1y ((tb s).getD 0 0)with
  |true=>
   have:=wd (by unfold x0t;rw[h2];simp)
   have e:x0w s=x9a s:=by unfold x0w;simp only[h1,h2,a1d]
   rw[e];simp only[go1,this,Tok.r]
  |false=>
   cases h3:x0x ((tb s).getD 0 0)with
   |true=>
    have:=nd h3;have e:x0w s=x4w s:=by unfold x0w;simp only[h1,h2,h3,a1d]
    rw[e];simp only[go1,this,Tok.r]
   |false=>
    cases h4:decide ((tb s).getD 0 0=39)with
    |true=>
     have e:x0w s=y1s s:=by unfold x0w;simp only[h1,h2,h3,h4,a1d]
     rw[e];simp only[go1,pd,Tok.r]
    |false=>
     have e:x0w s=x9l s:=by unfold x0w;simp only[h1,h2,h3,h4,a1d]
     rw[e];simp only[go1,md,Tok.r]
def v9b (l:List Nat)(t:Tok):Prop:=t.ok=true->1<=t.w/\t.w<=l.length/\t.k≠6/\(t.k=4->(tb t.s).length+2=t.w)/\(t.k≠4->tb t.s=l.take t.w)
def v9p (s:BA)(h0:0 < (tb s).length)(hc:x0t ((tb s).getD 0 0)=true):v9b (tb s) (x9a s):=by
 have hp:=y6x hc h0;have hle:=x4r x0t (tb s);intro _;unfold x9a;simp only;split
 ·exact⟨hp,hle,(by decide:(2:Int)≠6),fun h=>absurd (show(2:Int)=4 from h) (by decide),fun _=>by rw[x6h,a2k]⟩
 ·exact⟨hp,hle,(by decide:(1:Int)≠6),fun h=>absurd (show(1:Int)=4 from h) (by decide),fun _=>by rw[x6h,a2k]⟩
def u9k (s:BA)(h0:0 < (tb s).length)(hc:x0x ((tb s).getD 0 0)=true):v9b (tb s) (x4w s):=by
 have hp:=y6x hc h0;have hle:=x4r x0x (tb s);intro _;exact⟨hp,hle,(by decide:(3:Int)≠6),fun h=>absurd (show(3:Int)=4 from h) (by decide),fun _=>by show tb (s.extract 0 _)=_;rw[x6h,a2k];rfl⟩
def w0p (s:BA)(h0:0 < (tb s).length):v9b (tb s) (y1s s):=by
 intro h;unfold y1s at h ⊢;cases hi:y5c 39 ((tb s).drop 1)with
 |none=>rw[hi]at h;cases h
 |some i=>
  have hlt:=(x4z hi).1;simp only[a1u]at hlt;refine⟨by show 1<=i+2;omega,by show i+2<=_;omega,(by decide:(4:Int)≠6),fun _=> ?_,fun h=>absurd rfl h⟩
  show(tb (s.extract 1 (i+1))).length+2=i+2;rw[z5y _ _ _ (by omega) (by omega)];omega
def w1g (s:BA)(h0:0 < (tb s).length):v9b (tb s) (x9l s):=by
 intro h;unfold x9l at h ⊢;cases h1:y2w.contains ((tb s).take 2)with
 |true=>
  obtain⟨i,hi,he⟩:=y5p.1 h1;have hl:((tb s).take 2).length=2:=by
   obtain⟨m,_,_,h2⟩:=w4a i hi;rw[he,h2]
  rw[a1s]at hl;exact⟨by show 1<=2;decide,by show 2<=_;omega,(by decide:(5:Int)≠6),fun h=>absurd (show(5:Int)=4 from h) (by decide),fun _=>by show tb (s.extract 0 2)=_;rw[x6h,a2k]⟩
 |false=>
  cases h2:u2k.contains ((tb s).getD 0 0)with
  |true=>exact⟨by show 1<=1;decide,by show 1<=_;omega,(by decide:(5:Int)≠6),fun h=>absurd (show(5:Int)=4 from h) (by decide),fun _=>by show tb (s.extract 0 1)=_;rw[x6h,a2k]⟩
  |false=>rw[h1,h2]at h;cases h
def z8o (s:BA):(x0w s=x9a s/\x0t ((tb s).getD 0 0)=true)\/(x0w s=x4w s/\x0x ((tb s).getD 0 0)=true)\/x0w s=y1s s\/x0w s=x9l s:=by
 cases h1:x1t ((tb s).getD 0 0)with
 |true=>exact .inl ⟨by unfold x0w;simp only[h1,a1q],by unfold x0t;rw[h1];rfl⟩
 |false=>
  cases h2:x1y ((tb s).getD 0 0)with
  |true=>exact .inl ⟨by unfold x0w;simp only[h1,h2,a1d],by unfold x0t;rw[h2];simp⟩
  |false=>
   cases h3:x0x ((tb s).getD 0 0)with
   |true=>exact .inr (.inl ⟨by unfold x0w;simp only[h1,h2,h3,a1d],rfl⟩)
   |false=>
    cases h4:decide ((tb s).getD 0 0=39)with
    |true=>exact .inr (.inr (.inl (by unfold x0w;simp only[h1,h2,h3,h4,a1d])))
    |false=>exact .inr (.inr (.inr (by unfold x0w;simp only[h1,h2,h3,h4,a1d])))
def v4n (s:BA)(h0:0 < (tb s).length):v9b (tb s) (x0w s):=by
 rcases z8o s with⟨h,hc⟩|⟨h,hc⟩|h|h<;>rw[h]
 ·exact v9p s h0 hc
 ·exact u9k s h0 hc
 ·exact w0p s h0
 ·exact w1g s h0
structure Tk where
 k:Int
 s:BA
 n:Int
 a:Nat
def x7v (t:Tk):List D:=[.int .i64 t.k, .str t.s, .int .i64 t.n, .int .i64 (t.a:Int)]
def x0h (l:List Tk):LL:=l.map x7v
def y7y (a b:List Tk):x0h a++x0h b=x0h (a++b):=by simp[x0h]
def x6w (l:List Tk):(x0h l).length=l.length:=by simp[x0h]
def y1t (s:BA)(a:Nat):List Tk × Nat × Bool:=
 if hp:a+x6s ((tb s).drop a) < (tb s).length then
   if h:(x0w (s.extract (a+x6s ((tb s).drop a)) (tb s).length)).ok=true/\1<=(x0w (s.extract (a+x6s ((tb s).drop a)) (tb s).length)).w then
     (⟨(x0w (s.extract (a+x6s ((tb s).drop a)) (tb s).length)).k,(x0w (s.extract (a+x6s ((tb s).drop a)) (tb s).length)).s,(x0w (s.extract (a+x6s ((tb s).drop a)) (tb s).length)).n,a+x6s ((tb s).drop a)⟩::
       (y1t s (a+x6s ((tb s).drop a)+(x0w (s.extract (a+x6s ((tb s).drop a)) (tb s).length)).w)).1,(y1t s (a+x6s ((tb s).drop a)+(x0w (s.extract (a+x6s ((tb s).drop a)) (tb s).length)).w)).2)
   else([],a+x6s ((tb s).drop a),false)
 else([],a+x6s ((tb s).drop a),true)
 termination_by (tb s).length - a
 decreasing_by all_goals omega
def q6y (s:BA):Tk:=⟨6,bs [],0,(tb s).length⟩
def k7t (s:BA)(most:Int):PRes:=match decide (most < ((tb s).length:Int)),(y1t s 0).2.2 with
 |true,_=> .val [.sl 4 [], .int .i64 most, .int .i64 3]
 |false,true=> .val [.sl 4 (x0h ((y1t s 0).1++[q6y s])), .int .i64 ((tb s).length:Int), .int .i64 0]
 |false,false=> .val [.sl 4 [], .int .i64 ((y1t s 0).2.1:Int), .int .i64 2]
def k7k (s:BA)(most:Int)(hs:s.size<=100000):cF 14 [.d (.str s), .d (.int .i64 most)]=some (k7t s most):=by
 have hlen:(tb s).length<=100000:=by rw[x2g];exact hs
 refine cO rfl ?_;rw[k0z];simp only[g14,go1,Nat.reduceAdd];unfold k7t;rw[x1p];cases hm:decide (most < ((tb s).length:Int))with
 |true=>simp only[go1]
 |false=>
  simp only[go1];refine x0r (fun x:Nat × List Tk=>[.str s, .int .i64 (x.1:Int), .sl 4 (x0h x.2)]) (fun x=>x.1<=(tb s).length/\x.2.length<=x.1/\y1t s 0=(x.2++(y1t s x.1).1,(y1t s x.1).2)) (fun x=>(tb s).length - x.1) (fun x hx=> ?_) (0,[]) ⟨a0w _,a0p _,by simp⟩
  obtain⟨a,acc⟩:=x;obtain⟨h1,h2,h3⟩:=hx;simp only at h1 h2 h3;have e1:=y7n s a h1;have z1:(s.extract (a:Int).toNat ((tb s).length:Int).toNat).size<=1000000:=by rw[<-x2g,e1];simp;omega
  have k1:=k7f _ z1;rw[e1]at k1;have hg:=v5x _ _ (a0p ((tb s).drop a).length);simp only[a1u]at hg;have heq:=y1t.eq_def s a;generalize x6s ((tb s).drop a)=g at k1 hg heq;have w1:IntKind.i64.wrap ((a:Int)+(g:Int))=((a+g:Nat):Int):=by rw[x0v (by omega) (by omega)];omega
  have e2:=y7n s (a+g) (by omega)
  rw[a0n,a0n]at e2;have z2:(s.extract (a+g) (tb s).length).size<=100000:=by rw[<-x2g,e2];simp;omega
  have hal:(x0h acc).length=acc.length:=x6w acc;simp only[go1,x1p];simp (disch:=omega) only [x0v,x2r,go1,k1,w1]
  by_cases hp:a+g < (tb s).length
  ·rw[dif_pos hp]at heq;have hpos:0 < (tb (s.extract (a+g) (tb s).length)).length:=by rw[e2];simp;omega
   have k2:=k2b (s.extract (a+g) (tb s).length) z2 hpos;have hok:=v4n (s.extract (a+g) (tb s).length) hpos;generalize x0w (s.extract (a+g) (tb s).length)=t at k2 hok heq;rw[e2]at hok;have i1:((a:Int)+(g:Int)).toNat=a+g:=by omega
   simp (disch:=omega) only [x0v,x1q,go1,a0n,k2,Tok.r];cases hb:t.ok with
   |false=>
    right
    rw[dif_neg (by rw[hb];simp)]at heq
    rw[h3,heq];simp only[go1,Int.natCast_add]
   |true=>
    left
    obtain⟨q1,q2,_⟩:=hok hb;simp only[a1u]at q2;rw[dif_pos ⟨hb,q1⟩]at heq;have w2:IntKind.i64.wrap ((a:Int)+(g:Int)+(t.w:Int))=((a+g+t.w:Nat):Int):=by rw[x0v (by omega) (by omega)];omega
    refine⟨(a+g+t.w,acc++[⟨t.k,t.s,t.n,a+g⟩]),?_,⟨by simp only;omega,by simp;omega,?_⟩,by simp only;omega⟩
    ·simp (disch:=omega) only [x0v,x2r,go1,hal,List.length_singleton];rw[<-y7y];simp only[go1,Int.natCast_add];rfl
    ·rw[h3,heq];simp
  ·right
   rw[dif_neg hp]at heq;have hpe:a+g=(tb s).length:=by omega
   rw[h3,heq,<-y7y,<-y7y];simp (disch:=omega) only [x0v,x2r,go1,hal,List.length_singleton];rw[show x0h ([]:List Tk)= []from rfl,a0y];rfl
end Go.Vm
end
