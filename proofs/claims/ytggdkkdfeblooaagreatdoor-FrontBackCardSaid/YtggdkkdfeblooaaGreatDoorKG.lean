/- Part KG of the proof. What is proved by the whole: the statement that the claim names, with no condition. -/
import Derived.Test.YtggdkkdfeblooaaGreatDoorKF
import Derived.Laws.Strings
set_option linter.all false
section
namespace Go.Vm
def tb (s:BA):List Nat:=s.data.toList.map UInt8.toNat
def x2m (s:BA):(tb s).length=s.size:=by
 unfold tb;rw[a1f,Array.length_toList];rfl
def z5e: ∀ {a b:List UInt8},a.map UInt8.toNat=b.map UInt8.toNat->a=b
 | [],[],_=>rfl
 | [],_::_,h=>by simp at h
 |_::_,[],h=>by simp at h
 |x::a,y::b,h=>by
  simp only[a1m,List.cons.injEq]at h;rw[UInt8.toNat_inj.1 h.1,z5e h.2]
def x3o {s u:BA}(h:tb s=tb u):s=u:=by
 have h1:s.data.toList=u.data.toList:=by
  unfold tb at h;exact z5e h
 cases s;cases u;simp only[ByteArray.mk.injEq];exact Array.toList_inj.1 h1
def k0a {s u:BA}:tb s=tb u↔s=u:=⟨x3o,fun h=>by rw[h]⟩
def u4g {s u:BA}(h:s.toList=u.toList):s=u:=by
 have e: ∀t:BA,t.toList=t.data.toList:=fun t=>ByteArray.toList_eq t
 rw[e,e]at h;cases s;cases u;simp only[ByteArray.mk.injEq];exact Array.toList_inj.1 h
def x1v (s u:BA):(s.toList == u.toList)=decide (tb s=tb u):=by
 rw[a1g,beq_iff_eq,a0p,k0a];exact⟨u4g,fun h=>by rw[h]⟩
def y3m (s:BA)(i:Nat):(tb s).getD i 0=(s.data.getD i 0).toNat:=by
 unfold tb;rw[a0i,a0o,a1a]
 by_cases h:i < s.data.size
 ·rw[a0x h];simp[Array.getD,show i < s.size from h]
 ·rw[Array.getElem?_eq_none (by omega)];simp[Array.getD,show ¬i < s.size from h]
def x0y (s u:BA):tb (s++u)=tb s++tb u:=by
 unfold tb;rw[ByteArray.data_append,Array.toList_append,List.map_append]
def x8r (s:BA)(a b:Int):tb (s.extract a.toNat b.toNat)=((tb s).take b.toNat).drop a.toNat:=by
 unfold tb;rw[ByteArray.data_extract,Array.toList_extract];simp[List.extract_eq_take_drop,List.map_take,List.map_drop,List.drop_take]
def z8y (l:List UInt8):tb (bs l)=l.map UInt8.toNat:=by simp[tb,bs]
def w9g (s:BA)(i:Nat):(s.get! i).toNat=(tb s).getD i 0:=by
 rw[y3m];show(s.data[i]!).toNat=_
 by_cases h:i < s.data.size
 ·simp[Array.getD,show i < s.size from h]
 ·simp only[Array.getD,h,dite_false];rw[getElem!_neg s.data i h];rfl
def z2n {s:BA}{i:Nat}(hb:(tb s).getD i 0 < 128):u2n s (i:Int)=(((tb s).getD i 0:Nat):Int)/\w6b s (i:Int)=1:=by
 unfold u2n w6b Utf8.decode;rw[a0m];simp only[Nat.add_zero,w9g];rw[if_pos hb];exact⟨rfl,rfl⟩
def u6e {s:BA}{i:Nat}(hb:128<=(tb s).getD i 0):128<=u2n s (i:Int)/\1<=w6b s (i:Int):=by
 unfold u2n w6b Utf8.decode;rw[a0m];simp only[Nat.add_zero,w9g];rw[if_neg (by omega)]
 have hr:128<=Utf8.runeError:=by decide
 repeat' split
 all_goals first|omega|(simp only[ge_iff_le,a0g,a0p]at*;omega)
def x2c (c:Nat):Bool:=decide (97<=c)&&decide (c<=122)
def x2f (c:Nat):Bool:=decide (65<=c)&&decide (c<=90)
def x1a (c:Nat):Bool:=decide (48<=c)&&decide (c<=57)
def x0x (c:Nat):Bool:=x2c c || x2f c || x1a c || decide (c=95)
def x6x (first:Nat->Bool)(l:List Nat):Bool:=decide (1<=l.length)&&decide (l.length<=12)&&first (l.getD 0 0)&&l.all x0x
def x1u (c:Nat):List Nat->List (List Nat)
 | []=>[[]]
 |x::xs=>if x=c then[]::x1u c xs else match x1u c xs with
  | []=>[[x]]
  |p::ps=>(x::p)::ps
def y1s (c:Nat): ∀l,x1u c l≠[]
 | []=>by simp[x1u]
 |x::xs=>by
  unfold x1u;split
  ·simp
  ·split<;>simp
def y6b (c:Nat): ∀(p l:List Nat),(∀x∈p,x≠c)->x1u c (p++l)=match x1u c l with
  | []=>[p]
  |q::qs=>(p++q)::qs
 | [],l,_=>by
   simp only[a0h];cases h:x1u c l with
   |nil=>exact absurd h (y1s c l)
   |cons q qs=>rfl
 |x::p,l,hp=>by
  rw[a0f,x1u,if_neg (hp x a0t),y6b c p l fun y hy=>hp y (a0v _ hy)]
  cases h:x1u c l with
  |nil=>exact absurd h (y1s c l)
  |cons q qs=>rfl
def y0k (c:Nat)(p:List Nat)(hp: ∀x∈p,x≠c):x1u c p= [p]:=by
 have:=y6b c p [] hp;rw[a0z]at this;rw[this];simp[x1u]
def y0l (c:Nat)(p l:List Nat)(hp: ∀x∈p,x≠c):x1u c (p++c::l)=p::x1u c l:=by
 rw[y6b c p _ hp];simp[x1u]
def w7s:List (List Nat):=["node", "returns", "var", "let", "tel", "enum", "if", "then", "else", "fby", "pre", "when", "merge", "every", "not", "and", "or", "xor", "mod", "true", "false", "int", "bool", "with"].map fun s=>s.toUTF8.data.toList.map UInt8.toNat
def x5h (l:List Nat):Bool:=w7s.contains l
def x4c (l:List Nat):Bool:=x6x x2c l&& !x5h l
def x3s (l:List Nat):Bool:=x6x x2f l
def u8k (l:List Nat):Bool:=decide (1<=l.length)&&decide (l.length<=3)&& !decide (l.getD 0 0=48)&&l.all x1a
def y1y (l:List Nat):Bool:=match x1u 46 l with
 | [a]=>x4c a
 | [a,b]=>x4c a&&u8k b
 |_=>false
def y6e (l:List Nat):Bool:=(x1u 47 l).all y1y
def y6t (c:Nat):List Nat->Option Nat
 | []=>none
 |x::xs=>if x=c then some 0 else(y6t c xs).map (· +1)
def x9z {c:Nat}: ∀ {l:List Nat},y6t c l=none-> ∀x∈l,x≠c
 | [],_,x,hx=>by simp at hx
 |y::ys,h,x,hx=>by
  unfold y6t at h;split at h
  ·cases h
  ·rw[Option.map_eq_none_iff]at h;rcases a1n.1 hx with rfl|hx
   ·assumption
   ·exact x9z h x hx
def x5q {c:Nat}: ∀ {l:List Nat} {i:Nat},y6t c l=some i->i < l.length/\l=l.take i++c::l.drop (i+1)/\ ∀x∈l.take i,x≠c
 | [],i,h=>by cases h
 |y::ys,i,h=>by
  unfold y6t at h;split at h
  ·cases h;rename_i e;subst e;exact⟨by simp,by simp,by simp⟩
  ·rename_i hne;rw[a0n]at h;obtain⟨j,hj,rfl⟩:=h;obtain⟨h1,h2,h3⟩:=x5q hj;refine⟨by simp;omega,?_,fun x hx=> ?_⟩
   ·simp only[List.take_succ_cons,List.drop_succ_cons,a0f];rw[<-h2]
   ·rw[List.take_succ_cons]at hx;rcases a1n.1 hx with rfl|hx
    ·exact hne
    ·exact h3 x hx
def v7m (l:List Nat):y1y l=match y6t 46 l with
  |none=>x4c l
  |some i=>x4c (l.take i)&&u8k (l.drop (i+1)):=by
 cases h:y6t 46 l with
 |none=>
  unfold y1y;rw[y0k 46 l (x9z h)]
 |some i=>
  obtain⟨h1,h2,h3⟩:=x5q h;simp only;generalize hb:l.take i=b at h2 h3 ⊢;generalize ha:l.drop (i+1)=a at h2 ⊢;subst h2;unfold y1y;rw[y0l 46 b a h3];cases hq:y6t 46 a with
  |none=>rw[y0k 46 a (x9z hq)]
  |some j=>
   obtain⟨q1,q2,q3⟩:=x5q hq;have e:u8k a=false:=by
    unfold u8k;have:a.all x1a=false:=by
     rw[q2,List.all_append,a1r];have:x1a 46=false:=by decide
     rw[this];simp
    rw[this];simp
   have hs:x1u 46 a=a.take j::x1u 46 (a.drop (j+1)):=by
    conv=>lhs;rw[q2]
    exact y0l 46 _ _ q3
   rw[hs,e,Bool.and_false];cases hz:x1u 46 (a.drop (j+1))with
   |nil=>exact absurd hz (y1s _ _)
   |cons z zs=>rfl
end Go.Vm
end
section
set_option maxRecDepth 100000
set_option maxHeartbeats 2000000
namespace Go.Vm
open Go.Proofs
def inI (a b n:Int):Bool:=decide (a<=n)&&decide (n<=b)
def x9x (c:Nat):inI 97 122 (c:Int)=x2c c:=by
 unfold inI x2c;rw[a1g];simp only[a0g,a0p];omega
def x9y (c:Nat):inI 65 90 (c:Int)=x2f c:=by
 unfold inI x2f;rw[a1g];simp only[a0g,a0p];omega
def x5p (c:Nat):inI 48 57 (c:Int)=x1a c:=by
 unfold inI x1a;rw[a1g];simp only[a0g,a0p];omega
def y3v {a b n:Int}(h:b < n):inI a b n=false:=by
 unfold inI;rw[x1j (p:=n<=b) (by omega),Bool.and_false]
def z8a (n:Int):cF 136 [.d (.int .i32 n)]=some (.val [.bool (inI 97 122 n)]):=by
 refine cO rfl ?_;rw[(g136 ..).2];simp only[g136,go1];rfl
def z8e (n:Int):cF 138 [.d (.int .i32 n)]=some (.val [.bool (inI 65 90 n)]):=by
 refine cO rfl ?_;rw[(g138 ..).2];simp only[g138,go1];rfl
def y6y (n:Int):cF 179 [.d (.int .i32 n)]=some (.val [.bool (inI 48 57 n)]):=by
 refine cO rfl ?_;rw[(g179 ..).2];simp only[g179,go1];rfl
def x4v {α:Type}{l:List α}{p:Nat}{f:α->Bool}{d:α}(hp:p < l.length)(h:(l.take p).all f=true)(hx:f (l.getD p d)=true):(l.take (p+1)).all f=true:=by
 rw[a1e,List.all_append,h,a0b hp];rw[a0i,a0b hp]at hx
 simpa using hx
def y5u {α:Type}{l:List α}{p:Nat}{f:α->Bool}{d:α}(hp:p < l.length)(hx:f (l.getD p d)=false):l.all f=false:=by
 rw[a0i,a0b hp]at hx;rw[Bool.eq_false_iff];intro hh;have:=a0l.1 hh _ (a1j hp);simp at hx;rw[hx]at this;cases this
def x9u {first:Nat->Bool}{l:List Nat}{p:Nat}(hp:p < l.length)(hx:x0x (l.getD p 0)=false):x6x first l=false:=by
 unfold x6x;rw[y5u hp hx,Bool.and_false]
def y0r {first:Nat->Bool}{l:List Nat}(hx:first (l.getD 0 0)=false):x6x first l=false:=by
 unfold x6x;rw[hx,Bool.and_false,Bool.false_and]
def x1x (s:BA):(s.size:Int)=((tb s).length:Int):=by rw[x2m]
def y5h (c:Nat):x0x c=(x2c c || x2f c || x1a c || decide (c=95)):=rfl
def u1d {c:Nat}(h:128<=c):x0x c=false:=by
 unfold x0x x2c x2f x1a;simp;omega
def k6e (s:BA):cF 135 [.d (.str s), .fn 136 []]=some (.val [.bool (x6x x2c (tb s))]):=by
 refine cO rfl ?_;rw[(u9j ..).2];simp only[u9j,go1];refine x0w (fun p:Nat=>[.str s, .str s, .int .i64 (p:Int)]) (fun p=>p<=(tb s).length/\((tb s).take p).all x0x=true/\(0 < p->x2c ((tb s).getD 0 0)=true)) (fun p=>(tb s).length - p) (fun p hp=> ?_) 0 ⟨a0w _,by simp,by omega⟩
 obtain⟨hle,hall,hfst⟩:=hp
 by_cases hlt:p < (tb s).length
 ·by_cases hc:(tb s).getD p 0 < 128
  ·obtain⟨e1,e2⟩:=z2n hc;simp only[go1,x1x,x0i hlt,y5z,y5y,e1,e2,z8a,z8e,y6y,x9x,x9y,x5p];have hi:=y5h ((tb s).getD p 0)
   by_cases h0:p=0
   ·subst h0;cases hs:x2c ((tb s).getD 0 0)with
    |false=>
     right
     rw[y0r hs];simp only[go1];rfl
    |true=>
     left
     rw[hs]at hi;refine⟨0+1,?_,⟨hlt,x4v hlt hall (by rw[hi];rfl),fun _=>(by first|rfl|exact hs)⟩,by omega⟩
     simp only[go1];rfl
   ·rw[x1j (p:=(p:Int)=0) (by omega)]
    cases hin:x0x ((tb s).getD p 0)with
    |false=>
     right
     rw[x9u hlt hin];rw[hin]at hi;have hi:=hi.symm;simp only[Bool.or_eq_false_iff]at hi;obtain⟨⟨⟨i1,i2⟩,i3⟩,i4⟩:=hi;have i4': ¬(((tb s).getD p 0:Nat):Int)=95:=by
      have:=of_decide_eq_false i4;omega
     rw[x1j i4'];simp only[i1,i2,i3,go1]
    |true=>
     left
     refine⟨p+1,?_,⟨hlt,x4v hlt hall hin,fun _=>hfst (by omega)⟩,by omega⟩
     rw[hin]at hi;cases i1:x2c ((tb s).getD p 0)<;>cases i2:x2f ((tb s).getD p 0)<;>cases i3:x1a ((tb s).getD p 0)<;>rw[i1,i2,i3]at hi<;>simp only[go1]<;>(try rfl)
     all_goals
      simp only[Bool.or_self,a1d]at hi;have i4:=a0e hi.symm;rw[x1y (p:=(((tb s).getD p 0:Nat):Int)=95) (by omega)]
      rfl
  ·have hb:=u6e (s:=s) (i:=p) (by omega)
   right
   have hin:x0x ((tb s).getD p 0)=false:=by
    exact u1d (by omega)
   rw[x9u hlt hin];have hz: ¬u2n s (p:Int)=95:=by omega
   simp only[go1,x1x,x0i hlt,y5z,y5y,z8a,z8e,y6y,y3v (a:=97) (b:=122) (n:=u2n s (p:Int)) (by omega),y3v (a:=65) (b:=90) (n:=u2n s (p:Int)) (by omega),y3v (a:=48) (b:=57) (n:=u2n s (p:Int)) (by omega)]
   cases decide ((p:Int)=0)
   ·simp only[cond_true,cond_false];simp[hz]
   ·rfl
 ·right
  have:p=(tb s).length:=by omega
  subst this;simp only[go1,x1x,x0f];rw[a0u]at hall;unfold x6x;rw[hall,a2a]
  by_cases h0:0 < (tb s).length
  ·rw[hfst h0,a2a]
   by_cases h12:(tb s).length<=12
   ·rw[x1y (p:=1<=((tb s).length:Int)) (by omega),x1y (p:=((tb s).length:Int)<=12) (by omega),x1y (p:=1<=(tb s).length) (by omega),x1y h12]
    first|done|rfl
   ·rw[x1y (p:=1<=((tb s).length:Int)) (by omega),x1j (p:=((tb s).length:Int)<=12) (by omega),x1j h12]
    first|done|rfl|simp
  ·rw[x1j (p:=1<=((tb s).length:Int)) (by omega),x1j (p:=1<=(tb s).length) (by omega)]
   first|done|rfl|simp
def x0e (l:List BA):(x0b l).length=l.length:=by simp[x0b]
def y4h (a b:List BA):x0b a++x0b b=x0b (a++b):=by simp[x0b]
def z9l {l:List BA}{i:Nat}{x:BA}(h:l[i]? =some x):sy.row (x0b l) (i:Int)= [.str x]:=by
 rw[y1r,a0m,a0i];unfold x0b;rw[a0o,h];rfl
def x1c {l:List BA}{i:Nat}{x:BA}(h:l[i]? =some x):sy.cell (sy.row (x0b l) (i:Int)) 0=some (.str x):=by rw[z9l h];rfl
def u3p (c:Nat)(l:List Nat):Int:=match y6t c l with
 |none=> -1
 |some i=>i
def u9f (c:UInt8): ∀l:List UInt8,Lib.indexByte l c=u3p c.toNat (l.map UInt8.toNat)
 | []=>rfl
 |b::l=>by
  unfold Lib.indexByte u3p;rw[a1m,y6t];have ih:=u9f c l
  by_cases h:b=c
  ·subst h;simp
  ·have h1: ¬b.toNat=c.toNat:=fun e=>h (UInt8.toNat_inj.1 e)
   have h2:(b == c)=false:=by simp[h]
   rw[h2,if_neg h1,ih];unfold u3p;cases y6t c.toNat (l.map UInt8.toNat)with
   |none=>rfl
   |some i=>
    have:((i:Int) == -1)=false:=by rw[beq_eq_false_iff_ne];omega
    simp[this]
def v6c (s:BA)(m:UInt8):sy.sidx s ((m.toNat:Nat):Int)=u3p m.toNat (tb s):=by
 rw[q1y,a0m,u9f];have:m.toNat.toUInt8=m:=by simp
 rw[this];rfl
def q2j (l:List UInt8):((bs l).size:Int)=l.length:=by
 show((l.toArray.size:Nat):Int)=_;simp
def z2x (s:BA)(m:UInt8):cF 169 [.d (.str s), .d (.str (bs [m]))]=some (.val [.int .i64 (u3p m.toNat (tb s))]):=by
 have h72:cF 174 [.d (.str s), .d (.int .u8 (sy.sbyte (bs [m]) 0))]=some (.val [.int .i64 (u3p m.toNat (tb s))]):=by
  refine cO rfl ?_;rw[(k7v ..).2];simp only[k7v,go1];show some (PRes.val [D.int .i64 (sy.sidx s ((m.toNat:Nat):Int))])=_;rw[v6c]
 refine cO rfl ?_;rw[(g169 ..).2];simp only[g169];have e1:sy.ieq (sy.slen (bs [m])) 0=false:=rfl;have e2:sy.ieq (sy.slen (bs [m])) 1=true:=rfl;have e3:sy.inr 0 (sy.slen (bs [m]))=true:=rfl;rw[<-y3w]at h72;cases h:sy.seq (bs [m]) s with
 |true=>
  have:tb (bs [m])=tb s:=by
   rw[u7d,x1v]at h;exact a0e h
  have hz:u3p m.toNat (tb s)=0:=by
   rw[<-this];unfold u3p tb bs;simp[y6t]
  rw[hz]
  repeat' (first|with_reducible exact z0c|with_reducible apply z9j|with_reducible apply z0d|((with_reducible apply k0d);(first|with_reducible exact e1|with_reducible exact h|rfl))|((with_reducible apply k0e);(first|with_reducible exact e1|with_reducible exact h|rfl))|with_reducible apply v5y|with_reducible apply z9i|with_reducible exact z9h|with_reducible apply z9f|with_reducible apply z9g|with_reducible apply z9e|rfl)
 |false=>
  repeat' (first|with_reducible exact z0c|with_reducible apply z9j|with_reducible apply z0d|((with_reducible apply k0d);(first|with_reducible exact e1|with_reducible exact e2|with_reducible exact e3|with_reducible exact h|rfl))|((with_reducible apply k0e);(first|with_reducible exact e1|with_reducible exact e2|with_reducible exact e3|with_reducible exact h|rfl))|with_reducible apply v5y|with_reducible apply z9i|with_reducible exact z9h|with_reducible apply z9f|with_reducible apply z9g|with_reducible apply z9e|exact h72|rfl)
def w1n (s:BA)(m:UInt8):cF 127 [.d (.str s), .d (.str (bs [m]))]=some (.val [.int .i64 (u3p m.toNat (tb s))]):=by
 have:=z2x s m;refine cO rfl ?_;rw[(g127 ..).2];simp only[g127,go1,this]
def u5j (c:Nat)(l:List Nat):u3p c l= -1/\y6t c l=none\/ ∃i:Nat,u3p c l=i/\y6t c l=some i/\i < l.length:=by
 unfold u3p;cases h:y6t c l with
 |none=>exact .inl ⟨rfl,rfl⟩
 |some i=>exact .inr ⟨i,rfl,rfl,(x5q h).1⟩
def c_Cut (s:BA)(m:UInt8)(hs:s.size<=100000): ∃a b f,cF 210 [.d (.str s), .d (.str (bs [m]))]=some (.val [.str a, .str b, .bool f])/\
  ((f=false/\y6t m.toNat (tb s)=none/\tb a=tb s)\/(f=true/\ ∃i,y6t m.toNat (tb s)=some i/\tb a=(tb s).take i/\tb b=(tb s).drop (i+1))):=by
 have hI:=z2x s m;have hl:=x2m s;rcases u5j m.toNat (tb s)with⟨hz,hn⟩|⟨i,hz,hn,hi⟩
 ·refine⟨s,bs [],false,?_, .inl ⟨rfl,hn,rfl⟩⟩;rw[hz]at hI;have h60:cF 246 [.d (.str s), .d (.str (bs [m]))]=some (.val [.str s, .str (bs []), .bool false]):=by
   refine cO rfl ?_;rw[(k7r ..).2];simp only[k7r,go1,Int.reduceLE,hI]
  refine cO rfl ?_;rw[(k7t ..).2];simp only[k7t,go1,h60]
 ·rw[hz]at hI;have h60:cF 246 [.d (.str s), .d (.str (bs [m]))]=some (.val [.str (s.extract (0:Int).toNat ((i:Nat):Int).toNat), .str (s.extract ((i:Int)+1).toNat ((s.size:Nat):Int).toNat), .bool true]):=by
   refine cO rfl ?_;rw[(k7r ..).2];simp only[k7r,go1,Int.reduceLE,hI,q2j];rw[x1y (p:=0<=(i:Int)) (by omega),x1y (p:=0<=(i:Int)/\(i:Int)<=(s.size:Int)) (by omega)]
   have hw:IntKind.i64.wrap ((i:Int)+((([m]:List UInt8).length:Nat):Int))=(i:Int)+1:=by
    rw[show((([m]:List UInt8).length:Nat):Int)=1 from rfl,x0v (by omega) (by omega)]
   rw[hw,x1y (p:=0<=(i:Int)+1/\(i:Int)+1<=(s.size:Int)/\(s.size:Int)<=(s.size:Int)) (by omega)]
   rfl
  refine⟨s.extract (0:Int).toNat ((i:Nat):Int).toNat,s.extract ((i:Int)+1).toNat ((s.size:Nat):Int).toNat,true,?_, .inr ⟨rfl,i,hn,?_,?_⟩⟩
  ·refine cO rfl ?_;rw[(k7t ..).2];simp only[k7t,go1,h60]
  ·rw[x8r];simp
  ·rw[x8r];have e1:((i:Int)+1).toNat=i+1:=by omega
   rw[e1,a0m,<-hl,a0u]
end Go.Vm
end
section
set_option maxRecDepth 100000
set_option maxHeartbeats 4000000
namespace Go.Vm
open Go.Proofs
def x9g:List BA:=[bs [110,111,100,101],bs [114,101,116,117,114,110,115],bs [118,97,114],bs [108,101,116],bs [116,101,108],bs [101,110,117,109],bs [105,102],bs [116,104,101,110],bs [101,108,115,101],bs [102,98,121],bs [112,114,101],bs [119,104,101,110],bs [109,101,114,103,101],bs [101,118,101,114,121],bs [110,111,116],bs [97,110,100],bs [111,114],bs [120,111,114],bs [109,111,100],bs [116,114,117,101],bs [102,97,108,115,101],bs [105,110,116],bs [98,111,111,108],bs [119,105,116,104]]
def v4k:x9g.map tb=w7s:=by decide+kernel
def z8t (s:BA):x5h (tb s)=x9g.any fun w=>decide (tb s=tb w):=by
 unfold x5h;rw[<-v4k,List.contains_eq_any_beq,List.any_map];congr 1;funext w;rw[a1g];simp
def v0i (s:BA):cF 125 [.d (.str s)]=some (.val [.bool (x5h (tb s))]):=by
 rw[z8t];refine cO rfl ?_;rw[(g125 ..).2];simp only[g125,go1];unfold x9g;simp only[x1v,List.any_cons,List.any_nil,Bool.or_false];cases decide (tb s=tb (bs [110,111,100,101]))<;>simp only[cond_true,cond_false,a1t,a1d]
 cases decide (tb s=tb (bs [114,101,116,117,114,110,115]))<;>simp only[cond_true,cond_false,a1t,a1d]
 cases decide (tb s=tb (bs [118,97,114]))<;>simp only[cond_true,cond_false,a1t,a1d]
 cases decide (tb s=tb (bs [108,101,116]))<;>simp only[cond_true,cond_false,a1t,a1d]
 cases decide (tb s=tb (bs [116,101,108]))<;>simp only[cond_true,cond_false,a1t,a1d]
 cases decide (tb s=tb (bs [101,110,117,109]))<;>simp only[cond_true,cond_false,a1t,a1d]
 cases decide (tb s=tb (bs [105,102]))<;>simp only[cond_true,cond_false,a1t,a1d]
 cases decide (tb s=tb (bs [116,104,101,110]))<;>simp only[cond_true,cond_false,a1t,a1d]
 cases decide (tb s=tb (bs [101,108,115,101]))<;>simp only[cond_true,cond_false,a1t,a1d]
 cases decide (tb s=tb (bs [102,98,121]))<;>simp only[cond_true,cond_false,a1t,a1d]
 cases decide (tb s=tb (bs [112,114,101]))<;>simp only[cond_true,cond_false,a1t,a1d]
 cases decide (tb s=tb (bs [119,104,101,110]))<;>simp only[cond_true,cond_false,a1t,a1d]
 cases decide (tb s=tb (bs [109,101,114,103,101]))<;>simp only[cond_true,cond_false,a1t,a1d]
 cases decide (tb s=tb (bs [101,118,101,114,121]))<;>simp only[cond_true,cond_false,a1t,a1d]
 cases decide (tb s=tb (bs [110,111,116]))<;>simp only[cond_true,cond_false,a1t,a1d]
 cases decide (tb s=tb (bs [97,110,100]))<;>simp only[cond_true,cond_false,a1t,a1d]
 cases decide (tb s=tb (bs [111,114]))<;>simp only[cond_true,cond_false,a1t,a1d]
 cases decide (tb s=tb (bs [120,111,114]))<;>simp only[cond_true,cond_false,a1t,a1d]
 cases decide (tb s=tb (bs [109,111,100]))<;>simp only[cond_true,cond_false,a1t,a1d]
 cases decide (tb s=tb (bs [116,114,117,101]))<;>simp only[cond_true,cond_false,a1t,a1d]
 cases decide (tb s=tb (bs [102,97,108,115,101]))<;>simp only[cond_true,cond_false,a1t,a1d]
 cases decide (tb s=tb (bs [105,110,116]))<;>simp only[cond_true,cond_false,a1t,a1d]
 cases decide (tb s=tb (bs [98,111,111,108]))<;>simp only[cond_true,cond_false,a1t,a1d]
 cases decide (tb s=tb (bs [119,105,116,104]))<;>simp only[cond_true,cond_false]
def z8j (s:BA):cF 87 [.d (.str s)]=some (.val [.bool (x4c (tb s))]):=by
 have h1:=k6e s;have h2:=v0i s;refine cO rfl ?_;rw[(g87 ..).2];simp only[g87,go1,h1,h2];rfl
def u8j {l:List Nat}{p:Nat}(hp:p < l.length)(hx:x1a (l.getD p 0)=false):u8k l=false:=by
 unfold u8k;rw[y5u hp hx,Bool.and_false]
def w6v (s:BA):cF 211 [.d (.str s)]=some (.val [.bool (u8k (tb s))]):=by
 refine cO rfl ?_;rw[(g211 ..).2];simp only[g211,go1];refine x0w (fun p:Nat=>[.str s, .str s, .int .i64 (p:Int)]) (fun p=>p<=(tb s).length/\((tb s).take p).all x1a=true/\(0 < p->(tb s).getD 0 0≠48)) (fun p=>(tb s).length - p) (fun p hp=> ?_) 0 ⟨a0w _,by simp,by omega⟩
 obtain⟨hle,hall,hfst⟩:=hp
 by_cases hlt:p < (tb s).length
 ·by_cases hc:(tb s).getD p 0 < 128
  ·obtain⟨e1,e2⟩:=z2n hc;simp only[go1,x1x,x0i hlt,y5z,y5y,e1,e2,y6y,x5p];cases hin:x1a ((tb s).getD p 0)with
   |false=>
    right
    rw[u8j hlt hin];simp only[go1]
   |true=>
    by_cases h0:p=0
    ·subst h0
     by_cases h48:(tb s).getD 0 0=48
     ·right
      have:u8k (tb s)=false:=by unfold u8k;rw[x1y h48];simp
      rw[this,x1y (p:=(((tb s).getD 0 0:Nat):Int)=48) (by omega)]
      simp only[go1];rfl
     ·left
      refine⟨0+1,?_,⟨hlt,x4v hlt hall hin,fun _=>h48⟩,by omega⟩
      rw[x1j (p:=(((tb s).getD 0 0:Nat):Int)=48) (by omega)]
      simp only[go1];rfl
    ·left
     refine⟨p+1,?_,⟨hlt,x4v hlt hall hin,fun _=>hfst (by omega)⟩,by omega⟩
     rw[x1j (p:=(p:Int)=0) (by omega)]
     simp only[go1];rfl
  ·have hb:=u6e (s:=s) (i:=p) (by omega)
   right
   have hin:x1a ((tb s).getD p 0)=false:=by
    have:128<=(tb s).getD p 0:=by omega
    generalize (tb s).getD p 0=c at this;unfold x1a;simp;omega
   rw[u8j hlt hin];simp only[go1,x1x,x0i hlt,y5z,y5y,y6y,y3v (a:=48) (b:=57) (n:=u2n s (p:Int)) (by omega)]
 ·right
  have:p=(tb s).length:=by omega
  subst this;simp only[go1,x1x,x0f];rw[a0u]at hall;unfold u8k;rw[hall,a2a]
  by_cases h0:0 < (tb s).length
  ·rw[x1j (hfst h0),x1y (p:=1<=((tb s).length:Int)) (by omega),x1y (p:=1<=(tb s).length) (by omega)]
   by_cases h3:(tb s).length<=3
   ·rw[x1y (p:=((tb s).length:Int)<=3) (by omega),x1y h3];rfl
   ·rw[x1j (p:=((tb s).length:Int)<=3) (by omega),x1j h3];rfl
  ·rw[x1j (p:=1<=((tb s).length:Int)) (by omega),x1j (p:=1<=(tb s).length) (by omega)]
   rfl
def k6b (s:BA)(hs:s.size<=100000):cF 171 [.d (.str s)]=some (.val [.bool (y1y (tb s))]):=by
 obtain⟨a,b,f,h1,h2⟩:=c_Cut s 46 hs;have h3:=z8j a;have h4:=w6v b;rw[v7m];rcases h2 with⟨rfl,hn,ha⟩|⟨rfl,i,hn,ha,hb⟩
 ·rw[ha]at h3;have hn:y6t 46 (tb s)=none:=hn;rw[hn];refine cO rfl ?_;rw[(k7w ..).2];simp only[k7w,go1,h1,h3]
  try (cases x4c (tb s)<;>rfl)
 ·rw[ha]at h3;rw[hb]at h4;have hn:y6t 46 (tb s)=some i:=hn;rw[hn];refine cO rfl ?_;rw[(k7w ..).2];simp only[k7w,go1,h1,h3,h4]
  try (cases x4c ((tb s).take i)<;>rfl)
end Go.Vm
end
section
namespace Go.Vm
def x5n {σ α:Type}{b:List D->Option (List D ⊕ α)}{Q:α->Prop}(mk:σ->List D)(I:σ->Prop)(μ:σ->Nat)
  (h: ∀x,I x->(∃y,b (mk x)=some (.inl (mk y))/\I y/\μ y < μ x)\/ ∃r,b (mk x)=some (.inr r)/\Q r) (x:σ) (h0:I x): ∃r,x5f b (mk x)=some r/\Q r:=by
 suffices ∀n x,μ x < n->I x-> ∃r,x5f b (mk x)=some r/\Q r from this _ x (a1p _) h0
 intro n
 induction n with
 |zero=>intro x h;omega
 |succ n ih=>
  intro x hlt hi;rw[x4n];rcases h x hi with⟨d,h1,h2,h3⟩|⟨r,h1,h2⟩
  ·rw[h1];exact ih d (by omega) h2
  ·rw[h1];exact⟨r,rfl,h2⟩
def viaL {α:Type}{X:Option (List D ⊕ α)}{L L':List D}(h:X=some (.inl L))(e:L=L'):X=some (.inl L'):=by rw[h,e]
def viaR {α:Type}{X:Option (List D ⊕ α)}{Q:α->Prop}{r:α}(h:X=some (.inr r))(e:Q r): ∃r,X=some (.inr r)/\Q r:=⟨r,h,e⟩
end Go.Vm
end
section
set_option maxRecDepth 100000
set_option maxHeartbeats 4000000
namespace Go.Vm
open Go.Proofs
def w0l (c:UInt8): ∀l:List UInt8,(l.map UInt8.toNat).count c.toNat=l.count c
 | []=>rfl
 |b::l=>by
  rw[a1m,List.count_cons,List.count_cons,w0l c l]
  by_cases h:b=c
  ·subst h;simp
  ·have h1:(b.toNat == c.toNat)=false:=by
    rw[beq_eq_false_iff_ne];exact fun e=>h (UInt8.toNat_inj.1 e)
   have h2:(b == c)=false:=by simp[h]
   rw[h1,h2]
def q2l (s:BA)(m:UInt8):sy.scnt s ((m.toNat:Nat):Int)=(((tb s).count m.toNat:Nat):Int):=by
 rw[q1z,a0m];have:m.toNat.toUInt8=m:=by simp
 rw[this];unfold Lib.countByte tb;rw[w0l]
def q6r (s:BA)(m:UInt8):cF 245 [.d (.str s), .d (.str (bs [m]))]=some (.val [.int .i64 (((tb s).count m.toNat:Nat):Int)]):=by
 refine cO rfl ?_;rw[(g245 ..).2];simp only[g245];have e1:sy.ieq (sy.slen (bs [m])) 0=false:=rfl;have e2:sy.ieq (sy.slen (bs [m])) 1=true:=rfl;have e3:sy.inr 0 (sy.slen (bs [m]))=true:=rfl;rw[<-q2l]
 repeat' (first|with_reducible exact z0c|with_reducible apply z9j|with_reducible apply z0d|((with_reducible apply k0d);(first|with_reducible exact e1|with_reducible exact e2|with_reducible exact e3|rfl))|((with_reducible apply k0e);(first|with_reducible exact e1|with_reducible exact e2|with_reducible exact e3|rfl))|with_reducible apply v5y|with_reducible apply z9i|with_reducible exact z9h|with_reducible apply z9f|with_reducible apply z9g|with_reducible apply z9e|rfl)
def y2p (c:Nat): ∀l:List Nat,(x1u c l).length=l.count c+1
 | []=>rfl
 |x::xs=>by
  unfold x1u;have ih:=y2p c xs;rw[List.count_cons]
  by_cases h:x=c
  ·subst h;simp[ih]
  ·rw[if_neg h];have h2:(x == c)=false:=by simp[h]
   rw[h2];cases hq:x1u c xs with
   |nil=>exact absurd hq (y1s c xs)
   |cons p ps=>rw[hq]at ih;simpa using ih
def q5j {c:Nat}{l:List Nat}{j:Nat}(h:y6t c l=some j):l.count c=(l.drop (j+1)).count c+1:=by
 obtain⟨h1,h2,h3⟩:=x5q h
 conv=>lhs;rw[h2]
 rw[List.count_append,List.count_cons,List.count_eq_zero.2 (fun hm=>h3 c hm rfl)]
 simp
def w6c {c:Nat}{l:List Nat}(h:y6t c l=none):l.count c=0:=List.count_eq_zero.2 fun hm=>x9z h c hm rfl
def u3x:List D:=[.str (bs [])]
def w3t (d:List BA)(k:Nat)(x:BA):sy.rput (x0b d++List.replicate (k+1) u3x) d.length 0 [.str x]=x0b (d++[x])++List.replicate k u3x:=by
 have hg:(x0b d++List.replicate (k+1) u3x).getD d.length []=u3x:=by
  rw[a0i,List.getElem?_append_right (by rw[x0e];exact a0q _),x0e,Nat.sub_self]
  simp
 show(x0b d++List.replicate (k+1) u3x).set d.length (((x0b d++List.replicate (k+1) u3x).getD d.length []).take 0++[.str x]++((x0b d++List.replicate (k+1) u3x).getD d.length []).drop (0+1))=_;rw[hg,List.set_append_right _ _ (by rw[x0e];exact a0q _),x0e,Nat.sub_self,List.replicate_succ]
 rw[show(u3x.take 0++[D.str x]++u3x.drop (0+1))= [D.str x]from rfl];simp[x0b,w2l]
def v3n (s:BA)(hs:s.size<=100000): ∃p,cF 209 [.d (.str s), .d (.str (bs [47])), .d (.int .i64 0), .d (.int .i64 (-1))]=some p/\ ∃l:List BA,p= .own 9 1 (x0b l)/\l.map tb=x1u 47 (tb s):=by
 have hc:=q6r s 47;have hI:=fun r=>w1n r 47
 have hl:=x2m s;have h47:(47:UInt8).toNat=47:=rfl;rw[h47]at hc;have hcl:(tb s).count 47<=(tb s).length:=List.count_le_length;refine x3g (by kernel_rfl) rfl ?_
 rw[(g209 ..).2];simp only[g209];generalize hN:(tb s).count 47=N at hc hcl;have hw:sy.imin (sy.wrap .i64 (sy.add ((N:Nat):Int) 1)) (sy.wrap .i64 (sy.add (sy.slen s) 1))=((N+1:Nat):Int):=by
  show min (IntKind.i64.wrap ((N:Int)+1)) (IntKind.i64.wrap ((s.size:Int)+1))=_;rw[x0v (by omega) (by omega),x0v (by omega) (by omega)]
  omega
 have z1:sy.ieq (-1) 0=false:=rfl;have z2:sy.seq (bs [47]) (bs [])=false:=by rw[u7d,x1v];rfl
 have z3:sy.ilt (-1) 0=true:=rfl;simp only[z1,z2,z3,cond_true,cond_false,y3w,hc,a1i,y6p,z6i,u4q,hw];have z4:sy.mkok ((N+1:Nat):Int) ((N+1:Nat):Int) 16=true:=a0s ⟨rfl,by omega,by omega⟩
 rw[z4,cond_true,u5y];have z5:sy.wrap .i64 (sy.sub ((N+1:Nat):Int) 1)=(N:Int):=by
  show IntKind.i64.wrap (((N+1:Nat):Int) - 1)=_;rw[x0v (by omega) (by omega)];omega
 rw[z5];have z6:sy.rep ((N+1:Nat):Int) [D.str (bs [])]=x0b []++List.replicate (N+1) u3x:=by
  rw[v5m,a0m];rfl
 rw[z6];refine x5n (fun x:List BA × BA × Nat=>[.str x.2.1, .str (bs [47]), .int .i64 0, .int .i64 (N:Int), .int .i64 (x.1.length:Int), .sl 1 (x0b x.1++List.replicate (x.2.2+1) u3x)])
  (fun x=>x1u 47 (tb s)=x.1.map tb++x1u 47 (tb x.2.1)/\x.2.2=(tb x.2.1).count 47/\x.1.length+x.2.2=N/\x.2.1.size<=100000) (fun x=>(tb x.2.1).length) (fun x hx=> ?_) ([],s,N) ⟨rfl,hN.symm,by simp,hs⟩
 obtain⟨done,rest,k⟩:=x;obtain⟨h1,hk,h2,h3⟩:=hx;simp only at h1 hk h2 h3;have hr:=x2m rest;have hIr:=hI rest;rw[h47]at hIr;have hput:=w3t done k;have f2:sy.inr (done.length:Int) (sy.rlen (x0b done++List.replicate (k+1) u3x))=true:=a0s (by
  rw[z6h,a0k,x0e,List.length_replicate];omega)
 have f3:sy.inrn (sy.nat (done.length:Int)) (x0b done++List.replicate (k+1) u3x)=true:=a0s (by
  rw[a0k,x0e,List.length_replicate];show(done.length:Int).toNat < _;omega)
 have hw1:sy.wrap .i64 (sy.add (done.length:Int) 1)=((done.length+1:Nat):Int):=by
  show IntKind.i64.wrap ((done.length:Int)+1)=_;rw[x0v (by omega) (by omega)];rfl
 have hnat:sy.nat (done.length:Int)=done.length:=a0m _;rcases u5j 47 (tb rest)with⟨hz,hn⟩|⟨j,hz,hn,hj⟩
 ·right
  have hk0:=w6c hn;rw[hk0]at hk;subst hk;have f1:sy.ilt (done.length:Int) (N:Int)=false:=decide_eq_false (by omega)
  have f4:sy.cutok 0 (sy.wrap .i64 (sy.add (done.length:Int) 1)) (sy.rlen (sy.rput (x0b done++List.replicate (0+1) u3x) (sy.nat (done.length:Int)) 0 [.str rest]))=true:=by
   rw[hw1,hnat,hput];exact a0s (by rw[z6h,a0k,x0e,a0k];simp;omega)
  apply viaR
  ·repeat' (first|with_reducible exact z0c|with_reducible apply z9j|with_reducible apply z0d|((with_reducible apply k0d);(first|with_reducible exact f1|with_reducible exact f2|with_reducible exact f3|with_reducible exact f4|rfl))|((with_reducible apply k0e);(first|with_reducible exact f1|with_reducible exact f2|with_reducible exact f3|with_reducible exact f4|rfl))|with_reducible apply v5y|with_reducible apply z9i|with_reducible exact z9h|with_reducible apply z9f|with_reducible apply z9g|with_reducible apply z9e|rfl)
  ·refine⟨done++[rest],?_,?_⟩
   ·rw[hw1,hnat,hput];show PRes.own 9 1 ((x0b (done++[rest])++List.replicate 0 u3x).take ((done.length+1:Nat):Int).toNat)=_;rw[List.replicate_zero,a0z,a0m,List.take_of_length_le (by rw[x0e];simp)]
   ·rw[h1,y0k 47 _ (x9z hn)];simp
 ·left
  have hc2:=q5j hn;have hd:=x8r rest ((j:Int)+1) (rest.size:Int);have hd0:=x8r rest 0 (j:Int);have e1:((j:Int)+1).toNat=j+1:=by omega
  rw[e1,a0m,<-hr,a0u]at hd;rw[a0m]at hd0;have hw2:sy.wrap .i64 (sy.add (j:Int) 0)=(j:Int):=by
   show IntKind.i64.wrap ((j:Int)+0)=_;rw[x0v (by omega) (by omega)];omega
  have hw3:sy.wrap .i64 (sy.add (j:Int) (sy.slen (bs [47])))=(j:Int)+1:=by
   show IntKind.i64.wrap ((j:Int)+1)=_;rw[x0v (by omega) (by omega)]
  have f1:sy.ilt (done.length:Int) (N:Int)=true:=a0s (by omega)
  have g1:sy.ilt (j:Int) 0=false:=decide_eq_false (show ¬(j:Int) < 0 by omega)
  have g2:sy.cutok 0 (sy.wrap .i64 (sy.add (j:Int) 0)) (sy.slen rest)=true:=by
   rw[hw2];exact a0s (by rw[z0a];omega)
  have g9900003:sy.cutok (sy.wrap .i64 (sy.add (j:Int) (sy.slen (bs [47])))) (sy.slen rest) (sy.slen rest)=true:=by
   rw[hw3];exact a0s (by rw[z0a];omega)
  rw[hz]at hIr;obtain⟨k',rfl⟩: ∃k',k=k'+1:=⟨k - 1,by omega⟩
  refine⟨(done++[rest.extract (0:Int).toNat (j:Int).toNat],rest.extract (j+1) (tb rest).length,k'),?_,⟨?_,?_,?_,?_⟩,?_⟩
  ·apply viaL
   ·repeat' (first|with_reducible exact z0c|with_reducible apply z9j|with_reducible apply z0d|((with_reducible apply k0d);(first|with_reducible exact f1|with_reducible exact f2|with_reducible exact f3|with_reducible exact g1|with_reducible exact g2|with_reducible exact g9900003|rfl))|((with_reducible apply k0e);(first|with_reducible exact f1|with_reducible exact f2|with_reducible exact f3|with_reducible exact g1|with_reducible exact g2|with_reducible exact g9900003|rfl))|with_reducible apply v5y|with_reducible apply z9i|with_reducible exact z9h|with_reducible apply z9f|with_reducible apply z9g|with_reducible apply z9e|exact hIr|rfl)
   ·rw[hw1,hw2,hw3,hnat,hput];simp only[u4h,z0a,e1,a0m,hr,a0k,List.length_singleton]
  ·rw[h1];simp only[List.map_append,a1m,a1w];rw[show(j:Int).toNat=j from a0m j]at*;rw[hd0,hd];obtain⟨i1,i2,i3⟩:=x5q hn
   conv=>lhs;rw[i2,y0l 47 _ _ i3]
   simp
  ·simp only;rw[hd];omega
  ·simp;omega
  ·simp only;have:=x2m (rest.extract (j+1) (tb rest).length);rw[<-this,hd,a1v];omega
  ·simp only;rw[hd,a1v];omega
def q6q (s:BA)(hs:s.size<=100000): ∃l:List BA,cF 170 [.d (.str s), .d (.str (bs [47]))]=some (.val [.sl 1 (x0b l)])/\l.map tb=x1u 47 (tb s):=by
 obtain⟨_,h,l,rfl,hl⟩:=v3n s hs;refine⟨l,?_,hl⟩;refine cO rfl ?_;rw[(g170 ..).2];simp only[g170,go1,h]
def u8t {s:BA}{l:List BA}(hl:l.map tb=x1u 47 (tb s)): ∀x∈l,x.size<=s.size:=by
 have key: ∀(c:Nat) (t:List Nat),∀p∈x1u c t,p.length<=t.length:=by
  intro c t
  induction t with
  |nil=>intro p hp;simp[x1u]at hp;simp[hp]
  |cons x xs ih=>
   intro p hp;unfold x1u at hp;split at hp
   ·rcases a1n.1 hp with rfl|hp
    ·simp
    ·have:=ih p hp;simp;omega
   ·split at hp
    ·simp at hp;simp[hp]
    ·rename_i q qs hq;rcases a1n.1 hp with rfl|hp
     ·have:=ih q (by rw[hq];exact a0t);simp;omega
     ·have:=ih p (by rw[hq];exact a0v _ hp);simp;omega
 intro x hx;have:=key 47 (tb s) (tb x) (by rw[<-hl];exact List.mem_map_of_mem hx)
 rw[x2m,x2m]at this;exact this
def q0h (s:BA)(hs:s.size<=100000):cF 128 [.d (.str s)]=some (.val [.bool (y6e (tb s))]):=by
 obtain⟨l,h,hl⟩:=q6q s hs;have hsz:=u8t hl;have hll:l.length<=100001:=by
  have:=congrArg List.length hl;rw[a1f,y2p]at this;have h2:(tb s).count 47<=(tb s).length:=List.count_le_length;rw[x2m]at h2;omega
 unfold y6e;rw[<-hl,List.all_map];refine cO rfl ?_;rw[(g128 ..).2];simp only[g128,go1,h,x0e];refine x0w (fun i:Nat=>[.sl 1 (x0b l), .int .i64 (l.length:Int), .int .i64 (i:Int)]) (fun i=>i<=l.length/\(l.take i).all (y1y ∘ tb)=true) (fun i=>l.length - i) (fun i hi=> ?_) 0 ⟨a0w _,by simp⟩
 by_cases hlt:i < l.length
 ·have hx:=a0b hlt;have hp:=k6b l[i] (a1b (hsz _ (a1j hlt)) hs);have hgd:l.getD i ByteArray.empty=l[i]:=by rw[a0i,hx];rfl
  simp only[go1,x0e,x0i hlt,x0g hlt,x1c hx,hp,x0a hlt (by omega)]
  cases hb:y1y (tb l[i])with
  |false=>
   right
   rw[y5u (d:=ByteArray.empty) hlt (by rw[hgd];exact hb)]
   simp only[go1]
  |true=>
   left
   refine⟨i+1,?_,⟨hlt,x4v (d:=ByteArray.empty) hlt hi.2 (by rw[hgd];exact hb)⟩,by omega⟩
   simp only[go1];rfl
 ·right
  have:i=l.length:=by omega
  subst this;simp only[go1,x0f];rw[a0u]at hi;rw[hi.2]
def q6j (s:BA):cF 135 [.d (.str s), .fn 138 []]=some (.val [.bool (x6x x2f (tb s))]):=by
 refine cO rfl ?_;rw[(u9i ..).2];simp only[u9i,go1];refine x0w (fun p:Nat=>[.str s, .str s, .int .i64 (p:Int)]) (fun p=>p<=(tb s).length/\((tb s).take p).all x0x=true/\(0 < p->x2f ((tb s).getD 0 0)=true)) (fun p=>(tb s).length - p) (fun p hp=> ?_) 0 ⟨a0w _,by simp,by omega⟩
 obtain⟨hle,hall,hfst⟩:=hp
 by_cases hlt:p < (tb s).length
 ·by_cases hc:(tb s).getD p 0 < 128
  ·obtain⟨e1,e2⟩:=z2n hc;simp only[go1,x1x,x0i hlt,y5z,y5y,e1,e2,z8a,z8e,y6y,x9x,x9y,x5p];have hi:=y5h ((tb s).getD p 0)
   by_cases h0:p=0
   ·subst h0;cases hs:x2f ((tb s).getD 0 0)with
    |false=>
     right
     rw[y0r hs];simp only[go1];rfl
    |true=>
     left
     rw[hs]at hi;refine⟨0+1,?_,⟨hlt,x4v hlt hall (by rw[hi];simp),fun _=>(by first|rfl|exact hs)⟩,by omega⟩
     cases x2c ((tb s).getD 0 0)<;>simp only[go1]<;>rfl
   ·rw[x1j (p:=(p:Int)=0) (by omega)]
    cases hin:x0x ((tb s).getD p 0)with
    |false=>
     right
     rw[x9u hlt hin];rw[hin]at hi;have hi:=hi.symm;simp only[Bool.or_eq_false_iff]at hi;obtain⟨⟨⟨i1,i2⟩,i3⟩,i4⟩:=hi;have i4': ¬(((tb s).getD p 0:Nat):Int)=95:=by
      have:=of_decide_eq_false i4;omega
     rw[x1j i4'];simp only[i1,i2,i3,go1]
    |true=>
     left
     refine⟨p+1,?_,⟨hlt,x4v hlt hall hin,fun _=>hfst (by omega)⟩,by omega⟩
     rw[hin]at hi;cases i1:x2c ((tb s).getD p 0)<;>cases i2:x2f ((tb s).getD p 0)<;>cases i3:x1a ((tb s).getD p 0)<;>rw[i1,i2,i3]at hi<;>simp only[go1]<;>(try rfl)
     all_goals
      simp only[Bool.or_self,a1d]at hi;have i4:=a0e hi.symm;rw[x1y (p:=(((tb s).getD p 0:Nat):Int)=95) (by omega)]
      rfl
  ·have hb:=u6e (s:=s) (i:=p) (by omega)
   right
   have hin:x0x ((tb s).getD p 0)=false:=by
    exact u1d (by omega)
   rw[x9u hlt hin];have hz: ¬u2n s (p:Int)=95:=by omega
   simp only[go1,x1x,x0i hlt,y5z,y5y,z8a,z8e,y6y,y3v (a:=97) (b:=122) (n:=u2n s (p:Int)) (by omega),y3v (a:=65) (b:=90) (n:=u2n s (p:Int)) (by omega),y3v (a:=48) (b:=57) (n:=u2n s (p:Int)) (by omega)]
   cases decide ((p:Int)=0)
   ·simp only[cond_true,cond_false];simp[hz]
   ·rfl
 ·right
  have:p=(tb s).length:=by omega
  subst this;simp only[go1,x1x,x0f];rw[a0u]at hall;unfold x6x;rw[hall,a2a]
  by_cases h0:0 < (tb s).length
  ·rw[hfst h0,a2a]
   by_cases h12:(tb s).length<=12
   ·rw[x1y (p:=1<=((tb s).length:Int)) (by omega),x1y (p:=((tb s).length:Int)<=12) (by omega),x1y (p:=1<=(tb s).length) (by omega),x1y h12]
    first|done|rfl
   ·rw[x1y (p:=1<=((tb s).length:Int)) (by omega),x1j (p:=((tb s).length:Int)<=12) (by omega),x1j h12]
    first|done|rfl|simp
  ·rw[x1j (p:=1<=((tb s).length:Int)) (by omega),x1j (p:=1<=(tb s).length) (by omega)]
   first|done|rfl|simp
def u3c (s:BA):cF 89 [.d (.str s)]=some (.val [.bool (x3s (tb s))]):=by
 have:=q6j s;refine cO rfl ?_;rw[(g89 ..).2];simp only[g89,go1,this];rfl
def x3f (c:Nat):Bool:=decide (c=32) || decide (c=9) || decide (c=10) || decide (c=13)
def y1f (c:Nat):Bool:= !decide (c=10)
def v0b (n:Nat):cF 70 [.d (.int .u8 (n:Int))]=some (.val [.bool (x2c n)]):=by
 refine cO rfl ?_;rw[(g70 ..).2];simp only[g70,go1];rw[<-x9x];try rfl
def z7y (n:Nat):cF 71 [.d (.int .u8 (n:Int))]=some (.val [.bool (x2f n)]):=by
 refine cO rfl ?_;rw[(g71 ..).2];simp only[g71,go1];rw[<-x9y];try rfl
def z7z (n:Nat):cF 73 [.d (.int .u8 (n:Int))]=some (.val [.bool (x1a n)]):=by
 refine cO rfl ?_;rw[(g73 ..).2];simp only[g73,go1];rw[<-x5p];try rfl
def x9a {p q:Prop} [Decidable p] [Decidable q] (h:p↔q):decide p=decide q:=by
 by_cases hq:q
 ·rw[x1y hq,x1y (h.2 hq)]
 ·rw[x1j hq,x1j (fun hp=>hq (h.1 hp))]
def w6k (n:Nat):cF 67 [.d (.int .u8 (n:Int))]=some (.val [.bool (x3f n)]):=by
 refine cO rfl ?_;rw[(g67 ..).2];simp only[g67,go1];unfold x3f;rw[x9a (show(n:Int)=32↔n=32 by omega),x9a (show(n:Int)=9↔n=9 by omega),x9a (show(n:Int)=10↔n=10 by omega),x9a (show(n:Int)=13↔n=13 by omega)]
 (try (cases decide (n=32)<;>cases decide (n=9)<;>cases decide (n=10)<;>cases decide (n=13)<;>rfl))
def q5q (n:Nat):cF 69 [.d (.int .u8 (n:Int))]=some (.val [.bool (y1f n)]):=by
 refine cO rfl ?_;rw[(g69 ..).2];simp only[g69,go1];rw[x9a (show(n:Int)=10↔n=10 by omega)];try rfl
def w6j (n:Nat):cF 124 [.d (.int .u8 (n:Int))]=some (.val [.bool (x0x n)]):=by
 refine cO rfl ?_;rw[(g124 ..).2];simp only[g124,go1,v0b,z7y,z7z];rw[x9a (show(n:Int)=95↔n=95 by omega)]
 unfold x0x;cases x2c n<;>cases x2f n<;>cases x1a n<;>cases decide (n=95)<;>rfl
def x2y (p:Nat->Bool)(l:List Nat):Nat:=(l.takeWhile p).length
def x5i (p:Nat->Bool)(l:List Nat):x2y p l<=l.length:=(List.takeWhile_prefix p).length_le
def z4p {p:Nat->Bool}{l:List Nat}{n:Nat}(hn:n<=l.length)(h:(l.take n).all p=true)(hx:n < l.length->p (l.getD n 0)=false):x2y p l=n:=by
 unfold x2y;have e:l=l.take n++l.drop n:=(a1u n l).symm;have h1:(l.take n++l.drop n).takeWhile p=l.take n++(l.drop n).takeWhile p:=List.takeWhile_append_of_pos (fun x hx=>a0l.1 h x hx)
 have h2:(l.drop n).takeWhile p= []:=by
  by_cases hlt:n < l.length
  ·rw[List.drop_eq_getElem_cons hlt,List.takeWhile_cons];have:=hx hlt;rw[a0i,a0b hlt]at this;simp only[Option.getD_some]at this;rw[this];rfl
  ·rw[List.drop_of_length_le (by omega)];rfl
 rw[<-e]at h1;rw[h1,h2];simp;omega
def v0c {f k:Nat}(p:Nat->Bool)(G:BA->Option PRes)
  (hc: ∀n:Nat,cF k [.d (.int .u8 (n:Int))]=some (.val [.bool (p n)])) (s:BA) (hs:s.size<=1000000)
  (hG:G s=x5f (fun ds1=>
   (opS (sy.cell ds1 0)).bind fun s2=>
   (opI (sy.cell ds1 1) .i64).bind fun n3=>
   bif sy.ilt n3 (sy.slen s2)then
    bif sy.inr n3 (sy.slen s2)then
     (cF k [V.d (D.int .u8 (sy.sbyte s2 n3))]).bind fun p4=>
     (opB (sy.cell p4.leaves 0)).bind fun b6=>
     bif b6 then
      some (.inl [(D.str s2),(D.int .i64 (sy.wrap .i64 (sy.add n3 1)))])
     else
      some (.inr (PRes.val [(D.int .i64 n3)]))
    else none
   else
    some (.inr (PRes.val [(D.int .i64 n3)]))) [(D.str s),(D.int .i64 0)]):G s=some (.val [.int .i64 ((x2y p (tb s):Nat):Int)]):=by
 rw[hG];refine x0w (fun n:Nat=>[.str s, .int .i64 (n:Int)]) (fun n=>n<=(tb s).length/\((tb s).take n).all p=true) (fun n=>(tb s).length - n) (fun n hn=> ?_) 0 ⟨a0w _,by simp⟩
 obtain⟨hle,hall⟩:=hn;have hlen:(tb s).length<=1000000:=by rw[x2m];exact hs
 by_cases hlt:n < (tb s).length
 ·have hq:(s.data.getD (n:Int).toNat 0).toNat=(tb s).getD n 0:=by rw[a0m,y3m]
  simp only[go1,x1x,x0i hlt,x0g hlt,hc,hq];cases hp:p ((tb s).getD n 0)with
  |true=>
   left
   refine⟨n+1,?_,⟨hlt,x4v hlt hall hp⟩,by omega⟩
   (try simp only[go1])
   rw[x0a hlt (by omega)]
   try rfl
  |false=>
   right
   rw[z4p hle hall (fun _=>hp)]
   (try simp only[go1])
 ·right
  have:n=(tb s).length:=by omega
  subst this;simp only[go1,x1x,x0f];rw[z4p (a0q _) hall (fun h=>absurd h (Nat.lt_irrefl _))]
def w6o (s:BA)(hs:s.size<=1000000):cF 66 [.d (.str s), .fn 67 []]=some (.val [.int .i64 ((x2y x3f (tb s):Nat):Int)]):=
 cO rfl ((w9l ..).2.trans (v0c (f:=0) x3f (fun s=>(w9l s).1) w6k s hs rfl))
def q5r (s:BA)(hs:s.size<=1000000):cF 66 [.d (.str s), .fn 69 []]=some (.val [.int .i64 ((x2y y1f (tb s):Nat):Int)]):=
 cO rfl ((w9k ..).2.trans (v0c (f:=0) y1f (fun s=>(w9k s).1) q5q s hs rfl))
def w6m (s:BA)(hs:s.size<=1000000):cF 66 [.d (.str s), .fn 124 []]=some (.val [.int .i64 ((x2y x0x (tb s):Nat):Int)]):=
 cO rfl ((v9o ..).2.trans (v0c (f:=0) x0x (fun s=>(v9o s).1) w6j s hs rfl))
def w6n (s:BA)(hs:s.size<=1000000):cF 66 [.d (.str s), .fn 73 []]=some (.val [.int .i64 ((x2y x1a (tb s):Nat):Int)]):=
 cO rfl ((w9j ..).2.trans (v0c (f:=0) x1a (fun s=>(w9j s).1) z7z s hs rfl))
def u3q (m l:List Nat):Bool:=decide (l.take m.length=m)
def x7c (s:BA)(a b:Nat):tb (s.extract a b)=((tb s).take b).drop a:=by
 have:=x8r s (a:Int) (b:Int)
 rwa [a0m,a0m]at this
def k6f (s m:BA):cF 123 [.d (.str s), .d (.str m)]=some (.val [.bool (u3q (tb m) (tb s))]):=by
 refine cO rfl ?_;rw[(g123 ..).2];simp only[g123,go1,Int.reduceLE]
 by_cases h:(tb m).length<=(tb s).length
 ·have e:((s.extract (0:Int).toNat ((tb m).length:Int).toNat).toList == m.toList)=u3q (tb m) (tb s):=by
   rw[x1v,x8r];unfold u3q;rw[a0m];rfl
  simp (disch:=omega) only [x0v,x1y,go1,x1x,e]
 ·have e:u3q (tb m) (tb s)=false:=by
   unfold u3q;refine x1j fun he=>h ?_
   rw[<-he,a1q];omega
  rw[e];simp (disch:=omega) only [x0v,x1j,go1,x1x]
def k6i (s m:BA):cF 68 [.d (.str s), .d (.str m)]=some (.val [.bool (u3q (tb m) (tb s))]):=by
 have:=k6f s m;refine cO rfl ?_;rw[(g68 ..).2];simp only[g68,go1,this]
def u6l (s:BA)(m:UInt8):cF 130 [.d (.str s), .d (.int .u8 ((m.toNat:Nat):Int))]=some (.val [.int .i64 (u3p m.toNat (tb s))]):=by
 have h72:cF 174 [.d (.str s), .d (.int .u8 ((m.toNat:Nat):Int))]=some (.val [.int .i64 (u3p m.toNat (tb s))]):=by
  refine cO rfl ?_;rw[(k7v ..).2];simp only[k7v];show some (PRes.val [D.int .i64 (sy.sidx s ((m.toNat:Nat):Int))])=_;rw[v6c]
 refine cO rfl ?_;rw[(g130 ..).2];simp only[g130,go1,h72]
def v6x:List Nat:=[45,45]
def z6o {l:List Nat}(h:u3q v6x l=true):2<=x2y y1f l:=by
 have:=a0e h
 match l,this with
 |a::b::r,h=>
  simp[v6x]at h;obtain⟨rfl,rfl⟩:=h;simp[x2y,y1f]
 | [a],h=>simp[v6x]at h
 | [],h=>simp[v6x]at h
def x7n (l:List Nat):Nat:=
 if h:u3q v6x (l.drop (x2y x3f l))=true then x2y x3f l+x2y y1f (l.drop (x2y x3f l))+x7n (l.drop (x2y x3f l+x2y y1f (l.drop (x2y x3f l))))else x2y x3f l
 termination_by l.length
 decreasing_by
  have h1:=z6o h;have h2:=x5i y1f (l.drop (x2y x3f l));have h3:=x5i x3f l;simp only[a1v]at h2 ⊢;omega
def v9n: ∀(n:Nat) (l:List Nat),l.length<=n->x7n l<=l.length
 |n,l,hn=>by
  unfold x7n;split
  ·rename_i h;have h1:=z6o h;have h2:=x5i y1f (l.drop (x2y x3f l));have h3:=x5i x3f l;simp only[a1v]at h2;cases n with
   |zero=>omega
   |succ n=>
    have:=v9n n (l.drop (x2y x3f l+x2y y1f (l.drop (x2y x3f l)))) (by simp only[a1v];omega)
    simp only[a1v]at this;omega
  ·exact x5i _ _
def y9l (s:BA)(n:Nat)(hn:n<=(tb s).length):tb (s.extract (n:Int).toNat ((tb s).length:Int).toNat)=(tb s).drop n:=by
 rw[x8r,a0m,a0m,a0u]
def c_gap (s:BA)(hs:s.size<=1000000):cF 34 [.d (.str s)]=some (.val [.int .i64 ((x7n (tb s):Nat):Int)]):=by
 refine cO rfl ?_;rw[(g34 ..).2];simp only[g34,go1];have hlen:(tb s).length<=1000000:=by rw[x2m];exact hs
 refine x0w (fun n:Nat=>[.str s, .int .i64 (n:Int)]) (fun n=>n<=(tb s).length/\n+x7n ((tb s).drop n)=x7n (tb s)) (fun n=>(tb s).length - n) (fun n hn=> ?_) 0 ⟨a0w _,by simp⟩
 obtain⟨hle,hg⟩:=hn;have e1:=y9l s n hle;have z1:(s.extract (n:Int).toNat ((tb s).length:Int).toNat).size<=1000000:=by rw[<-x2m,e1];simp;omega
 have k1:=w6o _ z1;rw[e1]at k1;generalize hm:x2y x3f ((tb s).drop n)=m at k1;have hmle:m<=(tb s).length - n:=by have:=x5i x3f ((tb s).drop n);simp only[a1v]at this;omega
 have w1:IntKind.i64.wrap ((n:Int)+(m:Int))=((n+m:Nat):Int):=by rw[x0v (by omega) (by omega)];omega
 have e2:=y9l s (n+m) (by omega)
 have z2:(s.extract ((n+m:Nat):Int).toNat ((tb s).length:Int).toNat).size<=1000000:=by rw[<-x2m,e2];simp;omega
 have k2:=k6i (s.extract ((n+m:Nat):Int).toNat ((tb s).length:Int).toNat) (bs [45,45]);rw[e2]at k2;have k3:=q5r _ z2;rw[e2]at k3;have hd:((tb s).drop n).drop m=(tb s).drop (n+m):=by rw[List.drop_drop]
 have hgn:=x7n.eq_def ((tb s).drop n);rw[hm,hd]at hgn;have hb:u3q (tb (bs [45,45])) ((tb s).drop (n+m))=u3q v6x ((tb s).drop (n+m)):=rfl;rw[hb]at k2;simp (disch:=omega) only [x0v,x1y,go1,x1x,k1];cases hr:u3q v6x ((tb s).drop (n+m))with
 |false=>
  right
  rw[hr]at hgn;simp only[Bool.false_eq_true,dite_false]at hgn;rw[<-hg,hgn];rw[Int.natCast_add]at k2;simp (disch:=omega) only [x0v,go1,k2,hr,Int.natCast_add]
 |true=>
  left
  rw[hr]at hgn;simp only[dite_true]at hgn;have h2:=z6o hr;have hk:=x5i y1f ((tb s).drop (n+m));simp only[a1v]at hk;generalize hkk:x2y y1f ((tb s).drop (n+m))=k at k3 hgn h2 hk;have w2:IntKind.i64.wrap (((n+m:Nat):Int)+(k:Int))=((n+m+k:Nat):Int):=by rw[x0v (by omega) (by omega)];omega
  refine⟨n+m+k,?_,⟨by omega,?_⟩,by omega⟩
  ·rw[Int.natCast_add]at k2 k3;simp (disch:=omega) only [x0v,go1,k2,hr,k3,Int.natCast_add]
  ·rw[<-hg,hgn,List.drop_drop];have:n+(m+k)=n+m+k:=by omega
   rw[this];omega
structure Tok where
 k:Int
 s:BA
 n:Int
 w:Nat
 ok:Bool
def Tok.r (t:Tok):PRes:= .val [.int .i64 t.k, .str t.s, .int .i64 t.n, .int .i64 0, .int .i64 (t.w:Int), .bool t.ok]
def k1n:Tok:=⟨0,bs [],0,0,false⟩
def y0h (s:BA):Tok:=
 let n:=x2y x0x (tb s)
 let w:=s.extract 0 n
 match x2f ((tb s).getD 0 0)with
 |true=>⟨2,w,0,n,x3s (tb w)⟩
 |false=>⟨1,w,0,n,x4c (tb w) || x5h (tb w)⟩
def x5m (s:BA):Tok:=
 let n:=x2y x1a (tb s)
 let w:=s.extract 0 n
 ⟨3,w,z9w w,n,w8u w&&(!decide ((tb s).getD 0 0=48) || decide (n=1))⟩
def y2y (s:BA):Tok:=match y6t 39 ((tb s).drop 1)with
 |none=>k1n
 |some i=>⟨4,s.extract 1 (i+1),0,i+2,y6e (tb (s.extract 1 (i+1)))⟩
def k7j:List BA:=[bs [58,61],bs [45,62],bs [60,61],bs [62,61],bs [60,62]]
def y4e:List (List Nat):=[[58,61],[45,62],[60,61],[62,61],[60,62]]
def k9u:List UInt8:=[40,41,123,125,91,93,44,59,58,61,60,62,43,45,42,47]
def u4s:List Nat:=[40,41,123,125,91,93,44,59,58,61,60,62,43,45,42,47]
def y0s (s:BA):Tok:=match y4e.contains ((tb s).take 2),u4s.contains ((tb s).getD 0 0)with
 |true,_=>⟨5,s.extract 0 2,0,2,true⟩
 |false,true=>⟨5,s.extract 0 1,0,1,true⟩
 |false,false=>k1n
def x0z (s:BA):Tok:=
 let c:=(tb s).getD 0 0
 match x2c c || x2f c,x1a c,decide (c=39)with
 |true,_,_=>y0h s
 |false,true,_=>x5m s
 |false,false,true=>y2y s
 |false,false,false=>y0s s
def z7q (s:BA)(a b:Nat)(hb:b<=(tb s).length)(hab:a<=b):(tb (s.extract a b)).length=b - a:=by rw[x7c];simp;omega
def w9w (s:BA)(b i:Nat)(hi:i < b):(tb (s.extract 0 b)).getD i 0=(tb s).getD i 0:=by
 rw[x7c,a1y,a0i,a1s,if_pos hi,a0i]
def y4g:(0:Int).toNat=0:=rfl
def v5i:(1:Int).toNat=1:=rfl
def y8s {p:Nat->Bool}{l:List Nat}(h:p (l.getD 0 0)=true)(hl:0 < l.length):0 < x2y p l:=by
 match l,hl with
 |c::r,_=>
  have h:p c=true:=h;unfold x2y;rw[List.takeWhile_cons,h];simp
def k5y (s:BA)(hs:s.size<=100000)(h0:0 < (tb s).length)(hc:x0x ((tb s).getD 0 0)=true):cF 72 [.d (.str s)]=some (y0h s).r:=by
 have k1:=w6m s (by omega)
 have hp:=y8s hc h0;have hle:=x5i x0x (tb s);have hlen:(tb s).length<=100000:=by rw[x2m];exact hs
 unfold y0h;simp only;generalize hn:x2y x0x (tb s)=n at k1 hp hle;have hsz:=z7q s 0 n hle (a0w _);rw[Nat.sub_zero]at hsz;have z:(s.extract 0 n).size<=100000:=by rw[<-x2m,hsz];omega
 have hat:=w9w s n 0 hp;have hq:((s.extract 0 n).data.getD (0:Int).toNat 0).toNat=(tb s).getD 0 0:=by rw[y4g,<-y3m,hat]
 have k2:=z7y ((tb s).getD 0 0);have k3:=u3c (s.extract 0 n);have k4:=z8j (s.extract 0 n);have k5:=v0i (s.extract 0 n);refine cO rfl ?_;rw[(g72 ..).2];simp only[g72,go1,Int.reduceLE,k1];simp (disch:=omega) only [x0v,x1y,go1,x1x,y4g,a0m,hsz];rw[y4g]at hq;simp (disch:=omega) only [x0v,go1,hq,k2];cases x2f ((tb s).getD 0 0)with
 |true=>
  simp (disch:=omega) only [x0v,go1,k3,Tok.r]
 |false=>
  simp only[go1,k4,Tok.r];cases x4c (tb (s.extract 0 n))with
  |true=>simp only[go1];try rfl
  |false=>simp only[go1,k5];try rfl
def w1i (s:BA)(hs:s.size<=100000)(h0:0 < (tb s).length)(hc:x1a ((tb s).getD 0 0)=true):cF 74 [.d (.str s)]=some (x5m s).r:=by
 have k1:=w6n s (by omega)
 have hp:=y8s hc h0;have hle:=x5i x1a (tb s);have hlen:(tb s).length<=100000:=by rw[x2m];exact hs
 unfold x5m;simp only;generalize hn:x2y x1a (tb s)=n at k1 hp hle;have hsz:=z7q s 0 n hle (a0w _);rw[Nat.sub_zero]at hsz;have hat:=w9w s n 0 hp;have hq:((s.extract 0 n).data.getD (0:Int).toNat 0).toNat=(tb s).getD 0 0:=by rw[y4g,<-y3m,hat]
 rw[y4g]at hq;refine cO rfl ?_;rw[(g74 ..).2];simp only[g74,go1,Int.reduceLE,k1];simp (disch:=omega) only [x0v,x1y,go1,x1x,y4g,a0m,hsz];rw[x9a (show((((s.extract 0 n).data.getD 0 0).toNat:Nat):Int)=48↔(tb s).getD 0 0=48 by omega),x9a (show(n:Int)=1↔n=1 by omega)]
 rfl
def q6g (s:BA)(hs:s.size<=100000)(h0:0 < (tb s).length):cF 75 [.d (.str s)]=some (y2y s).r:=by
 have hlen:(tb s).length<=100000:=by rw[x2m];exact hs
 have e1:tb (s.extract 1 (tb s).length)=(tb s).drop 1:=by rw[x7c,a0u]
 have k1:=w1n (s.extract 1 (tb s).length) 39;rw[e1]at k1;have h39:(39:UInt8).toNat=39:=rfl;rw[h39]at k1;refine cO rfl ?_;rw[(g75 ..).2];simp only[g75,go1,Int.reduceLE];simp (disch:=omega) only [x0v,x1y,go1,x1x,v5i,a0m,k1];unfold y2y u3p;cases hi:y6t 39 ((tb s).drop 1)with
 |none=>simp only[go1,Int.reduceLT,Int.reduceAdd];rfl
 |some i=>
  have hlt:=(x5q hi).1;simp only[a1v]at hlt;have e2:((i:Int)+1).toNat=i+1:=by omega
  have z:(s.extract 1 (i+1)).size<=100000:=by rw[<-x2m,z7q _ _ _ (by omega) (by omega)];omega
  have k2:=q0h (s.extract 1 (i+1)) z;simp (disch:=omega) only [x0v,x1y,x1j,go1,e2,k2,Tok.r]
  first|rfl|(simp only[Int.natCast_add];rfl)
def w6x:cF 129 [.d (.str (bs [58,61,32,45,62,32,60,61,32,62,61,32,60,62]))]=some (.val [.sl 1 (x0b k7j)]):=x8c rfl
def w8b (i:Nat)(hi:i < 5): ∃m,k7j[i]? =some m/\tb m=y4e.getD i []/\(y4e.getD i []).length=2:=by
 match i,hi with
 |0,_|1,_|2,_|3,_|4,_=>exact⟨_,rfl,rfl,rfl⟩
def y7h {x:List Nat}:y4e.contains x=true↔ ∃i,i < 5/\x=y4e.getD i []:=by
 constructor
 ·intro h;rw[List.contains_iff_mem]at h;obtain⟨i,hi,he⟩:=List.mem_iff_getElem.1 h;exact⟨i,hi,by rw[a0i,a0b hi];exact he.symm⟩
 ·rintro⟨i,hi,rfl⟩
  match i,hi with
  |0,_|1,_|2,_|3,_|4,_=>rfl
def w5i (c:Nat)(l:List Nat):decide (u3p c l < 0)= !l.contains c:=by
 rcases u5j c l with⟨h,hn⟩|⟨i,h,hs,_⟩
 ·rw[h];have: ¬c∈l:=fun hm=>x9z hn c hm rfl
  simp[this]
 ·rw[h];have:c∈l:=by
   have e:=(x5q hs).2.1;rw[e];simp
  simp[this]
def k2g (s:BA):(s.data.getD 0 0).toNat=(tb s).getD 0 0:=(y3m s 0).symm
def q6k (s:BA)(hs:s.size<=100000)(h0:0 < (tb s).length):cF 76 [.d (.str s)]=some (y0s s).r:=by
 have hlen:(tb s).length<=100000:=by rw[x2m];exact hs
 have k0:=w6x;refine cO rfl ?_;rw[(g76 ..).2];simp only[g76,go1,Int.reduceLE,k0];refine x0w (fun i:Nat=>[.str s, .sl 1 (x0b k7j), .int .i64 (5:Int), .int .i64 (i:Int), .int .i64 0, .str (bs []), .int .i64 0, .int .i64 0]) (fun i=>i<=5/\ ∀j,j < i->(tb s).take 2≠y4e.getD j []) (fun i=>5 - i) (fun i hi=> ?_) 0 ⟨by omega,fun j hj=>by omega⟩
 obtain⟨hle,hno⟩:=hi
 by_cases hlt:i < 5
 ·obtain⟨m,hm,htm,hl2⟩:=w8b i hlt;have k1:=k6i s m;rw[htm]at k1;have hrl:((x0b k7j).length:Int)=5:=rfl;have hcell:=x1c hm;have hsm:(tb m).length=2:=by rw[htm];exact hl2
  simp only[go1,z9l hm];simp (disch:=omega) only [x0v,x1y,go1,k1,hrl,x1x,hsm];cases hh:u3q (y4e.getD i []) (tb s)with
  |true=>
   right
   have he:=a0e hh;rw[hl2]at he;have hc:y4e.contains ((tb s).take 2)=true:=y7h.2 ⟨i,hlt,he⟩;have hx:m=s.extract 0 2:=x3o (by rw[x7c,a1y,he,htm])
   unfold y0s;rw[hc,<-hx];rfl
  |false=>
   left
   have he:=of_decide_eq_false hh;rw[hl2]at he;exact⟨i+1,by rw[Int.natCast_add];rfl,⟨by omega,fun j hj=>by
    by_cases e:j=i
    ·subst e;exact he
    ·exact hno j (by omega)⟩,by omega⟩
 ·right
  have:i=5:=by omega
  subst this;have hc:y4e.contains ((tb s).take 2)=false:=by
   rw[Bool.eq_false_iff];intro h;obtain⟨j,hj,he⟩:=y7h.1 h;exact hno j hj he
  have k2:=u6l (bs k9u) (s.data.getD 0 0);have e1:tb (bs k9u)=u4s:=rfl;rw[e1]at k2;have e2:bs k9u=bs [40,41,123,125,91,93,44,59,58,61,60,62,43,45,42,47]:=rfl;rw[e2]at k2;have hx:=w5i (s.data.getD 0 0).toNat u4s;unfold y0s;rw[hc];simp (disch:=omega) only [x0v,x1y,x1j,go1,x1x,k2,hx,y4g,v5i];rw[k2g];cases u4s.contains ((tb s).getD 0 0)<;>rfl
def k6d (s:BA)(hs:s.size<=100000)(h0:0 < (tb s).length):cF 35 [.d (.str s)]=some (x0z s).r:=by
 have hlen:(tb s).length<=100000:=by rw[x2m];exact hs
 have hq:((s.data.getD (0:Int).toNat 0).toNat:Int)=(((tb s).getD 0 0:Nat):Int):=by rw[y4g,k2g]
 have k1:=v0b ((tb s).getD 0 0);have k2:=z7y ((tb s).getD 0 0);have k3:=z7z ((tb s).getD 0 0);have e39:((s.extract (0:Int).toNat (1:Int).toNat).toList == (bs [39]).toList)=decide ((tb s).getD 0 0=39):=by
  rw[x1v,x8r,y4g,v5i];refine x9a ?_
  match hl:tb s,h0 with
  |c::r,_=>simp[z8y]
 refine cO rfl ?_;rw[(g35 ..).2];simp only[g35,go1,Int.reduceLE];simp (disch:=omega) only [x0v,x1y,go1,x1x,hq,k1,k2,k3,e39];have wd:x0x ((tb s).getD 0 0)=true->cF 72 [.d (.str s)]=some (y0h s).r:=fun h=>k5y s hs h0 h
 have nd:x1a ((tb s).getD 0 0)=true->cF 74 [.d (.str s)]=some (x5m s).r:=fun h=>w1i s hs h0 h
 have pd:=q6g s hs h0;have md:=q6k s hs h0;cases h1:x2c ((tb s).getD 0 0)with
 |true=>
  have:=wd (by unfold x0x;rw[h1];rfl)
  have e:x0z s=y0h s:=by unfold x0z;simp only[h1,a1t]
  rw[e];simp only[go1,this,Tok.r]
 |false=>
  cases h2:x2f ((tb s).getD 0 0)with
  |true=>
   have:=wd (by unfold x0x;rw[h2];simp)
   have e:x0z s=y0h s:=by unfold x0z;simp only[h1,h2,a1d]
   rw[e];simp only[go1,this,Tok.r]
  |false=>
   cases h3:x1a ((tb s).getD 0 0)with
   |true=>
    have:=nd h3;have e:x0z s=x5m s:=by unfold x0z;simp only[h1,h2,h3,a1d]
    rw[e];simp only[go1,this,Tok.r]
   |false=>
    cases h4:decide ((tb s).getD 0 0=39)with
    |true=>
     have e:x0z s=y2y s:=by unfold x0z;simp only[h1,h2,h3,h4,a1d]
     rw[e];simp only[go1,pd,Tok.r]
    |false=>
     have e:x0z s=y0s s:=by unfold x0z;simp only[h1,h2,h3,h4,a1d]
     rw[e];simp only[go1,md,Tok.r]
def w2f (l:List Nat)(t:Tok):Prop:=t.ok=true->1<=t.w/\t.w<=l.length/\t.k≠6/\(t.k=4->(tb t.s).length+2=t.w)/\(t.k≠4->tb t.s=l.take t.w)
def w2w (s:BA)(h0:0 < (tb s).length)(hc:x0x ((tb s).getD 0 0)=true):w2f (tb s) (y0h s):=by
 have hp:=y8s hc h0;have hle:=x5i x0x (tb s);intro _;unfold y0h;simp only;split
 ·exact⟨hp,hle,(by decide:(2:Int)≠6),fun h=>absurd (show(2:Int)=4 from h) (by decide),fun _=>by rw[x7c,a1y]⟩
 ·exact⟨hp,hle,(by decide:(1:Int)≠6),fun h=>absurd (show(1:Int)=4 from h) (by decide),fun _=>by rw[x7c,a1y]⟩
def v1x (s:BA)(h0:0 < (tb s).length)(hc:x1a ((tb s).getD 0 0)=true):w2f (tb s) (x5m s):=by
 have hp:=y8s hc h0;have hle:=x5i x1a (tb s);intro _;exact⟨hp,hle,(by decide:(3:Int)≠6),fun h=>absurd (show(3:Int)=4 from h) (by decide),fun _=>by show tb (s.extract 0 _)=_;rw[x7c,a1y];rfl⟩
def w4e (s:BA)(h0:0 < (tb s).length):w2f (tb s) (y2y s):=by
 intro h;unfold y2y at h ⊢;cases hi:y6t 39 ((tb s).drop 1)with
 |none=>rw[hi]at h;cases h
 |some i=>
  have hlt:=(x5q hi).1;simp only[a1v]at hlt;refine⟨by show 1<=i+2;omega,by show i+2<=_;omega,(by decide:(4:Int)≠6),fun _=> ?_,fun h=>absurd rfl h⟩
  show(tb (s.extract 1 (i+1))).length+2=i+2;rw[z7q _ _ _ (by omega) (by omega)];omega
def w4y (s:BA)(h0:0 < (tb s).length):w2f (tb s) (y0s s):=by
 intro h;unfold y0s at h ⊢;cases h1:y4e.contains ((tb s).take 2)with
 |true=>
  obtain⟨i,hi,he⟩:=y7h.1 h1;have hl:((tb s).take 2).length=2:=by
   obtain⟨m,_,_,h2⟩:=w8b i hi;rw[he,h2]
  rw[a1q]at hl;exact⟨by show 1<=2;decide,by show 2<=_;omega,(by decide:(5:Int)≠6),fun h=>absurd (show(5:Int)=4 from h) (by decide),fun _=>by show tb (s.extract 0 2)=_;rw[x7c,a1y]⟩
 |false=>
  cases h2:u4s.contains ((tb s).getD 0 0)with
  |true=>exact⟨by show 1<=1;decide,by show 1<=_;omega,(by decide:(5:Int)≠6),fun h=>absurd (show(5:Int)=4 from h) (by decide),fun _=>by show tb (s.extract 0 1)=_;rw[x7c,a1y]⟩
  |false=>rw[h1,h2]at h;cases h
def u0p (s:BA):(x0z s=y0h s/\x0x ((tb s).getD 0 0)=true)\/(x0z s=x5m s/\x1a ((tb s).getD 0 0)=true)\/x0z s=y2y s\/x0z s=y0s s:=by
 cases h1:x2c ((tb s).getD 0 0)with
 |true=>exact .inl ⟨by unfold x0z;simp only[h1,a1t],by unfold x0x;rw[h1];rfl⟩
 |false=>
  cases h2:x2f ((tb s).getD 0 0)with
  |true=>exact .inl ⟨by unfold x0z;simp only[h1,h2,a1d],by unfold x0x;rw[h2];simp⟩
  |false=>
   cases h3:x1a ((tb s).getD 0 0)with
   |true=>exact .inr (.inl ⟨by unfold x0z;simp only[h1,h2,h3,a1d],rfl⟩)
   |false=>
    cases h4:decide ((tb s).getD 0 0=39)with
    |true=>exact .inr (.inr (.inl (by unfold x0z;simp only[h1,h2,h3,h4,a1d])))
    |false=>exact .inr (.inr (.inr (by unfold x0z;simp only[h1,h2,h3,h4,a1d])))
def v7x (s:BA)(h0:0 < (tb s).length):w2f (tb s) (x0z s):=by
 rcases u0p s with⟨h,hc⟩|⟨h,hc⟩|h|h<;>rw[h]
 ·exact w2w s h0 hc
 ·exact v1x s h0 hc
 ·exact w4e s h0
 ·exact w4y s h0
structure Tk where
 k:Int
 s:BA
 n:Int
 a:Nat
def x8q (t:Tk):List D:=[.int .i64 t.k, .str t.s, .int .i64 t.n, .int .i64 (t.a:Int)]
def x0n (l:List Tk):LL:=l.map x8q
def y9x (a b:List Tk):x0n a++x0n b=x0n (a++b):=by simp[x0n]
def x7r (l:List Tk):(x0n l).length=l.length:=by simp[x0n]
def y2z (s:BA)(a:Nat):List Tk × Nat × Bool:=
 if hp:a+x7n ((tb s).drop a) < (tb s).length then
   if h:(x0z (s.extract (a+x7n ((tb s).drop a)) (tb s).length)).ok=true/\1<=(x0z (s.extract (a+x7n ((tb s).drop a)) (tb s).length)).w then
     (⟨(x0z (s.extract (a+x7n ((tb s).drop a)) (tb s).length)).k,(x0z (s.extract (a+x7n ((tb s).drop a)) (tb s).length)).s,(x0z (s.extract (a+x7n ((tb s).drop a)) (tb s).length)).n,a+x7n ((tb s).drop a)⟩::
       (y2z s (a+x7n ((tb s).drop a)+(x0z (s.extract (a+x7n ((tb s).drop a)) (tb s).length)).w)).1,(y2z s (a+x7n ((tb s).drop a)+(x0z (s.extract (a+x7n ((tb s).drop a)) (tb s).length)).w)).2)
   else([],a+x7n ((tb s).drop a),false)
 else([],a+x7n ((tb s).drop a),true)
 termination_by (tb s).length - a
 decreasing_by all_goals omega
def q8u (s:BA):Tk:=⟨6,bs [],0,(tb s).length⟩
def allR (s:BA)(most:Int):PRes:=match decide (most < ((tb s).length:Int)),(y2z s 0).2.2 with
 |true,_=> .val [.sl 4 [], .int .i64 most, .int .i64 3]
 |false,true=> .val [.sl 4 (x0n ((y2z s 0).1++[q8u s])), .int .i64 ((tb s).length:Int), .int .i64 0]
 |false,false=> .val [.sl 4 [], .int .i64 ((y2z s 0).2.1:Int), .int .i64 2]
def c_All (s:BA)(most:Int)(hs:s.size<=100000):cF 17 [.d (.str s), .d (.int .i64 most)]=some (allR s most):=by
 have hlen:(tb s).length<=100000:=by rw[x2m];exact hs
 refine cO rfl ?_;rw[(g17 ..).2];simp only[g17,go1,Nat.reduceAdd];unfold allR;rw[x1x];cases hm:decide (most < ((tb s).length:Int))with
 |true=>simp only[go1]
 |false=>
  simp only[go1];refine x0w (fun x:Nat × List Tk=>[.str s, .int .i64 (x.1:Int), .sl 4 (x0n x.2)]) (fun x=>x.1<=(tb s).length/\x.2.length<=x.1/\y2z s 0=(x.2++(y2z s x.1).1,(y2z s x.1).2)) (fun x=>(tb s).length - x.1) (fun x hx=> ?_) (0,[]) ⟨a0w _,a0q _,by simp⟩
  obtain⟨a,acc⟩:=x;obtain⟨h1,h2,h3⟩:=hx;simp only at h1 h2 h3;have e1:=y9l s a h1;have z1:(s.extract (a:Int).toNat ((tb s).length:Int).toNat).size<=1000000:=by rw[<-x2m,e1];simp;omega
  have k1:=c_gap _ z1;rw[e1]at k1;have hg:=v9n _ _ (a0q ((tb s).drop a).length);simp only[a1v]at hg;have heq:=y2z.eq_def s a;generalize x7n ((tb s).drop a)=g at k1 hg heq;have w1:IntKind.i64.wrap ((a:Int)+(g:Int))=((a+g:Nat):Int):=by rw[x0v (by omega) (by omega)];omega
  have e2:=y9l s (a+g) (by omega)
  rw[a0m,a0m]at e2;have z2:(s.extract (a+g) (tb s).length).size<=100000:=by rw[<-x2m,e2];simp;omega
  have hal:(x0n acc).length=acc.length:=x7r acc;simp only[go1,x1x];simp (disch:=omega) only [x0v,x1y,go1,k1,w1]
  by_cases hp:a+g < (tb s).length
  ·rw[dif_pos hp]at heq;have hpos:0 < (tb (s.extract (a+g) (tb s).length)).length:=by rw[e2];simp;omega
   have k2:=k6d (s.extract (a+g) (tb s).length) z2 hpos;have hok:=v7x (s.extract (a+g) (tb s).length) hpos;generalize x0z (s.extract (a+g) (tb s).length)=t at k2 hok heq;rw[e2]at hok;have i1:((a:Int)+(g:Int)).toNat=a+g:=by omega
   simp (disch:=omega) only [x0v,x1j,go1,a0m,k2,Tok.r];cases hb:t.ok with
   |false=>
    right
    rw[dif_neg (by rw[hb];simp)]at heq
    rw[h3,heq];simp only[go1,Int.natCast_add]
   |true=>
    left
    obtain⟨q1,q2,_⟩:=hok hb;simp only[a1v]at q2;rw[dif_pos ⟨hb,q1⟩]at heq;have w2:IntKind.i64.wrap ((a:Int)+(g:Int)+(t.w:Int))=((a+g+t.w:Nat):Int):=by rw[x0v (by omega) (by omega)];omega
    refine⟨(a+g+t.w,acc++[⟨t.k,t.s,t.n,a+g⟩]),?_,⟨by simp only;omega,by simp;omega,?_⟩,by simp only;omega⟩
    ·simp (disch:=omega) only [x0v,x1y,go1,hal,List.length_singleton];rw[<-y9x];simp only[go1,Int.natCast_add];rfl
    ·rw[h3,heq];simp
  ·right
   rw[dif_neg hp]at heq;have hpe:a+g=(tb s).length:=by omega
   rw[h3,heq,<-y9x,<-y9x];simp (disch:=omega) only [x0v,x1y,go1,hal,List.length_singleton];rw[show x0n ([]:List Tk)= []from rfl,a0z];rfl
end Go.Vm
end
