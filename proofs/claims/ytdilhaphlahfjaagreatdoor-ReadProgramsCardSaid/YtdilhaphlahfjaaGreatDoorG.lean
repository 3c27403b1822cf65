/-
  Part G of the proof. What is proved by the whole: the statement that the claim names, with no condition. This part: lemmas.
-/
import Derived.Test.YtdilhaphlahfjaaGreatDoorF
import Derived.Laws.Strings
set_option linter.unusedSimpArgs false
set_option linter.unusedVariables false

section
namespace Go.Vm
def tb (s:ByteArray):List Nat:=s.data.toList.map UInt8.toNat
theorem x1k (s:ByteArray):(tb s).length=s.size:=by
 unfold tb
 rw[a1c,Array.length_toList];rfl
theorem z1o: ∀ {a b:List UInt8},a.map UInt8.toNat=b.map UInt8.toNat→a=b
 | [],[],_=>rfl
 | [],_::_,h=>by simp at h
 |_::_,[],h=>by simp at h
 |x::a,y::b,h=>by
  simp only [a1r,List.cons.injEq]at h
  rw[UInt8.toNat_inj.1 h.1,z1o h.2]
theorem x8x {s u:ByteArray}(h:tb s=tb u):s=u:=by
 have h1:s.data.toList=u.data.toList:=by
  unfold tb at h
  exact z1o h
 cases s;cases u
 simp only [ByteArray.mk.injEq]
 exact Array.toList_inj.1 h1
theorem w9t {s u:ByteArray}:tb s=tb u↔s=u:=⟨x8x,fun h=>by rw[h]⟩
theorem z9k {s u:ByteArray}(h:s.toList=u.toList):s=u:=by
 have e: ∀t:ByteArray,t.toList=t.data.toList:=fun t=>ByteArray.toList_eq t
 rw[e,e]at h
 cases s;cases u
 simp only [ByteArray.mk.injEq]
 exact Array.toList_inj.1 h
theorem x1l (s u:ByteArray):(s.toList == u.toList)=decide (tb s=tb u):=by
 rw[a1b,beq_iff_eq,a0t,w9t]
 exact⟨z9k,fun h=>by rw[h]⟩
theorem x3c (s:ByteArray)(i:Nat):(tb s).getD i 0=(s.data.getD i 0).toNat:=by
 unfold tb
 rw[a0d,a0l,a0w]
 by_cases h:i < s.data.size
 ·rw[a0s h];simp [Array.getD,show i < s.size from h]
 ·rw[Array.getElem?_eq_none (by omega)];simp [Array.getD,show ¬i < s.size from h]
theorem x6g (s:ByteArray)(a b:Int):tb (s.extract a.toNat b.toNat)=((tb s).take b.toNat).drop a.toNat:=by
 unfold tb
 rw[ByteArray.data_extract,Array.toList_extract]
 simp [List.extract_eq_take_drop,List.map_take,List.map_drop,List.drop_take]
theorem w9u (l:List UInt8):tb (bs l)=l.map UInt8.toNat:=by simp [tb,bs]
theorem v8r (s:ByteArray)(i:Nat):(s.get! i).toNat=(tb s).getD i 0:=by
 rw[x3c]
 show(s.data[i]!).toNat=_
 by_cases h:i < s.data.size
 ·simp [Array.getD,show i < s.size from h]
 ·simp only [Array.getD,h,dite_false]
  rw[getElem!_neg s.data i h];rfl
theorem y9f {s:ByteArray}{i:Nat}(hb:(tb s).getD i 0 < 128):z7y s (i:Int)=(((tb s).getD i 0:Nat):Int)∧v5y s (i:Int)=1:=by
 unfold z7y v5y Utf8.decode
 rw[a0h]
 simp only [Nat.add_zero,v8r]
 rw[if_pos hb]
 exact⟨rfl,rfl⟩
theorem u0z {s:ByteArray}{i:Nat}(hb:128≤(tb s).getD i 0):128≤z7y s (i:Int)∧1≤v5y s (i:Int):=by
 unfold z7y v5y Utf8.decode
 rw[a0h]
 simp only [Nat.add_zero,v8r]
 rw[if_neg (by omega)]
 have hr:128≤Utf8.runeError:=by decide
 repeat' split
 all_goals first|omega|(simp only [ge_iff_le,a0p,a0t]at*;omega)
def x2j (c:Nat):Bool:=decide (97≤c)&&decide (c≤122)
def x1y (c:Nat):Bool:=decide (65≤c)&&decide (c≤90)
def x0r (c:Nat):Bool:=decide (48≤c)&&decide (c≤57)
def x1g (c:Nat):Bool:=x2j c || x1y c || x0r c || decide (c=95)
def x9c (first:Nat→Bool)(l:List Nat):Bool:=decide (1≤l.length)&&decide (l.length≤12)&&first (l.getD 0 0)&&l.all x1g
def x1r (c:Nat):List Nat→List (List Nat)
 | []=>[[]]
 |x::xs=>if x=c then[]::x1r c xs else match x1r c xs with
  | []=>[[x]]
  |p::ps=>(x::p)::ps
theorem y2i (c:Nat): ∀l,x1r c l≠[]
 | []=>by simp [x1r]
 |x::xs=>by
  unfold x1r
  split
  ·simp
  ·split<;>simp
theorem y3p (c:Nat): ∀(p l:List Nat),(∀x∈p,x≠c)→x1r c (p++l)=match x1r c l with
  | []=>[p]
  |q::qs=>(p++q)::qs
 | [],l,_=>by
   simp only [a0g]
   cases h:x1r c l with
   |nil=>exact absurd h (y2i c l)
   |cons q qs=>rfl
 |x::p,l,hp=>by
  rw[a0e,x1r,if_neg (hp x a1q),y3p c p l fun y hy=>hp y (a2f _ hy)]
  cases h:x1r c l with
  |nil=>exact absurd h (y2i c l)
  |cons q qs=>rfl
theorem x8j (c:Nat)(p:List Nat)(hp: ∀x∈p,x≠c):x1r c p= [p]:=by
 have:=y3p c p [] hp
 rw[a2e]at this
 rw[this];simp [x1r]
theorem x8k (c:Nat)(p l:List Nat)(hp: ∀x∈p,x≠c):x1r c (p++c::l)=p::x1r c l:=by
 rw[y3p c p _ hp]
 simp [x1r]
end Go.Vm
end

section
namespace Go.Vm
def v7q:List (List Nat):=["node", "returns", "var", "let", "tel", "enum", "if", "then", "else", "fby", "pre", "when", "merge", "every", "not", "and", "or", "xor", "mod", "true", "false", "int", "bool", "with"].map fun s=>s.toUTF8.data.toList.map UInt8.toNat
def y0o (l:List Nat):Bool:=v7q.contains l
def x7m (l:List Nat):Bool:=x9c x2j l&& !y0o l
def y1l (l:List Nat):Bool:=x9c x1y l
def u5m (l:List Nat):Bool:=decide (1≤l.length)&&decide (l.length≤3)&& !decide (l.getD 0 0=48)&&l.all x0r
def y1g (l:List Nat):Bool:=match x1r 46 l with
 | [a]=>x7m a
 | [a,b]=>x7m a&&u5m b
 |_=>false
def z5s (l:List Nat):Bool:=(x1r 47 l).all y1g
def x9d (c:Nat):List Nat→Option Nat
 | []=>none
 |x::xs=>if x=c then some 0 else(x9d c xs).map (· +1)
theorem x8b {c:Nat}: ∀ {l:List Nat},x9d c l=none→ ∀x∈l,x≠c
 | [],_,x,hx=>by simp at hx
 |y::ys,h,x,hx=>by
  unfold x9d at h
  split at h
  ·cases h
  ·rw[Option.map_eq_none_iff]at h
   rcases a1t.1 hx with rfl|hx
   ·assumption
   ·exact x8b h x hx
theorem x4b {c:Nat}: ∀ {l:List Nat} {i:Nat},x9d c l=some i→i < l.length∧l=l.take i++c::l.drop (i+1)∧ ∀x∈l.take i,x≠c
 | [],i,h=>by cases h
 |y::ys,i,h=>by
  unfold x9d at h
  split at h
  ·cases h;rename_i e;subst e;exact⟨by simp,by simp,by simp⟩
  ·rename_i hne
   rw[a0k]at h
   obtain⟨j,hj,rfl⟩:=h
   obtain⟨h1,h2,h3⟩:=x4b hj
   refine⟨by simp;omega,?_,fun x hx=> ?_⟩
   ·simp only [List.take_succ_cons,List.drop_succ_cons,a0e]
    rw[←h2]
   ·rw[List.take_succ_cons]at hx
    rcases a1t.1 hx with rfl|hx
    ·exact hne
    ·exact h3 x hx
theorem u9b (l:List Nat):y1g l=match x9d 46 l with
  |none=>x7m l
  |some i=>x7m (l.take i)&&u5m (l.drop (i+1)):=by
 cases h:x9d 46 l with
 |none=>
  unfold y1g
  rw[x8j 46 l (x8b h)]
 |some i=>
  obtain⟨h1,h2,h3⟩:=x4b h
  simp only
  generalize hb:l.take i=b at h2 h3 ⊢
  generalize ha:l.drop (i+1)=a at h2 ⊢
  subst h2
  unfold y1g
  rw[x8k 46 b a h3]
  cases hq:x9d 46 a with
  |none=>rw[x8j 46 a (x8b hq)]
  |some j=>
   obtain⟨q1,q2,q3⟩:=x4b hq
   have e:u5m a=false:=by
    unfold u5m
    have:a.all x0r=false:=by
     rw[q2,List.all_append,a1s]
     have:x0r 46=false:=by decide
     rw[this];simp
    rw[this];simp
   have hs:x1r 46 a=a.take j::x1r 46 (a.drop (j+1)):=by
    conv=>lhs;rw[q2]
    exact x8k 46 _ _ q3
   rw[hs,e,Bool.and_false]
   cases hz:x1r 46 (a.drop (j+1))with
   |nil=>exact absurd hz (y2i _ _)
   |cons z zs=>rfl
end Go.Vm
end

section
set_option maxRecDepth 100000
set_option maxHeartbeats 2000000
namespace Go.Vm
open Go.Proofs
def inI (a b n:Int):Bool:=decide (a≤n)&&decide (n≤b)
theorem x7z (c:Nat):inI 97 122 (c:Int)=x2j c:=by
 unfold inI x2j
 rw[a1b]
 simp only [a0p,a0t]
 omega
theorem x8a (c:Nat):inI 65 90 (c:Int)=x1y c:=by
 unfold inI x1y
 rw[a1b]
 simp only [a0p,a0t]
 omega
theorem x4v (c:Nat):inI 48 57 (c:Int)=x0r c:=by
 unfold inI x0r
 rw[a1b]
 simp only [a0p,a0t]
 omega
theorem y1k {a b n:Int}(h:b < n):inI a b n=false:=by
 unfold inI
 rw[x1c (p:=n≤b) (by omega),Bool.and_false]
theorem z4a (n:Int):cF 134 [.d (.int .i32 n)]=some (.val [.bool (inI 97 122 n)]):=by
 refine cOf (by kernel_rfl) rfl ?_
 rw[w4a]
 simp only [k1y,go1]
 rfl
theorem z4e (n:Int):cF 136 [.d (.int .i32 n)]=some (.val [.bool (inI 65 90 n)]):=by
 refine cOf (by kernel_rfl) rfl ?_
 rw[w3z]
 simp only [k1x,go1]
 rfl
theorem y4j (n:Int):cF 173 [.d (.int .i32 n)]=some (.val [.bool (inI 48 57 n)]):=by
 refine cOf (by kernel_rfl) rfl ?_
 rw[w3l]
 simp only [k1j,go1]
 rfl
theorem x4e {α:Type}{l:List α}{p:Nat}{f:α→Bool}{d:α}(hp:p < l.length)(h:(l.take p).all f=true)(hx:f (l.getD p d)=true):(l.take (p+1)).all f=true:=by
 rw[a1f,List.all_append,h,a0b hp]
 rw[a0d,a0b hp]at hx
 simpa using hx
theorem y3j {α:Type}{l:List α}{p:Nat}{f:α→Bool}{d:α}(hp:p < l.length)(hx:f (l.getD p d)=false):l.all f=false:=by
 rw[a0d,a0b hp]at hx
 rw[Bool.eq_false_iff]
 intro hh
 have:=a0o.1 hh _ (a1p hp)
 simp at hx
 rw[hx]at this;cases this
theorem x7x {first:Nat→Bool}{l:List Nat}{p:Nat}(hp:p < l.length)(hx:x1g (l.getD p 0)=false):x9c first l=false:=by
 unfold x9c;rw[y3j hp hx,Bool.and_false]
theorem x8r {first:Nat→Bool}{l:List Nat}(hx:first (l.getD 0 0)=false):x9c first l=false:=by
 unfold x9c;rw[hx,Bool.and_false,a2n]
theorem x0u (s:ByteArray):(s.size:Int)=((tb s).length:Int):=by rw[x1k]
theorem y2y (c:Nat):x1g c=(x2j c || x1y c || x0r c || decide (c=95)):=rfl
theorem z6v {c:Nat}(h:128≤c):x1g c=false:=by
 unfold x1g x2j x1y x0r
 simp;omega
theorem q3y (s:ByteArray):cF 133 [.d (.str s), .fn 134 []]=some (.val [.bool (x9c x2j (tb s))]):=by
 refine cOf (by kernel_rfl) rfl ?_
 rw[u0s]
 simp only [u3k,go1]
 refine x0m (fun p:Nat=>[.str s, .str s, .int .i64 (p:Int)]) (fun p=>p≤(tb s).length∧((tb s).take p).all x1g=true∧(0 < p→x2j ((tb s).getD 0 0)=true)) (fun p=>(tb s).length - p) (fun p hp=> ?_) 0 ⟨a0r _,by simp,by omega⟩
 obtain⟨hle,hall,hfst⟩:=hp
 by_cases hlt:p < (tb s).length
 ·by_cases hc:(tb s).getD p 0 < 128
  ·obtain⟨e1,e2⟩:=y9f hc
   simp only [go1,x0u,x0n hlt,y3o,y3n,e1,e2,z4a,z4e,y4j,x7z,x8a,x4v]
   have hi:=y2y ((tb s).getD p 0)
   by_cases h0:p=0
   ·subst h0
    cases hs:x2j ((tb s).getD 0 0)with
    |false=>
     right
     rw[x8r hs]
     simp only [go1];rfl
    |true=>
     left
     rw[hs]at hi
     refine⟨0+1,?_,⟨hlt,x4e hlt hall (by rw[hi];rfl),fun _=>(by first|rfl|exact hs)⟩,by omega⟩
     simp only [go1];rfl
   ·rw[x1c (p:=(p:Int)=0) (by omega)]
    cases hin:x1g ((tb s).getD p 0)with
    |false=>
     right
     rw[x7x hlt hin]
     rw[hin]at hi
     have hi:=hi.symm
     simp only [Bool.or_eq_false_iff]at hi
     obtain⟨⟨⟨i1,i2⟩,i3⟩,i4⟩:=hi
     have i4': ¬(((tb s).getD p 0:Nat):Int)=95:=by
      have:=of_decide_eq_false i4;omega
     rw[x1c i4']
     simp only [i1,i2,i3,go1]
    |true=>
     left
     refine⟨p+1,?_,⟨hlt,x4e hlt hall hin,fun _=>hfst (by omega)⟩,by omega⟩
     rw[hin]at hi
     cases i1:x2j ((tb s).getD p 0)<;>cases i2:x1y ((tb s).getD p 0)<;>cases i3:x0r ((tb s).getD p 0)<;>rw[i1,i2,i3]at hi<;>simp only [go1]<;>(try rfl)
     all_goals
      simp only [Bool.or_self,a0v]at hi
      have i4:=a0c hi.symm
      rw[x1m (p:=(((tb s).getD p 0:Nat):Int)=95) (by omega)]
      rfl
  ·have hb:=u0z (s:=s) (i:=p) (by omega)
   right
   have hin:x1g ((tb s).getD p 0)=false:=by
    exact z6v (by omega)
   rw[x7x hlt hin]
   have hz: ¬z7y s (p:Int)=95:=by omega
   simp only [go1,x0u,x0n hlt,y3o,y3n,z4a,z4e,y4j,y1k (a:=97) (b:=122) (n:=z7y s (p:Int)) (by omega),y1k (a:=65) (b:=90) (n:=z7y s (p:Int)) (by omega),y1k (a:=48) (b:=57) (n:=z7y s (p:Int)) (by omega)]
   cases decide ((p:Int)=0)
   ·simp only [cond_true,cond_false];simp [hz]
   ·rfl
 ·right
  have:p=(tb s).length:=by omega
  subst this
  simp only [go1,x0u,x0h]
  rw[a0x]at hall
  unfold x9c
  rw[hall,a1v]
  by_cases h0:0 < (tb s).length
  ·rw[hfst h0,a1v]
   by_cases h12:(tb s).length≤12
   ·rw[x1m (p:=1≤((tb s).length:Int)) (by omega),x1m (p:=((tb s).length:Int)≤12) (by omega),x1m (p:=1≤(tb s).length) (by omega),x1m h12]
    first|done|rfl
   ·rw[x1m (p:=1≤((tb s).length:Int)) (by omega),x1c (p:=((tb s).length:Int)≤12) (by omega),x1c h12]
    first|done|rfl|simp
  ·rw[x1c (p:=1≤((tb s).length:Int)) (by omega),x1c (p:=1≤(tb s).length) (by omega)]
   first|done|rfl|simp
end Go.Vm
end

section
set_option maxRecDepth 100000
set_option maxHeartbeats 2000000
namespace Go.Vm
open Go.Proofs
theorem x0f (l:List ByteArray):(x0e l).length=l.length:=by simp [x0e]
theorem y2h (a b:List ByteArray):x0e a++x0e b=x0e (a++b):=by simp [x0e]
theorem z5f {l:List ByteArray}{i:Nat}{x:ByteArray}(h:l[i]? =some x):sy.row (x0e l) (i:Int)= [.str x]:=by
 rw[y4r,a0h,a0d]
 unfold x0e
 rw[a0l,h];rfl
theorem x1v {l:List ByteArray}{i:Nat}{x:ByteArray}(h:l[i]? =some x):sy.cell (sy.row (x0e l) (i:Int)) 0=some (.str x):=by rw[z5f h];rfl
def z9c (c:Nat)(l:List Nat):Int:=match x9d c l with
 |none=> -1
 |some i=>i
theorem u3g (c:UInt8): ∀l:List UInt8,Lib.indexByte l c=z9c c.toNat (l.map UInt8.toNat)
 | []=>rfl
 |b::l=>by
  unfold Lib.indexByte z9c
  rw[a1r,x9d]
  have ih:=u3g c l
  by_cases h:b=c
  ·subst h;simp
  ·have h1: ¬b.toNat=c.toNat:=fun e=>h (UInt8.toNat_inj.1 e)
   have h2:(b == c)=false:=by simp [h]
   rw[h2,if_neg h1,ih]
   unfold z9c
   cases x9d c.toNat (l.map UInt8.toNat)with
   |none=>rfl
   |some i=>
    have:((i:Int) == -1)=false:=by rw[beq_eq_false_iff_ne];omega
    simp [this]
theorem u8c (s:ByteArray)(m:UInt8):sy.sidx s ((m.toNat:Nat):Int)=z9c m.toNat (tb s):=by
 rw[v9y,a0h,u3g]
 have:m.toNat.toUInt8=m:=by simp
 rw[this];rfl
theorem w0f (l:List UInt8):((bs l).size:Int)=l.length:=by
 show((l.toArray.size:Nat):Int)=_
 simp
theorem y9q (s:ByteArray)(m:UInt8):cF 163 [.d (.str s), .d (.str (bs [m]))]=some (.val [.int .i64 (z9c m.toNat (tb s))]):=by
 have h72:cF 168 [.d (.str s), .d (.int .u8 (sy.sbyte (bs [m]) 0))]=some (.val [.int .i64 (z9c m.toNat (tb s))]):=by
  refine cOf (by kernel_rfl) rfl ?_
  rw[v0p]
  simp only [q7s,go1]
  show some (PRes.val [D.int .i64 (sy.sidx s ((m.toNat:Nat):Int))])=_
  rw[u8c]
 refine cOf (by kernel_rfl) rfl ?_
 rw[w3o]
 unfold k1m
 have e1:sy.ieq (sy.slen (bs [m])) 0=false:=rfl
 have e2:sy.ieq (sy.slen (bs [m])) 1=true:=rfl
 have e3:sy.inr 0 (sy.slen (bs [m]))=true:=rfl
 rw[←x4h]at h72
 cases h:sy.seq (bs [m]) s with
 |true=>
  have:tb (bs [m])=tb s:=by
   rw[u1x,x1l]at h;exact a0c h
  have hz:z9c m.toNat (tb s)=0:=by
   rw[←this]
   unfold z9c tb bs
   simp [x9d]
  rw[hz]
  repeat' (first|with_reducible exact y7a|with_reducible apply z5e|with_reducible apply y7b|((with_reducible apply w9x);(first|with_reducible exact e1|with_reducible exact h|rfl))|((with_reducible apply w9y);(first|with_reducible exact e1|with_reducible exact h|rfl))|with_reducible apply u8a|with_reducible apply z5d|with_reducible exact z5c|with_reducible apply z5a|with_reducible apply z5b|with_reducible apply z4z|rfl)
 |false=>
  repeat' (first|with_reducible exact y7a|with_reducible apply z5e|with_reducible apply y7b|((with_reducible apply w9x);(first|with_reducible exact e1|with_reducible exact e2|with_reducible exact e3|with_reducible exact h|rfl))|((with_reducible apply w9y);(first|with_reducible exact e1|with_reducible exact e2|with_reducible exact e3|with_reducible exact h|rfl))|with_reducible apply u8a|with_reducible apply z5d|with_reducible exact z5c|with_reducible apply z5a|with_reducible apply z5b|with_reducible apply z4z|exact h72|rfl)
theorem v2l (s:ByteArray)(m:UInt8):cF 125 [.d (.str s), .d (.str (bs [m]))]=some (.val [.int .i64 (z9c m.toNat (tb s))]):=by
 have:=y9q s m
 refine cOf (by kernel_rfl) rfl ?_
 rw[w4d]
 simp only [k2b,go1,this]
theorem u0g (c:Nat)(l:List Nat):z9c c l= -1∧x9d c l=none∨ ∃i:Nat,z9c c l=i∧x9d c l=some i∧i < l.length:=by
 unfold z9c
 cases h:x9d c l with
 |none=>exact .inl ⟨rfl,rfl⟩
 |some i=>exact .inr ⟨i,rfl,rfl,(x4b h).1⟩
theorem q8k (s:ByteArray)(m:UInt8)(hs:s.size≤100000): ∃a b f,cF 197 [.d (.str s), .d (.str (bs [m]))]=some (.val [.str a, .str b, .bool f])∧
  ((f=false∧x9d m.toNat (tb s)=none∧tb a=tb s)∨(f=true∧ ∃i,x9d m.toNat (tb s)=some i∧tb a=(tb s).take i∧tb b=(tb s).drop (i+1))):=by
 have hI:=y9q s m
 have hl:=x1k s
 rcases u0g m.toNat (tb s)with⟨hz,hn⟩|⟨i,hz,hn,hi⟩
 ·refine⟨s,bs [],false,?_, .inl ⟨rfl,hn,rfl⟩⟩
  rw[hz]at hI
  have h60:cF 222 [.d (.str s), .d (.str (bs [m]))]=some (.val [.str s, .str (bs []), .bool false]):=by
   refine cOf (by kernel_rfl) rfl ?_
   rw[v0m]
   simp only [q7p,go1,Int.reduceLE,hI]
  refine cOf (by kernel_rfl) rfl ?_
  rw[v0o]
  simp only [q7r,go1,h60]
 ·rw[hz]at hI
  have h60:cF 222 [.d (.str s), .d (.str (bs [m]))]=some (.val [.str (s.extract (0:Int).toNat ((i:Nat):Int).toNat), .str (s.extract ((i:Int)+1).toNat ((s.size:Nat):Int).toNat), .bool true]):=by
   refine cOf (by kernel_rfl) rfl ?_
   rw[v0m]
   simp only [q7p,go1,Int.reduceLE,hI,w0f]
   rw[x1m (p:=0≤(i:Int)) (by omega),x1m (p:=0≤(i:Int)∧(i:Int)≤(s.size:Int)) (by omega)]
   have hw:IntKind.i64.wrap ((i:Int)+((([m]:List UInt8).length:Nat):Int))=(i:Int)+1:=by
    rw[show((([m]:List UInt8).length:Nat):Int)=1 from rfl,x0j (by omega) (by omega)]
   rw[hw,x1m (p:=0≤(i:Int)+1∧(i:Int)+1≤(s.size:Int)∧(s.size:Int)≤(s.size:Int)) (by omega)]
   rfl
  refine⟨s.extract (0:Int).toNat ((i:Nat):Int).toNat,s.extract ((i:Int)+1).toNat ((s.size:Nat):Int).toNat,true,?_, .inr ⟨rfl,i,hn,?_,?_⟩⟩
  ·refine cOf (by kernel_rfl) rfl ?_
   rw[v0o]
   simp only [q7r,go1,h60]
  ·rw[x6g];simp
  ·rw[x6g]
   have e1:((i:Int)+1).toNat=i+1:=by omega
   rw[e1,a0h,←hl,a0x]
end Go.Vm
end

section
set_option maxRecDepth 100000
set_option maxHeartbeats 4000000
namespace Go.Vm
open Go.Proofs
def x7n:List ByteArray:=[bs [110,111,100,101],bs [114,101,116,117,114,110,115],bs [118,97,114],bs [108,101,116],bs [116,101,108],bs [101,110,117,109],bs [105,102],bs [116,104,101,110],bs [101,108,115,101],bs [102,98,121],bs [112,114,101],bs [119,104,101,110],bs [109,101,114,103,101],bs [101,118,101,114,121],bs [110,111,116],bs [97,110,100],bs [111,114],bs [120,111,114],bs [109,111,100],bs [116,114,117,101],bs [102,97,108,115,101],bs [105,110,116],bs [98,111,111,108],bs [119,105,116,104]]
theorem u6z:x7n.map tb=v7q:=by decide+kernel
theorem z4o (s:ByteArray):y0o (tb s)=x7n.any fun w=>decide (tb s=tb w):=by
 unfold y0o
 rw[←u6z,List.contains_eq_any_beq,List.any_map]
 congr 1
 funext w
 rw[a1b];simp
theorem u4g (s:ByteArray):cF 123 [.d (.str s)]=some (.val [.bool (y0o (tb s))]):=by
 rw[z4o]
 refine cOf (by kernel_rfl) rfl ?_
 rw[w4e]
 simp only [k2c,go1]
 unfold x7n
 simp only [x1l,List.any_cons,List.any_nil,Bool.or_false]
 cases decide (tb s=tb (bs [110,111,100,101]))<;>simp only [cond_true,cond_false,a1i,a0v]
 cases decide (tb s=tb (bs [114,101,116,117,114,110,115]))<;>simp only [cond_true,cond_false,a1i,a0v]
 cases decide (tb s=tb (bs [118,97,114]))<;>simp only [cond_true,cond_false,a1i,a0v]
 cases decide (tb s=tb (bs [108,101,116]))<;>simp only [cond_true,cond_false,a1i,a0v]
 cases decide (tb s=tb (bs [116,101,108]))<;>simp only [cond_true,cond_false,a1i,a0v]
 cases decide (tb s=tb (bs [101,110,117,109]))<;>simp only [cond_true,cond_false,a1i,a0v]
 cases decide (tb s=tb (bs [105,102]))<;>simp only [cond_true,cond_false,a1i,a0v]
 cases decide (tb s=tb (bs [116,104,101,110]))<;>simp only [cond_true,cond_false,a1i,a0v]
 cases decide (tb s=tb (bs [101,108,115,101]))<;>simp only [cond_true,cond_false,a1i,a0v]
 cases decide (tb s=tb (bs [102,98,121]))<;>simp only [cond_true,cond_false,a1i,a0v]
 cases decide (tb s=tb (bs [112,114,101]))<;>simp only [cond_true,cond_false,a1i,a0v]
 cases decide (tb s=tb (bs [119,104,101,110]))<;>simp only [cond_true,cond_false,a1i,a0v]
 cases decide (tb s=tb (bs [109,101,114,103,101]))<;>simp only [cond_true,cond_false,a1i,a0v]
 cases decide (tb s=tb (bs [101,118,101,114,121]))<;>simp only [cond_true,cond_false,a1i,a0v]
 cases decide (tb s=tb (bs [110,111,116]))<;>simp only [cond_true,cond_false,a1i,a0v]
 cases decide (tb s=tb (bs [97,110,100]))<;>simp only [cond_true,cond_false,a1i,a0v]
 cases decide (tb s=tb (bs [111,114]))<;>simp only [cond_true,cond_false,a1i,a0v]
 cases decide (tb s=tb (bs [120,111,114]))<;>simp only [cond_true,cond_false,a1i,a0v]
 cases decide (tb s=tb (bs [109,111,100]))<;>simp only [cond_true,cond_false,a1i,a0v]
 cases decide (tb s=tb (bs [116,114,117,101]))<;>simp only [cond_true,cond_false,a1i,a0v]
 cases decide (tb s=tb (bs [102,97,108,115,101]))<;>simp only [cond_true,cond_false,a1i,a0v]
 cases decide (tb s=tb (bs [105,110,116]))<;>simp only [cond_true,cond_false,a1i,a0v]
 cases decide (tb s=tb (bs [98,111,111,108]))<;>simp only [cond_true,cond_false,a1i,a0v]
 cases decide (tb s=tb (bs [119,105,116,104]))<;>simp only [cond_true,cond_false]
theorem z4g (s:ByteArray):cF 95 [.d (.str s)]=some (.val [.bool (x7m (tb s))]):=by
 have h1:=q3y s
 have h2:=u4g s
 refine cOf (by kernel_rfl) rfl ?_
 rw[q1w]
 simp only [g95,go1,h1,h2]
 rfl
theorem u2v {l:List Nat}{p:Nat}(hp:p < l.length)(hx:x0r (l.getD p 0)=false):u5m l=false:=by
 unfold u5m;rw[y3j hp hx,Bool.and_false]
theorem v6s (s:ByteArray):cF 198 [.d (.str s)]=some (.val [.bool (u5m (tb s))]):=by
 refine cOf (by kernel_rfl) rfl ?_
 rw[w3b]
 simp only [k0z,go1]
 refine x0m (fun p:Nat=>[.str s, .str s, .int .i64 (p:Int)]) (fun p=>p≤(tb s).length∧((tb s).take p).all x0r=true∧(0 < p→(tb s).getD 0 0≠48)) (fun p=>(tb s).length - p) (fun p hp=> ?_) 0 ⟨a0r _,by simp,by omega⟩
 obtain⟨hle,hall,hfst⟩:=hp
 by_cases hlt:p < (tb s).length
 ·by_cases hc:(tb s).getD p 0 < 128
  ·obtain⟨e1,e2⟩:=y9f hc
   simp only [go1,x0u,x0n hlt,y3o,y3n,e1,e2,y4j,x4v]
   cases hin:x0r ((tb s).getD p 0)with
   |false=>
    right
    rw[u2v hlt hin]
    simp only [go1]
   |true=>
    by_cases h0:p=0
    ·subst h0
     by_cases h48:(tb s).getD 0 0=48
     ·right
      have:u5m (tb s)=false:=by unfold u5m;rw[x1m h48];simp
      rw[this,x1m (p:=(((tb s).getD 0 0:Nat):Int)=48) (by omega)]
      simp only [go1];rfl
     ·left
      refine⟨0+1,?_,⟨hlt,x4e hlt hall hin,fun _=>h48⟩,by omega⟩
      rw[x1c (p:=(((tb s).getD 0 0:Nat):Int)=48) (by omega)]
      simp only [go1];rfl
    ·left
     refine⟨p+1,?_,⟨hlt,x4e hlt hall hin,fun _=>hfst (by omega)⟩,by omega⟩
     rw[x1c (p:=(p:Int)=0) (by omega)]
     simp only [go1];rfl
  ·have hb:=u0z (s:=s) (i:=p) (by omega)
   right
   have hin:x0r ((tb s).getD p 0)=false:=by
    have:128≤(tb s).getD p 0:=by omega
    generalize (tb s).getD p 0=c at this
    unfold x0r;simp;omega
   rw[u2v hlt hin]
   simp only [go1,x0u,x0n hlt,y3o,y3n,y4j,y1k (a:=48) (b:=57) (n:=z7y s (p:Int)) (by omega)]
 ·right
  have:p=(tb s).length:=by omega
  subst this
  simp only [go1,x0u,x0h]
  rw[a0x]at hall
  unfold u5m
  rw[hall,a1v]
  by_cases h0:0 < (tb s).length
  ·rw[x1c (hfst h0),x1m (p:=1≤((tb s).length:Int)) (by omega),x1m (p:=1≤(tb s).length) (by omega)]
   by_cases h3:(tb s).length≤3
   ·rw[x1m (p:=((tb s).length:Int)≤3) (by omega),x1m h3];rfl
   ·rw[x1c (p:=((tb s).length:Int)≤3) (by omega),x1c h3];rfl
  ·rw[x1c (p:=1≤((tb s).length:Int)) (by omega),x1c (p:=1≤(tb s).length) (by omega)]
   rfl
theorem q3v (s:ByteArray)(hs:s.size≤100000):cF 165 [.d (.str s)]=some (.val [.bool (y1g (tb s))]):=by
 obtain⟨a,b,f,h1,h2⟩:=q8k s 46 hs
 have h3:=z4g a
 have h4:=v6s b
 rw[u9b]
 rcases h2 with⟨rfl,hn,ha⟩|⟨rfl,i,hn,ha,hb⟩
 ·rw[ha]at h3
  have hn:x9d 46 (tb s)=none:=hn
  rw[hn]
  refine cOf (by kernel_rfl) rfl ?_
  rw[v0q]
  simp only [q7t,go1,h1,h3]
  try (cases x7m (tb s)<;>rfl)
 ·rw[ha]at h3
  rw[hb]at h4
  have hn:x9d 46 (tb s)=some i:=hn
  rw[hn]
  refine cOf (by kernel_rfl) rfl ?_
  rw[v0q]
  simp only [q7t,go1,h1,h3,h4]
  try (cases x7m ((tb s).take i)<;>rfl)
end Go.Vm
end

section
namespace Go.Vm
theorem x5o {σ α:Type}{b:List D→Option (List D ⊕ α)}{Q:α→Prop}(mk:σ→List D)(I:σ→Prop)(μ:σ→Nat)
  (h: ∀x,I x→(∃y,b (mk x)=some (.inl (mk y))∧I y∧μ y < μ x)∨ ∃r,b (mk x)=some (.inr r)∧Q r) (x:σ) (h0:I x): ∃r,x7h b (mk x)=some r∧Q r:=by
 suffices ∀n x,μ x < n→I x→ ∃r,x7h b (mk x)=some r∧Q r from this _ x (a1a _) h0
 intro n
 induction n with
 |zero=>intro x h;omega
 |succ n ih=>
  intro x hlt hi
  rw[x8s]
  rcases h x hi with⟨d,h1,h2,h3⟩|⟨r,h1,h2⟩
  ·rw[h1];exact ih d (by omega) h2
  ·rw[h1];exact⟨r,rfl,h2⟩
theorem k4g {α:Type}{X:Option (List D ⊕ α)}{L L':List D}(h:X=some (.inl L))(e:L=L'):X=some (.inl L'):=by rw[h,e]
theorem k4f {α:Type}{X:Option (List D ⊕ α)}{Q:α→Prop}{r:α}(h:X=some (.inr r))(e:Q r): ∃r,X=some (.inr r)∧Q r:=⟨r,h,e⟩
end Go.Vm
end

section
set_option maxRecDepth 100000
set_option maxHeartbeats 4000000
namespace Go.Vm
open Go.Proofs
theorem v1k (c:UInt8): ∀l:List UInt8,(l.map UInt8.toNat).count c.toNat=l.count c
 | []=>rfl
 |b::l=>by
  rw[a1r,List.count_cons,List.count_cons,v1k c l]
  by_cases h:b=c
  ·subst h;simp
  ·have h1:(b.toNat == c.toNat)=false:=by
    rw[beq_eq_false_iff_ne];exact fun e=>h (UInt8.toNat_inj.1 e)
   have h2:(b == c)=false:=by simp [h]
   rw[h1,h2]
theorem w0g (s:ByteArray)(m:UInt8):sy.scnt s ((m.toNat:Nat):Int)=(((tb s).count m.toNat:Nat):Int):=by
 rw[v9z,a0h]
 have:m.toNat.toUInt8=m:=by simp
 rw[this]
 unfold Lib.countByte tb
 rw[v1k]
theorem w6p (s:ByteArray)(m:UInt8):cF 221 [.d (.str s), .d (.str (bs [m]))]=some (.val [.int .i64 (((tb s).count m.toNat:Nat):Int)]):=by
 refine cOf (by kernel_rfl) rfl ?_
 rw[w2s]
 unfold k0q
 have e1:sy.ieq (sy.slen (bs [m])) 0=false:=rfl
 have e2:sy.ieq (sy.slen (bs [m])) 1=true:=rfl
 have e3:sy.inr 0 (sy.slen (bs [m]))=true:=rfl
 rw[←w0g]
 repeat' (first|with_reducible exact y7a|with_reducible apply z5e|with_reducible apply y7b|((with_reducible apply w9x);(first|with_reducible exact e1|with_reducible exact e2|with_reducible exact e3|rfl))|((with_reducible apply w9y);(first|with_reducible exact e1|with_reducible exact e2|with_reducible exact e3|rfl))|with_reducible apply u8a|with_reducible apply z5d|with_reducible exact z5c|with_reducible apply z5a|with_reducible apply z5b|with_reducible apply z4z|rfl)
theorem x9y (c:Nat): ∀l:List Nat,(x1r c l).length=l.count c+1
 | []=>rfl
 |x::xs=>by
  unfold x1r
  have ih:=x9y c xs
  rw[List.count_cons]
  by_cases h:x=c
  ·subst h;simp [ih]
  ·rw[if_neg h]
   have h2:(x == c)=false:=by simp [h]
   rw[h2]
   cases hq:x1r c xs with
   |nil=>exact absurd hq (y2i c xs)
   |cons p ps=>rw[hq]at ih;simpa using ih
theorem w5j {c:Nat}{l:List Nat}{j:Nat}(h:x9d c l=some j):l.count c=(l.drop (j+1)).count c+1:=by
 obtain⟨h1,h2,h3⟩:=x4b h
 conv=>lhs;rw[h2]
 rw[List.count_append,List.count_cons,List.count_eq_zero.2 (fun hm=>h3 c hm rfl)]
 simp
theorem v5z {c:Nat}{l:List Nat}(h:x9d c l=none):l.count c=0:=List.count_eq_zero.2 fun hm=>x8b h c hm rfl
def z9f:List D:=[.str (bs [])]
theorem v3y (d:List ByteArray)(k:Nat)(x:ByteArray):sy.rput (x0e d++List.replicate (k+1) z9f) d.length 0 [.str x]=x0e (d++[x])++List.replicate k z9f:=by
 have hg:(x0e d++List.replicate (k+1) z9f).getD d.length []=z9f:=by
  rw[a0d,List.getElem?_append_right (by rw[x0f];exact a0m _),x0f,Nat.sub_self]
  simp
 show(x0e d++List.replicate (k+1) z9f).set d.length (((x0e d++List.replicate (k+1) z9f).getD d.length []).take 0++[.str x]++((x0e d++List.replicate (k+1) z9f).getD d.length []).drop (0+1))=_
 rw[hg,List.set_append_right _ _ (by rw[x0f];exact a0m _),x0f,Nat.sub_self,List.replicate_succ]
 rw[show(z9f.take 0++[D.str x]++z9f.drop (0+1))= [D.str x]from rfl]
 simp [x0e,v8e]
theorem u6m (s:ByteArray)(hs:s.size≤100000): ∃p,cF 196 [.d (.str s), .d (.str (bs [47])), .d (.int .i64 0), .d (.int .i64 (-1))]=some p∧ ∃l:List ByteArray,p= .own 9 1 (x0e l)∧l.map tb=x1r 47 (tb s):=by
 have hc:=w6p s 47
 have hI:=fun r=>v2l r 47
 have hl:=x1k s
 have h47:(47:UInt8).toNat=47:=rfl
 rw[h47]at hc
 have hcl:(tb s).count 47≤(tb s).length:=List.count_le_length
 refine q8n (by kernel_rfl) rfl ?_
 rw[w3c]
 unfold k1a
 generalize hN:(tb s).count 47=N at hc hcl
 have hw:sy.imin (sy.wrap .i64 (sy.add ((N:Nat):Int) 1)) (sy.wrap .i64 (sy.add (sy.slen s) 1))=((N+1:Nat):Int):=by
  show min (IntKind.i64.wrap ((N:Int)+1)) (IntKind.i64.wrap ((s.size:Int)+1))=_
  rw[x0j (by omega) (by omega),x0j (by omega) (by omega)]
  omega
 have z1:sy.ieq (-1) 0=false:=rfl
 have z2:sy.seq (bs [47]) (bs [])=false:=by rw[u1x,x1l];rfl
 have z3:sy.ilt (-1) 0=true:=rfl
 simp only [z1,z2,z3,cond_true,cond_false,x4h,hc,a1g,y4b,z2p,z9v,hw]
 have z4:sy.mkok ((N+1:Nat):Int) ((N+1:Nat):Int) 16=true:=a1d ⟨rfl,by omega,by omega⟩
 rw[z4,cond_true,y0r]
 have z5:sy.wrap .i64 (sy.sub ((N+1:Nat):Int) 1)=(N:Int):=by
  show IntKind.i64.wrap (((N+1:Nat):Int) - 1)=_
  rw[x0j (by omega) (by omega)];omega
 rw[z5]
 have z6:sy.rep ((N+1:Nat):Int) [D.str (bs [])]=x0e []++List.replicate (N+1) z9f:=by
  rw[u7o,a0h];rfl
 rw[z6]
 refine x5o (fun x:List ByteArray × ByteArray × Nat=>[.str x.2.1, .str (bs [47]), .int .i64 0, .int .i64 (N:Int), .int .i64 (x.1.length:Int), .sl 1 (x0e x.1++List.replicate (x.2.2+1) z9f)])
  (fun x=>x1r 47 (tb s)=x.1.map tb++x1r 47 (tb x.2.1)∧x.2.2=(tb x.2.1).count 47∧x.1.length+x.2.2=N∧x.2.1.size≤100000) (fun x=>(tb x.2.1).length) (fun x hx=> ?_) ([],s,N) ⟨rfl,hN.symm,by simp,hs⟩
 obtain⟨done,rest,k⟩:=x
 obtain⟨h1,hk,h2,h3⟩:=hx
 simp only at h1 hk h2 h3
 have hr:=x1k rest
 have hIr:=hI rest
 rw[h47]at hIr
 have hput:=v3y done k
 have f2:sy.inr (done.length:Int) (sy.rlen (x0e done++List.replicate (k+1) z9f))=true:=a1d (by
  rw[z2o,a0j,x0f,List.length_replicate];omega)
 have f3:sy.inrn (sy.nat (done.length:Int)) (x0e done++List.replicate (k+1) z9f)=true:=a1d (by
  rw[a0j,x0f,List.length_replicate];show(done.length:Int).toNat < _;omega)
 have hw1:sy.wrap .i64 (sy.add (done.length:Int) 1)=((done.length+1:Nat):Int):=by
  show IntKind.i64.wrap ((done.length:Int)+1)=_
  rw[x0j (by omega) (by omega)];rfl
 have hnat:sy.nat (done.length:Int)=done.length:=a0h _
 rcases u0g 47 (tb rest)with⟨hz,hn⟩|⟨j,hz,hn,hj⟩
 ·right
  have hk0:=v5z hn
  rw[hk0]at hk
  subst hk
  have f1:sy.ilt (done.length:Int) (N:Int)=false:=decide_eq_false (by omega)
  have f4:sy.cutok 0 (sy.wrap .i64 (sy.add (done.length:Int) 1)) (sy.rlen (sy.rput (x0e done++List.replicate (0+1) z9f) (sy.nat (done.length:Int)) 0 [.str rest]))=true:=by
   rw[hw1,hnat,hput]
   exact a1d (by rw[z2o,a0j,x0f,a0j];simp;omega)
  apply k4f
  ·repeat' (first|with_reducible exact y7a|with_reducible apply z5e|with_reducible apply y7b|((with_reducible apply w9x);(first|with_reducible exact f1|with_reducible exact f2|with_reducible exact f3|with_reducible exact f4|rfl))|((with_reducible apply w9y);(first|with_reducible exact f1|with_reducible exact f2|with_reducible exact f3|with_reducible exact f4|rfl))|with_reducible apply u8a|with_reducible apply z5d|with_reducible exact z5c|with_reducible apply z5a|with_reducible apply z5b|with_reducible apply z4z|rfl)
  ·refine⟨done++[rest],?_,?_⟩
   ·rw[hw1,hnat,hput]
    show PRes.own 9 1 ((x0e (done++[rest])++List.replicate 0 z9f).take ((done.length+1:Nat):Int).toNat)=_
    rw[List.replicate_zero,a2e,a0h,List.take_of_length_le (by rw[x0f];simp)]
   ·rw[h1,x8j 47 _ (x8b hn)];simp
 ·left
  have hc2:=w5j hn
  have hd:=x6g rest ((j:Int)+1) (rest.size:Int)
  have hd0:=x6g rest 0 (j:Int)
  have e1:((j:Int)+1).toNat=j+1:=by omega
  rw[e1,a0h,←hr,a0x]at hd
  rw[a0h]at hd0
  have hw2:sy.wrap .i64 (sy.add (j:Int) 0)=(j:Int):=by
   show IntKind.i64.wrap ((j:Int)+0)=_
   rw[x0j (by omega) (by omega)];omega
  have hw3:sy.wrap .i64 (sy.add (j:Int) (sy.slen (bs [47])))=(j:Int)+1:=by
   show IntKind.i64.wrap ((j:Int)+1)=_
   rw[x0j (by omega) (by omega)]
  have f1:sy.ilt (done.length:Int) (N:Int)=true:=a1d (by omega)
  have g1:sy.ilt (j:Int) 0=false:=decide_eq_false (show ¬(j:Int) < 0 by omega)
  have g2:sy.cutok 0 (sy.wrap .i64 (sy.add (j:Int) 0)) (sy.slen rest)=true:=by
   rw[hw2];exact a1d (by rw[y6y];omega)
  have g3:sy.cutok (sy.wrap .i64 (sy.add (j:Int) (sy.slen (bs [47])))) (sy.slen rest) (sy.slen rest)=true:=by
   rw[hw3];exact a1d (by rw[y6y];omega)
  rw[hz]at hIr
  obtain⟨k',rfl⟩: ∃k',k=k'+1:=⟨k - 1,by omega⟩
  refine⟨(done++[rest.extract (0:Int).toNat (j:Int).toNat],rest.extract (j+1) (tb rest).length,k'),?_,⟨?_,?_,?_,?_⟩,?_⟩
  ·apply k4g
   ·repeat' (first|with_reducible exact y7a|with_reducible apply z5e|with_reducible apply y7b|((with_reducible apply w9x);(first|with_reducible exact f1|with_reducible exact f2|with_reducible exact f3|with_reducible exact g1|with_reducible exact g2|with_reducible exact g3|rfl))|((with_reducible apply w9y);(first|with_reducible exact f1|with_reducible exact f2|with_reducible exact f3|with_reducible exact g1|with_reducible exact g2|with_reducible exact g3|rfl))|with_reducible apply u8a|with_reducible apply z5d|with_reducible exact z5c|with_reducible apply z5a|with_reducible apply z5b|with_reducible apply z4z|exact hIr|rfl)
   ·rw[hw1,hw2,hw3,hnat,hput]
    simp only [z9l,y6y,e1,a0h,hr,a0j,a2h]
  ·rw[h1]
   simp only [List.map_append,a1r,a2d]
   rw[show(j:Int).toNat=j from a0h j]at*
   rw[hd0,hd]
   obtain⟨i1,i2,i3⟩:=x4b hn
   conv=>lhs;rw[i2,x8k 47 _ _ i3]
   simp
  ·simp only;rw[hd];omega
  ·simp;omega
  ·simp only
   have:=x1k (rest.extract (j+1) (tb rest).length)
   rw[←this,hd,a0z];omega
  ·simp only
   rw[hd,a0z];omega
theorem w6o (s:ByteArray)(hs:s.size≤100000): ∃l:List ByteArray,cF 164 [.d (.str s), .d (.str (bs [47]))]=some (.val [.sl 1 (x0e l)])∧l.map tb=x1r 47 (tb s):=by
 obtain⟨_,h,l,rfl,hl⟩:=u6m s hs
 refine⟨l,?_,hl⟩
 refine cOf (by kernel_rfl) rfl ?_
 rw[w3n]
 simp only [k1l,go1,h]
theorem u2y {s:ByteArray}{l:List ByteArray}(hl:l.map tb=x1r 47 (tb s)): ∀x∈l,x.size≤s.size:=by
 have key: ∀(c:Nat) (t:List Nat),∀p∈x1r c t,p.length≤t.length:=by
  intro c t
  induction t with
  |nil=>intro p hp;simp [x1r]at hp;simp [hp]
  |cons x xs ih=>
   intro p hp
   unfold x1r at hp
   split at hp
   ·rcases a1t.1 hp with rfl|hp
    ·simp
    ·have:=ih p hp;simp;omega
   ·split at hp
    ·simp at hp;simp [hp]
    ·rename_i q qs hq
     rcases a1t.1 hp with rfl|hp
     ·have:=ih q (by rw[hq];exact a1q);simp;omega
     ·have:=ih p (by rw[hq];exact a2f _ hp);simp;omega
 intro x hx
 have:=key 47 (tb s) (tb x) (by rw[←hl];exact List.mem_map_of_mem hx)
 rw[x1k,x1k]at this
 exact this
theorem v9f (s:ByteArray)(hs:s.size≤100000):cF 126 [.d (.str s)]=some (.val [.bool (z5s (tb s))]):=by
 obtain⟨l,h,hl⟩:=w6o s hs
 have hsz:=u2y hl
 have hll:l.length≤100001:=by
  have:=congrArg List.length hl
  rw[a1c,x9y]at this
  have h2:(tb s).count 47≤(tb s).length:=List.count_le_length
  rw[x1k]at h2
  omega
 unfold z5s
 rw[←hl,List.all_map]
 refine cOf (by kernel_rfl) rfl ?_
 rw[w4c]
 simp only [k2a,go1,h,x0f]
 refine x0m (fun i:Nat=>[.sl 1 (x0e l), .int .i64 (l.length:Int), .int .i64 (i:Int)]) (fun i=>i≤l.length∧(l.take i).all (y1g ∘ tb)=true) (fun i=>l.length - i) (fun i hi=> ?_) 0 ⟨a0r _,by simp⟩
 by_cases hlt:i < l.length
 ·have hx:=a0b hlt
  have hp:=q3v l[i] (a1o (hsz _ (a1p hlt)) hs)
  have hgd:l.getD i ByteArray.empty=l[i]:=by rw[a0d,hx];rfl
  simp only [go1,x0f,x0n hlt,x0p hlt,x1v hx,hp,x0c hlt (by omega)]
  cases hb:y1g (tb l[i])with
  |false=>
   right
   rw[y3j (d:=ByteArray.empty) hlt (by rw[hgd];exact hb)]
   simp only [go1]
  |true=>
   left
   refine⟨i+1,?_,⟨hlt,x4e (d:=ByteArray.empty) hlt hi.2 (by rw[hgd];exact hb)⟩,by omega⟩
   simp only [go1];rfl
 ·right
  have:i=l.length:=by omega
  subst this
  simp only [go1,x0h]
  rw[a0x]at hi
  rw[hi.2]
end Go.Vm
end

section
set_option maxRecDepth 100000
set_option maxHeartbeats 4000000
namespace Go.Vm
open Go.Proofs
theorem w6g (s:ByteArray):cF 133 [.d (.str s), .fn 136 []]=some (.val [.bool (x9c x1y (tb s))]):=by
 refine cOf (by kernel_rfl) rfl ?_
 rw[u0r]
 simp only [u3j,go1]
 refine x0m (fun p:Nat=>[.str s, .str s, .int .i64 (p:Int)]) (fun p=>p≤(tb s).length∧((tb s).take p).all x1g=true∧(0 < p→x1y ((tb s).getD 0 0)=true)) (fun p=>(tb s).length - p) (fun p hp=> ?_) 0 ⟨a0r _,by simp,by omega⟩
 obtain⟨hle,hall,hfst⟩:=hp
 by_cases hlt:p < (tb s).length
 ·by_cases hc:(tb s).getD p 0 < 128
  ·obtain⟨e1,e2⟩:=y9f hc
   simp only [go1,x0u,x0n hlt,y3o,y3n,e1,e2,z4a,z4e,y4j,x7z,x8a,x4v]
   have hi:=y2y ((tb s).getD p 0)
   by_cases h0:p=0
   ·subst h0
    cases hs:x1y ((tb s).getD 0 0)with
    |false=>
     right
     rw[x8r hs]
     simp only [go1];rfl
    |true=>
     left
     rw[hs]at hi
     refine⟨0+1,?_,⟨hlt,x4e hlt hall (by rw[hi];simp),fun _=>(by first|rfl|exact hs)⟩,by omega⟩
     cases x2j ((tb s).getD 0 0)<;>simp only [go1]<;>rfl
   ·rw[x1c (p:=(p:Int)=0) (by omega)]
    cases hin:x1g ((tb s).getD p 0)with
    |false=>
     right
     rw[x7x hlt hin]
     rw[hin]at hi
     have hi:=hi.symm
     simp only [Bool.or_eq_false_iff]at hi
     obtain⟨⟨⟨i1,i2⟩,i3⟩,i4⟩:=hi
     have i4': ¬(((tb s).getD p 0:Nat):Int)=95:=by
      have:=of_decide_eq_false i4;omega
     rw[x1c i4']
     simp only [i1,i2,i3,go1]
    |true=>
     left
     refine⟨p+1,?_,⟨hlt,x4e hlt hall hin,fun _=>hfst (by omega)⟩,by omega⟩
     rw[hin]at hi
     cases i1:x2j ((tb s).getD p 0)<;>cases i2:x1y ((tb s).getD p 0)<;>cases i3:x0r ((tb s).getD p 0)<;>rw[i1,i2,i3]at hi<;>simp only [go1]<;>(try rfl)
     all_goals
      simp only [Bool.or_self,a0v]at hi
      have i4:=a0c hi.symm
      rw[x1m (p:=(((tb s).getD p 0:Nat):Int)=95) (by omega)]
      rfl
  ·have hb:=u0z (s:=s) (i:=p) (by omega)
   right
   have hin:x1g ((tb s).getD p 0)=false:=by
    exact z6v (by omega)
   rw[x7x hlt hin]
   have hz: ¬z7y s (p:Int)=95:=by omega
   simp only [go1,x0u,x0n hlt,y3o,y3n,z4a,z4e,y4j,y1k (a:=97) (b:=122) (n:=z7y s (p:Int)) (by omega),y1k (a:=65) (b:=90) (n:=z7y s (p:Int)) (by omega),y1k (a:=48) (b:=57) (n:=z7y s (p:Int)) (by omega)]
   cases decide ((p:Int)=0)
   ·simp only [cond_true,cond_false];simp [hz]
   ·rfl
 ·right
  have:p=(tb s).length:=by omega
  subst this
  simp only [go1,x0u,x0h]
  rw[a0x]at hall
  unfold x9c
  rw[hall,a1v]
  by_cases h0:0 < (tb s).length
  ·rw[hfst h0,a1v]
   by_cases h12:(tb s).length≤12
   ·rw[x1m (p:=1≤((tb s).length:Int)) (by omega),x1m (p:=((tb s).length:Int)≤12) (by omega),x1m (p:=1≤(tb s).length) (by omega),x1m h12]
    first|done|rfl
   ·rw[x1m (p:=1≤((tb s).length:Int)) (by omega),x1c (p:=((tb s).length:Int)≤12) (by omega),x1c h12]
    first|done|rfl|simp
  ·rw[x1c (p:=1≤((tb s).length:Int)) (by omega),x1c (p:=1≤(tb s).length) (by omega)]
   first|done|rfl|simp
theorem z8p (s:ByteArray):cF 97 [.d (.str s)]=some (.val [.bool (y1l (tb s))]):=by
 have:=w6g s
 refine cOf (by kernel_rfl) rfl ?_
 rw[q1v]
 simp only [g97,go1,this]
 rfl
def x2g (c:Nat):Bool:=decide (c=32) || decide (c=9) || decide (c=10) || decide (c=13)
def x3l (c:Nat):Bool:= !decide (c=10)
theorem u3z (n:Nat):cF 78 [.d (.int .u8 (n:Int))]=some (.val [.bool (x2j n)]):=by
 refine cOf (by kernel_rfl) rfl ?_
 rw[q2e]
 simp only [g78,go1]
 rw[←x7z];try rfl
theorem z3y (n:Nat):cF 79 [.d (.int .u8 (n:Int))]=some (.val [.bool (x1y n)]):=by
 refine cOf (by kernel_rfl) rfl ?_
 rw[q2d]
 simp only [g79,go1]
 rw[←x8a];try rfl
theorem z3z (n:Nat):cF 81 [.d (.int .u8 (n:Int))]=some (.val [.bool (x0r n)]):=by
 refine cOf (by kernel_rfl) rfl ?_
 rw[q2b]
 simp only [g81,go1]
 rw[←x4v];try rfl
theorem x2c {p q:Prop} [Decidable p] [Decidable q] (h:p↔q):decide p=decide q:=by
 by_cases hq:q
 ·rw[x1m hq,x1m (h.2 hq)]
 ·rw[x1c hq,x1c (fun hp=>hq (h.1 hp))]
theorem v6g (n:Nat):cF 75 [.d (.int .u8 (n:Int))]=some (.val [.bool (x2g n)]):=by
 refine cOf (by kernel_rfl) rfl ?_
 rw[q2h]
 simp only [g75,go1]
 unfold x2g
 rw[x2c (show(n:Int)=32↔n=32 by omega),x2c (show(n:Int)=9↔n=9 by omega),x2c (show(n:Int)=10↔n=10 by omega),x2c (show(n:Int)=13↔n=13 by omega)]
 (try (cases decide (n=32)<;>cases decide (n=9)<;>cases decide (n=10)<;>cases decide (n=13)<;>rfl))
theorem w5o (n:Nat):cF 77 [.d (.int .u8 (n:Int))]=some (.val [.bool (x3l n)]):=by
 refine cOf (by kernel_rfl) rfl ?_
 rw[q2f]
 simp only [g77,go1]
 rw[x2c (show(n:Int)=10↔n=10 by omega)];try rfl
theorem v6f (n:Nat):cF 122 [.d (.int .u8 (n:Int))]=some (.val [.bool (x1g n)]):=by
 refine cOf (by kernel_rfl) rfl ?_
 rw[w4f]
 simp only [k2d,go1,u3z,z3y,z3z]
 rw[x2c (show(n:Int)=95↔n=95 by omega)]
 unfold x1g
 cases x2j n<;>cases x1y n<;>cases x0r n<;>cases decide (n=95)<;>rfl
def x1e (p:Nat→Bool)(l:List Nat):Nat:=(l.takeWhile p).length
theorem x2o (p:Nat→Bool)(l:List Nat):x1e p l≤l.length:=(List.takeWhile_prefix p).length_le
theorem z0y {p:Nat→Bool}{l:List Nat}{n:Nat}(hn:n≤l.length)(h:(l.take n).all p=true)(hx:n < l.length→p (l.getD n 0)=false):x1e p l=n:=by
 unfold x1e
 have e:l=l.take n++l.drop n:=(a2c n l).symm
 have h1:(l.take n++l.drop n).takeWhile p=l.take n++(l.drop n).takeWhile p:=List.takeWhile_append_of_pos (fun x hx=>a0o.1 h x hx)
 have h2:(l.drop n).takeWhile p= []:=by
  by_cases hlt:n < l.length
  ·rw[List.drop_eq_getElem_cons hlt,List.takeWhile_cons]
   have:=hx hlt
   rw[a0d,a0b hlt]at this
   simp only [Option.getD_some]at this
   rw[this];rfl
  ·rw[List.drop_of_length_le (by omega)];rfl
 rw[←e]at h1
 rw[h1,h2];simp;omega
theorem u4a {f k:Nat}(p:Nat→Bool)(G:ByteArray→Option PRes)
  (hc: ∀n:Nat,cF k [.d (.int .u8 (n:Int))]=some (.val [.bool (p n)])) (s:ByteArray) (hs:s.size≤1000000)
  (hG:G s=x7h (fun ds1=>
   (opS (sy.cell ds1 0)).bind fun s2=>
   (opI (sy.cell ds1 1) .i64).bind fun n3=>
   bif sy.ilt n3 (sy.slen s2)then
    bif sy.inr n3 (sy.slen s2)then
     (cF k [V.d (D.int .u8 (sy.sbyte s2 n3))]).bind fun p4=>
     (opB (sy.cell p4.leaves 0)).bind fun b6=>
     bif b6 then
      some (.inl [(D.str s2),(D.int .i64 (sy.wrap .i64 (sy.add n3 1)))])
     else
      some (.inr (PRes.val [(D.int .i64 n3)]))
    else none
   else
    some (.inr (PRes.val [(D.int .i64 n3)]))) [(D.str s),(D.int .i64 0)]):G s=some (.val [.int .i64 ((x1e p (tb s):Nat):Int)]):=by
 rw[hG]
 refine x0m (fun n:Nat=>[.str s, .int .i64 (n:Int)]) (fun n=>n≤(tb s).length∧((tb s).take n).all p=true) (fun n=>(tb s).length - n) (fun n hn=> ?_) 0 ⟨a0r _,by simp⟩
 obtain⟨hle,hall⟩:=hn
 have hlen:(tb s).length≤1000000:=by rw[x1k];exact hs
 by_cases hlt:n < (tb s).length
 ·have hq:(s.data.getD (n:Int).toNat 0).toNat=(tb s).getD n 0:=by rw[a0h,x3c]
  simp only [go1,x0u,x0n hlt,x0p hlt,hc,hq]
  cases hp:p ((tb s).getD n 0)with
  |true=>
   left
   refine⟨n+1,?_,⟨hlt,x4e hlt hall hp⟩,by omega⟩
   (try simp only [go1])
   rw[x0c hlt (by omega)]
   try rfl
  |false=>
   right
   rw[z0y hle hall (fun _=>hp)]
   (try simp only [go1])
 ·right
  have:n=(tb s).length:=by omega
  subst this
  simp only [go1,x0u,x0h]
  rw[z0y (a0m _) hall (fun h=>absurd h (Nat.lt_irrefl _))]
end Go.Vm
end

section
set_option maxRecDepth 100000
set_option maxHeartbeats 4000000
namespace Go.Vm
open Go.Proofs
theorem v6k (s:ByteArray)(hs:s.size≤1000000):cF 74 [.d (.str s), .fn 75 []]=some (.val [.int .i64 ((x1e x2g (tb s):Nat):Int)]):=
 cOf (by kernel_rfl) rfl ((v0k sy eF s).trans (u4a (f:=0) x2g (fun s=>v8w sy eF s) v6g s hs rfl))
theorem w5p (s:ByteArray)(hs:s.size≤1000000):cF 74 [.d (.str s), .fn 77 []]=some (.val [.int .i64 ((x1e x3l (tb s):Nat):Int)]):=
 cOf (by kernel_rfl) rfl ((v0j sy eF s).trans (u4a (f:=0) x3l (fun s=>v8v sy eF s) w5o s hs rfl))
theorem v6i (s:ByteArray)(hs:s.size≤1000000):cF 74 [.d (.str s), .fn 122 []]=some (.val [.int .i64 ((x1e x1g (tb s):Nat):Int)]):=
 cOf (by kernel_rfl) rfl ((u6a sy eF s).trans (u4a (f:=0) x1g (fun s=>v0l sy eF s) v6f s hs rfl))
theorem v6j (s:ByteArray)(hs:s.size≤1000000):cF 74 [.d (.str s), .fn 81 []]=some (.val [.int .i64 ((x1e x0r (tb s):Nat):Int)]):=
 cOf (by kernel_rfl) rfl ((v0i sy eF s).trans (u4a (f:=0) x0r (fun s=>v8u sy eF s) z3z s hs rfl))
def z3i (m l:List Nat):Bool:=decide (l.take m.length=m)
theorem x5q (s:ByteArray)(a b:Nat):tb (s.extract a b)=((tb s).take b).drop a:=by
 have:=x6g s (a:Int) (b:Int)
 rwa [a0h,a0h]at this
theorem q3z (s m:ByteArray):cF 121 [.d (.str s), .d (.str m)]=some (.val [.bool (z3i (tb m) (tb s))]):=by
 refine cOf (by kernel_rfl) rfl ?_
 rw[w4g]
 simp only [k2e,go1,Int.reduceLE]
 by_cases h:(tb m).length≤(tb s).length
 ·have e:((s.extract (0:Int).toNat ((tb m).length:Int).toNat).toList == m.toList)=z3i (tb m) (tb s):=by
   rw[x1l,x6g]
   unfold z3i
   rw[a0h];rfl
  simp (disch:=omega) only [x0j,x1m,go1,x0u,e]
 ·have e:z3i (tb m) (tb s)=false:=by
   unfold z3i
   refine x1c fun he=>h ?_
   rw[←he,a1k];omega
  rw[e]
  simp (disch:=omega) only [x0j,x1c,go1,x0u]
theorem q4d (s m:ByteArray):cF 76 [.d (.str s), .d (.str m)]=some (.val [.bool (z3i (tb m) (tb s))]):=by
 have:=q3z s m
 refine cOf (by kernel_rfl) rfl ?_
 rw[q2g]
 simp only [g76,go1,this]
theorem u1g (s:ByteArray)(m:UInt8):cF 128 [.d (.str s), .d (.int .u8 ((m.toNat:Nat):Int))]=some (.val [.int .i64 (z9c m.toNat (tb s))]):=by
 have h72:cF 168 [.d (.str s), .d (.int .u8 ((m.toNat:Nat):Int))]=some (.val [.int .i64 (z9c m.toNat (tb s))]):=by
  refine cOf (by kernel_rfl) rfl ?_
  rw[v0p]
  simp only [q7s]
  show some (PRes.val [D.int .i64 (sy.sidx s ((m.toNat:Nat):Int))])=_
  rw[u8c]
 refine cOf (by kernel_rfl) rfl ?_
 rw[w4b]
 simp only [k1z,go1,h72]
def z5l:List Nat:=[45,45]
theorem y6f {l:List Nat}(h:z3i z5l l=true):2≤x1e x3l l:=by
 have:=a0c h
 match l,this with
 |a::b::r,h=>
  simp [z5l]at h
  obtain⟨rfl,rfl⟩:=h
  simp [x1e,x3l]
 | [a],h=>simp [z5l]at h
 | [],h=>simp [z5l]at h
def x5p (l:List Nat):Nat:=
 if h:z3i z5l (l.drop (x1e x2g l))=true then x1e x2g l+x1e x3l (l.drop (x1e x2g l))+x5p (l.drop (x1e x2g l+x1e x3l (l.drop (x1e x2g l))))else x1e x2g l
 termination_by l.length
 decreasing_by
  have h1:=y6f h
  have h2:=x2o x3l (l.drop (x1e x2g l))
  have h3:=x2o x2g l
  simp only [a0z]at h2 ⊢
  omega
theorem z3n: ∀(n:Nat) (l:List Nat),l.length≤n→x5p l≤l.length
 |n,l,hn=>by
  unfold x5p
  split
  ·rename_i h
   have h1:=y6f h
   have h2:=x2o x3l (l.drop (x1e x2g l))
   have h3:=x2o x2g l
   simp only [a0z]at h2
   cases n with
   |zero=>omega
   |succ n=>
    have:=z3n n (l.drop (x1e x2g l+x1e x3l (l.drop (x1e x2g l)))) (by simp only [a0z];omega)
    simp only [a0z]at this
    omega
  ·exact x2o _ _
theorem y6q (s:ByteArray)(n:Nat)(hn:n≤(tb s).length):tb (s.extract (n:Int).toNat ((tb s).length:Int).toNat)=(tb s).drop n:=by
 rw[x6g,a0h,a0h,a0x]
theorem q8h (s:ByteArray)(hs:s.size≤1000000):cF 35 [.d (.str s)]=some (.val [.int .i64 ((x5p (tb s):Nat):Int)]):=by
 refine cOf (by kernel_rfl) rfl ?_
 rw[q2v]
 simp only [g35,go1]
 have hlen:(tb s).length≤1000000:=by rw[x1k];exact hs
 refine x0m (fun n:Nat=>[.str s, .int .i64 (n:Int)]) (fun n=>n≤(tb s).length∧n+x5p ((tb s).drop n)=x5p (tb s)) (fun n=>(tb s).length - n) (fun n hn=> ?_) 0 ⟨a0r _,by simp⟩
 obtain⟨hle,hg⟩:=hn
 have e1:=y6q s n hle
 have z1:(s.extract (n:Int).toNat ((tb s).length:Int).toNat).size≤1000000:=by rw[←x1k,e1];simp;omega
 have k1:=v6k _ z1
 rw[e1]at k1
 generalize hm:x1e x2g ((tb s).drop n)=m at k1
 have hmle:m≤(tb s).length - n:=by have:=x2o x2g ((tb s).drop n);simp only [a0z]at this;omega
 have w1:IntKind.i64.wrap ((n:Int)+(m:Int))=((n+m:Nat):Int):=by rw[x0j (by omega) (by omega)];omega
 have e2:=y6q s (n+m) (by omega)
 have z2:(s.extract ((n+m:Nat):Int).toNat ((tb s).length:Int).toNat).size≤1000000:=by rw[←x1k,e2];simp;omega
 have k2:=q4d (s.extract ((n+m:Nat):Int).toNat ((tb s).length:Int).toNat) (bs [45,45])
 rw[e2]at k2
 have k3:=w5p _ z2
 rw[e2]at k3
 have hd:((tb s).drop n).drop m=(tb s).drop (n+m):=by rw[List.drop_drop]
 have hgn:=x5p.eq_def ((tb s).drop n)
 rw[hm,hd]at hgn
 have hb:z3i (tb (bs [45,45])) ((tb s).drop (n+m))=z3i z5l ((tb s).drop (n+m)):=rfl
 rw[hb]at k2
 simp (disch:=omega) only [x0j,x1m,go1,x0u,k1]
 cases hr:z3i z5l ((tb s).drop (n+m))with
 |false=>
  right
  rw[hr]at hgn
  simp only [Bool.false_eq_true,dite_false]at hgn
  rw[←hg,hgn]
  rw[a1u]at k2
  simp (disch:=omega) only [x0j,go1,k2,hr,a1u]
 |true=>
  left
  rw[hr]at hgn
  simp only [dite_true]at hgn
  have h2:=y6f hr
  have hk:=x2o x3l ((tb s).drop (n+m))
  simp only [a0z]at hk
  generalize hkk:x1e x3l ((tb s).drop (n+m))=k at k3 hgn h2 hk
  have w2:IntKind.i64.wrap (((n+m:Nat):Int)+(k:Int))=((n+m+k:Nat):Int):=by rw[x0j (by omega) (by omega)];omega
  refine⟨n+m+k,?_,⟨by omega,?_⟩,by omega⟩
  ·rw[a1u]at k2 k3
   simp (disch:=omega) only [x0j,go1,k2,hr,k3,a1u]
  ·rw[←hg,hgn,List.drop_drop]
   have:n+(m+k)=n+m+k:=by omega
   rw[this];omega
end Go.Vm
end

section
set_option maxRecDepth 100000
set_option maxHeartbeats 4000000
namespace Go.Vm
open Go.Proofs
structure Tok where
 k:Int
 s:ByteArray
 n:Int
 w:Nat
 ok:Bool
def Tok.r (t:Tok):PRes:= .val [.int .i64 t.k, .str t.s, .int .i64 t.n, .int .i64 0, .int .i64 (t.w:Int), .bool t.ok]
def q1g:Tok:=⟨0,bs [],0,0,false⟩
def y2d (s:ByteArray):Tok:=
 let n:=x1e x1g (tb s)
 let w:=s.extract 0 n
 match x1y ((tb s).getD 0 0)with
 |true=>⟨2,w,0,n,y1l (tb w)⟩
 |false=>⟨1,w,0,n,x7m (tb w) || y0o (tb w)⟩
def x4g (s:ByteArray):Tok:=
 let n:=x1e x0r (tb s)
 let w:=s.extract 0 n
 ⟨3,w,u5h w,n,w9d w&&(!decide ((tb s).getD 0 0=48) || decide (n=1))⟩
def y5o (s:ByteArray):Tok:=match x9d 39 ((tb s).drop 1)with
 |none=>q1g
 |some i=>⟨4,s.extract 1 (i+1),0,i+2,z5s (tb (s.extract 1 (i+1)))⟩
def v9v:List ByteArray:=[bs [58,61],bs [45,62],bs [60,61],bs [62,61],bs [60,62]]
def z8z:List (List Nat):=[[58,61],[45,62],[60,61],[62,61],[60,62]]
def v4t:List UInt8:=[40,41,123,125,91,93,44,59,58,61,60,62,43,45,42,47]
def z5x:List Nat:=[40,41,123,125,91,93,44,59,58,61,60,62,43,45,42,47]
def x4m (s:ByteArray):Tok:=match z8z.contains ((tb s).take 2),z5x.contains ((tb s).getD 0 0)with
 |true,_=>⟨5,s.extract 0 2,0,2,true⟩
 |false,true=>⟨5,s.extract 0 1,0,1,true⟩
 |false,false=>q1g
def x1a (s:ByteArray):Tok:=
 let c:=(tb s).getD 0 0
 match x2j c || x1y c,x0r c,decide (c=39)with
 |true,_,_=>y2d s
 |false,true,_=>x4g s
 |false,false,true=>y5o s
 |false,false,false=>x4m s
theorem y4g (s:ByteArray)(a b:Nat)(hb:b≤(tb s).length)(hab:a≤b):(tb (s.extract a b)).length=b - a:=by rw[x5q];simp;omega
theorem v8z (s:ByteArray)(b i:Nat)(hi:i < b):(tb (s.extract 0 b)).getD i 0=(tb s).getD i 0:=by
 rw[x5q,a2g,a0d,a1m,if_pos hi,a0d]
theorem y0v:(0:Int).toNat=0:=rfl
theorem u7h:(1:Int).toNat=1:=rfl
theorem x8l {p:Nat→Bool}{l:List Nat}(h:p (l.getD 0 0)=true)(hl:0 < l.length):0 < x1e p l:=by
 match l,hl with
 |c::r,_=>
  have h:p c=true:=h
  unfold x1e
  rw[List.takeWhile_cons,h];simp
theorem q3r (s:ByteArray)(hs:s.size≤100000)(h0:0 < (tb s).length)(hc:x1g ((tb s).getD 0 0)=true):cF 80 [.d (.str s)]=some (y2d s).r:=by
 have k1:=v6i s (by omega)
 have hp:=x8l hc h0
 have hle:=x2o x1g (tb s)
 have hlen:(tb s).length≤100000:=by rw[x1k];exact hs
 unfold y2d
 simp only
 generalize hn:x1e x1g (tb s)=n at k1 hp hle
 have hsz:=y4g s 0 n hle (a0r _)
 rw[Nat.sub_zero]at hsz
 have z:(s.extract 0 n).size≤100000:=by rw[←x1k,hsz];omega
 have hat:=v8z s n 0 hp
 have hq:((s.extract 0 n).data.getD (0:Int).toNat 0).toNat=(tb s).getD 0 0:=by rw[y0v,←x3c,hat]
 have k2:=z3y ((tb s).getD 0 0)
 have k3:=z8p (s.extract 0 n)
 have k4:=z4g (s.extract 0 n)
 have k5:=u4g (s.extract 0 n)
 refine cOf (by kernel_rfl) rfl ?_
 rw[q2c]
 simp only [g80,go1,Int.reduceLE,k1]
 simp (disch:=omega) only [x0j,x1m,go1,x0u,y0v,a0h,hsz]
 rw[y0v]at hq
 simp (disch:=omega) only [x0j,go1,hq,k2]
 cases x1y ((tb s).getD 0 0)with
 |true=>
  simp (disch:=omega) only [x0j,go1,k3,Tok.r]
 |false=>
  simp only [go1,k4,Tok.r]
  cases x7m (tb (s.extract 0 n))with
  |true=>simp only [go1];try rfl
  |false=>simp only [go1,k5];try rfl
theorem v2i (s:ByteArray)(hs:s.size≤100000)(h0:0 < (tb s).length)(hc:x0r ((tb s).getD 0 0)=true):cF 82 [.d (.str s)]=some (x4g s).r:=by
 have k1:=v6j s (by omega)
 have hp:=x8l hc h0
 have hle:=x2o x0r (tb s)
 have hlen:(tb s).length≤100000:=by rw[x1k];exact hs
 unfold x4g
 simp only
 generalize hn:x1e x0r (tb s)=n at k1 hp hle
 have hsz:=y4g s 0 n hle (a0r _)
 rw[Nat.sub_zero]at hsz
 have hat:=v8z s n 0 hp
 have hq:((s.extract 0 n).data.getD (0:Int).toNat 0).toNat=(tb s).getD 0 0:=by rw[y0v,←x3c,hat]
 rw[y0v]at hq
 refine cOf (by kernel_rfl) rfl ?_
 rw[q2a]
 simp only [g82,go1,Int.reduceLE,k1]
 simp (disch:=omega) only [x0j,x1m,go1,x0u,y0v,a0h,hsz]
 rw[x2c (show((((s.extract 0 n).data.getD 0 0).toNat:Nat):Int)=48↔(tb s).getD 0 0=48 by omega),x2c (show(n:Int)=1↔n=1 by omega)]
 rfl
theorem w6d (s:ByteArray)(hs:s.size≤100000)(h0:0 < (tb s).length):cF 83 [.d (.str s)]=some (y5o s).r:=by
 have hlen:(tb s).length≤100000:=by rw[x1k];exact hs
 have e1:tb (s.extract 1 (tb s).length)=(tb s).drop 1:=by rw[x5q,a0x]
 have k1:=v2l (s.extract 1 (tb s).length) 39
 rw[e1]at k1
 have h39:(39:UInt8).toNat=39:=rfl
 rw[h39]at k1
 refine cOf (by kernel_rfl) rfl ?_
 rw[q1z]
 simp only [g83,go1,Int.reduceLE]
 simp (disch:=omega) only [x0j,x1m,go1,x0u,u7h,a0h,k1]
 unfold y5o z9c
 cases hi:x9d 39 ((tb s).drop 1)with
 |none=>simp only [go1,Int.reduceLT,Int.reduceAdd];rfl
 |some i=>
  have hlt:=(x4b hi).1
  simp only [a0z]at hlt
  have e2:((i:Int)+1).toNat=i+1:=by omega
  have z:(s.extract 1 (i+1)).size≤100000:=by rw[←x1k,y4g _ _ _ (by omega) (by omega)];omega
  have k2:=v9f (s.extract 1 (i+1)) z
  simp (disch:=omega) only [x0j,x1m,x1c,go1,e2,k2,Tok.r]
  first|rfl|(simp only [a1u];rfl)
end Go.Vm
end

section
set_option maxRecDepth 100000
set_option maxHeartbeats 4000000
namespace Go.Vm
open Go.Proofs
theorem v6w:cF 127 [.d (.str (bs [58,61,32,45,62,32,60,61,32,62,61,32,60,62]))]=some (.val [.sl 1 (x0e v9v)]):=y1w rfl
theorem u7e (i:Nat)(hi:i < 5): ∃m,v9v[i]? =some m∧tb m=z8z.getD i []∧(z8z.getD i []).length=2:=by
 match i,hi with
 |0,_|1,_|2,_|3,_|4,_=>exact⟨_,rfl,rfl,rfl⟩
theorem z4s {x:List Nat}:z8z.contains x=true↔ ∃i,i < 5∧x=z8z.getD i []:=by
 constructor
 ·intro h
  rw[List.contains_iff_mem]at h
  obtain⟨i,hi,he⟩:=List.mem_iff_getElem.1 h
  exact⟨i,hi,by rw[a0d,a0b hi];exact he.symm⟩
 ·rintro⟨i,hi,rfl⟩
  match i,hi with
  |0,_|1,_|2,_|3,_|4,_=>rfl
theorem v5g (c:Nat)(l:List Nat):decide (z9c c l < 0)= !l.contains c:=by
 rcases u0g c l with⟨h,hn⟩|⟨i,h,hs,_⟩
 ·rw[h]
  have: ¬c∈l:=fun hm=>x8b hn c hm rfl
  simp [this]
 ·rw[h]
  have:c∈l:=by
   have e:=(x4b hs).2.1
   rw[e];simp
  simp [this]
theorem w2e (s:ByteArray):(s.data.getD 0 0).toNat=(tb s).getD 0 0:=(x3c s 0).symm
theorem w6h (s:ByteArray)(hs:s.size≤100000)(h0:0 < (tb s).length):cF 84 [.d (.str s)]=some (x4m s).r:=by
 have hlen:(tb s).length≤100000:=by rw[x1k];exact hs
 have k0:=v6w
 refine cOf (by kernel_rfl) rfl ?_
 rw[q1y]
 simp only [g84,go1,Int.reduceLE,k0]
 refine x0m (fun i:Nat=>[.str s, .sl 1 (x0e v9v), .int .i64 (5:Int), .int .i64 (i:Int), .int .i64 0, .str (bs []), .int .i64 0, .int .i64 0]) (fun i=>i≤5∧ ∀j,j < i→(tb s).take 2≠z8z.getD j []) (fun i=>5 - i) (fun i hi=> ?_) 0 ⟨by omega,fun j hj=>by omega⟩
 obtain⟨hle,hno⟩:=hi
 by_cases hlt:i < 5
 ·obtain⟨m,hm,htm,hl2⟩:=u7e i hlt
  have k1:=q4d s m
  rw[htm]at k1
  have hrl:((x0e v9v).length:Int)=5:=rfl
  have hcell:=x1v hm
  have hsm:(tb m).length=2:=by rw[htm];exact hl2
  simp only [go1,z5f hm]
  simp (disch:=omega) only [x0j,x1m,go1,k1,hrl,x0u,hsm]
  cases hh:z3i (z8z.getD i []) (tb s)with
  |true=>
   right
   have he:=a0c hh
   rw[hl2]at he
   have hc:z8z.contains ((tb s).take 2)=true:=z4s.2 ⟨i,hlt,he⟩
   have hx:m=s.extract 0 2:=x8x (by rw[x5q,a2g,he,htm])
   unfold x4m
   rw[hc,←hx]
   rfl
  |false=>
   left
   have he:=of_decide_eq_false hh
   rw[hl2]at he
   exact⟨i+1,by rw[a1u];rfl,⟨by omega,fun j hj=>by
    by_cases e:j=i
    ·subst e;exact he
    ·exact hno j (by omega)⟩,by omega⟩
 ·right
  have:i=5:=by omega
  subst this
  have hc:z8z.contains ((tb s).take 2)=false:=by
   rw[Bool.eq_false_iff]
   intro h
   obtain⟨j,hj,he⟩:=z4s.1 h
   exact hno j hj he
  have k2:=u1g (bs v4t) (s.data.getD 0 0)
  have e1:tb (bs v4t)=z5x:=rfl
  rw[e1]at k2
  have e2:bs v4t=bs [40,41,123,125,91,93,44,59,58,61,60,62,43,45,42,47]:=rfl
  rw[e2]at k2
  have hx:=v5g (s.data.getD 0 0).toNat z5x
  unfold x4m
  rw[hc]
  simp (disch:=omega) only [x0j,x1m,x1c,go1,x0u,k2,hx,y0v,u7h]
  rw[w2e]
  cases z5x.contains ((tb s).getD 0 0)<;>rfl
theorem q3x (s:ByteArray)(hs:s.size≤100000)(h0:0 < (tb s).length):cF 36 [.d (.str s)]=some (x1a s).r:=by
 have hlen:(tb s).length≤100000:=by rw[x1k];exact hs
 have hq:((s.data.getD (0:Int).toNat 0).toNat:Int)=(((tb s).getD 0 0:Nat):Int):=by rw[y0v,w2e]
 have k1:=u3z ((tb s).getD 0 0)
 have k2:=z3y ((tb s).getD 0 0)
 have k3:=z3z ((tb s).getD 0 0)
 have e39:((s.extract (0:Int).toNat (1:Int).toNat).toList == (bs [39]).toList)=decide ((tb s).getD 0 0=39):=by
  rw[x1l,x6g,y0v,u7h]
  refine x2c ?_
  match hl:tb s,h0 with
  |c::r,_=>simp [w9u]
 refine cOf (by kernel_rfl) rfl ?_
 rw[q2u]
 simp only [g36,go1,Int.reduceLE]
 simp (disch:=omega) only [x0j,x1m,go1,x0u,hq,k1,k2,k3,e39]
 have wd:x1g ((tb s).getD 0 0)=true→cF 80 [.d (.str s)]=some (y2d s).r:=fun h=>q3r s hs h0 h
 have nd:x0r ((tb s).getD 0 0)=true→cF 82 [.d (.str s)]=some (x4g s).r:=fun h=>v2i s hs h0 h
 have pd:=w6d s hs h0
 have md:=w6h s hs h0
 cases h1:x2j ((tb s).getD 0 0)with
 |true=>
  have:=wd (by unfold x1g;rw[h1];rfl)
  have e:x1a s=y2d s:=by unfold x1a;simp only [h1,a1i]
  rw[e]
  simp only [go1,this,Tok.r]
 |false=>
  cases h2:x1y ((tb s).getD 0 0)with
  |true=>
   have:=wd (by unfold x1g;rw[h2];simp)
   have e:x1a s=y2d s:=by unfold x1a;simp only [h1,h2,a0v]
   rw[e]
   simp only [go1,this,Tok.r]
  |false=>
   cases h3:x0r ((tb s).getD 0 0)with
   |true=>
    have:=nd h3
    have e:x1a s=x4g s:=by unfold x1a;simp only [h1,h2,h3,a0v]
    rw[e]
    simp only [go1,this,Tok.r]
   |false=>
    cases h4:decide ((tb s).getD 0 0=39)with
    |true=>
     have e:x1a s=y5o s:=by unfold x1a;simp only [h1,h2,h3,h4,a0v]
     rw[e]
     simp only [go1,pd,Tok.r]
    |false=>
     have e:x1a s=x4m s:=by unfold x1a;simp only [h1,h2,h3,h4,a0v]
     rw[e]
     simp only [go1,md,Tok.r]
end Go.Vm
end

section
set_option maxRecDepth 100000
set_option maxHeartbeats 4000000
namespace Go.Vm
open Go.Proofs
theorem u7k (p:Nat→Bool)(l:List Nat):l.take (x1e p l)=l.takeWhile p:=by
 unfold x1e
 exact(List.prefix_iff_eq_take.1 (List.takeWhile_prefix p)).symm
def v3e (l:List Nat)(t:Tok):Prop:=t.ok=true→1≤t.w∧t.w≤l.length∧t.k≠6∧(t.k=4→(tb t.s).length+2=t.w)∧(t.k≠4→tb t.s=l.take t.w)
theorem v3m (s:ByteArray)(h0:0 < (tb s).length)(hc:x1g ((tb s).getD 0 0)=true):v3e (tb s) (y2d s):=by
 have hp:=x8l hc h0
 have hle:=x2o x1g (tb s)
 intro _
 unfold y2d
 simp only
 split
 ·exact⟨hp,hle,(by decide:(2:Int)≠6),fun h=>absurd (show(2:Int)=4 from h) (by decide),fun _=>by rw[x5q,a2g]⟩
 ·exact⟨hp,hle,(by decide:(1:Int)≠6),fun h=>absurd (show(1:Int)=4 from h) (by decide),fun _=>by rw[x5q,a2g]⟩
theorem u5l (s:ByteArray)(h0:0 < (tb s).length)(hc:x0r ((tb s).getD 0 0)=true):v3e (tb s) (x4g s):=by
 have hp:=x8l hc h0
 have hle:=x2o x0r (tb s)
 intro _
 exact⟨hp,hle,(by decide:(3:Int)≠6),fun h=>absurd (show(3:Int)=4 from h) (by decide),fun _=>by show tb (s.extract 0 _)=_;rw[x5q,a2g];rfl⟩
theorem v4j (s:ByteArray)(h0:0 < (tb s).length):v3e (tb s) (y5o s):=by
 intro h
 unfold y5o at h ⊢
 cases hi:x9d 39 ((tb s).drop 1)with
 |none=>rw[hi]at h;cases h
 |some i=>
  have hlt:=(x4b hi).1
  simp only [a0z]at hlt
  refine⟨by show 1≤i+2;omega,by show i+2≤_;omega,(by decide:(4:Int)≠6),fun _=> ?_,fun h=>absurd rfl h⟩
  show(tb (s.extract 1 (i+1))).length+2=i+2
  rw[y4g _ _ _ (by omega) (by omega)];omega
theorem u2z (s:ByteArray)(h0:0 < (tb s).length):v3e (tb s) (x4m s):=by
 intro h
 unfold x4m at h ⊢
 cases h1:z8z.contains ((tb s).take 2)with
 |true=>
  obtain⟨i,hi,he⟩:=z4s.1 h1
  have hl:((tb s).take 2).length=2:=by
   obtain⟨m,_,_,h2⟩:=u7e i hi
   rw[he,h2]
  rw[a1k]at hl
  exact⟨by show 1≤2;decide,by show 2≤_;omega,(by decide:(5:Int)≠6),fun h=>absurd (show(5:Int)=4 from h) (by decide),fun _=>by show tb (s.extract 0 2)=_;rw[x5q,a2g]⟩
 |false=>
  cases h2:z5x.contains ((tb s).getD 0 0)with
  |true=>exact⟨by show 1≤1;decide,by show 1≤_;omega,(by decide:(5:Int)≠6),fun h=>absurd (show(5:Int)=4 from h) (by decide),fun _=>by show tb (s.extract 0 1)=_;rw[x5q,a2g]⟩
  |false=>rw[h1,h2]at h;cases h
theorem z6g (s:ByteArray):(x1a s=y2d s∧x1g ((tb s).getD 0 0)=true)∨(x1a s=x4g s∧x0r ((tb s).getD 0 0)=true)∨x1a s=y5o s∨x1a s=x4m s:=by
 cases h1:x2j ((tb s).getD 0 0)with
 |true=>exact .inl ⟨by unfold x1a;simp only [h1,a1i],by unfold x1g;rw[h1];rfl⟩
 |false=>
  cases h2:x1y ((tb s).getD 0 0)with
  |true=>exact .inl ⟨by unfold x1a;simp only [h1,h2,a0v],by unfold x1g;rw[h2];simp⟩
  |false=>
   cases h3:x0r ((tb s).getD 0 0)with
   |true=>exact .inr (.inl ⟨by unfold x1a;simp only [h1,h2,h3,a0v],rfl⟩)
   |false=>
    cases h4:decide ((tb s).getD 0 0=39)with
    |true=>exact .inr (.inr (.inl (by unfold x1a;simp only [h1,h2,h3,h4,a0v])))
    |false=>exact .inr (.inr (.inr (by unfold x1a;simp only [h1,h2,h3,h4,a0v])))
theorem z6f (s:ByteArray)(h0:0 < (tb s).length):v3e (tb s) (x1a s):=by
 rcases z6g s with⟨h,hc⟩|⟨h,hc⟩|h|h<;>rw[h]
 ·exact v3m s h0 hc
 ·exact u5l s h0 hc
 ·exact v4j s h0
 ·exact u2z s h0
structure Tk where
 k:Int
 s:ByteArray
 n:Int
 a:Nat
def x3b (t:Tk):List D:=[.int .i64 t.k, .str t.s, .int .i64 t.n, .int .i64 (t.a:Int)]
def x0a (l:List Tk):LL:=l.map x3b
theorem x7o (a b:List Tk):x0a a++x0a b=x0a (a++b):=by simp [x0a]
theorem x3w (l:List Tk):(x0a l).length=l.length:=by simp [x0a]
def y4z (s:ByteArray)(a:Nat):List Tk × Nat × Bool:=
 if hp:a+x5p ((tb s).drop a) < (tb s).length then
   if h:(x1a (s.extract (a+x5p ((tb s).drop a)) (tb s).length)).ok=true∧1≤(x1a (s.extract (a+x5p ((tb s).drop a)) (tb s).length)).w then
     (⟨(x1a (s.extract (a+x5p ((tb s).drop a)) (tb s).length)).k,(x1a (s.extract (a+x5p ((tb s).drop a)) (tb s).length)).s,(x1a (s.extract (a+x5p ((tb s).drop a)) (tb s).length)).n,a+x5p ((tb s).drop a)⟩::
       (y4z s (a+x5p ((tb s).drop a)+(x1a (s.extract (a+x5p ((tb s).drop a)) (tb s).length)).w)).1,(y4z s (a+x5p ((tb s).drop a)+(x1a (s.extract (a+x5p ((tb s).drop a)) (tb s).length)).w)).2)
   else([],a+x5p ((tb s).drop a),false)
 else([],a+x5p ((tb s).drop a),true)
 termination_by (tb s).length - a
 decreasing_by all_goals omega
def q7u (s:ByteArray):Tk:=⟨6,bs [],0,(tb s).length⟩
def w9p (s:ByteArray)(most:Int):PRes:=match decide (most < ((tb s).length:Int)),(y4z s 0).2.2 with
 |true,_=> .val [.sl 4 [], .int .i64 most, .int .i64 3]
 |false,true=> .val [.sl 4 (x0a ((y4z s 0).1++[q7u s])), .int .i64 ((tb s).length:Int), .int .i64 0]
 |false,false=> .val [.sl 4 [], .int .i64 ((y4z s 0).2.1:Int), .int .i64 2]
theorem q8m (s:ByteArray)(most:Int)(hs:s.size≤100000):cF 14 [.d (.str s), .d (.int .i64 most)]=some (w9p s most):=by
 have hlen:(tb s).length≤100000:=by rw[x1k];exact hs
 refine cOf (by kernel_rfl) rfl ?_
 rw[q3f]
 simp only [g14,go1,Nat.reduceAdd]
 unfold w9p
 rw[x0u]
 cases hm:decide (most < ((tb s).length:Int))with
 |true=>simp only [go1]
 |false=>
  simp only [go1]
  refine x0m (fun x:Nat × List Tk=>[.str s, .int .i64 (x.1:Int), .sl 4 (x0a x.2)]) (fun x=>x.1≤(tb s).length∧x.2.length≤x.1∧y4z s 0=(x.2++(y4z s x.1).1,(y4z s x.1).2)) (fun x=>(tb s).length - x.1) (fun x hx=> ?_) (0,[]) ⟨a0r _,a0m _,by simp⟩
  obtain⟨a,acc⟩:=x
  obtain⟨h1,h2,h3⟩:=hx
  simp only at h1 h2 h3
  have e1:=y6q s a h1
  have z1:(s.extract (a:Int).toNat ((tb s).length:Int).toNat).size≤1000000:=by rw[←x1k,e1];simp;omega
  have k1:=q8h _ z1
  rw[e1]at k1
  have hg:=z3n _ _ (a0m ((tb s).drop a).length)
  simp only [a0z]at hg
  have heq:=y4z.eq_def s a
  generalize x5p ((tb s).drop a)=g at k1 hg heq
  have w1:IntKind.i64.wrap ((a:Int)+(g:Int))=((a+g:Nat):Int):=by rw[x0j (by omega) (by omega)];omega
  have e2:=y6q s (a+g) (by omega)
  rw[a0h,a0h]at e2
  have z2:(s.extract (a+g) (tb s).length).size≤100000:=by rw[←x1k,e2];simp;omega
  have hal:(x0a acc).length=acc.length:=x3w acc
  simp only [go1,x0u]
  simp (disch:=omega) only [x0j,x1m,go1,k1,w1]
  by_cases hp:a+g < (tb s).length
  ·rw[dif_pos hp]at heq
   have hpos:0 < (tb (s.extract (a+g) (tb s).length)).length:=by rw[e2];simp;omega
   have k2:=q3x (s.extract (a+g) (tb s).length) z2 hpos
   have hok:=z6f (s.extract (a+g) (tb s).length) hpos
   generalize x1a (s.extract (a+g) (tb s).length)=t at k2 hok heq
   rw[e2]at hok
   have i1:((a:Int)+(g:Int)).toNat=a+g:=by omega
   simp (disch:=omega) only [x0j,x1c,go1,a0h,k2,Tok.r]
   cases hb:t.ok with
   |false=>
    right
    rw[dif_neg (by rw[hb];simp)]at heq
    rw[h3,heq]
    simp only [go1,a1u]
   |true=>
    left
    obtain⟨q1,q2,_⟩:=hok hb
    simp only [a0z]at q2
    rw[dif_pos ⟨hb,q1⟩]at heq
    have w2:IntKind.i64.wrap ((a:Int)+(g:Int)+(t.w:Int))=((a+g+t.w:Nat):Int):=by rw[x0j (by omega) (by omega)];omega
    refine⟨(a+g+t.w,acc++[⟨t.k,t.s,t.n,a+g⟩]),?_,⟨by simp only;omega,by simp;omega,?_⟩,by simp only;omega⟩
    ·simp (disch:=omega) only [x0j,x1m,go1,hal,a2h]
     rw[←x7o]
     simp only [go1,a1u]
     rfl
    ·rw[h3,heq];simp
  ·right
   rw[dif_neg hp]at heq
   have hpe:a+g=(tb s).length:=by omega
   rw[h3,heq,←x7o,←x7o]
   simp (disch:=omega) only [x0j,x1m,go1,hal,a2h]
   rw[show x0a ([]:List Tk)= []from rfl,a2e]
   rfl
end Go.Vm
end
