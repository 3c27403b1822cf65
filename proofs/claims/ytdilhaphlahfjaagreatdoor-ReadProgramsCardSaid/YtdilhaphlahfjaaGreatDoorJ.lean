/-
  Part J of the proof. What is proved by the whole: the statement that the claim names, with no condition. This part: lemmas.
-/
import Derived.Test.YtdilhaphlahfjaaGreatDoorI
set_option linter.all false

section
set_option maxRecDepth 100000
set_option maxHeartbeats 4000000
namespace Go.Vm
open Go.Proofs
theorem v9q {n:Int}(h1:0≤n)(h2:n≤255):IntKind.u8.wrap n=n:=by
 unfold IntKind.wrap
 simp only [IntKind.bits,IntKind.signed]
 simp
 omega
theorem y2c {n:Int}(h1:0≤n)(h2:n≤18446744073709551615):IntKind.u64.wrap n=n:=by
 unfold IntKind.wrap
 simp only [IntKind.bits,IntKind.signed]
 simp
 omega
theorem z4q: ∀(l:List Nat) (n c:Nat),y0u n (l++[c])=y0u n l*10+(c - 48)
 | [],_,_=>rfl
 |x::r,n,c=>z4q r (n*10+(x - 48)) c
theorem u1u: ∀(l r:List Nat) (n:Nat),y0u n (l++r)=y0u (y0u n l) r
 | [],_,_=>rfl
 |x::l,r,n=>u1u l r (n*10+(x - 48))
def q5k (s:ByteArray)(a:Nat):PRes:=
 let m:=x1e x0r ((tb s).drop a)
 match decide (y0u 0 (((tb s).drop a).take m) < 9223372036854775808)&&(!decide ((tb s).getD a 0=48) || decide (m=1))with
 |true=> .val [.int .i64 3, .str (s.extract a (a+m)), .int .i64 (y0u 0 (((tb s).drop a).take m):Int), .int .i64 (a:Int), .bool true]
 |false=> .val [.int .i64 0, .str (bs []), .int .i64 0, .int .i64 0, .bool false]
theorem u4b (n a b:Nat):cF 105 [.d (.int .u8 (n:Int)), .d (.int .u8 (a:Int)), .d (.int .u8 (b:Int))]=some (.val [.bool (decide (a≤n)&&decide (n≤b))]):=by
 refine cOf (by kernel_rfl) rfl ?_
 rw[w4q]
 simp only [k2o,go1]
 rw[x2c (show(a:Int)≤(n:Int)↔a≤n by omega),x2c (show(n:Int)≤(b:Int)↔n≤b by omega)]
def mkN (s:ByteArray)(a x:Nat):List D:=[.str s, .int .i64 (a:Int), .int .u64 ((y0u 0 (((tb s).drop a).take x):Nat):Int), .int .i64 ((a+x:Nat):Int), .int .i64 0, .str (bs []), .int .i64 0, .int .i64 0]
theorem z9n {p:Nat→Bool}: ∀(l:List Nat) (i:Nat),i < x1e p l→p (l.getD i 0)=true
 | [],i,h=>by simp [x1e]at h
 |c::r,i,h=>by
  cases hc:p c with
  |false=>rw[y0a hc]at h;omega
  |true=>
   rw[x9z hc]at h
   cases i with
   |zero=>exact hc
   |succ i=>exact z9n r i (by omega)
theorem z2q {p:Nat→Bool}: ∀(l:List Nat),x1e p l < l.length→p (l.getD (x1e p l) 0)=false
 | [],h=>by simp at h
 |c::r,h=>by
  cases hc:p c with
  |false=>rw[y0a hc];exact hc
  |true=>
   rw[x9z hc]at h ⊢
   have:=z2q (p:=p) r (by simp at h;omega)
   rw[Nat.add_comm]
   exact this
theorem x8e (l:List Nat)(a i:Nat):(l.drop a).getD i 0=l.getD (a+i) 0:=by
 rw[a0d,a1n,a0d]
theorem z4u (l:List Nat)(x:Nat)(h:x < l.length):l.take (x+1)=l.take x++[l.getD x 0]:=by
 rw[a1f,a0b h,a0d,a0b h];rfl
theorem w6t:0 < 9223372036854775808:=by decide
theorem v2b (s:ByteArray)(hs:s.size≤100000)(a:Nat)(ha:a < (tb s).length)(hda:x0r ((tb s).getD a 0)=true):cF 106 [.d (.str s), .d (.int .i64 (a:Int))]=some (q5k s a):=by
 have hlen:(tb s).length≤100000:=by rw[x1k];exact hs
 have hmle:=x2o x0r ((tb s).drop a)
 have hpos:0 < x1e x0r ((tb s).drop a):=x8l (by rw[x8e];exact hda) (by rw[a0z];omega)
 have hdg:=z9n (p:=x0r) ((tb s).drop a)
 have hnd:=z2q (p:=x0r) ((tb s).drop a)
 rw[a0z]at hmle hnd
 simp only [x8e]at hdg hnd
 refine cOf (by kernel_rfl) rfl ?_
 rw[w4p]
 simp only [k2n,go1,Int.reduceEq]
 unfold q5k
 simp only
 generalize x1e x0r ((tb s).drop a)=m at*
 have em:([D.str s,D.int .i64 (a:Int),D.int .u64 0,D.int .i64 (a:Int),D.int .i64 0,D.str (bs []),D.int .i64 0,D.int .i64 0]:List D)=mkN s a 0:=by
  unfold mkN
  rw[List.take_zero,show y0u 0 []=0 from rfl,Nat.add_zero];rfl
 rw[em]
 refine x0m (mkN s a) (fun x=>x≤m∧y0u 0 (((tb s).drop a).take x) < 9223372036854775808∧(2≤x→(tb s).getD a 0≠48)) (fun x=>m - x) (fun x hx=> ?_) 0 ?h0
 case h0=>
  have e0:y0u 0 (((tb s).drop a).take 0)=0:=rfl
  exact And.intro (a0r m) (And.intro (Nat.lt_of_le_of_lt (Nat.le_of_eq e0) w6t) (fun h=>absurd h (by decide)))
 obtain⟨hxm,hv,hz⟩:=hx
 have hqa:((s.data.getD ((a:Int)).toNat 0).toNat:Int)=(((tb s).getD a 0:Nat):Int):=by rw[a0h,x3c]
 have hq:((s.data.getD (((a+x:Nat):Int)).toNat 0).toNat:Int)=(((tb s).getD (a+x) 0:Nat):Int):=by rw[a0h,x3c]
 have hc:=u4b ((tb s).getD (a+x) 0) 48 57
 have e48:((48:Nat):Int)=48:=rfl
 have e57:((57:Nat):Int)=57:=rfl
 rw[e48,e57]at hc
 by_cases hlt:x < m
 ·have hdx:=hdg x hlt
  have hbd:48≤(tb s).getD (a+x) 0∧(tb s).getD (a+x) 0≤57:=by
   unfold x0r at hdx
   simpa using hdx
  have hsn:y0u 0 (((tb s).drop a).take (x+1))=y0u 0 (((tb s).drop a).take x)*10+((tb s).getD (a+x) 0 - 48):=by
   rw[z4u _ _ (by rw[a0z];omega),z4q,x8e]
  have hge:y0u 0 (((tb s).drop a).take (x+1))≤y0u 0 (((tb s).drop a).take m):=by
   have e:((tb s).drop a).take m=((tb s).drop a).take (x+1)++(((tb s).drop a).drop (x+1)).take (m - (x+1)):=by
    rw[←List.take_add];congr 1;omega
   rw[e,u1u]
   exact z9i _ _
  unfold mkN
  generalize hvv:y0u 0 (((tb s).drop a).take x)=v at*
  generalize hcc:(tb s).getD (a+x) 0=c at*
  have q1:IntKind.u8.wrap ((c:Int) - 48)=(c:Int) - 48:=v9q (by omega) (by omega)
  have q2:IntKind.u64.wrap ((c:Int) - 48)=(c:Int) - 48:=y2c (by omega) (by omega)
  have q3:IntKind.u64.wrap (9223372036854775807 - ((c:Int) - 48))=9223372036854775807 - ((c:Int) - 48):=y2c (by omega) (by omega)
  have q4:sy.quo (9223372036854775807 - ((c:Int) - 48)) 10=(9223372036854775807 - ((c:Int) - 48)) / 10:=by
   rw[w9w];exact Int.tdiv_eq_ediv_of_nonneg (by omega)
  have q5:IntKind.u64.wrap ((9223372036854775807 - ((c:Int) - 48)) / 10)=(9223372036854775807 - ((c:Int) - 48)) / 10:=y2c (by omega) (by omega)
  have hc2:(decide (48≤c)&&decide (c≤57))=true:=by rw[x1m hbd.1,x1m hbd.2];rfl
  rw[hc2]at hc
  simp only [go1]
  simp (disch:=omega) only [x0j,x1m,go1,x0u,hq,hqa,hc,q1,q2,q3,q4,q5]
  rw[x2c (show(((tb s).getD a 0:Nat):Int)=48↔(tb s).getD a 0=48 by omega),x2c (show(a:Int) < ((a+x:Nat):Int)↔0 < x by omega)]
  by_cases h1:v*10+(c - 48) < 9223372036854775808
  ·rw[x1c (p:=(9223372036854775807 - ((c:Int) - 48)) / 10 < (v:Int)) (by omega)]
   by_cases h2:0 < x∧(tb s).getD a 0=48
   ·right
    rw[x1m h2.1,x1m h2.2,x1c (p:=m=1) (by omega)]
    cases decide (y0u 0 (((tb s).drop a).take m) < 9223372036854775808)<;>rfl
   ·left
    have hb:(false || decide (0 < x)&&decide ((tb s).getD a 0=48))=false:=by
     rw[a0v,Bool.eq_false_iff]
     intro h
     rw[a0p,a0t,a0t]at h
     exact h2 h
    rw[hb]
    have w1:IntKind.u64.wrap ((v:Int)*10)=(v:Int)*10:=y2c (by omega) (by omega)
    have w2:IntKind.u64.wrap ((v:Int)*10+((c:Int) - 48))=((v*10+(c - 48):Nat):Int):=by rw[y2c (by omega) (by omega)];omega
    refine⟨x+1,?_,⟨by omega,by rw[hsn];exact h1,fun h h48=>h2 ⟨by omega,h48⟩⟩,by omega⟩
    have e9:((a+x:Nat):Int)+1=((a+(x+1):Nat):Int):=by omega
    rw[w1,w2,hsn,e9]
    rfl
  ·right
   rw[x1m (p:=(9223372036854775807 - ((c:Int) - 48)) / 10 < (v:Int)) (by omega)]
   rw[x1c (p:=y0u 0 (((tb s).drop a).take m) < 9223372036854775808) (by omega)]
   rfl
 ·right
  have:x=m:=by omega
  subst this
  have e9:(((a+x:Nat):Int)).toNat=a+x:=a0h _
  have e8:((a:Int)).toNat=a:=a0h _
  have hsp:(decide (y0u 0 (((tb s).drop a).take x) < 9223372036854775808)&&(!decide ((tb s).getD a 0=48) || decide (x=1)))=true:=by
   rw[x1m hv,a1y]
   by_cases h:(tb s).getD a 0=48
   ·rw[x1m (p:=x=1) (by
     by_cases h2:2≤x
     ·exact absurd h (hz h2)
     ·omega)];simp
   ·rw[x1c h];rfl
  rw[hsp]
  unfold mkN
  generalize y0u 0 (((tb s).drop a).take x)=v at*
  by_cases hend:a+x < (tb s).length
  ·have hnd':=hnd (by omega)
   have hc2:(decide (48≤(tb s).getD (a+x) 0)&&decide ((tb s).getD (a+x) 0≤57))=false:=by
    unfold x0r at hnd';exact hnd'
   rw[hc2]at hc
   have hq2:((s.data.getD (a+x) 0).toNat:Int)=(((tb s).getD (a+x) 0:Nat):Int):=by rw[x3c]
   simp only [go1]
   simp (disch:=omega) only [x0j,x1m,go1,x0u,hq2,hc,e9,e8]
  ·simp only [go1]
   simp (disch:=omega) only [x0j,x1m,x1c,go1,x0u,e9,e8]
end Go.Vm
end

section
set_option maxRecDepth 100000
set_option maxHeartbeats 4000000
namespace Go.Vm
open Go.Proofs
def v8f (k:Int)(s:ByteArray)(n p w:Int)(ok:Bool):PRes:= .val [.int .i64 k, .str s, .int .i64 n, .int .i64 p, .int .i64 w, .bool ok]
theorem y3m (s:ByteArray)(a:Nat):tb (s.extract a (tb s).length)=(tb s).drop a:=by rw[x5q,a0x]
theorem u0x (s:ByteArray)(a i j:Nat)(h:a+j≤(tb s).length):(s.extract a (tb s).length).extract i j=s.extract (a+i) (a+j):=by
 apply x8x
 rw[x5q,y3m,x5q,←List.drop_drop,List.take_drop]
theorem v5f {c x:Nat}{r:List Nat}(h:x≠c):x9d c (x::r)=(x9d c r).map (· +1):=by
 rw[x9d,if_neg h]
 try (cases x9d c r<;>rfl)
theorem w5r (s:ByteArray)(hs:s.size≤100000)(a:Nat)(ha:a < (tb s).length):cF 104 [.d (.str s), .d (.int .i64 (a:Int))]=some (match x9d 39 ((tb s).drop (a+1))with
  |none=>v8f 0 (bs []) 0 0 (a:Int) false
  |some j=>v8f 4 (s.extract (a+1) (a+1+j)) 0 (a:Int) ((a+1+j+1:Nat):Int) (z5s (tb (s.extract (a+1) (a+1+j))))):=by
 have hlen:(tb s).length≤100000:=by rw[x1k];exact hs
 have e1:IntKind.i64.wrap ((a:Int)+1)=((a+1+0:Nat):Int):=by rw[x0j (by omega) (by omega)];omega
 refine cOf (by kernel_rfl) rfl ?_
 rw[w4r]
 simp only [k2p,go1,e1]
 refine x0m (fun x:Nat=>[.str s, .int .i64 (a:Int), .int .i64 ((a+1+x:Nat):Int), .int .i64 0, .str (bs []), .int .i64 0, .int .i64 0])
  (fun x=>a+1+x≤(tb s).length∧x9d 39 ((tb s).drop (a+1))=(x9d 39 ((tb s).drop (a+1+x))).map (· +x)) (fun x=>(tb s).length - x) (fun x hx=> ?_) 0 ⟨by omega,by rw[Nat.add_zero];cases x9d 39 ((tb s).drop (a+1))<;>rfl⟩
 obtain⟨hle,hi⟩:=hx
 by_cases hlt:a+1+x < (tb s).length
 ·have hq:((s.data.getD (((a+1+x:Nat):Int)).toNat 0).toNat:Int)=(((tb s).getD (a+1+x) 0:Nat):Int):=by rw[a0h,x3c]
  have hd:=y9d hlt
  simp only [go1]
  simp (disch:=omega) only [x0j,x1m,go1,x0u,hq]
  rw[x2c (show(((tb s).getD (a+1+x) 0:Nat):Int)=39↔(tb s).getD (a+1+x) 0=39 by omega)]
  by_cases h39:(tb s).getD (a+1+x) 0=39
  ·right
   rw[x1m h39]
   have hj:x9d 39 ((tb s).drop (a+1))=some x:=by
    rw[hi,hd,h39,x9d,if_pos rfl];simp
   have e2:((a:Int)+1).toNat=a+1:=by omega
   have e3:(((a+1+x:Nat):Int)).toNat=a+1+x:=a0h _
   have z:(s.extract (a+1) (a+1+x)).size≤100000:=by rw[←x1k,y4g _ _ _ (by omega) (by omega)];omega
   have k:=v2f _ z
   rw[hj]
   simp (disch:=omega) only [x0j,go1,e2,e3,k]
   rw[a1u (a+1+x) 1];rfl
  ·left
   rw[x1c h39]
   refine⟨x+1,?_,⟨by omega,?_⟩,by omega⟩
   ·have:((a+1+x:Nat):Int)+1=((a+1+(x+1):Nat):Int):=by omega
    rw[this];rfl
   ·rw[hi,hd,v5f h39]
    have:a+1+x+1=a+1+(x+1):=by omega
    rw[this]
    cases x9d 39 ((tb s).drop (a+1+(x+1)))with
    |none=>rfl
    |some j=>simp;omega
 ·right
  have:(tb s).length=a+1+x:=by omega
  have ed:(tb s).drop (a+1+x)= []:=List.drop_of_length_le (by omega)
  rw[ed]at hi
  rw[hi,show x9d 39 []=none from rfl]
  simp only [go1]
  simp (disch:=omega) only [x0j,x1m,x1c,go1,x0u]
  rfl
theorem w5u (t:ByteArray)(hs:t.size≤100000)(h0:0 < (tb t).length):cF 109 [.d (.str t)]=some (.val [.str (match (x4m t).ok with
  |true=>(x4m t).s
  |false=>bs [])]):=by
 have hlen:(tb t).length≤100000:=by rw[x1k];exact hs
 refine cOf (by kernel_rfl) rfl ?_
 rw[w4m]
 simp only [k2k,go1,Int.reduceLE]
 refine x0m (fun i:Nat=>[.str t, .int .i64 (i:Int), .sl 1 (x0e v9v)]) (fun i=>i≤5∧ ∀j,j < i→(tb t).take 2≠z8z.getD j []) (fun i=>5 - i) (fun i hi=> ?_) 0 ⟨by omega,fun j hj=>by omega⟩
 obtain⟨hle,hno⟩:=hi
 have hrl:((x0e v9v).length:Int)=5:=rfl
 by_cases hlt:i < 5
 ·obtain⟨m,hm,htm,hl2⟩:=u7e i hlt
  have hrow:sy.rown (x0e v9v) i= [.str m]:=by
   rw[u7n,a0d]
   unfold x0e
   rw[a0l,hm];rfl
  by_cases h2:2≤(tb t).length
  ·have e:((t.extract (0:Int).toNat (2:Int).toNat).toList == m.toList)=decide ((tb t).take 2=z8z.getD i []):=by
    rw[x1l,x6g,htm];rfl
   simp only [go1]
   simp (disch:=omega) only [x0j,x1m,go1,x0u,hrl,a0h,hrow,e]
   cases hh:decide ((tb t).take 2=z8z.getD i [])with
   |true=>
    right
    have he:=a0c hh
    have hc:z8z.contains ((tb t).take 2)=true:=z4s.2 ⟨i,hlt,he⟩
    have hx:m=t.extract 0 2:=x8x (by rw[x5q,a2g,he,htm])
    unfold x4m
    rw[hc,←hx]
    rfl
   |false=>
    left
    have he:=of_decide_eq_false hh
    exact⟨i+1,by rw[a1u];rfl,⟨by omega,fun j hj=>by
     by_cases e:j=i
     ·subst e;exact he
     ·exact hno j (by omega)⟩,by omega⟩
  ·left
   simp only [go1]
   simp (disch:=omega) only [x0j,x1m,x1c,go1,x0u,hrl]
   have he:(tb t).take 2≠z8z.getD i []:=fun h=>by
    have:=congrArg List.length h
    rw[hl2,a1k]at this
    omega
   exact⟨i+1,by rw[a1u];rfl,⟨by omega,fun j hj=>by
    by_cases e:j=i
    ·subst e;exact he
    ·exact hno j (by omega)⟩,by omega⟩
 ·right
  have:i=5:=by omega
  subst this
  have hc:z8z.contains ((tb t).take 2)=false:=by
   rw[Bool.eq_false_iff]
   intro h
   obtain⟨j,hj,he⟩:=z4s.1 h
   exact hno j hj he
  simp only [go1]
  simp (disch:=omega) only [x0j,x1c,go1,hrl]
  have ho:bs [40,41,123,125,91,93,44,59,58,61,60,62,43,45,42,47]=bs v4t:=rfl
  rw[ho]
  have hol:((tb (bs v4t)).length:Int)=16:=rfl
  have htb:tb (bs v4t)=z5x:=rfl
  refine x0m (fun i:Nat=>[.str t, .str (bs v4t), .int .i64 (i:Int)]) (fun i=>i≤16∧ ∀j,j < i→(tb t).getD 0 0≠z5x.getD j 0) (fun i=>16 - i) (fun i hi=> ?_) 0 ⟨by omega,fun j hj=>by omega⟩
  obtain⟨hle,hno⟩:=hi
  by_cases hlt:i < 16
  ·have hq:((t.data.getD (0:Int).toNat 0).toNat:Int)=(((tb t).getD 0 0:Nat):Int):=by rw[y0v,w2e]
   have hq2:(((bs v4t).data.getD ((i:Nat):Int).toNat 0).toNat:Int)=((z5x.getD i 0:Nat):Int):=by rw[a0h,←htb,x3c]
   simp only [go1]
   simp (disch:=omega) only [x0j,x1m,go1,x0u,hol,hq,hq2]
   rw[x2c (show(((tb t).getD 0 0:Nat):Int)=((z5x.getD i 0:Nat):Int)↔(tb t).getD 0 0=z5x.getD i 0 by omega)]
   by_cases he:(tb t).getD 0 0=z5x.getD i 0
   ·right
    rw[x1m he]
    have hin:z5x.contains ((tb t).getD 0 0)=true:=by
     rw[he,List.contains_iff_mem,a0d,a0b (show i < z5x.length from hlt)]
     exact a1p _
    have hx:(bs v4t).extract i (i+1)=t.extract 0 1:=x8x (by
     rw[x5q,x5q,htb,a2g,z4u _ _ (show i < z5x.length from hlt),List.drop_append_of_le_length (by simp [z5x];omega),List.drop_of_length_le (by rw[a1k];omega),←he,a0g]
     match tb t,h0 with
     |c::r,_=>rfl)
    unfold x4m
    rw[hc,hin]
    have e4:(((i:Nat):Int)).toNat=i:=a0h _
    have e5:((((i:Nat):Int))+1).toNat=i+1:=by omega
    simp (disch:=omega) only [x0j,go1,e4,e5,hx]
    try rfl
   ·left
    rw[x1c he]
    exact⟨i+1,by rw[a1u];rfl,⟨by omega,fun j hj=>by
     by_cases e:j=i
     ·subst e;exact he
     ·exact hno j (by omega)⟩,by omega⟩
  ·right
   have:i=16:=by omega
   subst this
   have hin:z5x.contains ((tb t).getD 0 0)=false:=by
    rw[Bool.eq_false_iff]
    intro h
    rw[List.contains_iff_mem]at h
    obtain⟨j,hj,he⟩:=List.mem_iff_getElem.1 h
    refine hno j hj ?_
    rw[a0d (l:=z5x),a0b hj];exact he.symm
   unfold x4m
   rw[hc,hin]
   simp only [go1]
   simp (disch:=omega) only [x0j,x1m,x1c,go1,x0u,hol]
   rfl
end Go.Vm
end

section
set_option maxRecDepth 100000
set_option maxHeartbeats 4000000
namespace Go.Vm
open Go.Proofs
theorem z8i (n:Nat):cF 105 [.d (.int .u8 (n:Int)), .d (.int .u8 97), .d (.int .u8 122)]=some (.val [.bool (x2j n)]):=u4b n 97 122
theorem z8j (n:Nat):cF 105 [.d (.int .u8 (n:Int)), .d (.int .u8 65), .d (.int .u8 90)]=some (.val [.bool (x1y n)]):=u4b n 65 90
theorem z8k (n:Nat):cF 105 [.d (.int .u8 (n:Int)), .d (.int .u8 48), .d (.int .u8 57)]=some (.val [.bool (x0r n)]):=u4b n 48 57
theorem v1z (n:Nat):cF 107 [.d (.int .u8 (n:Int))]=some (.val [.bool (x1g n)]):=by
 refine cOf (by kernel_rfl) rfl ?_
 rw[w4o]
 simp only [k2m,go1,z8i,z8j,z8k]
 rw[x2c (show(n:Int)=95↔n=95 by omega)]
 unfold x1g
 cases x2j n<;>cases x1y n<;>cases x0r n<;>cases decide (n=95)<;>rfl
def w8u (t:Tok)(a:Nat)(p:PRes):Prop:= ∃k s n q w,p=v8f k s n q w t.ok∧(t.ok=true→k=t.k∧s=t.s∧n=t.n∧q=(a:Int)∧w=((a+t.w:Nat):Int))
theorem z9x (s:ByteArray)(a:Nat)(ha:a < (tb s).length)(hda:x0r ((tb s).getD a 0)=true):
  ∃k u n q w ok,q5k s a= .val [.int .i64 k, .str u, .int .i64 n, .int .i64 q, .bool ok]∧ok=(x4g (s.extract a (tb s).length)).ok∧w=u.size∧
   (ok=true→k=3∧u=(x4g (s.extract a (tb s).length)).s∧n=(x4g (s.extract a (tb s).length)).n∧q=(a:Int)∧w=(x4g (s.extract a (tb s).length)).w):=by
 have hmle:=x2o x0r ((tb s).drop a)
 rw[a0z]at hmle
 have hpos:0 < x1e x0r ((tb s).drop a):=x8l (by rw[x8e];exact hda) (by rw[a0z];omega)
 have hx:(s.extract a (tb s).length).extract 0 (x1e x0r ((tb s).drop a))=s.extract a (a+x1e x0r ((tb s).drop a)):=u0x s a 0 _ (by omega)
 have htw:tb (s.extract a (a+x1e x0r ((tb s).drop a)))=((tb s).drop a).take (x1e x0r ((tb s).drop a)):=by
  rw[x5q,List.drop_take,Nat.add_sub_cancel_left]
 have hall:(tb (s.extract a (a+x1e x0r ((tb s).drop a)))).all x0r=true:=by rw[htw,u7k];exact List.all_takeWhile
 have hl:(tb (s.extract a (a+x1e x0r ((tb s).drop a)))).length=x1e x0r ((tb s).drop a):=by rw[htw,a1k,a0z];omega
 obtain⟨p1,p2⟩:=z5u _ hall (by omega)
 unfold x4g q5k
 simp only [y3m,x8d,hx]
 rw[p1]
 rw[htw]at p2 ⊢
 have hsz:(s.extract a (a+x1e x0r ((tb s).drop a))).size=x1e x0r ((tb s).drop a):=by rw[←x1k,hl]
 cases hb:(decide (y0u 0 (((tb s).drop a).take (x1e x0r ((tb s).drop a))) < 9223372036854775808)&&(!decide ((tb s).getD a 0=48) || decide (x1e x0r ((tb s).drop a)=1)))with
 |false=>exact⟨_,_,_,_,_,_,rfl,rfl,rfl,fun h=>by cases h⟩
 |true=>
  have hv:=(a0p _ _▸hb).1
  exact⟨_,_,_,_,_,_,rfl,rfl,rfl,fun _=>⟨rfl,rfl,(p2 (a0c hv)).symm,rfl,hsz⟩⟩
theorem q3t (s:ByteArray)(hs:s.size≤100000)(a:Nat)(ha:a < (tb s).length): ∃p,cF 56 [.d (.str s), .d (.int .i64 (a:Int))]=some p∧w8u (x1a (s.extract a (tb s).length)) a p:=by
 have hlen:(tb s).length≤100000:=by rw[x1k];exact hs
 have hq:((s.data.getD (a:Int).toNat 0).toNat:Int)=(((tb s).getD a 0:Nat):Int):=by rw[a0h,x3c]
 have kd:=z8k ((tb s).getD a 0)
 have ks:=z8i ((tb s).getD a 0)
 have kg:=z8j ((tb s).getD a 0)
 have hh:(tb (s.extract a (tb s).length)).getD 0 0=(tb s).getD a 0:=by rw[y3m,x8d]
 refine q8n (by kernel_rfl) rfl ?_
 rw[q2p]
 simp only [g56,go1]
 simp (disch:=omega) only [x0j,x1m,go1,x0u,hq]
 rw[x2c (show(((tb s).getD a 0:Nat):Int)=39↔(tb s).getD a 0=39 by omega)]
 have htl:=y3m s a
 have e8:((a:Int)).toNat=a:=a0h _
 have e7:(((tb s).length:Nat):Int).toNat=(tb s).length:=a0h _
 by_cases h39:(tb s).getD a 0=39
 ·rw[x1m h39]
  have kp:=w5r s hs a ha
  have hn:x1a (s.extract a (tb s).length)=y5o (s.extract a (tb s).length):=by
   unfold x1a
   simp only [hh,h39]
   rfl
  rw[hn]
  unfold y5o
  rw[htl,List.drop_drop]
  cases hi:x9d 39 ((tb s).drop (a+1))with
  |none=>
   rw[hi]at kp
   simp only [v8f]at kp
   simp only [go1,kp]
   exact⟨_,rfl,_,_,_,_,_,rfl,fun h=>by cases h⟩
  |some j=>
   rw[hi]at kp
   have hlt:=(x4b hi).1
   simp only [a0z]at hlt
   simp only [v8f]at kp
   simp only [go1,kp]
   have hx:=u0x s a 1 (j+1) (by omega)
   have e2:a+(j+1)=a+1+j:=by omega
   rw[e2]at hx
   refine⟨_,rfl,4,s.extract (a+1) (a+1+j),0,(a:Int),((a+1+j+1:Nat):Int),?_,fun _=>⟨rfl,hx.symm,rfl,rfl,?_⟩⟩
   ·show _=v8f _ _ _ _ _ (z5s (tb ((s.extract a (tb s).length).extract 1 (j+1))))
    rw[hx];rfl
   ·show((a+1+j+1:Nat):Int)=((a+(j+2):Nat):Int)
    omega
 ·rw[x1c h39]
  cases hd:x0r ((tb s).getD a 0)with
  |true=>
   have kn:=v2b s hs a ha hd
   obtain⟨k,u,n,q,w,ok,h1,h2,h3,h4⟩:=z9x s a ha hd
   rw[h1]at kn
   have hn:x1a (s.extract a (tb s).length)=x4g (s.extract a (tb s).length):=by
    unfold x1a
    have hs1:x2j ((tb s).getD a 0)=false:=by
     unfold x0r at hd;unfold x2j
     simp only [a0p,a0t]at hd
     rw[x1c (by omega)];rfl
    have hs2:x1y ((tb s).getD a 0)=false:=by
     unfold x0r at hd;unfold x1y
     simp only [a0p,a0t]at hd
     rw[x1c (by omega)];rfl
    simp only [hh,hd,hs1,hs2,a0v]
   rw[hd]at kd
   rw[hn]
   simp only [go1,kd,kn]
   refine⟨_,rfl,k,u,n,q,IntKind.i64.wrap ((a:Int)+((tb u).length:Int)),?_,fun hok=> ?_⟩
   ·rw[←h2];rfl
   ·rw[←h2]at hok
    obtain⟨i1,i2,i3,i4,i5⟩:=h4 hok
    refine⟨i1,i2,i3,i4,?_⟩
    rw[x1k,←h3,i5]
    have hw:(x4g (s.extract a (tb s).length)).w≤(tb s).length - a:=by
     have:=x2o x0r (tb (s.extract a (tb s).length))
     rw[htl,a0z]at this
     unfold x4g
     rw[htl];exact this
    rw[x0j (by omega) (by omega)];omega
  |false=>
   cases hl:(x2j ((tb s).getD a 0) || x1y ((tb s).getD a 0))with
   |true=>
    have hin:x1g ((tb s).getD a 0)=true:=by unfold x1g;rw[hl];rfl
    have hn:x1a (s.extract a (tb s).length)=y2d (s.extract a (tb s).length):=by
     unfold x1a
     simp only [hh,hl]
    have hmle:=x2o x1g ((tb s).drop a)
    have hpos:0 < x1e x1g ((tb s).drop a):=x8l (by rw[x8e];exact hin) (by rw[a0z];omega)
    have hdg:=z9n (p:=x1g) ((tb s).drop a)
    have hnd:=z2q (p:=x1g) ((tb s).drop a)
    rw[a0z]at hmle hnd
    simp only [x8e]at hdg hnd
    have hx:(s.extract a (tb s).length).extract 0 (x1e x1g ((tb s).drop a))=s.extract a (a+x1e x1g ((tb s).drop a)):=u0x s a 0 _ (by omega)
    rw[hd]at kd
    rw[hn]
    unfold y2d
    simp only [htl,hx,x8d]
    generalize x1e x1g ((tb s).drop a)=m at*
    have z:(s.extract a (a+m)).size≤100000:=by rw[←x1k,y4g _ _ _ (by omega) (by omega)];omega
    have r1:=y9n _ z
    have r2:=y3h _ z
    have r3:=u1e (s.extract a (a+m))
    refine⟨v8f (match x1y ((tb s).getD a 0)with|true=>2|false=>1) (s.extract a (a+m)) 0 (a:Int) ((a+m:Nat):Int) (match x1y ((tb s).getD a 0)with|true=>y1l (tb (s.extract a (a+m)))|false=>x7m (tb (s.extract a (a+m))) || y0o (tb (s.extract a (a+m)))),?_,?_⟩
    ·have hb:(x0q (bif x2j ((tb s).getD a 0)then some (Sum.inl [D.bool true])else some (Sum.inl [D.bool (x1y ((tb s).getD a 0))])) fun ds=>opB (sy.cell ds 0))=some true:=by
      cases hs1:x2j ((tb s).getD a 0)with
      |true=>rfl
      |false=>rw[hs1,a0v]at hl;rw[hl];rfl
     have key: ∀b1 b2:Bool,(b1 || b2)=true→ ∀(X Y:Option PRes),(bif (b1 || b2)then X else Y)=X:=fun b1 b2 h X Y=>by rw[h];rfl
     simp only [go1,kd,ks,kg,hl]
     refine x0m (fun x:Nat=>[.str s, .int .i64 (a:Int), .int .u8 (((tb s).getD a 0:Nat):Int), .int .i64 ((a+x:Nat):Int), .int .i64 0, .str (bs []), .int .i64 0, .int .i64 0]) (fun x=>x≤m) (fun x=>m - x) (fun x hxm=> ?_) 0 (a0r _)
     have hq1:((s.data.getD (((a+x:Nat):Int)).toNat 0).toNat:Int)=(((tb s).getD (a+x) 0:Nat):Int):=by rw[a0h,x3c]
     have ki:=v1z ((tb s).getD (a+x) 0)
     by_cases hlt:x < m
     ·left
      have hdx:=hdg x hlt
      rw[hdx]at ki
      simp only [go1]
      simp (disch:=omega) only [x0j,x1m,go1,hq1,ki]
      have e9:((a+x:Nat):Int)+1=((a+(x+1):Nat):Int):=by omega
      exact⟨x+1,by rw[e9],by omega,by omega⟩
     ·right
      have:x=m:=by omega
      subst this
      have e9:(((a+x:Nat):Int)).toNat=a+x:=a0h _
      by_cases hend:a+x < (tb s).length
      ·have hnd':=hnd (by omega)
       rw[hnd']at ki
       simp only [go1]
       have hq2:((s.data.getD (a+x) 0).toNat:Int)=(((tb s).getD (a+x) 0:Nat):Int):=by rw[x3c]
       simp (disch:=omega) only [x0j,x1m,go1,hq2,ki,e8,e9,kg]
       cases x1y ((tb s).getD a 0)with
       |true=>
        simp (disch:=omega) only [x0j,go1,r1]
        try rfl
       |false=>
        simp only [go1,r2]
        cases x7m (tb (s.extract a (a+x)))with
        |true=>simp only [go1];try rfl
        |false=>simp only [go1,r3];try rfl
      ·simp only [go1]
       simp (disch:=omega) only [x0j,x1m,x1c,go1,e8,e9,kg]
       cases x1y ((tb s).getD a 0)with
       |true=>
        simp (disch:=omega) only [x0j,go1,r1]
        try rfl
       |false=>
        simp only [go1,r2]
        cases x7m (tb (s.extract a (a+x)))with
        |true=>simp only [go1];try rfl
        |false=>simp only [go1,r3];try rfl
    ·cases x1y ((tb s).getD a 0)with
     |true=>exact⟨_,_,_,_,_,rfl,fun _=>⟨rfl,rfl,rfl,rfl,rfl⟩⟩
     |false=>exact⟨_,_,_,_,_,rfl,fun _=>⟨rfl,rfl,rfl,rfl,rfl⟩⟩
   |false=>
    have hl2:=hl
    rw[Bool.or_eq_false_iff]at hl2
    have hn:x1a (s.extract a (tb s).length)=x4m (s.extract a (tb s).length):=by
     unfold x1a
     simp only [hh,hl,hd,x1c h39]
    have z:(s.extract a (tb s).length).size≤100000:=by rw[←x1k,htl,a0z];omega
    have hp:0 < (tb (s.extract a (tb s).length)).length:=by rw[htl,a0z];omega
    have km:=w5u _ z hp
    have hok:=u2z _ hp
    rw[hn]
    rw[hd]at kd
    rw[hl2.1]at ks
    rw[hl2.2]at kg
    have hwl:(x4m (s.extract a (tb s).length)).ok=true→(tb (x4m (s.extract a (tb s).length)).s).length=(x4m (s.extract a (tb s).length)).w∧1≤(x4m (s.extract a (tb s).length)).w∧(x4m (s.extract a (tb s).length)).w≤(tb s).length - a:=fun h=>by
     obtain⟨q1,q2,q3,q4,q5⟩:=hok h
     have hk:(x4m (s.extract a (tb s).length)).k≠4:=by
      unfold x4m at h ⊢
      revert h
      split<;>intro h<;>first|exact(by decide:(5:Int)≠4)|cases h
     rw[htl,a0z]at q2
     refine⟨?_,q1,q2⟩
     rw[q5 hk,htl,a1k,a0z];omega
    have hzz:(x4m (s.extract a (tb s).length)).k=5∨(x4m (s.extract a (tb s).length)).ok=false:=by
     unfold x4m
     split
     ·exact .inl rfl
     ·exact .inl rfl
     ·exact .inr rfl
    have hnn:(x4m (s.extract a (tb s).length)).n=0:=by
     unfold x4m
     split<;>rfl
    generalize x4m (s.extract a (tb s).length)=t at*
    simp only [go1,kd,ks,kg]
    simp (disch:=omega) only [x0j,e8,e7]
    cases hb:t.ok with
    |false=>
     rw[hb]at km
     have hse:((bs []).toList == (bs []).toList)=true:=by rw[x1l];exact x1m rfl
     simp only [go1,km,hse]
     exact⟨_,rfl,5,bs [],0,(a:Int),IntKind.i64.wrap ((a:Int)+((tb (bs [])).length:Int)),by rw[hb];rfl,fun h=>by rw[hb]at h;cases h⟩
    |true=>
     rw[hb]at km
     obtain⟨w1,w2,w3⟩:=hwl hb
     have hk5:t.k=5:=by
      rcases hzz with h|h
      ·exact h
      ·rw[hb]at h;cases h
     have hsq:(t.s.toList == (bs []).toList)=false:=by
      rw[x1l]
      refine x1c fun h=> ?_
      have:=congrArg List.length h
      rw[w1,w9u]at this
      simp at this;omega
     simp only [go1,km,hsq]
     refine⟨_,rfl,5,t.s,0,(a:Int),IntKind.i64.wrap ((a:Int)+((tb t.s).length:Int)),?_,fun _=>⟨hk5.symm,rfl,hnn.symm,rfl,?_⟩⟩
     ·rw[hb];rfl
     ·rw[w1,x0j (by omega) (by omega)];omega
end Go.Vm
end

section
set_option maxRecDepth 100000
set_option maxHeartbeats 4000000
namespace Go.Vm
open Go.Proofs
theorem q3u (s:ByteArray)(most:Int)(hs:s.size≤100000):cF 18 [.d (.str s), .d (.int .i64 most)]=some (w9p s most):=by
 have hlen:(tb s).length≤100000:=by rw[x1k];exact hs
 have k0:=v2a s hs 0 (a0r _)
 refine cOf (by kernel_rfl) rfl ?_
 rw[q3c]
 simp only [g18,go1,Nat.reduceAdd]
 unfold w9p
 rw[x0u]
 cases hm:decide (most < ((tb s).length:Int))with
 |true=>simp only [go1]
 |false=>
  rw[show((0:Nat):Int)=0 from rfl]at k0
  simp only [go1,k0]
  rw[show x5p (List.drop 0 (tb s))=0+x5p (List.drop 0 (tb s))from(a1z _).symm]
  refine x0m (fun x:Nat × List Tk=>[.str s, .int .i64 ((x.1+x5p ((tb s).drop x.1):Nat):Int), .sl 4 (x0a x.2)]) (fun x=>x.1≤(tb s).length∧x.2.length≤x.1∧y4z s 0=(x.2++(y4z s x.1).1,(y4z s x.1).2)) (fun x=>(tb s).length - x.1) (fun x hx=> ?_) (0,[]) ⟨a0r _,a0m _,by simp⟩
  obtain⟨a,acc⟩:=x
  obtain⟨h1,h2,h3⟩:=hx
  simp only at h1 h2 h3
  have hg:=z3n _ _ (a0m ((tb s).drop a).length)
  simp only [a0z]at hg
  have heq:=y4z.eq_def s a
  simp only
  generalize x5p ((tb s).drop a)=g at hg heq ⊢
  have hal:(x0a acc).length=acc.length:=x3w acc
  by_cases hp:a+g < (tb s).length
  ·rw[dif_pos hp]at heq
   obtain⟨p,k1,k,u,n,q,w,rfl,hsm⟩:=q3t s hs (a+g) hp
   have hpos:0 < (tb (s.extract (a+g) (tb s).length)).length:=by rw[y3m,a0z];omega
   have hok:=z6f (s.extract (a+g) (tb s).length) hpos
   rw[y3m]at hok
   generalize x1a (s.extract (a+g) (tb s).length)=t at k1 hsm hok heq
   simp only [v8f]at k1
   simp only [go1]
   simp (disch:=omega) only [x0j,x1m,go1,x0u,k1]
   cases hb:t.ok with
   |false=>
    right
    rw[dif_neg (by rw[hb];simp)]at heq
    rw[h3,heq]
    simp only [go1]
   |true=>
    left
    obtain⟨q1,q2,_⟩:=hok hb
    obtain⟨rfl,rfl,rfl,rfl,rfl⟩:=hsm hb
    simp only [a0z]at q2
    rw[dif_pos ⟨hb,q1⟩]at heq
    have k2:=v2a s hs (a+g+t.w) (by omega)
    refine⟨(a+g+t.w,acc++[⟨t.k,t.s,t.n,a+g⟩]),?_,⟨by simp only;omega,by simp;omega,?_⟩,by simp only;omega⟩
    ·simp (disch:=omega) only [x0j,x1m,go1,hal,a2h,k2]
     rw[←x7o]
     rfl
    ·rw[h3,heq];simp
  ·right
   rw[dif_neg hp]at heq
   have hpe:a+g=(tb s).length:=by omega
   rw[h3,heq,←x7o,←x7o]
   simp only [go1]
   simp (disch:=omega) only [x0j,x1m,x1c,go1,x0u,hal,a2h]
   rw[show x0a ([]:List Tk)= []from rfl,a2e]
   rfl
end Go.Vm
end

section
set_option maxRecDepth 100000
set_option maxHeartbeats 4000000
namespace Go.Vm
open Go.Proofs
theorem z1v (s:ByteArray)(a b:Nat):(s.extract a b).size≤s.size:=by
 rw[ByteArray.size_extract];omega
theorem v4w (s:ByteArray):(x1a s).s.size≤s.size:=by
 have h0:(bs []).size≤s.size:=a0r _
 unfold x1a
 simp only
 split
 ·unfold y2d
  simp only
  split<;>exact z1v _ _ _
 ·exact z1v _ _ _
 ·unfold y5o
  split
  ·exact h0
  ·exact z1v _ _ _
 ·unfold x4m
  split
  ·exact z1v _ _ _
  ·exact z1v _ _ _
  ·exact h0
theorem v4x (s:ByteArray)(h:(x1a s).k=5):(x1a s).s.size≤2:=by
 unfold x1a at h ⊢
 simp only at h ⊢
 split at h
 ·rename_i hc;unfold y2d at h;simp only at h;split at h<;>cases h
 ·cases h
 ·unfold y5o at h
  split at h<;>cases h
 ·rename_i h1 h2 h3
  unfold x4m at h ⊢
  split
  ·show(s.extract 0 2).size≤2
   rw[ByteArray.size_extract];omega
  ·show(s.extract 0 1).size≤2
   rw[ByteArray.size_extract];omega
  ·rename_i h4 h5
   rw[h4,h5]at h
   cases h
theorem y2u (s:ByteArray): ∀(m a:Nat),(tb s).length - a≤m→(∀t∈(y4z s a).1,t.s.size≤s.size∧(t.k=5→t.s.size≤2))∧(y4z s a).1.length≤(tb s).length - a
 |m,a,hm=>by
  rw[y4z]
  split
  ·rename_i hp
   split
   ·rename_i h
    have ih:=y2u s (m - 1) (a+x5p ((tb s).drop a)+(x1a (s.extract (a+x5p ((tb s).drop a)) (tb s).length)).w) (by omega)
    refine⟨fun t ht=> ?_,?_⟩
    ·rcases a1t.1 ht with rfl|ht
     ·exact⟨a1o (v4w _) (z1v _ _ _),fun h5=>v4x _ h5⟩
     ·exact ih.1 t ht
    ·simp only [a0f]
     omega
   ·exact⟨(by simp),a0r _⟩
  ·exact⟨(by simp),a0r _⟩
 termination_by m a=>(tb s).length - a
 decreasing_by omega
def x8h (s:ByteArray):List Tk:=(y4z s 0).1++[q7u s]
theorem y6b {s:ByteArray}(hs:s.size≤100000){t:Tk}(h:t∈x8h s):t.s.size≤100000∧(t.k=5→t.s.size≤2):=by
 rcases a1h.1 h with h|h
 ·have:=(y2u s _ 0 (a0m _)).1 t h
  exact⟨by omega,this.2⟩
 ·rw[a1l.1 h]
  exact⟨x2v,fun h=>by cases h⟩
theorem z2n {l:List Tk}{Q:Tk→Prop}(h0:Q ⟨6,bs [],0,0⟩)(h: ∀t∈l,Q t)(j:Nat):Q (tkA l j):=by
 unfold tkA
 rw[a0d]
 cases hx:l[j]? with
 |none=>exact h0
 |some t=>exact h t (a0n hx)
theorem q5b {l:List Tk}(h: ∀t∈l,t.s.size≤100000):TS l:=fun j=>z2n (Q:=fun t=>t.s.size≤100000) (by decide) h j
theorem q5c {l:List Tk}(h: ∀t∈l,t.k=5→t.s.size≤2):TOK l:=fun j hj=>by
 have:=z2n (Q:=fun t=>t.k=5→t.s.size≤2) (fun _=>by decide) h j hj
 refine⟨fun e=> ?_,fun e=> ?_⟩<;>(rw[e]at this;revert this;decide)
theorem u4r (s:ByteArray)(hs:s.size≤100000):LOK (x8h s):=by
 have h:=(y2u s _ 0 (a0m _)).2
 have h2:(tb s).length≤100000:=by rw[x1k];exact hs
 refine⟨by simp [x8h],?_,?_⟩
 ·simp [tkA,x8h,q7u]
 ·simp only [x8h,a0j,a0f,a0i];omega
def u5k (l:List Tk)(i:Int):Bool:=decide (0≤i)&&(decide (i < (l.length:Int))&&decide ((tkA l (l.length - 1)).k=6))
theorem u9r {l:List Tk}(h:0 < l.length)(hl:l.length≤1000000):IntKind.i64.wrap ((l.length:Int) - 1)=((l.length - 1:Nat):Int):=by
 rw[x0j (by omega) (by omega)];omega
theorem z8n (l:List Tk)(i:Int)(hl:l.length≤1000000):cF 203 [.d (.sl 4 (x0a l)), .d (.int .i64 i)]=some (.val [.bool (u5k l i)]):=by
 refine cOf (by kernel_rfl) rfl ?_
 rw[w2z]
 simp only [k0x,go1,x3w]
 unfold u5k
 cases h0:decide (0≤i)with
 |false=>rfl
 |true=>
  cases h1:decide (i < (l.length:Int))with
  |false=>rfl
  |true=>
   have h0:=a0c h0
   have h1:=a0c h1
   have hpos:0 < l.length:=by omega
   have hlt:l.length - 1 < l.length:=by omega
   have q1:=x5t hlt
   have q2:=x3d hlt
   rw[x3w]at q1
   simp only [go1,u9r hpos hl,q1,q2,x3b]
def k2u:Ex × Int × Int→PRes
 |(.mk k n s o a u,p,r)=> .val [.int .i64 k, .int .i64 n, .str s, .int .i64 o, .sl 1 (x0e a), .sl 6 (Ex.rows u), .int .i64 p, .int .i64 r]
def z9t (l:List Tk)(i:Nat):Ex × Int × Int:=match y5m l i with
 | .out=>(e0,(i:Int),1)
 | .bad j=>(e0,(j:Int),2)
 | .ok e j=>bif !x3i e then(e0,(i:Int),3)else bif !y9u e then(e0,(i:Int),1)else(e,(j:Int),0)
theorem z5g (e:Ex):(decide ((12:Int) < (e.depth:Int)) || decide ((60:Int) < (e.size:Int)))= !x3i e:=by
 unfold x3i
 rw[nlt,nlt]
 have e1:decide ((e.depth:Int)≤12)=decide (e.depth≤12):=by rw[a1b];simp;try omega
 have e2:decide ((e.size:Int)≤60)=decide (e.size≤60):=by rw[a1b];simp;try omega
 rw[e1,e2]
 cases decide (e.depth≤12)<;>cases decide (e.size≤60)<;>rfl
theorem w6b {l:List Tk}(hl:LOK l)(i:Nat)(hi:i < l.length):cF 204 [.d (.sl 4 (x0a l)), .d (.int .i64 (i:Int))]=some (match y5m l i with
  | .ok (.mk k n s o a u) j=> .val [.int .i64 k, .int .i64 n, .str s, .int .i64 o, .sl 1 (x0e a), .sl 6 (Ex.rows u), .int .i64 (j:Int), .bool true]
  | .bad j=> .val [.int .i64 0, .int .i64 0, .str (bs []), .int .i64 0, .sl 1 [], .sl 6 [], .int .i64 (j:Int), .bool false]
  | .out=> .val []):=by
 have h:=v6r hl i hi
 have hne:=y2k hl i hi
 refine cOf (by kernel_rfl) rfl ?_
 rw[w2y]
 simp only [k0w,go1,h]
 cases hR:y5m l i with
 |out=>exact(hne hR).elim
 |bad j=>rfl
 |ok e j=>obtain⟨k,n,s,o,a,u⟩:=e;rfl
theorem w6f {l:List Tk}(hl:LOK l)(ht:TS l)(i:Nat)(hi:i < l.length):cF 171 [.d (.sl 4 (x0a l)), .d (.int .i64 (i:Int))]=some (k2u (z9t l i)):=by
 have hf:=hl.few
 have h1:=z8n l (i:Int) hf
 have h0:u5k l (i:Int)=true:=by
  unfold u5k;rw[x1m (by omega),x1m (by omega),hl.last];rfl
 rw[h0]at h1
 have h2:=w6b hl i hi
 have hne:=y2k hl i hi
 unfold z9t
 refine cOf (by kernel_rfl) rfl ?_
 rw[w3m]
 simp only [k1k,go1,h1,h2]
 cases hR:y5m l i with
 |out=>exact(hne hR).elim
 |bad j=>rfl
 |ok e j=>
  have hz:=y6g ht hR
  have hj:=((x6y hl (x5u l)).pos .arrow i e j hi hR).2
  have hff:=y6j e hz.2 (by omega)
  have hsm:=z5g e
  obtain⟨k,n,s,o,a,u⟩:=e
  have k1:=z4f 1000000 k n s o a u (by omega) (a0m _)
  have k2:=v2j k n s o a u (by omega)
  have k3:=u4f k n s o a u (by omega) hff
  simp only [go1,oE,k1,k2,k3]
  cases g1:decide ((12:Int) < ((Ex.mk k n s o a u).depth:Int))with
  |true=>
   rw[g1,a1i]at hsm
   simp only [go1,←hsm]
   rfl
  |false=>
   cases g2:decide ((60:Int) < ((Ex.mk k n s o a u).size:Int))with
   |true=>
    rw[g1,g2,a0v]at hsm
    simp only [go1,←hsm]
    rfl
   |false=>
    rw[g1,g2,a0v]at hsm
    have hsm2:x3i (.mk k n s o a u)=true:=by cases h:x3i (.mk k n s o a u)with
     |true=>rfl
     |false=>rw[h]at hsm;cases hsm
    simp only [go1,hsm2]
    cases y9u (.mk k n s o a u)<;>(simp only [go1];rfl)
theorem w6a {l:List Tk}(hl:LOK l)(ht:TS l)(hT:TOK l)(i:Nat)(hi:i < l.length):cF 113 [.d (.sl 4 (x0a l)), .d (.int .i64 (i:Int))]=some (k2u (z9t l i)):=by
 have hf:=hl.few
 have hlt:l.length - 1 < l.length:=by omega
 have q1:=x5t hlt
 have q2:=x3d hlt
 have q0:=u9r hl.pos hf
 have h2:=x1d (v6q hl hT i hi)
 have hne:=y2k hl i hi
 have e1:decide ((i:Int) < 0)=false:=x1c (by omega)
 have e2:decide ((l.length:Int)≤(i:Int))=false:=x1c (by omega)
 have e3:=hl.last
 rw[x3w]at q1
 unfold z9t
 refine cOf (by kernel_rfl) rfl ?_
 rw[w4l]
 simp only [k2j,go1,x3w,e1,e2,q0,q1,q2,x3b,e3]
 rcases h2 with⟨e,j,hR,h3⟩|⟨e,j,hR,hj,h3⟩
 ·have hz:=y6g ht hR
  have hj:=((x6y hl (x5u l)).pos .arrow i e j hi hR).2
  have hff:=y6j e hz.2 (by omega)
  have hsm:=z5g e
  obtain⟨k,n,s,o,a,u⟩:=e
  have k1:=z4d 1000000 k n s o a u (by omega) (a0m _)
  have k2:=u1f 1000000 k n s o a u (by omega) (a0m _)
  have k3:=z8l k n s o a u (by omega) hff
  rw[hR]
  simp only [go1,oE,h3,x3s,Ex.row,a0e,a0g,k1,k2,k3]
  cases g1:decide ((12:Int) < ((Ex.mk k n s o a u).depth:Int))with
  |true=>
   rw[g1,a1i]at hsm
   simp only [go1,←hsm]
   rfl
  |false=>
   cases g2:decide ((60:Int) < ((Ex.mk k n s o a u).size:Int))with
   |true=>
    rw[g1,g2,a0v]at hsm
    simp only [go1,←hsm]
    rfl
   |false=>
    rw[g1,g2,a0v]at hsm
    have hsm2:x3i (.mk k n s o a u)=true:=by cases h:x3i (.mk k n s o a u)with
     |true=>rfl
     |false=>rw[h]at hsm;cases hsm
    simp only [go1,hsm2]
    cases y9u (.mk k n s o a u)<;>(simp only [go1];rfl)
 ·obtain⟨k,n,s,o,a,u⟩:=e
  rw[hR]
  simp only [go1,oE,h3,x3s,Ex.row,a0e,a0g]
  rfl
end Go.Vm
end

section
set_option maxRecDepth 100000
set_option maxHeartbeats 4000000
namespace Go.Vm
open Go.Proofs
def q5p:ByteArray × ByteArray × Int × Bool→PRes
 |(a,b,p,ok)=> .val [.str a, .str b, .int .i64 p, .bool ok]
def u4t (l:List Tk)(i:Nat):ByteArray × ByteArray × Int × Bool:=match x7c l i with
 | .ok w j=>(w.1,w.2,(j:Int),true)
 | .bad j=>(bs [],bs [],(j:Int),false)
 | .out=>(bs [],bs [],0,false)
theorem w6c {l:List Tk}(hl:LOK l)(i:Nat)(hi:i < l.length):cF 226 [.d (.sl 4 (x0a l)), .d (.int .i64 (i:Int))]=some (q5p (u4t l i)):=by
 have h:=v2g l hl i hi
 unfold u4t
 refine cOf (by kernel_rfl) rfl ?_
 rw[w2r]
 simp only [k0p,go1,h]
 cases hR:x7c l i with
 |out=>exact(z2m hl (x6y hl 0) i hR).elim
 |bad j=>rfl
 |ok e j=>rfl
theorem w6e {l:List Tk}(hl:LOK l)(i:Nat)(hi:i < l.length):cF 202 [.d (.sl 4 (x0a l)), .d (.int .i64 (i:Int))]=some (q5p (u4t l i)):=by
 have hf:=hl.few
 have h1:=z8n l (i:Int) hf
 have h0:u5k l (i:Int)=true:=by
  unfold u5k;rw[x1m (by omega),x1m (by omega),hl.last];rfl
 rw[h0]at h1
 have h2:=w6c hl i hi
 refine cOf (by kernel_rfl) rfl ?_
 rw[w3a]
 simp only [k0y,go1,h1,h2]
 unfold u4t
 cases x7c l i<;>rfl
end Go.Vm
end

section
set_option maxRecDepth 100000
set_option maxHeartbeats 4000000
namespace Go.Vm
open Go.Proofs
inductive Rc (α:Type) where
 |ok (a:α) (j:Nat)
 |bad (p:Nat) (c:Int)
abbrev RM (α:Type):=Nat→Rc α
def RM.bind {α β:Type}(m:RM α)(k:α→RM β):RM β:=fun i=>match m i with
 | .ok a j=>k a j
 | .bad p c=> .bad p c
def RM.ret {α:Type}(a:α):RM α:=fun i=> .ok a i
structure St where
 i:Nat
 b:Bool
 a:Int
 w:Int
structure Post {α:Type} (F:Int→St→Nat→Int→Prop) (l:List Tk) (m:RM α) (s:St) (v:α) (s':St):Prop where
 le:s.i≤s'.i
 lt:s'.i < l.length
 bad:s.b=false→s'=s
 good:s.b=true→match m s.i with
  | .ok u j=>v=u∧s'=⟨j,true,s.a,s.w⟩
  | .bad p c=>s'.b=false∧F s.a s' p c
section
variable {α β : Type} {F : Int → St → Nat → Int → Prop} {l : List Tk} {m : RM α} {k : α → RM β} {s s1 s2 : St} {v : α} {u : β}
theorem Post.bind (h1:Post F l m s v s1)(h2:Post F l (k v) s1 u s2):Post F l (m.bind k) s u s2:=by
 refine⟨a1o h1.le h2.le,h2.lt,fun hb=> ?_,fun hb=> ?_⟩
 ·have e:=h1.bad hb
  subst e
  exact h2.bad hb
 ·have g:=h1.good hb
  unfold RM.bind
  cases hm:m s.i with
  |ok a j=>
   rw[hm]at g
   obtain⟨rfl,rfl⟩:=g
   exact h2.good rfl
  |bad p c=>
   rw[hm]at g
   have e:=h2.bad g.1
   subst e
   exact g
theorem Post.ret (hs:s.i < l.length):Post F l (RM.ret v) s v s:=by
 refine⟨a0m _,hs,fun _=>rfl,fun hb=> ?_⟩
 obtain⟨i,b,a,w⟩:=s
 cases hb
 exact⟨rfl,rfl⟩
theorem Post.map {f:α→β}(h:Post F l m s v s1):Post F l (m.bind fun x=>RM.ret (f x)) s (f v) s1:=h.bind (Post.ret h.lt)
theorem Post.of {m':RM α}(h:Post F l m s v s1)(e:s.b=true→m' s.i=m s.i):Post F l m' s v s1:=
 ⟨h.le,h.lt,h.bad,fun hb=>by rw[e hb];exact h.good hb⟩
end
def FP (l:List Tk):Int→St→Nat→Int→Prop:=fun _ s p c=>s.a=(tkA l p).a∧s.w=c
abbrev x4d {α:Type}(l:List Tk)(m:RM α)(s:St)(v:α)(s':St):Prop:=Post (FP l) l m s v s'
def stD (l:List Tk)(en:LL)(s:St):List D:=[.sl 4 (x0a l), .int .i64 (s.i:Int), .bool s.b, .int .i64 s.a, .int .i64 s.w, .sl 2 en]
section
variable (l w a en : LL) (i x y e : Int) (s : ByteArray) (b k : Bool)
theorem dcR:y1z (kR l i en b x y)=some (0,[.ptr 0 0],[.cells (.ty 47) [.d (.sl 4 l), .d (.int .i64 i), .own 1, .ifo 51 b [.int .i64 x, .int .i64 y]], .arr 66 2 en]):=rfl
theorem y0i:y1z (kRS s l i en b x y)=some (0,[.ptr 0 0, .d (.str s)],[.cells (.ty 47) [.d (.sl 4 l), .d (.int .i64 i), .own 1, .ifo 51 b [.int .i64 x, .int .i64 y]], .arr 66 2 en]):=rfl
theorem y0k:y1z (kRI e l i en b x y)=some (0,[.ptr 0 0, .d (.int .i64 e)],[.cells (.ty 47) [.d (.sl 4 l), .d (.int .i64 i), .own 1, .ifo 51 b [.int .i64 x, .int .i64 y]], .arr 66 2 en]):=rfl
theorem x9r:y1z (kRB k l i en b x y)=some (0,[.ptr 0 0, .d (.bool k)],[.cells (.ty 47) [.d (.sl 4 l), .d (.int .i64 i), .own 1, .ifo 51 b [.int .i64 x, .int .i64 y]], .arr 66 2 en]):=rfl
theorem y0l (p c:Int):y1z (kRF p c l i en b x y)=some (0,[.ptr 0 0, .d (.int .i64 p), .d (.int .i64 c)],[.cells (.ty 47) [.d (.sl 4 l), .d (.int .i64 i), .own 1, .ifo 51 b [.int .i64 x, .int .i64 y]], .arr 66 2 en]):=rfl
theorem y0j:y1z (kRN w l i en b x y)=some (0,[.ptr 0 0, .own 1],[.cells (.ty 47) [.d (.sl 4 l), .d (.int .i64 i), .own 2, .ifo 51 b [.int .i64 x, .int .i64 y]], .arr 9 1 w, .arr 66 2 en]):=rfl
theorem dcQ:y1z (qR l i b en e)=some (0,[.ptr 0 0],[.cells (.ty 63) [.ptr 1 0, .own 2, .d (.int .i64 e)], .cells (.ty 61) [.d (.sl 4 l), .d (.int .i64 i), .d (.bool b)], .arr 66 2 en]):=rfl
theorem x9s:y1z (qRB k l i b en e)=some (0,[.ptr 0 0, .d (.bool k)],[.cells (.ty 63) [.ptr 1 0, .own 2, .d (.int .i64 e)], .cells (.ty 61) [.d (.sl 4 l), .d (.int .i64 i), .d (.bool b)], .arr 66 2 en]):=rfl
end
theorem z0r {ρ:Type}{f k:FuncId}{pn:Nat}{xs key:List V}{hs:List Box}{c:ρ→PRes}{Q:ρ→Prop}(hg:x4w Tryz.prog k=false)(hd:y1z key=some (pn,xs,hs))(hk:Nat.beq k (z0s f)=true)(hn:kn k key=none)(h: ∃x,(x3f sy Tryz.prog cs f pn xs hs).run eF=some (c x)∧Q x): ∃x,cF k key=some (c x)∧Q x:=
 h.imp fun _ h=>⟨x4c hg hd hk hn h.1,h.2⟩
theorem x4t {σ ρ α:Type}{b:List D→Option (List D ⊕ α)}{c:ρ→α}(mk:σ→List D)(I:σ→Prop)(μ:σ→Nat)(Q:σ→ρ→Prop)
  (h: ∀x,I x→(∃y,b (mk x)=some (.inl (mk y))∧I y∧μ y < μ x∧ ∀r,Q y r→Q x r)∨ ∃r,b (mk x)=some (.inr (c r))∧Q x r) (x:σ) (hx:I x): ∃r,x7h b (mk x)=some (c r)∧Q x r:=by
 generalize hn:μ x=n
 induction n using Nat.strongRecOn generalizing x with
 |_ n ih=>
  rcases h x hx with⟨y,h1,h2,h3,h4⟩|⟨r,h1,h2⟩
  ·obtain⟨r,h5,h6⟩:=ih (μ y) (hn▸h3) y h2 rfl
   refine⟨r,?_,h4 r h6⟩
   rw[x8s,h1];exact h5
  ·exact⟨r,by rw[x8s,h1],h2⟩
def tkR (l:List Tk)(x:ByteArray):RM Bool:=fun i=>match isT l i x with
 |true=> .ok true (i+1)
 |false=> .ok false i
def w4y {α:Type}(p:Nat)(c:Int):RM α:=fun _=> .bad p c
def y1c (l:List Tk)(k:Int):RM Tk:=fun i=>match decide ((tkA l i).k=k)&& !(decide (k=1)&&y0o (tb (tkA l i).s))with
 |true=> .ok (tkA l i) (i+1)
 |false=> .bad i 2
def x3m (l:List Tk)(ws:List ByteArray):RM Unit:=fun i=>match x1f l ws i with
 | .ok _ j=> .ok () j
 | .bad p=> .bad p 2
 | .out=> .bad 0 2
theorem x2i {α:Type}{F:Int→St→Nat→Int→Prop}{l:List Tk}{m:RM α}{s:St}{v:α}(h:s.i < l.length)(hb:s.b=false):Post F l m s v s:=
 ⟨a0m _,h,fun _=>rfl,fun h=>by rw[hb]at h;cases h⟩
section
variable {l : List Tk} (hl : LOK l) (en : LL) (s : St) (hs : s.i < l.length)
include hl hs
theorem x6r (x:ByteArray): ∃v s',cF 1000037 (kRS x (x0a l) (s.i:Int) en s.b s.a s.w)=some (.val (.bool v::stD l en s'))∧x4d l (tkR l x) s v s'∧(v=true→s.b=true∧s'.i=s.i+1):=by
 have hf:=hl.few
 have h1:=x5t hs
 have h2:=x3d hs
 have e0:IntKind.i64.wrap ((s.i:Int)+0)=(s.i:Int):=by rw[Int.add_zero];exact x0j (by omega) (by omega)
 have e1:IntKind.i64.wrap ((s.i:Int)+1)=((s.i+1:Nat):Int):=by rw[x0c (n:=l.length) hs (by omega)];rfl
 have e2:decide (((x0a l).length:Int)≤(s.i:Int))=false:=x1c (by rw[x3w];omega)
 obtain⟨i,b,a,w⟩:=s
 simp only at hs h1 h2 e0 e1 e2
 cases b with
 |false=>
  refine⟨false,⟨i,false,a,w⟩,?_,x2i hs rfl,fun h=>(by cases h)⟩
  refine x4c (f:=37) (by kernel_rfl) (by with_reducible first|exact dcR .. |exact y0i .. |exact y0k .. |exact x9r .. |exact y0l .. |exact y0j .. |exact dcQ .. |exact x9s ..) (by kernel_rfl) rfl ?_
  rw[v2w]
  simp only [b37,stD,go1]
 |true=>
  cases hT:isT l i x with
  |true=>
   refine⟨true,⟨i+1,true,a,w⟩,?_,⟨Nat.le_succ _,hl.next hs (x0t hT),fun h=>(by cases h),fun _=> ?_⟩,fun _=>⟨rfl,rfl⟩⟩
   ·refine x4c (f:=37) (by kernel_rfl) (by with_reducible first|exact dcR .. |exact y0i .. |exact y0k .. |exact x9r .. |exact y0l .. |exact y0j .. |exact dcQ .. |exact x9s ..) (by kernel_rfl) rfl ?_
    rw[v2w]
    simp only [b37,stD,go1,e0,e1,e2,h1,h2,x3b,x1l]
    rw[←show isT l i x=(decide (tb (tkA l i).s=tb x)&&(decide ((tkA l i).k=1) || decide ((tkA l i).k=5)))from rfl,hT];rfl
   ·simp only [tkR,hT];exact⟨trivial,trivial⟩
  |false=>
   refine⟨false,⟨i,true,a,w⟩,?_,⟨a0m _,hs,fun h=>(by cases h),fun _=> ?_⟩,fun h=>(by cases h)⟩
   ·refine x4c (f:=37) (by kernel_rfl) (by with_reducible first|exact dcR .. |exact y0i .. |exact y0k .. |exact x9r .. |exact y0l .. |exact y0j .. |exact dcQ .. |exact x9s ..) (by kernel_rfl) rfl ?_
    rw[v2w]
    simp only [b37,stD,go1,e0,e1,e2,h1,h2,x3b,x1l]
    rw[←show isT l i x=(decide (tb (tkA l i).s=tb x)&&(decide ((tkA l i).k=1) || decide ((tkA l i).k=5)))from rfl,hT];rfl
   ·simp only [tkR,hT];exact⟨trivial,trivial⟩
theorem y1x (p:Nat)(hp:p < l.length)(c:Int): ∃s',cF 1000042 (kRF (p:Int) c (x0a l) (s.i:Int) en s.b s.a s.w)=some (.val (stD l en s'))∧x4d l (w4y p c) s () s'∧s'.b=false∧s'.i=s.i:=by
 have h1:=x5t hp
 have h2:=x3d hp
 obtain⟨i,b,a,w⟩:=s
 simp only at hs
 cases b with
 |false=>
  refine⟨⟨i,false,a,w⟩,?_,x2i hs rfl,rfl,rfl⟩
  refine x4c (f:=42) (by kernel_rfl) (by with_reducible first|exact dcR .. |exact y0i .. |exact y0k .. |exact x9r .. |exact y0l .. |exact y0j .. |exact dcQ .. |exact x9s ..) (by kernel_rfl) rfl ?_
  rw[v9j]
  simp only [b42,stD,go1]
 |true=>
  refine⟨⟨i,false,(tkA l p).a,c⟩,?_,⟨a0m _,hs,fun h=>(by cases h),fun _=>⟨rfl,rfl,rfl⟩⟩,rfl,rfl⟩
  refine x4c (f:=42) (by kernel_rfl) (by with_reducible first|exact dcR .. |exact y0i .. |exact y0k .. |exact x9r .. |exact y0l .. |exact y0j .. |exact dcQ .. |exact x9s ..) (by kernel_rfl) rfl ?_
  rw[v9j]
  simp only [b42,stD,go1,h1,h2,x3b]
  rfl
theorem u1c (k:Nat)(hk:k < 6): ∃v s',cF 1000086 (kRI (k:Int) (x0a l) (s.i:Int) en s.b s.a s.w)=some (.val (x3b v++stD l en s'))∧x4d l (y1c l (k:Int)) s v s':=by
 have hf:=hl.few
 have h1:=x5t hs
 have h2:=x3d hs
 have h3:=u4g (tkA l s.i).s
 have e1:IntKind.i64.wrap ((s.i:Int)+1)=((s.i+1:Nat):Int):=by rw[x0c (n:=l.length) hs (by omega)];rfl
 obtain⟨s',hf1,hp1,hp2,hp3⟩:=y1x hl en s hs s.i hs 2
 cases hb:s.b with
 |false=>
  rw[hb]at hf1
  refine⟨⟨0,bs [],0,0⟩,s',?_,?_⟩
  ·refine x4c (f:=86) (by kernel_rfl) (by with_reducible first|exact dcR .. |exact y0i .. |exact y0k .. |exact x9r .. |exact y0l .. |exact y0j .. |exact dcQ .. |exact x9s ..) (by kernel_rfl) rfl ?_
   rw[v2u]
   simp only [b86,oV,oT,stD,a0e,a0g,go1,h1,h2,x3b,hf1]
   rfl
  ·have e:=hp1.bad hb
   subst e
   exact x2i hs hb
 |true=>
  rw[hb]at hf1
  cases hT:decide ((tkA l s.i).k=(k:Int))&& !(decide ((k:Int)=1)&&y0o (tb (tkA l s.i).s))with
  |true=>
   refine⟨tkA l s.i,⟨s.i+1,true,s.a,s.w⟩,?_,?_⟩
   ·refine x4c (f:=86) (by kernel_rfl) (by with_reducible first|exact dcR .. |exact y0i .. |exact y0k .. |exact x9r .. |exact y0l .. |exact y0j .. |exact dcQ .. |exact x9s ..) (by kernel_rfl) rfl ?_
    rw[v2u]
    simp only [b86,oV,oT,stD,a0e,a0g,go1,h1,h2,x3b,h3,hf1,e1]
    revert hT
    cases decide ((tkA l s.i).k=(k:Int))<;>cases decide ((k:Int)=1)<;>cases y0o (tb (tkA l s.i).s)<;>intro hT<;>first|(cases hT;done)|rfl
   ·have hk6:(tkA l s.i).k≠6:=by
     simp only [a0p,a0t]at hT
     omega
    refine⟨Nat.le_succ _,hl.next hs hk6,fun h=>(by rw[hb]at h;cases h),fun _=> ?_⟩
    unfold y1c
    rw[hT]
    exact⟨rfl,rfl⟩
  |false=>
   refine⟨⟨0,bs [],0,0⟩,s',?_,?_⟩
   ·refine x4c (f:=86) (by kernel_rfl) (by with_reducible first|exact dcR .. |exact y0i .. |exact y0k .. |exact x9r .. |exact y0l .. |exact y0j .. |exact dcQ .. |exact x9s ..) (by kernel_rfl) rfl ?_
    rw[v2u]
    simp only [b86,oV,oT,stD,a0e,a0g,go1,h1,h2,x3b,h3,hf1,e1]
    revert hT
    cases decide ((tkA l s.i).k=(k:Int))<;>cases decide ((k:Int)=1)<;>cases y0o (tb (tkA l s.i).s)<;>intro hT<;>first|(cases hT;done)|rfl|(simp only [go1,Nat.reduceAdd,Int.reduceEq,Int.reduceLT,Int.reduceLE,Int.reduceSub,Int.reduceAdd,Bool.not_true,a2m,hf1];done)
   ·refine⟨hp1.le,hp1.lt,hp1.bad,fun h=> ?_⟩
    have g:=hp1.good h
    unfold y1c
    rw[hT]
    exact g
theorem x5l (ws:List ByteArray)(hw:ws.length≤1000): ∃s',cF 1000087 (kRN (x0e ws) (x0a l) (s.i:Int) en s.b s.a s.w)=some (.val [.sl 4 (x0a l), .int .i64 (s'.i:Int), .bool s'.b, .int .i64 s'.a, .int .i64 s'.w, .sl 1 (x0e ws), .sl 2 en])∧x4d l (x3m l ws) s () s':=by
 refine z0r (f:=87) (by kernel_rfl) (by with_reducible first|exact dcR .. |exact y0i .. |exact y0k .. |exact x9r .. |exact y0l .. |exact y0j .. |exact dcQ .. |exact x9s ..) (by kernel_rfl) rfl ?_
 rw[q4k]
 simp only [b87,oV,oR,go1,Nat.reduceAdd]
 have e1:(x0e ws).length=ws.length:=x0f ws
 refine x4t (σ:=Nat × St) (ρ:=St) (fun x=>[.int .i64 ((x0e ws).length:Int), .int .i64 (x.1:Int), .sl 4 (x0a l), .int .i64 (x.2.i:Int), .bool x.2.b, .int .i64 x.2.a, .int .i64 x.2.w, .sl 1 (x0e ws), .sl 2 en]) (fun x=>x.1≤ws.length∧x.2.i < l.length) (fun x=>ws.length - x.1) (fun x y=>x4d l (x3m l (ws.drop x.1)) x.2 () y) ?_ (0,s) ⟨a0r _,hs⟩
 rintro⟨k,s⟩ ⟨hk,hs⟩
 simp only at hk hs ⊢
 by_cases hlt:k < ws.length
 ·left
  have e3:sy.rown (x0e ws) k= [.str ws[k]]:=by
   show(x0e ws).getD k []=_
   rw[a0d];simp [x0e,v8e,hlt]
  obtain⟨v,s1,h1,r1,_⟩:=x6r hl en s hs ws[k]
  have e2:x3m l (ws.drop k)=(tkR l ws[k]).bind fun v=>match v with
      |true=>x3m l (ws.drop (k+1))
      |false=>fun i=> .bad i 2:=by
   funext i
   unfold x3m RM.bind tkR
   rw[List.drop_eq_getElem_cons hlt,x1f]
   cases isT l i ws[k]<;>rfl
  cases v with
  |true=>
   refine⟨(k+1,s1),?_,⟨hlt,r1.lt⟩,by simp only;omega,fun y hy=> ?_⟩
   ·simp only [go1,stD,e1,x0n hlt,x0p hlt,a0h,e3,h1]
    rw[x0c hlt (by omega)];rfl
   ·rw[e2]
    exact r1.bind hy
  |false=>
   obtain⟨s2,h2,r2,_,_⟩:=y1x hl en s1 r1.lt s1.i r1.lt 2
   refine⟨(k+1,s2),?_,⟨hlt,r2.lt⟩,by simp only;omega,fun y hy=> ?_⟩
   ·simp only [go1,stD,e1,x0n hlt,x0p hlt,a0h,e3,h1,h2]
    rw[x0c hlt (by omega)];rfl
   ·rw[e2]
    refine r1.bind ⟨a1o r2.le hy.le,hy.lt,fun hb=> ?_,fun hb=> ?_⟩
    ·have e:=r2.bad hb
     subst e
     exact hy.bad hb
    ·have g:=r2.good hb
     have e:=hy.bad g.1
     subst e
     exact g
 ·right
  have:k=ws.length:=by omega
  subst this
  refine⟨s,?_,?_⟩
  ·simp only [go1,e1,x0h]
  ·rw[List.drop_length]
   exact Post.ret hs
end
end Go.Vm
end

section
set_option maxRecDepth 100000
set_option maxHeartbeats 4000000
namespace Go.Vm
open Go.Proofs
def y2p (l:List Tk)(k:Int):Nat→List ByteArray→RM (List ByteArray)
 |0,acc=>RM.ret acc
 |n+1,acc=>(tkR l (bs [44])).bind fun v=>match v with
  |true=>(y1c l k).bind fun t=>y2p l k n (acc++[t.s])
  |false=>RM.ret acc
def z6h (l:List Tk)(k:Int):RM (List ByteArray):=(y1c l k).bind fun t=>y2p l k l.length [t.s]
theorem x3a (acc:List ByteArray)(x:ByteArray):x0e (acc++[x])=x0e acc++[[.str x]]:=by simp [x0e,v8e]
section
variable {l : List Tk} (hl : LOK l) (en : LL) (s : St) (hs : s.i < l.length)
include hl hs
theorem u4c (k:Nat)(hk:k < 6): ∃x:List ByteArray × St,cF 1000088 (kRI (k:Int) (x0a l) (s.i:Int) en s.b s.a s.w)=some (.val (.sl 1 (x0e x.1)::stD l en x.2))∧x4d l (z6h l (k:Int)) s x.1 x.2:=by
 have hf:=hl.few
 obtain⟨t,s0,h0,r0⟩:=u1c hl en s hs k hk
 refine z0r (f:=88) (by kernel_rfl) (by with_reducible first|exact dcR .. |exact y0i .. |exact y0k .. |exact x9r .. |exact y0l .. |exact y0j .. |exact dcQ .. |exact x9s ..) (by kernel_rfl) rfl ?_
 rw[q4j]
 simp only [b88,oV,oT,stD,a0e,a0g,go1,Nat.reduceAdd,h0,x3b]
 refine(x4t (σ:=Nat × List ByteArray × St) (ρ:=List ByteArray × St) (c:=fun x=>PRes.val [.sl 1 (x0e x.1), .sl 4 (x0a l), .int .i64 (x.2.i:Int), .bool x.2.b, .int .i64 x.2.a, .int .i64 x.2.w, .sl 2 en]) (fun x=>[.int .i64 (k:Int), .sl 4 (x0a l), .int .i64 (x.2.2.i:Int), .bool x.2.2.b, .int .i64 x.2.2.a, .int .i64 x.2.2.w, .sl 2 en, .sl 1 (x0e x.2.1)])
  (fun x=>l.length - x.2.2.i≤x.1∧x.2.1.length≤x.2.2.i+1∧x.2.2.i < l.length) (fun x=>x.1) (fun x y=>x4d l (y2p l k x.1 x.2.1) x.2.2 y.1 y.2) ?_ (l.length,[t.s],s0) ⟨by simp only;omega,by simp,r0.lt⟩).imp fun x h=>⟨h.1,r0.bind h.2⟩
 rintro⟨n,acc,s⟩ ⟨hn,ha,hs⟩
 simp only at hn ha hs ⊢
 obtain⟨v,s1,h1,r1,hv⟩:=x6r hl en s hs (bs [44])
 obtain⟨n,rfl⟩: ∃m,n=m+1:=⟨n - 1,by omega⟩
 cases v with
 |true=>
  left
  obtain⟨_,hi⟩:=hv rfl
  obtain⟨t,s2,h2,r2⟩:=u1c hl en s1 r1.lt k hk
  refine⟨(n,acc++[t.s],s2),?_,⟨?_,?_,r2.lt⟩,a1a _,fun y hy=>r1.bind (r2.bind hy)⟩
  ·simp only [go1,stD,a0e,a0g,h1,h2,x3b]
   have e:=x6p (x0e acc) [[.str t.s]] 16 (by rw[x0f];simp only [a0f,a0i];omega)
   simp only [go1,e]
   rw[x3a]
  ·have:=r2.le;simp only;omega
  ·have:=r2.le;simp only [a0j,a0f,a0i];omega
 |false=>
  right
  refine⟨(acc,s1),?_,r1.bind (Post.ret r1.lt)⟩
  simp only [go1,stD,h1]
end
abbrev En:=ByteArray × List ByteArray
def z4l (e:En):List D:=[.str e.1, .sl 1 (x0e e.2)]
def x0g (l:List En):LL:=l.map z4l
theorem x1b (l:List En):(x0g l).length=l.length:=by simp [x0g]
def v1e (l:List Tk):RM En:=(y1c l 1).bind fun t=>(x3m l [bs [123]]).bind fun _=>(z6h l 2).bind fun cs=>(x3m l [bs [125],bs [59]]).bind fun _=>RM.ret (t.s,cs)
section
variable {l : List Tk} (hl : LOK l) (en : LL) (s : St) (hs : s.i < l.length)
include hl hs
theorem w5x: ∃x:En × St,cF 1000038 (kR (x0a l) (s.i:Int) en s.b s.a s.w)=some (.val (z4l x.1++stD l en x.2))∧x4d l (v1e l) s x.1 x.2:=by
 obtain⟨t,s1,h1,r1⟩:=u1c hl en s hs 1 (by omega)
 obtain⟨s2,h2,r2⟩:=x5l hl en s1 r1.lt [bs [123]] (by simp)
 obtain⟨⟨cs,s3⟩,h3,r3⟩:=u4c hl en s2 r2.lt 2 (by omega)
 simp only at h3 r3
 obtain⟨s4,h4,r4⟩:=x5l hl en s3 r3.lt [bs [125],bs [59]] (by simp)
 rw[←x8i]at h2
 rw[←w9z]at h4
 refine⟨((t.s,cs),s4),?_,r1.bind (r2.bind (r3.bind (r4.bind (Post.ret r4.lt))))⟩
 have h1:cF 1000086 (kRI 1 (x0a l) (s.i:Int) en s.b s.a s.w)=_:=h1
 have h3:cF 1000088 (kRI 2 (x0a l) (s2.i:Int) en s2.b s2.a s2.w)=_:=h3
 refine x4c (f:=38) (by kernel_rfl) (by with_reducible first|exact dcR .. |exact y0i .. |exact y0k .. |exact x9r .. |exact y0l .. |exact y0j .. |exact dcQ .. |exact x9s ..) (by kernel_rfl) rfl ?_
 rw[q4o]
 simp only [b38,oV,oR,oT,stD,a0e,a0g,go1,Nat.reduceAdd,h1,h2,h3,h4,x3b,z4l]
end
def w2c (ens:List En)(nm:ByteArray):Option Nat:=ens.findIdx? fun e=>decide (tb e.1=tb nm)
def z0u (ens:List En)(t:Tk):RM (Int × Int):=match w2c ens t.s with
 |some x=>RM.ret (3,(x:Int))
 |none=>fun j=> .bad (j - 1) 2
def v7g (l:List Tk)(ens:List En):RM (Int × Int):=(tkR l (bs [105,110,116])).bind fun v=>match v with
 |true=>RM.ret (1,0)
 |false=>(tkR l (bs [98,111,111,108])).bind fun v=>match v with
  |true=>RM.ret (2,0)
  |false=>(y1c l 1).bind (z0u ens)
theorem y1b {l:List Tk}{k:Int}{i j:Nat}{t:Tk}(h:y1c l k i= .ok t j):t=tkA l i∧j=i+1:=by
 unfold y1c at h
 split at h
 ·cases h;exact⟨rfl,rfl⟩
 ·cases h
section
variable {l : List Tk} (hl : LOK l) (ens : List En) (hE : ens.length ≤ 1000000) (s : St) (hs : s.i < l.length)
include hl hs
theorem z5p {α:Type}{k:Int}{t:Tk}{s1 s2:St}{u:α}(r:x4d l (y1c l k) s t s1)(f:x4d l (w4y (α:=Unit) s.i 2) s1 () s2):x4d l (fun j=> .bad (j - 1) 2:RM α) s1 u s2:=by
 refine⟨f.le,f.lt,f.bad,fun hb=> ?_⟩
 have g:=f.good hb
 have hb0:s.b=true:=by
  cases h:s.b with
  |true=>rfl
  |false=>have e:=r.bad h;rw[e,h]at hb;cases hb
 have g1:=r.good hb0
 cases hm:y1c l k s.i with
 |ok a j=>
  rw[hm]at g1
  obtain⟨_,e⟩:=g1
  have ej:=(y1b hm).2
  have:s1.i - 1=s.i:=by rw[e,ej];simp
  rw[this]
  exact g
 |bad p c=>
  rw[hm]at g1
  rw[g1.1]at hb;cases hb
include hE
theorem w5z: ∃x:(Int × Int) × St,cF 1000201 (kR (x0a l) (s.i:Int) (x0g ens) s.b s.a s.w)=some (.val (.int .i64 x.1.1:: .int .i64 x.1.2:: .int .i64 0::stD l (x0g ens) x.2))∧x4d l (v7g l ens) s x.1 x.2:=by
 have hf:=hl.few
 obtain⟨v,s1,h1,r1,_⟩:=x6r hl (x0g ens) s hs (bs [105,110,116])
 cases v with
 |true=>
  refine⟨((1,0),s1),?_,r1.bind (Post.ret r1.lt)⟩
  refine x4c (f:=201) (by kernel_rfl) (by with_reducible first|exact dcR .. |exact y0i .. |exact y0k .. |exact x9r .. |exact y0l .. |exact y0j .. |exact dcQ .. |exact x9s ..) (by kernel_rfl) rfl ?_
  rw[u1l]
  simp only [q5u,oV,oT,stD,go1,Nat.reduceAdd,Int.reduceLT,h1]
 |false=>
  obtain⟨v,s2,h2,r2,_⟩:=x6r hl (x0g ens) s1 r1.lt (bs [98,111,111,108])
  cases v with
  |true=>
   refine⟨((2,0),s2),?_,r1.bind (r2.bind (Post.ret r2.lt))⟩
   refine x4c (f:=201) (by kernel_rfl) (by with_reducible first|exact dcR .. |exact y0i .. |exact y0k .. |exact x9r .. |exact y0l .. |exact y0j .. |exact dcQ .. |exact x9s ..) (by kernel_rfl) rfl ?_
   rw[u1l]
   simp only [q5u,oV,oT,stD,go1,Nat.reduceAdd,Int.reduceLT,h1,h2]
  |false=>
   obtain⟨t,s3,h3,r3⟩:=u1c hl (x0g ens) s2 r2.lt 1 (by omega)
   have h3:cF 1000086 (kRI 1 (x0a l) (s2.i:Int) (x0g ens) s2.b s2.a s2.w)=_:=h3
   obtain⟨s4,h4,r4,_⟩:=y1x hl (x0g ens) s3 r3.lt s2.i r2.lt 2
   have hback:=z5p (u:=((0,0):Int × Int)) hl s2 r2.lt r3 r4
   refine z0r (f:=201) (by kernel_rfl) (by with_reducible first|exact dcR .. |exact y0i .. |exact y0k .. |exact x9r .. |exact y0l .. |exact y0j .. |exact dcQ .. |exact x9s ..) (by kernel_rfl) rfl ?_
   rw[u1l]
   simp only [q5u,oV,oT,stD,a0e,a0g,go1,Nat.reduceAdd,Int.reduceLT,h1,h2,h3,x3b]
   refine(x4t (σ:=Nat) (ρ:=(Int × Int) × St) (c:=fun x=>PRes.val [.int .i64 x.1.1, .int .i64 x.1.2, .int .i64 0, .sl 4 (x0a l), .int .i64 (x.2.i:Int), .bool x.2.b, .int .i64 x.2.a, .int .i64 x.2.w, .sl 2 (x0g ens)]) (fun k=>[.int .i64 ((x0g ens).length:Int), .int .i64 (k:Int), .sl 4 (x0a l), .int .i64 (s3.i:Int), .bool s3.b, .int .i64 s3.a, .int .i64 s3.w, .sl 2 (x0g ens), .int .i64 0, .int .i64 0, .int .i64 0, .str t.s])
    (fun k=>k≤ens.length∧ ∀(j:Nat) (h:j < ens.length),j < k→decide (tb ens[j].1=tb t.s)=false) (fun k=>ens.length - k) (fun _ y=>x4d l (z0u ens t) s3 y.1 y.2) ?_ 0 ⟨a0r _,fun j _ h=>(by omega)⟩).imp fun x h=>⟨h.1,r1.bind (r2.bind (r3.bind h.2))⟩
   rintro k ⟨hk,hi⟩
   by_cases hlt:k < ens.length
   ·have e3:sy.rown (x0g ens) k= [.str ens[k].1, .sl 1 (x0e ens[k].2)]:=by
     show(x0g ens).getD k []=_
     rw[a0d];simp [x0g,z4l,hlt]
    have e4:decide ((k:Int) < 0)=false:=x1c (by omega)
    cases hp:decide (tb ens[k].1=tb t.s)with
    |true=>
     right
     refine⟨((3,(k:Int)),s3),?_,?_⟩
     ·simp only [go1,x1b,x0n hlt,x0p hlt,hlt,a0h,e3,x1l,hp,e4]
     ·have e:w2c ens t.s=some k:=List.findIdx?_eq_some_iff_getElem.2 ⟨hlt,hp,fun j hj=>by rw[hi j (by omega) hj];simp⟩
      unfold z0u
      rw[e]
      exact Post.ret r3.lt
    |false=>
     left
     refine⟨k+1,?_,⟨hlt,fun j h hj=> ?_⟩,by omega,fun _ h=>h⟩
     ·simp only [go1,x1b,x0n hlt,x0p hlt,hlt,a0h,e3,x1l,hp]
      rw[x0c hlt (by omega)];rfl
     ·by_cases e:j=k
      ·subst e;exact hp
      ·exact hi j h (by omega)
   ·right
    have:k=ens.length:=by omega
    subst this
    refine⟨((0,0),s4),?_,?_⟩
    ·simp only [go1,x1b,x0h,h4,stD]
    ·have e:w2c ens t.s=none:=List.findIdx?_eq_none_iff.2 fun x hx=>by
      obtain⟨j,hj,rfl⟩:=List.getElem_of_mem hx
      exact hi j hj hj
     unfold z0u
     rw[e]
     exact hback
end
end Go.Vm
end

section
set_option maxRecDepth 100000
set_option maxHeartbeats 4000000
namespace Go.Vm
open Go.Proofs
def Ib (b:Nat)(l:List Tk)(i:Nat):Prop:=b≤i∧i < l.length
def Gd {α:Type}(b:Nat)(l:List Tk):Rs α→Prop
 | .out=>True
 | .ok _ j=>Ib b l j
 | .bad j=>Ib b l j
section
variable {l : List Tk} {b : Nat}
theorem x0y {α β:Type}{r:Rs α}{f:α→Nat→Rs β}(h:Gd b l r)(h2: ∀a k,Ib b l k→Gd b l (f a k)):Gd b l (r.bind f):=by
 cases r with
 |ok a k=>exact h2 a k h
 |bad k=>exact h
 |out=>trivial
theorem y8t {σ ρ:Type}{st:σ→σ ⊕ Rs ρ}(P:σ→Prop)(h: ∀x,P x→(∃y,st x= .inl y∧P y)∨ ∃r,st x= .inr r∧Gd b l r): ∀(n:Nat) (x:σ),P x→Gd b l (x1q st n x)
 |0,_,_=>trivial
 |n+1,x,hx=>by
  unfold x1q
  rcases h x hx with⟨y,h1,h2⟩|⟨r,h1,h2⟩
  ·rw[h1];exact y8t P h n y h2
  ·rw[h1];exact h2
variable (hl : LOK l)
include hl
theorem nk {i:Nat}(hi:Ib b l i)(h:(tkA l i).k≠6):Ib b l (i+1):=⟨Nat.le_succ_of_le hi.1,hl.next hi.2 h⟩
theorem nx {i:Nat}{w:ByteArray}(hi:Ib b l i)(h:isT l i w=true):Ib b l (i+1):=nk hl hi (x0t h)
theorem y8s {i:Nat}(hi:Ib b l i):Gd b l (x2l l i):=by
 cases h:x2l l i with
 |ok n j=>exact⟨by have:=x5n h;have:=hi.1;omega,x4s hl hi.2 h⟩
 |out=>trivial
 |bad j=>
  unfold x2l at h
  split at h<;>cases h
  exact hi
theorem v8t {i:Nat}(hi:Ib b l i):Gd b l (y3k l i):=by
 cases h:y3k l i with
 |ok n j=>exact⟨by unfold y3k at h;split at h<;>cases h;have:=hi.1;omega,x9v hl hi.2 h⟩
 |out=>trivial
 |bad j=>
  unfold y3k at h
  split at h<;>cases h
  exact hi
theorem x4x: ∀(w:List ByteArray) {i:Nat},Ib b l i→Gd b l (x1f l w i)
 | [],i,hi=>hi
 |x::w,i,hi=>by
  unfold x1f
  split
  ·rename_i h;exact x4x w (nx hl hi h)
  ·exact hi
theorem u0p {i:Nat}(hi:Ib b l i):Gd b l (x7c l i):=by
 unfold x7c
 split
 ·rename_i h
  exact x0y (y8s hl (nx hl hi h)) fun _ _ hk=>hk
 ·split
  ·exact x0y (y8s hl hi) fun _ _ hk=>hk
  ·exact x0y (v8t hl hi) fun _ _ hk=>x0y (x4x hl _ hk) fun _ _ hk=>x0y (y8s hl hk) fun _ _ hk=>x0y (x4x hl _ hk) fun _ _ hk=>hk
variable {n : Nat} {p : PR} (hp : ∀ nt i, Ib b l i → Gd b l (p nt i))
include hp
theorem z3m (side:Nt)(a m:Nat){i:Nat}(hi:Ib b l i):Gd b l (x3u l n p side a m i):=by
 refine x0y (hp _ _ hi) fun e k hk=>y8t (fun x=>Ib b l x.2) (fun x hx=> ?_) n (e,k) hk
 obtain⟨e2,i2⟩:=x
 rw[x3z]
 split
 ·exact .inr ⟨_,rfl,hx⟩
 ·rename_i o ho
  have h3:=hp side (i2+1) (nk hl hx (x2k ho).1)
  split
  ·rename_i hq;rw[hq]at h3;exact .inl ⟨_,rfl,h3⟩
  ·rename_i hq;rw[hq]at h3;exact .inr ⟨_,rfl,h3⟩
  ·exact .inr ⟨_,rfl,trivial⟩
theorem v0g (en:ByteArray){i:Nat}(hi:Ib b l i):Gd b l (y0q l n p en i):=by
 refine x0y (hp _ _ hi) fun e k hk=>y8t (fun x=>Ib b l x.2) (fun x hx=> ?_) n ([e],k) hk
 obtain⟨e2,i2⟩:=x
 rw[x7y]
 split
 ·rename_i ht
  have h3:=hp .arrow (i2+1) (nx hl hx ht)
  split
  ·rename_i hq;rw[hq]at h3;exact .inl ⟨_,rfl,h3⟩
  ·rename_i hq;rw[hq]at h3;exact .inr ⟨_,rfl,h3⟩
  ·exact .inr ⟨_,rfl,trivial⟩
 ·exact .inr ⟨_,rfl,x0y (x4x hl _ hx) fun _ _ hk=>hk⟩
theorem w2h {i:Nat}(hi:Ib b l i):Gd b l (y3t l n p i):=by
 refine x0y (hp _ _ hi) fun e k hk=>y8t (fun x=>Ib b l x.2) (fun x hx=> ?_) n (e,k) hk
 obtain⟨e2,i2⟩:=x
 rw[y2l]
 split
 ·rename_i ht
  have h3:Gd b l (((p .arrow (i2+1)).bind fun a j=>(x1f l [bs [93]] j).bind fun _ j=> .ok a j:Rs Ex)):=x0y (hp .arrow _ (nx hl hx ht)) fun _ _ hk=>x0y (x4x hl _ hk) fun _ _ hk=>hk
  split
  ·rename_i hq;rw[hq]at h3;exact .inl ⟨_,rfl,h3⟩
  ·rename_i hq;rw[hq]at h3;exact .inr ⟨_,rfl,h3⟩
  ·exact .inr ⟨_,rfl,trivial⟩
 ·split
  ·rename_i ht
   have h3:=u0p hl (nx hl hx ht)
   split
   ·rename_i hq;rw[hq]at h3;exact .inl ⟨_,rfl,h3⟩
   ·rename_i hq;rw[hq]at h3;exact .inr ⟨_,rfl,h3⟩
   ·exact .inr ⟨_,rfl,trivial⟩
  ·exact .inr ⟨_,rfl,hx⟩
theorem u3h (nm:ByteArray)(es:List Ex){i:Nat}(hi:Ib b l i):Gd b l (y0s l p nm es i):=by
 unfold y0s
 split
 ·rename_i ht;exact x0y (hp _ _ (nx hl hi ht)) fun _ _ hk=>hk
 ·exact hi
theorem v5j {i:Nat}(hi:Ib b l i):Gd b l (x5z l n p i):=by
 refine x0y (y8s hl hi) fun _ _ hk=>x0y (x4x hl _ hk) fun _ _ hk=>x0y (y8t (fun x=>Ib b l x.2.2.1) (fun x hx=> ?_) n _ hk) fun _ _ hk=>hk
 obtain⟨ar,es,i2,b⟩:=x
 cases b with
 |false=>exact .inr ⟨_,rfl,hx⟩
 |true=>
  rw[x4j]
  have h3:Gd b l ((y3k l i2).bind fun a j=>(x1f l [bs [45,62]] j).bind fun _ j=>(p .arrow j).bind fun e j=>(x1f l [bs [41]] j).bind fun _ j=> .ok (a,e) j:Rs (ByteArray × Ex)):=x0y (v8t hl hx) fun _ _ hk=>x0y (x4x hl _ hk) fun _ _ hk=>x0y (hp _ _ hk) fun _ _ hk=>x0y (x4x hl _ hk) fun _ _ hk=>hk
  split
  ·rename_i hq
   rw[hq]at h3
   split
   ·rename_i ht;exact .inl ⟨_,rfl,nx hl h3 ht⟩
   ·exact .inl ⟨_,rfl,h3⟩
  ·rename_i hq;rw[hq]at h3;exact .inr ⟨_,rfl,h3⟩
  ·exact .inr ⟨_,rfl,trivial⟩
theorem w2f {i:Nat}(hi:Ib b l i):Gd b l (y2e l n p i):=by
 unfold y2e
 split
 ·rename_i ht;exact nx hl hi ht
 split
 ·rename_i ht;exact nx hl hi ht
 split
 ·rename_i ht;exact x0y (v0g hl hp _ (nx hl hi ht)) fun _ _ hk=>hk
 split
 ·rename_i ht
  unfold x7p
  refine x0y (hp _ _ (nx hl hi ht)) fun _ j hk=> ?_
  split
  ·rename_i ht
   exact x0y (x4x hl _ (nx hl hk ht)) fun _ _ hk=>x0y (hp _ _ hk) fun _ _ hk=>x0y (x4x hl _ hk) fun _ _ hk=>x0y (hp _ _ hk) fun _ _ hk=>x0y (x4x hl _ hk) fun _ _ hk=>hk
  ·exact x0y (x4x hl _ hk) fun _ _ hk=>hk
 split
 ·rename_i ht;exact v5j hl hp (nx hl hi ht)
 split
 ·rename_i ht
  exact x0y (hp _ _ (nx hl hi ht)) fun _ _ hk=>x0y (x4x hl _ hk) fun _ _ hk=>x0y (hp _ _ hk) fun _ _ hk=>x0y (x4x hl _ hk) fun _ _ hk=>x0y (hp _ _ hk) fun _ _ hk=>hk
 ·refine x0y (y8s hl hi) fun _ j hk=> ?_
  split
  ·rename_i ht
   have hj:=nx hl hk ht
   unfold y3g
   split
   ·rename_i ht;exact u3h hl hp _ _ (nx hl hj ht)
   ·exact x0y (v0g hl hp _ hj) fun _ _ hk=>u3h hl hp _ _ hk
  ·exact hk
theorem w2g (nt:Nt){i:Nat}(hi:Ib b l i):Gd b l (ntS l n p nt i):=by
 cases nt with
 |or=>exact z3m hl hp _ _ _ hi
 |and=>exact z3m hl hp _ _ _ hi
 |sum=>exact z3m hl hp _ _ _ hi
 |prod=>exact z3m hl hp _ _ _ hi
 |post=>exact w2h hl hp hi
 |arrow=>
  refine x0y (hp _ _ hi) fun _ j hk=> ?_
  split
  ·rename_i ht;exact x0y (hp _ _ (nx hl hk ht)) fun _ _ hk=>hk
  ·exact hk
 |fby=>
  refine x0y (hp _ _ hi) fun _ j hk=> ?_
  split
  ·rename_i ht;exact x0y (hp _ _ (nx hl hk ht)) fun _ _ hk=>hk
  ·exact hk
 |cmp=>
  refine x0y (hp _ _ hi) fun _ j hk=> ?_
  split
  ·exact hk
  ·rename_i o ho;exact x0y (hp _ _ (nk hl hk (x2k ho).1)) fun _ _ hk=>hk
 |un=>
  show Gd b l (unS l p i)
  unfold unS
  split
  ·rename_i ht;exact x0y (hp _ _ (nx hl hi ht)) fun _ _ hk=>hk
  split
  ·rename_i ht;exact x0y (hp _ _ (nx hl hi ht)) fun _ _ hk=>hk
  split
  ·rename_i ht;exact x0y (hp _ _ (nx hl hi ht)) fun _ _ hk=>hk
  ·exact hp _ _ hi
 |atom=>
  show Gd b l (y4m l n p i)
  have ne: ∀k:Int,decide ((tkA l i).k=k)=true→k≠6→Ib b l (i+1):=fun k h hk=>nk hl hi (by rw[a0c h];exact hk)
  unfold y4m
  split
  ·rename_i ht;exact ne _ ht (by decide)
  split
  ·rename_i ht;exact ne _ ht (by decide)
  split
  ·rename_i ht;exact ne _ ht (by decide)
  ·exact w2f hl hp hi
end
theorem v8s {l:List Tk}{b:Nat}(hl:LOK l): ∀(n:Nat) (nt:Nt) (i:Nat),Ib b l i→Gd b l (prs l n nt i)
 |0,_,_,_=>trivial
 |n+1,nt,i,hi=>w2g hl (v8s hl n) nt hi
theorem u2m {l:List Tk}(hl:LOK l){i:Nat}(hi:i < l.length){j:Nat}(h:y5m l i= .bad j):i≤j∧j < l.length:=by
 have:=v8s (b:=i) hl (x5u l) .arrow i ⟨a0m _,hi⟩
 unfold y5m at h
 rw[h]at this
 exact this
end Go.Vm
end

section
set_option maxRecDepth 100000
set_option maxHeartbeats 4000000
namespace Go.Vm
open Go.Proofs
section
variable {α : Type}
theorem hC {f:FuncId}{k:List V}{p:PRes}(h:cF f k=some p)(K:PRes→Option α):(eF.call f k).bind K=K p:=by rw[show eF.call f k=cF f k from rfl,h];rfl
theorem hB0 (v:Bool)(r:List D)(K:Bool→Option α):(opB (sy.cell (PRes.val (.bool v::r)).leaves 0)).bind K=K v:=rfl
theorem hI0 (v:Int)(r:List D)(K:Int→Option α):(opI (sy.cell (PRes.val (.int .i64 v::r)).leaves 0) .i64).bind K=K v:=rfl
theorem hI1 (d:D)(v:Int)(r:List D)(K:Int→Option α):(opI (sy.cell (PRes.val (d:: .int .i64 v::r)).leaves 1) .i64).bind K=K v:=rfl
theorem hI2 (d e:D)(v:Int)(r:List D)(K:Int→Option α):(opI (sy.cell (PRes.val (d::e:: .int .i64 v::r)).leaves 2) .i64).bind K=K v:=rfl
theorem hI3 (d e f:D)(v:Int)(r:List D)(K:Int→Option α):(opI (sy.cell (PRes.val (d::e::f:: .int .i64 v::r)).leaves 3) .i64).bind K=K v:=rfl
theorem hI4 (d e f g:D)(v:Int)(r:List D)(K:Int→Option α):(opI (sy.cell (PRes.val (d::e::f::g:: .int .i64 v::r)).leaves 4) .i64).bind K=K v:=rfl
theorem hL0 (k:Nat)(v:LL)(r:List D)(K:LL→Option α):(opL (sy.cell (PRes.val (.sl k v::r)).leaves 0) k).bind K=K v:=by
 show(opL (some (.sl k v)) k).bind K=K v
 unfold opL;simp
theorem hS0 (v:ByteArray)(r:List D)(K:ByteArray→Option α):(opS (sy.cell (PRes.val (.str v::r)).leaves 0)).bind K=K v:=rfl
theorem hS1 (d:D)(v:ByteArray)(r:List D)(K:ByteArray→Option α):(opS (sy.cell (PRes.val (d:: .str v::r)).leaves 1)).bind K=K v:=rfl
variable (l : List Tk) (en : LL) (s : St) (K : LL → Int → Bool → Int → Int → LL → Option α)
theorem hV0:oV sy (PRes.val (stD l en s)).leaves 0 K=K (x0a l) (s.i:Int) s.b s.a s.w en:=rfl
theorem hV1 (d:D):oV sy (PRes.val (d::stD l en s)).leaves 1 K=K (x0a l) (s.i:Int) s.b s.a s.w en:=rfl
theorem hV2 (d e:D):oV sy (PRes.val (d::e::stD l en s)).leaves 2 K=K (x0a l) (s.i:Int) s.b s.a s.w en:=rfl
theorem hV3 (d e f:D):oV sy (PRes.val (d::e::f::stD l en s)).leaves 3 K=K (x0a l) (s.i:Int) s.b s.a s.w en:=rfl
theorem hV4 (t:Tk):oV sy (PRes.val (x3b t++stD l en s)).leaves 4 K=K (x0a l) (s.i:Int) s.b s.a s.w en:=rfl
theorem hT4 (t:Tk)(r:List D)(K:Int→ByteArray→Int→Int→Option α):oT sy (PRes.val (x3b t++r)).leaves 0 K=K t.k t.s t.n t.a:=rfl
theorem hN0 (a b:LL)(i x y:Int)(q:Bool)(r:List D)(K:LL→Int→Bool→Option α):oR sy (PRes.val (.sl 4 a:: .int .i64 i:: .bool q::r)).leaves 0 K=K a i q:=rfl
theorem hN5 (d e f g h:D)(k:Nat)(v:LL)(r:List D)(K:LL→Option α):(opL (sy.cell (PRes.val (d::e::f::g::h:: .sl k v::r)).leaves 5) k).bind K=K v:=by
 show(opL (some (.sl k v)) k).bind K=K v
 unfold opL;simp
theorem hN6 (d e f g h i:D)(k:Nat)(v:LL)(r:List D)(K:LL→Option α):(opL (sy.cell (PRes.val (d::e::f::g::h::i:: .sl k v::r)).leaves 6) k).bind K=K v:=by
 show(opL (some (.sl k v)) k).bind K=K v
 unfold opL;simp
theorem hNt {β:Type}(a b:β):cond (sy.bnot true) a b=b:=rfl
theorem hNf {β:Type}(a b:β):cond (sy.bnot false) a b=a:=rfl
theorem hCt {β:Type}(a b:β):cond true a b=a:=rfl
theorem hCf {β:Type}(a b:β):cond false a b=b:=rfl
theorem hXt {β:Type}{c:Bool}(h:c=true)(a b:β):cond c a b=a:=by rw[h];rfl
theorem hXf {β:Type}{c:Bool}(h:c=false)(a b:β):cond c a b=b:=by rw[h];rfl
theorem hKt {ρ:Type}(c a b:Bool)(K:List D→Option ρ):x0q (cond c (some (.inl [.bool a])) (some (.inl [.bool b]))) K=K [.bool (cond c a b)]:=by cases c<;>rfl
theorem hB (v:Bool)(K:Bool→Option α):(opB (sy.cell [.bool v] 0)).bind K=K v:=rfl
end
def tyR (l:List Tk)(ens:List En):RM (Int × Int × Int):=(v7g l ens).bind fun b=>(tkR l (bs [91])).bind fun v=>match v with
 |false=>RM.ret (b.1,b.2,0)
 |true=>(y1c l 3).bind fun t=>match decide (t.n < 1) || decide (8 < t.n)with
  |true=>fun j=> .bad (j - 1) 2
  |false=>(x3m l [bs [93]]).bind fun _=>RM.ret (b.1,b.2,t.n)
def z4p (l:List Tk):RM (ByteArray × ByteArray):=fun i=>match x7c l i with
 | .ok w j=> .ok w j
 | .bad j=> .bad j 2
 | .out=> .bad 0 2
structure Dc where
 n:ByteArray
 k:Int
 e:Int
 c:Int
 o:ByteArray
 q:ByteArray
def z0p (d:Dc):List D:=[.str d.n, .int .i64 d.k, .int .i64 d.e, .int .i64 d.c, .str d.o, .str d.q]
def x0k (l:List Dc):LL:=l.map z0p
theorem x0v (l:List Dc):(x0k l).length=l.length:=by simp [x0k]
theorem z1z (l:List Dc)(d:Dc):x0k (l++[d])=x0k l++[z0p d]:=by simp [x0k]
def z3t (l:List Tk)(ens:List En):RM Dc:=(y1c l 1).bind fun t=>(x3m l [bs [58]]).bind fun _=>(tyR l ens).bind fun y=>(tkR l (bs [119,104,101,110])).bind fun v=>match v with
 |true=>(z4p l).bind fun w=>RM.ret ⟨t.s,y.1,y.2.1,y.2.2,w.1,w.2⟩
 |false=>RM.ret ⟨t.s,y.1,y.2.1,y.2.2,bs [],bs []⟩
section
variable {l : List Tk} (hl : LOK l) (ens : List En) (hE : ens.length ≤ 1000000) (s : St) (hs : s.i < l.length)
include hl hs
theorem w5q (hb:s.b=true)(en:LL): ∃x:(ByteArray × ByteArray) × St,cF 1000170 (kR (x0a l) (s.i:Int) en s.b s.a s.w)=some (.val (.str x.1.1:: .str x.1.2::stD l en x.2))∧x4d l (z4p l) s x.1 x.2:=by
 have h1:=w6e hl s.i hs
 cases hR:x7c l s.i with
 |out=>exact(z2m hl (x6y hl 0) s.i hR).elim
 |bad j=>
  have hg:=u0p (b:=s.i) hl ⟨a0m _,hs⟩
  rw[hR]at hg
  have hj:j < l.length:=hg.2
  obtain⟨s1,h2,r2,_⟩:=y1x hl en s hs j hj 2
  refine⟨((bs [],bs []),s1),?_,⟨r2.le,r2.lt,r2.bad,fun h=> ?_⟩⟩
  ·unfold u4t at h1
   rw[hR]at h1
   simp only [q5p]at h1
   refine x4c (f:=170) (by kernel_rfl) (by with_reducible first|exact dcR .. |exact y0i .. |exact y0k .. |exact x9r .. |exact y0l .. |exact y0j .. |exact dcQ .. |exact x9s ..) (by kernel_rfl) rfl ?_
   rw[v2z]
   simp only [q8w,oV,stD,go1,h1,h2]
  ·have g:=r2.good h
   unfold z4p
   rw[hR]
   exact g
 |ok w j=>
  refine⟨(w,⟨j,true,s.a,s.w⟩),?_,⟨y6a hl (x6y hl 0) hR,x9w hl hs hR,fun h=>(by rw[hb]at h;cases h),fun h=> ?_⟩⟩
  ·unfold u4t at h1
   rw[hR]at h1
   simp only [q5p]at h1
   refine x4c (f:=170) (by kernel_rfl) (by with_reducible first|exact dcR .. |exact y0i .. |exact y0k .. |exact x9r .. |exact y0l .. |exact y0j .. |exact dcQ .. |exact x9s ..) (by kernel_rfl) rfl ?_
   rw[v2z]
   simp only [q8w,oV,stD,go1,h1]
   rw[hb]
  ·unfold z4p
   rw[hR]
   exact⟨rfl,rfl⟩
include hE
theorem q8f: ∃x:(Int × Int × Int) × St,cF 1000169 (kR (x0a l) (s.i:Int) (x0g ens) s.b s.a s.w)=some (.val (.int .i64 x.1.1:: .int .i64 x.1.2.1:: .int .i64 x.1.2.2::stD l (x0g ens) x.2))∧x4d l (tyR l ens) s x.1 x.2:=by
 obtain⟨⟨b,s1⟩,h1,r1⟩:=w5z hl ens hE s hs
 simp only at h1 r1
 obtain⟨v,s2,h2,r2,_⟩:=x6r hl (x0g ens) s1 r1.lt (bs [91])
 cases v with
 |false=>
  refine⟨((b.1,b.2,0),s2),?_,r1.bind (r2.bind (Post.ret r2.lt))⟩
  refine x4c (f:=169) (by kernel_rfl) (by with_reducible first|exact dcR .. |exact y0i .. |exact y0k .. |exact x9r .. |exact y0l .. |exact y0j .. |exact dcQ .. |exact x9s ..) (by kernel_rfl) rfl ?_
  rw[u1m]
  unfold q5v
  simp only [↓hB0, ↓hI0, ↓hI1, ↓hI2, ↓hV1, ↓hV3, ↓hNf, ↓hC h1, ↓hC h2]
  rfl
 |true=>
  obtain⟨t,s3,h3,r3⟩:=u1c hl (x0g ens) s2 r2.lt 3 (by omega)
  have h3:cF 1000086 (kRI 3 (x0a l) (s2.i:Int) (x0g ens) s2.b s2.a s2.w)=_:=h3
  obtain⟨s4,h4,r4,_⟩:=y1x hl (x0g ens) s3 r3.lt s2.i r2.lt 2
  have hback:=z5p (u:=((b.1,b.2,0):Int × Int × Int)) hl s2 r2.lt r3 r4
  obtain⟨s5,h5,r5⟩:=x5l hl (x0g ens) s3 r3.lt [bs [93]] (by simp)
  rw[←x8i]at h5
  cases hc:decide (t.n < 1) || decide (8 < t.n)with
  |true=>
   refine⟨((b.1,b.2,0),s4),?_,r1.bind (r2.bind (r3.bind ?_))⟩
   ·have hx:cond (sy.ilt t.n 1) true (sy.ilt 8 t.n)=true:=by
     show cond (decide (t.n < 1)) true (decide (8 < t.n))=true
     revert hc;cases decide (t.n < 1)<;>cases decide (8 < t.n)<;>intro hc<;>first|rfl|cases hc
    refine x4c (f:=169) (by kernel_rfl) (by with_reducible first|exact dcR .. |exact y0i .. |exact y0k .. |exact x9r .. |exact y0l .. |exact y0j .. |exact dcQ .. |exact x9s ..) (by kernel_rfl) rfl ?_
    rw[u1m]
    unfold q5v
    simp only [↓hB0, ↓hI0, ↓hI1, ↓hI2, ↓hV0, ↓hV1, ↓hV3, ↓hV4, ↓hT4, ↓hNt, ↓hKt, ↓hB, ↓hC h1, ↓hC h2, ↓hC h3, ↓hC h4, ↓hXt hx]
    rfl
   ·simp only [hc];exact hback
  |false=>
   refine⟨((b.1,b.2,t.n),s5),?_,r1.bind (r2.bind (r3.bind ?_))⟩
   ·have hx:cond (sy.ilt t.n 1) true (sy.ilt 8 t.n)=false:=by
     show cond (decide (t.n < 1)) true (decide (8 < t.n))=false
     revert hc;cases decide (t.n < 1)<;>cases decide (8 < t.n)<;>intro hc<;>first|rfl|cases hc
    refine x4c (f:=169) (by kernel_rfl) (by with_reducible first|exact dcR .. |exact y0i .. |exact y0k .. |exact x9r .. |exact y0l .. |exact y0j .. |exact dcQ .. |exact x9s ..) (by kernel_rfl) rfl ?_
    rw[u1m]
    unfold q5v
    simp only [↓hB0, ↓hI0, ↓hI1, ↓hI2, ↓hI3, ↓hI4, ↓hV1, ↓hV3, ↓hV4, ↓hT4, ↓hN0, ↓hN5, ↓hN6, ↓hNt, ↓hKt, ↓hB, ↓hC h1, ↓hC h2, ↓hC h3, ↓hC h5, ↓hXf hx]
    rfl
   ·simp only [hc];exact r5.bind (Post.ret r5.lt)
theorem v2e: ∃x:Dc × St,cF 1000129 (kR (x0a l) (s.i:Int) (x0g ens) s.b s.a s.w)=some (.val (z0p x.1++stD l (x0g ens) x.2))∧x4d l (z3t l ens) s x.1 x.2:=by
 obtain⟨t,s1,h1,r1⟩:=u1c hl (x0g ens) s hs 1 (by omega)
 have h1:cF 1000086 (kRI 1 (x0a l) (s.i:Int) (x0g ens) s.b s.a s.w)=_:=h1
 obtain⟨s2,h2,r2⟩:=x5l hl (x0g ens) s1 r1.lt [bs [58]] (by simp)
 rw[←x8i]at h2
 obtain⟨⟨y,s3⟩,h3,r3⟩:=q8f hl ens hE s2 r2.lt
 simp only at h3 r3
 obtain⟨v,s4,h4,r4,hv⟩:=x6r hl (x0g ens) s3 r3.lt (bs [119,104,101,110])
 cases v with
 |true=>
  have hb:s4.b=true:=by
   have g:=r4.good (hv rfl).1
   cases hm:tkR l (bs [119,104,101,110]) s3.i with
   |ok a j=>rw[hm]at g;rw[g.2]
   |bad p c=>unfold tkR at hm;split at hm<;>cases hm
  obtain⟨⟨w,s5⟩,h5,r5⟩:=w5q hl s4 r4.lt hb (x0g ens)
  simp only at h5 r5
  refine⟨(⟨t.s,y.1,y.2.1,y.2.2,w.1,w.2⟩,s5),?_,r1.bind (r2.bind (r3.bind (r4.bind (r5.bind (Post.ret r5.lt)))))⟩
  refine x4c (f:=129) (by kernel_rfl) (by with_reducible first|exact dcR .. |exact y0i .. |exact y0k .. |exact x9r .. |exact y0l .. |exact y0j .. |exact dcQ .. |exact x9s ..) (by kernel_rfl) rfl ?_
  rw[v3a]
  unfold q4s
  simp only [↓hB0, ↓hI0, ↓hI1, ↓hI2, ↓hI3, ↓hI4, ↓hS0, ↓hS1, ↓hV1, ↓hV2, ↓hV3, ↓hV4, ↓hT4, ↓hN0, ↓hN5, ↓hN6, ↓hCt, ↓hC h1, ↓hC h2, ↓hC h3, ↓hC h4, ↓hC h5]
  rfl
 |false=>
  refine⟨(⟨t.s,y.1,y.2.1,y.2.2,bs [],bs []⟩,s4),?_,r1.bind (r2.bind (r3.bind (r4.bind (Post.ret r4.lt))))⟩
  refine x4c (f:=129) (by kernel_rfl) (by with_reducible first|exact dcR .. |exact y0i .. |exact y0k .. |exact x9r .. |exact y0l .. |exact y0j .. |exact dcQ .. |exact x9s ..) (by kernel_rfl) rfl ?_
  rw[v3a]
  unfold q4s
  simp only [↓hB0, ↓hI0, ↓hI1, ↓hI2, ↓hI3, ↓hI4, ↓hV1, ↓hV3, ↓hV4, ↓hT4, ↓hN0, ↓hN5, ↓hN6, ↓hCf, ↓hC h1, ↓hC h2, ↓hC h3, ↓hC h4]
  rfl
end
end Go.Vm
end

section
set_option maxRecDepth 100000
set_option maxHeartbeats 4000000
namespace Go.Vm
open Go.Proofs
def z0o (l:List Tk):RM Ex:=fun i=>match y5m l i with
 | .out=> .bad i 1
 | .bad j=> .bad j 2
 | .ok e j=>bif !x3i e then .bad i 3 else bif !y9u e then .bad i 1 else .ok e j
structure Eqn where
 ns:List ByteArray
 e:Ex
def z9a (q:Eqn):List D:= .sl 1 (x0e q.ns)::q.e.row
def x2q (l:List Eqn):LL:=l.map z9a
theorem x2z (l:List Eqn):(x2q l).length=l.length:=by simp [x2q]
theorem z1e (l:List Eqn)(d:Eqn):x2q (l++[d])=x2q l++[z9a d]:=by simp [x2q]
def eqR (l:List Tk):RM Eqn:=(z6h l 1).bind fun ns=>(x3m l [bs [61]]).bind fun _=>(z0o l).bind fun e=>(x3m l [bs [59]]).bind fun _=>RM.ret ⟨ns,e⟩
theorem z1w {l:List Tk}(hl:LOK l){i:Nat}(hi:i < l.length):(∃e j,z0o l i= .ok e j∧z9t l i=(e,(j:Int),0)∧i≤j∧j < l.length)∨ ∃p c,z0o l i= .bad p c∧z9t l i=(e0,(p:Int),c)∧i≤p∧p < l.length∧c≠0:=by
 unfold z0o z9t
 cases hR:y5m l i with
 |out=>exact .inr ⟨i,1,rfl,rfl,a0m _,hi,by decide⟩
 |bad j=>exact .inr ⟨j,2,rfl,rfl,(u2m hl hi hR).1,(u2m hl hi hR).2,by decide⟩
 |ok e j=>
  have h:=(x6y hl (x5u l)).pos _ _ _ _ hi hR
  simp only
  cases x3i e with
  |false=>exact .inr ⟨i,3,rfl,rfl,a0m _,hi,by decide⟩
  |true=>
   cases y9u e with
   |false=>exact .inr ⟨i,1,rfl,rfl,a0m _,hi,by decide⟩
   |true=>exact .inl ⟨e,j,rfl,rfl,by omega,h.2⟩
theorem hEm {α:Type}(k n o:Int)(q:ByteArray)(a:List ByteArray)(u:List Ex)(r:List D)(K:Int→Int→ByteArray→Int→LL→LL→Option α):oE sy (PRes.val ((Ex.mk k n q o a u).row++r)).leaves 0 K=K k n q o (x0e a) (Ex.rows u):=rfl
theorem hE6 {α:Type}(k n o v:Int)(q:ByteArray)(a:List ByteArray)(u:List Ex)(r:List D)(K:Int→Option α):(opI (sy.cell (PRes.val ((Ex.mk k n q o a u).row++ .int .i64 v::r)).leaves 6) .i64).bind K=K v:=rfl
theorem hE7 {α:Type}(k n o v:Int)(d:D)(q:ByteArray)(a:List ByteArray)(u:List Ex)(r:List D)(K:Int→Option α):(opI (sy.cell (PRes.val ((Ex.mk k n q o a u).row++d:: .int .i64 v::r)).leaves 7) .i64).bind K=K v:=rfl
theorem hV6 {α:Type}(l:List Tk)(en:LL)(s:St)(k n o:Int)(q:ByteArray)(a:List ByteArray)(u:List Ex)(K:LL→Int→Bool→Int→Int→LL→Option α):oV sy (PRes.val ((Ex.mk k n q o a u).row++stD l en s)).leaves 6 K=K (x0a l) (s.i:Int) s.b s.a s.w en:=rfl
section
variable {l : List Tk} (hl : LOK l) (ht : TS l) (en : LL) (s : St) (hs : s.i < l.length)
include hl hs ht
theorem w5w: ∃x:Ex × St,cF 1000130 (kR (x0a l) (s.i:Int) en s.b s.a s.w)=some (.val (x.1.row++stD l en x.2))∧x4d l (z0o l) s x.1 x.2:=by
 cases hb:s.b with
 |false=>
  refine⟨(e0,s),?_,x2i hs hb⟩
  refine x4c (f:=130) (by kernel_rfl) (by with_reducible first|exact dcR .. |exact y0i .. |exact y0k .. |exact x9r .. |exact y0l .. |exact y0j .. |exact dcQ .. |exact x9s ..) (by kernel_rfl) rfl ?_
  rw[u1p]
  unfold w9n
  simp only [↓hB0, ↓hNf]
  rw[←hb];rfl
 |true=>
  have h1:=w6f hl ht s.i hs
  rcases z1w hl hs with⟨e,j,hR,hP,hij,hj⟩|⟨p,c,hR,hP,_,hp,hc⟩
  ·rw[hP]at h1
   obtain⟨k,n,q,o,a,u⟩:=e
   refine⟨(.mk k n q o a u,⟨j,true,s.a,s.w⟩),?_,⟨hij,hj,fun h=>(by rw[hb]at h;cases h),fun _=>by rw[hR];exact⟨rfl,rfl⟩⟩⟩
   refine x4c (f:=130) (by kernel_rfl) (by with_reducible first|exact dcR .. |exact y0i .. |exact y0k .. |exact x9r .. |exact y0l .. |exact y0j .. |exact dcQ .. |exact x9s ..) (by kernel_rfl) rfl ?_
   rw[u1p]
   unfold w9n
   simp only [↓hB0, ↓hNt, ↓hC h1]
   rfl
  ·rw[hP]at h1
   obtain⟨s1,h2,r2,_⟩:=y1x hl en s hs p hp c
   rw[hb]at h2
   have hx:sy.bnot (sy.ieq c 0)=true:=by
    show(!decide (c=0))=true
    rw[x1c hc];rfl
   refine⟨(e0,s1),?_,⟨r2.le,r2.lt,r2.bad,fun h=>by rw[hR];exact r2.good h⟩⟩
   have h1:cF 171 [.d (.sl 4 (x0a l)), .d (.int .i64 (s.i:Int))]=some (.val ((Ex.mk 0 0 (bs []) 0 [] []).row++[.int .i64 (p:Int), .int .i64 c])):=h1
   refine x4c (f:=130) (by kernel_rfl) (by with_reducible first|exact dcR .. |exact y0i .. |exact y0k .. |exact x9r .. |exact y0l .. |exact y0j .. |exact dcQ .. |exact x9s ..) (by kernel_rfl) rfl ?_
   rw[u1p]
   unfold w9n
   simp only [↓hB0, ↓hV0, ↓hNt, ↓hC h1, ↓hC h2, ↓hEm, ↓hE6, ↓hE7, ↓hXt hx]
   rfl
theorem q8g: ∃x:Eqn × St,cF 1000090 (kR (x0a l) (s.i:Int) en s.b s.a s.w)=some (.val (z9a x.1++stD l en x.2))∧x4d l (eqR l) s x.1 x.2:=by
 obtain⟨⟨ns,s1⟩,h1,r1⟩:=u4c hl en s hs 1 (by omega)
 simp only at h1 r1
 have h1:cF 1000088 (kRI 1 (x0a l) (s.i:Int) en s.b s.a s.w)=_:=h1
 obtain⟨s2,h2,r2⟩:=x5l hl en s1 r1.lt [bs [61]] (by simp)
 rw[←x8i]at h2
 obtain⟨⟨e,s3⟩,h3,r3⟩:=w5w hl ht en s2 r2.lt
 simp only at h3 r3
 obtain⟨s4,h4,r4⟩:=x5l hl en s3 r3.lt [bs [59]] (by simp)
 rw[←x8i]at h4
 refine⟨(⟨ns,e⟩,s4),?_,r1.bind (r2.bind (r3.bind (r4.bind (Post.ret r4.lt))))⟩
 obtain⟨k,n,q,o,a,u⟩:=e
 refine x4c (f:=90) (by kernel_rfl) (by with_reducible first|exact dcR .. |exact y0i .. |exact y0k .. |exact x9r .. |exact y0l .. |exact y0j .. |exact dcQ .. |exact x9s ..) (by kernel_rfl) rfl ?_
 rw[q4h]
 unfold b90
 simp only [↓hB0, ↓hI3, ↓hI4, ↓hL0, ↓hV1, ↓hN0, ↓hN5, ↓hN6, ↓hC h1, ↓hC h2, ↓hC h3, ↓hC h4, ↓hEm, ↓hV6]
 rfl
end
end Go.Vm
end

section
set_option maxRecDepth 100000
set_option maxHeartbeats 4000000
namespace Go.Vm
open Go.Proofs
def u1i:ByteArray:=bs [108,101,116]
def y5s (l:List Tk)(last:Bool):RM Bool:=fun i=>match isT l i (bs [59])&& !(last&&isT l (i+1) u1i)with
 |true=> .ok true (i+1)
 |false=> .ok false i
def x9a (l:List Tk)(ens:List En)(last:Bool):Nat→List Dc→RM (List Dc)
 |0,acc=>RM.ret acc
 |n+1,acc=>(y5s l last).bind fun v=>match v with
  |true=>(z3t l ens).bind fun d=>x9a l ens last n (acc++[d])
  |false=>RM.ret acc
def z2a (l:List Tk)(ens:List En)(last:Bool):RM (List Dc):=(z3t l ens).bind fun d=>x9a l ens last l.length [d]
theorem hIs {α:Type}{l:List Tk}{j:Int}{i:Nat}(hj:j=(i:Int))(hi:i < l.length)(x:ByteArray)(K:List D→Option α):
  ((opI (sy.cell (sy.row (x0a l) j) 0) .i64).bind fun n1=>(opS (sy.cell (sy.row (x0a l) j) 1)).bind fun s2=>(opI (sy.cell (sy.row (x0a l) j) 2) .i64).bind fun n3=>(opI (sy.cell (sy.row (x0a l) j) 3) .i64).bind fun n4=>
    x0q (cond (sy.seq s2 x) (cond (sy.ieq n1 1) (some (.inl [.bool true])) (some (.inl [.bool (sy.ieq n1 5)]))) (some (.inl [.bool false]))) K)=K [.bool (isT l i x)]:=by
 subst hj
 rw[x3d hi]
 show x0q (cond ((tkA l i).s.toList == x.toList) (cond (decide ((tkA l i).k=1)) (some (.inl [.bool true])) (some (.inl [.bool (decide ((tkA l i).k=5))]))) (some (.inl [.bool false]))) K=_
 rw[x1l]
 unfold isT
 cases decide (tb (tkA l i).s=tb x)<;>cases decide ((tkA l i).k=1)<;>rfl
theorem hD0 {α:Type}(d:Dc)(r:List D)(K:ByteArray→Int→Int→Int→ByteArray→ByteArray→Option α):oD sy (PRes.val (z0p d++r)).leaves 0 K=K d.n d.k d.e d.c d.o d.q:=rfl
theorem hVd {α:Type}(l:List Tk)(en:LL)(s:St)(d:Dc)(K:LL→Int→Bool→Int→Int→LL→Option α):oV sy (PRes.val (z0p d++stD l en s)).leaves 6 K=K (x0a l) (s.i:Int) s.b s.a s.w en:=rfl
theorem lB {α:Type}(v:Bool)(r:List D)(K:Bool→Option α):(opB (sy.cell (.bool v::r) 0)).bind K=K v:=rfl
theorem lV {α:Type}(v:D)(l:List Tk)(en:LL)(s:St)(r:List D)(K:LL→Int→Bool→Int→Int→LL→Option α):oV sy (v::(stD l en s++r)) 1 K=K (x0a l) (s.i:Int) s.b s.a s.w en:=rfl
theorem lL {α:Type}(v:D)(l:List Tk)(en:LL)(s:St)(k:Nat)(x:LL)(r:List D)(K:LL→Option α):(opL (sy.cell (v::(stD l en s++ .sl k x::r)) 7) k).bind K=K x:=by
 show(opL (some (.sl k x)) k).bind K=K x
 unfold opL;simp
section
variable {l : List Tk} (hl : LOK l) (ens : List En) (hE : ens.length ≤ 1000000) (s : St) (hs : s.i < l.length)
include hl hs hE
theorem z4b (f:Bool): ∃x:List Dc × St,cF 1000089 (kRB f (x0a l) (s.i:Int) (x0g ens) s.b s.a s.w)=some (.val (.sl 6 (x0k x.1)::stD l (x0g ens) x.2))∧x4d l (z2a l ens f) s x.1 x.2:=by
 have hf:=hl.few
 obtain⟨⟨d,s0⟩,h0,r0⟩:=v2e hl ens hE s hs
 simp only at h0 r0
 refine z0r (f:=89) (by kernel_rfl) (by with_reducible first|exact x9r ..) (by kernel_rfl) rfl ?_
 rw[q4i]
 unfold b89
 simp only [↓hC h0, ↓hD0, ↓hVd]
 rw[y0r]
 refine(x4t (σ:=Nat × List Dc × St) (ρ:=List Dc × St) (c:=fun x=>PRes.val (.sl 6 (x0k x.1)::stD l (x0g ens) x.2)) (fun x=> .bool f::(stD l (x0g ens) x.2.2++[.sl 6 (x0k x.2.1)]))
  (fun x=>l.length - x.2.2.i≤x.1∧x.2.1.length≤x.2.2.i+1∧x.2.2.i < l.length) (fun x=>x.1) (fun x y=>x4d l (x9a l ens f x.1 x.2.1) x.2.2 y.1 y.2) ?_ (l.length,[d],s0) ⟨by simp only;omega,by simp,r0.lt⟩).imp fun x h=>⟨h.1,r0.bind h.2⟩
 rintro⟨n,acc,s⟩ ⟨hn,ha,hs⟩
 simp only at hn ha hs ⊢
 obtain⟨n,rfl⟩: ∃m,n=m+1:=⟨n - 1,by omega⟩
 cases hb:s.b with
 |false=>
  right
  refine⟨(acc,s),?_,x2i hs hb⟩
  simp only [↓lB, ↓lV, ↓lL, ↓hXf hb]
  rfl
 |true=>
  have e0:sy.wrap .i64 (sy.add (s.i:Int) 0)=(s.i:Int):=by
   show IntKind.i64.wrap ((s.i:Int)+0)=_
   rw[Int.add_zero];exact x0j (by omega) (by omega)
  have e1:sy.wrap .i64 (sy.add (s.i:Int) 1)=((s.i+1:Nat):Int):=by
   show IntKind.i64.wrap ((s.i:Int)+1)=_
   rw[x0c (n:=l.length) hs (by omega)];rfl
  have c0:sy.ile (sy.rlen (x0a l)) (sy.wrap .i64 (sy.add (s.i:Int) 0))=false:=by
   rw[e0];exact x1c (by show ¬((x0a l).length:Int)≤_;rw[x3w];omega)
  have d0:sy.inr (sy.wrap .i64 (sy.add (s.i:Int) 0)) (sy.rlen (x0a l))=true:=by rw[e0];exact x5t hs
  cases hT:isT l s.i (bs [59])with
  |false=>
   right
   refine⟨(acc,s),?_,?_⟩
   ·simp only [↓lB, ↓lV, ↓lL, ↓hXt hb, ↓hXf c0, ↓hXt d0, ↓hIs e0 hs,hT, ↓hCf]
    rfl
   ·have hm:y5s l f s.i= .ok false s.i:=by unfold y5s;rw[hT];rfl
    refine⟨a0m _,hs,fun _=>rfl,fun _=> ?_⟩
    unfold x9a RM.bind
    rw[hm]
    obtain⟨i,b,a,w⟩:=s
    cases hb
    exact⟨rfl,rfl⟩
  |true=>
   have hi1:s.i+1 < l.length:=hl.next hs (x0t hT)
   have c1:sy.ile (sy.rlen (x0a l)) (sy.wrap .i64 (sy.add (s.i:Int) 1))=false:=by
    rw[e1];exact x1c (by show ¬((x0a l).length:Int)≤_;rw[x3w];omega)
   have d1:sy.inr (sy.wrap .i64 (sy.add (s.i:Int) 1)) (sy.rlen (x0a l))=true:=by rw[e1];exact x5t hi1
   by_cases hstop:(f&&isT l (s.i+1) u1i)=true
   ·right
    have hff:f=true:=by cases f<;>simp_all
    subst hff
    have hL:isT l (s.i+1) (bs [108,101,116])=true:=by simpa [u1i]using hstop
    refine⟨(acc,s),?_,?_⟩
    ·simp only [↓lB, ↓lV, ↓lL, ↓hXt hb, ↓hXf c0, ↓hXt d0, ↓hIs e0 hs,hT, ↓hCt, ↓hXf c1, ↓hXt d1, ↓hIs e1 hi1,hL, ↓hNt]
     rfl
    ·have hm:y5s l true s.i= .ok false s.i:=by unfold y5s;rw[hT];simp only [u1i,hL];rfl
     refine⟨a0m _,hs,fun _=>rfl,fun _=> ?_⟩
     unfold x9a RM.bind
     rw[hm]
     obtain⟨i,b,a,w⟩:=s
     cases hb
     exact⟨rfl,rfl⟩
   ·left
    obtain⟨s1,h1,r1⟩:=x5l hl (x0g ens) s hs [bs [59]] (by simp)
    rw[←x8i]at h1
    obtain⟨⟨d2,s2⟩,h2,r2⟩:=v2e hl ens hE s1 r1.lt
    simp only at h2 r2
    have hm:y5s l f s.i= .ok true (s.i+1):=by
     unfold y5s;rw[hT]
     cases h:(f&&isT l (s.i+1) u1i)with
     |true=>exact(hstop h).elim
     |false=>rfl
    have hnd:x3m l [bs [59]] s.i= .ok () (s.i+1):=by simp [x3m,x1f,hT]
    have g:=r1.good hb
    rw[hnd]at g
    have rm:x4d l (y5s l f) s true s1:=⟨r1.le,r1.lt,r1.bad,fun _=>by rw[hm];exact⟨rfl,g.2⟩⟩
    have hs1:s1.i=s.i+1:=by rw[g.2]
    have hfit:sy.fits (x0k acc) [z0p d2] 72=true:=x6p (x0k acc) [z0p d2] 72 (by rw[x0v];simp only [a0f,a0i];omega)
    refine⟨(n,acc++[d2],s2),?_,⟨?_,?_,r2.lt⟩,a1a _,fun y hy=>rm.bind (r2.bind hy)⟩
    ·have fin:sy.rapp (x0k acc) [z0p d2]=x0k (acc++[d2]):=by rw[z1z];rfl
     cases f with
     |false=>
      simp only [↓lB, ↓lV, ↓lL, ↓hXt hb, ↓hXf c0, ↓hXt d0, ↓hIs e0 hs,hT, ↓hCt, ↓hCf, ↓hNf, ↓hC h1, ↓hN0, ↓hI3, ↓hI4, ↓hN5, ↓hN6, ↓hC h2, ↓hD0, ↓hVd]
      rw[←fin]
      exact hXt hfit _ _
     |true=>
      have hL:isT l (s.i+1) (bs [108,101,116])=false:=by
       cases h:isT l (s.i+1) (bs [108,101,116])with
       |true=>exact(hstop (by simpa [u1i]using h)).elim
       |false=>rfl
      simp only [↓lB, ↓lV, ↓lL, ↓hXt hb, ↓hXf c0, ↓hXt d0, ↓hIs e0 hs,hT, ↓hCt, ↓hXf c1, ↓hXt d1, ↓hIs e1 hi1,hL, ↓hNf, ↓hC h1, ↓hN0, ↓hI3, ↓hI4, ↓hN5, ↓hN6, ↓hC h2, ↓hD0, ↓hVd]
      rw[←fin]
      exact hXt hfit _ _
    ·have:=r2.le;simp only;omega
    ·have:=r2.le;simp only [a0j,a0f,a0i];omega
end
end Go.Vm
end

section
set_option maxRecDepth 100000
set_option maxHeartbeats 4000000
namespace Go.Vm
open Go.Proofs
structure Nd where
 n:ByteArray
 ins:List Dc
 outs:List Dc
 vars:List Dc
 eqs:List Eqn
def y5r (n:Nd):List D:=[.str n.n, .sl 6 (x0k n.ins), .sl 6 (x0k n.outs), .sl 6 (x0k n.vars), .sl 7 (x2q n.eqs)]
def x2b (l:List Nd):LL:=l.map y5r
theorem x1x (l:List Nd):(x2b l).length=l.length:=by simp [x2b]
theorem z1k (l:List Nd)(d:Nd):x2b (l++[d])=x2b l++[y5r d]:=by simp [x2b]
def q5m (l:List Tk)(ens:List En):RM (List Dc):=(tkR l (bs [41])).bind fun v=>match v with
 |false=>(z2a l ens false).bind fun d=>(x3m l [bs [41]]).bind fun _=>RM.ret d
 |true=>RM.ret []
def v3o (l:List Tk)(ens:List En):RM (List Dc):=(tkR l (bs [118,97,114])).bind fun v=>match v with
 |true=>(z2a l ens true).bind fun d=>(x3m l [bs [59]]).bind fun _=>RM.ret d
 |false=>RM.ret []
def w9k (l:List Tk):Nat→List Eqn→RM (List Eqn)
 |0,acc=>RM.ret acc
 |n+1,acc=>(tkR l (bs [116,101,108])).bind fun v=>match v with
  |true=>RM.ret acc
  |false=>(eqR l).bind fun q=>w9k l n (acc++[q])
def v4u (l:List Tk)(ens:List En):RM Nd:=(y1c l 1).bind fun t=>(x3m l [bs [40]]).bind fun _=>(q5m l ens).bind fun i=>(x3m l [bs [114,101,116,117,114,110,115],bs [40]]).bind fun _=>(z2a l ens false).bind fun o=>(x3m l [bs [41]]).bind fun _=>(v3o l ens).bind fun w=>(x3m l [u1i]).bind fun _=>(w9k l l.length []).bind fun q=>RM.ret ⟨t.s,i,o,w,q⟩
theorem y6s {ρ τ α:Type}{X:Option (List D ⊕ α)}{K:List D→Option α}{cc:τ→α}{R:τ→Prop}(c:ρ→List D)(Q:ρ→Prop)(h: ∃y,X=some (.inl (c y))∧Q y)(hK: ∀y,Q y→ ∃x,K (c y)=some (cc x)∧R x): ∃x,x0q X K=some (cc x)∧R x:=by
 obtain⟨y,rfl,hy⟩:=h
 exact hK y hy
theorem bind_ok {α β:Type}{m:RM α}{k:α→RM β}{i j:Nat}{b:β}(h:m.bind k i= .ok b j): ∃a x,m i= .ok a x∧k a x= .ok b j:=by
 unfold RM.bind at h
 split at h
 ·rename_i a x hm;exact⟨a,x,hm,h⟩
 ·cases h
theorem x8w {l:List Tk}{w:ByteArray}{i j:Nat}{v:Bool}(h:tkR l w i= .ok v j):i≤j:=by
 unfold tkR at h;split at h<;>cases h<;>omega
theorem x2s {l:List Tk}{w:List ByteArray}{i j:Nat}{v:Unit}(h:x3m l w i= .ok v j):i≤j:=by
 unfold x3m at h
 split at h
 ·rename_i hn;cases h;exact x1w hn
 ·cases h
 ·cases h
theorem z6j {l:List Tk}{k:Int}: ∀(n:Nat) (acc:List ByteArray) {i j:Nat} {r:List ByteArray},y2p l k n acc i= .ok r j→i≤j
 |0,acc,i,j,r,h=>by cases h;exact a0m _
 |n+1,acc,i,j,r,h=>by
  unfold y2p at h
  obtain⟨v,x,h1,h2⟩:=bind_ok h
  have:=x8w h1
  cases v with
  |true=>
   obtain⟨t,y,h3,h4⟩:=bind_ok h2
   have:=(y1b h3).2
   have:=z6j n _ h4
   omega
  |false=>cases h2;omega
theorem v1b {l:List Tk}(ht:TS l){i j:Nat}{q:Eqn}(h:eqR l i= .ok q j):i < j:=by
 unfold eqR at h
 obtain⟨ns,x,h1,h⟩:=bind_ok h
 obtain⟨_,y,h2,h⟩:=bind_ok h
 obtain⟨e,z,h3,h⟩:=bind_ok h
 obtain⟨_,u,h4,h⟩:=bind_ok h
 cases h
 unfold z6h at h1
 obtain⟨t,a,h5,h6⟩:=bind_ok h1
 have:=(y1b h5).2
 have:=z6j _ _ h6
 have:=x2s h2
 have:=x2s h4
 have h7:y≤z:=by
  unfold z0o at h3
  split at h3
  ·cases h3
  ·cases h3
  ·rename_i e2 j2 hR
   revert h3
   cases x3i e2<;>cases y9u e2<;>intro h3<;>first|(cases h3;done)|skip
   cases h3
   have:=(y6g ht hR).1
   omega
 omega
section
variable {α : Type} (l : List Tk) (en : LL) (s : St) (r : List D) (d e f g : D) (k : Nat) (x : LL) (K : LL → Option α)
theorem lV0 (K:LL→Int→Bool→Int→Int→LL→Option α):oV sy (stD l en s++r) 0 K=K (x0a l) (s.i:Int) s.b s.a s.w en:=(rfl)
theorem lS6 (x:ByteArray)(K:ByteArray→Option α):(opS (sy.cell (stD l en s++ .str x::r) 6)).bind K=K x:=(rfl)
theorem lS7 (x:ByteArray)(K:ByteArray→Option α):(opS (sy.cell (stD l en s++d:: .str x::r) 7)).bind K=K x:=(rfl)
theorem x3y:(opL (some (.sl k x)) k).bind K=K x:=by unfold opL;simp
theorem lL8:(opL (sy.cell (stD l en s++d::e:: .sl k x::r) 8) k).bind K=K x:=x3y k x K
theorem lL9:(opL (sy.cell (stD l en s++d::e::f:: .sl k x::r) 9) k).bind K=K x:=x3y k x K
theorem q5l:(opL (sy.cell (stD l en s++d::e::f::g:: .sl k x::r) 10) k).bind K=K x:=x3y k x K
theorem q7f (h:D):(opL (sy.cell (stD l en s++d::e::f::g::h:: .sl k x::r) 11) k).bind K=K x:=x3y k x K
end
theorem hQ0 {α:Type}(q:Eqn)(r:List D)(K:LL→Option α):(opL (sy.cell (PRes.val (z9a q++r)).leaves 0) 1).bind K=K (x0e q.ns):=by
 show(opL (some (.sl 1 (x0e q.ns))) 1).bind K=_
 unfold opL;simp
theorem hQ1 {α:Type}(k n o:Int)(q:ByteArray)(a ns:List ByteArray)(u:List Ex)(r:List D)(K:Int→Int→ByteArray→Int→LL→LL→Option α):oE sy (PRes.val (z9a ⟨ns,Ex.mk k n q o a u⟩++r)).leaves 1 K=K k n q o (x0e a) (Ex.rows u):=rfl
theorem hQ7 {α:Type}(l:List Tk)(en:LL)(s:St)(q:Eqn)(K:LL→Int→Bool→Int→Int→LL→Option α):oV sy (PRes.val (z9a q++stD l en s)).leaves 7 K=K (x0a l) (s.i:Int) s.b s.a s.w en:=by
 obtain⟨ns,e⟩:=q
 obtain⟨k,m,y,o,a,u⟩:=e
 rfl
section
variable {l : List Tk} (hl : LOK l) (ht : TS l) (ens : List En) (hE : ens.length ≤ 1000000) (s : St) (hs : s.i < l.length)
include hl ht hE hs
theorem w5s: ∃x:Nd × St,cF 1000039 (kR (x0a l) (s.i:Int) (x0g ens) s.b s.a s.w)=some (.val (y5r x.1++stD l (x0g ens) x.2))∧x4d l (v4u l ens) s x.1 x.2:=by
 have hf:=hl.few
 obtain⟨t,s1,h1,r1⟩:=u1c hl (x0g ens) s hs 1 (by omega)
 have h1:cF 1000086 (kRI 1 (x0a l) (s.i:Int) (x0g ens) s.b s.a s.w)=_:=h1
 obtain⟨s2,h2,r2⟩:=x5l hl (x0g ens) s1 r1.lt [bs [40]] (by simp)
 rw[←x8i]at h2
 refine z0r (f:=39) (by kernel_rfl) (by with_reducible first|exact dcR ..) (by kernel_rfl) rfl ?_
 rw[q4n]
 unfold b39
 simp only [↓hC h1, ↓hT4, ↓hV4, ↓hC h2, ↓hN0, ↓hI3, ↓hI4, ↓hN5, ↓hN6]
 refine y6s (ρ:=List Dc × St) (fun y=>stD l (x0g ens) y.2++[.str (bs []), .str t.s, .sl 6 (x0k y.1)]) (fun y=>x4d l (q5m l ens) s2 y.1 y.2) ?_ ?_
 ·obtain⟨v,s3,h3,r3,_⟩:=x6r hl (x0g ens) s2 r2.lt (bs [41])
  cases v with
  |true=>
   refine⟨([],s3),?_,r3.bind (Post.ret r3.lt)⟩
   simp only [↓hC h3, ↓hB0, ↓hV1, ↓hNt]
   rfl
  |false=>
   obtain⟨⟨ds,s4⟩,h4,r4⟩:=z4b hl ens hE s3 r3.lt false
   simp only at h4 r4
   obtain⟨s5,h5,r5⟩:=x5l hl (x0g ens) s4 r4.lt [bs [41]] (by simp)
   rw[←x8i]at h5
   refine⟨(ds,s5),?_,r3.bind (r4.bind (r5.bind (Post.ret r5.lt)))⟩
   simp only [↓hC h3, ↓hB0, ↓hV1, ↓hNf, ↓hC h4, ↓hL0, ↓hC h5, ↓hN0, ↓hI3, ↓hI4, ↓hN5, ↓hN6]
   rfl
 ·rintro⟨ins,s3⟩ r3
  simp only at r3 ⊢
  obtain⟨s4,h4,r4⟩:=x5l hl (x0g ens) s3 r3.lt [bs [114,101,116,117,114,110,115],bs [40]] (by simp)
  rw[←w9z]at h4
  obtain⟨⟨os,s5⟩,h5,r5⟩:=z4b hl ens hE s4 r4.lt false
  simp only at h5 r5
  obtain⟨s6,h6,r6⟩:=x5l hl (x0g ens) s5 r5.lt [bs [41]] (by simp)
  rw[←x8i]at h6
  simp only [↓lV0, ↓lS6, ↓lS7, ↓lL8, ↓hC h4, ↓hN0, ↓hI3, ↓hI4, ↓hN5, ↓hN6, ↓hC h5, ↓hL0, ↓hV1, ↓hC h6]
  refine y6s (ρ:=List Dc × St) (fun y=>stD l (x0g ens) y.2++[.str (bs []), .str t.s, .sl 6 (x0k ins), .sl 6 (x0k os), .sl 6 (x0k y.1)]) (fun y=>x4d l (v3o l ens) s6 y.1 y.2) ?_ ?_
  ·obtain⟨v,s7,h7,r7,_⟩:=x6r hl (x0g ens) s6 r6.lt (bs [118,97,114])
   cases v with
   |false=>
    refine⟨([],s7),?_,r7.bind (Post.ret r7.lt)⟩
    simp only [↓hC h7, ↓hB0, ↓hV1, ↓hCf]
    rfl
   |true=>
    obtain⟨⟨ds,s8⟩,h8,r8⟩:=z4b hl ens hE s7 r7.lt true
    simp only at h8 r8
    obtain⟨s9,h9,r9⟩:=x5l hl (x0g ens) s8 r8.lt [bs [59]] (by simp)
    rw[←x8i]at h9
    refine⟨(ds,s9),?_,r7.bind (r8.bind (r9.bind (Post.ret r9.lt)))⟩
    simp only [↓hC h7, ↓hB0, ↓hV1, ↓hCt, ↓hC h8, ↓hL0, ↓hC h9, ↓hN0, ↓hI3, ↓hI4, ↓hN5, ↓hN6]
    rfl
  ·rintro⟨vs,s7⟩ r7
   simp only at r7 ⊢
   obtain⟨s8,h8,r8⟩:=x5l hl (x0g ens) s7 r7.lt [bs [108,101,116]] (by simp)
   rw[←x8i]at h8
   simp only [↓lV0, ↓lS6, ↓lS7, ↓lL8, ↓lL9, ↓q5l, ↓hC h8, ↓hN0, ↓hI3, ↓hI4, ↓hN5, ↓hN6]
   rw[y0r]
   refine(x4t (σ:=Nat × List Eqn × St) (ρ:=List Eqn × St) (c:=fun x=>PRes.val (.str t.s:: .sl 6 (x0k ins):: .sl 6 (x0k os):: .sl 6 (x0k vs):: .sl 7 (x2q x.1)::stD l (x0g ens) x.2))
    (fun x=>stD l (x0g ens) x.2.2++[.str (bs []), .str t.s, .sl 6 (x0k ins), .sl 6 (x0k os), .sl 6 (x0k vs), .sl 7 (x2q x.2.1)])
    (fun x=>(x.2.2.b=true→l.length - x.2.2.i≤x.1∧x.2.1.length≤x.2.2.i)∧x.2.1.length≤x.2.2.i+1∧x.2.2.i < l.length) (fun x=>x.1) (fun x y=>x4d l (w9k l x.1 x.2.1) x.2.2 y.1 y.2) ?_ (l.length,[],s8) ⟨fun _=>⟨by simp only;omega,by simp⟩,by simp,r8.lt⟩).elim fun x h=>⟨(⟨t.s,ins,os,vs,x.1⟩,x.2),h.1,r1.bind (r2.bind (r3.bind (r4.bind (r5.bind (r6.bind (r7.bind (r8.bind (h.2.bind (Post.ret h.2.lt)))))))))⟩
   rintro⟨n,acc,s⟩ ⟨hn,ha,hs⟩
   simp only at hn ha hs ⊢
   cases hb:s.b with
   |false=>
    right
    refine⟨(acc,s),?_,x2i hs hb⟩
    simp only [↓lV0, ↓lS6, ↓lS7, ↓lL8, ↓lL9, ↓q5l, ↓q7f, ↓hXf hb]
    rfl
   |true=>
    obtain⟨hn1,hn2⟩:=hn hb
    obtain⟨n,rfl⟩: ∃m,n=m+1:=⟨n - 1,by omega⟩
    obtain⟨v,s1,h1,r1,_⟩:=x6r hl (x0g ens) s hs (bs [116,101,108])
    cases v with
    |true=>
     right
     refine⟨(acc,s1),?_,r1.bind (Post.ret r1.lt)⟩
     simp only [↓lV0, ↓lS6, ↓lS7, ↓lL8, ↓lL9, ↓q5l, ↓q7f, ↓hXt hb, ↓hC h1, ↓hB0, ↓hV1, ↓hNt]
     rfl
    |false=>
     left
     obtain⟨⟨q,s2⟩,h2,r2⟩:=q8g hl ht (x0g ens) s1 r1.lt
     simp only at h2 r2
     have hfit:sy.fits (x2q acc) [z9a q] 112=true:=x6p (x2q acc) [z9a q] 112 (by rw[x2z];simp only [a0f,a0i];omega)
     have fin:sy.rapp (x2q acc) [z9a q]=x2q (acc++[q]):=by rw[z1e];rfl
     have hb1:s1.b=true:=by
      have g:=r1.good hb
      cases hm:tkR l (bs [116,101,108]) s.i with
      |ok a j=>rw[hm]at g;rw[g.2]
      |bad p c=>unfold tkR at hm;split at hm<;>cases hm
     refine⟨(n,acc++[q],s2),?_,⟨fun hb2=> ?_,?_,r2.lt⟩,a1a _,fun y hy=>r1.bind (r2.bind hy)⟩
     ·obtain⟨ns,e⟩:=q
      obtain⟨k,m,y,o,a,u⟩:=e
      simp only [↓lV0, ↓lS6, ↓lS7, ↓lL8, ↓lL9, ↓q5l, ↓q7f, ↓hXt hb, ↓hC h1, ↓hB0, ↓hV1, ↓hNf, ↓hC h2, ↓hQ0, ↓hQ1, ↓hQ7]
      rw[←fin]
      exact hXt hfit _ _
     ·have g:=r2.good hb1
      cases hm:eqR l s1.i with
      |ok w j=>
       rw[hm]at g
       have hp:=v1b ht hm
       have e:=r1.le
       have:s2.i=j:=by rw[g.2]
       simp only [a0j,a0f,a0i]
       omega
      |bad p c=>rw[hm]at g;rw[g.1]at hb2;cases hb2
     ·have e1:=r1.le
      have e2:=r2.le
      simp only [a0j,a0f,a0i]
      omega
end
end Go.Vm
end

section
set_option maxRecDepth 1000000
set_option maxHeartbeats 0
namespace Go.Vm
open Go.Proofs
noncomputable section
variable (A : Sy) (E : Env)
def g94 (l_:LL):Option PRes:=bif (A.ilt 4 (A.rlen l_))then vL [.bool true] else E.lp (fun ds1=>zL A ds1 0 2 fun l2=>zI A ds1 1 fun n3=>zI A ds1 2 fun n4=>bif (A.ilt n4 n3)then iT (A.inr n4 (A.rlen l2)) <| zS A (A.row l2 n4) 0 fun s5=>zL A (A.row l2 n4) 1 1 fun l6=>bif (A.ilt 6 (A.rlen l6))then some (.inr (.val [.bool (A.ile 0 n4)])) else iL [.sl 2 l2,nI n3,nI (zW A (A.add n4 1))] else some (.inr (.val [.bool (A.ile 0 (-1))]))) [.sl 2 l_,nI (A.rlen l_),nI 0]
theorem q1x (l_:LL):(x1o A Tryz.prog cs 94 [.d (.sl 2 l_)]).run E=g94 A E l_:=by kernel_rfl
def g47 (l_:LL):Option PRes:=zC E 94 [.d (.sl 2 l_)] fun p1=>yB A p1 0 fun b3=>bif b3 then vL [nI 4] else E.lp (fun ds4=>zL A ds4 0 2 fun l5=>zL A ds4 1 2 fun l6=>zI A ds4 2 fun n7=>zI A ds4 3 fun n8=>zL A ds4 4 1 fun l9=>zL A ds4 5 1 fun l10=>zB A ds4 6 fun b11=>bif (A.ilt n8 n7)then iT (A.inr n8 (A.rlen l6)) <| zS A (A.row l6 n8) 0 fun s12=>zL A (A.row l6 n8) 1 1 fun l13=>iT (A.fits l9 [[.str s12]] 16) <| x0q (bif b11 then zC E 95 [.d (.str s12)] fun p14=>yB A p14 0 fun b16=>vB b16 else vB false) fun ds17=>zB A ds17 0 fun b18=>x0q (bif b18 then vB (A.ilt 0 (A.rlen l13)) else vB false) fun ds19=>zB A ds19 0 fun b20=>iL [.sl 2 l5, .sl 2 l6,nI n7,nI (zW A (A.add n8 1)), .sl 1 (A.rapp l9 [[.str s12]]), .sl 1 l10, .bool b20] else E.lp (fun ds21=>zL A ds21 0 2 fun l22=>zI A ds21 1 fun n23=>zI A ds21 2 fun n24=>zL A ds21 3 1 fun l25=>zL A ds21 4 1 fun l26=>zB A ds21 5 fun b27=>zL A ds21 6 2 fun l28=>zL A ds21 7 2 fun l29=>zL A ds21 8 2 fun l30=>zI A ds21 9 fun n31=>zI A ds21 10 fun n32=>zB A ds21 11 fun b33=>zL A ds21 12 2 fun l34=>bif (A.ilt n24 n23)then iT (A.inr n24 (A.rlen l22)) <| zS A (A.row l22 n24) 0 fun s35=>zL A (A.row l22 n24) 1 1 fun l36=>E.lp (fun ds37=>zI A ds37 0 fun n38=>zL A ds37 1 2 fun l39=>zI A ds37 2 fun n40=>zI A ds37 3 fun n41=>zL A ds37 4 1 fun l42=>zI A ds37 5 fun n43=>zI A ds37 6 fun n44=>zL A ds37 7 1 fun l45=>zL A ds37 8 1 fun l46=>zB A ds37 9 fun b47=>zL A ds37 10 2 fun l48=>zL A ds37 11 2 fun l49=>zL A ds37 12 2 fun l50=>zI A ds37 13 fun n51=>zI A ds37 14 fun n52=>zB A ds37 15 fun b53=>zL A ds37 16 2 fun l54=>bif (A.ilt n44 n43)then iT (A.inr n44 (A.rlen l42)) <| zS A (A.row l42 n44) 0 fun s55=>iT (A.fits l46 [[.str s55]] 16) <| x0q (bif b47 then zC E 97 [.d (.str s55)] fun p56=>yB A p56 0 fun b58=>vB b58 else vB false) fun ds59=>zB A ds59 0 fun b60=>bif (A.bnot true)then bif (A.bnot b60)then some (.inr (.inr (.inr (.val [nI 1])))) else zC E 54 [.d (.sl 1 l45)] fun p61=>yB A p61 0 fun b63=>x0q (bif (A.bnot b63)then vB true else zC E 54 [.d (.sl 1 (A.rapp l46 [[.str s55]]))] fun p64=>yB A p64 0 fun b66=>vB (A.bnot b66)) fun ds67=>zB A ds67 0 fun b68=>bif b68 then some (.inr (.inr (.inr (.val [nI 6])))) else some (.inr (.inr (.inr (.val [nI 0])))) else iL [nI n38, .sl 2 l39,nI n40,nI n41, .sl 1 l42,nI n43,nI (zW A (A.add n44 1)), .sl 1 l45, .sl 1 (A.rapp l46 [[.str s55]]), .bool b60, .sl 2 l48, .sl 2 l49, .sl 2 l50,nI n51,nI n52, .bool b53, .sl 2 l54] else some (.inr (.inl [.sl 2 l39,nI n40,nI (zW A (A.add n41 1)), .sl 1 l45, .sl 1 l46, .bool b47, .sl 2 l48, .sl 2 l49, .sl 2 l50,nI n51,nI n52, .bool b53, .sl 2 l54]))) [nI n24, .sl 2 l22,nI n23,nI n24, .sl 1 l36,nI (A.rlen l36),nI 0, .sl 1 l25, .sl 1 l26, .bool b27, .sl 2 l28, .sl 2 l29, .sl 2 l30,nI n31,nI n32, .bool b33, .sl 2 l34] else bif (A.bnot b27)then some (.inr (.inr (.val [nI 1]))) else zC E 54 [.d (.sl 1 l25)] fun p69=>yB A p69 0 fun b71=>x0q (bif (A.bnot b71)then vB true else zC E 54 [.d (.sl 1 l26)] fun p72=>yB A p72 0 fun b74=>vB (A.bnot b74)) fun ds75=>zB A ds75 0 fun b76=>bif b76 then some (.inr (.inr (.val [nI 6]))) else some (.inr (.inr (.val [nI 0])))) [.sl 2 l5,nI (A.rlen l5),nI 0, .sl 1 l9, .sl 1 l10, .bool b11, .sl 2 l5, .sl 2 l5, .sl 2 l6,nI n7,nI n8, .bool false, .sl 2 l5]) [.sl 2 l_, .sl 2 l_,nI (A.rlen l_),nI 0, .sl 1 [], .sl 1 [], .bool true]
theorem v8x (l_:LL):(x1o A Tryz.prog cs 47 [.d (.sl 2 l_)]).run E=g47 A E l_:=by kernel_rfl
def k1w (A:Sy)(E:Env)(l_:LL)(t_0 t_1 t_2:Int):Option PRes:=x0q (bif (A.ilt t_2 0)then vB true else vB (A.ilt 8 t_2)) fun ds1=>zB A ds1 0 fun b2=>bif b2 then vL [.bool false] else bif (A.ieq t_0 1)then vL [.bool (A.ieq t_1 0)] else bif (A.ieq t_0 2)then vL [.bool (A.ieq t_1 0)] else bif (A.ieq t_0 3)then x0q (bif (A.ile 0 t_1)then vB (A.ilt t_1 (A.rlen l_)) else vB false) fun ds3=>zB A ds3 0 fun b4=>vL [.bool b4] else vL [.bool false]
theorem w3y (l_:LL)(t_0 t_1 t_2:Int):(x1o A Tryz.prog cs 139 [.d (.sl 2 l_), .agg [.d (.int .i64 t_0), .d (.int .i64 t_1), .d (.int .i64 t_2)]]).run E=k1w A E l_ t_0 t_1 t_2:=by kernel_rfl
def k1v (s_:ByteArray):Option PRes:=zC E 97 [.d (.str s_)] fun p1=>yB A p1 0 fun b3=>x0q (bif b3 then vB true else vB (A.seq s_ (bs [116,114,117,101]))) fun ds4=>zB A ds4 0 fun b5=>x0q (bif b5 then vB true else vB (A.seq s_ (bs [102,97,108,115,101]))) fun ds6=>zB A ds6 0 fun b7=>vL [.bool b7]
theorem w3x (s_:ByteArray):(x1o A Tryz.prog cs 140 [.d (.str s_)]).run E=k1v A E s_:=by kernel_rfl
def k2r (n_0:ByteArray)(n_1 n_2 n_3 n_4:LL):Option PRes:=zC E 141 [.d (.sl 1 [[.sl 6 n_1],[.sl 6 n_2],[.sl 6 n_3]])] fun p1=>yL A p1 0 6 fun l3=>vL [.sl 6 l3]
theorem w4t (n_0:ByteArray)(n_1 n_2 n_3 n_4:LL):(x1o A Tryz.prog cs 100 [.agg [.d (.str n_0), .d (.sl 6 n_1), .d (.sl 6 n_2), .d (.sl 6 n_3), .d (.sl 7 n_4)]]).run E=k2r A E n_0 n_1 n_2 n_3 n_4:=by kernel_rfl
def k1u (slices_:LL):Option PRes:=E.lp (fun ds1=>zL A ds1 0 1 fun l2=>zI A ds1 1 fun n3=>zL A ds1 2 1 fun l4=>zI A ds1 3 fun n5=>zI A ds1 4 fun n6=>bif (A.ilt n6 n5)then iT (A.inr n6 (A.rlen l4)) <| zL A (A.row l4 n6) 0 6 fun l7=>bif (A.ilt (zW A (A.add n3 (A.rlen l7))) 0)then none else iL [.sl 1 l2,nI (zW A (A.add n3 (A.rlen l7))), .sl 1 l4,nI n5,nI (zW A (A.add n6 1))] else (opM (E.call 174 [.nils, .d (nI n3)]) 127 6).bind fun r8=>E.lp (fun ds9=>zL A ds9 0 1 fun l10=>zI A ds9 1 fun n11=>zI A ds9 2 fun n12=>zL A ds9 3 6 fun l13=>bif (A.ilt n12 n11)then iT (A.inr n12 (A.rlen l10)) <| zL A (A.row l10 n12) 0 6 fun l14=>iT (A.fits l13 l14 72) <| iL [.sl 1 l10,nI n11,nI (zW A (A.add n12 1)), .sl 6 (A.rapp l13 l14)] else some (.inr (.inr (.own 127 6 l13)))) [.sl 1 l2,nI (A.rlen l2),nI 0, .sl 6 r8]) [.sl 1 slices_,nI 0, .sl 1 slices_,nI (A.rlen slices_),nI 0]
theorem w3w (slices_:LL):(x1o A Tryz.prog cs 141 [.d (.sl 1 slices_)]).run E=k1u A E slices_:=by kernel_rfl
def k2q (x_0:LL)(x_1 x_2:Int)(x_3:ByteArray)(x_4:Int)(x_5 x_6:LL):Option PRes:=x0q (bif (A.ieq (A.rlen x_0) 0)then vB true else zC E 143 [kE x_1 x_2 x_3 x_4 x_5 x_6] fun p1=>yB A p1 0 fun b3=>vB (A.bnot b3)) fun ds4=>zB A ds4 0 fun b5=>x0q (bif b5 then vB true else bif (A.ilt 1 (A.rlen x_0))then vB (A.bnot (A.ieq x_1 13)) else vB false) fun ds6=>zB A ds6 0 fun b7=>bif b7 then vL [.bool false] else E.lp (fun ds8=>zL A ds8 0 1 fun l9=>zI A ds8 1 fun n10=>zI A ds8 2 fun n11=>zL A ds8 3 1 fun l12=>oE A ds8 4 fun n13 n14 s15 n16 l17 l18=>bif (A.ilt n11 n10)then iT (A.inr n11 (A.rlen l9)) <| zS A (A.row l9 n11) 0 fun s19=>zC E 95 [.d (.str s19)] fun p20=>yB A p20 0 fun b22=>bif (A.bnot b22)then some (.inr (.val [.bool (A.bnot (A.ile 0 n11))])) else iL [.sl 1 l9,nI n10,nI (zW A (A.add n11 1)), .sl 1 l12,nI n13,nI n14, .str s15,nI n16, .sl 1 l17, .sl 6 l18] else some (.inr (.val [.bool (A.bnot (A.ile 0 (-1)))]))) [.sl 1 x_0,nI (A.rlen x_0),nI 0, .sl 1 x_0,nI x_1,nI x_2, .str x_3,nI x_4, .sl 1 x_5, .sl 6 x_6]
theorem w4s (x_0:LL)(x_1 x_2:Int)(x_3:ByteArray)(x_4:Int)(x_5 x_6:LL):(x1o A Tryz.prog cs 103 [.agg [.d (.sl 1 x_0), .d (.int .i64 x_1), .d (.int .i64 x_2), .d (.str x_3), .d (.int .i64 x_4), .d (.sl 1 x_5), .d (.sl 6 x_6)]]).run E=k2q A E x_0 x_1 x_2 x_3 x_4 x_5 x_6:=by kernel_rfl
def g51 (l_:LL)(n_0:ByteArray)(n_1 n_2 n_3 n_4:LL):Option PRes:=zC E 100 [.agg [.d (.str n_0), .d (.sl 6 n_1), .d (.sl 6 n_2), .d (.sl 6 n_3), .d (.sl 7 n_4)]] fun p1=>yL A p1 0 6 fun l3=>E.lp (fun ds4=>zL A ds4 0 6 fun l5=>zI A ds4 1 fun n6=>zI A ds4 2 fun n7=>zS A ds4 3 fun s8=>zL A ds4 4 6 fun l9=>zL A ds4 5 6 fun l10=>zL A ds4 6 6 fun l11=>zL A ds4 7 7 fun l12=>zL A ds4 8 2 fun l13=>bif (A.ilt n7 n6)then iT (A.inr n7 (A.rlen l5)) <| oD A (A.row l5 n7) 0 fun s14 n15 n16 n17 s18 s19=>x0q (bif (A.seq s18 (bs []))then vB (A.seq s19 (bs [])) else vB false) fun ds20=>zB A ds20 0 fun b21=>zC E 95 [.d (.str s14)] fun p22=>yB A p22 0 fun b24=>x0q (bif b24 then zC E 139 [.d (.sl 2 l13), .agg [.d (nI n15), .d (nI n16), .d (nI n17)]] fun p25=>yB A p25 0 fun b27=>vB b27 else vB false) fun ds28=>zB A ds28 0 fun b29=>x0q (bif b29 then bif b21 then vB true else zC E 95 [.d (.str s18)] fun p30=>yB A p30 0 fun b32=>bif b32 then zC E 140 [.d (.str s19)] fun p33=>yB A p33 0 fun b35=>vB b35 else vB false else vB false) fun ds36=>zB A ds36 0 fun b37=>bif (A.bnot b37)then some (.inr (.val [.bool false])) else iL [.sl 6 l5,nI n6,nI (zW A (A.add n7 1)), .str s8, .sl 6 l9, .sl 6 l10, .sl 6 l11, .sl 7 l12, .sl 2 l13] else x0q (E.lp (fun ds38=>zL A ds38 0 6 fun l39=>zI A ds38 1 fun n40=>zI A ds38 2 fun n41=>zS A ds38 3 fun s42=>zL A ds38 4 6 fun l43=>zL A ds38 5 6 fun l44=>zL A ds38 6 6 fun l45=>zL A ds38 7 7 fun l46=>zL A ds38 8 2 fun l47=>bif (A.ilt n41 n40)then iT (A.inr n41 (A.rlen l39)) <| oD A (A.row l39 n41) 0 fun s48 n49 n50 n51 s52 s53=>bif (A.bnot (A.seq s52 (bs [])))then bif (A.ile 0 n41)then some (.inr (.inl [.bool true, .str s42, .sl 6 l43, .sl 6 l44, .sl 6 l45, .sl 7 l46])) else E.lp (fun ds54=>zL A ds54 0 6 fun l55=>zI A ds54 1 fun n56=>zI A ds54 2 fun n57=>zS A ds54 3 fun s58=>zL A ds54 4 6 fun l59=>zL A ds54 5 6 fun l60=>zL A ds54 6 6 fun l61=>zL A ds54 7 7 fun l62=>zL A ds54 8 2 fun l63=>bif (A.ilt n57 n56)then iT (A.inr n57 (A.rlen l55)) <| oD A (A.row l55 n57) 0 fun s64 n65 n66 n67 s68 s69=>bif (A.bnot (A.seq s68 (bs [])))then some (.inr (.inr (.inl [.bool (A.ile 0 n57), .str s58, .sl 6 l59, .sl 6 l60, .sl 6 l61, .sl 7 l62]))) else iL [.sl 6 l55,nI n56,nI (zW A (A.add n57 1)), .str s58, .sl 6 l59, .sl 6 l60, .sl 6 l61, .sl 7 l62, .sl 2 l63] else some (.inr (.inr (.inl [.bool (A.ile 0 (-1)), .str s58, .sl 6 l59, .sl 6 l60, .sl 6 l61, .sl 7 l62])))) [.sl 6 l44,nI (A.rlen l44),nI 0, .str s42, .sl 6 l43, .sl 6 l44, .sl 6 l45, .sl 7 l46, .sl 2 l47] else iL [.sl 6 l39,nI n40,nI (zW A (A.add n41 1)), .str s42, .sl 6 l43, .sl 6 l44, .sl 6 l45, .sl 7 l46, .sl 2 l47] else bif (A.ile 0 (-1))then some (.inr (.inl [.bool true, .str s42, .sl 6 l43, .sl 6 l44, .sl 6 l45, .sl 7 l46])) else E.lp (fun ds70=>zL A ds70 0 6 fun l71=>zI A ds70 1 fun n72=>zI A ds70 2 fun n73=>zS A ds70 3 fun s74=>zL A ds70 4 6 fun l75=>zL A ds70 5 6 fun l76=>zL A ds70 6 6 fun l77=>zL A ds70 7 7 fun l78=>zL A ds70 8 2 fun l79=>bif (A.ilt n73 n72)then iT (A.inr n73 (A.rlen l71)) <| oD A (A.row l71 n73) 0 fun s80 n81 n82 n83 s84 s85=>bif (A.bnot (A.seq s84 (bs [])))then some (.inr (.inr (.inl [.bool (A.ile 0 n73), .str s74, .sl 6 l75, .sl 6 l76, .sl 6 l77, .sl 7 l78]))) else iL [.sl 6 l71,nI n72,nI (zW A (A.add n73 1)), .str s74, .sl 6 l75, .sl 6 l76, .sl 6 l77, .sl 7 l78, .sl 2 l79] else some (.inr (.inr (.inl [.bool (A.ile 0 (-1)), .str s74, .sl 6 l75, .sl 6 l76, .sl 6 l77, .sl 7 l78])))) [.sl 6 l44,nI (A.rlen l44),nI 0, .str s42, .sl 6 l43, .sl 6 l44, .sl 6 l45, .sl 7 l46, .sl 2 l47]) [.sl 6 l9,nI (A.rlen l9),nI 0, .str s8, .sl 6 l9, .sl 6 l10, .sl 6 l11, .sl 7 l12, .sl 2 l13]) fun ds86=>zB A ds86 0 fun b87=>zS A ds86 1 fun s88=>zL A ds86 2 6 fun l89=>zL A ds86 3 6 fun l90=>zL A ds86 4 6 fun l91=>zL A ds86 5 7 fun l92=>bif b87 then some (.inr (.val [.bool false])) else E.lp (fun ds93=>zL A ds93 0 7 fun l94=>zI A ds93 1 fun n95=>zI A ds93 2 fun n96=>zS A ds93 3 fun s97=>zL A ds93 4 6 fun l98=>zL A ds93 5 6 fun l99=>zL A ds93 6 6 fun l100=>zL A ds93 7 7 fun l101=>
 bif (A.ilt n96 n95)then iT (A.inr n96 (A.rlen l94)) <| zL A (A.row l94 n96) 0 1 fun l102=>oE A (A.row l94 n96) 1 fun n103 n104 s105 n106 l107 l108=>zC E 103 [.agg [.d (.sl 1 l102), .d (nI n103), .d (nI n104), .d (.str s105), .d (nI n106), .d (.sl 1 l107), .d (.sl 6 l108)]] fun p109=>yB A p109 0 fun w9o=>bif (A.bnot w9o)then some (.inr (.inr (.val [.bool false]))) else iL [.sl 7 l94,nI n95,nI (zW A (A.add n96 1)), .str s97, .sl 6 l98, .sl 6 l99, .sl 6 l100, .sl 7 l101] else zC E 95 [.d (.str s97)] fun p112=>yB A p112 0 fun b114=>x0q (bif b114 then vB (A.ilt 0 (A.rlen l99)) else vB false) fun ds115=>zB A ds115 0 fun b116=>some (.inr (.inr (.val [.bool b116])))) [.sl 7 l92,nI (A.rlen l92),nI 0, .str s88, .sl 6 l89, .sl 6 l90, .sl 6 l91, .sl 7 l92]) [.sl 6 l3,nI (A.rlen l3),nI 0, .str n_0, .sl 6 n_1, .sl 6 n_2, .sl 6 n_3, .sl 7 n_4, .sl 2 l_]
theorem q2t (l_:LL)(n_0:ByteArray)(n_1 n_2 n_3 n_4:LL):(x1o A Tryz.prog cs 51 [.d (.sl 2 l_), .agg [.d (.str n_0), .d (.sl 6 n_1), .d (.sl 6 n_2), .d (.sl 6 n_3), .d (.sl 7 n_4)]]).run E=g51 A E l_ n_0 n_1 n_2 n_3 n_4:=by kernel_rfl
def g53 (n_0:ByteArray)(n_1 n_2 n_3 n_4:LL):Option PRes:=zC E 100 [.agg [.d (.str n_0), .d (.sl 6 n_1), .d (.sl 6 n_2), .d (.sl 6 n_3), .d (.sl 7 n_4)]] fun p1=>yL A p1 0 6 fun l3=>E.lp (fun ds4=>zL A ds4 0 6 fun l5=>zI A ds4 1 fun n6=>zI A ds4 2 fun n7=>zL A ds4 3 1 fun l8=>bif (A.ilt n7 n6)then iT (A.inr n7 (A.rlen l5)) <| oD A (A.row l5 n7) 0 fun s9 n10 n11 n12 s13 s14=>iT (A.fits l8 [[.str s9]] 16) <| iL [.sl 6 l5,nI n6,nI (zW A (A.add n7 1)), .sl 1 (A.rapp l8 [[.str s9]])] else zC E 54 [.d (.sl 1 l8)] fun p15=>yB A p15 0 fun b17=>some (.inr (.val [.bool b17]))) [.sl 6 l3,nI (A.rlen l3),nI 0, .sl 1 []]
theorem q2s (n_0:ByteArray)(n_1 n_2 n_3 n_4:LL):(x1o A Tryz.prog cs 53 [.agg [.d (.str n_0), .d (.sl 6 n_1), .d (.sl 6 n_2), .d (.sl 6 n_3), .d (.sl 7 n_4)]]).run E=g53 A E n_0 n_1 n_2 n_3 n_4:=by kernel_rfl
def g17 (p_0 p_1:LL):Option PRes:=zC E 47 [.d (.sl 2 p_0)] fun p1=>yI A p1 0 fun n3=>bif (A.bnot (A.ieq n3 0))then vL [nI n3] else E.lp (fun ds4=>zL A ds4 0 5 fun l5=>zI A ds4 1 fun n6=>zI A ds4 2 fun n7=>zL A ds4 3 2 fun l8=>zL A ds4 4 5 fun l9=>zL A ds4 5 1 fun l10=>bif (A.ilt n7 n6)then iT (A.inr n7 (A.rlen l5)) <| zS A (A.row l5 n7) 0 fun s11=>zL A (A.row l5 n7) 1 6 fun l12=>zL A (A.row l5 n7) 2 6 fun l13=>zL A (A.row l5 n7) 3 6 fun l14=>zL A (A.row l5 n7) 4 7 fun l15=>iT (A.fits l10 [[.str s11]] 16) <| iL [.sl 5 l5,nI n6,nI (zW A (A.add n7 1)), .sl 2 l8, .sl 5 l9, .sl 1 (A.rapp l10 [[.str s11]])] else bif (A.ieq (A.rlen l9) 0)then some (.inr (.val [nI 5])) else x0q (bif (A.ilt 6 (A.rlen l9))then iL [.bool true, .sl 2 l8, .sl 5 l9, .sl 1 l10] else E.lp (fun ds16=>zL A ds16 0 5 fun l17=>zI A ds16 1 fun n18=>zI A ds16 2 fun n19=>zL A ds16 3 2 fun l20=>zL A ds16 4 5 fun l21=>zL A ds16 5 1 fun l22=>zL A ds16 6 2 fun l23=>zL A ds16 7 5 fun l24=>bif (A.ilt n19 n18)then iT (A.inr n19 (A.rlen l17)) <| zS A (A.row l17 n19) 0 fun s25=>zL A (A.row l17 n19) 1 6 fun l26=>zL A (A.row l17 n19) 2 6 fun l27=>zL A (A.row l17 n19) 3 6 fun l28=>zL A (A.row l17 n19) 4 7 fun l29=>x0q (bif (A.ilt 6 (A.rlen l26))then vB true else vB (A.ilt 6 (A.rlen l27))) fun ds30=>zB A ds30 0 fun b31=>x0q (bif b31 then vB true else vB (A.ilt 12 (A.rlen l28))) fun ds32=>zB A ds32 0 fun b33=>x0q (bif b33 then vB true else vB (A.ilt 18 (A.rlen l29))) fun ds34=>zB A ds34 0 fun b35=>bif b35 then some (.inr (.inl [.bool (A.ile 0 n19), .sl 2 l20, .sl 5 l21, .sl 1 l22])) else iL [.sl 5 l17,nI n18,nI (zW A (A.add n19 1)), .sl 2 l20, .sl 5 l21, .sl 1 l22, .sl 2 l23, .sl 5 l24] else some (.inr (.inl [.bool (A.ile 0 (-1)), .sl 2 l20, .sl 5 l21, .sl 1 l22]))) [.sl 5 l9,nI (A.rlen l9),nI 0, .sl 2 l8, .sl 5 l9, .sl 1 l10, .sl 2 l8, .sl 5 l9]) fun ds36=>zB A ds36 0 fun b37=>zL A ds36 1 2 fun l38=>zL A ds36 2 5 fun l39=>zL A ds36 3 1 fun l40=>bif b37 then some (.inr (.val [nI 4])) else x0q (E.lp (fun ds41=>zL A ds41 0 5 fun l42=>zI A ds41 1 fun n43=>zI A ds41 2 fun n44=>zL A ds41 3 2 fun l45=>zL A ds41 4 5 fun l46=>zL A ds41 5 1 fun l47=>zL A ds41 6 2 fun l48=>zL A ds41 7 5 fun l49=>bif (A.ilt n44 n43)then iT (A.inr n44 (A.rlen l42)) <| zS A (A.row l42 n44) 0 fun s50=>zL A (A.row l42 n44) 1 6 fun l51=>zL A (A.row l42 n44) 2 6 fun l52=>zL A (A.row l42 n44) 3 6 fun l53=>zL A (A.row l42 n44) 4 7 fun l54=>zC E 51 [.d (.sl 2 l45), .agg [.d (.str s50), .d (.sl 6 l51), .d (.sl 6 l52), .d (.sl 6 l53), .d (.sl 7 l54)]] fun p55=>yB A p55 0 fun b57=>bif (A.bnot b57)then some (.inr (.inl [.bool (A.ile 0 n44), .sl 2 l45, .sl 5 l46, .sl 1 l47])) else iL [.sl 5 l42,nI n43,nI (zW A (A.add n44 1)), .sl 2 l45, .sl 5 l46, .sl 1 l47, .sl 2 l48, .sl 5 l49] else some (.inr (.inl [.bool (A.ile 0 (-1)), .sl 2 l45, .sl 5 l46, .sl 1 l47]))) [.sl 5 l39,nI (A.rlen l39),nI 0, .sl 2 l38, .sl 5 l39, .sl 1 l40, .sl 2 l38, .sl 5 l39]) fun ds58=>zB A ds58 0 fun b59=>zL A ds58 1 2 fun l60=>zL A ds58 2 5 fun l61=>zL A ds58 3 1 fun l62=>bif b59 then some (.inr (.val [nI 1])) else x0q (E.lp (fun ds63=>zL A ds63 0 5 fun l64=>zI A ds63 1 fun n65=>zI A ds63 2 fun n66=>zL A ds63 3 2 fun l67=>zL A ds63 4 5 fun l68=>zL A ds63 5 1 fun l69=>zL A ds63 6 2 fun l70=>zL A ds63 7 5 fun l71=>bif (A.ilt n66 n65)then iT (A.inr n66 (A.rlen l64)) <| zS A (A.row l64 n66) 0 fun s72=>zL A (A.row l64 n66) 1 6 fun l73=>zL A (A.row l64 n66) 2 6 fun l74=>zL A (A.row l64 n66) 3 6 fun l75=>zL A (A.row l64 n66) 4 7 fun l76=>zC E 53 [.agg [.d (.str s72), .d (.sl 6 l73), .d (.sl 6 l74), .d (.sl 6 l75), .d (.sl 7 l76)]] fun p77=>yB A p77 0 fun b79=>bif (A.bnot b79)then x0q (bif (A.ile 0 n66)then vB true else zC E 54 [.d (.sl 1 l69)] fun p80=>yB A p80 0 fun b82=>vB (A.bnot b82)) fun ds83=>zB A ds83 0 fun b84=>some (.inr (.inl [.bool b84, .sl 2 l67, .sl 5 l68, .sl 1 l69])) else iL [.sl 5 l64,nI n65,nI (zW A (A.add n66 1)), .sl 2 l67, .sl 5 l68, .sl 1 l69, .sl 2 l70, .sl 5 l71] else x0q (bif (A.ile 0 (-1))then vB true else zC E 54 [.d (.sl 1 l69)] fun p85=>
 yB A p85 0 fun b87=>vB (A.bnot b87)) fun ds88=>zB A ds88 0 fun b89=>some (.inr (.inl [.bool b89, .sl 2 l67, .sl 5 l68, .sl 1 l69]))) [.sl 5 l61,nI (A.rlen l61),nI 0, .sl 2 l60, .sl 5 l61, .sl 1 l62, .sl 2 l60, .sl 5 l61]) fun ds90=>zB A ds90 0 fun b91=>zL A ds90 1 2 fun l92=>zL A ds90 2 5 fun l93=>zL A ds90 3 1 fun l94=>bif b91 then some (.inr (.val [nI 6])) else some (.inr (.val [nI 0]))) [.sl 5 p_1,nI (A.rlen p_1),nI 0, .sl 2 p_0, .sl 5 p_1, .sl 1 []]
theorem q3e (p_0 p_1:LL):(x1o A Tryz.prog cs 17 [.agg [.d (.sl 2 p_0), .d (.sl 5 p_1)]]).run E=g17 A E p_0 p_1:=by kernel_rfl
end
end Go.Vm
end

section
set_option maxRecDepth 100000
set_option maxHeartbeats 4000000
namespace Go.Vm
open Go.Proofs
def x8c (l:List En):Bool:=decide (4 < (l.length:Int)) || l.any fun e=>decide (6 < (e.2.length:Int))
def x1s (l:List En):List ByteArray:=l.flatMap (·.2)
def u6x (l:List En):Bool:=l.all fun e=>x7m (tb e.1)&&decide (0 < (e.2.length:Int))
def y1m (l:List ByteArray):Bool:=l.all fun c=>y1l (tb c)
def y0y (l:List En):Int:=bif x8c l then 4 else bif !(u6x l&&y1m (x1s l))then 1 else bif !(decide (l.map (·.1)).Nodup) || !(decide (x1s l).Nodup)then 6 else 0
def y5h (n:Nd):List Dc:=n.ins++n.outs++n.vars
def tyB (ens:List En)(k e c:Int):Bool:= !(decide (c < 0) || decide (8 < c))&&(bif decide (k=1)then decide (e=0)else bif decide (k=2)then decide (e=0)else decide (k=3)&&(decide (0≤e)&&decide (e < (ens.length:Int))))
def w6w (d:Dc):Bool:=decide (tb d.o=tb (bs []))&&decide (tb d.q=tb (bs []))
def z3u (ens:List En)(d:Dc):Bool:=(x7m (tb d.n)&&tyB ens d.k d.e d.c)&&(w6w d || (x7m (tb d.o)&&y5f d.q))
def Ex.k:Ex→Int| .mk k _ _ _ _ _=>k
def eqB (x:Eqn):Bool:= !(decide ((x.ns.length:Int)=0))&&(x3i x.e&&y9u x.e)&& !(decide (1 < (x.ns.length:Int))&& !decide (x.e.k=13))&&x.ns.all fun s=>x7m (tb s)
def y4a (l:List Dc):Bool:=l.all fun d=>decide (tb d.o=tb (bs []))
def y3z (ens:List En)(n:Nd):Bool:=(y5h n).all (z3u ens)&&(y4a n.ins&&(y4a n.outs&&(n.eqs.all eqB&&(x7m (tb n.n)&&decide (0 < (n.outs.length:Int))))))
def y7z (n:Nd):Bool:=decide (6 < (n.ins.length:Int)) || (decide (6 < (n.outs.length:Int)) || (decide (12 < (n.vars.length:Int)) || decide (18 < (n.eqs.length:Int))))
def y5q (n:Nd):Bool:=decide ((y5h n).map (·.n)).Nodup
def y5w (ens:List En)(nds:List Nd):Int:=bif !decide (y0y ens=0)then y0y ens else bif decide ((nds.length:Int)=0)then 5 else bif decide (6 < (nds.length:Int)) || nds.any y7z then 4 else bif !(nds.all (y3z ens))then 1 else bif !(nds.all y5q) || !decide (nds.map (·.n)).Nodup then 6 else 0
theorem y1i {l:List Nd}{i:Nat}{x:Nd}(h:l[i]? =some x):sy.row (x2b l) (i:Int)=y5r x:=by
 rw[y4r,a0h,a0d]
 unfold x2b
 rw[a0l,h];rfl
theorem y1n {l:List Dc}{i:Nat}{x:Dc}(h:l[i]? =some x):sy.row (x0k l) (i:Int)=z0p x:=by
 rw[y4r,a0h,a0d]
 unfold x0k
 rw[a0l,h];rfl
theorem z9s {l:List Eqn}{i:Nat}{x:Eqn}(h:l[i]? =some x):sy.row (x2q l) (i:Int)=z9a x:=by
 rw[y4r,a0h,a0d]
 unfold x2q
 rw[a0l,h];rfl
theorem y9b {l:List En}{i:Nat}{x:En}(h:l[i]? =some x):sy.row (x0g l) (i:Int)= [.str x.1, .sl 1 (x0e x.2)]:=by
 rw[y4r,a0h,a0d]
 unfold x0g
 rw[a0l,h];rfl
theorem x2y {α:Type}{b:List D→Option (List D ⊕ α)}{r:α}{ds:List D}(n:Nat)(mk:Nat→List D)(h0:ds=mk 0)(hb: ∀i,i < n→b (mk i)=some (.inl (mk (i+1))))(hend:b (mk n)=some (.inr r)):x7h b ds=some r:=by
 rw[h0];exact u2i n mk hb hend
theorem v5h {l:List En}(h:x8c l=false):l.length≤4∧ ∀e∈l,e.2.length≤6:=by
 unfold x8c at h
 rw[Bool.or_eq_false_iff]at h
 refine⟨by have:=of_decide_eq_false h.1;omega,fun e he=> ?_⟩
 have:=List.any_eq_false.1 h.2 e he
 simp at this
 omega
theorem y9g {l:List En}{i:Nat}{x:En}(h:l[i]? =some x):x1s (l.take (i+1))=x1s (l.take i)++x.2:=by
 rw[a1f,h];simp [x1s]
theorem u9l {l:List En}{i:Nat}{x:En}(h:l[i]? =some x):u6x (l.take (i+1))=(u6x (l.take i)&&(x7m (tb x.1)&&decide (0 < (x.2.length:Int)))):=by
 rw[a1f,h];simp [u6x]
theorem z6y (a b:List ByteArray):y1m (a++b)=(y1m a&&y1m b):=by simp [y1m]
theorem u5q {l:List ByteArray}{i:Nat}{x:ByteArray}(h:l[i]? =some x):y1m (l.take (i+1))=(y1m (l.take i)&&y1l (tb x)):=by
 rw[a1f,h];simp [y1m]
theorem z1n {l:List En}{i:Nat}{x:En}(h:l[i]? =some x):(l.take (i+1)).map (·.1)=(l.take i).map (·.1)++[x.1]:=by
 rw[a1f,h,List.map_append];rfl
theorem y9h: ∀ {l:List En},(∀e∈l,e.2.length≤6)→(x1s l).length≤6*l.length
 | [],_=>by simp [x1s]
 |x::l,h=>by
  have h1:=h x a1q
  have h2:=y9h (l:=l) fun e he=>h e (a2f _ he)
  unfold x1s at*
  simp only [List.flatMap_cons,a0j,a0f]
  omega
theorem u6g {l:List En}(i:Nat):(x1s (l.take i)).length≤(x1s l).length:=by
 have h:x1s l=x1s (l.take i)++x1s (l.drop i):=by
  unfold x1s
  rw[←List.flatMap_append,a2c]
 rw[h,a0j];omega
theorem v1x (l:List En)(hl:l.length≤1000000):cF 94 [.d (.sl 2 (x0g l))]=some (.val [.bool (x8c l)]):=by
 unfold x8c
 refine cOf (by kernel_rfl) rfl ?_
 rw[q1x]
 simp only [g94,go1,Int.reduceLE,x1b]
 cases decide (4 < (l.length:Int))with
 |true=>rfl
 |false=>
  simp only [go1]
  refine x1u (r0:=PRes.val [.bool true]) (r1:=PRes.val [.bool false]) (fun e:En=> !decide (6 < (e.2.length:Int))) l (fun i=>[.sl 2 (x0g l), .int .i64 (l.length:Int), .int .i64 (i:Int)]) rfl (fun i x hx=> ?_) (fun _=> ?_) ?_
  ·have hlt:=(a0a.1 hx).1
   simp only [go1,x1b,x0f,x0n hlt,x0p hlt,y9b hx,x0c hlt (by omega),x1m (a2j i)]
   cases decide (6 < (x.2.length:Int))<;>rfl
  ·simp only [go1,x0h];try rfl
  ·rw[List.any_eq_not_all_not]
   cases List.all l _<;>rfl
theorem v1y (l:List En)(hl:l.length≤1000000):cF 47 [.d (.sl 2 (x0g l))]=some (.val [.int .i64 (y0y l)]):=by
 have hg:=v1x l hl
 unfold y0y
 cases hG:x8c l with
 |true=>
  rw[hG]at hg
  refine cOf (by kernel_rfl) rfl ?_
  rw[v8x]
  simp only [g47,go1,Nat.reduceAdd,hg]
 |false=>
  rw[hG]at hg
  obtain⟨h4,h6⟩:=v5h hG
  have hcb:=y9h h6
  have hO1:=y9r (l.map (·.1)) (by simp;omega)
  have hO2:=y9r (x1s l) (by omega)
  refine cOf (by kernel_rfl) rfl ?_
  rw[v8x]
  simp only [g47,go1,Nat.reduceAdd,hg,x1b]
  refine x2y l.length (fun i=>[.sl 2 (x0g l), .sl 2 (x0g l), .int .i64 (l.length:Int), .int .i64 (i:Int), .sl 1 (x0e ((l.take i).map (·.1))), .sl 1 [], .bool (u6x (l.take i))]) rfl (fun i hlt=> ?_) ?_
  ·have hx:=a0b hlt
   have hL:=z4g l[i].1
   have hf:=x6p (x0e ((l.take i).map (·.1))) [[.str l[i].1]] 16 (by rw[x0f,a1c,a1k];simp only [a0f,a0i];omega)
   rw[z1n hx,x3a,u9l hx]
   simp only [go1,Nat.reduceAdd,x1b,x0f,x0n hlt,x0p hlt,y9b hx,hL,a0f,a0i,x0c hlt (by omega)]at hf ⊢
   rw[hf]
   cases u6x (l.take i)<;>cases x7m (tb l[i].1)<;>rfl
  ·simp only [go1,x1b,x0h,a0x]
   refine x2y l.length (fun i=>[.sl 2 (x0g l), .int .i64 (l.length:Int), .int .i64 (i:Int), .sl 1 (x0e (l.map (·.1))), .sl 1 (x0e (x1s (l.take i))), .bool (y1m (x1s (l.take i))&&u6x l), .sl 2 (x0g l), .sl 2 (x0g l), .sl 2 (x0g l), .int .i64 (l.length:Int), .int .i64 (l.length:Int), .bool false, .sl 2 (x0g l)]) rfl (fun i hlt=> ?_) ?_
   ·have hx:=a0b hlt
    have hci:=h6 _ (a1p hlt)
    have hb1:=u6g (l:=l) i
    rw[y9g hx]
    simp only [go1,x1b,x0f,x0n hlt,x0p hlt,y9b hx]
    refine x2y l[i].2.length (fun j=>[.int .i64 (i:Int), .sl 2 (x0g l), .int .i64 (l.length:Int), .int .i64 (i:Int), .sl 1 (x0e l[i].2), .int .i64 (l[i].2.length:Int), .int .i64 (j:Int), .sl 1 (x0e (l.map (·.1))), .sl 1 (x0e (x1s (l.take i)++l[i].2.take j)), .bool (y1m (x1s (l.take i)++l[i].2.take j)&&u6x l), .sl 2 (x0g l), .sl 2 (x0g l), .sl 2 (x0g l), .int .i64 (l.length:Int), .int .i64 (l.length:Int), .bool false, .sl 2 (x0g l)]) (by simp only [List.take_zero,a2e];rfl) (fun j hj=> ?_) ?_
    ·have hy:=a0b hj
     have hH:=z8p l[i].2[j]
     have hf:=x6p (x0e (x1s (l.take i)++l[i].2.take j)) [[.str l[i].2[j]]] 16 (by rw[x0f,a0j,a1k];simp only [a0f,a0i];omega)
     rw[z6y _ (l[i].2.take (j+1)),u5q hy,←Bool.and_assoc,←z6y,a1f,hy,a2i,←List.append_assoc,x3a]
     simp only [go1,Nat.reduceAdd,x0f,x0n hj,x0p hj,x1v hy,hH,a0f,a0i,x0c hj (by omega)]at hf ⊢
     rw[hf]
     cases y1m (x1s (l.take i)++l[i].2.take j)<;>cases u6x l<;>cases y1l (tb l[i].2[j])<;>rfl
    ·simp only [go1,x0h,a0x,x0c hlt (by omega)]
     rfl
   ·simp only [go1,x0h,a0x,hO1,hO2]
    rw[Bool.and_comm (u6x l)]
    cases y1m (x1s l)&&u6x l
    ·rfl
    ·cases decide (l.map (·.1)).Nodup<;>cases decide (x1s l).Nodup<;>rfl
theorem q4a (n:Int)(h:0≤n∧n≤1000000):cF 174 [V.nils, .d (.int .i64 n)]=some (.own 127 6 []):=by
 refine y1w ?_
 show(match decide (0≤n∧n≤1000000)with
  |true=>some (PRes.own 127 6 [])
  |false=>none)=_
 rw[x1m h]
theorem y3d (a b:List Dc):x0k a++x0k b=x0k (a++b):=by simp [x0k]
def z8a (L:List (List Dc)):LL:=L.map fun d=>[.sl 6 (x0k d)]
theorem v1j {l:List (List Dc)}{i:Nat}{x:List Dc}(h:l[i]? =some x):sy.row (z8a l) (i:Int)= [.sl 6 (x0k x)]:=by
 rw[y4r,a0h,a0d]
 unfold z8a
 rw[a0l,h];rfl
theorem v6v (L:List (List Dc))(h:L.flatten.length≤1000000)(hL:L.length≤1000):cF 141 [.d (.sl 1 (z8a L))]=some (.own 127 6 (x0k L.flatten)):=by
 have hg:=q4a (L.flatten.length:Int) (by omega)
 have hc:(z8a L).length=L.length:=by simp [z8a]
 have hs: ∀i (hi:i < L.length),(L.take (i+1)).flatten=(L.take i).flatten++L[i]:=fun i hi=>by
  rw[a1f,a0b hi,a2i,List.flatten_append,List.flatten_cons,List.flatten_nil,a2e]
 have hb: ∀i,(L.take i).flatten.length≤1000000:=fun i=>by
  have e:L.flatten.length=(L.take i).flatten.length+(L.drop i).flatten.length:=by
   rw[←a0j,←List.flatten_append,a2c]
  omega
 refine cOf (by kernel_rfl) rfl ?_
 rw[w3w]
 simp only [k1u,go1,Nat.reduceAdd,hc]
 refine x2y L.length (fun i=>[.sl 1 (z8a L), .int .i64 ((L.take i).flatten.length:Int), .sl 1 (z8a L), .int .i64 (L.length:Int), .int .i64 (i:Int)]) rfl (fun i hlt=> ?_) ?_
 ·have hx:=a0b hlt
  have h1:=hb (i+1)
  have w:IntKind.i64.wrap (((L.take i).flatten.length:Int)+((x0k L[i]).length:Int))=((L.take (i+1)).flatten.length:Int):=by
   rw[hs i hlt,a0j]at h1 ⊢
   rw[x0v];rw[x0j (by omega) (by omega)];omega
  simp only [go1,hc,x0n hlt,x0p hlt,v1j hx,w,x1c (p:=((L.take (i+1)).flatten.length:Int) < 0) (by omega),x0c hlt (by omega)]
  rfl
 ·simp only [go1,x0h,a0x,hg,hc]
  refine x2y L.length (fun i=>[.sl 1 (z8a L), .int .i64 (L.length:Int), .int .i64 (i:Int), .sl 6 (x0k (L.take i).flatten)]) rfl (fun i hlt=> ?_) ?_
  ·have hx:=a0b hlt
   have h1:=hb (i+1)
   rw[hs i hlt,a0j]at h1
   have hf:=x6p (x0k (L.take i).flatten) (x0k L[i]) 72 (by rw[x0v,x0v];omega)
   rw[hs i hlt,←y3d]
   simp only [go1,Nat.reduceAdd]at hf
   simp only [go1,hc,x0n hlt,x0p hlt,v1j hx,hf,x0c hlt (by omega)]
   rfl
  ·simp only [go1,x0h,a0x]
theorem q4c (n:Nd)(h:(y5h n).length≤1000000):cF 100 [.agg [.d (.str n.n), .d (.sl 6 (x0k n.ins)), .d (.sl 6 (x0k n.outs)), .d (.sl 6 (x0k n.vars)), .d (.sl 7 (x2q n.eqs))]]=some (.val [.sl 6 (x0k (y5h n))]):=by
 have e:[n.ins,n.outs,n.vars].flatten=y5h n:=by simp [y5h]
 have h1:=v6v [n.ins,n.outs,n.vars] (by rw[e];exact h) (by simp)
 rw[e]at h1
 have h1:cF 141 [.d (.sl 1 [[.sl 6 (x0k n.ins)],[.sl 6 (x0k n.outs)],[.sl 6 (x0k n.vars)]])]=_:=h1
 refine cOf (by kernel_rfl) rfl ?_
 rw[w4t]
 simp only [k2r,go1,h1]
theorem q3w (n:Nd)(h:(y5h n).length≤1000000):cF 53 [.agg [.d (.str n.n), .d (.sl 6 (x0k n.ins)), .d (.sl 6 (x0k n.outs)), .d (.sl 6 (x0k n.vars)), .d (.sl 7 (x2q n.eqs))]]=some (.val [.bool (y5q n)]):=by
 have h1:=q4c n h
 have h2:=y9r ((y5h n).map (·.n)) (by rw[a1c];exact h)
 unfold y5q
 generalize y5h n=l at h h1 h2 ⊢
 refine cOf (by kernel_rfl) rfl ?_
 rw[q2s]
 simp only [g53,go1,Nat.reduceAdd,h1,x0v]
 refine x2y l.length (fun i=>[.sl 6 (x0k l), .int .i64 (l.length:Int), .int .i64 (i:Int), .sl 1 (x0e ((l.take i).map (·.n)))]) rfl (fun i hlt=> ?_) ?_
 ·have hx:=a0b hlt
  have hf:=x6p (x0e ((l.take i).map (·.n))) [[.str l[i].n]] 16 (by rw[x0f,a1c,a1k];simp only [a0f,a0i];omega)
  rw[a1f,hx,a2i,List.map_append,a1r,a2d,x3a]
  simp only [go1,Nat.reduceAdd,a0f,a0i]at hf
  simp only [go1,oD,z0p,x0v,x0n hlt,x0p hlt,y1n hx,hf,a0f,a0i,x0c hlt (by omega)]
  rfl
 ·simp only [go1,x0h,a0x,h2]
theorem v1w (ens:List En)(k e c:Int):cF 139 [.d (.sl 2 (x0g ens)), .agg [.d (.int .i64 k), .d (.int .i64 e), .d (.int .i64 c)]]=some (.val [.bool (tyB ens k e c)]):=by
 unfold tyB
 refine cOf (by kernel_rfl) rfl ?_
 rw[w3y]
 simp only [k1w,go1,x1b]
 cases decide (c < 0)<;>cases decide (8 < c)<;>cases decide (k=1)<;>cases decide (k=2)<;>cases decide (k=3)<;>cases decide (0≤e)<;>rfl
theorem q8j (s:ByteArray):cF 140 [.d (.str s)]=some (.val [.bool (y5f s)]):=by
 have h:=z8p s
 unfold y5f
 refine cOf (by kernel_rfl) rfl ?_
 rw[w3x]
 simp only [k1v,go1,h,x1l]
 rw[show tb x5w=tb (bs [116,114,117,101])from rfl,show tb x2r=tb (bs [102,97,108,115,101])from rfl]
 cases y1l (tb s)<;>cases decide (tb s=tb (bs [116,114,117,101]))<;>rfl
end Go.Vm
end

section
set_option maxRecDepth 100000
set_option maxHeartbeats 4000000
namespace Go.Vm
open Go.Proofs
theorem z3v {α:Type}{X:Option (List D ⊕ α)}{L:List D}{K:List D→Option α}(h:X=some (.inl L)):x0q X K=K L:=by rw[h];rfl
abbrev nV (n:Nd):V:= .agg [.d (.str n.n), .d (.sl 6 (x0k n.ins)), .d (.sl 6 (x0k n.outs)), .d (.sl 6 (x0k n.vars)), .d (.sl 7 (x2q n.eqs))]
structure EqOK (x:Eqn):Prop where
 ns:x.ns.length≤1000000
 sz:x.e.size≤1000000
 fn:x.e.fine
 st: ∀s∈x.ns,s.size≤100000
structure DcOK (d:Dc):Prop where
 n:d.n.size≤100000
 o:d.o.size≤100000
 q:d.q.size≤100000
structure NdOK (n:Nd):Prop where
 al:(y5h n).length≤1000000
 eq:n.eqs.length≤1000000
 eo: ∀x∈n.eqs,EqOK x
 dc: ∀d∈y5h n,DcOK d
 nm:n.n.size≤100000
theorem u6n (ns:List ByteArray)(k m:Int)(s:ByteArray)(o:Int)(a:List ByteArray)(u:List Ex)(h:EqOK ⟨ns, .mk k m s o a u⟩):cF 103 [.agg [.d (.sl 1 (x0e ns)), .d (.int .i64 k), .d (.int .i64 m), .d (.str s), .d (.int .i64 o), .d (.sl 1 (x0e a)), .d (.sl 6 (Ex.rows u))]]=some (.val [.bool (eqB ⟨ns, .mk k m s o a u⟩)]):=by
 have h1:=u4f k m s o a u h.sz h.fn
 have hl:ns.length≤1000000:=h.ns
 have eE:eqB ⟨ns, .mk k m s o a u⟩=(!(decide ((ns.length:Int)=0))&&(x3i (.mk k m s o a u)&&y9u (.mk k m s o a u))&& !(decide (1 < (ns.length:Int))&& !decide (k=13))&&ns.all fun s=>x7m (tb s)):=rfl
 rw[eE]
 refine cOf (by kernel_rfl) rfl ?_
 rw[w4s]
 simp only [k2q,go1,Int.reduceLE,x0f,h1]
 cases hz:decide ((ns.length:Int)=0)with
 |true=>rfl
 |false=>
  cases hr:x3i (.mk k m s o a u)&&y9u (.mk k m s o a u)with
  |false=>rfl
  |true=>
   cases hm:decide (1 < (ns.length:Int))&& !decide (k=13)with
   |true=>
    have:decide (1 < (ns.length:Int))=true∧decide (k=13)=false:=by
     revert hm;cases decide (1 < (ns.length:Int))<;>cases decide (k=13)<;>simp
    simp only [go1]
   |false=>
    have e: ∀(K:List D→Option PRes),x0q (bif decide (1 < (ns.length:Int))then some (.inl [.bool (!decide (k=13))])else some (.inl [.bool false])) K=K [.bool false]:=by
     revert hm;cases decide (1 < (ns.length:Int))<;>cases decide (k=13)<;>intro hm K<;>first|rfl|cases hm
    simp only [go1]
    refine x1u (r0:=PRes.val [.bool false]) (r1:=PRes.val [.bool true]) (fun s:ByteArray=>x7m (tb s)) ns (fun i=>[.sl 1 (x0e ns), .int .i64 (ns.length:Int), .int .i64 (i:Int), .sl 1 (x0e ns), .int .i64 k, .int .i64 m, .str s, .int .i64 o, .sl 1 (x0e a), .sl 6 (Ex.rows u)]) rfl (fun i x hx=> ?_) (fun _=> ?_) ?_
    ·have hlt:=(a0a.1 hx).1
     have hL:=z4g x
     simp only [go1,Nat.reduceAdd,oE,x0f,x0n hlt,x0p hlt,x1v hx,hL,x0c hlt (by omega),x1m (a2j i)]
     cases x7m (tb x)<;>rfl
    ·simp only [go1,Nat.reduceAdd,oE,x0h];try rfl
    ·cases List.all ns _<;>rfl
theorem w5v (ens:List En)(n:Nd)(h:NdOK n):cF 51 [.d (.sl 2 (x0g ens)),nV n]=some (.val [.bool (y3z ens n)]):=by
 have h1:=q4c n h.al
 have hal:=h.al
 have hdl:n.ins.length≤1000000∧n.outs.length≤1000000:=by
  unfold y5h at hal;simp only [a0j]at hal;omega
 have heo:=h.eo
 have heq:=h.eq
 obtain⟨nm,ins,outs,vars,eqs⟩:=n
 unfold y3z
 generalize y5h ⟨nm,ins,outs,vars,eqs⟩=l at hal h1 ⊢
 simp only at h1 hdl heo heq ⊢
 refine cOf (by kernel_rfl) rfl ?_
 rw[q2t]
 simp only [g51,go1,Int.reduceLE,h1,x0v]
 have hnm:=z4g nm
 refine x1u (r0:=PRes.val [.bool false]) (r1:=PRes.val [.bool (y4a ins&&(y4a outs&&(eqs.all eqB&&(x7m (tb nm)&&decide (0 < (outs.length:Int))))))]) (z3u ens) l (fun i=>[.sl 6 (x0k l), .int .i64 (l.length:Int), .int .i64 (i:Int), .str nm, .sl 6 (x0k ins), .sl 6 (x0k outs), .sl 6 (x0k vars), .sl 7 (x2q eqs), .sl 2 (x0g ens)]) rfl (fun i x hx=> ?_) (fun _=> ?_) ?_
 ·have hlt:=(a0a.1 hx).1
  have c1:=z4g x.n
  have c2:=v1w ens x.k x.e x.c
  have c3:=z4g x.o
  have c4:=q8j x.q
  unfold z3u w6w
  simp only [go1,oD,z0p,x0v,x0n hlt,x0p hlt,y1n hx,c1,c2,c3,c4,x1l,x0c hlt (by omega)]
  cases x7m (tb x.n)<;>cases tyB ens x.k x.e x.c<;>cases decide (tb x.o=tb (bs []))<;>cases decide (tb x.q=tb (bs []))<;>cases x7m (tb x.o)<;>cases y5f x.q<;>first|rfl|(simp only [go1,Nat.reduceAdd,Int.reduceEq,Int.reduceLT,Int.reduceLE,Int.reduceSub,Int.reduceAdd,c2,c3,c4];rfl)
 ·simp only [go1,x0h,x0v]
  have hin: ∀(L:List Dc) (hL:L.length≤1000000),True:=fun _ _=>trivial
  refine(z3v (L:=[.bool (!(y4a ins&&y4a outs)), .str nm, .sl 6 (x0k ins), .sl 6 (x0k outs), .sl 6 (x0k vars), .sl 7 (x2q eqs)]) ?_).trans ?_
  ·refine x1u (r0:=Sum.inl [.bool true, .str nm, .sl 6 (x0k ins), .sl 6 (x0k outs), .sl 6 (x0k vars), .sl 7 (x2q eqs)]) (r1:=Sum.inl [.bool (!y4a outs), .str nm, .sl 6 (x0k ins), .sl 6 (x0k outs), .sl 6 (x0k vars), .sl 7 (x2q eqs)]) (fun d:Dc=>decide (tb d.o=tb (bs []))) ins (fun i=>[.sl 6 (x0k ins), .int .i64 (ins.length:Int), .int .i64 (i:Int), .str nm, .sl 6 (x0k ins), .sl 6 (x0k outs), .sl 6 (x0k vars), .sl 7 (x2q eqs), .sl 2 (x0g ens)]) rfl (fun i x hx=> ?_) (fun _=> ?_) ?_
   ·have hlt:=(a0a.1 hx).1
    simp only [go1,oD,z0p,x0v,x0n hlt,x0p hlt,y1n hx,x1l,x0c hlt (by omega),x1m (a2j i)]
    cases decide (tb x.o=tb (bs []))<;>rfl
   ·simp only [go1,x0h,x0v]
    refine x1u (r0:=Sum.inr (Sum.inl [.bool true, .str nm, .sl 6 (x0k ins), .sl 6 (x0k outs), .sl 6 (x0k vars), .sl 7 (x2q eqs)])) (r1:=Sum.inr (Sum.inl [.bool false, .str nm, .sl 6 (x0k ins), .sl 6 (x0k outs), .sl 6 (x0k vars), .sl 7 (x2q eqs)])) (fun d:Dc=>decide (tb d.o=tb (bs []))) outs (fun i=>[.sl 6 (x0k outs), .int .i64 (outs.length:Int), .int .i64 (i:Int), .str nm, .sl 6 (x0k ins), .sl 6 (x0k outs), .sl 6 (x0k vars), .sl 7 (x2q eqs), .sl 2 (x0g ens)]) rfl (fun i x hx=> ?_) (fun _=> ?_) ?_
    ·have hlt:=(a0a.1 hx).1
     simp only [go1,oD,z0p,x0v,x0n hlt,x0p hlt,y1n hx,x1l,x0c hlt (by omega),x1m (a2j i)]
     cases decide (tb x.o=tb (bs []))<;>rfl
    ·simp only [go1,x0h];try rfl
    ·unfold y4a;cases List.all outs _<;>rfl
   ·unfold y4a;cases List.all ins _<;>cases List.all outs _<;>rfl
  ·simp only [go1]
   cases hio:y4a ins&&y4a outs with
   |false=>
    simp only [go1]
    revert hio;cases y4a ins<;>cases y4a outs<;>simp
   |true=>
    have:y4a ins=true∧y4a outs=true:=by revert hio;cases y4a ins<;>cases y4a outs<;>simp
    rw[this.1,this.2]
    simp only [go1,x2z]
    refine x1u (r0:=Sum.inr (PRes.val [.bool false])) (r1:=Sum.inr (PRes.val [.bool (x7m (tb nm)&&decide (0 < (outs.length:Int)))])) eqB eqs (fun i=>[.sl 7 (x2q eqs), .int .i64 (eqs.length:Int), .int .i64 (i:Int), .str nm, .sl 6 (x0k ins), .sl 6 (x0k outs), .sl 6 (x0k vars), .sl 7 (x2q eqs)]) rfl (fun i x hx=> ?_) (fun _=> ?_) ?_
    ·have hlt:=(a0a.1 hx).1
     have hok:=heo x (a0n hx)
     have hr:=z9s hx
     obtain⟨ns,e⟩:=x
     obtain⟨k,m,y,o,a,u⟩:=e
     have c1:=u6n ns k m y o a u hok
     have hr':sy.row (x2q eqs) (i:Int)= [.sl 1 (x0e ns), .int .i64 k, .int .i64 m, .str y, .int .i64 o, .sl 1 (x0e a), .sl 6 (Ex.rows u)]:=hr
     simp only [go1,Nat.reduceAdd,oE,x2z,x0n hlt,x0p hlt,hr',c1,x0c hlt (by omega)]
     cases eqB ⟨ns, .mk k m y o a u⟩<;>rfl
    ·simp only [go1,x0h,hnm,x0v]
     try (cases x7m (tb nm)<;>rfl)
    ·cases List.all eqs _<;>rfl
 ·cases List.all l _<;>rfl
theorem w6n (ens:List En)(nds:List Nd)(hE:ens.length≤1000000)(hN:nds.length≤1000000)(h: ∀n∈nds,NdOK n):cF 17 [.agg [.d (.sl 2 (x0g ens)), .d (.sl 5 (x2b nds))]]=some (.val [.int .i64 (y5w ens nds)]):=by
 have h1:=v1y ens hE
 have hO:=y9r (nds.map (·.n)) (by rw[a1c];exact hN)
 unfold y5w
 refine cOf (by kernel_rfl) rfl ?_
 rw[q3e]
 simp only [g17,go1,Nat.reduceAdd,Int.reduceLE,h1]
 cases he:decide (y0y ens=0)with
 |false=>simp only [go1]
 |true=>
  simp only [go1,x1x]
  refine x2y nds.length (fun i=>[.sl 5 (x2b nds), .int .i64 (nds.length:Int), .int .i64 (i:Int), .sl 2 (x0g ens), .sl 5 (x2b nds), .sl 1 (x0e ((nds.take i).map (·.n)))]) rfl (fun i hlt=> ?_) ?_
  ·have hx:=a0b hlt
   have hf:=x6p (x0e ((nds.take i).map (·.n))) [[.str nds[i].n]] 16 (by rw[x0f,a1c,a1k];simp only [a0f,a0i];omega)
   rw[a1f,hx,a2i,List.map_append,a1r,a2d,x3a]
   simp only [go1,Nat.reduceAdd,a0f,a0i]at hf
   simp only [go1,y5r,x1x,x0n hlt,x0p hlt,y1i hx,hf,a0f,a0i,x0c hlt (by omega)]
   rfl
  ·simp only [go1,x0h,a0x,x1x]
   cases hz:decide ((nds.length:Int)=0)with
   |true=>rfl
   |false=>
    simp only [go1]
    refine(z3v (L:=[.bool (decide (6 < (nds.length:Int)) || nds.any y7z), .sl 2 (x0g ens), .sl 5 (x2b nds), .sl 1 (x0e (nds.map (·.n)))]) ?_).trans ?_
    ·cases h6:decide (6 < (nds.length:Int))with
     |true=>rfl
     |false=>
      simp only [go1]
      refine x1u (r0:=Sum.inl [.bool true, .sl 2 (x0g ens), .sl 5 (x2b nds), .sl 1 (x0e (nds.map (·.n)))]) (r1:=Sum.inl [.bool false, .sl 2 (x0g ens), .sl 5 (x2b nds), .sl 1 (x0e (nds.map (·.n)))]) (fun n=> !y7z n) nds (fun i=>[.sl 5 (x2b nds), .int .i64 (nds.length:Int), .int .i64 (i:Int), .sl 2 (x0g ens), .sl 5 (x2b nds), .sl 1 (x0e (nds.map (·.n))), .sl 2 (x0g ens), .sl 5 (x2b nds)]) rfl (fun i x hx=> ?_) (fun _=> ?_) ?_
      ·have hlt:=(a0a.1 hx).1
       unfold y7z
       simp only [go1,y5r,x1x,x0v,x2z,x0n hlt,x0p hlt,y1i hx,x0c hlt (by omega),x1m (a2j i)]
       cases decide (6 < (x.ins.length:Int))<;>cases decide (6 < (x.outs.length:Int))<;>cases decide (12 < (x.vars.length:Int))<;>cases decide (18 < (x.eqs.length:Int))<;>rfl
      ·simp only [go1,x0h];try rfl
      ·rw[List.any_eq_not_all_not];cases List.all nds _<;>rfl
    ·simp only [go1]
     cases hg:decide (6 < (nds.length:Int)) || nds.any y7z with
     |true=>rfl
     |false=>
      simp only [go1,x1x]
      refine(z3v (L:=[.bool (!nds.all (y3z ens)), .sl 2 (x0g ens), .sl 5 (x2b nds), .sl 1 (x0e (nds.map (·.n)))]) ?_).trans ?_
      ·refine x1u (r0:=Sum.inl [.bool true, .sl 2 (x0g ens), .sl 5 (x2b nds), .sl 1 (x0e (nds.map (·.n)))]) (r1:=Sum.inl [.bool false, .sl 2 (x0g ens), .sl 5 (x2b nds), .sl 1 (x0e (nds.map (·.n)))]) (y3z ens) nds (fun i=>[.sl 5 (x2b nds), .int .i64 (nds.length:Int), .int .i64 (i:Int), .sl 2 (x0g ens), .sl 5 (x2b nds), .sl 1 (x0e (nds.map (·.n))), .sl 2 (x0g ens), .sl 5 (x2b nds)]) rfl (fun i x hx=> ?_) (fun _=> ?_) ?_
       ·have hlt:=(a0a.1 hx).1
        have c1:=w5v ens x (h x (a0n hx))
        simp only [go1,y5r,x1x,x0n hlt,x0p hlt,y1i hx,c1,x0c hlt (by omega),x1m (a2j i)]
        cases y3z ens x<;>rfl
       ·simp only [go1,x0h];try rfl
       ·cases List.all nds _<;>rfl
      ·simp only [go1]
       cases hr:nds.all (y3z ens)with
       |false=>rfl
       |true=>
        simp only [go1,x1x]
        refine(z3v (L:=[.bool (!nds.all y5q || !decide (nds.map (·.n)).Nodup), .sl 2 (x0g ens), .sl 5 (x2b nds), .sl 1 (x0e (nds.map (·.n)))]) ?_).trans ?_
        ·refine x1u (r0:=Sum.inl [.bool true, .sl 2 (x0g ens), .sl 5 (x2b nds), .sl 1 (x0e (nds.map (·.n)))]) (r1:=Sum.inl [.bool (!decide (nds.map (·.n)).Nodup), .sl 2 (x0g ens), .sl 5 (x2b nds), .sl 1 (x0e (nds.map (·.n)))]) y5q nds (fun i=>[.sl 5 (x2b nds), .int .i64 (nds.length:Int), .int .i64 (i:Int), .sl 2 (x0g ens), .sl 5 (x2b nds), .sl 1 (x0e (nds.map (·.n))), .sl 2 (x0g ens), .sl 5 (x2b nds)]) rfl (fun i x hx=> ?_) (fun _=> ?_) ?_
         ·have hlt:=(a0a.1 hx).1
          have c1:=q3w x (h x (a0n hx)).al
          simp only [go1,y5r,x1x,x0n hlt,x0p hlt,y1i hx,c1,x0c hlt (by omega),x1m (a2j i)]
          cases y5q x<;>rfl
         ·simp only [go1,x0h,hO];try rfl
         ·cases List.all nds _<;>rfl
        ·simp only [go1]
         cases !nds.all y5q || !decide (nds.map (·.n)).Nodup<;>rfl
end Go.Vm
end
