/- Part SL of the proof. What is proved by the whole: the statement that the claim names, with no condition. -/
import Derived.Test.YtfbonmbkmbofaaaGreatDoorSK
set_option linter.all false
section
set_option maxRecDepth 100000
set_option maxHeartbeats 4000000
namespace Go.Vm
open Go.Proofs
def dec_iff {p q:Prop} [Decidable p] [Decidable q] (h:p↔q):decide p=decide q:=by
 by_cases hq:q
 ·rw[decT hq,decT (h.2 hq)]
 ·rw[decF hq,decF (fun hp=>hq (h.1 hp))]
def digN (n:Nat):List Nat:=if h:n < 10 then[48+n]else digN (n / 10)++[48+n % 10]
 termination_by n
 decreasing_by omega
def bs_sz (l:List UInt8):(bs l).size=l.length:=rfl
def sfT {a b:BA}(h:a.size+b.size<=9223372036854775807):sy.sfit a b=true:=decide_eq_true h
def tb_bstr (c:Nat)(h:c < 256):tb (sy.bstr [[.int .u8 (c:Int)]])= [c]:=by
 show tb (bstrR [[.int .u8 (c:Int)]])= [c];unfold bstrR;simp only[List.map_cons,List.map_nil,byN,Option.getD_some];unfold strOfNums;show[(UInt8.ofNat (c:Int).toNat).toNat]= [c];rw[Int.toNat_natCast,UInt8.toNat_ofNat'];simp;omega
def bstr_sz (c:Nat):(sy.bstr [[.int .u8 (c:Int)]]).size=1:=rfl
def tailD (q:Nat):List Nat:=if q=0 then[]else digN q
def digN_step (q:Nat)(h:0 < q):digN q=tailD (q / 10)++[48+q % 10]:=by
 rw[digN.eq_def];split
 ·rename_i h1;unfold tailD;rw[if_pos (by omega),Nat.mod_eq_of_lt h1];rfl
 ·unfold tailD;rw[if_neg (by omega)]
def u64_id {a:Int}(h0:0<=a)(h:a < 18446744073709551616):IntKind.u64.wrap a=a:=by
 show a % _=a;exact Int.emod_eq_of_lt h0 h
def u8_id {a:Int}(h0:0<=a)(h:a < 256):IntKind.u8.wrap a=a:=by
 show a % _=a;exact Int.emod_eq_of_lt h0 h
def sgnZ (z:Int):List Nat:=if z < 0 then[45]else[]
def digZ (z:Int):List Nat:=sgnZ z++digN z.natAbs
def c_dgL (z:Int)(n:Nat)(hn:n < 18446744073709551616): ∃p,loopF (fun ds7=>
  (opI (sy.cell ds7 0) .i64).bind fun n8=>
  (opI (sy.cell ds7 1) .u64).bind fun n9=>
  (opS (sy.cell ds7 2)).bind fun s10=>
  cutO (
   bif (sy.ilt 0 n9)then some (.inl [(.bool true)])
   else some (.inl [(.bool (sy.seq s10 (bs [])))])) fun ds11=>
  (opB (sy.cell ds11 0)).bind fun b12=>
  bif b12 then
   bif (sy.bnot (sy.ieq 10 0))then
    bif (sy.isby [[(.int .u8 (sy.wrap .u8 (sy.wrap .u64 (sy.add 48 (sy.rem n9 10)))))]])then
     bif (sy.sfit (sy.bstr [[(.int .u8 (sy.wrap .u8 (sy.wrap .u64 (sy.add 48 (sy.rem n9 10)))))]]) s10)then
      bif (sy.bnot (sy.ieq 10 0))then
       some (.inl [(.int .i64 n8),(.int .u64 (sy.wrap .u64 (sy.quo n9 10))),(.str (sy.sapp (sy.bstr [[(.int .u8 (sy.wrap .u8 (sy.wrap .u64 (sy.add 48 (sy.rem n9 10)))))]]) s10))])
      else none
     else none
    else none
   else none
  else
   bif (sy.ilt n8 0)then
    bif (sy.sfit (bs [45]) s10)then some (.inr (PRes.val [(.str (sy.sapp (bs [45]) s10))]))else none
   else some (.inr (PRes.val [(.str s10)]))) [(.int .i64 z),(.int .u64 (n:Int)),(.str (bs []))]=some p/\ ∃s,p= .val [.str s]/\tb s=sgnZ z++digN n/\s.size<=100:=by
 refine loopF_ex (fun x:Nat × BA=>[.int .i64 z, .int .u64 (x.1:Int), .str x.2]) (fun x=>(x.2=bs []/\x.1=n\/0 < x.2.size/\digN n=tailD x.1++tb x.2)/\x.1 < 10 ^ (20 - x.2.size)/\x.2.size<=20) (fun x=>x.1*2+(if x.2.size=0 then 1 else 0)) (fun x hx=> ?_) (n,bs []) ⟨.inl ⟨rfl,rfl⟩,by show n < 10 ^ 20;omega,by show 0<=20;omega⟩
 obtain⟨q,s⟩:=x;obtain⟨h1,h2,h3⟩:=hx;simp only at h1 h2 h3 ⊢;have hs0:(s.toList == (bs []).toList)=decide (s.size=0):=by
  rw[seq_tb];refine dec_iff ⟨fun h=> ?_,fun h=> ?_⟩
  ·have:=congrArg List.length h;rw[tb_len]at this;exact this
  ·exact List.length_eq_zero_iff.1 (by rw[tb_len];exact h)
 by_cases hq:0 < q\/s.size=0
 ·left
  have hqq:(q:Int) < 18446744073709551616:=by
   have:10 ^ (20 - s.size)<=10 ^ 20:=Nat.pow_le_pow_right (by omega) (by omega)
   have h20:(10:Nat) ^ 20=100000000000000000000:=by decide
   rcases h1 with⟨_,h⟩|⟨hp,_⟩
   ·omega
   ·have:10 ^ (20 - s.size)<=10 ^ 19:=Nat.pow_le_pow_right (by omega) (by omega)
    have h19:(10:Nat) ^ 19=10000000000000000000:=by decide
    omega
  have hr:sy.rem (q:Int) 10=((q % 10:Nat):Int):=by
   show Int.tmod (q:Int) 10=_;rw[Int.tmod_eq_emod_of_nonneg (by omega)];omega
  have hd:sy.quo (q:Int) 10=((q / 10:Nat):Int):=by
   show Int.tdiv (q:Int) 10=_;rw[Int.tdiv_eq_ediv_of_nonneg (by omega)];omega
  have hw:IntKind.u8.wrap (IntKind.u64.wrap (48+((q % 10:Nat):Int)))=((48+q % 10:Nat):Int):=by
   rw[u64_id (by omega) (by omega),u8_id (by omega) (by omega)];omega
  have hw2:IntKind.u64.wrap ((q / 10:Nat):Int)=((q / 10:Nat):Int):=u64_id (by omega) (by omega)
  have hby:sy.isby [[.int .u8 ((48+q % 10:Nat):Int)]]=true:=rfl;have hsf:sy.sfit (sy.bstr [[.int .u8 ((48+q % 10:Nat):Int)]]) s=true:=sfT (by rw[bstr_sz];omega)
  have hb:(decide ((0:Int) < (q:Int)) || (s.toList == (bs []).toList))=true:=by
   rw[hs0]
   by_cases h:0 < q
   ·rw[decide_eq_true (by omega)];rfl
   ·rw[decide_eq_true (show s.size=0 by omega),Bool.or_true]
  refine⟨(q / 10,sy.bstr [[.int .u8 ((48+q % 10:Nat):Int)]]++s),?_,⟨.inr ⟨?_,?_⟩,?_,?_⟩,?_⟩
  ·simp only[go1];rw[hb];simp only[go1,show decide ((10:Int)=0)=false from rfl,hr,hd,hw,hw2,hby,hsf]
  ·show 0 < (sy.bstr [[.int .u8 ((48+q % 10:Nat):Int)]]++s).size;rw[ByteArray.size_append,bstr_sz];omega
  ·show digN n=tailD (q / 10)++tb (sy.bstr [[.int .u8 ((48+q % 10:Nat):Int)]]++s);rw[tb_app,tb_bstr _ (by omega)]
   rcases h1 with⟨hs,hqn⟩|⟨hp,he⟩
   ·subst hs;subst hqn;show digN q=tailD (q / 10)++([48+q % 10]++[]);rw[List.append_nil]
    by_cases h0:0 < q
    ·exact digN_step q h0
    ·have:q=0:=by omega
     subst this;rw[digN.eq_def,dif_pos (by omega)];rfl
   ·have h0:0 < q:=by omega
    rw[he];show tailD q++tb s=_;rw[show tailD q=digN q by unfold tailD;rw[if_neg (by omega)],digN_step q h0,List.append_assoc]
  ·show q / 10 < 10 ^ (20 - (sy.bstr [[.int .u8 ((48+q % 10:Nat):Int)]]++s).size);rw[ByteArray.size_append,bstr_sz]
   by_cases h20:s.size=20
   ·rw[h20]at h2;have:q < 1:=h2;have:q=0:=by omega
    omega
   ·have e:20 - s.size=(20 - (1+s.size))+1:=by omega
    rw[e,Nat.pow_succ]at h2;omega
  ·show(sy.bstr [[.int .u8 ((48+q % 10:Nat):Int)]]++s).size<=20;rw[ByteArray.size_append,bstr_sz]
   by_cases h20:s.size=20
   ·rw[h20]at h2;have:q < 1:=h2;omega
   ·omega
  ·show q / 10*2+(if(sy.bstr [[.int .u8 ((48+q % 10:Nat):Int)]]++s).size=0 then 1 else 0) < q*2+(if s.size=0 then 1 else 0);rw[ByteArray.size_append,bstr_sz,if_neg (by omega)]
   split<;>omega
 ·right
  have hb:(decide ((0:Int) < (q:Int)) || (s.toList == (bs []).toList))=false:=by
   rw[hs0,decide_eq_false (by omega: ¬(0:Int) < (q:Int)),decide_eq_false (by omega: ¬s.size=0)];rfl
  have hf:digN n=tb s:=by
   rcases h1 with⟨hs,_⟩|⟨hp,he⟩
   ·subst hs;exact absurd (.inr rfl) hq
   ·have:q=0:=by omega
    subst this;exact he
  by_cases hz:z < 0
  ·refine⟨.val [.str (bs [45]++s)],?_,_,rfl,?_,by rw[ByteArray.size_append,bs_sz];simp only[List.length_cons,List.length_nil];omega⟩
   ·simp only[go1];rw[hb];simp only[go1,decide_eq_true hz,show sy.sfit (bs [45]) s=true from sfT (by rw[bs_sz];simp only[List.length_cons,List.length_nil];omega)]
   ·rw[tb_app,hf];unfold sgnZ;rw[if_pos hz];rfl
  ·refine⟨.val [.str s],?_,s,rfl,?_,by omega⟩
   ·simp only[go1];rw[hb];simp only[go1,decide_eq_false hz]
   ·rw[hf];unfold sgnZ;rw[if_neg hz];rfl
def c_rDigZ (z:Int)(h0: -9223372036854775808<=z)(h1:z<=9223372036854775807): ∃s,cF 183 [.d (.int .i64 z)]=some (.val [.str s])/\tb s=digZ z/\s.size<=100:=by
 obtain⟨p,hp,s,rfl,h2,h3⟩:=c_dgL z z.natAbs (by omega)
 refine⟨s,?_,h2,h3⟩;refine cOf (by kernel_rfl) rfl ?_
 rw[g183_eq];unfold g183
 by_cases hz:z < 0
 ·have e:IntKind.u64.wrap (0 - IntKind.u64.wrap z)=(z.natAbs:Int):=by
   show(0 - z % _) % _=_;simp only[IntKind.bits];omega
  rw[sy_ilt,decide_eq_true hz];simp only[cond_true];simp only[sy_wrap,sy_sub];rw[e];exact hp
 ·have e:IntKind.u64.wrap z=(z.natAbs:Int):=by rw[u64_id (by omega) (by omega)];omega
  rw[sy_ilt,decide_eq_false hz];simp only[cond_false];simp only[sy_wrap];rw[e];exact hp
def digN_1 {n:Nat}(h:n < 10):digN n= [48+n]:=by rw[digN.eq_def,dif_pos h]
def digN_2 {n:Nat}(h:10<=n)(h2:n < 100):digN n= [48+n / 10,48+n % 10]:=by
 rw[digN.eq_def,dif_neg (by omega),digN_1 (by omega)];rfl
def digN_3 {n:Nat}(h:100<=n)(h2:n < 1000):digN n= [48+n / 10 / 10,48+n / 10 % 10,48+n % 10]:=by
 rw[digN.eq_def,dif_neg (by omega),digN_2 (by omega) (by omega)];rfl
def digN_num {n:Nat}(h:1<=n)(h2:n < 1000):numN (digN n)=true:=by
 unfold numN;rcases Nat.lt_or_ge n 10 with h3|h3
 ·rw[digN_1 h3];simp[digitN];omega
 ·rcases Nat.lt_or_ge n 100 with h4|h4
  ·rw[digN_2 h3 h4];simp[digitN];omega
  ·rw[digN_3 h4 h2];simp[digitN];omega
def digN_inj {a b:Nat}(ha:a < 1000)(hb:b < 1000)(h:digN a=digN b):a=b:=by
 rcases Nat.lt_or_ge a 10 with h3|h3
 ·rw[digN_1 h3]at h;rcases Nat.lt_or_ge b 10 with g3|g3
  ·rw[digN_1 g3]at h;simp at h;omega
  ·rcases Nat.lt_or_ge b 100 with g4|g4
   ·rw[digN_2 g3 g4]at h;simp at h
   ·rw[digN_3 g4 hb]at h;simp at h
 ·rcases Nat.lt_or_ge a 100 with h4|h4
  ·rw[digN_2 h3 h4]at h;rcases Nat.lt_or_ge b 10 with g3|g3
   ·rw[digN_1 g3]at h;simp at h
   ·rcases Nat.lt_or_ge b 100 with g4|g4
    ·rw[digN_2 g3 g4]at h;simp at h;omega
    ·rw[digN_3 g4 hb]at h;simp at h
  ·rw[digN_3 h4 ha]at h;rcases Nat.lt_or_ge b 10 with g3|g3
   ·rw[digN_1 g3]at h;simp at h
   ·rcases Nat.lt_or_ge b 100 with g4|g4
    ·rw[digN_2 g3 g4]at h;simp at h
    ·rw[digN_3 g4 hb]at h;simp at h;omega
def Fn (fs:BA)(j:Nat):List Nat:=tb fs++46::digN j
def Fn_inj {fs:BA}{i j:Nat}(hi:i < 1000)(hj:j < 1000)(h:Fn fs i=Fn fs j):i=j:=by
 unfold Fn at h;have:=List.append_cancel_left h;simp only[List.cons.injEq,true_and]at this;exact digN_inj hi hj this
def dot_inj: ∀ {a b x y:List Nat},(∀u∈a,u≠46)->(∀u∈b,u≠46)->a++46::x=b++46::y->a=b/\x=y
 | [],[],x,y,_,_,h=>by simpa using h
 | [],u::b,x,y,_,hb,h=>by
   simp only[List.nil_append,List.cons_append,List.cons.injEq]at h;exact absurd h.1.symm (hb u List.mem_cons_self)
 |u::a,[],x,y,ha,_,h=>by
  simp only[List.nil_append,List.cons_append,List.cons.injEq]at h;exact absurd h.1 (ha u List.mem_cons_self)
 |u::a,v::b,x,y,ha,hb,h=>by
  simp only[List.cons_append,List.cons.injEq]at h;obtain⟨h1,h2⟩:=dot_inj (fun w hw=>ha w (List.mem_cons_of_mem _ hw)) (fun w hw=>hb w (List.mem_cons_of_mem _ hw)) h.2
  exact⟨by rw[h.1,h1],h2⟩
def Fn_dot (fs:BA)(j:Nat):46∈Fn fs j:=by unfold Fn;simp
def Fn_ne (fs:BA)(j:Nat):Fn fs j≠tb fs:=by
 intro h;have:=congrArg List.length h;unfold Fn at this;simp at this
def vrow (v:Vr):List D:=[.str v.n, .int .i64 v.t.1, .int .i64 v.t.2.1, .int .i64 v.t.2.2, .sl 2 (crows v.on)]
def vrows (l:List Vr):LL:=l.map vrow
def vrows_len (l:List Vr):(vrows l).length=l.length:=by simp[vrows]
def prow (q:Pq):List D:=[.int .i64 q.k, .sl 1 (srows q.ns), .int .i64 q.o, .sl 2 (crows q.ar), .sl 1 (irows q.it), .int .i64 q.nd, .bool q.rs, .str q.ev, .int .i64 q.ec, .sl 2 (crows q.on)]
def prows (l:List Pq):LL:=l.map prow
def prows_len (l:List Pq):(prows l).length=l.length:=by simp[prows]
structure NC where
 ens:List En
 nds:List Nd
 at_:Nat
 fs:BA
 nm:BA
 ins:List Vr
 ou:List Vr
structure NT where
 fr:Nat
 va:List Vr
 eq:List Pq
def nD (C:NC)(S:NT):List D:=[.sl 2 (erows C.ens), .sl 5 (nrows C.nds), .int .i64 (C.at_:Int), .str C.fs, .int .i64 (S.fr:Int), .str C.nm, .sl 5 (vrows C.ins), .sl 5 (vrows C.ou), .sl 5 (vrows S.va), .sl 10 (prows S.eq)]
abbrev nK3 (C:NC)(S:NT)(x y:V):List V:=kN3 x y (erows C.ens) (nrows C.nds) (C.at_:Int) C.fs (S.fr:Int) C.nm (vrows C.ins) (vrows C.ou) (vrows S.va) (prows S.eq)
abbrev nK4 (C:NC)(S:NT)(x y z:V):List V:=kN4 x y z (erows C.ens) (nrows C.nds) (C.at_:Int) C.fs (S.fr:Int) C.nm (vrows C.ins) (vrows C.ou) (vrows S.va) (prows S.eq)
abbrev nK5 (C:NC)(S:NT)(x y z w:V):List V:=kN5 x y z w (erows C.ens) (nrows C.nds) (C.at_:Int) C.fs (S.fr:Int) C.nm (vrows C.ins) (vrows C.ou) (vrows S.va) (prows S.eq)
def cOfBP {f k:FuncId}{pn:Nat}{xs key:List V}{hs:List Box}{Q:PRes->Prop}(hg:goodF Tryz.prog k=false)(hd:decB key=some (pn,xs,hs))(hk:Nat.beq k (bkey f)=true)(hn:kn k key=none)(h: ∃p,fB sy eF f pn xs hs=some p/\Q p): ∃p,cF k key=some p/\Q p:=h.imp fun _ h=>⟨cOfB hg hd hk hn h.1,h.2⟩
section
variable (x y z w : V) (en nd : LL) (at_ : Int) (fs : BA) (fr : Int) (nm : BA) (ins ou va eq : LL)
def dcN3:decB (kN3 x y en nd at_ fs fr nm ins ou va eq)=some (0,[.ptr 0 0,x,y],nBs en nd at_ fs fr nm ins ou va eq):=rfl
def dcN4:decB (kN4 x y z en nd at_ fs fr nm ins ou va eq)=some (0,[.ptr 0 0,x,y,z],nBs en nd at_ fs fr nm ins ou va eq):=rfl
def dcN5:decB (kN5 x y z w en nd at_ fs fr nm ins ou va eq)=some (0,[.ptr 0 0,x,y,z,w],nBs en nd at_ fs fr nm ins ou va eq):=rfl
end
def QR (ens:List En)(t:T3)(v:List Int):Prop:=tyR ens t/\valR ens t v
structure QOK (ens:List En) (i:Nat) (all:List Vr) (q:Pq):Prop where
 ne:q.ns≠[]
 hd:HdN (tb q.hd)
 call:q.k=7->0<=q.nd/\q.nd < (i:Int)
 fby:q.k=5-> ∃v,all.find? (isV q.hd)=some v/\QR ens v.t q.it
 sz:q.ns.length<=1000/\q.ar.length<=2000/\q.on.length<=6000
structure NI (C:NC) (v0:List Vr) (P H:List Nat->Prop) (S:NT):Prop where
 pre: ∃r,S.va=v0++r
 vn: ∀v∈C.ins++C.ou++S.va,P (tb v.n)\/ ∃j,1<=j/\j<=S.fr/\tb v.n=Fn C.fs j
 hn: ∀q∈S.eq,H (tb q.hd)\/ ∃j,1<=j/\j<=S.fr/\tb q.hd=Fn C.fs j
 ok: ∀q∈S.eq,QOK C.ens C.at_ (C.ins++C.ou++S.va) q
 nd:(S.eq.map fun q=>tb q.hd).Nodup
structure NH (C:NC) (P H:List Nat->Prop):Prop where
 low:lowN (tb C.fs)=true
 p: ∀x,P x-> ∀j,x≠Fn C.fs j
 h: ∀x,H x-> ∀j,x≠Fn C.fs j
 f: ∀x,H x->x≠tb C.fs
structure Ext (n:Nat) (S S':NT):Prop where
 f1:S.fr<=S'.fr
 f2:S'.fr<=S.fr+n
 v:S'.va.length<=S.va.length+n
 e:S'.eq.length<=S.eq.length+n
def BD (n:Nat)(S:NT):Prop:=S.fr+n<=990/\S.va.length+n<=100000000/\S.eq.length+n<=100000000
def Ext.rfl' (n:Nat)(S:NT):Ext n S S:=⟨Nat.le_refl _,Nat.le_add_right _ _,Nat.le_add_right _ _,Nat.le_add_right _ _⟩
def Ext.trans {a b c:Nat}{S T U:NT}(h:Ext a S T)(h2:Ext b T U)(hc:a+b<=c):Ext c S U:=
 ⟨Nat.le_trans h.f1 h2.f1,by have:=h.f2;have:=h2.f2;omega,by have:=h.v;have:=h2.v;omega,by have:=h.e;have:=h2.e;omega⟩
def BD.mono {a b:Nat}{S:NT}(h:BD b S)(hab:a<=b):BD a S:=⟨by have:=h.1;omega,by have:=h.2.1;omega,by have:=h.2.2;omega⟩
def BD.ext {a b c:Nat}{S T:NT}(h:BD c S)(he:Ext a S T)(hc:a+b<=c):BD b T:=⟨by have:=h.1;have:=he.f2;omega,by have:=h.2.1;have:=he.v;omega,by have:=h.2.2;have:=he.e;omega⟩
def QOK.more {ens:List En}{i:Nat}{all r:List Vr}{q:Pq}(h:QOK ens i all q):QOK ens i (all++r) q:=
 ⟨h.ne,h.hd,h.call,fun h5=>by
  obtain⟨v,h1,h2⟩:=h.fby h5;exact⟨v,by rw[List.find?_append,h1];rfl,h2⟩,h.sz⟩
def EmQ (C:NC)(v0:List Vr)(P H:List Nat->Prop)(n:Nat)(S:NT)(p:PRes):Prop:= ∃(s:BA) (S':NT),p= .val (.str s::nD C S')/\Ext n S S'/\NI C v0 P H S'
section
variable {C : NC} {v0 : List Vr} {P H : List Nat -> Prop} (hh : NH C P H)
include hh
theorem fs_len:C.fs.size<=12:=by
 have:=(low_inner hh.low).2.1;rw[tb_len]at this;exact this
theorem NI.fresh {S:NT}(h:NI C v0 P H S)(hb:BD 1 S){s:BA}(hs:tb s=Fn C.fs (S.fr+1))(q:Pq)(hq:q.ns= [s])(t:T3)(on:List Cd)(h5:q.k=5->QR C.ens t q.it)(h7:q.k=7->0<=q.nd/\q.nd < (C.at_:Int))(hz:q.ar.length<=2000/\q.on.length<=6000):
  NI C v0 P H ⟨S.fr+1,S.va++[⟨s,t,on⟩],S.eq++[q]⟩:=by
 have hqd:q.hd=s:=by unfold Pq.hd;rw[hq];rfl
 have hdn:numN (digN (S.fr+1))=true:=digN_num (by omega) (by have:=hb.1;omega)
 have hno: ∀v∈C.ins++C.ou++S.va,isV s v=false:=fun v hv=>by
  refine decide_eq_false fun e=> ?_
  rw[hs]at e;rcases h.vn v hv with h1|⟨j,h1,h2,h3⟩
  ·exact hh.p _ h1 _ e
  ·rw[h3]at e;have:=Fn_inj (by have:=hb.1;omega) (by have:=hb.1;omega) e
   omega
 refine⟨?_,fun v hv=> ?_,fun x hx=> ?_,fun x hx=> ?_,?_⟩
 ·obtain⟨r,hr⟩:=h.pre;exact⟨r++[⟨s,t,on⟩],by simp only[hr,List.append_assoc]⟩
 ·have hv:v∈(C.ins++C.ou++S.va)++[⟨s,t,on⟩]:=by simpa only[List.append_assoc]using hv
  rcases List.mem_append.1 hv with hv|hv
  ·rcases h.vn v hv with h1|⟨j,h1,h2,h3⟩
   ·exact .inl h1
   ·exact .inr ⟨j,h1,Nat.le_succ_of_le h2,h3⟩
  ·simp at hv;subst hv;exact .inr ⟨S.fr+1,by omega,Nat.le_refl _,hs⟩
 ·rcases List.mem_append.1 hx with hx|hx
  ·rcases h.hn x hx with h1|⟨j,h1,h2,h3⟩
   ·exact .inl h1
   ·exact .inr ⟨j,h1,Nat.le_succ_of_le h2,h3⟩
  ·simp at hx;subst hx;exact .inr ⟨S.fr+1,by omega,Nat.le_refl _,by rw[hqd];exact hs⟩
 ·rw[show C.ins++C.ou++(S.va++[⟨s,t,on⟩])=C.ins++C.ou++S.va++[⟨s,t,on⟩]from(List.append_assoc ..).symm];rcases List.mem_append.1 hx with hx|hx
  ·exact(h.ok x hx).more
  ·simp at hx;subst hx;refine⟨by rw[hq];simp,by rw[hqd,hs];exact num_hd hh.low hdn,h7,fun e=>⟨⟨s,t,on⟩,?_,h5 e⟩,by rw[hq];simp,hz⟩
   rw[List.find?_append,List.find?_eq_none.2 fun v hv=>by rw[hqd,hno v hv];simp,hqd]
   simp[isV]
 ·simp only[List.map_append,List.map_cons,List.map_nil];refine List.nodup_append.2 ⟨h.nd,by simp,fun a ha b hb' e=> ?_⟩
  simp at hb';subst hb';subst e;obtain⟨x,hx,he⟩:=List.mem_map.1 ha;rw[hqd,hs]at he;rcases h.hn x hx with h1|⟨j,h1,h2,h3⟩
  ·exact hh.h _ h1 _ he
  ·rw[h3]at he;have:=Fn_inj (by have:=hb.1;omega) (by have:=hb.1;omega) he
   omega
theorem fresh_name {S:NT}(hb:BD 1 S): ∃s3,cF 183 [.d (.int .i64 (IntKind.i64.wrap ((S.fr:Int)+1)))]=some (.val [.str s3])/\tb (C.fs++bs [46]++s3)=Fn C.fs (S.fr+1)/\s3.size<=100:=by
 have h0:=hb.1;have hw:IntKind.i64.wrap ((S.fr:Int)+1)=((S.fr+1:Nat):Int):=wrap_id (by omega) (by omega)
 obtain⟨s3,h1,h2,h3⟩:=c_rDigZ ((S.fr+1:Nat):Int) (by omega) (by omega)
 refine⟨s3,by rw[hw];exact h1,?_,h3⟩
 rw[tb_app,tb_app,h2];unfold digZ sgnZ Fn;rw[if_neg (by omega),List.append_assoc]
 rfl
theorem n_emitk {S:NT}(h:NI C v0 P H S)(hb:BD 1 S)(k o:Int)(ar:List Cd)(it:List Int)(nd:Int)(rs:Bool)(ev:BA)(ec:Int)(t:T3)(on:List Cd)(h5:k=5->QR C.ens t it)(h7:k=7->0<=nd/\nd < (C.at_:Int))(hz:ar.length<=2000/\on.length<=6000):
  ∃p,cF 1000144 (nK5 C S (.agg [.d (.int .i64 k), .nils, .d (.int .i64 o), .d (.sl 2 (crows ar)), .d (.sl 1 (irows it)), .d (.int .i64 nd), .d (.bool rs), .d (.str ev), .d (.int .i64 ec), .nils]) .nils (kT t.1 t.2.1 t.2.2) (.d (.sl 2 (crows on))))=some p/\EmQ C v0 P H 1 S p:=by
 obtain⟨s3,h1,h2,h3⟩:=fresh_name hh hb;have hfs:=fs_len hh;have b1:=sfT (a:=C.fs) (b:=bs [46]) (by rw[bs_sz];simp only[List.length_cons,List.length_nil];omega)
 have b2:=sfT (a:=C.fs++bs [46]) (b:=s3) (by rw[ByteArray.size_append,bs_sz];simp only[List.length_cons,List.length_nil];omega)
 have f1:=fitsR (vrows S.va) [[.str (C.fs++bs [46]++s3), .int .i64 t.1, .int .i64 t.2.1, .int .i64 t.2.2, .sl 2 (crows on)]] 64 (by rw[vrows_len];have:=hb.2.1;simp only[List.length_cons,List.length_nil];omega)
 have f2:=fitsR (prows S.eq) [[.int .i64 k, .sl 1 [[.str (C.fs++bs [46]++s3)]], .int .i64 o, .sl 2 (crows ar), .sl 1 (irows it), .int .i64 nd, .bool rs, .str ev, .int .i64 ec, .sl 2 (crows on)]] 152 (by rw[prows_len];have:=hb.2.2;simp only[List.length_cons,List.length_nil];omega)
 have l1:(([[D.str (C.fs++bs [46]++s3)]]:LL).length:Int)=1:=rfl;have r1:sy.cell (sy.row [[D.str (C.fs++bs [46]++s3)]] 0) 0=some (.str (C.fs++bs [46]++s3)):=rfl;simp only[go1,Nat.reduceAdd]at f1 f2;have hw:IntKind.i64.wrap ((S.fr:Int)+1)=((S.fr+1:Nat):Int):=wrap_id (by have:=hb.1;omega) (by have:=hb.1;omega)
 rw[hw]at h1;refine cOfBP (f:=144) (by kernel_rfl) (dcN5 ..) (by kernel_rfl) rfl ?_
 rw[b144k_eq];simp only[b144k,go1,oP,oB,eq_self,Nat.reduceAdd,Int.reduceLT,Int.reduceLE,b1,b2,hw,h1,f1,f2,l1,r1];exact⟨_,rfl,C.fs++bs [46]++s3,⟨S.fr+1,S.va++[⟨C.fs++bs [46]++s3,t,on⟩],S.eq++[⟨k,[C.fs++bs [46]++s3],o,ar,it,nd,rs,ev,ec,on⟩]⟩,by simp[nD,vrows,vrow,prows,prow,srows,srow],⟨Nat.le_succ _,Nat.le_refl _,by simp,by simp⟩,h.fresh hh hb h2 _ rfl t on h5 h7 hz⟩
end
def x_tCells (k e c:Int)(h:c<=8):cF 27 [kT k e c]=some (.val [.int .i64 (max 1 c)]):=by
 refine cOf (by kernel_rfl) rfl ?_
 rw[g27_eq];simp only[g27,go1,decF (p:=8 < c) (by omega)]
 by_cases h1:c < 1
 ·rw[decT h1,show max 1 c=1 by omega];rfl
 ·rw[decF h1,show max 1 c=c by omega];rfl
def x_Zero {ens:List En}(hE: ∀x∈ens,x.2≠[]){t:T3}(ht:tyR ens t): ∃v:List Int,cF 206 [kT t.1 t.2.1 t.2.2]=some (.own 2 1 (irows v))/\valR ens t v:=by
 have h0:=tyR_iff.1 (show tyR ens (t.1,t.2.1,t.2.2)from ht);have h1:=x_tCells t.1 t.2.1 t.2.2 h0.2.1;obtain⟨n,hn⟩:=Int.eq_ofNat_of_zero_le (show 0<=max 1 t.2.2 by omega)
 rw[hn]at h1;have one:oneR ens t.1 t.2.1 0:=by
  rcases h0.2.2 with⟨a,b⟩|⟨a,b⟩|⟨a,b,c⟩
  ·exact .inl ⟨a,b⟩
  ·exact .inr (.inl ⟨a,b, .inl rfl⟩)
  ·have hl:t.2.1.toNat < ens.length:=by omega
   refine .inr (.inr ⟨a,b,ens[t.2.1.toNat],List.getElem?_eq_getElem hl,by omega,?_⟩)
   have:=hE _ (List.getElem_mem hl);have:=List.length_pos_iff.2 this;omega
 have key: ∃p,cF 206 [kT t.1 t.2.1 t.2.2]=some p/\p= .own 2 1 (irows (List.replicate n 0)):=by
  refine cOfP (by kernel_rfl) rfl ?_
  rw[g206_eq];simp only[g206,go1,Nat.reduceAdd];refine for_n n (fun i (_:Unit)=>[.int .i64 (i:Int), .int .i64 t.1, .int .i64 t.2.1, .int .i64 t.2.2, .sl 1 (irows (List.replicate i 0))]) (fun _ _=>True) () trivial rfl (fun i _ _ hi=> ?_) fun _ _=> ?_
  ·have hf:=fitsR (irows (List.replicate i 0)) [[.int .i64 0]] 8 (by rw[irows_len,List.length_replicate];simp only[List.length_cons,List.length_nil];omega)
   simp only[go1,Nat.reduceAdd]at hf;simp only[go1,h1,ilt_at hi,hf,wrap_succ hi (by omega)]
   refine⟨_,rfl,(),?_⟩;rw[List.replicate_succ'];simp[irows,irow]
  ·simp only[go1,h1,ilt_self];exact⟨_,rfl,rfl⟩
 obtain⟨_,h2,rfl⟩:=key;exact⟨_,h2,by rw[List.length_replicate];omega,fun m hm=>by rw[List.eq_of_mem_replicate hm];exact one⟩
def rows_take: ∀(u:List Ex) (n:Nat),(Ex.rows u).take n=Ex.rows (u.take n)
 | [],n=>by simp[Ex.rows]
 |e::u,0=>by simp[Ex.rows]
 |e::u,n+1=>by show(e.row::Ex.rows u).take (n+1)=(e.row::Ex.rows (u.take n));rw[List.take_succ_cons,rows_take u n]
def crows_take (l:List Cd)(n:Nat):(crows l).take n=crows (l.take n):=by unfold crows;rw[List.map_take]
def sizes_take (u:List Ex)(n:Nat):Ex.sizes (u.take n)<=Ex.sizes u:=by
 have:=sizes_app (u.take n) (u.drop n);rw[List.take_append_drop]at this;omega
def ScE_sub {nds:List Nd}{i:Nat}{k m:Int}{s:BA}{o:Int}{a:List BA}{u:List Ex}(h:ScE nds i (.mk k m s o a u)): ∀e∈u,ScE nds i e:=fun e he x hx=>h x (by
 simp only[Ex.parts];refine List.mem_cons_of_mem _ ?_;clear h
 induction u with
 |nil=>cases he
 |cons y u ih=>
  simp only[Ex.partsL];rcases List.mem_cons.1 he with rfl|he
  ·exact List.mem_append_left _ hx
  ·exact List.mem_append_right _ (ih he))
section
variable (C : NC) (v0 : List Vr) (P H : List Nat -> Prop)
def AtQ (n:Nat)(S:NT)(p:PRes):Prop:= ∃(s:BA) (m:Int) (S':NT),p= .val (.str s:: .int .i64 m::nD C S')/\Ext n S S'/\NI C v0 P H S'
def AsQ (n:Nat)(S:NT)(p:PRes):Prop:= ∃(l:List Cd) (S':NT),p= .val (.sl 2 (crows l)::nD C S')/\Ext n S S'/\NI C v0 P H S'/\l.length<=1000
def PlQ (t:T3)(n:Nat)(S:NT)(p:PRes):Prop:= ∃(q:Pq) (S':NT),p= .val (prow q++nD C S')/\Ext n S S'/\NI C v0 P H S'/\(q.k=5->valR C.ens t q.it)/\(q.k=7->0<=q.nd/\q.nd < (C.at_:Int))/\q.ar.length<=2000
def AtC (e:Ex):Prop:= ∀(S:NT) (on:List Cd),NI C v0 P H S->BD (2*e.size) S->FD C.ens e on->on.length+e.size<=5000-> ∃p,cF 1000181 (nK3 C S e.v (.d (.sl 2 (crows on))))=some p/\AtQ C v0 P H (2*e.size) S p
end
section
variable {C : NC} {v0 : List Vr} {P H : List Nat -> Prop}
def n_atoms {u:List Ex}(hu: ∀e∈u,AtC C v0 P H e)(S:NT)(on:List Cd)(h:NI C v0 P H S)(hb:BD (2*Ex.sizes u) S)(hf:FDs C.ens u on)(hon:on.length+Ex.sizes u<=5000):
  ∃p,cF 1000178 (nK3 C S (.d (.sl 6 (Ex.rows u))) (.d (.sl 2 (crows on))))=some p/\AsQ C v0 P H (2*Ex.sizes u) S p:=by
 have hul:=sizes_len u;refine cOfBP (f:=178) (by kernel_rfl) (dcN3 ..) (by kernel_rfl) rfl ?_
 rw[b178_eq];simp only[b178,go1,oE,oB,Nat.reduceAdd];refine for_s u (fun i (x:NT × List Cd)=> .sl 6 (Ex.rows u):: .sl 2 (crows on):: .int .i64 (i:Int)::(nD C x.1++[.sl 2 (crows x.2)])) (fun i x=>NI C v0 P H x.1/\Ext (2*Ex.sizes (u.take i)) S x.1/\x.2.length=i) (S,[]) ⟨h,Ext.rfl' _ _,rfl⟩ rfl (fun i x e he hI hil=> ?_) (fun x hI=> ?_)
 ·obtain⟨T,l⟩:=x;obtain⟨I1,I2,I3⟩:=hI;simp only at I1 I2 I3;have hm:=List.mem_of_getElem? he;have ht:=take_sizes he;have htl:=sizes_take u (i+1);have hb0:=hb.1;obtain⟨_,h1,s,m,T',rfl,e1,n1⟩:=hu e hm T on I1 (hb.ext I2 (by omega)) (FDs_mem hf e hm) (by omega)
  obtain⟨ek,em,es,eo,ea,eu⟩:=e;have hf:=fitsR (crows l) [[.str s, .int .i64 m]] 24 (by rw[crows_len];simp only[List.length_cons,List.length_nil];omega)
  simp only[go1,Nat.reduceAdd]at hf;simp only[Ex.v,nD]at h1;simp only[go1,nD,List.cons_append,List.nil_append,rows_len,ilt_at hil,inr_at hil,row_of he,h1,hf,wrap_succ hil (by omega)]
  refine⟨_,rfl,(T',l++[(s,m)]),by simp[crows,crow],n1,I2.trans e1 (by omega),by simp[I3]⟩
 ·obtain⟨T,l⟩:=x;obtain⟨I1,I2,I3⟩:=hI;simp only at I1 I2 I3;have hb0:=hb.1;simp only[go1,nD,List.cons_append,List.nil_append,rows_len,ilt_self];rw[List.take_length]at I2;exact⟨_,rfl,l,T,rfl,I2,I1,by omega⟩
end
structure PlH (C:NC) (t:T3) (k m:Int) (s:BA) (o:Int) (a:List BA) (u:List Ex):Prop where
 ar:ArB k m a u
 con:k=8-> ∀c r,u=c::r-> ∃v,ConA C.ens c v t/\valR C.ens t v/\v.length<=8
 ty:k=10->TyA C.ens C.nds C.at_ (.mk k m s o a u) t/\tyR C.ens t
 nd:k=13->0<=nodeI C.nds s/\nodeI C.nds s < (C.at_:Int)
section
variable {C : NC} {v0 : List Vr} {P H : List Nat -> Prop} (hp : PB C.ens C.nds) (hE : ∀ x ∈ C.ens, x.2 ≠ []) (hh : NH C P H)
include hp
theorem n_atom0 {S:NT}(k m:Int)(s:BA)(o:Int)(a:List BA)(u:List Ex)(on:List Cd)(hk:k=1\/k=2\/k=3\/k=4):
  ∃p,cF 1000181 (nK3 C S (kE k m s o (srows a) (Ex.rows u)) (.d (.sl 2 (crows on))))=some p/\ ∃(s':BA) (m':Int),p= .val (.str s':: .int .i64 m'::nD C S):=by
 obtain⟨_,h1,k',e',n',b,rfl, -⟩:=x_Arm hp s;refine cOfBP (f:=181) (by kernel_rfl) (dcN3 ..) (by kernel_rfl) rfl ?_
 rw[b181_eq];simp only[b181,go1,oB,Nat.reduceAdd,h1];rcases hk with rfl|rfl|rfl|rfl
 ·exact⟨_,rfl,_,_,rfl⟩
 ·exact⟨_,rfl,_,_,rfl⟩
 ·exact⟨_,rfl,_,_,rfl⟩
 ·exact⟨_,rfl,_,_,rfl⟩
include hE hh
theorem n_flow8 {S:NT}(t:T3)(m:Int)(s:BA)(o:Int)(a:List BA)(u:List Ex)(on:List Cd)(hl:PlH C t 8 m s o a u)(hu: ∀e∈u.tail,AtC C v0 P H e)(h:NI C v0 P H S)(hb:BD (2*Ex.sizes u+1) S)(hf:FD C.ens (.mk 8 m s o a u) on)(hon:on.length+Ex.sizes u<=5000):
  ∃p,cF 1000180 (nK3 C S (kE 8 m s o (srows a) (Ex.rows u)) (.d (.sl 2 (crows on))))=some p/\PlQ C v0 P H t (2*Ex.sizes u+1) S p:=by
 obtain⟨c,e,rfl⟩:=len2 (hl.ar.a2 (by omega))
 obtain⟨v,hv,hr, -⟩:=hl.con rfl c [e] rfl;have hfd:FDs C.ens [e] on:=by
  unfold FD at hf;have:=hf.2.2.1 rfl;unfold FDt at this;exact this
 have hsz:Ex.sizes [c,e]=c.size+Ex.sizes [e]:=by simp only[Ex.sizes]
 obtain⟨_,h1,l,T,rfl,e1,n1,hll⟩:=n_atoms (u:=[e]) (fun x hx=>hu x (by simpa using hx)) S on h (hb.mono (by omega)) hfd (by omega)
 obtain⟨ck,cm,cs',co,ca,cu⟩:=c;unfold ConA Ex.v at hv;have l2:((Ex.rows [.mk ck cm cs' co ca cu,e]).length:Int)=2:=rfl;have r0:=xrow_0 (l:=[.mk ck cm cs' co ca cu,e]) rfl;have c1:List.drop (Int.toNat 1) (List.take (Int.toNat 2) (Ex.rows [.mk ck cm cs' co ca cu,e]))=Ex.rows [e]:=rfl;simp only[nD]at h1;refine cOfBP (f:=180) (by kernel_rfl) (dcN3 ..) (by kernel_rfl) rfl ?_
 rw[b180_eq];simp only[b180,go1,oE,oB,eq_self,Nat.reduceAdd,Int.reduceEq,Int.reduceLT,Int.reduceLE,l2,r0,hv,c1,h1];exact⟨_,rfl,⟨5,[],0,l,v,0,false,bs [],0,[]⟩,T,rfl,⟨e1.f1,by have:=e1.f2;omega,by have:=e1.v;omega,by have:=e1.e;omega⟩,n1,fun _=>hr,fun h=>by simp at h,by simp only;omega⟩
theorem n_flow10 {S:NT}(t:T3)(m:Int)(s:BA)(o:Int)(a:List BA)(u:List Ex)(on:List Cd)(hl:PlH C t 10 m s o a u)(hu: ∀e∈u,AtC C v0 P H e)(h:NI C v0 P H S)(hb:BD (2*Ex.sizes u+1) S)(hf:FD C.ens (.mk 10 m s o a u) on)(hon:on.length+Ex.sizes u<=5000):
  ∃p,cF 1000180 (nK3 C S (kE 10 m s o (srows a) (Ex.rows u)) (.d (.sl 2 (crows on))))=some p/\PlQ C v0 P H t (2*Ex.sizes u+1) S p:=by
 obtain⟨hty,htr⟩:=hl.ty rfl;obtain⟨v,hv,hr⟩:=x_Zero hE htr;have hfd:FDs C.ens u on:=by
  unfold FD at hf;exact hf.2.2.2 (by omega)
 obtain⟨_,h1,l,T,rfl,e1,n1,hll⟩:=n_atoms hu S on h (hb.mono (by omega)) hfd hon
 unfold TyA Ex.v at hty;simp only[nD]at h1;refine cOfBP (f:=180) (by kernel_rfl) (dcN3 ..) (by kernel_rfl) rfl ?_
 rw[b180_eq];simp only[b180,go1,oE,oB,eq_self,Nat.reduceAdd,Int.reduceEq,Int.reduceLE,hty,hv,h1];exact⟨_,rfl,⟨5,[],0,l,v,0,false,bs [],0,[]⟩,T,rfl,⟨e1.f1,by have:=e1.f2;omega,by have:=e1.v;omega,by have:=e1.e;omega⟩,n1,fun _=>hr,fun h=>by simp at h,by simp only;omega⟩
theorem n_flow9 {S:NT}(t:T3)(m:Int)(s:BA)(o:Int)(a:List BA)(u:List Ex)(on:List Cd)(hu: ∀e∈u,AtC C v0 P H e)(h:NI C v0 P H S)(hb:BD (2*Ex.sizes u+1) S)(hf:FD C.ens (.mk 9 m s o a u) on)(hon:on.length+Ex.sizes u<=5000):
  ∃p,cF 1000180 (nK3 C S (kE 9 m s o (srows a) (Ex.rows u)) (.d (.sl 2 (crows on))))=some p/\PlQ C v0 P H t (2*Ex.sizes u+1) S p:=by
 have hfd:FDs C.ens u on:=by
  unfold FD at hf;exact hf.2.2.2 (by omega)
 have hq:QR C.ens (2,0,0) [1]:=⟨tyR_plain (.inr rfl),show((1:Nat):Int)=max 1 0 by decide,fun n hn=>by simp at hn;subst hn;exact .inr (.inl ⟨rfl,rfl, .inr rfl⟩)⟩
 obtain⟨_,h0,s0,T0,rfl,e0,n0⟩:=n_emitk hh h (hb.mono (by omega)) 5 0 [(bs [],0)] [1] 0 false (bs []) 0 (2,0,0) on (fun _=>hq) (fun h=>by simp at h) ⟨by simp,by omega⟩
 obtain⟨_,h1,l,T,rfl,e1,n1,hll⟩:=n_atoms hu T0 on n0 (hb.ext e0 (by omega)) hfd hon
 have h0:cF 1000144 (nK5 C S (.agg [.d (.int .i64 5), .nils, .d (.int .i64 0), .d (.sl 2 [[.str (bs []), .int .i64 0]]), .d (.sl 1 [[.int .i64 1]]), .d (.int .i64 0), .d (.bool false), .d (.str (bs [])), .d (.int .i64 0), .nils]) .nils (kT 2 0 0) (.d (.sl 2 (crows on))))=_:=h0;have hf2:=fitsR [[.str s0, .int .i64 0]] (crows l) 24 (by rw[crows_len];simp only[List.length_cons,List.length_nil];omega)
 simp only[go1,Nat.reduceAdd]at hf2;simp only[nD]at h0 h1;refine cOfBP (f:=180) (by kernel_rfl) (dcN3 ..) (by kernel_rfl) rfl ?_
 rw[b180_eq];simp only[b180,go1,oE,oB,eq_self,Nat.reduceAdd,Int.reduceEq,Int.reduceLE,h0,h1,hf2];exact⟨_,rfl,⟨4,[],0,(s0,0)::l,[],0,false,bs [],0,[]⟩,T,rfl,e0.trans e1 (by omega),n1,fun h=>by simp at h,fun h=>by simp at h,by simp;omega⟩
theorem n_flow11 {S:NT}(t:T3)(m:Int)(s:BA)(o:Int)(a:List BA)(u:List Ex)(on:List Cd)(hu: ∀e∈u,AtC C v0 P H e)(h:NI C v0 P H S)(hb:BD (2*Ex.sizes u+1) S)(hf:FD C.ens (.mk 11 m s o a u) on)(hon:on.length+Ex.sizes u<=5000):
  ∃p,cF 1000180 (nK3 C S (kE 11 m s o (srows a) (Ex.rows u)) (.d (.sl 2 (crows on))))=some p/\PlQ C v0 P H t (2*Ex.sizes u+1) S p:=by
 have hfd:on≠[]/\FDs C.ens u on.dropLast:=by
  unfold FD at hf;exact hf.1 rfl
 have hpos:=List.length_pos_iff.2 hfd.1;obtain⟨_,h1,l,T,rfl,e1,n1,hll⟩:=n_atoms hu S on.dropLast h (hb.mono (by omega)) hfd.2 (by rw[List.length_dropLast];omega)
 have hw:IntKind.i64.wrap ((on.length:Int) - 1)=(on.length:Int) - 1:=wrap_id (by omega) (by omega)
 have e0:decide (0<=(on.length:Int) - 1/\(on.length:Int) - 1<=(on.length:Int))=true:=decT (by omega)
 have c1:List.drop (Int.toNat 0) (List.take (Int.toNat ((on.length:Int) - 1)) (crows on))=crows on.dropLast:=by
  rw[crows_take,List.dropLast_eq_take,show((on.length:Int) - 1).toNat=on.length - 1 by omega];rfl
 simp only[nD]at h1;refine cOfBP (f:=180) (by kernel_rfl) (dcN3 ..) (by kernel_rfl) rfl ?_
 rw[b180_eq];simp only[b180,go1,oE,oB,eq_self,Nat.reduceAdd,Int.reduceEq,Int.reduceLE,crows_len,hw,e0,c1,h1];exact⟨_,rfl,⟨1,[],0,l,[],0,false,bs [],0,[]⟩,T,rfl,⟨e1.f1,by have:=e1.f2;omega,by have:=e1.v;omega,by have:=e1.e;omega⟩,n1,fun h=>by simp at h,fun h=>by simp at h,by simp;omega⟩
theorem n_flow12 {S:NT}(t:T3)(m:Int)(s:BA)(o:Int)(a:List BA)(u:List Ex)(on:List Cd)(hu: ∀e∈u,AtC C v0 P H e)(h:NI C v0 P H S)(hb:BD (2*Ex.sizes u+1) S)(hf:FD C.ens (.mk 12 m s o a u) on)(hon:on.length+1+Ex.sizes u<=5000):
  ∃p,cF 1000180 (nK3 C S (kE 12 m s o (srows a) (Ex.rows u)) (.d (.sl 2 (crows on))))=some p/\PlQ C v0 P H t (2*Ex.sizes u+1) S p:=by
 have hfd:FDm C.ens s u a on:=by
  unfold FD at hf;exact hf.2.1 rfl
 have hul:=sizes_len u;refine cOfBP (f:=180) (by kernel_rfl) (dcN3 ..) (by kernel_rfl) rfl ?_
 rw[b180_eq];simp only[b180,go1,oE,oB,Nat.reduceAdd,Int.reduceEq,Int.reduceLE];refine for_s u (fun i (x:NT × List Cd)=> .sl 2 (crows on):: .int .i64 (i:Int)::(nD C x.1++[.int .i64 12, .int .i64 m, .str s, .int .i64 o, .sl 1 (srows a), .sl 6 (Ex.rows u), .int .i64 0, .int .i64 0, .int .i64 0, .bool false, .str (bs []), .int .i64 0, .sl 2 (crows x.2)])) (fun i x=>NI C v0 P H x.1/\Ext (2*Ex.sizes (u.take i)) S x.1/\x.2.length=i+1) (S,[(s,0)]) ⟨h,Ext.rfl' _ _,rfl⟩ rfl (fun i x e he hI hil=> ?_) (fun x hI=> ?_)
 ·obtain⟨T,l⟩:=x;obtain⟨I1,I2,I3⟩:=hI;simp only at I1 I2 I3;have hm:=List.mem_of_getElem? he;have ht:=take_sizes he;have htl:=sizes_take u (i+1);have hb0:=hb.1;obtain⟨x,hx,k',e',n',hA,hfe⟩:=FDm_at hfd i e he;have hial:=(List.getElem?_eq_some_iff.1 hx).1;have hW:=x_When on s n' (by omega)
  obtain⟨_,h1,s1,m1,T',rfl,e1,n1⟩:=hu e hm T (on++[(s,n')]) I1 (hb.ext I2 (by omega)) hfe (by simp;omega)
  obtain⟨ek,em,es,eo,ea,eu⟩:=e;have hf:=fitsR (crows l) [[.str s1, .int .i64 m1]] 24 (by rw[crows_len];simp only[List.length_cons,List.length_nil];omega)
  simp only[go1,Nat.reduceAdd]at hf;simp only[Ex.v,nD]at h1;simp only[go1,nD,List.cons_append,List.nil_append,rows_len,ilt_at hil,inr_at hil,srows_len,inr_at hial,srows_at hx,hA,row_of he,hW,h1,hf,wrap_succ hil (by omega)]
  refine⟨_,rfl,(T',l++[(s1,m1)]),by simp[crows,crow],n1,I2.trans e1 (by omega),by simp[I3]⟩
 ·obtain⟨T,l⟩:=x;obtain⟨I1,I2,I3⟩:=hI;simp only at I1 I2 I3;simp only[go1,nD,List.cons_append,List.nil_append,rows_len,ilt_self];rw[List.take_length]at I2;have hb0:=hb.1;exact⟨_,rfl,⟨6,[],0,l,[],0,false,bs [],0,[]⟩,T,rfl,⟨I2.f1,by have:=I2.f2;omega,by have:=I2.v;omega,by have:=I2.e;omega⟩,I1,fun h=>by simp at h,fun h=>by simp at h,by simp;omega⟩
end
section
variable {C : NC} {v0 : List Vr} {P H : List Nat -> Prop} (hp : PB C.ens C.nds) (hE : ∀ x ∈ C.ens, x.2 ≠ []) (hh : NH C P H)
section
include hh
theorem n_emitn {S:NT}(h:NI C v0 P H S)(hb:BD 1 S)(q:Pq)(t:T3)(on:List Cd)(h5:q.k=5->QR C.ens t q.it)(h7:q.k=7->0<=q.nd/\q.nd < (C.at_:Int))(hz:q.ar.length<=2000/\on.length<=6000):
  ∃p,cF 1000144 (nK5 C S (kQ q.k (srows q.ns) q.o (crows q.ar) (irows q.it) q.nd q.rs q.ev q.ec (crows q.on)) .nils (kT t.1 t.2.1 t.2.2) (.d (.sl 2 (crows on))))=some p/\EmQ C v0 P H 1 S p:=by
 obtain⟨k,ns,o,ar,it,nd,rs,ev,ec,on'⟩:=q;simp only at h5 h7 hz ⊢;obtain⟨s3,h1,h2,h3⟩:=fresh_name hh hb;have hfs:=fs_len hh;have b1:=sfT (a:=C.fs) (b:=bs [46]) (by rw[bs_sz];simp only[List.length_cons,List.length_nil];omega)
 have b2:=sfT (a:=C.fs++bs [46]) (b:=s3) (by rw[ByteArray.size_append,bs_sz];simp only[List.length_cons,List.length_nil];omega)
 have f1:=fitsR (vrows S.va) [[.str (C.fs++bs [46]++s3), .int .i64 t.1, .int .i64 t.2.1, .int .i64 t.2.2, .sl 2 (crows on)]] 64 (by rw[vrows_len];have:=hb.2.1;simp only[List.length_cons,List.length_nil];omega)
 have f2:=fitsR (prows S.eq) [[.int .i64 k, .sl 1 [[.str (C.fs++bs [46]++s3)]], .int .i64 o, .sl 2 (crows ar), .sl 1 (irows it), .int .i64 nd, .bool rs, .str ev, .int .i64 ec, .sl 2 (crows on)]] 152 (by rw[prows_len];have:=hb.2.2;simp only[List.length_cons,List.length_nil];omega)
 have l1:(([[D.str (C.fs++bs [46]++s3)]]:LL).length:Int)=1:=rfl;have r1:sy.cell (sy.row [[D.str (C.fs++bs [46]++s3)]] 0) 0=some (.str (C.fs++bs [46]++s3)):=rfl;simp only[go1,Nat.reduceAdd]at f1 f2;have hw:IntKind.i64.wrap ((S.fr:Int)+1)=((S.fr+1:Nat):Int):=wrap_id (by have:=hb.1;omega) (by have:=hb.1;omega)
 rw[hw]at h1;refine cOfBP (f:=144) (by kernel_rfl) (dcN5 ..) (by kernel_rfl) rfl ?_
 rw[b144n_eq];simp only[b144n,go1,oP,oB,eq_self,Nat.reduceAdd,Int.reduceLT,Int.reduceLE,b1,b2,hw,h1,f1,f2,l1,r1];exact⟨_,rfl,C.fs++bs [46]++s3,⟨S.fr+1,S.va++[⟨C.fs++bs [46]++s3,t,on⟩],S.eq++[⟨k,[C.fs++bs [46]++s3],o,ar,it,nd,rs,ev,ec,on⟩]⟩,by simp[nD,vrows,vrow,prows,prow,srows,srow],⟨Nat.le_succ _,Nat.le_refl _,by simp,by simp⟩,h.fresh hh hb h2 _ rfl t on h5 h7 hz⟩
end
theorem n_emit {S:NT}(hb:BD 1 S)(q:Pq)(y:BA)(r:List BA)(t:T3)(on:List Cd):
  cF 1000144 (nK5 C S (kQ q.k (srows q.ns) q.o (crows q.ar) (irows q.it) q.nd q.rs q.ev q.ec (crows q.on)) (.d (.sl 1 (srows (y::r)))) (kT t.1 t.2.1 t.2.2) (.d (.sl 2 (crows on))))=some (.val (.str y::nD C ⟨S.fr,S.va,S.eq++[{ q with ns:=y::r,on:=on }]⟩)):=by
 obtain⟨k,ns,o,ar,it,nd,rs,ev,ec,on'⟩:=q
 suffices h: ∃p,cF 1000144 (nK5 C S (kQ k (srows ns) o (crows ar) (irows it) nd rs ev ec (crows on')) (.d (.sl 1 (srows (y::r)))) (kT t.1 t.2.1 t.2.2) (.d (.sl 2 (crows on))))=some p/\p= .val (.str y::nD C ⟨S.fr,S.va,S.eq++[⟨k,y::r,o,ar,it,nd,rs,ev,ec,on⟩]⟩) by
  obtain⟨_,h,rfl⟩:=h;exact h
 have f2:=fitsR (prows S.eq) [[.int .i64 k, .sl 1 (srows (y::r)), .int .i64 o, .sl 2 (crows ar), .sl 1 (irows it), .int .i64 nd, .bool rs, .str ev, .int .i64 ec, .sl 2 (crows on)]] 152 (by rw[prows_len];have:=hb.2.2;simp only[List.length_cons,List.length_nil];omega)
 have l0:decide (((y::r).length:Int)=0)=false:=decF (by simp only[List.length_cons];omega)
 have l1:decide ((0:Int) < ((y::r).length:Int))=true:=decT (by simp)
 have r1:=srow_0 (l:=y::r) rfl;simp only[go1,Nat.reduceAdd]at f2;refine cOfBP (f:=144) (by kernel_rfl) (dcN5 ..) (by kernel_rfl) rfl ?_
 rw[b144_eq];simp only[b144,go1,oP,oB,Nat.reduceAdd,Int.reduceLE,srows_len,l0,f2,l1,r1];exact⟨_,rfl,by simp[nD,prows,prow]⟩
include hp
theorem n_call {S:NT}(t:T3)(m:Int)(s:BA)(o:Int)(a:List BA)(u:List Ex)(on:List Cd)(hl:PlH C t 13 m s o a u)(hu: ∀e∈u,AtC C v0 P H e)(h:NI C v0 P H S)(hb:BD (2*Ex.sizes u+1) S)(hf:FD C.ens (.mk 13 m s o a u) on)(hon:on.length+Ex.sizes u<=5000):
  ∃p,cF 1000179 (nK3 C S (kE 13 m s o (srows a) (Ex.rows u)) (.d (.sl 2 (crows on))))=some p/\PlQ C v0 P H t (2*Ex.sizes u+1) S p:=by
 have hF:=x_Find C.ens C.nds s hp.nl;have hnd:=hl.nd rfl;have hfd:FDs C.ens u on:=by
  unfold FD at hf;exact hf.2.2.2 (by omega)
 have hul:=sizes_len u;rcases(hl.ar.a13 rfl).1 with rfl|⟨rfl,hpos⟩
 ·obtain⟨_,h1,l,T,rfl,e1,n1,hll⟩:=n_atoms hu S on h (hb.mono (by omega)) hfd hon
  have hw:IntKind.i64.wrap ((u.length:Int) - 0)=(u.length:Int):=by rw[Int.sub_zero];exact wrap_id (by omega) (by omega)
  have e0:decide (0<=(u.length:Int)/\(u.length:Int)<=(u.length:Int))=true:=decT (by omega)
  have c1:List.drop (Int.toNat 0) (List.take (Int.toNat (u.length:Int)) (Ex.rows u))=Ex.rows u:=by
   rw[rows_take,Int.toNat_natCast,List.take_length];rfl
  simp only[nD]at h1;refine cOfBP (f:=179) (by kernel_rfl) (dcN3 ..) (by kernel_rfl) rfl ?_
  rw[b179_eq];simp only[b179,go1,oB,Nat.reduceAdd,Int.reduceEq,Int.reduceLE,hF,rows_len,hw,e0,c1,h1];exact⟨_,rfl,⟨7,[],0,l,[],nodeI C.nds s,false,bs [],0,[]⟩,T,rfl,⟨e1.f1,by have:=e1.f2;omega,by have:=e1.v;omega,by have:=e1.e;omega⟩,n1,fun h=>by simp at h,fun _=>hnd,by simp only;omega⟩
 ·obtain⟨r,e,rfl⟩: ∃r e,u=r++[e]:=⟨u.dropLast,u.getLast (List.length_pos_iff.1 hpos),(List.dropLast_concat_getLast _).symm⟩
  have hsz:Ex.sizes (r++[e])=Ex.sizes r+e.size:=sizes_snoc e r;obtain⟨_,h1,l,T,rfl,e1,n1,hll⟩:=n_atoms (u:=r) (fun x hx=>hu x (by simp[hx])) S on h (hb.mono (by omega)) (FDs_of fun x hx=>FDs_mem hfd x (by simp[hx])) (by omega)
  obtain⟨_,h2,s2,m2,T2,rfl,e2,n2⟩:=hu e (by simp) T on n1 (hb.ext e1 (by omega)) (FDs_mem hfd e (by simp)) (by omega)
  have hlr:(r++[e]).length=r.length+1:=by simp
  have hw:IntKind.i64.wrap (((r++[e]).length:Int) - 1)=(r.length:Int):=by rw[hlr];rw[wrap_id (by omega) (by omega)];omega
  have e0:decide (0<=(r.length:Int)/\(r.length:Int)<=((r++[e]).length:Int))=true:=decT (by omega)
  have e3:decide ((r.length:Int) < ((r++[e]).length:Int))=true:=decT (by omega)
  have e4:decide (0<=(r.length:Int))=true:=decT (by omega)
  have c1:List.drop (Int.toNat 0) (List.take (Int.toNat (r.length:Int)) (Ex.rows (r++[e])))=Ex.rows r:=by
   rw[rows_take,Int.toNat_natCast,List.take_left];rfl
  have hr:(r++[e])[r.length]? =some e:=by simp
  obtain⟨ek,em,es,eo,ea,eu⟩:=e;simp only[nD]at h1;simp only[Ex.v,nD]at h2;refine cOfBP (f:=179) (by kernel_rfl) (dcN3 ..) (by kernel_rfl) rfl ?_
  rw[b179_eq];simp only[b179,go1,oB,eq_self,Nat.reduceAdd,Int.reduceLE,hF,rows_len,hw,e0,c1,h1,inr_at (show r.length < (r++[Ex.mk ek em es eo ea eu]).length by omega),row_of hr,h2]
  exact⟨_,rfl,⟨7,[],0,l,[],nodeI C.nds s,true,s2,m2,[]⟩,T2,rfl,⟨Nat.le_trans e1.f1 e2.f1,by have:=e1.f2;have:=e2.f2;omega,by have:=e1.v;have:=e2.v;omega,by have:=e1.e;have:=e2.e;omega⟩,n2,fun h=>by simp at h,fun _=>hnd,by simp only;omega⟩
include hE hh
theorem n_plain {S:NT}(t:T3)(k m:Int)(s:BA)(o:Int)(a:List BA)(u:List Ex)(on:List Cd)(hk17:k≠17)(hl:PlH C t k m s o a u)(hu8:k=8-> ∀e∈u.tail,AtC C v0 P H e)(hu:k≠8-> ∀e∈u,AtC C v0 P H e)(h:NI C v0 P H S)(hb:BD (2*Ex.sizes u+1) S)(hf:FD C.ens (.mk k m s o a u) on)(hon:on.length+1+Ex.sizes u<=5000):
  ∃p,cF 1000142 (nK3 C S (kE k m s o (srows a) (Ex.rows u)) (.d (.sl 2 (crows on))))=some p/\PlQ C v0 P H t (2*Ex.sizes u+1) S p:=by
 have hkd:=hl.ar.kd;have hkk:(k=1\/k=2\/k=3\/k=4)\/(k=5\/k=6\/k=7\/k=14\/k=15\/k=16)\/k=13\/k=8\/k=9\/k=10\/k=11\/k=12:=by omega
 rcases hkk with h4|hs|rfl|rfl|rfl|rfl|rfl|rfl
 ·obtain⟨_,h1,s',m',rfl⟩:=n_atom0 hp (C:=C) (S:=S) k m s o a u on h4;simp only[nD]at h1;have fin:PlQ C v0 P H t (2*Ex.sizes u+1) S (.val (prow ⟨1,[],0,[(s',m')],[],0,false,bs [],0,[]⟩++nD C S)):=⟨_,S,rfl,Ext.rfl' _ _,h,fun h=>by simp at h,fun h=>by simp at h,by simp⟩
  refine cOfBP (f:=142) (by kernel_rfl) (dcN3 ..) (by kernel_rfl) rfl ?_
  rw[b142_eq];simp only[b142,go1,oP,oB,Nat.reduceAdd,h1,decF (p:=k=5) (by omega),decF (p:=k=6) (by omega),decF (p:=k=7) (by omega),decF (p:=k=14) (by omega),decF (p:=k=15) (by omega),decF (p:=k=16) (by omega),decF (p:=k=13) (by omega),decF (p:=k=8) (by omega),decF (p:=k=9) (by omega),decF (p:=k=10) (by omega),decF (p:=k=11) (by omega),decF (p:=k=12) (by omega)]
  exact⟨_,rfl,fin⟩
 ·have hfd:FDs C.ens u on:=by
   unfold FD at hf;exact hf.2.2.2 (by omega)
  obtain⟨_,h1,l,T,rfl,e1,n1,hll⟩:=n_atoms (hu (by omega)) S on h (hb.mono (by omega)) hfd (by omega)
  have fin: ∀k' o',k'≠5->k'≠7->PlQ C v0 P H t (2*Ex.sizes u+1) S (.val (prow ⟨k',[],o',l,[],0,false,bs [],0,[]⟩++nD C T)):=fun k' o' g1 g2=>⟨_,T,rfl,⟨e1.f1,by have:=e1.f2;omega,by have:=e1.v;omega,by have:=e1.e;omega⟩,n1,fun h=>absurd h g1,fun h=>absurd h g2,by simp only;omega⟩
  simp only[nD]at h1;rcases hs with rfl|rfl|rfl|rfl|rfl|rfl
  ·refine cOfBP (f:=142) (by kernel_rfl) (dcN3 ..) (by kernel_rfl) rfl ?_
   rw[b142_eq];simp only[b142,go1,oP,oB,eq_self,Nat.reduceAdd,Int.reduceEq,h1];exact⟨_,rfl,fin 2 o (by decide) (by decide)⟩
  ·refine cOfBP (f:=142) (by kernel_rfl) (dcN3 ..) (by kernel_rfl) rfl ?_
   rw[b142_eq];simp only[b142,go1,oP,oB,eq_self,Nat.reduceAdd,Int.reduceEq,h1];exact⟨_,rfl,fin 3 o (by decide) (by decide)⟩
  ·refine cOfBP (f:=142) (by kernel_rfl) (dcN3 ..) (by kernel_rfl) rfl ?_
   rw[b142_eq];simp only[b142,go1,oP,oB,eq_self,Nat.reduceAdd,Int.reduceEq,h1];exact⟨_,rfl,fin 4 0 (by decide) (by decide)⟩
  ·refine cOfBP (f:=142) (by kernel_rfl) (dcN3 ..) (by kernel_rfl) rfl ?_
   rw[b142_eq];simp only[b142,go1,oP,oB,eq_self,Nat.reduceAdd,Int.reduceEq,h1];exact⟨_,rfl,fin 8 0 (by decide) (by decide)⟩
  ·refine cOfBP (f:=142) (by kernel_rfl) (dcN3 ..) (by kernel_rfl) rfl ?_
   rw[b142_eq];simp only[b142,go1,oP,oB,eq_self,Nat.reduceAdd,Int.reduceEq,h1];exact⟨_,rfl,fin 9 0 (by decide) (by decide)⟩
  ·refine cOfBP (f:=142) (by kernel_rfl) (dcN3 ..) (by kernel_rfl) rfl ?_
   rw[b142_eq];simp only[b142,go1,oP,oB,eq_self,Nat.reduceAdd,Int.reduceEq,h1];exact⟨_,rfl,fin 10 0 (by decide) (by decide)⟩
 ·obtain⟨_,h1,q,T,rfl,e1,n1,q5,q7,qz⟩:=n_call hp t m s o a u on hl (hu (by omega)) h hb hf (by omega)
  simp only[nD,prow,List.cons_append,List.nil_append]at h1;refine cOfBP (f:=142) (by kernel_rfl) (dcN3 ..) (by kernel_rfl) rfl ?_
  rw[b142_eq];simp only[b142,go1,oP,oB,eq_self,Nat.reduceAdd,Int.reduceEq,h1];exact⟨_,rfl,q,T,rfl,e1,n1,q5,q7,qz⟩
 ·obtain⟨_,h1,q,T,rfl,e1,n1,q5,q7,qz⟩:=n_flow8 hp hE hh t m s o a u on hl (hu8 rfl) h hb hf (by omega)
  simp only[nD,prow,List.cons_append,List.nil_append]at h1;refine cOfBP (f:=142) (by kernel_rfl) (dcN3 ..) (by kernel_rfl) rfl ?_
  rw[b142_eq];simp only[b142,go1,oP,oB,eq_self,Nat.reduceAdd,Int.reduceEq,h1];exact⟨_,rfl,q,T,rfl,e1,n1,q5,q7,qz⟩
 ·obtain⟨_,h1,q,T,rfl,e1,n1,q5,q7,qz⟩:=n_flow9 hp hE hh t m s o a u on (hu (by omega)) h hb hf (by omega)
  simp only[nD,prow,List.cons_append,List.nil_append]at h1;refine cOfBP (f:=142) (by kernel_rfl) (dcN3 ..) (by kernel_rfl) rfl ?_
  rw[b142_eq];simp only[b142,go1,oP,oB,eq_self,Nat.reduceAdd,Int.reduceEq,h1];exact⟨_,rfl,q,T,rfl,e1,n1,q5,q7,qz⟩
 ·obtain⟨_,h1,q,T,rfl,e1,n1,q5,q7,qz⟩:=n_flow10 hp hE hh t m s o a u on hl (hu (by omega)) h hb hf (by omega)
  simp only[nD,prow,List.cons_append,List.nil_append]at h1;refine cOfBP (f:=142) (by kernel_rfl) (dcN3 ..) (by kernel_rfl) rfl ?_
  rw[b142_eq];simp only[b142,go1,oP,oB,eq_self,Nat.reduceAdd,Int.reduceEq,h1];exact⟨_,rfl,q,T,rfl,e1,n1,q5,q7,qz⟩
 ·obtain⟨_,h1,q,T,rfl,e1,n1,q5,q7,qz⟩:=n_flow11 hp hE hh t m s o a u on (hu (by omega)) h hb hf (by omega)
  simp only[nD,prow,List.cons_append,List.nil_append]at h1;refine cOfBP (f:=142) (by kernel_rfl) (dcN3 ..) (by kernel_rfl) rfl ?_
  rw[b142_eq];simp only[b142,go1,oP,oB,eq_self,Nat.reduceAdd,Int.reduceEq,h1];exact⟨_,rfl,q,T,rfl,e1,n1,q5,q7,qz⟩
 ·obtain⟨_,h1,q,T,rfl,e1,n1,q5,q7,qz⟩:=n_flow12 hp hE hh t m s o a u on (hu (by omega)) h hb hf (by omega)
  simp only[nD,prow,List.cons_append,List.nil_append]at h1;refine cOfBP (f:=142) (by kernel_rfl) (dcN3 ..) (by kernel_rfl) rfl ?_
  rw[b142_eq];simp only[b142,go1,oP,oB,eq_self,Nat.reduceAdd,Int.reduceEq,h1];exact⟨_,rfl,q,T,rfl,e1,n1,q5,q7,qz⟩
end
section
variable {C : NC} {v0 : List Vr} {P H : List Nat -> Prop} (hp : PB C.ens C.nds) (hE : ∀ x ∈ C.ens, x.2 ≠ []) (hh : NH C P H)
include hp hE hh
theorem n_apartn {S:NT}(t:T3)(k m:Int)(s:BA)(o:Int)(a:List BA)(u:List Ex)(on:List Cd)(htd:TD C.ens C.nds C.at_ (.mk k m s o a u) t)(hs:ScE C.nds C.at_ (.mk k m s o a u))(hu8:k=8-> ∀e∈u.tail,AtC C v0 P H e)(hu:k≠8-> ∀e∈u,AtC C v0 P H e)(h:NI C v0 P H S)(hb:BD (2*Ex.sizes u+2) S)(hf:FD C.ens (.mk k m s o a u) on)(hon:on.length+1+Ex.sizes u<=5000):
  ∃p,cF 1000092 (nK4 C S (kE k m s o (srows a) (Ex.rows u)) .nils (.d (.sl 2 (crows on))))=some p/\EmQ C v0 P H (2*Ex.sizes u+2) S p:=by
 have htd':=htd;unfold TD at htd';obtain⟨⟨htr,hty,hk17,har,h8⟩, -, -⟩:=htd';have hl:PlH C t k m s o a u:=⟨har,h8,fun _=>⟨hty,htr⟩,fun e=>hs _ (by simp[Ex.parts]) k m s o a u rfl e⟩
 obtain⟨_,h1,q,T,rfl,e1,n1,q5,q7,qz⟩:=n_plain hp hE hh t k m s o a u on hk17 hl hu8 hu h (hb.mono (by omega)) hf hon
 obtain⟨_,h2,s2,T2,rfl,e2,n2⟩:=n_emitn hh n1 (hb.ext e1 (by omega)) q t on (fun e=>⟨htr,q5 e⟩) q7 ⟨qz,by omega⟩
 unfold TyA Ex.v at hty;simp only[nD,prow,List.cons_append,List.nil_append]at h1;simp only[nD]at h2;refine cOfBP (f:=92) (by kernel_rfl) (dcN4 ..) (by kernel_rfl) rfl ?_
 rw[b92n_eq];simp only[b92n,go1,oP,oB,eq_self,Nat.reduceAdd,h1,hty,h2];exact⟨_,rfl,s2,T2,rfl,e1.trans e2 (by omega),n2⟩
theorem n_atom: ∀(n:Nat) (e:Ex) (t:T3),e.size<=n->e.size<=200->TD C.ens C.nds C.at_ e t->ScE C.nds C.at_ e->AtC C v0 P H e
 |0, .mk k m s o a u,_,h,_,_,_=>by simp only[Ex.size]at h;omega
 |n+1, .mk k m s o a u,t,hn,hsz,htd,hs=>by
  intro S on h hb hf hon;have hsz':Ex.sizes u+1=(Ex.mk k m s o a u).size:=by simp only[Ex.size]
  have htd':=htd;unfold TD at htd';obtain⟨⟨-, -, -,har, -⟩,h8,h8'⟩:=htd';have hsub: ∀e∈u,e.size<=n/\e.size<=200/\ScE C.nds C.at_ e:=fun e he=>by
   obtain⟨i,hi⟩:=List.getElem?_of_mem he;have h1:=sizes_mem hi;exact⟨by omega,by omega,ScE_sub hs e he⟩
  by_cases hk:k=1\/k=2\/k=3\/k=4
  ·obtain⟨_,h1,s',m',rfl⟩:=n_atom0 hp (C:=C) (S:=S) k m s o a u on hk;exact⟨_,h1,s',m',S,rfl,Ext.rfl' _ _,h⟩
  ·have hu:k≠8-> ∀e∈u,AtC C v0 P H e:=fun hk8 e he=>by
    obtain⟨t',ht'⟩:=TDs_mem (h8 hk8) e he;obtain⟨g1,g2,g3⟩:=hsub e he;exact n_atom n e t' g1 g2 ht' g3
   have hu8:k=8-> ∀e∈u.tail,AtC C v0 P H e:=fun hk8 e he=>by
    have h9:=h8' hk8;cases u with
    |nil=>cases he
    |cons c r=>
     unfold TDt at h9;obtain⟨t',ht'⟩:=TDs_mem h9 e he;obtain⟨g1,g2,g3⟩:=hsub e (List.mem_cons_of_mem _ he);exact n_atom n e t' g1 g2 ht' g3
   obtain⟨_,h1,s2,T,rfl,e1,n1⟩:=n_apartn hp hE hh t k m s o a u on htd hs hu8 hu h (hb.mono (by omega)) hf (by omega)
   simp only[nD]at h1;unfold Ex.v;refine cOfBP (f:=181) (by kernel_rfl) (dcN3 ..) (by kernel_rfl) rfl ?_
   rw[b181_eq];simp only[b181,go1,oB,Nat.reduceAdd,decF (p:=k=1) (by omega),decF (p:=k=2) (by omega),decF (p:=k=3) (by omega),decF (p:=k=4) (by omega),h1]
   exact⟨_,rfl,s2,0,T,rfl,⟨e1.f1,by have:=e1.f2;omega,by have:=e1.v;omega,by have:=e1.e;omega⟩,n1⟩
theorem n_apart {S:NT}(k m:Int)(s:BA)(o:Int)(a:List BA)(u:List Ex)(y:BA)(r:List BA)(on:List Cd)(t:T3)(har:ArB k m a u)(h13:k=13->TDs C.ens C.nds C.at_ u)(hn13:k≠13->TD C.ens C.nds C.at_ (.mk k m s o a u) t)(hs:ScE C.nds C.at_ (.mk k m s o a u))(h:NI C v0 P H S)(hb:BD (2*Ex.sizes u+2) S)(hsz:Ex.sizes u<=200)(hf:FD C.ens (.mk k m s o a u) on)(hon:on.length+1+Ex.sizes u<=5000):
  ∃p,cF 1000092 (nK4 C S (kE k m s o (srows a) (Ex.rows u)) (.d (.sl 1 (srows (y::r)))) (.d (.sl 2 (crows on))))=some p/\ ∃(q:Pq) (T:NT),p= .val (.str y::nD C ⟨T.fr,T.va,T.eq++[q]⟩)/\q.ns=y::r/\Ext (2*Ex.sizes u+1) S T/\NI C v0 P H T/\(q.k=5->k≠13/\QR C.ens t q.it)/\(q.k=7->0<=q.nd/\q.nd < (C.at_:Int))/\q.ar.length<=2000/\q.on=on:=by
 have hsub: ∀e∈u,e.size<=200/\ScE C.nds C.at_ e:=fun e he=>by
  obtain⟨i,hi⟩:=List.getElem?_of_mem he;have h1:=sizes_mem hi;exact⟨by omega,ScE_sub hs e he⟩
 have l0:decide (((y::r).length:Int)=0)=false:=decF (by simp only[List.length_cons];omega)
 by_cases hk13:k=13
 ·subst hk13;have hl:PlH C (9,0,0) 13 m s o a u:=⟨har,fun e=>by omega,fun e=>by omega,fun e=>hs _ (by simp[Ex.parts]) 13 m s o a u rfl e⟩
  have hu: ∀e∈u,AtC C v0 P H e:=fun e he=>by
   obtain⟨t',ht'⟩:=TDs_mem (h13 rfl) e he;obtain⟨g2,g3⟩:=hsub e he;exact n_atom hp hE hh 200 e t' g2 g2 ht' g3
  obtain⟨_,h1,q,T,rfl,e1,n1,q5,q7,qz⟩:=n_plain hp hE hh (9,0,0) 13 m s o a u on (by decide) hl (fun e=>by omega) (fun _=>hu) h (hb.mono (by omega)) hf hon
  have hq5:q.k≠5:=fun e=>by
   have h9:=q5 e;unfold valR at h9;obtain⟨h9,h10⟩:=h9;have hlv:q.it.length=1:=by simp at h9;omega
   obtain⟨x,hx⟩:=len1 hlv;have:=h10 x (by rw[hx];simp)
   unfold oneR at this;simp at this
  have h2:=n_emit (C:=C) (S:=T) (hb.ext e1 (by omega)) q y r (0,0,0) on
  simp only[nD,prow,List.cons_append,List.nil_append]at h1;simp only[nD]at h2;refine cOfBP (f:=92) (by kernel_rfl) (dcN4 ..) (by kernel_rfl) rfl ?_
  rw[b92_eq];simp only[b92,go1,oP,oB,Nat.reduceAdd,h1,srows_len,l0,h2];exact⟨_,rfl,{ q with ns:=y::r,on:=on },T,rfl,rfl,e1,n1,fun e=>absurd e hq5,q7,qz,rfl⟩
 ·have htd:=hn13 hk13;have htd':=htd;unfold TD at htd';obtain⟨⟨htr,hty,hk17, -,h8⟩,d8,d8'⟩:=htd';have hl:PlH C t k m s o a u:=⟨har,h8,fun _=>⟨hty,htr⟩,fun e=>hs _ (by simp[Ex.parts]) k m s o a u rfl e⟩
  have hu:k≠8-> ∀e∈u,AtC C v0 P H e:=fun hk8 e he=>by
   obtain⟨t',ht'⟩:=TDs_mem (d8 hk8) e he;obtain⟨g2,g3⟩:=hsub e he;exact n_atom hp hE hh 200 e t' g2 g2 ht' g3
  have hu8:k=8-> ∀e∈u.tail,AtC C v0 P H e:=fun hk8 e he=>by
   have h9:=d8' hk8;cases u with
   |nil=>cases he
   |cons c r=>
    unfold TDt at h9;obtain⟨t',ht'⟩:=TDs_mem h9 e he;obtain⟨g2,g3⟩:=hsub e (List.mem_cons_of_mem _ he);exact n_atom hp hE hh 200 e t' g2 g2 ht' g3
  obtain⟨_,h1,q,T,rfl,e1,n1,q5,q7,qz⟩:=n_plain hp hE hh t k m s o a u on hk17 hl hu8 hu h (hb.mono (by omega)) hf hon
  have h2:=n_emit (C:=C) (S:=T) (hb.ext e1 (by omega)) q y r (0,0,0) on
  simp only[nD,prow,List.cons_append,List.nil_append]at h1;simp only[nD]at h2;refine cOfBP (f:=92) (by kernel_rfl) (dcN4 ..) (by kernel_rfl) rfl ?_
  rw[b92_eq];simp only[b92,go1,oP,oB,Nat.reduceAdd,h1,srows_len,l0,h2];exact⟨_,rfl,{ q with ns:=y::r,on:=on },T,rfl,rfl,e1,n1,fun e=>⟨hk13,htr,q5 e⟩,q7,qz,rfl⟩
end
def eqB_parts {x:Eqn}(h:eqB x=true):x.ns≠[]/\x.e.size<=60/\allB x.e=true/\ ∀s∈x.ns,lowN (tb s)=true:=by
 unfold eqB smallB at h;simp only[Bool.and_eq_true,List.all_eq_true,Bool.not_eq_true',decide_eq_true_eq,decide_eq_false_iff_not]at h;obtain⟨⟨⟨h1,⟨h2, -⟩,h3⟩, -⟩,h4⟩:=h;exact⟨fun e=>h1 (by rw[e];rfl),h2,h3,h4⟩
def node_parts {ens:List En}{n:Nd}(h:nodeB ens n=true):(∀d∈allD n,lowN (tb d.n)=true/\tyR ens (d.k,d.e,d.c))/\ ∀x∈n.eqs,eqB x=true:=by
 unfold nodeB at h;simp only[Bool.and_eq_true,List.all_eq_true]at h;refine⟨fun d hd=> ?_,fun x hx=>h.2.2.2.1 x hx⟩
 have:=h.1 d hd;unfold declB at this;simp only[Bool.and_eq_true]at this;exact this.1
def dnt (d:Dc):BA × T3:=(d.n,(d.k,d.e,d.c))
def vnt (v:Vr):BA × T3:=(v.n,v.t)
def find_nt {y:BA}: ∀ {l:List Dc} {vs:List Vr},vs.map vnt=l.map dnt-> ∀d,l.find? (isD y)=some d-> ∃v,vs.find? (isV y)=some v/\v.t=(d.k,d.e,d.c)
 | [],[],_,d,h=>by cases h
 | [],v::vs,h,d,_=>by cases h
 |x::l,[],h,d,_=>by cases h
 |x::l,v::vs,h,d,hd=>by
  simp only[List.map_cons,List.cons.injEq]at h;obtain⟨h1,h2⟩:=h;unfold vnt dnt at h1;have e1:v.n=x.n:=congrArg Prod.fst h1;have e2:v.t=(x.k,x.e,x.c):=congrArg Prod.snd h1;rw[List.find?_cons]at hd ⊢;have e3:isV y v=isD y x:=by unfold isV isD;rw[e1]
  rw[e3];cases hx:isD y x with
  |true=>
   rw[hx]at hd;cases hd;exact⟨v,rfl,e2⟩
  |false=>
   rw[hx]at hd;exact find_nt h2 d hd
def frow (f:Fl):List D:=[.str f.n, .sl 5 (vrows f.ins), .sl 5 (vrows f.outs), .sl 5 (vrows f.vars), .sl 10 (prows f.eqs)]
def frows (l:List Fl):LL:=l.map frow
def frows_len (l:List Fl):(frows l).length=l.length:=by simp[frows]
structure FOK (ens:List En) (i:Nat) (f:Fl):Prop where
 ok:FlOK (QR ens) i f
 al:f.all.length<=100000000
 el:f.eqs.length<=1000000
 sz: ∀q∈f.eqs,q.ns.length<=1000/\q.ar.length<=2000/\q.on.length<=6000
def hdE (x:Eqn):BA:=x.ns.headD (bs [])
def nP (nd:Nd)(j:Nat)(x:List Nat):Prop:=(∀c∈x,c≠46)\/ ∃e∈nd.eqs.take j,∃n,x=Fn (hdE e) n
def nH (nd:Nd)(j:Nat)(x:List Nat):Prop:= ∃e∈nd.eqs.take j,x=tb (hdE e)\/ ∃n,x=Fn (hdE e) n
theorem chk_pos {ens:List En}{nds:List Nd}(h:chkS ens nds=0):0 < nds.length:=by
 rcases Nat.eq_zero_or_pos nds.length with h0|h0
 ·exfalso;obtain⟨h1, -⟩:=chk_parts h;unfold chkS at h;rw[decide_eq_true h1,decide_eq_true (show(nds.length:Int)=0 by omega)]at h
  cases h
 ·exact h0
section
variable {ens : List En} {nds : List Nd} (hp : PB ens nds) (hc0 : ChkH ens nds)
theorem NI.next {at_:Nat}{nd:Nd}{j:Nat}{x:Eqn}(hx:nd.eqs[j]? =some x){ins outs v0 va:List Vr}{eq:List Pq}(hv:(ins++outs++v0).map vnt=(allD nd).map dnt)(hsc:ScN nds at_ nd)(hq: ∀x∈nd.eqs,eqB x=true){y:BA}{r:List BA}(hy:x.ns=y::r)(h:NI ⟨ens,nds,at_,bs [],nd.n,ins,outs⟩ v0 (nP nd j) (nH nd j) ⟨0,va,eq⟩):
  NH ⟨ens,nds,at_,y,nd.n,ins,outs⟩ (nP nd j) (nH nd j)/\NI ⟨ens,nds,at_,y,nd.n,ins,outs⟩ v0 (nP nd j) (nH nd j) ⟨0,va,eq⟩:=by
 have hyl:lowN (tb y)=true:=(eqB_parts (hq x (List.mem_of_getElem? hx))).2.2.2 y (by rw[hy];exact List.mem_cons_self)
 have hne: ∀e∈nd.eqs.take j,tb (hdE e)≠tb y/\lowN (tb (hdE e))=true:=fun e he=>by
  have heq:=eqB_parts (hq e (List.mem_of_mem_take he));have hm:hdE e∈e.ns:=by
   unfold hdE;cases hns:e.ns with
   |nil=>exact absurd hns heq.1
   |cons a b=>exact List.mem_cons_self
  exact⟨(hsc j x hx).1 y r hy e he _ hm,heq.2.2.2 _ hm⟩
 refine⟨⟨hyl,fun z hz n e=> ?_,fun z hz n e=> ?_,fun z hz e=> ?_⟩,⟨h.pre,fun v hv=> ?_,fun q hq=> ?_,h.ok,h.nd⟩⟩
 ·rcases hz with hz|⟨e',he',n',rfl⟩
  ·exact hz 46 (by rw[e];exact Fn_dot _ _) rfl
  ·have hh:=hne e' he';exact hh.1 (dot_inj (low_nodot hh.2) (low_nodot hyl) e).1
 ·obtain⟨e',he',rfl|⟨n',rfl⟩⟩:=hz
  ·have hh:=hne e' he';exact low_nodot hh.2 46 (by rw[e];exact Fn_dot _ _) rfl
  ·have hh:=hne e' he';exact hh.1 (dot_inj (low_nodot hh.2) (low_nodot hyl) e).1
 ·obtain⟨e',he',rfl|⟨n',rfl⟩⟩:=hz
  ·exact(hne e' he').1 e
  ·exact low_nodot hyl 46 (by show(46:Nat)∈tb y;rw[<-e];exact Fn_dot _ _) rfl
 ·rcases h.vn v hv with h1|⟨j,h1,h2,h3⟩
  ·exact .inl h1
  ·simp only at h2;omega
 ·rcases h.hn q hq with h1|⟨j,h1,h2,h3⟩
  ·exact .inl h1
  ·simp only at h2;omega
theorem NI.step {at_:Nat}{nd:Nd}{j:Nat}{x:Eqn}(hx:nd.eqs[j]? =some x){ins outs v0:List Vr}(hv:(ins++outs++v0).map vnt=(allD nd).map dnt)(hq: ∀x∈nd.eqs,eqB x=true){y:BA}{r:List BA}(hy:x.ns=y::r)(hns:x.ns.length<=1000){T:NT}{q:Pq}{on:List Cd}{t:T3}(hh:NH ⟨ens,nds,at_,y,nd.n,ins,outs⟩ (nP nd j) (nH nd j))(h:NI ⟨ens,nds,at_,y,nd.n,ins,outs⟩ v0 (nP nd j) (nH nd j) T)(hqn:q.ns=y::r)(hon:on.length<=6000)
  (h5:q.k=5->QR ens t q.it/\ ∃d,declA nd y=some d/\(d.k,d.e,d.c)=t) (h7:q.k=7->0<=q.nd/\q.nd < (at_:Int)) (hqz:q.ar.length<=2000) (hqo:q.on=on):
  NI ⟨ens,nds,at_,bs [],nd.n,ins,outs⟩ v0 (nP nd (j+1)) (nH nd (j+1)) ⟨0,T.va,T.eq++[q]⟩:=by
 have hqd:q.hd=y:=by unfold Pq.hd;rw[hqn];rfl
 have hxd:hdE x=y:=by unfold hdE;rw[hy];rfl
 have htk:nd.eqs.take (j+1)=nd.eqs.take j++[x]:=by rw[List.take_add_one,hx];rfl
 have hP: ∀z,nP nd j z->nP nd (j+1) z:=fun z hz=>by
  rcases hz with hz|⟨e,he,n,hz⟩
  ·exact .inl hz
  ·exact .inr ⟨e,by rw[htk];exact List.mem_append_left _ he,n,hz⟩
 have hH: ∀z,nH nd j z->nH nd (j+1) z:=fun z ⟨e,he,hz⟩=>⟨e,by rw[htk];exact List.mem_append_left _ he,hz⟩
 have hxm:x∈nd.eqs.take (j+1):=by rw[htk];simp
 refine⟨h.pre,fun v hv=> ?_,fun p hp=> ?_,fun p hp=> ?_,?_⟩
 ·rcases h.vn v hv with h1|⟨n,h1,h2,h3⟩
  ·exact .inl (hP _ h1)
  ·exact .inl (.inr ⟨x,hxm,n,by rw[hxd];exact h3⟩)
 ·rcases List.mem_append.1 hp with hp|hp
  ·rcases h.hn p hp with h1|⟨n,h1,h2,h3⟩
   ·exact .inl (hH _ h1)
   ·exact .inl ⟨x,hxm, .inr ⟨n,by rw[hxd];exact h3⟩⟩
  ·simp at hp;subst hp;exact .inl ⟨x,hxm, .inl (by rw[hqd,hxd])⟩
 ·rcases List.mem_append.1 hp with hp|hp
  ·exact h.ok p hp
  ·simp at hp;subst hp;refine⟨by rw[hqn];simp,by rw[hqd];exact low_hd ((eqB_parts (hq x (List.mem_of_getElem? hx))).2.2.2 y (by rw[hy];exact List.mem_cons_self)),h7,fun e=> ?_,by rw[hqn,<-hy];exact hns,hqz,by rw[hqo];exact hon⟩
   obtain⟨h8,d,hd,he⟩:=h5 e;obtain⟨v,hv1,hv2⟩:=find_nt hv d hd;obtain⟨r',hr'⟩:=h.pre;refine⟨v,?_,by rw[hv2,he];exact h8⟩
   show(ins++outs++T.va).find? (isV p.hd)=some v;rw[hr',<-List.append_assoc,List.find?_append,hqd,hv1];rfl
 ·simp only[List.map_append,List.map_cons,List.map_nil];refine List.nodup_append.2 ⟨h.nd,by simp,fun a ha b hb e=> ?_⟩
  simp at hb;subst hb;subst e;obtain⟨p,hp,he⟩:=List.mem_map.1 ha;rw[hqd]at he;rcases h.hn p hp with h1|⟨n,h1,h2,h3⟩
  ·exact hh.f _ h1 he
  ·rw[h3]at he;exact Fn_ne _ _ he
include hp hc0
theorem x_Flows: ∃p,cF 48 [pV ens nds]=some p/\(p= .val [.sl 2 [], .sl 5 [], .bool false]\/ ∃fls:List Fl,p= .val [.sl 2 (erows ens), .sl 5 (frows fls), .bool true]/\(fls.length=nds.length/\0 < fls.length)/\ ∀i f,fls[i]? =some f->FOK ens i f):=by
 obtain⟨_,h1,fa,fb,fc,rfl,hq⟩:=x_lCheck hp hc0;refine cOfP (by kernel_rfl) rfl ?_
 rw[g48_eq];simp only[g48,go1,oE,oN,oB,Nat.reduceAdd,Int.reduceLE,h1];refine ex_bif (fun hc=>⟨_,rfl, .inl rfl⟩) fun hc=> ?_
 have hz:fa=0/\fb=0/\fc=0:=by simpa using hc
 have hT:=hq hz.1 hz.2.1 hz.2.2;obtain⟨hen,hnds⟩:=chk_parts hT.ty.sc.ck;have hE: ∀x∈ens,x.2≠[]:=fun x hx=>((enumsN_parts hen).2 x hx).1
 have hnl:=hp.nl;refine for_s nds (fun at_ (fls:List Fl)=>[.int .i64 (at_:Int), .sl 2 (erows ens), .sl 5 (nrows nds), .sl 2 (erows ens), .sl 5 (frows fls)]) (fun at_ fls=>fls.length=at_/\ ∀i f,fls[i]? =some f->FOK ens i f) [] ⟨rfl,fun i f h=>by simp at h⟩ rfl (fun at_ fls nd hn hI hil=> ?_) (fun fls hI=> ?_)
 ·have hnm:=List.mem_of_getElem? hn;have hal:=hp.al nd hnm;have hql:=hp.ql nd hnm;have hall:nd.ins.length+nd.outs.length+nd.vars.length<=1000000:=by unfold allD at hal;simpa only[List.length_append]using hal
  obtain⟨hdp,hqp⟩:=node_parts (hnds nd hnm);obtain⟨I1,I2⟩:=hI;simp only[go1,nrow,nrows_len,ilt_at hil,inr_at hil,nrow_at hn];refine for_s nd.ins (fun i (vs:List Vr)=>[.sl 6 (drows nd.ins), .int .i64 (i:Int), .sl 2 (erows ens), .sl 5 (nrows nds), .int .i64 (at_:Int), .str (bs []), .int .i64 0, .str (bs []), .sl 5 (vrows vs)]) (fun i vs=>vs.map vnt=(nd.ins.take i).map dnt) [] (by simp) rfl (fun i vs d hd hI hil=> ?_) (fun ins hins=> ?_)
  ·have hvl:vs.length=i:=by have:=congrArg List.length hI;simp at this;omega
   obtain⟨_,h2,row,rb,rfl,hrl⟩:=x_Row hp hn d.n;have e1:sy.cell (drow d) 0=some (.str d.n):=rfl;have e2:sy.cell (sy.skip 1 (drow d)) 0=some (.int .i64 d.k):=rfl;have e3:sy.cell (sy.skip 1 (drow d)) 1=some (.int .i64 d.e):=rfl;have e4:sy.cell (sy.skip 1 (drow d)) 2=some (.int .i64 d.c):=rfl;have hf:=fitsR (vrows vs) [[.str d.n, .int .i64 d.k, .int .i64 d.e, .int .i64 d.c, .sl 2 (crows row)]] 64 (by rw[vrows_len];simp only[List.length_cons,List.length_nil];omega)
   simp only[go1,Nat.reduceAdd]at hf;simp only[go1,drows_len,ilt_at hil,inr_at hil,drow_at hd,e1,e2,e3,e4,h2,hf,wrap_succ hil (by omega)]
   refine⟨_,rfl,vs++[⟨d.n,(d.k,d.e,d.c),row⟩],by simp[vrows,vrow],?_⟩
   rw[List.take_add_one,hd,List.map_append,hI,List.map_append];rfl
  simp only[go1,drows_len,ilt_self];rw[List.take_length]at hins;refine for_s nd.outs (fun i (vs:List Vr)=>[.sl 6 (drows nd.outs), .int .i64 (i:Int), .sl 2 (erows ens), .sl 5 (nrows nds), .int .i64 (at_:Int), .str (bs []), .int .i64 0, .str (bs []), .sl 5 (vrows vs)]) (fun i vs=>vs.map vnt=(nd.outs.take i).map dnt) [] (by simp) rfl (fun i vs d hd hI hil=> ?_) (fun outs houts=> ?_)
  ·have hvl:vs.length=i:=by have:=congrArg List.length hI;simp at this;omega
   obtain⟨_,h2,row,rb,rfl,hrl⟩:=x_Row hp hn d.n;have e1:sy.cell (drow d) 0=some (.str d.n):=rfl;have e2:sy.cell (sy.skip 1 (drow d)) 0=some (.int .i64 d.k):=rfl;have e3:sy.cell (sy.skip 1 (drow d)) 1=some (.int .i64 d.e):=rfl;have e4:sy.cell (sy.skip 1 (drow d)) 2=some (.int .i64 d.c):=rfl;have hf:=fitsR (vrows vs) [[.str d.n, .int .i64 d.k, .int .i64 d.e, .int .i64 d.c, .sl 2 (crows row)]] 64 (by rw[vrows_len];simp only[List.length_cons,List.length_nil];omega)
   simp only[go1,Nat.reduceAdd]at hf;simp only[go1,drows_len,ilt_at hil,inr_at hil,drow_at hd,e1,e2,e3,e4,h2,hf,wrap_succ hil (by omega)]
   refine⟨_,rfl,vs++[⟨d.n,(d.k,d.e,d.c),row⟩],by simp[vrows,vrow],?_⟩
   rw[List.take_add_one,hd,List.map_append,hI,List.map_append];rfl
  simp only[go1,drows_len,ilt_self];rw[List.take_length]at houts;refine for_s nd.vars (fun i (vs:List Vr)=>[.sl 6 (drows nd.vars), .int .i64 (i:Int), .sl 2 (erows ens), .sl 5 (nrows nds), .int .i64 (at_:Int), .str (bs []), .int .i64 0, .str (bs []), .sl 5 (vrows vs)]) (fun i vs=>vs.map vnt=(nd.vars.take i).map dnt) [] (by simp) rfl (fun i vs d hd hI hil=> ?_) (fun v0 hv0=> ?_)
  ·have hvl:vs.length=i:=by have:=congrArg List.length hI;simp at this;omega
   obtain⟨_,h2,row,rb,rfl,hrl⟩:=x_Row hp hn d.n;have e1:sy.cell (drow d) 0=some (.str d.n):=rfl;have e2:sy.cell (sy.skip 1 (drow d)) 0=some (.int .i64 d.k):=rfl;have e3:sy.cell (sy.skip 1 (drow d)) 1=some (.int .i64 d.e):=rfl;have e4:sy.cell (sy.skip 1 (drow d)) 2=some (.int .i64 d.c):=rfl;have hf:=fitsR (vrows vs) [[.str d.n, .int .i64 d.k, .int .i64 d.e, .int .i64 d.c, .sl 2 (crows row)]] 64 (by rw[vrows_len];simp only[List.length_cons,List.length_nil];omega)
   simp only[go1,Nat.reduceAdd]at hf;simp only[go1,drows_len,ilt_at hil,inr_at hil,drow_at hd,e1,e2,e3,e4,h2,hf,wrap_succ hil (by omega)]
   refine⟨_,rfl,vs++[⟨d.n,(d.k,d.e,d.c),row⟩],by simp[vrows,vrow],?_⟩
   rw[List.take_add_one,hd,List.map_append,hI,List.map_append];rfl
  simp only[go1,drows_len,ilt_self];rw[List.take_length]at hv0;have hv:(ins++outs++v0).map vnt=(allD nd).map dnt:=by unfold allD;simp only[List.map_append,hins,houts,hv0]
  have hvl:ins.length+outs.length+v0.length<=1000000:=by
   have:=congrArg List.length hv;simp only[List.length_map,List.length_append]at this;omega
  have hlow: ∀v∈ins++outs++v0,∀c∈tb v.n,c≠46:=fun v hv'=>by
   have hvd:vnt v∈(allD nd).map dnt:=by rw[<-hv];exact List.mem_map_of_mem hv'
   obtain⟨d,hd,he⟩:=List.mem_map.1 hvd;have e1:d.n=v.n:=congrArg Prod.fst he;rw[<-e1];exact low_nodot (hdp d hd).1
  have hscn:=hT.ty.sc.nd at_ nd hn;refine ex_cut ?_;refine for_s nd.eqs (fun j (x:BA × Nat × List Vr × List Pq)=>[.int .i64 (at_:Int), .int .i64 (j:Int), .sl 2 (erows ens), .sl 5 (nrows nds), .sl 2 (erows ens), .sl 5 (frows fls), .str nd.n, .sl 6 (drows nd.ins), .sl 6 (drows nd.outs), .sl 6 (drows nd.vars), .sl 7 (qrows nd.eqs), .sl 2 (erows ens), .sl 5 (nrows nds), .int .i64 (at_:Int), .str x.1, .int .i64 (x.2.1:Int), .str nd.n, .sl 5 (vrows ins), .sl 5 (vrows outs), .sl 5 (vrows x.2.2.1), .sl 10 (prows x.2.2.2)]) (fun j x=>NI ⟨ens,nds,at_,bs [],nd.n,ins,outs⟩ v0 (nP nd j) (nH nd j) ⟨0,x.2.2.1,x.2.2.2⟩/\x.2.2.1.length<=v0.length+200*j/\x.2.2.2.length<=200*j) (bs [],0,v0,[]) ⟨⟨⟨[],by simp⟩,fun v hv'=> .inl (.inl (hlow v hv')),fun q hq=>by simp at hq,fun q hq=>by simp at hq,by simp⟩,by simp,by simp⟩ rfl (fun j x e he hJ hjl=> ?_) (fun x hJ=> ?_)
  ·obtain⟨fs,fr,va,eq⟩:=x;obtain⟨J1,J2,J3⟩:=hJ;simp only at J1 J2 J3;have hem:=List.mem_of_getElem? he;obtain⟨hne,hsz,hab, -⟩:=eqB_parts (hqp e hem);have hnsl:=hp.ns nd hnm e hem;have hEC:=hT.eq at_ nd hn j e he;have hSE:=(hscn j e he).2;obtain⟨ns,k,m,s,o,a,u⟩:=e;obtain⟨y,r,rfl⟩:=List.exists_cons_of_ne_nil hne;simp only at hsz hab hnsl hEC hSE;have hsu:Ex.sizes u+1=(Ex.mk k m s o a u).size:=by simp only[Ex.size]
   obtain⟨row,rb,hR,hrl,hFD⟩:=hEC y r rfl;have hET:=hT.ty.eq at_ nd hn j (y::r) k m s o a u he;have har:ArB k m a u:=by
    unfold allB at hab;rw[Bool.and_eq_true]at hab;exact ar_of hab.1
   obtain⟨hh,hni⟩:=J1.next he hv hscn hqp rfl;obtain⟨t,ht1,ht2⟩: ∃t,(k≠13->TD ens nds at_ (.mk k m s o a u) t)/\(k≠13-> ∃d,declA nd y=some d/\(d.k,d.e,d.c)=t):=by
    by_cases h13:k=13
    ·exact⟨(0,0,0),fun h=>absurd h13 h,fun h=>absurd h13 h⟩
    ·obtain⟨t,y',d,g1,g2,g3,g4⟩:=hET.2 h13;cases g2;exact⟨t,fun _=>g1,fun _=>⟨d,g3,g4⟩⟩
   obtain⟨_,h2,q,T,rfl,q1,q2,q3,q4,q5,q6,q7⟩:=n_apart (C:=⟨ens,nds,at_,y,nd.n,ins,outs⟩) hp hE hh k m s o a u y r row t har hET.1 ht1 hSE hni ⟨by simp only;omega,by simp only;omega,by simp only;omega⟩ (by omega) hFD (by omega)
   have h2:cF 1000092 (kN4 (kE k m s o (srows a) (Ex.rows u)) (.d (.sl 1 (srows (y::r)))) (.d (.sl 2 (crows row))) (erows ens) (nrows nds) (at_:Int) y 0 nd.n (vrows ins) (vrows outs) (vrows va) (prows eq))=_:=h2;have l1:decide ((0:Int) < ((y::r).length:Int))=true:=decT (by simp)
   have r1:=srow_0 (l:=y::r) rfl;have e3: ∀i,sy.cell (sy.skip 1 [D.sl 1 (srows (y::r)), .int .i64 k, .int .i64 m, .str s, .int .i64 o, .sl 1 (srows a), .sl 6 (Ex.rows u)]) i=sy.cell [D.int .i64 k, .int .i64 m, .str s, .int .i64 o, .sl 1 (srows a), .sl 6 (Ex.rows u)] i:=fun _=>rfl
   simp only[nD]at h2;simp only[go1,qrows_len,ilt_at hjl,inr_at hjl,qrow_k he,srows_len,l1,r1,hR,e3,h2,wrap_succ hjl (by omega)]
   refine⟨_,rfl,(y,T.fr,T.va,T.eq++[q]),rfl,NI.step he hv hqp rfl hnsl hh q3 q1 (by omega) (fun e=>⟨(q4 e).2,ht2 (q4 e).1⟩) q5 q6 q7,?_,?_⟩
   ·have:=q2.v;simp only at this ⊢;omega
   ·have:=q2.e;simp only[List.length_append,List.length_cons,List.length_nil]at this ⊢;omega
  ·obtain⟨fs,fr,va,eq⟩:=x;obtain⟨J1,J2,J3⟩:=hJ;simp only at J1 J2 J3;have hf:=fitsR (frows fls) [[.str nd.n, .sl 5 (vrows ins), .sl 5 (vrows outs), .sl 5 (vrows va), .sl 10 (prows eq)]] 112 (by rw[frows_len];simp only[List.length_cons,List.length_nil];omega)
   simp only[go1,Nat.reduceAdd]at hf;simp only[go1,qrows_len,ilt_self];refine⟨_,rfl,?_⟩;simp only[sumQ];simp only[go1,hf,wrap_succ hil (by omega)]
   refine⟨_,rfl,fls++[⟨nd.n,ins,outs,va,eq⟩],by simp[frows,frow],by simp[I1],fun i f hf=> ?_⟩
   rcases Nat.lt_or_ge i fls.length with hlt|hge
   ·rw[List.getElem?_append_left hlt]at hf;exact I2 i f hf
   ·rw[List.getElem?_append_right hge]at hf;have hi0:i=fls.length:=by
     rcases Nat.eq_or_lt_of_le hge with h|h
     ·exact h.symm
     ·rw[List.getElem?_eq_none (by simp;omega)]at hf
      cases hf
    subst hi0;simp at hf;subst hf;rw[I1];refine⟨⟨fun q hq=>(J1.ok q hq).ne,fun q hq=>(J1.ok q hq).hd,fun q hq=>(J1.ok q hq).call,fun q hq h5=> ?_,J1.nd⟩,?_,?_,fun q hq=>(J1.ok q hq).sz⟩
    ·obtain⟨v,hv1,hv2⟩:=(J1.ok q hq).fby h5;unfold Fl.ty Fl.all;have hv1:(ins++outs++va).find? (isV q.hd)=some v:=hv1;rw[hv1];exact hv2
    ·unfold Fl.all;simp only[List.length_append];omega
    ·simp only;omega
 ·obtain⟨I1,I2⟩:=hI;simp only[go1,nrows_len,ilt_self];exact⟨_,rfl, .inr ⟨fls,rfl,⟨I1,by have:=chk_pos hT.ty.sc.ck;omega⟩,I2⟩⟩
end
def nats (l:List Nat):List Int:=l.map fun i:Nat=>(i:Int)
theorem prow_at {l:List Pq}{i:Nat}{x:Pq}(h:l[i]? =some x):sy.row (prows l) (i:Int)= [.int .i64 x.k, .sl 1 (srows x.ns), .int .i64 x.o, .sl 2 (crows x.ar), .sl 1 (irows x.it), .int .i64 x.nd, .bool x.rs, .str x.ev, .int .i64 x.ec, .sl 2 (crows x.on)]:=by
 rw[sy_row,Int.toNat_natCast,List.getD_eq_getElem?_getD];unfold prows;rw[List.getElem?_map,h];rfl
theorem frow_at {l:List Fl}{i:Nat}{x:Fl}(h:l[i]? =some x):sy.row (frows l) (i:Int)= [.str x.n, .sl 5 (vrows x.ins), .sl 5 (vrows x.outs), .sl 5 (vrows x.vars), .sl 10 (prows x.eqs)]:=by
 rw[sy_row,Int.toNat_natCast,List.getD_eq_getElem?_getD];unfold frows;rw[List.getElem?_map,h];rfl
theorem srown_at {l:List BA}{i:Nat}{x:BA}(h:l[i]? =some x):sy.cell (sy.rown (srows l) i) 0=some (.str x):=by
 have:=srows_at h;rw[sy_row,Int.toNat_natCast]at this;rw[sy_rown];exact this
abbrev fV (f:Fl):V:= .agg [.d (.str f.n), .d (.sl 5 (vrows f.ins)), .d (.sl 5 (vrows f.outs)), .d (.sl 5 (vrows f.vars)), .d (.sl 10 (prows f.eqs))]
abbrev qV (q:Pq):V:=kQ q.k (srows q.ns) q.o (crows q.ar) (irows q.it) q.nd q.rs q.ev q.ec (crows q.on)
def RdQ (p:PRes):Prop:= ∃l:List BA,p= .own 9 1 (srows l)/\l.length<=20000
theorem x_dReads (q:Pq)(ha:q.ar.length<=2000)(ho:q.on.length<=6000): ∃p,cF 184 [qV q]=some p/\RdQ p:=by
 obtain⟨k,ns,o,ar,it,nd,rs,ev,ec,on⟩:=q;simp only at ha ho;refine cOfP (by kernel_rfl) rfl ?_
 rw[g184_eq];simp only[g184,go1,oP,Nat.reduceAdd];refine while_s (fun x:Nat × List BA=>[.int .i64 (x.1:Int), .int .i64 k, .sl 1 (srows ns), .int .i64 o, .sl 2 (crows ar), .sl 1 (irows it), .int .i64 nd, .bool rs, .str ev, .int .i64 ec, .sl 2 (crows on), .sl 1 (srows x.2)]) (fun x=>x.1<=ar.length/\x.2.length<=x.1) (fun x=>ar.length - x.1) (0,[]) (by simp) rfl (fun x hI=> ?_)
 obtain⟨i,l⟩:=x;obtain⟨I1,I2⟩:=hI;simp only at I1 I2;cases hc:(decide ((i:Int) < (ar.length:Int))&& !decide (k=5))with
 |true=>
  have hil:i < ar.length:=by
   rw[Bool.and_eq_true,decide_eq_true_eq]at hc;omega
  have hcr:=crow_at (List.getElem?_eq_getElem hil);have hf:=fitsR (srows l) [[.str ar[i].1]] 16 (by rw[srows_len];simp only[List.length_cons,List.length_nil];omega)
  simp only[go1,Nat.reduceAdd]at hf;simp only[go1,crows_len,hc,inr_at hil,hcr,hf,wrap_succ hil (by omega)]
  exact⟨_,rfl,(i+1,l++[ar[i].1]),by rw[srows_snoc];rfl,⟨hil,by simp;omega⟩,by simp only;omega⟩
 |false=>
  cases rs with
  |true=>
   have hf:=fitsR (srows l) [[.str ev]] 16 (by rw[srows_len];simp only[List.length_cons,List.length_nil];omega)
   simp only[go1,Nat.reduceAdd]at hf;simp only[go1,crows_len,hc,hf];refine for_s on (fun i (l:List BA)=>[.int .i64 (i:Int), .int .i64 k, .sl 1 (srows ns), .int .i64 o, .sl 2 (crows ar), .sl 1 (irows it), .int .i64 nd, .bool true, .str ev, .int .i64 ec, .sl 2 (crows on), .sl 1 (srows l)]) (fun i l=>l.length<=2001+i) ((l++[ev])) (by simp;try omega) (by simp[srows,srow]) (fun i l x hx hI hil=> ?_) (fun l hI=> ?_)
   ·have hf:=fitsR (srows l) [[.str x.1]] 16 (by rw[srows_len];simp only[List.length_cons,List.length_nil];omega)
    simp only[go1,Nat.reduceAdd]at hf;simp only[go1,crows_len,ilt_at hil,inr_at hil,crow_at hx,hf,wrap_succ hil (by omega)]
    exact⟨_,rfl,l++[x.1],by rw[srows_snoc];rfl,by simp;omega⟩
   ·simp only[go1,crows_len,ilt_self];refine for_s l (fun i (out:List BA)=>[.int .i64 (i:Int), .sl 1 (srows l), .sl 1 (srows out)]) (fun i out=>out.length<=i) [] (by simp) rfl (fun i out x hx hI2 hil=> ?_) (fun out hI2=> ?_)
    ·have hf:=fitsR (srows out) [[.str x]] 16 (by rw[srows_len];simp only[List.length_cons,List.length_nil];omega)
     simp only[go1,Nat.reduceAdd,srows_len]at hf;simp only[go1,srows_len,ilt_at hil,inr_at hil,Int.toNat_natCast,srown_at hx,hf,wrap_succ hil (by omega)]
     exact ex_bif (fun _=>⟨_,rfl,out++[x],by rw[srows_snoc];rfl,by simp;omega⟩) fun _=>⟨_,rfl,out,rfl,by omega⟩
    ·simp only[go1,srows_len,ilt_self];exact⟨_,rfl,out,rfl,by omega⟩
  |false=>
   simp only[go1,crows_len,hc];refine for_s on (fun i (l:List BA)=>[.int .i64 (i:Int), .int .i64 k, .sl 1 (srows ns), .int .i64 o, .sl 2 (crows ar), .sl 1 (irows it), .int .i64 nd, .bool false, .str ev, .int .i64 ec, .sl 2 (crows on), .sl 1 (srows l)]) (fun i l=>l.length<=2001+i) (l) (by simp;try omega) (by simp[srows]) (fun i l x hx hI hil=> ?_) (fun l hI=> ?_)
   ·have hf:=fitsR (srows l) [[.str x.1]] 16 (by rw[srows_len];simp only[List.length_cons,List.length_nil];omega)
    simp only[go1,Nat.reduceAdd]at hf;simp only[go1,crows_len,ilt_at hil,inr_at hil,crow_at hx,hf,wrap_succ hil (by omega)]
    exact⟨_,rfl,l++[x.1],by rw[srows_snoc];rfl,by simp;omega⟩
   ·simp only[go1,crows_len,ilt_self];refine for_s l (fun i (out:List BA)=>[.int .i64 (i:Int), .sl 1 (srows l), .sl 1 (srows out)]) (fun i out=>out.length<=i) [] (by simp) rfl (fun i out x hx hI2 hil=> ?_) (fun out hI2=> ?_)
    ·have hf:=fitsR (srows out) [[.str x]] 16 (by rw[srows_len];simp only[List.length_cons,List.length_nil];omega)
     simp only[go1,Nat.reduceAdd,srows_len]at hf;simp only[go1,srows_len,ilt_at hil,inr_at hil,Int.toNat_natCast,srown_at hx,hf,wrap_succ hil (by omega)]
     exact ex_bif (fun _=>⟨_,rfl,out++[x],by rw[srows_snoc];rfl,by simp;omega⟩) fun _=>⟨_,rfl,out,rfl,by omega⟩
    ·simp only[go1,srows_len,ilt_self];exact⟨_,rfl,out,rfl,by omega⟩
section
variable {f : Fl} (hel : f.eqs.length <= 1000000) (hsz : ∀ q ∈ f.eqs, q.ns.length <= 1000 /\ q.ar.length <= 2000 /\ q.on.length <= 6000)
include hel hsz
theorem x_dwaits (pl:List Bool)(hpl:pl.length=f.eqs.length)(s:BA): ∃p,cF 185 [fV f, .d (.sl 1 (brows pl)), .d (.str s)]=some p/\BoolQ (fun _=>True) p:=by
 refine cOfP (by kernel_rfl) rfl ?_
 rw[g185_eq];simp only[g185,go1,oF,Nat.reduceAdd];refine for_s f.eqs (fun i (_:Unit)=>[.sl 1 (brows pl), .str s, .int .i64 (i:Int), .str f.n, .sl 5 (vrows f.ins), .sl 5 (vrows f.outs), .sl 5 (vrows f.vars), .sl 10 (prows f.eqs)]) (fun _ _=>True) () trivial rfl (fun i _ x hx _ hil=> ?_) (fun _ _=> ?_)
 ·have hnl:=(hsz x (List.mem_of_getElem? hx)).1;have hip:i < pl.length:=by omega
  have e1:sy.cell (sy.skip 1 [D.int .i64 x.k, .sl 1 (srows x.ns), .int .i64 x.o, .sl 2 (crows x.ar), .sl 1 (irows x.it), .int .i64 x.nd, .bool x.rs, .str x.ev, .int .i64 x.ec, .sl 2 (crows x.on)]) 0=some (.sl 1 (srows x.ns)):=rfl;simp only[go1,prows_len,ilt_at hil];refine for_s x.ns (fun j (_:Unit)=>[.sl 1 (brows pl), .str s, .int .i64 (i:Int), .int .i64 (j:Int), .str f.n, .sl 5 (vrows f.ins), .sl 5 (vrows f.outs), .sl 5 (vrows f.vars), .sl 10 (prows f.eqs)]) (fun _ _=>True) () trivial rfl (fun j _ y hy _ hjl=> ?_) (fun _ _=> ?_)
  ·simp only[go1,prows_len,inr_at hil,prow_at hx,e1,srows_len,ilt_at hjl,inr_at hjl,srows_at hy,brows_len,inr_at hip,brow_at (List.getElem?_eq_getElem hip),seq_tb,wrap_succ hjl (by omega)]
   exact ex_bif (fun _=>⟨_,rfl,_,rfl,trivial⟩) fun _=>⟨_,rfl,(),rfl⟩
  ·simp only[go1,prows_len,inr_at hil,prow_at hx,e1,srows_len,ilt_self,wrap_succ hil (by omega)]
   exact⟨_,rfl,(),rfl⟩
 ·simp only[go1,prows_len,ilt_self];exact⟨_,rfl,_,rfl,trivial⟩
theorem x_dready (pl:List Bool)(hpl:pl.length=f.eqs.length){i:Nat}(hi:i < f.eqs.length): ∃p,cF 145 [fV f, .d (.sl 1 (brows pl)), .d (.int .i64 (i:Int))]=some p/\BoolQ (fun b=>b=true->pl[i]? =some false) p:=by
 have hx:=List.getElem?_eq_getElem hi;have hz:=hsz _ (List.getElem_mem hi);obtain⟨_,h1,l,rfl,hl⟩:=x_dReads f.eqs[i] hz.2.1 hz.2.2;have hip:i < pl.length:=by omega
 have hpi:=List.getElem?_eq_getElem hip;refine cOfP (by kernel_rfl) rfl ?_
 rw[g145_eq];simp only[g145,go1,oF,oP,Nat.reduceAdd,prows_len,inr_at hi,prow_at hx,h1];refine for_at 3 l rfl (fun j y hy hjl=> ?_) ?_
 ·obtain⟨_,h2,b,rfl, -⟩:=x_dwaits hel hsz pl hpl y;simp only[go1,List.set,srows_len,ilt_at hjl,inr_at hjl,srows_at hy,h2,wrap_succ hjl (by omega)]
  exact ex_bif (fun _=>⟨_,rfl,_,rfl,fun h=>by cases h⟩) fun _=>⟨_,rfl,rfl⟩
 ·simp only[go1,List.set,srows_len,ilt_self,brows_len,inr_at hip,brow_at hpi];exact⟨_,rfl,_,rfl,fun h=>by rw[hpi];simpa using h⟩
def OrdQ (n:Nat)(p:PRes):Prop:= ∃(l:List Nat) (b:Bool),p= .val [.sl 1 (irows (nats l)), .bool b]/\l.Nodup/\(∀i∈l,i < n)/\l.length<=n
theorem x_dOrder: ∃p,cF 93 [fV f]=some p/\OrdQ f.eqs.length p:=by
 have hmk:decide (0<=(f.eqs.length:Int))=true:=decT (by omega)
 refine cOfP (by kernel_rfl) rfl ?_
 rw[g93_eq];simp only[g93,go1,oF,eq_self,Nat.reduceAdd,prows_len];refine ex_bif (fun _=> ?_) fun hk=> ?_
 ·refine while_s (fun x:List Bool × List Nat=>[.str f.n, .sl 5 (vrows f.ins), .sl 5 (vrows f.outs), .sl 5 (vrows f.vars), .sl 10 (prows f.eqs), .sl 1 (brows x.1), .sl 1 (irows (nats x.2))]) (fun x=>x.1.length=f.eqs.length/\x.2.length<=f.eqs.length/\x.2.Nodup/\ ∀i∈x.2,x.1[i]? =some true) (fun x=>f.eqs.length - x.2.length) (List.replicate f.eqs.length false,[]) (by simp) (by simp[brows,brow,irows,nats]) (fun x hI=> ?_)
  obtain⟨pl,out⟩:=x;obtain⟨I1,I2,I3,I4⟩:=hI;simp only at I1 I2 I3 I4;have hlt': ∀i∈out,i < f.eqs.length:=fun i hi=>by rw[<-I1];exact(List.getElem?_eq_some_iff.1 (I4 i hi)).1
  have e2:(irows (nats out)).length=out.length:=by rw[irows_len];unfold nats;rw[List.length_map]
  by_cases hlt:out.length < f.eqs.length
  ·simp only[go1,prows_len,e2,ilt_at hlt];refine while_s (fun y:Int × Nat=>[.int .i64 y.1, .int .i64 (y.2:Int), .str f.n, .sl 5 (vrows f.ins), .sl 5 (vrows f.outs), .sl 5 (vrows f.vars), .sl 10 (prows f.eqs), .sl 1 (brows pl), .sl 1 (irows (nats out))]) (fun y=> -1<=y.1/\y.2<=f.eqs.length/\(0<=y.1->pl[y.1.toNat]? =some false)) (fun y=>f.eqs.length - y.2) (-1,0) (by simp) rfl (fun y hJ=> ?_)
   obtain⟨at_,i⟩:=y;obtain⟨J1,J2,J3⟩:=hJ;simp only at J1 J2 J3;cases hc:(decide ((i:Int) < (f.eqs.length:Int))&&decide (at_ < 0))with
   |true=>
    have hil:i < f.eqs.length:=by
     rw[Bool.and_eq_true,decide_eq_true_eq]at hc;omega
    obtain⟨_,h2,b,rfl,hb⟩:=x_dready hel hsz pl I1 hil;simp only[go1,prows_len,hc,h2,wrap_succ hil (by omega)]
    cases b with
    |true=>exact⟨_,rfl,((i:Int),i+1),rfl,⟨by simp only;omega,by simp only;omega,fun _=>by simp only[Int.toNat_natCast];exact hb rfl⟩,by simp only;omega⟩
    |false=>exact⟨_,rfl,(at_,i+1),rfl,⟨J1,by simp only;omega,J3⟩,by simp only;omega⟩
   |false=>
    simp only[go1,prows_len,hc];refine ex_bif (fun _=>⟨_,rfl,out,false,rfl,I3,hlt',I2⟩) fun ha=> ?_
    have ha:=of_decide_eq_false ha;obtain⟨j,rfl⟩:=Int.eq_ofNat_of_zero_le (show 0<=at_ by omega)
    have hpj:=J3 (by omega)
    rw[Int.toNat_natCast]at hpj;have hjl:j < pl.length:=(List.getElem?_eq_some_iff.1 hpj).1;have hf:=fitsR (irows (nats out)) [[.int .i64 (j:Int)]] 8 (by rw[e2];simp only[List.length_cons,List.length_nil];omega)
    simp only[go1,Nat.reduceAdd]at hf;simp only[go1,brows_len,inr_at hjl,Int.toNat_natCast,decT hjl,hf,brows_put hjl];refine⟨_,rfl,(pl.set j true,out++[j]),by simp[irows,irow,nats],⟨by simp[I1],by simp;omega,?_,fun i hi=> ?_⟩,by simp;omega⟩
    ·refine List.nodup_append.2 ⟨I3,by simp,fun a hao b hb e=> ?_⟩
     simp at hb;subst hb;subst e;rw[I4 _ hao]at hpj;cases hpj
    ·rcases List.mem_append.1 hi with hi|hi
     ·have:=I4 i hi;have hne:j≠i:=fun e=>by subst e;rw[this]at hpj;cases hpj
      simp only[List.getElem?_set_ne hne];exact this
     ·simp at hi;subst hi;simp[hjl]
  ·have e:decide ((out.length:Int) < (f.eqs.length:Int))=false:=decF (by omega)
   simp only[go1,prows_len,e2,e];exact⟨_,rfl,out,true,rfl,I3,hlt',I2⟩
 ·exfalso;have:decide ((0:Int)<=(f.eqs.length:Int))=true:=decT (by omega)
  simp at hk;omega
end
def FlwQ (R:Fl->Prop)(p:PRes):Prop:=(∃d,p= .val (d++[.bool false])/\d= [.str (bs []), .sl 5 [], .sl 5 [], .sl 5 [], .sl 10 []])\/ ∃f,p= .val (frow f++[.bool true])/\R f
def q0:Pq:=⟨0,[],0,[],[],0,false,bs [],0,[]⟩
theorem x_dFlow {ens:List En}{i:Nat}{f:Fl}(h:FOK ens i f): ∃p,cF 49 [fV f]=some p/\FlwQ (FOK ens i) p:=by
 obtain⟨_,h1,l,b,rfl,hnd,hlt,hll⟩:=x_dOrder h.el h.sz;have hel:=h.el;cases b with
 |false=>
  refine cOfP (by kernel_rfl) rfl ?_
  rw[g49_eq];simp only[g49,go1,oF,oP,Nat.reduceAdd,h1];exact⟨_,rfl, .inl ⟨_,rfl,rfl⟩⟩
 |true=>
  refine cOfP (by kernel_rfl) rfl ?_
  rw[g49_eq];simp only[g49,go1,oF,oP,Nat.reduceAdd,h1];refine for_s l (fun j (acc:List Pq)=>[.sl 1 (irows (nats l)), .int .i64 (j:Int), .str f.n, .sl 5 (vrows f.ins), .sl 5 (vrows f.outs), .sl 5 (vrows f.vars), .sl 10 (prows f.eqs), .str (bs []), .sl 10 (prows acc)]) (fun j acc=>acc=(l.take j).map fun i=>f.eqs.getD i q0) [] (by simp) rfl (fun j acc x hx hI hjl=> ?_) (fun acc hI=> ?_)
  ·have hxl:x < f.eqs.length:=hlt x (List.mem_of_getElem? hx);have hq:=List.getElem?_eq_getElem hxl;have hal:acc.length<=1000000:=by rw[hI,List.length_map,List.length_take];omega
   have e2:(irows (nats l)).length=l.length:=by rw[irows_len];unfold nats;rw[List.length_map]
   have hxr:(nats l)[j]? =some (x:Int):=by unfold nats;rw[List.getElem?_map,hx];rfl
   generalize hqe:f.eqs[x]=q at hq;have hf:=fitsR (prows acc) [[.int .i64 q.k, .sl 1 (srows q.ns), .int .i64 q.o, .sl 2 (crows q.ar), .sl 1 (irows q.it), .int .i64 q.nd, .bool q.rs, .str q.ev, .int .i64 q.ec, .sl 2 (crows q.on)]] 152 (by rw[prows_len];simp only[List.length_cons,List.length_nil];omega)
   simp only[go1,Nat.reduceAdd,prows_len]at hf;simp only[go1,e2,ilt_at hjl,inr_at hjl,irow_at hxr,prows_len,inr_at hxl,prow_at hq,hf,wrap_succ hjl (by omega)]
   refine⟨_,rfl,acc++[q],by simp[prows,prow],?_⟩
   rw[List.take_add_one,hx,List.map_append,<-hI,Option.toList_some];simp[List.getD_eq_getElem?_getD,hq]
  ·have e2:(irows (nats l)).length=l.length:=by rw[irows_len];unfold nats;rw[List.length_map]
   simp only[go1,e2,ilt_self];rw[List.take_length]at hI;subst hI;have hm: ∀q∈l.map (fun i=>f.eqs.getD i q0),q∈f.eqs:=fun q hq=>by
    obtain⟨x,hx,rfl⟩:=List.mem_map.1 hq;have hxl:=hlt x hx;rw[List.getD_eq_getElem?_getD,List.getElem?_eq_getElem hxl];exact List.getElem_mem hxl
   refine⟨_,rfl, .inr ⟨⟨f.n,f.ins,f.outs,f.vars,l.map fun i=>f.eqs.getD i q0⟩,rfl,⟨fun q hq=>h.ok.ne q (hm q hq),fun q hq=>h.ok.hd q (hm q hq),fun q hq=>h.ok.call q (hm q hq),fun q hq=>h.ok.fby q (hm q hq),?_⟩,h.al,by simp only[List.length_map];omega,fun q hq=>h.sz q (hm q hq)⟩⟩
   show((l.map fun i=>f.eqs.getD i q0).map fun q=>tb q.hd).Nodup
   rw[List.map_map];refine List.pairwise_map.2 (hnd.imp_of_mem fun {a b} ha hb hab e=>hab ?_)
   have ha':=hlt a ha;have hb':=hlt b hb;simp only[Function.comp_apply,List.getD_eq_getElem?_getD,List.getElem?_eq_getElem ha',List.getElem?_eq_getElem hb',Option.getD_some]at e;have hn:=h.ok.nd;have hA:a < (f.eqs.map fun q=>tb q.hd).length:=by rw[List.length_map];exact ha'
   have hB:b < (f.eqs.map fun q=>tb q.hd).length:=by rw[List.length_map];exact hb'
   rcases Nat.lt_trichotomy a b with hl|hl|hl
   ·exact absurd (by simpa using e) (List.pairwise_iff_getElem.1 hn a b hA hB hl)
   ·exact hl
   ·exact absurd (by simpa using e.symm) (List.pairwise_iff_getElem.1 hn b a hB hA hl)
theorem x_dFlows {ens:List En}{nds:List Nd}(hp:PB ens nds)(hc0:ChkH ens nds): ∃p,cF 20 [pV ens nds]=some p/\(p= .val [.sl 2 [], .sl 5 [], .bool false]\/ ∃fls:List Fl,p= .val [.sl 2 (erows ens), .sl 5 (frows fls), .bool true]/\(fls.length=nds.length/\0 < fls.length)/\ ∀i f,fls[i]? =some f->FOK ens i f):=by
 obtain⟨_,h1,rfl|⟨fls,rfl,⟨hl,hl0⟩,hF⟩⟩:=x_Flows hp hc0
 ·refine cOfP (by kernel_rfl) rfl ?_
  rw[g20_eq];simp only[g20,go1,oF,Nat.reduceAdd,h1];exact⟨_,rfl, .inl rfl⟩
 ·have hnl:=hp.nl;refine cOfP (by kernel_rfl) rfl ?_
  rw[g20_eq];simp only[g20,go1,oF,Nat.reduceAdd,h1];refine for_s fls (fun i (acc:List Fl)=>[.int .i64 (i:Int), .sl 2 (erows ens), .sl 5 (frows fls), .sl 2 (erows ens), .sl 5 (frows acc)]) (fun i acc=>acc.length=i/\ ∀j f,acc[j]? =some f->FOK ens j f) [] ⟨rfl,fun i f h=>by simp at h⟩ rfl (fun i acc f hf hI hil=> ?_) (fun acc hI=> ?_)
  ·obtain⟨I1,I2⟩:=hI;obtain⟨_,h2,⟨_,rfl,rfl⟩|⟨f',rfl,hf'⟩⟩:=x_dFlow (hF i f hf)
   ·simp only[List.cons_append,List.nil_append]at h2;simp only[go1,frows_len,ilt_at hil,inr_at hil,frow_at hf,h2];exact⟨_,rfl, .inl rfl⟩
   ·have hft:=fitsR (frows acc) [[.str f'.n, .sl 5 (vrows f'.ins), .sl 5 (vrows f'.outs), .sl 5 (vrows f'.vars), .sl 10 (prows f'.eqs)]] 112 (by rw[frows_len];simp only[List.length_cons,List.length_nil];omega)
    simp only[go1,Nat.reduceAdd,frows_len]at hft;simp only[frow,List.cons_append,List.nil_append]at h2;simp only[go1,frows_len,ilt_at hil,inr_at hil,frow_at hf,h2,hft,wrap_succ hil (by omega)]
    refine⟨_,rfl,acc++[f'],by simp[frows,frow],by simp[I1],fun j g hg=> ?_⟩
    rcases Nat.lt_or_ge j acc.length with hlt|hge
    ·rw[List.getElem?_append_left hlt]at hg;exact I2 j g hg
    ·rw[List.getElem?_append_right hge]at hg;have hj0:j=acc.length:=by
      rcases Nat.eq_or_lt_of_le hge with h|h
      ·exact h.symm
      ·rw[List.getElem?_eq_none (by simp;omega)]at hg
       cases hg
     subst hj0;simp at hg;subst hg;rw[I1];exact hf'
  ·obtain⟨I1,I2⟩:=hI;simp only[go1,frows_len,ilt_self];exact⟨_,rfl, .inr ⟨acc,rfl,⟨by omega,by omega⟩,I2⟩⟩
end Go.Vm
end
section
set_option maxRecDepth 1000000
set_option maxHeartbeats 0
namespace Go.Vm
open Go.Proofs
noncomputable section
def g94 (A:Sy)(E:Env)(q_0:Int)(q_1:LL)(q_2:Int)(q_3 q_4:LL)(q_5:Int)(q_6:Bool)(q_7:BA)(q_8:Int)(q_9:LL)(at_:Int):Option PRes:=bif (A.ieq (A.rlen q_1) 0)then some (.val [(.bool false),(.bool false)]) else bif (A.ieq q_0 7)then bif (A.ile 0 q_5)then some (.val [(.bool (A.ieq q_0 5)),(.bool (A.ilt q_5 at_))]) else some (.val [(.bool (A.ieq q_0 5)),(.bool false)]) else some (.val [(.bool (A.ieq q_0 5)),(.bool false)])
def g94_eq (A:Sy)(E:Env)(q_0:Int)(q_1:LL)(q_2:Int)(q_3 q_4:LL)(q_5:Int)(q_6:Bool)(q_7:BA)(q_8:Int)(q_9:LL)(at_:Int):fT A E 94 [.agg [.d (.int .i64 q_0),V.d (.sl 1 q_1),V.d (.int .i64 q_2),V.d (.sl 2 q_3),V.d (.sl 1 q_4),V.d (.int .i64 q_5),V.d (.bool q_6),V.d (.str q_7),V.d (.int .i64 q_8),V.d (.sl 2 q_9)],V.d (.int .i64 at_)]=g94 A E q_0 q_1 q_2 q_3 q_4 q_5 q_6 q_7 q_8 q_9 at_:=by kernel_rfl
def g95 (A:Sy)(E:Env)(n_:Int):Option PRes:=some (.val [(.int .i64 (A.imin n_ 1000))])
def g95_eq (A:Sy)(E:Env)(n_:Int):fT A E 95 [.d (.int .i64 n_)]=g95 A E n_:=by kernel_rfl
def g50 (A:Sy)(E:Env)(l_0 l_1:LL)(at_:Int):Option PRes:=cutO (bif (A.ilt at_ 0)then some (.inl [(.bool true)]) else some (.inl [(.bool (A.ile (A.rlen l_1) at_))])) fun ds1=>(opB (A.cell ds1 0)).bind fun b2=>bif b2 then some (.val [(.int .i64 0),(.int .i64 0)]) else E.lp (fun ds3=>(opI (A.cell ds3 0) .i64).bind fun n4=>(opI (A.cell ds3 1) .i64).bind fun n5=>(opL (A.cell ds3 2) 2).bind fun l6=>(opL (A.cell ds3 3) 5).bind fun l7=>(opL (A.cell ds3 4) 1).bind fun l8=>(opL (A.cell ds3 5) 1).bind fun l9=>bif (A.ile n5 n4)then E.lp (fun ds10=>(opI (A.cell ds10 0) .i64).bind fun n11=>(opI (A.cell ds10 1) .i64).bind fun n12=>(opI (A.cell ds10 2) .i64).bind fun n13=>(opI (A.cell ds10 3) .i64).bind fun n14=>(opI (A.cell ds10 4) .i64).bind fun n15=>(opL (A.cell ds10 5) 2).bind fun l16=>(opL (A.cell ds10 6) 5).bind fun l17=>(opL (A.cell ds10 7) 1).bind fun l18=>(opL (A.cell ds10 8) 1).bind fun l19=>bif (A.inr n12 (A.rlen l17))then (opL (A.cell (A.skip 4 (A.row l17 n12)) 0) 10).bind fun l20=>bif (A.ilt n15 (A.rlen l20))then bif (A.inr n12 (A.rlen l17))then (opL (A.cell (A.skip 4 (A.row l17 n12)) 0) 10).bind fun l21=>bif (A.inr n15 (A.rlen l21))then oP A (A.row l21 n15) 0 fun n22 l23 n24 l25 l26 n27 b28 s29 n30 l31=>(E.call 94 [(kQ n22 l23 n24 l25 l26 n27 b28 s29 n30 l31),(.d (.int .i64 n12))]).bind fun p32=>(opB (A.cell p32.leaves 0)).bind fun b34=>(opB (A.cell p32.leaves 1)).bind fun b35=>bif b34 then (E.call 95 [(.d (.int .i64 (A.wrap .i64 (A.add n13 1))))]).bind fun p36=>(opI (A.cell p36.leaves 0) .i64).bind fun n38=>bif b35 then bif (A.inr n27 (A.rlen l18))then (opI (A.cell (A.rown l18 (A.nat n27)) 0) .i64).bind fun n39=>(E.call 95 [(.d (.int .i64 (A.wrap .i64 (A.add n38 n39))))]).bind fun p40=>(opI (A.cell p40.leaves 0) .i64).bind fun n42=>bif (A.inr n27 (A.rlen l19))then (opI (A.cell (A.rown l19 (A.nat n27)) 0) .i64).bind fun n43=>(E.call 95 [(.d (.int .i64 (A.wrap .i64 (A.add n14 n43))))]).bind fun p44=>(opI (A.cell p44.leaves 0) .i64).bind fun n46=>some (.inl [(.int .i64 n11),(.int .i64 n12),(.int .i64 n42),(.int .i64 n46),(.int .i64 (A.wrap .i64 (A.add n15 1))),(.sl 2 l16),(.sl 5 l17),(.sl 1 l18),(.sl 1 l19)]) else none else none else some (.inl [(.int .i64 n11),(.int .i64 n12),(.int .i64 n38),(.int .i64 n14),(.int .i64 (A.wrap .i64 (A.add n15 1))),(.sl 2 l16),(.sl 5 l17),(.sl 1 l18),(.sl 1 l19)]) else bif b35 then bif (A.inr n27 (A.rlen l18))then (opI (A.cell (A.rown l18 (A.nat n27)) 0) .i64).bind fun n47=>(E.call 95 [(.d (.int .i64 (A.wrap .i64 (A.add n13 n47))))]).bind fun p48=>(opI (A.cell p48.leaves 0) .i64).bind fun n50=>bif (A.inr n27 (A.rlen l19))then (opI (A.cell (A.rown l19 (A.nat n27)) 0) .i64).bind fun n51=>(E.call 95 [(.d (.int .i64 (A.wrap .i64 (A.add n14 n51))))]).bind fun p52=>(opI (A.cell p52.leaves 0) .i64).bind fun n54=>some (.inl [(.int .i64 n11),(.int .i64 n12),(.int .i64 n50),(.int .i64 n54),(.int .i64 (A.wrap .i64 (A.add n15 1))),(.sl 2 l16),(.sl 5 l17),(.sl 1 l18),(.sl 1 l19)]) else none else none else some (.inl [(.int .i64 n11),(.int .i64 n12),(.int .i64 n13),(.int .i64 n14),(.int .i64 (A.wrap .i64 (A.add n15 1))),(.sl 2 l16),(.sl 5 l17),(.sl 1 l18),(.sl 1 l19)]) else none else none else bif (A.fits l18 [[(.int .i64 n13)]] 8)then bif (A.fits l19 [[(.int .i64 n14)]] 8)then some (.inr (.inl [(.int .i64 n11),(.int .i64 (A.wrap .i64 (A.add n12 1))),(.sl 2 l16),(.sl 5 l17),(.sl 1 (A.rapp l18 [[(.int .i64 n13)]])),(.sl 1 (A.rapp l19 [[(.int .i64 n14)]]))])) else none else none else none) [(.int .i64 n4),(.int .i64 n5),(.int .i64 0),(.int .i64 1),(.int .i64 0),(.sl 2 l6),(.sl 5 l7),(.sl 1 l8),(.sl 1 l9)] else bif (A.inr n4 (A.rlen l8))then (opI (A.cell (A.rown l8 (A.nat n4)) 0) .i64).bind fun n55=>bif (A.inr n4 (A.rlen l9))then (opI (A.cell (A.rown l9 (A.nat n4)) 0) .i64).bind fun n56=>some (.inr (.val [(.int .i64 n55),(.int .i64 n56)])) else none else none) [(.int .i64 at_),(.int .i64 0),(.sl 2 l_0),(.sl 5 l_1),(.sl 1 []),(.sl 1 [])]
def g50_eq (A:Sy)(E:Env)(l_0 l_1:LL)(at_:Int):fT A E 50 [.agg [.d (.sl 2 l_0),V.d (.sl 5 l_1)],V.d (.int .i64 at_)]=g50 A E l_0 l_1 at_:=by kernel_rfl
def g51 (A:Sy)(E:Env)(l_0 l_1:LL)(at_:Int):Option PRes:=bif (A.inr at_ (A.rlen l_1))then oF A (A.row l_1 at_) 0 fun s1 l2 l3 l4 l5=>E.lp (fun ds6=>(opI (A.cell ds6 0) .i64).bind fun n7=>(opI (A.cell ds6 1) .i64).bind fun n8=>(opL (A.cell ds6 2) 2).bind fun l9=>(opL (A.cell ds6 3) 5).bind fun l10=>(opL (A.cell ds6 4) 2).bind fun l11=>oF A ds6 5 fun s12 l13 l14 l15 l16=>bif (A.ilt n8 (A.rlen l16))then bif (A.inr n8 (A.rlen l16))then oP A (A.row l16 n8) 0 fun n17 l18 n19 l20 l21 n22 b23 s24 n25 l26=>(E.call 94 [(kQ n17 l18 n19 l20 l21 n22 b23 s24 n25 l26),(.d (.int .i64 n7))]).bind fun p27=>(opB (A.cell p27.leaves 0)).bind fun b29=>(opB (A.cell p27.leaves 1)).bind fun b30=>bif b29 then bif (A.inr n8 (A.rlen l16))then (opL (A.cell (A.skip 1 (A.row l16 n8)) 0) 1).bind fun l31=>bif (A.inr 0 (A.rlen l31))then (opS (A.cell (A.row l31 0) 0)).bind fun s32=>bif (A.inr n8 (A.rlen l16))then (opL (A.cell (A.skip 4 (A.row l16 n8)) 0) 1).bind fun l33=>bif (A.fits l11 [[(.str s32),(.sl 1 l33)]] 40)then some (.inl [(.int .i64 n7),(.int .i64 (A.wrap .i64 (A.add n8 1))),(.sl 2 l9),(.sl 5 l10),(.sl 2 (A.rapp l11 [[(.str s32),(.sl 1 l33)]])),(.str s12),(.sl 5 l13),(.sl 5 l14),(.sl 5 l15),(.sl 10 l16)]) else none else none else none else none else some (.inl [(.int .i64 n7),(.int .i64 (A.wrap .i64 (A.add n8 1))),(.sl 2 l9),(.sl 5 l10),(.sl 2 l11),(.str s12),(.sl 5 l13),(.sl 5 l14),(.sl 5 l15),(.sl 10 l16)]) else none else E.lp (fun ds34=>(opI (A.cell ds34 0) .i64).bind fun n35=>(opI (A.cell ds34 1) .i64).bind fun n36=>(opL (A.cell ds34 2) 2).bind fun l37=>(opL (A.cell ds34 3) 5).bind fun l38=>(opL (A.cell ds34 4) 2).bind fun l39=>oF A ds34 5 fun s40 l41 l42 l43 l44=>bif (A.ilt n36 (A.rlen l44))then bif (A.inr n36 (A.rlen l44))then oP A (A.row l44 n36) 0 fun n45 l46 n47 l48 l49 n50 b51 s52 n53 l54=>(E.call 94 [(kQ n45 l46 n47 l48 l49 n50 b51 s52 n53 l54),(.d (.int .i64 n35))]).bind fun p55=>(opB (A.cell p55.leaves 0)).bind fun b57=>(opB (A.cell p55.leaves 1)).bind fun b58=>bif (A.bnot b58)then some (.inl [(.int .i64 n35),(.int .i64 (A.wrap .i64 (A.add n36 1))),(.sl 2 l37),(.sl 5 l38),(.sl 2 l39),(.str s40),(.sl 5 l41),(.sl 5 l42),(.sl 5 l43),(.sl 10 l44)]) else bif (A.inr n36 (A.rlen l44))then (opI (A.cell (A.skip 5 (A.row l44 n36)) 0) .i64).bind fun n59=>(E.call 51 [(.agg [(.d (.sl 2 l37)),(.d (.sl 5 l38))]),(.d (.int .i64 n59))]).bind fun p60=>(opL (A.cell p60.leaves 0) 2).bind fun l62=>E.lp (fun ds63=>(opI (A.cell ds63 0) .i64).bind fun n64=>(opI (A.cell ds63 1) .i64).bind fun n65=>(opL (A.cell ds63 2) 2).bind fun l66=>(opI (A.cell ds63 3) .i64).bind fun n67=>(opL (A.cell ds63 4) 2).bind fun l68=>(opL (A.cell ds63 5) 5).bind fun l69=>(opL (A.cell ds63 6) 2).bind fun l70=>oF A ds63 7 fun s71 l72 l73 l74 l75=>bif (A.ilt n67 (A.rlen l66))then bif (A.inr n65 (A.rlen l75))then (opL (A.cell (A.skip 1 (A.row l75 n65)) 0) 1).bind fun l76=>bif (A.inr 0 (A.rlen l76))then (opS (A.cell (A.row l76 0) 0)).bind fun s77=>bif (A.sfit s77 (bs [47]))then bif (A.inr n67 (A.rlen l66))then (opS (A.cell (A.row l66 n67) 0)).bind fun s78=>bif (A.sfit (A.sapp s77 (bs [47])) s78)then bif (A.inr n67 (A.rlen l66))then (opL (A.cell (A.skip 1 (A.row l66 n67)) 0) 1).bind fun l79=>bif (A.fits l70 [[(.str (A.sapp (A.sapp s77 (bs [47])) s78)),(.sl 1 l79)]] 40)then some (.inl [(.int .i64 n64),(.int .i64 n65),(.sl 2 l66),(.int .i64 (A.wrap .i64 (A.add n67 1))),(.sl 2 l68),(.sl 5 l69),(.sl 2 (A.rapp l70 [[(.str (A.sapp (A.sapp s77 (bs [47])) s78)),(.sl 1 l79)]])),(.str s71),(.sl 5 l72),(.sl 5 l73),(.sl 5 l74),(.sl 10 l75)]) else none else none else none else none else none else none else none else some (.inr (.inl [(.int .i64 n64),(.int .i64 (A.wrap .i64 (A.add n65 1))),(.sl 2 l68),(.sl 5 l69),(.sl 2 l70),(.str s71),(.sl 5 l72),(.sl 5 l73),(.sl 5 l74),(.sl 10 l75)]))) [(.int .i64 n35),(.int .i64 n36),(.sl 2 l62),(.int .i64 0),(.sl 2 l37),(.sl 5 l38),(.sl 2 l39),(.str s40),(.sl 5 l41),(.sl 5 l42),(.sl 5 l43),(.sl 10 l44)] else none else none else some (.inr (.inr (.own 67 2 l39)))) [(.int .i64 n7),(.int .i64 0),(.sl 2 l9),(.sl 5 l10),(.sl 2 l11),(.str s12),(.sl 5 l13),(.sl 5 l14),(.sl 5 l15),(.sl 10 l16)]
 ) [(.int .i64 at_),(.int .i64 0),(.sl 2 l_0),(.sl 5 l_1),(.sl 2 []),(.str s1),(.sl 5 l2),(.sl 5 l3),(.sl 5 l4),(.sl 10 l5)] else none
def g51_eq (A:Sy)(E:Env)(l_0 l_1:LL)(at_:Int):fT A E 51 [.agg [.d (.sl 2 l_0),V.d (.sl 5 l_1)],V.d (.int .i64 at_)]=g51 A E l_0 l_1 at_:=by kernel_rfl
def g21 (A:Sy)(E:Env)(l_0 l_1:LL)(at_:Int):Option PRes:=(E.call 50 [(.agg [(.d (.sl 2 l_0)),(.d (.sl 5 l_1))]),(.d (.int .i64 at_))]).bind fun p1=>(opI (A.cell p1.leaves 0) .i64).bind fun n3=>(opI (A.cell p1.leaves 1) .i64).bind fun n4=>cutO (bif (A.ieq n4 0)then some (.inl [(.bool true)]) else some (.inl [(.bool (A.ilt 120 n3))])) fun ds5=>(opB (A.cell ds5 0)).bind fun b6=>cutO (bif b6 then some (.inl [(.bool true)]) else some (.inl [(.bool (A.ilt 120 n4))])) fun ds7=>(opB (A.cell ds7 0)).bind fun b8=>bif b8 then some (.val [(.sl 2 []),(.bool false)]) else (E.call 51 [(.agg [(.d (.sl 2 l_0)),(.d (.sl 5 l_1))]),(.d (.int .i64 at_))]).bind fun p9=>(opL (A.cell p9.leaves 0) 2).bind fun l11=>some (.val [(.sl 2 l11),(.bool true)])
def g21_eq (A:Sy)(E:Env)(l_0 l_1:LL)(at_:Int):fT A E 21 [.agg [.d (.sl 2 l_0),V.d (.sl 5 l_1)],V.d (.int .i64 at_)]=g21 A E l_0 l_1 at_:=by kernel_rfl
def g59 (A:Sy)(E:Env)(l_0 l_1:LL)(at_:Int):Option PRes:=bif (A.inr at_ (A.rlen l_1))then oF A (A.row l_1 at_) 0 fun s1 l2 l3 l4 l5=>E.lp (fun ds6=>(opI (A.cell ds6 0) .i64).bind fun n7=>(opL (A.cell ds6 1) 2).bind fun l8=>(opL (A.cell ds6 2) 5).bind fun l9=>(opL (A.cell ds6 3) 3).bind fun l10=>oF A ds6 4 fun s11 l12 l13 l14 l15=>bif (A.ilt n7 (A.rlen l15))then bif (A.inr n7 (A.rlen l15))then (opI (A.cell (A.row l15 n7) 0) .i64).bind fun n16=>bif (A.ieq n16 5)then bif (A.inr n7 (A.rlen l15))then (opL (A.cell (A.skip 1 (A.row l15 n7)) 0) 1).bind fun l17=>bif (A.inr 0 (A.rlen l17))then (opS (A.cell (A.row l17 0) 0)).bind fun s18=>(E.call 102 [(.agg [(.d (.str s11)),(.d (.sl 5 l12)),(.d (.sl 5 l13)),(.d (.sl 5 l14)),(.d (.sl 10 l15))]),(.d (.str s18))]).bind fun p19=>oV A p19.leaves 0 fun s21 n22 n23 n24 l25=>(opB (A.cell p19.leaves 5)).bind fun b26=>bif (A.fits l10 [[(.int .i64 n22),(.int .i64 n23),(.int .i64 n24)]] 24)then some (.inl [(.int .i64 (A.wrap .i64 (A.add n7 1))),(.sl 2 l8),(.sl 5 l9),(.sl 3 (A.rapp l10 [[(.int .i64 n22),(.int .i64 n23),(.int .i64 n24)]])),(.str s11),(.sl 5 l12),(.sl 5 l13),(.sl 5 l14),(.sl 10 l15)]) else none else none else none else some (.inl [(.int .i64 (A.wrap .i64 (A.add n7 1))),(.sl 2 l8),(.sl 5 l9),(.sl 3 l10),(.str s11),(.sl 5 l12),(.sl 5 l13),(.sl 5 l14),(.sl 10 l15)]) else none else E.lp (fun ds27=>(opI (A.cell ds27 0) .i64).bind fun n28=>(opL (A.cell ds27 1) 2).bind fun l29=>(opL (A.cell ds27 2) 5).bind fun l30=>(opL (A.cell ds27 3) 3).bind fun l31=>oF A ds27 4 fun s32 l33 l34 l35 l36=>bif (A.ilt n28 (A.rlen l36))then bif (A.inr n28 (A.rlen l36))then (opI (A.cell (A.row l36 n28) 0) .i64).bind fun n37=>bif (A.ieq n37 7)then bif (A.inr n28 (A.rlen l36))then (opI (A.cell (A.skip 5 (A.row l36 n28)) 0) .i64).bind fun n38=>(E.call 59 [(.agg [(.d (.sl 2 l29)),(.d (.sl 5 l30))]),(.d (.int .i64 n38))]).bind fun p39=>(opL (A.cell p39.leaves 0) 3).bind fun l41=>bif (A.fits l31 l41 24)then some (.inl [(.int .i64 (A.wrap .i64 (A.add n28 1))),(.sl 2 l29),(.sl 5 l30),(.sl 3 (A.rapp l31 l41)),(.str s32),(.sl 5 l33),(.sl 5 l34),(.sl 5 l35),(.sl 10 l36)]) else none else none else some (.inl [(.int .i64 (A.wrap .i64 (A.add n28 1))),(.sl 2 l29),(.sl 5 l30),(.sl 3 l31),(.str s32),(.sl 5 l33),(.sl 5 l34),(.sl 5 l35),(.sl 10 l36)]) else none else some (.inr (.inr (.own 57 3 l31)))) [(.int .i64 0),(.sl 2 l8),(.sl 5 l9),(.sl 3 l10),(.str s11),(.sl 5 l12),(.sl 5 l13),(.sl 5 l14),(.sl 10 l15)]) [(.int .i64 0),(.sl 2 l_0),(.sl 5 l_1),(.sl 3 []),(.str s1),(.sl 5 l2),(.sl 5 l3),(.sl 5 l4),(.sl 10 l5)] else none
def g59_eq (A:Sy)(E:Env)(l_0 l_1:LL)(at_:Int):fT A E 59 [.agg [.d (.sl 2 l_0),V.d (.sl 5 l_1)],V.d (.int .i64 at_)]=g59 A E l_0 l_1 at_:=by kernel_rfl
def g26 (A:Sy)(E:Env)(l_0 l_1:LL)(at_:Int):Option PRes:=(E.call 21 [(.agg [(.d (.sl 2 l_0)),(.d (.sl 5 l_1))]),(.d (.int .i64 at_))]).bind fun p1=>(opL (A.cell p1.leaves 0) 2).bind fun l3=>(opB (A.cell p1.leaves 1)).bind fun b4=>bif (A.bnot b4)then some (.val [(.sl 2 []),(.sl 3 []),(.bool false)]) else (E.call 59 [(.agg [(.d (.sl 2 l_0)),(.d (.sl 5 l_1))]),(.d (.int .i64 at_))]).bind fun p5=>(opL (A.cell p5.leaves 0) 3).bind fun l7=>some (.val [(.sl 2 l3),(.sl 3 l7),(.bool true)])
def g26_eq (A:Sy)(E:Env)(l_0 l_1:LL)(at_:Int):fT A E 26 [.agg [.d (.sl 2 l_0),V.d (.sl 5 l_1)],V.d (.int .i64 at_)]=g26 A E l_0 l_1 at_:=by kernel_rfl
def g8 (A:Sy)(E:Env)(l_0 l_1:LL):Option PRes:=(E.call 26 [(.agg [(.d (.sl 2 l_0)),(.d (.sl 5 l_1))]),(.d (.int .i64 (A.wrap .i64 (A.sub (A.rlen l_1) 1))))]).bind fun p1=>(opL (A.cell p1.leaves 0) 2).bind fun l3=>(opL (A.cell p1.leaves 1) 3).bind fun l4=>(opB (A.cell p1.leaves 2)).bind fun b5=>bif (A.bnot b5)then some (.val [(.sl 6 []),(.bool false)]) else E.lp (fun ds6=>(opL (A.cell ds6 0) 2).bind fun l7=>(opL (A.cell ds6 1) 3).bind fun l8=>(opI (A.cell ds6 2) .i64).bind fun n9=>(opI (A.cell ds6 3) .i64).bind fun n10=>(opL (A.cell ds6 4) 6).bind fun l11=>bif (A.ilt n10 (A.rlen l7))then bif (A.inr n10 (A.rlen l7))then (opS (A.cell (A.row l7 n10) 0)).bind fun s12=>bif (A.inr n10 (A.rlen l8))then (opI (A.cell (A.row l8 n10) 0) .i64).bind fun n13=>(opI (A.cell (A.row l8 n10) 1) .i64).bind fun n14=>(opI (A.cell (A.row l8 n10) 2) .i64).bind fun n15=>bif (A.inr n10 (A.rlen l7))then (opL (A.cell (A.skip 1 (A.row l7 n10)) 0) 1).bind fun l16=>bif (A.fits l11 [[(.str s12),(.int .i64 n13),(.int .i64 n14),(.int .i64 n15),(.int .i64 n9),(.sl 1 l16)]] 72)then bif (A.inr n10 (A.rlen l8))then (opI (A.cell (A.row l8 n10) 0) .i64).bind fun n17=>(opI (A.cell (A.row l8 n10) 1) .i64).bind fun n18=>(opI (A.cell (A.row l8 n10) 2) .i64).bind fun n19=>(E.call 27 [(kT n17 n18 n19)]).bind fun p20=>(opI (A.cell p20.leaves 0) .i64).bind fun n22=>some (.inl [(.sl 2 l7),(.sl 3 l8),(.int .i64 (A.wrap .i64 (A.add n9 n22))),(.int .i64 (A.wrap .i64 (A.add n10 1))),(.sl 6 (A.rapp l11 [[(.str s12),(.int .i64 n13),(.int .i64 n14),(.int .i64 n15),(.int .i64 n9),(.sl 1 l16)]]))]) else none else none else none else none else none else some (.inr (.val [(.sl 6 l11),(.bool true)]))) [(.sl 2 l3),(.sl 3 l4),(.int .i64 0),(.int .i64 0),(.sl 6 [])]
def g8_eq (A:Sy)(E:Env)(l_0 l_1:LL):fT A E 8 [.agg [.d (.sl 2 l_0),V.d (.sl 5 l_1)]]=g8 A E l_0 l_1:=by kernel_rfl
def g9 (A:Sy)(E:Env)(a_ b_:LL):Option PRes:=bif (A.bnot (A.ieq (A.rlen a_) (A.rlen b_)))then some (.val [(.bool false)]) else E.lp (fun ds1=>(opL (A.cell ds1 0) 6).bind fun l2=>(opL (A.cell ds1 1) 6).bind fun l3=>(opI (A.cell ds1 2) .i64).bind fun n4=>bif (A.ilt n4 (A.rlen l2))then bif (A.inr n4 (A.rlen l2))then (opS (A.cell (A.row l2 n4) 0)).bind fun s5=>bif (A.inr n4 (A.rlen l3))then (opS (A.cell (A.row l3 n4) 0)).bind fun s6=>bif (A.bnot (A.seq s5 s6))then some (.inr (.val [(.bool false)])) else bif (A.inr n4 (A.rlen l2))then (opI (A.cell (A.skip 1 (A.row l2 n4)) 0) .i64).bind fun n7=>(opI (A.cell (A.skip 1 (A.row l2 n4)) 1) .i64).bind fun n8=>(opI (A.cell (A.skip 1 (A.row l2 n4)) 2) .i64).bind fun n9=>bif (A.inr n4 (A.rlen l3))then (opI (A.cell (A.skip 1 (A.row l3 n4)) 0) .i64).bind fun n10=>(opI (A.cell (A.skip 1 (A.row l3 n4)) 1) .i64).bind fun n11=>(opI (A.cell (A.skip 1 (A.row l3 n4)) 2) .i64).bind fun n12=>bif (A.bnot (A.deq [(.int .i64 n7),(.int .i64 n8),(.int .i64 n9)] [(.int .i64 n10),(.int .i64 n11),(.int .i64 n12)]))then some (.inr (.val [(.bool false)])) else bif (A.inr n4 (A.rlen l2))then (opI (A.cell (A.skip 4 (A.row l2 n4)) 0) .i64).bind fun n13=>bif (A.inr n4 (A.rlen l3))then (opI (A.cell (A.skip 4 (A.row l3 n4)) 0) .i64).bind fun n14=>bif (A.bnot (A.ieq n13 n14))then some (.inr (.val [(.bool false)])) else bif (A.inr n4 (A.rlen l2))then (opL (A.cell (A.skip 5 (A.row l2 n4)) 0) 1).bind fun l15=>bif (A.inr n4 (A.rlen l3))then (opL (A.cell (A.skip 5 (A.row l3 n4)) 0) 1).bind fun l16=>(E.call 28 [(.d (.sl 1 l15)),(.d (.sl 1 l16))]).bind fun p17=>(opB (A.cell p17.leaves 0)).bind fun b19=>bif (A.bnot b19)then some (.inr (.val [(.bool false)])) else some (.inl [(.sl 6 l2),(.sl 6 l3),(.int .i64 (A.wrap .i64 (A.add n4 1)))]) else none else none else none else none else none else none else none else none else some (.inr (.val [(.bool true)]))) [(.sl 6 a_),(.sl 6 b_),(.int .i64 0)]
def g9_eq (A:Sy)(E:Env)(a_ b_:LL):fT A E 9 [.d (.sl 6 a_),V.d (.sl 6 b_)]=g9 A E a_ b_:=by kernel_rfl
def g11 (A:Sy)(E:Env)(s_:LL):Option PRes:=E.lp (fun ds1=>(opL (A.cell ds1 0) 6).bind fun l2=>(opI (A.cell ds1 1) .i64).bind fun n3=>(opI (A.cell ds1 2) .i64).bind fun n4=>bif (A.ilt n4 (A.rlen l2))then bif (A.inr n4 (A.rlen l2))then (opI (A.cell (A.skip 1 (A.row l2 n4)) 0) .i64).bind fun n5=>(opI (A.cell (A.skip 1 (A.row l2 n4)) 1) .i64).bind fun n6=>(opI (A.cell (A.skip 1 (A.row l2 n4)) 2) .i64).bind fun n7=>(E.call 27 [(kT n5 n6 n7)]).bind fun p8=>(opI (A.cell p8.leaves 0) .i64).bind fun n10=>some (.inl [(.sl 6 l2),(.int .i64 (A.wrap .i64 (A.add n3 n10))),(.int .i64 (A.wrap .i64 (A.add n4 1)))]) else none else some (.inr (.val [(.int .i64 n3)]))) [(.sl 6 s_),(.int .i64 0),(.int .i64 0)]
def g11_eq (A:Sy)(E:Env)(s_:LL):fT A E 11 [.d (.sl 6 s_)]=g11 A E s_:=by kernel_rfl
def g7 (A:Sy)(E:Env)(l_0 l_1:LL):Option PRes:=(E.call 23 [(.agg [(.d (.sl 2 l_0)),(.d (.sl 5 l_1))]),(.d (.int .i64 (A.wrap .i64 (A.sub (A.rlen l_1) 1))))]).bind fun p1=>(opL (A.cell p1.leaves 0) 2).bind fun l3=>(opB (A.cell p1.leaves 1)).bind fun b4=>bif (A.bnot b4)then some (.val [(.sl 6 []),(.bool false)]) else (E.call 25 [(.agg [(.d (.sl 2 l_0)),(.d (.sl 5 l_1))]),(.d (.int .i64 (A.wrap .i64 (A.sub (A.rlen l_1) 1))))]).bind fun p5=>(opL (A.cell p5.leaves 0) 3).bind fun l7=>E.lp (fun ds8=>(opL (A.cell ds8 0) 2).bind fun l9=>(opL (A.cell ds8 1) 3).bind fun l10=>(opI (A.cell ds8 2) .i64).bind fun n11=>(opI (A.cell ds8 3) .i64).bind fun n12=>(opL (A.cell ds8 4) 6).bind fun l13=>(opI (A.cell ds8 5) .i64).bind fun n14=>bif (A.ilt n12 n11)then bif (A.inr n12 (A.rlen l10))then (opI (A.cell (A.row l10 n12) 0) .i64).bind fun n15=>(opI (A.cell (A.row l10 n12) 1) .i64).bind fun n16=>(opI (A.cell (A.row l10 n12) 2) .i64).bind fun n17=>bif (A.inr n12 (A.rlen l9))then (opS (A.cell (A.row l9 n12) 0)).bind fun s18=>bif (A.inr n12 (A.rlen l9))then (opL (A.cell (A.skip 1 (A.row l9 n12)) 0) 1).bind fun l19=>(E.call 29 [(kT n15 n16 n17)]).bind fun p20=>(opI (A.cell p20.leaves 0) .i64).bind fun n22=>bif (A.fits l13 [[(.str s18),(.int .i64 n15),(.int .i64 n16),(.int .i64 n17),(.int .i64 n14),(.sl 1 l19)]] 72)then some (.inl [(.sl 2 l9),(.sl 3 l10),(.int .i64 n11),(.int .i64 (A.wrap .i64 (A.add n12 1))),(.sl 6 (A.rapp l13 [[(.str s18),(.int .i64 n15),(.int .i64 n16),(.int .i64 n17),(.int .i64 n14),(.sl 1 l19)]])),(.int .i64 (A.wrap .i64 (A.add n14 n22)))]) else none else none else none else none else some (.inr (.val [(.sl 6 l13),(.bool true)]))) [(.sl 2 l3),(.sl 3 l7),(.int .i64 (A.rlen l7)),(.int .i64 0),(.sl 6 []),(.int .i64 0)]
def g7_eq (A:Sy)(E:Env)(l_0 l_1:LL):fT A E 7 [.agg [.d (.sl 2 l_0),V.d (.sl 5 l_1)]]=g7 A E l_0 l_1:=by kernel_rfl
def g10 (A:Sy)(E:Env)(s_:LL):Option PRes:=E.lp (fun ds1=>(opI (A.cell ds1 0) .i64).bind fun n2=>(opL (A.cell ds1 1) 6).bind fun l3=>(opI (A.cell ds1 2) .i64).bind fun n4=>(opI (A.cell ds1 3) .i64).bind fun n5=>bif (A.ilt n5 n4)then bif (A.inr n5 (A.rlen l3))then (opS (A.cell (A.row l3 n5) 0)).bind fun s6=>(opI (A.cell (A.row l3 n5) 1) .i64).bind fun n7=>(opI (A.cell (A.row l3 n5) 2) .i64).bind fun n8=>(opI (A.cell (A.row l3 n5) 3) .i64).bind fun n9=>(opI (A.cell (A.row l3 n5) 4) .i64).bind fun n10=>(opL (A.cell (A.row l3 n5) 5) 1).bind fun l11=>(E.call 29 [(kT n7 n8 n9)]).bind fun p12=>(opI (A.cell p12.leaves 0) .i64).bind fun n14=>some (.inl [(.int .i64 (A.wrap .i64 (A.add n2 n14))),(.sl 6 l3),(.int .i64 n4),(.int .i64 (A.wrap .i64 (A.add n5 1)))]) else none else some (.inr (.val [(.int .i64 n2)]))) [(.int .i64 0),(.sl 6 s_),(.int .i64 (A.rlen s_)),(.int .i64 0)]
def g10_eq (A:Sy)(E:Env)(s_:LL):fT A E 10 [.d (.sl 6 s_)]=g10 A E s_:=by kernel_rfl
def g12 (A:Sy)(E:Env)(l_ s_:LL):Option PRes:=cutO (bif (A.ilt 120 (A.rlen s_))then some (.inl [(.bool true)]) else (E.call 10 [(.d (.sl 6 s_))]).bind fun p1=>(opI (A.cell p1.leaves 0) .i64).bind fun n3=>some (.inl [(.bool (A.ilt 1000 n3))])) fun ds4=>(opB (A.cell ds4 0)).bind fun b5=>bif b5 then some (.val [(.bool false)]) else E.lp (fun ds6=>(opL (A.cell ds6 0) 2).bind fun l7=>(opL (A.cell ds6 1) 6).bind fun l8=>(opI (A.cell ds6 2) .i64).bind fun n9=>(opI (A.cell ds6 3) .i64).bind fun n10=>(opI (A.cell ds6 4) .i64).bind fun n11=>(opL (A.cell ds6 5) 1).bind fun l12=>bif (A.ilt n10 n9)then bif (A.inr n10 (A.rlen l8))then (opS (A.cell (A.row l8 n10) 0)).bind fun s13=>(opI (A.cell (A.row l8 n10) 1) .i64).bind fun n14=>(opI (A.cell (A.row l8 n10) 2) .i64).bind fun n15=>(opI (A.cell (A.row l8 n10) 3) .i64).bind fun n16=>(opI (A.cell (A.row l8 n10) 4) .i64).bind fun n17=>(opL (A.cell (A.row l8 n10) 5) 1).bind fun l18=>(E.call 29 [(kT n14 n15 n16)]).bind fun p19=>(opI (A.cell p19.leaves 0) .i64).bind fun n21=>bif (A.bnot (A.ieq n11 n17))then some (.inr (.val [(.bool false)])) else (E.call 30 [(.d (.str s13))]).bind fun p22=>(opB (A.cell p22.leaves 0)).bind fun b24=>bif (A.bnot b24)then some (.inr (.val [(.bool false)])) else (E.call 31 [(.d (.sl 2 l7)),(kT n14 n15 n16),(.d (.sl 1 l18))]).bind fun p25=>(opB (A.cell p25.leaves 0)).bind fun b27=>bif (A.bnot b27)then some (.inr (.val [(.bool false)])) else bif (A.fits l12 [[(.str s13)]] 16)then some (.inl [(.sl 2 l7),(.sl 6 l8),(.int .i64 n9),(.int .i64 (A.wrap .i64 (A.add n10 1))),(.int .i64 (A.wrap .i64 (A.add n11 n21))),(.sl 1 (A.rapp l12 [[(.str s13)]]))]) else none else none else (E.call 32 [(.d (.sl 1 l12))]).bind fun p28=>(opB (A.cell p28.leaves 0)).bind fun b30=>some (.inr (.val [(.bool b30)]))) [(.sl 2 l_),(.sl 6 s_),(.int .i64 (A.rlen s_)),(.int .i64 0),(.int .i64 0),(.sl 1 [])]
def g12_eq (A:Sy)(E:Env)(l_ s_:LL):fT A E 12 [.d (.sl 2 l_),V.d (.sl 6 s_)]=g12 A E l_ s_:=by kernel_rfl
def g13 (A:Sy)(E:Env)(a_ b_:LL):Option PRes:=(E.call 33 [(.d (.sl 6 a_)),(.d (.sl 6 b_)),(.fn 34 [])]).bind fun p1=>(opB (A.cell p1.leaves 0)).bind fun b3=>some (.val [(.bool b3)])
def g13_eq (A:Sy)(E:Env)(a_ b_:LL):fT A E 13 [.d (.sl 6 a_),V.d (.sl 6 b_)]=g13 A E a_ b_:=by kernel_rfl
def g22 (A:Sy)(E:Env)(s_:LL)(path_:BA):Option PRes:=E.lp (fun ds1=>(opL (A.cell ds1 0) 6).bind fun l2=>(opI (A.cell ds1 1) .i64).bind fun n3=>(opI (A.cell ds1 2) .i64).bind fun n4=>(opS (A.cell ds1 3)).bind fun s5=>bif (A.ilt n4 n3)then bif (A.inr n4 (A.rlen l2))then (opS (A.cell (A.row l2 n4) 0)).bind fun s6=>(opI (A.cell (A.row l2 n4) 1) .i64).bind fun n7=>(opI (A.cell (A.row l2 n4) 2) .i64).bind fun n8=>(opI (A.cell (A.row l2 n4) 3) .i64).bind fun n9=>(opI (A.cell (A.row l2 n4) 4) .i64).bind fun n10=>(opL (A.cell (A.row l2 n4) 5) 1).bind fun l11=>bif (A.seq s6 s5)then some (.inr (.val [(.int .i64 n4)])) else some (.inl [(.sl 6 l2),(.int .i64 n3),(.int .i64 (A.wrap .i64 (A.add n4 1))),(.str s5)]) else none else some (.inr (.val [(.int .i64 (-1))]))) [(.sl 6 s_),(.int .i64 (A.rlen s_)),(.int .i64 0),(.str path_)]
def g22_eq (A:Sy)(E:Env)(s_:LL)(path_:BA):fT A E 22 [.d (.sl 6 s_),V.d (.str path_)]=g22 A E s_ path_:=by kernel_rfl
def g23 (A:Sy)(E:Env)(l_0 l_1:LL)(at_:Int):Option PRes:=(E.call 54 [(.agg [(.d (.sl 2 l_0)),(.d (.sl 5 l_1))]),(.d (.int .i64 at_))]).bind fun p1=>(opI (A.cell p1.leaves 0) .i64).bind fun n3=>(opI (A.cell p1.leaves 1) .i64).bind fun n4=>cutO (bif (A.ieq n4 0)then some (.inl [(.bool true)]) else some (.inl [(.bool (A.ilt 120 n3))])) fun ds5=>(opB (A.cell ds5 0)).bind fun b6=>cutO (bif b6 then some (.inl [(.bool true)]) else some (.inl [(.bool (A.ilt 120 n4))])) fun ds7=>(opB (A.cell ds7 0)).bind fun b8=>bif b8 then some (.val [(.sl 2 []),(.bool false)]) else (E.call 1000055 (kBe l_0 l_1 at_ (bs []) [])).bind fun p9=>(opL (A.cell p9.leaves 0) 2).bind fun l11=>some (.val [(.sl 2 l11),(.bool true)])
def g23_eq (A:Sy)(E:Env)(l_0 l_1:LL)(at_:Int):fT A E 23 [.agg [.d (.sl 2 l_0),V.d (.sl 5 l_1)],V.d (.int .i64 at_)]=g23 A E l_0 l_1 at_:=by kernel_rfl
def g54 (A:Sy)(E:Env)(l_0 l_1:LL)(at_:Int):Option PRes:=cutO (bif (A.ilt at_ 0)then some (.inl [(.bool true)]) else some (.inl [(.bool (A.ile (A.rlen l_1) at_))])) fun ds1=>(opB (A.cell ds1 0)).bind fun b2=>bif b2 then some (.val [(.int .i64 0),(.int .i64 0)]) else bif (A.mkok (A.wrap .i64 (A.add at_ 1)) (A.wrap .i64 (A.add at_ 1)) 16)then E.lp (fun ds3=>(opI (A.cell ds3 0) .i64).bind fun n4=>(opI (A.cell ds3 1) .i64).bind fun n5=>(opI (A.cell ds3 2) .i64).bind fun n6=>(opL (A.cell ds3 3) 2).bind fun l7=>(opL (A.cell ds3 4) 5).bind fun l8=>(opL (A.cell ds3 5) 2).bind fun l9=>bif (A.ilt n6 n5)then bif (A.inr n6 (A.rlen l9))then bif (A.inrn (A.nat n6) l9)then bif (A.inr n6 (A.rlen l8))then oF A (A.row l8 n6) 0 fun s10 l11 l12 l13 l14=>E.lp (fun ds15=>(opL (A.cell ds15 0) 10).bind fun l16=>(opI (A.cell ds15 1) .i64).bind fun n17=>(opI (A.cell ds15 2) .i64).bind fun n18=>(opL (A.cell ds15 3) 2).bind fun l19=>(opL (A.cell ds15 4) 5).bind fun l20=>(opL (A.cell ds15 5) 2).bind fun l21=>(opI (A.cell ds15 6) .i64).bind fun n22=>oF A ds15 7 fun s23 l24 l25 l26 l27=>(opI (A.cell ds15 12) .i64).bind fun n28=>(opI (A.cell ds15 13) .i64).bind fun n29=>(opI (A.cell ds15 14) .i64).bind fun n30=>bif (A.ilt n18 n17)then bif (A.inr n18 (A.rlen l16))then oP A (A.row l16 n18) 0 fun n31 l32 n33 l34 l35 n36 b37 s38 n39 l40=>cutO (bif (A.ieq n31 5)then some (.inl [(.bool (A.ilt 0 (A.rlen l32)))]) else some (.inl [(.bool false)])) fun ds41=>(opB (A.cell ds41 0)).bind fun b42=>bif b42 then bif (A.inr n22 (A.rlen l21))then (opI (A.cell (A.rown l21 (A.nat n22)) 0) .i64).bind fun n43=>bif (A.inr n22 (A.rlen l21))then bif (A.inrn (A.nat n22) l21)then bif (A.bnot true)then bif (A.inr n22 (A.rlen l20))then (opL (A.cell (A.skip 4 (A.row l20 n22)) 0) 10).bind fun l44=>E.lp (fun ds45=>(opL (A.cell ds45 0) 10).bind fun l46=>(opI (A.cell ds45 1) .i64).bind fun n47=>(opI (A.cell ds45 2) .i64).bind fun n48=>(opL (A.cell ds45 3) 2).bind fun l49=>(opL (A.cell ds45 4) 5).bind fun l50=>(opL (A.cell ds45 5) 2).bind fun l51=>(opI (A.cell ds45 6) .i64).bind fun n52=>oF A ds45 7 fun s53 l54 l55 l56 l57=>(opL (A.cell ds45 12) 2).bind fun l58=>(opL (A.cell ds45 13) 5).bind fun l59=>(opI (A.cell ds45 14) .i64).bind fun n60=>(opI (A.cell ds45 15) .i64).bind fun n61=>(opI (A.cell ds45 16) .i64).bind fun n62=>(opI (A.cell ds45 17) .i64).bind fun n63=>bif (A.ilt n48 n47)then bif (A.inr n48 (A.rlen l46))then oP A (A.row l46 n48) 0 fun n64 l65 n66 l67 l68 n69 b70 s71 n72 l73=>cutO (bif (A.ieq n64 7)then some (.inl [(.bool (A.ilt 0 (A.rlen l65)))]) else some (.inl [(.bool false)])) fun ds74=>(opB (A.cell ds74 0)).bind fun b75=>cutO (bif b75 then some (.inl [(.bool (A.ile 0 n69))]) else some (.inl [(.bool false)])) fun ds76=>(opB (A.cell ds76 0)).bind fun b77=>cutO (bif b77 then some (.inl [(.bool (A.ilt n69 n60))]) else some (.inl [(.bool false)])) fun ds78=>(opB (A.cell ds78 0)).bind fun b79=>bif b79 then bif (A.inr n52 (A.rlen l51))then (opI (A.cell (A.rown l51 (A.nat n52)) 0) .i64).bind fun n80=>bif (A.inr n69 (A.rlen l51))then (opI (A.cell (A.rown l51 (A.nat n69)) 0) .i64).bind fun n81=>bif (A.inr n52 (A.rlen l51))then bif (A.inrn (A.nat n52) l51)then bif (A.inr n52 (A.rlen (A.rput l51 (A.nat n52) 0 [(.int .i64 (A.imin (A.wrap .i64 (A.add n80 n81)) 1000))])))then (opI (A.cell (A.rown (A.rput l51 (A.nat n52) 0 [(.int .i64 (A.imin (A.wrap .i64 (A.add n80 n81)) 1000))]) (A.nat n52)) 1) .i64).bind fun n82=>bif (A.inr n69 (A.rlen (A.rput l51 (A.nat n52) 0 [(.int .i64 (A.imin (A.wrap .i64 (A.add n80 n81)) 1000))])))then (opI (A.cell (A.rown (A.rput l51 (A.nat n52) 0 [(.int .i64 (A.imin (A.wrap .i64 (A.add n80 n81)) 1000))]) (A.nat n69)) 1) .i64).bind fun n83=>bif (A.inr n52 (A.rlen (A.rput l51 (A.nat n52) 0 [(.int .i64 (A.imin (A.wrap .i64 (A.add n80 n81)) 1000))])))then bif (A.inrn (A.nat n52) (A.rput l51 (A.nat n52) 0 [(.int .i64 (A.imin (A.wrap .i64 (A.add n80 n81)) 1000))]))then bif (A.bnot true)then some (.inr (.inr (.inl [(.int .i64 n61),(.int .i64 n62),(.int .i64 (A.wrap .i64 (A.add n63 1))),(.sl 2 l49),(.sl 5 l50),(.sl 2 (A.rput (A.rput l51 (A.nat n52) 0 [(.int .i64 (A.imin (A.wrap .i64 (A.add n80 n81)) 1000))]) (A.nat n52) 1 [(.int .i64 (A.imin (A.wrap .i64 (A.add n82 n83)) 1000))]))])))
 else some (.inl [(.sl 10 l46),(.int .i64 n47),(.int .i64 (A.wrap .i64 (A.add n48 1))),(.sl 2 l49),(.sl 5 l50),(.sl 2 (A.rput (A.rput l51 (A.nat n52) 0 [(.int .i64 (A.imin (A.wrap .i64 (A.add n80 n81)) 1000))]) (A.nat n52) 1 [(.int .i64 (A.imin (A.wrap .i64 (A.add n82 n83)) 1000))])),(.int .i64 n52),(.str s53),(.sl 5 l54),(.sl 5 l55),(.sl 5 l56),(.sl 10 l57),(.sl 2 l58),(.sl 5 l59),(.int .i64 n60),(.int .i64 n61),(.int .i64 n62),(.int .i64 n63)]) else none else none else none else none else none else none else none else none else some (.inl [(.sl 10 l46),(.int .i64 n47),(.int .i64 (A.wrap .i64 (A.add n48 1))),(.sl 2 l49),(.sl 5 l50),(.sl 2 l51),(.int .i64 n52),(.str s53),(.sl 5 l54),(.sl 5 l55),(.sl 5 l56),(.sl 10 l57),(.sl 2 l58),(.sl 5 l59),(.int .i64 n60),(.int .i64 n61),(.int .i64 n62),(.int .i64 n63)]) else none else some (.inr (.inr (.inl [(.int .i64 n61),(.int .i64 n62),(.int .i64 (A.wrap .i64 (A.add n63 1))),(.sl 2 l49),(.sl 5 l50),(.sl 2 l51)])))) [(.sl 10 l44),(.int .i64 (A.rlen l44)),(.int .i64 0),(.sl 2 l19),(.sl 5 l20),(.sl 2 (A.rput l21 (A.nat n22) 0 [(.int .i64 (A.imin (A.wrap .i64 (A.add n43 1)) 1000))])),(.int .i64 n22),(.str s23),(.sl 5 l24),(.sl 5 l25),(.sl 5 l26),(.sl 10 l27),(.sl 2 l19),(.sl 5 l20),(.int .i64 n22),(.int .i64 n28),(.int .i64 n29),(.int .i64 n30)] else none else some (.inl [(.sl 10 l16),(.int .i64 n17),(.int .i64 (A.wrap .i64 (A.add n18 1))),(.sl 2 l19),(.sl 5 l20),(.sl 2 (A.rput l21 (A.nat n22) 0 [(.int .i64 (A.imin (A.wrap .i64 (A.add n43 1)) 1000))])),(.int .i64 n22),(.str s23),(.sl 5 l24),(.sl 5 l25),(.sl 5 l26),(.sl 10 l27),(.int .i64 n28),(.int .i64 n29),(.int .i64 n30)]) else none else none else none else some (.inl [(.sl 10 l16),(.int .i64 n17),(.int .i64 (A.wrap .i64 (A.add n18 1))),(.sl 2 l19),(.sl 5 l20),(.sl 2 l21),(.int .i64 n22),(.str s23),(.sl 5 l24),(.sl 5 l25),(.sl 5 l26),(.sl 10 l27),(.int .i64 n28),(.int .i64 n29),(.int .i64 n30)]) else none else bif (A.inr n22 (A.rlen l20))then (opL (A.cell (A.skip 4 (A.row l20 n22)) 0) 10).bind fun l84=>E.lp (fun ds85=>(opL (A.cell ds85 0) 10).bind fun l86=>(opI (A.cell ds85 1) .i64).bind fun n87=>(opI (A.cell ds85 2) .i64).bind fun n88=>(opL (A.cell ds85 3) 2).bind fun l89=>(opL (A.cell ds85 4) 5).bind fun l90=>(opL (A.cell ds85 5) 2).bind fun l91=>(opI (A.cell ds85 6) .i64).bind fun n92=>oF A ds85 7 fun s93 l94 l95 l96 l97=>(opL (A.cell ds85 12) 2).bind fun l98=>(opL (A.cell ds85 13) 5).bind fun l99=>(opI (A.cell ds85 14) .i64).bind fun n100=>(opI (A.cell ds85 15) .i64).bind fun n101=>(opI (A.cell ds85 16) .i64).bind fun n102=>(opI (A.cell ds85 17) .i64).bind fun n103=>bif (A.ilt n88 n87)then bif (A.inr n88 (A.rlen l86))then oP A (A.row l86 n88) 0 fun n104 l105 n106 l107 l108 n109 b110 s111 n112 l113=>cutO (bif (A.ieq n104 7)then some (.inl [(.bool (A.ilt 0 (A.rlen l105)))]) else some (.inl [(.bool false)])) fun ds114=>(opB (A.cell ds114 0)).bind fun b115=>cutO (bif b115 then some (.inl [(.bool (A.ile 0 n109))]) else some (.inl [(.bool false)])) fun ds116=>(opB (A.cell ds116 0)).bind fun b117=>cutO (bif b117 then some (.inl [(.bool (A.ilt n109 n100))]) else some (.inl [(.bool false)])) fun ds118=>(opB (A.cell ds118 0)).bind fun b119=>bif b119 then bif (A.inr n92 (A.rlen l91))then (opI (A.cell (A.rown l91 (A.nat n92)) 0) .i64).bind fun n120=>bif (A.inr n109 (A.rlen l91))then (opI (A.cell (A.rown l91 (A.nat n109)) 0) .i64).bind fun n121=>bif (A.inr n92 (A.rlen l91))then bif (A.inrn (A.nat n92) l91)then bif (A.inr n92 (A.rlen (A.rput l91 (A.nat n92) 0 [(.int .i64 (A.imin (A.wrap .i64 (A.add n120 n121)) 1000))])))then (opI (A.cell (A.rown (A.rput l91 (A.nat n92) 0 [(.int .i64 (A.imin (A.wrap .i64 (A.add n120 n121)) 1000))]) (A.nat n92)) 1) .i64).bind fun n122=>bif (A.inr n109 (A.rlen (A.rput l91 (A.nat n92) 0 [(.int .i64 (A.imin (A.wrap .i64 (A.add n120 n121)) 1000))])))then (opI (A.cell (A.rown (A.rput l91 (A.nat n92) 0 [(.int .i64 (A.imin (A.wrap .i64 (A.add n120 n121)) 1000))]) (A.nat n109)) 1) .i64).bind fun n123=>bif (A.inr n92 (A.rlen (A.rput l91 (A.nat n92) 0 [(.int .i64 (A.imin (A.wrap .i64 (A.add n120 n121)) 1000))])))then
 bif (A.inrn (A.nat n92) (A.rput l91 (A.nat n92) 0 [(.int .i64 (A.imin (A.wrap .i64 (A.add n120 n121)) 1000))]))then bif (A.bnot true)then some (.inr (.inr (.inl [(.int .i64 n101),(.int .i64 n102),(.int .i64 (A.wrap .i64 (A.add n103 1))),(.sl 2 l89),(.sl 5 l90),(.sl 2 (A.rput (A.rput l91 (A.nat n92) 0 [(.int .i64 (A.imin (A.wrap .i64 (A.add n120 n121)) 1000))]) (A.nat n92) 1 [(.int .i64 (A.imin (A.wrap .i64 (A.add n122 n123)) 1000))]))]))) else some (.inl [(.sl 10 l86),(.int .i64 n87),(.int .i64 (A.wrap .i64 (A.add n88 1))),(.sl 2 l89),(.sl 5 l90),(.sl 2 (A.rput (A.rput l91 (A.nat n92) 0 [(.int .i64 (A.imin (A.wrap .i64 (A.add n120 n121)) 1000))]) (A.nat n92) 1 [(.int .i64 (A.imin (A.wrap .i64 (A.add n122 n123)) 1000))])),(.int .i64 n92),(.str s93),(.sl 5 l94),(.sl 5 l95),(.sl 5 l96),(.sl 10 l97),(.sl 2 l98),(.sl 5 l99),(.int .i64 n100),(.int .i64 n101),(.int .i64 n102),(.int .i64 n103)]) else none else none else none else none else none else none else none else none else some (.inl [(.sl 10 l86),(.int .i64 n87),(.int .i64 (A.wrap .i64 (A.add n88 1))),(.sl 2 l89),(.sl 5 l90),(.sl 2 l91),(.int .i64 n92),(.str s93),(.sl 5 l94),(.sl 5 l95),(.sl 5 l96),(.sl 10 l97),(.sl 2 l98),(.sl 5 l99),(.int .i64 n100),(.int .i64 n101),(.int .i64 n102),(.int .i64 n103)]) else none else some (.inr (.inr (.inl [(.int .i64 n101),(.int .i64 n102),(.int .i64 (A.wrap .i64 (A.add n103 1))),(.sl 2 l89),(.sl 5 l90),(.sl 2 l91)])))) [(.sl 10 l84),(.int .i64 (A.rlen l84)),(.int .i64 0),(.sl 2 l19),(.sl 5 l20),(.sl 2 l21),(.int .i64 n22),(.str s23),(.sl 5 l24),(.sl 5 l25),(.sl 5 l26),(.sl 10 l27),(.sl 2 l19),(.sl 5 l20),(.int .i64 n22),(.int .i64 n28),(.int .i64 n29),(.int .i64 n30)] else none) [(.sl 10 l14),(.int .i64 (A.rlen l14)),(.int .i64 0),(.sl 2 l7),(.sl 5 l8),(.sl 2 (A.rput l9 (A.nat n6) 1 [(.int .i64 1)])),(.int .i64 n6),(.str s10),(.sl 5 l11),(.sl 5 l12),(.sl 5 l13),(.sl 10 l14),(.int .i64 n4),(.int .i64 n5),(.int .i64 n6)] else none else none else none else bif (A.inr n4 (A.rlen l9))then (opI (A.cell (A.rown l9 (A.nat n4)) 0) .i64).bind fun n124=>bif (A.inr n4 (A.rlen l9))then (opI (A.cell (A.rown l9 (A.nat n4)) 1) .i64).bind fun n125=>some (.inr (.val [(.int .i64 n124),(.int .i64 n125)])) else none else none) [(.int .i64 at_),(.int .i64 (A.rlen (A.rep (A.wrap .i64 (A.add at_ 1)) [(.int .i64 0),(.int .i64 0)]))),(.int .i64 0),(.sl 2 l_0),(.sl 5 l_1),(.sl 2 (A.rep (A.wrap .i64 (A.add at_ 1)) [(.int .i64 0),(.int .i64 0)]))] else none
def g54_eq (A:Sy)(E:Env)(l_0 l_1:LL)(at_:Int):fT A E 54 [.agg [.d (.sl 2 l_0),V.d (.sl 5 l_1)],V.d (.int .i64 at_)]=g54 A E l_0 l_1 at_:=by kernel_rfl
def g98 (A:Sy)(E:Env)(v_:LL):Option PRes:=bif (A.mkok (A.rlen v_) (A.rlen v_) 8)then bif (A.cutok 0 (A.add 0 (A.rlen (A.rep (A.rlen v_) [(.int .i64 0)]))) (A.rlen (A.rep (A.rlen v_) [(.int .i64 0)])))then some (.own 2 1 (A.rcopy (A.rep (A.rlen v_) [(.int .i64 0)]) 0 (A.rlen (A.rep (A.rlen v_) [(.int .i64 0)])) v_)) else none else none
def g98_eq (A:Sy)(E:Env)(v_:LL):fT A E 98 [.d (.sl 1 v_)]=g98 A E v_:=by kernel_rfl
def g25 (A:Sy)(E:Env)(l_0 l_1:LL)(at_:Int):Option PRes:=bif (A.inr at_ (A.rlen l_1))then oF A (A.row l_1 at_) 0 fun s1 l2 l3 l4 l5=>E.lp (fun ds6=>(opL (A.cell ds6 0) 10).bind fun l7=>(opI (A.cell ds6 1) .i64).bind fun n8=>(opI (A.cell ds6 2) .i64).bind fun n9=>(opL (A.cell ds6 3) 2).bind fun l10=>(opL (A.cell ds6 4) 5).bind fun l11=>(opL (A.cell ds6 5) 3).bind fun l12=>(opL (A.cell ds6 6) 3).bind fun l13=>oF A ds6 7 fun s14 l15 l16 l17 l18=>bif (A.ilt n9 n8)then bif (A.inr n9 (A.rlen l7))then oP A (A.row l7 n9) 0 fun n19 l20 n21 l22 l23 n24 b25 s26 n27 l28=>bif (A.ieq n19 5)then bif (A.inr 0 (A.rlen l20))then (opS (A.cell (A.row l20 0) 0)).bind fun s29=>(E.call 58 [(.agg [(.d (.str s14)),(.d (.sl 5 l15)),(.d (.sl 5 l16)),(.d (.sl 5 l17)),(.d (.sl 10 l18))]),(.d (.str s29))]).bind fun p30=>oV A p30.leaves 0 fun s32 n33 n34 n35 l36=>(opB (A.cell p30.leaves 5)).bind fun b37=>bif (A.fits l12 [[(.int .i64 n33),(.int .i64 n34),(.int .i64 n35)]] 24)then bif (A.ieq n19 7)then (E.call 25 [(.agg [(.d (.sl 2 l10)),(.d (.sl 5 l11))]),(.d (.int .i64 n24))]).bind fun p38=>(opL (A.cell p38.leaves 0) 3).bind fun l40=>bif (A.fits l13 l40 24)then some (.inl [(.sl 10 l7),(.int .i64 n8),(.int .i64 (A.wrap .i64 (A.add n9 1))),(.sl 2 l10),(.sl 5 l11),(.sl 3 (A.rapp l12 [[(.int .i64 n33),(.int .i64 n34),(.int .i64 n35)]])),(.sl 3 (A.rapp l13 l40)),(.str s14),(.sl 5 l15),(.sl 5 l16),(.sl 5 l17),(.sl 10 l18)]) else none else some (.inl [(.sl 10 l7),(.int .i64 n8),(.int .i64 (A.wrap .i64 (A.add n9 1))),(.sl 2 l10),(.sl 5 l11),(.sl 3 (A.rapp l12 [[(.int .i64 n33),(.int .i64 n34),(.int .i64 n35)]])),(.sl 3 l13),(.str s14),(.sl 5 l15),(.sl 5 l16),(.sl 5 l17),(.sl 10 l18)]) else none else none else bif (A.ieq n19 7)then (E.call 25 [(.agg [(.d (.sl 2 l10)),(.d (.sl 5 l11))]),(.d (.int .i64 n24))]).bind fun p41=>(opL (A.cell p41.leaves 0) 3).bind fun l43=>bif (A.fits l13 l43 24)then some (.inl [(.sl 10 l7),(.int .i64 n8),(.int .i64 (A.wrap .i64 (A.add n9 1))),(.sl 2 l10),(.sl 5 l11),(.sl 3 l12),(.sl 3 (A.rapp l13 l43)),(.str s14),(.sl 5 l15),(.sl 5 l16),(.sl 5 l17),(.sl 10 l18)]) else none else some (.inl [(.sl 10 l7),(.int .i64 n8),(.int .i64 (A.wrap .i64 (A.add n9 1))),(.sl 2 l10),(.sl 5 l11),(.sl 3 l12),(.sl 3 l13),(.str s14),(.sl 5 l15),(.sl 5 l16),(.sl 5 l17),(.sl 10 l18)]) else none else bif (A.fits l12 l13 24)then some (.inr (.own 57 3 (A.rapp l12 l13))) else none) [(.sl 10 l5),(.int .i64 (A.rlen l5)),(.int .i64 0),(.sl 2 l_0),(.sl 5 l_1),(.sl 3 []),(.sl 3 []),(.str s1),(.sl 5 l2),(.sl 5 l3),(.sl 5 l4),(.sl 10 l5)] else none
def g25_eq (A:Sy)(E:Env)(l_0 l_1:LL)(at_:Int):fT A E 25 [.agg [.d (.sl 2 l_0),V.d (.sl 5 l_1)],V.d (.int .i64 at_)]=g25 A E l_0 l_1 at_:=by kernel_rfl
def g29 (A:Sy)(E:Env)(t_0 t_1 t_2:Int):Option PRes:=some (.val [(.int .i64 (A.imin (A.imax t_2 1) 8))])
def g29_eq (A:Sy)(E:Env)(t_0 t_1 t_2:Int):fT A E 29 [.agg [.d (.int .i64 t_0),V.d (.int .i64 t_1),V.d (.int .i64 t_2)]]=g29 A E t_0 t_1 t_2:=by kernel_rfl
def g31 (A:Sy)(E:Env)(l_:LL)(t_0 t_1 t_2:Int)(v_:LL):Option PRes:=(E.call 64 [(.d (.sl 2 l_)),(kT t_0 t_1 t_2)]).bind fun p1=>(opB (A.cell p1.leaves 0)).bind fun b3=>cutO (bif b3 then (E.call 29 [(kT t_0 t_1 t_2)]).bind fun p4=>(opI (A.cell p4.leaves 0) .i64).bind fun n6=>some (.inl [(.bool (A.ieq (A.rlen v_) n6))]) else some (.inl [(.bool false)])) fun ds7=>(opB (A.cell ds7 0)).bind fun b8=>cutO (bif b8 then (E.call 65 [(.d (.sl 1 v_)),(.fn 62 [(.pel [(.sl 2 l_)]),(.pel [(.int .i64 t_0),(.int .i64 t_1),(.int .i64 t_2)])])]).bind fun p9=>(opB (A.cell p9.leaves 0)).bind fun b11=>some (.inl [(.bool (A.bnot b11))]) else some (.inl [(.bool false)])) fun ds12=>(opB (A.cell ds12 0)).bind fun b13=>some (.val [(.bool b13)])
def g31_eq (A:Sy)(E:Env)(l_:LL)(t_0 t_1 t_2:Int)(v_:LL):fT A E 31 [.d (.sl 2 l_),V.agg [.d (.int .i64 t_0),V.d (.int .i64 t_1),V.d (.int .i64 t_2)],V.d (.sl 1 v_)]=g31 A E l_ t_0 t_1 t_2 v_:=by kernel_rfl
def g63 (A:Sy)(E:Env)(l_:LL)(t_0 t_1 t_2 n_:Int):Option PRes:=(E.call 64 [(.d (.sl 2 l_)),(kT t_0 t_1 t_2)]).bind fun p1=>(opB (A.cell p1.leaves 0)).bind fun b3=>bif (A.bnot b3)then some (.val [(.bool false)]) else bif (A.ieq t_0 2)then cutO (bif (A.ieq n_ 0)then some (.inl [(.bool true)]) else some (.inl [(.bool (A.ieq n_ 1))])) fun ds4=>(opB (A.cell ds4 0)).bind fun b5=>some (.val [(.bool b5)]) else bif (A.ieq t_0 3)then cutO (bif (A.ile 0 n_)then bif (A.inr t_1 (A.rlen l_))then (opL (A.cell (A.skip 1 (A.row l_ t_1)) 0) 1).bind fun l6=>some (.inl [(.bool (A.ilt n_ (A.rlen l6)))]) else none else some (.inl [(.bool false)])) fun ds7=>(opB (A.cell ds7 0)).bind fun b8=>some (.val [(.bool b8)]) else some (.val [(.bool true)])
def g63_eq (A:Sy)(E:Env)(l_:LL)(t_0 t_1 t_2 n_:Int):fT A E 63 [.d (.sl 2 l_),V.agg [.d (.int .i64 t_0),V.d (.int .i64 t_1),V.d (.int .i64 t_2)],V.d (.int .i64 n_)]=g63 A E l_ t_0 t_1 t_2 n_:=by kernel_rfl
def g58 (A:Sy)(E:Env)(f_0:BA)(f_1 f_2 f_3 f_4:LL)(name_:BA):Option PRes:=(E.call 99 [(.d (.sl 1 [[(.sl 5 f_1)],[(.sl 5 f_2)],[(.sl 5 f_3)]]))]).bind fun p1=>(opL (A.cell p1.leaves 0) 5).bind fun l3=>E.lp (fun ds4=>(opL (A.cell ds4 0) 5).bind fun l5=>(opI (A.cell ds4 1) .i64).bind fun n6=>(opI (A.cell ds4 2) .i64).bind fun n7=>oF A ds4 3 fun s8 l9 l10 l11 l12=>(opS (A.cell ds4 8)).bind fun s13=>(opS (A.cell ds4 9)).bind fun s14=>(opI (A.cell ds4 10) .i64).bind fun n15=>(opI (A.cell ds4 11) .i64).bind fun n16=>(opI (A.cell ds4 12) .i64).bind fun n17=>bif (A.ilt n7 n6)then bif (A.inr n7 (A.rlen l5))then oV A (A.row l5 n7) 0 fun s18 n19 n20 n21 l22=>bif (A.seq s18 s13)then bif (A.ilt n7 0)then some (.inr (.val [(.str (bs [])),(.int .i64 0),(.int .i64 0),(.int .i64 0),(.sl 2 []),(.bool false)])) else bif (A.inr n7 (A.rlen l3))then oV A (A.row l3 n7) 0 fun s23 n24 n25 n26 l27=>some (.inr (.val [(.str s23),(.int .i64 n24),(.int .i64 n25),(.int .i64 n26),(.sl 2 l27),(.bool true)])) else none else some (.inl [(.sl 5 l5),(.int .i64 n6),(.int .i64 (A.wrap .i64 (A.add n7 1))),(.str s8),(.sl 5 l9),(.sl 5 l10),(.sl 5 l11),(.sl 10 l12),(.str s13),(.str s14),(.int .i64 n15),(.int .i64 n16),(.int .i64 n17)]) else none else bif (A.ilt (-1) 0)then some (.inr (.val [(.str (bs [])),(.int .i64 0),(.int .i64 0),(.int .i64 0),(.sl 2 []),(.bool false)])) else bif (A.inr (-1) (A.rlen l3))then oV A (A.row l3 (-1)) 0 fun s28 n29 n30 n31 l32=>some (.inr (.val [(.str s28),(.int .i64 n29),(.int .i64 n30),(.int .i64 n31),(.sl 2 l32),(.bool true)])) else none) [(.sl 5 l3),(.int .i64 (A.rlen l3)),(.int .i64 0),(.str f_0),(.sl 5 f_1),(.sl 5 f_2),(.sl 5 f_3),(.sl 10 f_4),(.str name_),(.str (bs [])),(.int .i64 0),(.int .i64 0),(.int .i64 0)]
def g58_eq (A:Sy)(E:Env)(f_0:BA)(f_1 f_2 f_3 f_4:LL)(name_:BA):fT A E 58 [.agg [.d (.str f_0),V.d (.sl 5 f_1),V.d (.sl 5 f_2),V.d (.sl 5 f_3),V.d (.sl 10 f_4)],V.d (.str name_)]=g58 A E f_0 f_1 f_2 f_3 f_4 name_:=by kernel_rfl
def g34 (A:Sy)(E:Env)(a_0:BA)(a_1 a_2 a_3 a_4:Int)(a_5:LL)(b_0:BA)(b_1 b_2 b_3 b_4:Int)(b_5:LL):Option PRes:=cutO (bif (A.seq a_0 b_0)then some (.inl [(.bool (A.deq [(.int .i64 a_1),(.int .i64 a_2),(.int .i64 a_3)] [(.int .i64 b_1),(.int .i64 b_2),(.int .i64 b_3)]))]) else some (.inl [(.bool false)])) fun ds1=>(opB (A.cell ds1 0)).bind fun b2=>cutO (bif b2 then some (.inl [(.bool (A.ieq a_4 b_4))]) else some (.inl [(.bool false)])) fun ds3=>(opB (A.cell ds3 0)).bind fun b4=>cutO (bif b4 then (E.call 66 [(.d (.sl 1 a_5)),(.d (.sl 1 b_5))]).bind fun p5=>(opB (A.cell p5.leaves 0)).bind fun b7=>some (.inl [(.bool b7)]) else some (.inl [(.bool false)])) fun ds8=>(opB (A.cell ds8 0)).bind fun b9=>some (.val [(.bool b9)])
def g34_eq (A:Sy)(E:Env)(a_0:BA)(a_1 a_2 a_3 a_4:Int)(a_5:LL)(b_0:BA)(b_1 b_2 b_3 b_4:Int)(b_5:LL):fT A E 34 [.agg [.d (.str a_0),V.d (.int .i64 a_1),V.d (.int .i64 a_2),V.d (.int .i64 a_3),V.d (.int .i64 a_4),V.d (.sl 1 a_5)],V.agg [.d (.str b_0),V.d (.int .i64 b_1),V.d (.int .i64 b_2),V.d (.int .i64 b_3),V.d (.int .i64 b_4),V.d (.sl 1 b_5)]]=g34 A E a_0 a_1 a_2 a_3 a_4 a_5 b_0 b_1 b_2 b_3 b_4 b_5:=by kernel_rfl
def g5 (A:Sy)(E:Env)(p_0 p_1:LL):Option PRes:=(E.call 19 [(.agg [(.d (.sl 2 p_0)),(.d (.sl 5 p_1))])]).bind fun p1=>(opB (A.cell p1.leaves 0)).bind fun b3=>bif (A.bnot b3)then some (.val [(.sl 2 []),(.sl 5 []),(.int .i64 0),(.bool false)]) else (E.call 20 [(.agg [(.d (.sl 2 p_0)),(.d (.sl 5 p_1))])]).bind fun p4=>(opL (A.cell p4.leaves 0) 2).bind fun l6=>(opL (A.cell p4.leaves 1) 5).bind fun l7=>(opB (A.cell p4.leaves 2)).bind fun b8=>bif (A.bnot b8)then some (.val [(.sl 2 []),(.sl 5 []),(.int .i64 0),(.bool false)]) else (E.call 21 [(.agg [(.d (.sl 2 l6)),(.d (.sl 5 l7))]),(.d (.int .i64 (A.wrap .i64 (A.sub (A.rlen l7) 1))))]).bind fun p9=>(opL (A.cell p9.leaves 0) 2).bind fun l11=>(opB (A.cell p9.leaves 1)).bind fun b12=>some (.val [(.sl 2 l6),(.sl 5 l7),(.int .i64 (A.wrap .i64 (A.sub (A.rlen l7) 1))),(.bool b12)])
def g5_eq (A:Sy)(E:Env)(p_0 p_1:LL):fT A E 5 [.agg [.d (.sl 2 p_0),V.d (.sl 5 p_1)]]=g5 A E p_0 p_1:=by kernel_rfl
def g6 (A:Sy)(E:Env):Option PRes:=(E.call 10 [(.d (.sl 6 [[(.str (bs [97])),(.int .i64 2),(.int .i64 0),(.int .i64 2),(.int .i64 0),(.sl 1 [[(.int .i64 0)],[(.int .i64 1)]])],[(.str (bs [98])),(.int .i64 1),(.int .i64 0),(.int .i64 0),(.int .i64 2),(.sl 1 [[(.int .i64 5)]])]]))]).bind fun p1=>(opI (A.cell p1.leaves 0) .i64).bind fun n3=>cutO (bif (A.ieq n3 3)then (E.call 12 [(.d (.sl 2 [])),(.d (.sl 6 [[(.str (bs [97])),(.int .i64 2),(.int .i64 0),(.int .i64 2),(.int .i64 0),(.sl 1 [[(.int .i64 0)],[(.int .i64 1)]])],[(.str (bs [98])),(.int .i64 1),(.int .i64 0),(.int .i64 0),(.int .i64 2),(.sl 1 [[(.int .i64 5)]])]]))]).bind fun p4=>(opB (A.cell p4.leaves 0)).bind fun b6=>some (.inl [(.bool b6)]) else some (.inl [(.bool false)])) fun ds7=>(opB (A.cell ds7 0)).bind fun b8=>cutO (bif b8 then (E.call 22 [(.d (.sl 6 [[(.str (bs [97])),(.int .i64 2),(.int .i64 0),(.int .i64 2),(.int .i64 0),(.sl 1 [[(.int .i64 0)],[(.int .i64 1)]])],[(.str (bs [98])),(.int .i64 1),(.int .i64 0),(.int .i64 0),(.int .i64 2),(.sl 1 [[(.int .i64 5)]])]])),(.d (.str (bs [98])))]).bind fun p9=>(opI (A.cell p9.leaves 0) .i64).bind fun n11=>some (.inl [(.bool (A.ieq n11 1))]) else some (.inl [(.bool false)])) fun ds12=>(opB (A.cell ds12 0)).bind fun b13=>some (.val [(.bool b13)])
def g6_eq (A:Sy)(E:Env):fT A E 6 []=g6 A E:=by kernel_rfl
def g3 (A:Sy)(E:Env)(p_0 p_1:LL):Option PRes:=(E.call 5 [(.agg [(.d (.sl 2 p_0)),(.d (.sl 5 p_1))])]).bind fun p1=>(opL (A.cell p1.leaves 0) 2).bind fun l3=>(opL (A.cell p1.leaves 1) 5).bind fun l4=>(opI (A.cell p1.leaves 2) .i64).bind fun n5=>(opB (A.cell p1.leaves 3)).bind fun b6=>bif (A.bnot b6)then (E.call 6 []).bind fun p7=>(opB (A.cell p7.leaves 0)).bind fun b9=>some (.val [(.bool b9)]) else (E.call 7 [(.agg [(.d (.sl 2 l3)),(.d (.sl 5 l4))])]).bind fun p10=>(opL (A.cell p10.leaves 0) 6).bind fun l12=>(opB (A.cell p10.leaves 1)).bind fun b13=>(E.call 8 [(.agg [(.d (.sl 2 l3)),(.d (.sl 5 l4))])]).bind fun p14=>(opL (A.cell p14.leaves 0) 6).bind fun l16=>(opB (A.cell p14.leaves 1)).bind fun b17=>(E.call 9 [(.d (.sl 6 l12)),(.d (.sl 6 l16))]).bind fun p18=>(opB (A.cell p18.leaves 0)).bind fun b20=>cutO (bif (A.bnot b20)then some (.inl [(.bool true)]) else some (.inl [(.bool (A.bnot (A.beq b13 b17)))])) fun ds21=>(opB (A.cell ds21 0)).bind fun b22=>cutO (bif b22 then some (.inl [(.bool true)]) else (E.call 10 [(.d (.sl 6 l12))]).bind fun p23=>(opI (A.cell p23.leaves 0) .i64).bind fun n25=>(E.call 11 [(.d (.sl 6 l16))]).bind fun p26=>(opI (A.cell p26.leaves 0) .i64).bind fun n28=>some (.inl [(.bool (A.bnot (A.ieq n25 n28)))])) fun ds29=>(opB (A.cell ds29 0)).bind fun b30=>bif b30 then some (.val [(.bool false)]) else (E.call 12 [(.d (.sl 2 l3)),(.d (.sl 6 l12))]).bind fun p31=>(opB (A.cell p31.leaves 0)).bind fun b33=>(E.call 11 [(.d (.sl 6 l16))]).bind fun p34=>(opI (A.cell p34.leaves 0) .i64).bind fun n36=>cutO (bif (A.beq b33 (A.ile n36 1000))then (E.call 13 [(.d (.sl 6 l12)),(.d (.sl 6 l16))]).bind fun p37=>(opB (A.cell p37.leaves 0)).bind fun b39=>some (.inl [(.bool b39)]) else some (.inl [(.bool false)])) fun ds40=>(opB (A.cell ds40 0)).bind fun b41=>cutO (bif b41 then (E.call 6 []).bind fun p42=>(opB (A.cell p42.leaves 0)).bind fun b44=>some (.inl [(.bool b44)]) else some (.inl [(.bool false)])) fun ds45=>(opB (A.cell ds45 0)).bind fun b46=>some (.val [(.bool b46)])
def g3_eq (A:Sy)(E:Env)(p_0 p_1:LL):fT A E 3 [.agg [.d (.sl 2 p_0),V.d (.sl 5 p_1)]]=g3 A E p_0 p_1:=by kernel_rfl
def g66 (A:Sy)(E:Env)(s1_ s2_:LL):Option PRes:=bif (A.bnot (A.ieq (A.rlen s1_) (A.rlen s2_)))then some (.val [(.bool false)]) else E.lp (fun ds1=>(opL (A.cell ds1 0) 1).bind fun l2=>(opL (A.cell ds1 1) 1).bind fun l3=>(opI (A.cell ds1 2) .i64).bind fun n4=>(opI (A.cell ds1 3) .i64).bind fun n5=>bif (A.ilt n5 n4)then bif (A.inr n5 (A.rlen l2))then (opI (A.cell (A.row l2 n5) 0) .i64).bind fun n6=>bif (A.inr n5 (A.rlen l3))then (opI (A.cell (A.row l3 n5) 0) .i64).bind fun n7=>bif (A.bnot (A.ieq n6 n7))then some (.inr (.val [(.bool false)])) else some (.inl [(.sl 1 l2),(.sl 1 l3),(.int .i64 n4),(.int .i64 (A.wrap .i64 (A.add n5 1)))]) else none else none else some (.inr (.val [(.bool true)]))) [(.sl 1 s1_),(.sl 1 s2_),(.int .i64 (A.rlen s1_)),(.int .i64 0)]
def g66_eq (A:Sy)(E:Env)(s1_ s2_:LL):fT A E 66 [.d (.sl 1 s1_),V.d (.sl 1 s2_)]=g66 A E s1_ s2_:=by kernel_rfl
def g99 (A:Sy)(E:Env)(slices_:LL):Option PRes:=E.lp (fun ds1=>(opL (A.cell ds1 0) 1).bind fun l2=>(opI (A.cell ds1 1) .i64).bind fun n3=>(opL (A.cell ds1 2) 1).bind fun l4=>(opI (A.cell ds1 3) .i64).bind fun n5=>(opI (A.cell ds1 4) .i64).bind fun n6=>bif (A.ilt n6 n5)then bif (A.inr n6 (A.rlen l4))then (opL (A.cell (A.row l4 n6) 0) 5).bind fun l7=>bif (A.ilt (A.wrap .i64 (A.add n3 (A.rlen l7))) 0)then none else some (.inl [(.sl 1 l2),(.int .i64 (A.wrap .i64 (A.add n3 (A.rlen l7)))),(.sl 1 l4),(.int .i64 n5),(.int .i64 (A.wrap .i64 (A.add n6 1)))]) else none else bif (A.ilt n3 0)then none else bif (A.ilt 0 (A.wrap .i64 (A.sub n3 (A.wrap .i64 (A.sub 0 0)))))then bif (A.cutok 0 0 0)then bif (A.mkz (A.wrap .i64 (A.sub n3 (A.wrap .i64 (A.sub 0 0)))) 64)then bif (A.cutok 0 0 (A.rlen (A.rep (A.wrap .i64 (A.sub n3 (A.wrap .i64 (A.sub 0 0)))) [(.str (bs [])),(.int .i64 0),(.int .i64 0),(.int .i64 0),(.sl 2 [])])))then E.lp (fun ds8=>(opL (A.cell ds8 0) 1).bind fun l9=>(opI (A.cell ds8 1) .i64).bind fun n10=>(opI (A.cell ds8 2) .i64).bind fun n11=>(opL (A.cell ds8 3) 5).bind fun l12=>bif (A.ilt n11 n10)then bif (A.inr n11 (A.rlen l9))then (opL (A.cell (A.row l9 n11) 0) 5).bind fun l13=>bif (A.fits l12 l13 64)then some (.inl [(.sl 1 l9),(.int .i64 n10),(.int .i64 (A.wrap .i64 (A.add n11 1))),(.sl 5 (A.rapp l12 l13))]) else none else none else some (.inr (.inr (.own 94 5 l12)))) [(.sl 1 l2),(.int .i64 (A.rlen l2)),(.int .i64 0),(.sl 5 (A.head (A.rep (A.wrap .i64 (A.sub n3 (A.wrap .i64 (A.sub 0 0)))) [(.str (bs [])),(.int .i64 0),(.int .i64 0),(.int .i64 0),(.sl 2 [])]) 0))] else none else none else none else E.lp (fun ds14=>(opL (A.cell ds14 0) 1).bind fun l15=>(opI (A.cell ds14 1) .i64).bind fun n16=>(opI (A.cell ds14 2) .i64).bind fun n17=>(opL (A.cell ds14 3) 5).bind fun l18=>bif (A.ilt n17 n16)then bif (A.inr n17 (A.rlen l15))then (opL (A.cell (A.row l15 n17) 0) 5).bind fun l19=>bif (A.fits l18 l19 64)then some (.inl [(.sl 1 l15),(.int .i64 n16),(.int .i64 (A.wrap .i64 (A.add n17 1))),(.sl 5 (A.rapp l18 l19))]) else none else none else some (.inr (.inr (.own 94 5 l18)))) [(.sl 1 l2),(.int .i64 (A.rlen l2)),(.int .i64 0),(.sl 5 [])]) [(.sl 1 slices_),(.int .i64 0),(.sl 1 slices_),(.int .i64 (A.rlen slices_)),(.int .i64 0)]
def g99_eq (A:Sy)(E:Env)(slices_:LL):fT A E 99 [.d (.sl 1 slices_)]=g99 A E slices_:=by kernel_rfl
def g33_34 (A:Sy)(E:Env)(a_ b_:LL):Option PRes:=bif (A.bnot (A.ieq (A.rlen a_) (A.rlen b_)))then some (.val [(.bool false)]) else E.lp (fun ds1=>(opL (A.cell ds1 0) 6).bind fun l2=>(opL (A.cell ds1 1) 6).bind fun l3=>(opI (A.cell ds1 2) .i64).bind fun n4=>(opI (A.cell ds1 3) .i64).bind fun n5=>bif (A.ilt n5 n4)then bif (A.inr n5 (A.rlen l3))then (opS (A.cell (A.row l3 n5) 0)).bind fun s6=>(opI (A.cell (A.row l3 n5) 1) .i64).bind fun n7=>(opI (A.cell (A.row l3 n5) 2) .i64).bind fun n8=>(opI (A.cell (A.row l3 n5) 3) .i64).bind fun n9=>(opI (A.cell (A.row l3 n5) 4) .i64).bind fun n10=>(opL (A.cell (A.row l3 n5) 5) 1).bind fun l11=>bif (A.inr n5 (A.rlen l2))then (opS (A.cell (A.row l2 n5) 0)).bind fun s12=>(opI (A.cell (A.row l2 n5) 1) .i64).bind fun n13=>(opI (A.cell (A.row l2 n5) 2) .i64).bind fun n14=>(opI (A.cell (A.row l2 n5) 3) .i64).bind fun n15=>(opI (A.cell (A.row l2 n5) 4) .i64).bind fun n16=>(opL (A.cell (A.row l2 n5) 5) 1).bind fun l17=>(E.call 34 [(.agg [(.d (.str s6)),(.d (.int .i64 n7)),(.d (.int .i64 n8)),(.d (.int .i64 n9)),(.d (.int .i64 n10)),(.d (.sl 1 l11))]),(.agg [(.d (.str s12)),(.d (.int .i64 n13)),(.d (.int .i64 n14)),(.d (.int .i64 n15)),(.d (.int .i64 n16)),(.d (.sl 1 l17))])]).bind fun p18=>(opB (A.cell p18.leaves 0)).bind fun b20=>bif (A.bnot b20)then some (.inr (.val [(.bool false)])) else some (.inl [(.sl 6 l2),(.sl 6 l3),(.int .i64 n4),(.int .i64 (A.wrap .i64 (A.add n5 1)))]) else none else none else some (.inr (.val [(.bool true)]))) [(.sl 6 b_),(.sl 6 a_),(.int .i64 (A.rlen a_)),(.int .i64 0)]
def g33_34_eq (A:Sy)(E:Env)(a_ b_:LL):fT A E 33 [.d (.sl 6 a_), .d (.sl 6 b_), .fn 34 []]=g33_34 A E a_ b_:=by kernel_rfl
def g65_62 (A:Sy)(E:Env)(v_ l_:LL)(k_ e_ c_:Int):Option PRes:=E.lp (fun ds1=>(opL (A.cell ds1 0) 1).bind fun l2=>(opL (A.cell ds1 1) 2).bind fun l3=>(opI (A.cell ds1 2) .i64).bind fun n4=>(opI (A.cell ds1 3) .i64).bind fun n5=>(opI (A.cell ds1 4) .i64).bind fun n6=>(opI (A.cell ds1 5) .i64).bind fun n7=>(opI (A.cell ds1 6) .i64).bind fun n8=>bif (A.ilt n8 n7)then bif (A.inr n8 (A.rlen l2))then (opI (A.cell (A.row l2 n8) 0) .i64).bind fun n9=>(opL (A.cell [(.sl 2 l3)] 0) 2).bind fun l10=>(opI (A.cell [(.int .i64 n4),(.int .i64 n5),(.int .i64 n6)] 0) .i64).bind fun n11=>(opI (A.cell [(.int .i64 n4),(.int .i64 n5),(.int .i64 n6)] 1) .i64).bind fun n12=>(opI (A.cell [(.int .i64 n4),(.int .i64 n5),(.int .i64 n6)] 2) .i64).bind fun n13=>(E.call 63 [(.d (.sl 2 l10)),(kT n11 n12 n13),(.d (.int .i64 n9))]).bind fun p14=>(opB (A.cell p14.leaves 0)).bind fun b16=>bif (A.bnot b16)then some (.inr (.val [(.bool (A.ile 0 n8))])) else some (.inl [(.sl 1 l2),(.sl 2 l3),(.int .i64 n4),(.int .i64 n5),(.int .i64 n6),(.int .i64 n7),(.int .i64 (A.wrap .i64 (A.add n8 1)))]) else none else some (.inr (.val [(.bool (A.ile 0 (-1)))]))) [(.sl 1 v_),(.sl 2 l_),(.int .i64 k_),(.int .i64 e_),(.int .i64 c_),(.int .i64 (A.rlen v_)),(.int .i64 0)]
def g65_62_eq (A:Sy)(E:Env)(v_ l_:LL)(k_ e_ c_:Int):fT A E 65 [.d (.sl 1 v_), .fn 62 [.pel [.sl 2 l_], .pel [.int .i64 k_, .int .i64 e_, .int .i64 c_]]]=g65_62 A E v_ l_ k_ e_ c_:=by kernel_rfl
def b55 (A:Sy)(E:Env)(en_ fl_:LL)(at_:Int)(ah_:BA)(out_:LL):Option PRes:=bif (A.inr at_ (A.rlen fl_))then oF A (A.row fl_ at_) 0 fun s1 l2 l3 l4 l5=>E.lp (fun ds6=>(opL (A.cell ds6 0) 10).bind fun l7=>(opI (A.cell ds6 1) .i64).bind fun n8=>(opI (A.cell ds6 2) .i64).bind fun n9=>(opL (A.cell ds6 3) 2).bind fun l10=>(opL (A.cell ds6 4) 2).bind fun l11=>(opL (A.cell ds6 5) 5).bind fun l12=>(opS (A.cell ds6 6)).bind fun s13=>oF A ds6 7 fun s14 l15 l16 l17 l18=>(opI (A.cell ds6 12) .i64).bind fun n19=>bif (A.ilt n9 n8)then bif (A.inr n9 (A.rlen l7))then oP A (A.row l7 n9) 0 fun n20 l21 n22 l23 l24 n25 b26 s27 n28 l29=>cutO (bif (A.ieq n20 5)then some (.inl [(.bool (A.ilt 0 (A.rlen l21)))]) else some (.inl [(.bool false)])) fun ds30=>(opB (A.cell ds30 0)).bind fun b31=>bif b31 then bif (A.inr 0 (A.rlen l21))then (opS (A.cell (A.row l21 0) 0)).bind fun s32=>bif (A.sfit s13 s32)then (E.call 98 [(.d (.sl 1 l24))]).bind fun p33=>(opL (A.cell p33.leaves 0) 1).bind fun l35=>bif (A.fits l10 [[(.str (A.sapp s13 s32)),(.sl 1 l35)]] 40)then bif (A.bnot true)then bif (A.inr n19 (A.rlen l12))then (opL (A.cell (A.skip 4 (A.row l12 n19)) 0) 10).bind fun l36=>E.lp (fun ds37=>(opL (A.cell ds37 0) 10).bind fun l38=>(opI (A.cell ds37 1) .i64).bind fun n39=>(opI (A.cell ds37 2) .i64).bind fun n40=>(opL (A.cell ds37 3) 2).bind fun l41=>(opL (A.cell ds37 4) 2).bind fun l42=>(opL (A.cell ds37 5) 5).bind fun l43=>(opS (A.cell ds37 6)).bind fun s44=>oF A ds37 7 fun s45 l46 l47 l48 l49=>(opL (A.cell ds37 12) 2).bind fun l50=>(opL (A.cell ds37 13) 5).bind fun l51=>(opI (A.cell ds37 14) .i64).bind fun n52=>(opI (A.cell ds37 15) .i64).bind fun n53=>bif (A.ilt n40 n39)then bif (A.inr n40 (A.rlen l38))then oP A (A.row l38 n40) 0 fun n54 l55 n56 l57 l58 n59 b60 s61 n62 l63=>cutO (bif (A.ieq n54 7)then some (.inl [(.bool (A.ilt 0 (A.rlen l55)))]) else some (.inl [(.bool false)])) fun ds64=>(opB (A.cell ds64 0)).bind fun b65=>cutO (bif b65 then some (.inl [(.bool (A.ile 0 n59))]) else some (.inl [(.bool false)])) fun ds66=>(opB (A.cell ds66 0)).bind fun b67=>cutO (bif b67 then some (.inl [(.bool (A.ilt n59 n52))]) else some (.inl [(.bool false)])) fun ds68=>(opB (A.cell ds68 0)).bind fun b69=>bif b69 then bif (A.inr 0 (A.rlen l55))then (opS (A.cell (A.row l55 0) 0)).bind fun s70=>bif (A.sfit s44 s70)then bif (A.sfit (A.sapp s44 s70) (bs [47]))then (E.call 1000055 (kBe l42 l43 n59 (A.sapp (A.sapp s44 s70) (bs [47])) l41)).bind fun p71=>(opL (A.cell p71.leaves 0) 2).bind fun l73=>bif (A.bnot true)then some (.inr (.inr (.val [(.sl 2 l73)]))) else some (.inl [(.sl 10 l38),(.int .i64 n39),(.int .i64 (A.wrap .i64 (A.add n40 1))),(.sl 2 l73),(.sl 2 l42),(.sl 5 l43),(.str s44),(.str s45),(.sl 5 l46),(.sl 5 l47),(.sl 5 l48),(.sl 10 l49),(.sl 2 l50),(.sl 5 l51),(.int .i64 n52),(.int .i64 n53)]) else none else none else none else some (.inl [(.sl 10 l38),(.int .i64 n39),(.int .i64 (A.wrap .i64 (A.add n40 1))),(.sl 2 l41),(.sl 2 l42),(.sl 5 l43),(.str s44),(.str s45),(.sl 5 l46),(.sl 5 l47),(.sl 5 l48),(.sl 10 l49),(.sl 2 l50),(.sl 5 l51),(.int .i64 n52),(.int .i64 n53)]) else none else some (.inr (.inr (.val [(.sl 2 l41)])))) [(.sl 10 l36),(.int .i64 (A.rlen l36)),(.int .i64 0),(.sl 2 (A.rapp l10 [[(.str (A.sapp s13 s32)),(.sl 1 l35)]])),(.sl 2 l11),(.sl 5 l12),(.str s13),(.str s14),(.sl 5 l15),(.sl 5 l16),(.sl 5 l17),(.sl 10 l18),(.sl 2 l11),(.sl 5 l12),(.int .i64 n19),(.int .i64 n19)] else none else some (.inl [(.sl 10 l7),(.int .i64 n8),(.int .i64 (A.wrap .i64 (A.add n9 1))),(.sl 2 (A.rapp l10 [[(.str (A.sapp s13 s32)),(.sl 1 l35)]])),(.sl 2 l11),(.sl 5 l12),(.str s13),(.str s14),(.sl 5 l15),(.sl 5 l16),(.sl 5 l17),(.sl 10 l18),(.int .i64 n19)]) else none else none else none else some (.inl [(.sl 10 l7),(.int .i64 n8),(.int .i64 (A.wrap .i64 (A.add n9 1))),(.sl 2 l10),(.sl 2 l11),(.sl 5 l12),(.str s13),(.str s14),(.sl 5 l15),(.sl 5 l16),(.sl 5 l17),(.sl 10 l18),(.int .i64 n19)]) else none else bif (A.inr n19 (A.rlen l12))then (opL (A.cell (A.skip 4 (A.row l12 n19)) 0) 10).bind fun l74=>
 E.lp (fun ds75=>(opL (A.cell ds75 0) 10).bind fun l76=>(opI (A.cell ds75 1) .i64).bind fun n77=>(opI (A.cell ds75 2) .i64).bind fun n78=>(opL (A.cell ds75 3) 2).bind fun l79=>(opL (A.cell ds75 4) 2).bind fun l80=>(opL (A.cell ds75 5) 5).bind fun l81=>(opS (A.cell ds75 6)).bind fun s82=>oF A ds75 7 fun s83 l84 l85 l86 l87=>(opL (A.cell ds75 12) 2).bind fun l88=>(opL (A.cell ds75 13) 5).bind fun l89=>(opI (A.cell ds75 14) .i64).bind fun n90=>(opI (A.cell ds75 15) .i64).bind fun n91=>bif (A.ilt n78 n77)then bif (A.inr n78 (A.rlen l76))then oP A (A.row l76 n78) 0 fun n92 l93 n94 l95 l96 n97 b98 s99 n100 l101=>cutO (bif (A.ieq n92 7)then some (.inl [(.bool (A.ilt 0 (A.rlen l93)))]) else some (.inl [(.bool false)])) fun ds102=>(opB (A.cell ds102 0)).bind fun b103=>cutO (bif b103 then some (.inl [(.bool (A.ile 0 n97))]) else some (.inl [(.bool false)])) fun ds104=>(opB (A.cell ds104 0)).bind fun b105=>cutO (bif b105 then some (.inl [(.bool (A.ilt n97 n90))]) else some (.inl [(.bool false)])) fun ds106=>(opB (A.cell ds106 0)).bind fun b107=>bif b107 then bif (A.inr 0 (A.rlen l93))then (opS (A.cell (A.row l93 0) 0)).bind fun s108=>bif (A.sfit s82 s108)then bif (A.sfit (A.sapp s82 s108) (bs [47]))then (E.call 1000055 (kBe l80 l81 n97 (A.sapp (A.sapp s82 s108) (bs [47])) l79)).bind fun p109=>(opL (A.cell p109.leaves 0) 2).bind fun l111=>bif (A.bnot true)then some (.inr (.inr (.val [(.sl 2 l111)]))) else some (.inl [(.sl 10 l76),(.int .i64 n77),(.int .i64 (A.wrap .i64 (A.add n78 1))),(.sl 2 l111),(.sl 2 l80),(.sl 5 l81),(.str s82),(.str s83),(.sl 5 l84),(.sl 5 l85),(.sl 5 l86),(.sl 10 l87),(.sl 2 l88),(.sl 5 l89),(.int .i64 n90),(.int .i64 n91)]) else none else none else none else some (.inl [(.sl 10 l76),(.int .i64 n77),(.int .i64 (A.wrap .i64 (A.add n78 1))),(.sl 2 l79),(.sl 2 l80),(.sl 5 l81),(.str s82),(.str s83),(.sl 5 l84),(.sl 5 l85),(.sl 5 l86),(.sl 10 l87),(.sl 2 l88),(.sl 5 l89),(.int .i64 n90),(.int .i64 n91)]) else none else some (.inr (.inr (.val [(.sl 2 l79)])))) [(.sl 10 l74),(.int .i64 (A.rlen l74)),(.int .i64 0),(.sl 2 l10),(.sl 2 l11),(.sl 5 l12),(.str s13),(.str s14),(.sl 5 l15),(.sl 5 l16),(.sl 5 l17),(.sl 10 l18),(.sl 2 l11),(.sl 5 l12),(.int .i64 n19),(.int .i64 n19)] else none) [(.sl 10 l5),(.int .i64 (A.rlen l5)),(.int .i64 0),(.sl 2 out_),(.sl 2 en_),(.sl 5 fl_),(.str ah_),(.str s1),(.sl 5 l2),(.sl 5 l3),(.sl 5 l4),(.sl 10 l5),(.int .i64 at_)] else none
def b55_eq (A:Sy)(E:Env)(en_ fl_:LL)(at_:Int)(ah_:BA)(out_:LL):fB A E 55 0 [.agg [.d (.sl 2 en_), .d (.sl 5 fl_)], .d (.int .i64 at_), .d (.str ah_), .fn 56 [.ptr 0 0]] [.cells (.ty 53) [.own 1], .arr 67 2 out_]=b55 A E en_ fl_ at_ ah_ out_:=by kernel_rfl
end
end Go.Vm
end
