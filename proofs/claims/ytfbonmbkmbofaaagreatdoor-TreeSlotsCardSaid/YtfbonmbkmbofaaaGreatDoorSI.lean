/- Part SI of the proof. What is proved by the whole: the statement that the claim names, with no condition. -/
import Derived.Test.YtfbonmbkmbofaaaGreatDoorSH
set_option linter.all false
section
set_option maxRecDepth 100000
set_option maxHeartbeats 4000000
namespace Go.Vm
open Go.Proofs
def srow (s:BA):List D:=[.str s]
def srows (l:List BA):LL:=l.map srow
def inI (a b n:Int):Bool:=decide (a<=n)&&decide (n<=b)
def inI_small (c:Nat):inI 97 122 (c:Int)=smallN c:=by
 unfold inI smallN;rw[Bool.eq_iff_iff];simp only[Bool.and_eq_true,decide_eq_true_eq];omega
def inI_great (c:Nat):inI 65 90 (c:Int)=greatN c:=by
 unfold inI greatN;rw[Bool.eq_iff_iff];simp only[Bool.and_eq_true,decide_eq_true_eq];omega
def inI_digit (c:Nat):inI 48 57 (c:Int)=digitN c:=by
 unfold inI digitN;rw[Bool.eq_iff_iff];simp only[Bool.and_eq_true,decide_eq_true_eq];omega
def inI_big {a b n:Int}(h:b < n):inI a b n=false:=by
 unfold inI;rw[decF (p:=n<=b) (by omega),Bool.and_false]
def c_small (n:Int):cF 129 [.d (.int .i32 n)]=some (.val [.bool (inI 97 122 n)]):=by
 refine cOf (by kernel_rfl) rfl ?_
 rw[g129_eq];simp only[g129,go1];rfl
def c_great (n:Int):cF 132 [.d (.int .i32 n)]=some (.val [.bool (inI 65 90 n)]):=by
 refine cOf (by kernel_rfl) rfl ?_
 rw[g132_eq];simp only[g132,go1];rfl
def c_digit (n:Int):cF 154 [.d (.int .i32 n)]=some (.val [.bool (inI 48 57 n)]):=by
 refine cOf (by kernel_rfl) rfl ?_
 rw[g154_eq];simp only[g154,go1];rfl
def all_snoc {α:Type}{l:List α}{p:Nat}{f:α->Bool}{d:α}(hp:p < l.length)(h:(l.take p).all f=true)(hx:f (l.getD p d)=true):(l.take (p+1)).all f=true:=by
 rw[List.take_add_one,List.all_append,h,List.getElem?_eq_getElem hp];rw[List.getD_eq_getElem?_getD,List.getElem?_eq_getElem hp]at hx
 simpa using hx
def all_false {α:Type}{l:List α}{p:Nat}{f:α->Bool}{d:α}(hp:p < l.length)(hx:f (l.getD p d)=false):l.all f=false:=by
 rw[List.getD_eq_getElem?_getD,List.getElem?_eq_getElem hp]at hx;rw[Bool.eq_false_iff];intro hh;have:=List.all_eq_true.1 hh _ (List.getElem_mem hp);simp at hx;rw[hx]at this;cases this
def nameN_bad {first:Nat->Bool}{l:List Nat}{p:Nat}(hp:p < l.length)(hx:innerN (l.getD p 0)=false):nameN first l=false:=by
 unfold nameN;rw[all_false hp hx,Bool.and_false]
def nameN_first {first:Nat->Bool}{l:List Nat}(hx:first (l.getD 0 0)=false):nameN first l=false:=by
 unfold nameN;rw[hx,Bool.and_false,Bool.false_and]
def size_tb (s:BA):(s.size:Int)=((tb s).length:Int):=by rw[tb_len]
def inner_def (c:Nat):innerN c=(smallN c || greatN c || digitN c || decide (c=95)):=rfl
def inner_big {c:Nat}(h:128<=c):innerN c=false:=by
 unfold innerN smallN greatN digitN;simp;omega
def c_name (s:BA):cF 128 [.d (.str s), .fn 129 []]=some (.val [.bool (nameN smallN (tb s))]):=by
 refine cOf (by kernel_rfl) rfl ?_
 rw[g128_129_eq];simp only[g128_129,go1];refine loopF_at (fun p:Nat=>[.str s, .str s, .int .i64 (p:Int)]) (fun p=>p<=(tb s).length/\((tb s).take p).all innerN=true/\(0 < p->smallN ((tb s).getD 0 0)=true)) (fun p=>(tb s).length - p) (fun p hp=> ?_) 0 ⟨Nat.zero_le _,by simp,by omega⟩
 obtain⟨hle,hall,hfst⟩:=hp
 by_cases hlt:p < (tb s).length
 ·by_cases hc:(tb s).getD p 0 < 128
  ·obtain⟨e1,e2⟩:=dec_small hc;simp only[go1,size_tb,ilt_at hlt,sy_rdec,sy_rwid,e1,e2,c_small,c_great,c_digit,inI_small,inI_great,inI_digit];have hi:=inner_def ((tb s).getD p 0)
   by_cases h0:p=0
   ·subst h0;cases hs:smallN ((tb s).getD 0 0)with
    |false=>
     right
     rw[nameN_first hs];simp only[go1];rfl
    |true=>
     left
     rw[hs]at hi;refine⟨0+1,?_,⟨hlt,all_snoc hlt hall (by rw[hi];rfl),fun _=>(by first|rfl|exact hs)⟩,by omega⟩
     simp only[go1];rfl
   ·rw[decF (p:=(p:Int)=0) (by omega)]
    cases hin:innerN ((tb s).getD p 0)with
    |false=>
     right
     rw[nameN_bad hlt hin];rw[hin]at hi;have hi:=hi.symm;simp only[Bool.or_eq_false_iff]at hi;obtain⟨⟨⟨i1,i2⟩,i3⟩,i4⟩:=hi;have i4': ¬(((tb s).getD p 0:Nat):Int)=95:=by
      have:=of_decide_eq_false i4;omega
     rw[decF i4'];simp only[i1,i2,i3,go1]
    |true=>
     left
     refine⟨p+1,?_,⟨hlt,all_snoc hlt hall hin,fun _=>hfst (by omega)⟩,by omega⟩
     rw[hin]at hi;cases i1:smallN ((tb s).getD p 0)<;>cases i2:greatN ((tb s).getD p 0)<;>cases i3:digitN ((tb s).getD p 0)<;>rw[i1,i2,i3]at hi<;>simp only[go1]<;>(try rfl)
     all_goals
      simp only[Bool.or_self,Bool.false_or]at hi;have i4:=of_decide_eq_true hi.symm;rw[decT (p:=(((tb s).getD p 0:Nat):Int)=95) (by omega)]
      rfl
  ·have hb:=dec_big (s:=s) (i:=p) (by omega)
   right
   have hin:innerN ((tb s).getD p 0)=false:=by
    exact inner_big (by omega)
   rw[nameN_bad hlt hin];have hz: ¬decR s (p:Int)=95:=by omega
   simp only[go1,size_tb,ilt_at hlt,sy_rdec,sy_rwid,c_small,c_great,c_digit,inI_big (a:=97) (b:=122) (n:=decR s (p:Int)) (by omega),inI_big (a:=65) (b:=90) (n:=decR s (p:Int)) (by omega),inI_big (a:=48) (b:=57) (n:=decR s (p:Int)) (by omega)]
   cases decide ((p:Int)=0)
   ·simp only[cond_true,cond_false];simp[hz]
   ·rfl
 ·right
  have:p=(tb s).length:=by omega
  subst this;simp only[go1,size_tb,ilt_self];rw[List.take_length]at hall;unfold nameN;rw[hall,Bool.and_true]
  by_cases h0:0 < (tb s).length
  ·rw[hfst h0,Bool.and_true]
   by_cases h12:(tb s).length<=12
   ·rw[decT (p:=1<=((tb s).length:Int)) (by omega),decT (p:=((tb s).length:Int)<=12) (by omega),decT (p:=1<=(tb s).length) (by omega),decT h12]
    first|done|rfl
   ·rw[decT (p:=1<=((tb s).length:Int)) (by omega),decF (p:=((tb s).length:Int)<=12) (by omega),decF h12]
    first|done|rfl|simp
  ·rw[decF (p:=1<=((tb s).length:Int)) (by omega),decF (p:=1<=(tb s).length) (by omega)]
   first|done|rfl|simp
def srows_len (l:List BA):(srows l).length=l.length:=by simp[srows]
def srows_app (a b:List BA):srows a++srows b=srows (a++b):=by simp[srows]
def srows_row {l:List BA}{i:Nat}{x:BA}(h:l[i]? =some x):sy.row (srows l) (i:Int)= [.str x]:=by
 rw[sy_row,Int.toNat_natCast,List.getD_eq_getElem?_getD];unfold srows;rw[List.getElem?_map,h];rfl
def srows_at {l:List BA}{i:Nat}{x:BA}(h:l[i]? =some x):sy.cell (sy.row (srows l) (i:Int)) 0=some (.str x):=by rw[srows_row h];rfl
def idxZ (c:Nat)(l:List Nat):Int:=match idxN c l with
 |none=> -1
 |some i=>i
def idxZ_lib (c:UInt8): ∀l:List UInt8,Lib.indexByte l c=idxZ c.toNat (l.map UInt8.toNat)
 | []=>rfl
 |b::l=>by
  unfold Lib.indexByte idxZ;rw[List.map_cons,idxN];have ih:=idxZ_lib c l
  by_cases h:b=c
  ·subst h;simp
  ·have h1: ¬b.toNat=c.toNat:=fun e=>h (UInt8.toNat_inj.1 e)
   have h2:(b == c)=false:=by simp[h]
   rw[h2,if_neg h1,ih];unfold idxZ;cases idxN c.toNat (l.map UInt8.toNat)with
   |none=>rfl
   |some i=>
    have:((i:Int) == -1)=false:=by rw[beq_eq_false_iff_ne];omega
    simp[this]
def sidx_tb (s:BA)(m:UInt8):sy.sidx s ((m.toNat:Nat):Int)=idxZ m.toNat (tb s):=by
 rw[sy_sidx,Int.toNat_natCast,idxZ_lib];have:m.toNat.toUInt8=m:=by simp
 rw[this];rfl
def slen_bs (l:List UInt8):((bs l).size:Int)=l.length:=by
 show((l.toArray.size:Nat):Int)=_;simp
def c_liteIndex (s:BA)(m:UInt8):cF 189 [.d (.str s), .d (.str (bs [m]))]=some (.val [.int .i64 (idxZ m.toNat (tb s))]):=by
 have h72:cF 212 [.d (.str s), .d (.int .u8 (sy.sbyte (bs [m]) 0))]=some (.val [.int .i64 (idxZ m.toNat (tb s))]):=by
  refine cOf (by kernel_rfl) rfl ?_
  rw[g212_eq];simp only[g212,go1];show some (PRes.val [D.int .i64 (sy.sidx s ((m.toNat:Nat):Int))])=_;rw[sidx_tb]
 refine cOf (by kernel_rfl) rfl ?_
 rw[g189_eq];unfold g189;have e1:sy.ieq (sy.slen (bs [m])) 0=false:=rfl;have e2:sy.ieq (sy.slen (bs [m])) 1=true:=rfl;have e3:sy.inr 0 (sy.slen (bs [m]))=true:=rfl;rw[<-eF_call]at h72;cases h:sy.seq (bs [m]) s with
 |true=>
  have:tb (bs [m])=tb s:=by
   rw[sy_seq,seq_tb]at h;exact of_decide_eq_true h
  have hz:idxZ m.toNat (tb s)=0:=by
   rw[<-this];unfold idxZ tb bs;simp[idxN]
  rw[hz]
  repeat' (first|with_reducible exact st_some|with_reducible apply st_cut|with_reducible apply st_bind|((with_reducible apply st_t);(first|with_reducible exact e1|with_reducible exact h|rfl))|((with_reducible apply st_f);(first|with_reducible exact e1|with_reducible exact h|rfl))|with_reducible apply st_lp|with_reducible apply st_inl|with_reducible exact st_inr|with_reducible apply st_opI|with_reducible apply st_opB|with_reducible apply st_opL|rfl)
 |false=>
  repeat' (first|with_reducible exact st_some|with_reducible apply st_cut|with_reducible apply st_bind|((with_reducible apply st_t);(first|with_reducible exact e1|with_reducible exact e2|with_reducible exact e3|with_reducible exact h|rfl))|((with_reducible apply st_f);(first|with_reducible exact e1|with_reducible exact e2|with_reducible exact e3|with_reducible exact h|rfl))|with_reducible apply st_lp|with_reducible apply st_inl|with_reducible exact st_inr|with_reducible apply st_opI|with_reducible apply st_opB|with_reducible apply st_opL|exact h72|rfl)
def c_Index (s:BA)(m:UInt8):cF 152 [.d (.str s), .d (.str (bs [m]))]=some (.val [.int .i64 (idxZ m.toNat (tb s))]):=by
 have:=c_liteIndex s m;refine cOf (by kernel_rfl) rfl ?_
 rw[g152_eq];simp only[g152,go1,this]
def idxZ_bd (c:Nat)(l:List Nat):idxZ c l= -1/\idxN c l=none\/ ∃i:Nat,idxZ c l=i/\idxN c l=some i/\i < l.length:=by
 unfold idxZ;cases h:idxN c l with
 |none=>exact .inl ⟨rfl,rfl⟩
 |some i=>exact .inr ⟨i,rfl,rfl,(idxN_some h).1⟩
def c_Cut (s:BA)(m:UInt8)(hs:s.size<=100000): ∃a b f,cF 104 [.d (.str s), .d (.str (bs [m]))]=some (.val [.str a, .str b, .bool f])/\
  ((f=false/\idxN m.toNat (tb s)=none/\tb a=tb s)\/(f=true/\ ∃i,idxN m.toNat (tb s)=some i/\tb a=(tb s).take i/\tb b=(tb s).drop (i+1))):=by
 have hI:=c_liteIndex s m;have hl:=tb_len s;rcases idxZ_bd m.toNat (tb s)with⟨hz,hn⟩|⟨i,hz,hn,hi⟩
 ·refine⟨s,bs [],false,?_, .inl ⟨rfl,hn,rfl⟩⟩;rw[hz]at hI;have h60:cF 153 [.d (.str s), .d (.str (bs [m]))]=some (.val [.str s, .str (bs []), .bool false]):=by
   refine cOf (by kernel_rfl) rfl ?_
   rw[g153_eq];simp only[g153,go1,Int.reduceLE,hI]
  refine cOf (by kernel_rfl) rfl ?_
  rw[g104_eq];simp only[g104,go1,h60]
 ·rw[hz]at hI;have h60:cF 153 [.d (.str s), .d (.str (bs [m]))]=some (.val [.str (s.extract (0:Int).toNat ((i:Nat):Int).toNat), .str (s.extract ((i:Int)+1).toNat ((s.size:Nat):Int).toNat), .bool true]):=by
   refine cOf (by kernel_rfl) rfl ?_
   rw[g153_eq];simp only[g153,go1,Int.reduceLE,hI,slen_bs];rw[decT (p:=0<=(i:Int)) (by omega),decT (p:=0<=(i:Int)/\(i:Int)<=(s.size:Int)) (by omega)]
   have hw:IntKind.i64.wrap ((i:Int)+((([m]:List UInt8).length:Nat):Int))=(i:Int)+1:=by
    rw[show((([m]:List UInt8).length:Nat):Int)=1 from rfl,wrap_id (by omega) (by omega)]
   rw[hw,decT (p:=0<=(i:Int)+1/\(i:Int)+1<=(s.size:Int)/\(s.size:Int)<=(s.size:Int)) (by omega)]
   rfl
  refine⟨s.extract (0:Int).toNat ((i:Nat):Int).toNat,s.extract ((i:Int)+1).toNat ((s.size:Nat):Int).toNat,true,?_, .inr ⟨rfl,i,hn,?_,?_⟩⟩
  ·refine cOf (by kernel_rfl) rfl ?_
   rw[g104_eq];simp only[g104,go1,h60]
  ·rw[tb_scut];simp
  ·rw[tb_scut];have e1:((i:Int)+1).toNat=i+1:=by omega
   rw[e1,Int.toNat_natCast,<-hl,List.take_length]
def wordsL:List BA:=[bs [110,111,100,101],bs [114,101,116,117,114,110,115],bs [118,97,114],bs [108,101,116],bs [116,101,108],bs [101,110,117,109],bs [105,102],bs [116,104,101,110],bs [101,108,115,101],bs [102,98,121],bs [112,114,101],bs [119,104,101,110],bs [109,101,114,103,101],bs [101,118,101,114,121],bs [110,111,116],bs [97,110,100],bs [111,114],bs [120,111,114],bs [109,111,100],bs [116,114,117,101],bs [102,97,108,115,101],bs [105,110,116],bs [98,111,111,108],bs [119,105,116,104]]
def wordsL_tb:wordsL.map tb=wordsB:=by decide+kernel
def wordN_any (s:BA):wordN (tb s)=wordsL.any fun w=>decide (tb s=tb w):=by
 unfold wordN;rw[<-wordsL_tb,List.contains_eq_any_beq,List.any_map];congr 1;funext w;rw[Bool.eq_iff_iff];simp
def c_Word (s:BA):cF 130 [.d (.str s)]=some (.val [.bool (wordN (tb s))]):=by
 rw[wordN_any];refine cOf (by kernel_rfl) rfl ?_
 rw[g130_eq];simp only[g130,go1];unfold wordsL;simp only[seq_tb,List.any_cons,List.any_nil,Bool.or_false];cases decide (tb s=tb (bs [110,111,100,101]))<;>simp only[cond_true,cond_false,Bool.true_or,Bool.false_or]
 cases decide (tb s=tb (bs [114,101,116,117,114,110,115]))<;>simp only[cond_true,cond_false,Bool.true_or,Bool.false_or]
 cases decide (tb s=tb (bs [118,97,114]))<;>simp only[cond_true,cond_false,Bool.true_or,Bool.false_or]
 cases decide (tb s=tb (bs [108,101,116]))<;>simp only[cond_true,cond_false,Bool.true_or,Bool.false_or]
 cases decide (tb s=tb (bs [116,101,108]))<;>simp only[cond_true,cond_false,Bool.true_or,Bool.false_or]
 cases decide (tb s=tb (bs [101,110,117,109]))<;>simp only[cond_true,cond_false,Bool.true_or,Bool.false_or]
 cases decide (tb s=tb (bs [105,102]))<;>simp only[cond_true,cond_false,Bool.true_or,Bool.false_or]
 cases decide (tb s=tb (bs [116,104,101,110]))<;>simp only[cond_true,cond_false,Bool.true_or,Bool.false_or]
 cases decide (tb s=tb (bs [101,108,115,101]))<;>simp only[cond_true,cond_false,Bool.true_or,Bool.false_or]
 cases decide (tb s=tb (bs [102,98,121]))<;>simp only[cond_true,cond_false,Bool.true_or,Bool.false_or]
 cases decide (tb s=tb (bs [112,114,101]))<;>simp only[cond_true,cond_false,Bool.true_or,Bool.false_or]
 cases decide (tb s=tb (bs [119,104,101,110]))<;>simp only[cond_true,cond_false,Bool.true_or,Bool.false_or]
 cases decide (tb s=tb (bs [109,101,114,103,101]))<;>simp only[cond_true,cond_false,Bool.true_or,Bool.false_or]
 cases decide (tb s=tb (bs [101,118,101,114,121]))<;>simp only[cond_true,cond_false,Bool.true_or,Bool.false_or]
 cases decide (tb s=tb (bs [110,111,116]))<;>simp only[cond_true,cond_false,Bool.true_or,Bool.false_or]
 cases decide (tb s=tb (bs [97,110,100]))<;>simp only[cond_true,cond_false,Bool.true_or,Bool.false_or]
 cases decide (tb s=tb (bs [111,114]))<;>simp only[cond_true,cond_false,Bool.true_or,Bool.false_or]
 cases decide (tb s=tb (bs [120,111,114]))<;>simp only[cond_true,cond_false,Bool.true_or,Bool.false_or]
 cases decide (tb s=tb (bs [109,111,100]))<;>simp only[cond_true,cond_false,Bool.true_or,Bool.false_or]
 cases decide (tb s=tb (bs [116,114,117,101]))<;>simp only[cond_true,cond_false,Bool.true_or,Bool.false_or]
 cases decide (tb s=tb (bs [102,97,108,115,101]))<;>simp only[cond_true,cond_false,Bool.true_or,Bool.false_or]
 cases decide (tb s=tb (bs [105,110,116]))<;>simp only[cond_true,cond_false,Bool.true_or,Bool.false_or]
 cases decide (tb s=tb (bs [98,111,111,108]))<;>simp only[cond_true,cond_false,Bool.true_or,Bool.false_or]
 cases decide (tb s=tb (bs [119,105,116,104]))<;>simp only[cond_true,cond_false]
def c_Low (s:BA):cF 78 [.d (.str s)]=some (.val [.bool (lowN (tb s))]):=by
 have h1:=c_name s;have h2:=c_Word s;refine cOf (by kernel_rfl) rfl ?_
 rw[g78_eq];simp only[g78,go1,h1,h2];rfl
def numN_bad {l:List Nat}{p:Nat}(hp:p < l.length)(hx:digitN (l.getD p 0)=false):numN l=false:=by
 unfold numN;rw[all_false hp hx,Bool.and_false]
def c_number (s:BA):cF 105 [.d (.str s)]=some (.val [.bool (numN (tb s))]):=by
 refine cOf (by kernel_rfl) rfl ?_
 rw[g105_eq];simp only[g105,go1];refine loopF_at (fun p:Nat=>[.str s, .str s, .int .i64 (p:Int)]) (fun p=>p<=(tb s).length/\((tb s).take p).all digitN=true/\(0 < p->(tb s).getD 0 0≠48)) (fun p=>(tb s).length - p) (fun p hp=> ?_) 0 ⟨Nat.zero_le _,by simp,by omega⟩
 obtain⟨hle,hall,hfst⟩:=hp
 by_cases hlt:p < (tb s).length
 ·by_cases hc:(tb s).getD p 0 < 128
  ·obtain⟨e1,e2⟩:=dec_small hc;simp only[go1,size_tb,ilt_at hlt,sy_rdec,sy_rwid,e1,e2,c_digit,inI_digit];cases hin:digitN ((tb s).getD p 0)with
   |false=>
    right
    rw[numN_bad hlt hin];simp only[go1]
   |true=>
    by_cases h0:p=0
    ·subst h0
     by_cases h48:(tb s).getD 0 0=48
     ·right
      have:numN (tb s)=false:=by unfold numN;rw[decT h48];simp
      rw[this,decT (p:=(((tb s).getD 0 0:Nat):Int)=48) (by omega)]
      simp only[go1];rfl
     ·left
      refine⟨0+1,?_,⟨hlt,all_snoc hlt hall hin,fun _=>h48⟩,by omega⟩
      rw[decF (p:=(((tb s).getD 0 0:Nat):Int)=48) (by omega)]
      simp only[go1];rfl
    ·left
     refine⟨p+1,?_,⟨hlt,all_snoc hlt hall hin,fun _=>hfst (by omega)⟩,by omega⟩
     rw[decF (p:=(p:Int)=0) (by omega)]
     simp only[go1];rfl
  ·have hb:=dec_big (s:=s) (i:=p) (by omega)
   right
   have hin:digitN ((tb s).getD p 0)=false:=by
    have:128<=(tb s).getD p 0:=by omega
    generalize (tb s).getD p 0=c at this;unfold digitN;simp;omega
   rw[numN_bad hlt hin];simp only[go1,size_tb,ilt_at hlt,sy_rdec,sy_rwid,c_digit,inI_big (a:=48) (b:=57) (n:=decR s (p:Int)) (by omega)]
 ·right
  have:p=(tb s).length:=by omega
  subst this;simp only[go1,size_tb,ilt_self];rw[List.take_length]at hall;unfold numN;rw[hall,Bool.and_true]
  by_cases h0:0 < (tb s).length
  ·rw[decF (hfst h0),decT (p:=1<=((tb s).length:Int)) (by omega),decT (p:=1<=(tb s).length) (by omega)]
   by_cases h3:(tb s).length<=3
   ·rw[decT (p:=((tb s).length:Int)<=3) (by omega),decT h3];rfl
   ·rw[decF (p:=((tb s).length:Int)<=3) (by omega),decF h3];rfl
  ·rw[decF (p:=1<=((tb s).length:Int)) (by omega),decF (p:=1<=(tb s).length) (by omega)]
   rfl
def c_part (s:BA)(hs:s.size<=100000):cF 61 [.d (.str s)]=some (.val [.bool (partN (tb s))]):=by
 obtain⟨a,b,f,h1,h2⟩:=c_Cut s 46 hs;have h3:=c_Low a;have h4:=c_number b;rw[partN_cut];rcases h2 with⟨rfl,hn,ha⟩|⟨rfl,i,hn,ha,hb⟩
 ·rw[ha]at h3;have hn:idxN 46 (tb s)=none:=hn;rw[hn];refine cOf (by kernel_rfl) rfl ?_
  rw[g61_eq];simp only[g61,go1,h1,h3]
  try (cases lowN (tb s)<;>rfl)
 ·rw[ha]at h3;rw[hb]at h4;have hn:idxN 46 (tb s)=some i:=hn;rw[hn];refine cOf (by kernel_rfl) rfl ?_
  rw[g61_eq];simp only[g61,go1,h1,h3,h4]
  try (cases lowN ((tb s).take i)<;>rfl)
def cnt_map (c:UInt8): ∀l:List UInt8,(l.map UInt8.toNat).count c.toNat=l.count c
 | []=>rfl
 |b::l=>by
  rw[List.map_cons,List.count_cons,List.count_cons,cnt_map c l]
  by_cases h:b=c
  ·subst h;simp
  ·have h1:(b.toNat == c.toNat)=false:=by
    rw[beq_eq_false_iff_ne];exact fun e=>h (UInt8.toNat_inj.1 e)
   have h2:(b == c)=false:=by simp[h]
   rw[h1,h2]
def scnt_tb (s:BA)(m:UInt8):sy.scnt s ((m.toNat:Nat):Int)=(((tb s).count m.toNat:Nat):Int):=by
 rw[sy_scnt,Int.toNat_natCast];have:m.toNat.toUInt8=m:=by simp
 rw[this];unfold Lib.countByte tb;rw[cnt_map]
def c_Count (s:BA)(m:UInt8):cF 151 [.d (.str s), .d (.str (bs [m]))]=some (.val [.int .i64 (((tb s).count m.toNat:Nat):Int)]):=by
 refine cOf (by kernel_rfl) rfl ?_
 rw[g151_eq];unfold g151;have e1:sy.ieq (sy.slen (bs [m])) 0=false:=rfl;have e2:sy.ieq (sy.slen (bs [m])) 1=true:=rfl;have e3:sy.inr 0 (sy.slen (bs [m]))=true:=rfl;rw[<-scnt_tb]
 repeat' (first|with_reducible exact st_some|with_reducible apply st_cut|with_reducible apply st_bind|((with_reducible apply st_t);(first|with_reducible exact e1|with_reducible exact e2|with_reducible exact e3|rfl))|((with_reducible apply st_f);(first|with_reducible exact e1|with_reducible exact e2|with_reducible exact e3|rfl))|with_reducible apply st_lp|with_reducible apply st_inl|with_reducible exact st_inr|with_reducible apply st_opI|with_reducible apply st_opB|with_reducible apply st_opL|rfl)
def splitN_len (c:Nat): ∀l:List Nat,(splitN c l).length=l.count c+1
 | []=>rfl
 |x::xs=>by
  unfold splitN;have ih:=splitN_len c xs;rw[List.count_cons]
  by_cases h:x=c
  ·subst h;simp[ih]
  ·rw[if_neg h];have h2:(x == c)=false:=by simp[h]
   rw[h2];cases hq:splitN c xs with
   |nil=>exact absurd hq (splitN_ne c xs)
   |cons p ps=>rw[hq]at ih;simpa using ih
def cnt_idx {c:Nat}{l:List Nat}{j:Nat}(h:idxN c l=some j):l.count c=(l.drop (j+1)).count c+1:=by
 obtain⟨h1,h2,h3⟩:=idxN_some h
 conv=>lhs;rw[h2]
 rw[List.count_append,List.count_cons,List.count_eq_zero.2 (fun hm=>h3 c hm rfl)]
 simp
def cnt_none {c:Nat}{l:List Nat}(h:idxN c l=none):l.count c=0:=List.count_eq_zero.2 fun hm=>idxN_none h c hm rfl
def zrow:List D:=[.str (bs [])]
def rows_put (d:List BA)(k:Nat)(x:BA):sy.rput (srows d++List.replicate (k+1) zrow) d.length 0 [.str x]=srows (d++[x])++List.replicate k zrow:=by
 have hg:(srows d++List.replicate (k+1) zrow).getD d.length []=zrow:=by
  rw[List.getD_eq_getElem?_getD,List.getElem?_append_right (by rw[srows_len];exact Nat.le_refl _),srows_len,Nat.sub_self]
  simp
 show(srows d++List.replicate (k+1) zrow).set d.length (((srows d++List.replicate (k+1) zrow).getD d.length []).take 0++[.str x]++((srows d++List.replicate (k+1) zrow).getD d.length []).drop (0+1))=_;rw[hg,List.set_append_right _ _ (by rw[srows_len];exact Nat.le_refl _),srows_len,Nat.sub_self,List.replicate_succ]
 rw[show(zrow.take 0++[D.str x]++zrow.drop (0+1))= [D.str x]from rfl];simp[srows,srow]
def c_genSplit (s:BA)(hs:s.size<=100000): ∃p,cF 103 [.d (.str s), .d (.str (bs [47])), .d (.int .i64 0), .d (.int .i64 (-1))]=some p/\ ∃l:List BA,p= .own 9 1 (srows l)/\l.map tb=splitN 47 (tb s):=by
 have hc:=c_Count s 47;have hI:=fun r=>c_Index r 47
 have hl:=tb_len s;have h47:(47:UInt8).toNat=47:=rfl;rw[h47]at hc;have hcl:(tb s).count 47<=(tb s).length:=List.count_le_length;refine cOfP (by kernel_rfl) rfl ?_
 rw[g103_eq];unfold g103;generalize hN:(tb s).count 47=N at hc hcl;have hw:sy.imin (sy.wrap .i64 (sy.add ((N:Nat):Int) 1)) (sy.wrap .i64 (sy.add (sy.slen s) 1))=((N+1:Nat):Int):=by
  show min (IntKind.i64.wrap ((N:Int)+1)) (IntKind.i64.wrap ((s.size:Int)+1))=_;rw[wrap_id (by omega) (by omega),wrap_id (by omega) (by omega)]
  omega
 have z1:sy.ieq (-1) 0=false:=rfl;have z2:sy.seq (bs [47]) (bs [])=false:=by rw[sy_seq,seq_tb];rfl
 have z3:sy.ilt (-1) 0=true:=rfl;simp only[z1,z2,z3,cond_true,cond_false,eF_call,hc,Option.bind_some,leaves_val,sy_cell0,opI_int,hw];have z4:sy.mkok ((N+1:Nat):Int) ((N+1:Nat):Int) 16=true:=decide_eq_true ⟨rfl,by omega,by omega⟩
 rw[z4,cond_true,eF_lp];have z5:sy.wrap .i64 (sy.sub ((N+1:Nat):Int) 1)=(N:Int):=by
  show IntKind.i64.wrap (((N+1:Nat):Int) - 1)=_;rw[wrap_id (by omega) (by omega)];omega
 rw[z5];have z6:sy.rep ((N+1:Nat):Int) [D.str (bs [])]=srows []++List.replicate (N+1) zrow:=by
  rw[sy_rep,Int.toNat_natCast];rfl
 rw[z6];refine loopF_ex (fun x:List BA × BA × Nat=>[.str x.2.1, .str (bs [47]), .int .i64 0, .int .i64 (N:Int), .int .i64 (x.1.length:Int), .sl 1 (srows x.1++List.replicate (x.2.2+1) zrow)])
  (fun x=>splitN 47 (tb s)=x.1.map tb++splitN 47 (tb x.2.1)/\x.2.2=(tb x.2.1).count 47/\x.1.length+x.2.2=N/\x.2.1.size<=100000) (fun x=>(tb x.2.1).length) (fun x hx=> ?_) ([],s,N) ⟨rfl,hN.symm,by simp,hs⟩
 obtain⟨done,rest,k⟩:=x;obtain⟨h1,hk,h2,h3⟩:=hx;simp only at h1 hk h2 h3;have hr:=tb_len rest;have hIr:=hI rest;rw[h47]at hIr;have hput:=rows_put done k;have f2:sy.inr (done.length:Int) (sy.rlen (srows done++List.replicate (k+1) zrow))=true:=decide_eq_true (by
  rw[sy_rlen,List.length_append,srows_len,List.length_replicate];omega)
 have f3:sy.inrn (sy.nat (done.length:Int)) (srows done++List.replicate (k+1) zrow)=true:=decide_eq_true (by
  rw[List.length_append,srows_len,List.length_replicate];show(done.length:Int).toNat < _;omega)
 have hw1:sy.wrap .i64 (sy.add (done.length:Int) 1)=((done.length+1:Nat):Int):=by
  show IntKind.i64.wrap ((done.length:Int)+1)=_;rw[wrap_id (by omega) (by omega)];rfl
 have hnat:sy.nat (done.length:Int)=done.length:=Int.toNat_natCast _;rcases idxZ_bd 47 (tb rest)with⟨hz,hn⟩|⟨j,hz,hn,hj⟩
 ·right
  have hk0:=cnt_none hn;rw[hk0]at hk;subst hk;have f1:sy.ilt (done.length:Int) (N:Int)=false:=decide_eq_false (by omega)
  have f4:sy.cutok 0 (sy.wrap .i64 (sy.add (done.length:Int) 1)) (sy.rlen (sy.rput (srows done++List.replicate (0+1) zrow) (sy.nat (done.length:Int)) 0 [.str rest]))=true:=by
   rw[hw1,hnat,hput];exact decide_eq_true (by rw[sy_rlen,List.length_append,srows_len,List.length_append];simp;omega)
  apply viaR
  ·repeat' (first|with_reducible exact st_some|with_reducible apply st_cut|with_reducible apply st_bind|((with_reducible apply st_t);(first|with_reducible exact f1|with_reducible exact f2|with_reducible exact f3|with_reducible exact f4|rfl))|((with_reducible apply st_f);(first|with_reducible exact f1|with_reducible exact f2|with_reducible exact f3|with_reducible exact f4|rfl))|with_reducible apply st_lp|with_reducible apply st_inl|with_reducible exact st_inr|with_reducible apply st_opI|with_reducible apply st_opB|with_reducible apply st_opL|rfl)
  ·refine⟨done++[rest],?_,?_⟩
   ·rw[hw1,hnat,hput];show PRes.own 9 1 ((srows (done++[rest])++List.replicate 0 zrow).take ((done.length+1:Nat):Int).toNat)=_;rw[List.replicate_zero,List.append_nil,Int.toNat_natCast,List.take_of_length_le (by rw[srows_len];simp)]
   ·rw[h1,splitN_none 47 _ (idxN_none hn)];simp
 ·left
  have hc2:=cnt_idx hn;have hd:=tb_scut rest ((j:Int)+1) (rest.size:Int);have hd0:=tb_scut rest 0 (j:Int);have e1:((j:Int)+1).toNat=j+1:=by omega
  rw[e1,Int.toNat_natCast,<-hr,List.take_length]at hd;rw[Int.toNat_natCast]at hd0;have hw2:sy.wrap .i64 (sy.add (j:Int) 0)=(j:Int):=by
   show IntKind.i64.wrap ((j:Int)+0)=_;rw[wrap_id (by omega) (by omega)];omega
  have hw3:sy.wrap .i64 (sy.add (j:Int) (sy.slen (bs [47])))=(j:Int)+1:=by
   show IntKind.i64.wrap ((j:Int)+1)=_;rw[wrap_id (by omega) (by omega)]
  have f1:sy.ilt (done.length:Int) (N:Int)=true:=decide_eq_true (by omega)
  have g1:sy.ilt (j:Int) 0=false:=decide_eq_false (show ¬(j:Int) < 0 by omega)
  have g2:sy.cutok 0 (sy.wrap .i64 (sy.add (j:Int) 0)) (sy.slen rest)=true:=by
   rw[hw2];exact decide_eq_true (by rw[sy_slen];omega)
  have g9900003:sy.cutok (sy.wrap .i64 (sy.add (j:Int) (sy.slen (bs [47])))) (sy.slen rest) (sy.slen rest)=true:=by
   rw[hw3];exact decide_eq_true (by rw[sy_slen];omega)
  rw[hz]at hIr;obtain⟨k',rfl⟩: ∃k',k=k'+1:=⟨k - 1,by omega⟩
  refine⟨(done++[rest.extract (0:Int).toNat (j:Int).toNat],rest.extract (j+1) (tb rest).length,k'),?_,⟨?_,?_,?_,?_⟩,?_⟩
  ·apply viaL
   ·repeat' (first|with_reducible exact st_some|with_reducible apply st_cut|with_reducible apply st_bind|((with_reducible apply st_t);(first|with_reducible exact f1|with_reducible exact f2|with_reducible exact f3|with_reducible exact g1|with_reducible exact g2|with_reducible exact g9900003|rfl))|((with_reducible apply st_f);(first|with_reducible exact f1|with_reducible exact f2|with_reducible exact f3|with_reducible exact g1|with_reducible exact g2|with_reducible exact g9900003|rfl))|with_reducible apply st_lp|with_reducible apply st_inl|with_reducible exact st_inr|with_reducible apply st_opI|with_reducible apply st_opB|with_reducible apply st_opL|exact hIr|rfl)
   ·rw[hw1,hw2,hw3,hnat,hput];simp only[sy_scut,sy_slen,e1,Int.toNat_natCast,hr,List.length_append,List.length_singleton]
  ·rw[h1];simp only[List.map_append,List.map_cons,List.map_nil];rw[show(j:Int).toNat=j from Int.toNat_natCast j]at*;rw[hd0,hd];obtain⟨i1,i2,i3⟩:=idxN_some hn
   conv=>lhs;rw[i2,splitN_mark 47 _ _ i3]
   simp
  ·simp only;rw[hd];omega
  ·simp;omega
  ·simp only;have:=tb_len (rest.extract (j+1) (tb rest).length);rw[<-this,hd,List.length_drop];omega
  ·simp only;rw[hd,List.length_drop];omega
def c_Split (s:BA)(hs:s.size<=100000): ∃l:List BA,cF 60 [.d (.str s), .d (.str (bs [47]))]=some (.val [.sl 1 (srows l)])/\l.map tb=splitN 47 (tb s):=by
 obtain⟨_,h,l,rfl,hl⟩:=c_genSplit s hs;refine⟨l,?_,hl⟩;refine cOf (by kernel_rfl) rfl ?_
 rw[g60_eq];simp only[g60,go1,h]
def mem_size {s:BA}{l:List BA}(hl:l.map tb=splitN 47 (tb s)): ∀x∈l,x.size<=s.size:=by
 have key: ∀(c:Nat) (t:List Nat),∀p∈splitN c t,p.length<=t.length:=by
  intro c t
  induction t with
  |nil=>intro p hp;simp[splitN]at hp;simp[hp]
  |cons x xs ih=>
   intro p hp;unfold splitN at hp;split at hp
   ·rcases List.mem_cons.1 hp with rfl|hp
    ·simp
    ·have:=ih p hp;simp;omega
   ·split at hp
    ·simp at hp;simp[hp]
    ·rename_i q qs hq;rcases List.mem_cons.1 hp with rfl|hp
     ·have:=ih q (by rw[hq];exact List.mem_cons_self);simp;omega
     ·have:=ih p (by rw[hq];exact List.mem_cons_of_mem _ hp);simp;omega
 intro x hx;have:=key 47 (tb s) (tb x) (by rw[<-hl];exact List.mem_map_of_mem hx)
 rw[tb_len,tb_len]at this;exact this
def c_Path (s:BA)(hs:s.size<=100000):cF 30 [.d (.str s)]=some (.val [.bool (pathN (tb s))]):=by
 obtain⟨l,h,hl⟩:=c_Split s hs;have hsz:=mem_size hl;have hll:l.length<=100001:=by
  have:=congrArg List.length hl;rw[List.length_map,splitN_len]at this;have h2:(tb s).count 47<=(tb s).length:=List.count_le_length;rw[tb_len]at h2;omega
 unfold pathN;rw[<-hl,List.all_map];refine cOf (by kernel_rfl) rfl ?_
 rw[g30_eq];simp only[g30,go1,h,srows_len];refine loopF_at (fun i:Nat=>[.sl 1 (srows l), .int .i64 (l.length:Int), .int .i64 (i:Int)]) (fun i=>i<=l.length/\(l.take i).all (partN ∘ tb)=true) (fun i=>l.length - i) (fun i hi=> ?_) 0 ⟨Nat.zero_le _,by simp⟩
 by_cases hlt:i < l.length
 ·have hx:=List.getElem?_eq_getElem hlt;have hp:=c_part l[i] (Nat.le_trans (hsz _ (List.getElem_mem hlt)) hs);have hgd:l.getD i ByteArray.empty=l[i]:=by rw[List.getD_eq_getElem?_getD,hx];rfl
  simp only[go1,srows_len,ilt_at hlt,inr_at hlt,srows_at hx,hp,wrap_succ hlt (by omega)]
  cases hb:partN (tb l[i])with
  |false=>
   right
   rw[all_false (d:=ByteArray.empty) hlt (by rw[hgd];exact hb)]
   simp only[go1]
  |true=>
   left
   refine⟨i+1,?_,⟨hlt,all_snoc (d:=ByteArray.empty) hlt hi.2 (by rw[hgd];exact hb)⟩,by omega⟩
   simp only[go1];rfl
 ·right
  have:i=l.length:=by omega
  subst this;simp only[go1,ilt_self];rw[List.take_length]at hi;rw[hi.2]
def byte_tb (s:BA)(i:Nat):(s.data.getD ((i:Nat):Int).toNat 0).toNat=(tb s).getD i 0:=by rw[tb_getD,Int.toNat_natCast]
def byte_tb0 (s:BA):(s.data.getD (Int.toNat 0) 0).toNat=(tb s).getD 0 0:=by rw[tb_getD];rfl
def c_in (n a b:Int):cF 275 [.d (.int .u8 n), .d (.int .u8 a), .d (.int .u8 b)]=some (.val [.bool (inI a b n)]):=by
 refine cOf (by kernel_rfl) rfl ?_
 rw[g275_eq];simp only[g275,go1];rfl
def c_rWord (s:BA):cF 271 [.d (.str s)]=some (.val [.bool (wordN (tb s))]):=by
 have h65:cF 276 []=some (.own 9 1 (srows wordsL)):=by
  refine cOf (by kernel_rfl) rfl ?_
  rw[g276_eq];simp only[g276];rfl
 rw[wordN_any];refine cOf (by kernel_rfl) rfl ?_
 rw[g271_eq];simp only[g271,go1,h65];refine loopF_at (fun i:Nat=>[.str s, .sl 1 (srows wordsL), .int .i64 (i:Int)]) (fun i=>i<=wordsL.length/\(wordsL.take i).any (fun w=>decide (tb s=tb w))=false) (fun i=>wordsL.length - i) (fun i hi=> ?_) 0 ⟨Nat.zero_le _,by simp⟩
 have hwl:wordsL.length=24:=rfl
 by_cases hlt:i < wordsL.length
 ·have hx:=List.getElem?_eq_getElem hlt;simp only[go1,srows_len,ilt_at hlt,inr_at hlt,srows_at hx,seq_tb,wrap_succ hlt (by omega)]
  by_cases he:tb wordsL[i]=tb s
  ·right
   rw[decT he,List.any_eq_true.2 ⟨wordsL[i],List.getElem_mem hlt,decT he.symm⟩];rfl
  ·left
   refine⟨i+1,?_,⟨hlt,?_⟩,by omega⟩
   ·rw[decF he];rfl
   ·rw[List.take_add_one,List.any_append,hi.2,hx];simp;exact fun e=>he e.symm
 ·right
  have:i=wordsL.length:=by omega
  subst this;simp only[go1,srows_len,ilt_self];rw[List.take_length]at hi;rw[hi.2]
def c_rname (s:BA)(hs:s.size<=100000):cF 270 [.d (.str s), .d (.int .u8 97), .d (.int .u8 122)]=some (.val [.bool (nameN smallN (tb s))]):=by
 have hl:=tb_len s
 by_cases h1:1<=(tb s).length/\(tb s).length<=12
 ·have hc:=c_in (((tb s).getD 0 0:Nat):Int) 97 122;rw[inI_small]at hc;refine cOf (by kernel_rfl) rfl ?_
  rw[g270_eq];simp only[g270,go1,Int.reduceLE,size_tb,byte_tb0,hc];rw[decF (p:=((tb s).length:Int) < 1) (by omega),decF (p:=12 < ((tb s).length:Int)) (by omega),decT (p:=0 < ((tb s).length:Int)) (by omega)]
  cases hs0:smallN ((tb s).getD 0 0)with
  |false=>rw[nameN_first hs0];rfl
  |true=>
   simp only[go1];refine loopF_at (fun p:Nat=>[.str s, .int .i64 (p:Int)]) (fun p=>p<=(tb s).length/\((tb s).take p).all innerN=true) (fun p=>(tb s).length - p) (fun p hp=> ?_) 0 ⟨Nat.zero_le _,by simp⟩
   by_cases hlt:p < (tb s).length
   ·have hi:=inner_def ((tb s).getD p 0);simp only[go1,ilt_at hlt,inr_at hlt,byte_tb,c_in,inI_small,inI_great,inI_digit,wrap_succ hlt (by omega)]
    cases hin:innerN ((tb s).getD p 0)with
    |false=>
     right
     rw[nameN_bad hlt hin];rw[hin]at hi;have hi:=hi.symm;simp only[Bool.or_eq_false_iff]at hi;obtain⟨⟨⟨i1,i2⟩,i3⟩,i4⟩:=hi;have i4': ¬(((tb s).getD p 0:Nat):Int)=95:=by
      have:=of_decide_eq_false i4;omega
     rw[decF i4'];simp only[i1,i2,i3,go1]
     try rfl
    |true=>
     left
     refine⟨p+1,?_,⟨hlt,all_snoc hlt hp.2 hin⟩,by omega⟩
     rw[hin]at hi;cases i1:smallN ((tb s).getD p 0)<;>cases i2:greatN ((tb s).getD p 0)<;>cases i3:digitN ((tb s).getD p 0)<;>rw[i1,i2,i3]at hi<;>simp only[go1]<;>(try rfl)
     all_goals
      simp only[Bool.or_self,Bool.false_or]at hi;have i4:=of_decide_eq_true hi.symm;rw[decT (p:=(((tb s).getD p 0:Nat):Int)=95) (by omega)]
      rfl
   ·right
    have:p=(tb s).length:=by omega
    subst this;simp only[go1,ilt_self];rw[List.take_length]at hp;unfold nameN;rw[hp.2,hs0,decT h1.1,decT h1.2];rfl
 ·have hn:nameN smallN (tb s)=false:=by
   unfold nameN
   by_cases h:1<=(tb s).length
   ·rw[decF (p:=(tb s).length<=12) (by omega)];simp
   ·rw[decF h];simp
  rw[hn];refine cOf (by kernel_rfl) rfl ?_
  rw[g270_eq];simp only[g270,go1,Int.reduceLE,size_tb]
  by_cases h:1<=(tb s).length
  ·rw[decT (p:=12 < ((tb s).length:Int)) (by omega)];simp only[go1];try rfl
  ·rw[decT (p:=((tb s).length:Int) < 1) (by omega)];simp only[go1];try rfl
def c_rLow (s:BA)(hs:s.size<=100000):cF 262 [.d (.str s)]=some (.val [.bool (lowN (tb s))]):=by
 have h1:=c_rname s hs;have h2:=c_rWord s;refine cOf (by kernel_rfl) rfl ?_
 rw[g262_eq];simp only[g262,go1,h1,h2];rfl
def drop_at {l:List Nat}{f i:Nat}(hf:f<=i)(hi:i < l.length):l.drop f=(l.take i).drop f++l.getD i 0::l.drop (i+1):=by
 have h1:l=l.take i++l.getD i 0::l.drop (i+1):=by
  rw[List.getD_eq_getElem?_getD,List.getElem?_eq_getElem hi];simp only[Option.getD_some];rw[List.getElem_cons_drop hi,List.take_append_drop]
 conv=>lhs;rw[h1]
 rw[List.drop_append_of_le_length (by rw[List.length_take];omega)]
def take_drop_snoc {l:List Nat}{f i:Nat}(hf:f<=i)(hi:i < l.length):(l.take (i+1)).drop f=(l.take i).drop f++[l.getD i 0]:=by
 rw[List.take_add_one,List.getElem?_eq_getElem hi,List.getD_eq_getElem?_getD,List.getElem?_eq_getElem hi];simp only[Option.toList_some,Option.getD_some];rw[List.drop_append_of_le_length (by rw[List.length_take];omega)]
def c_rcut (s:BA)(c:Nat)(hs:s.size<=100000): ∃l:List BA,cF 274 [.d (.str s), .d (.int .u8 (c:Int))]=some (.own 9 1 (srows l))/\l.map tb=splitN c (tb s):=by
 have hl:=tb_len s
 suffices ∃p,cF 274 [.d (.str s), .d (.int .u8 (c:Int))]=some p/\ ∃l:List BA,p= .own 9 1 (srows l)/\l.map tb=splitN c (tb s) by
  obtain⟨_,h,l,rfl,hl⟩:=this;exact⟨l,h,hl⟩
 refine cOfP (by kernel_rfl) rfl ?_
 rw[g274_eq];simp only[g274,go1,Nat.reduceAdd];refine loopF_ex (fun x:List BA × Nat × Nat=>[.str s, .int .u8 (c:Int), .int .i64 (x.2.1:Int), .int .i64 (x.2.2:Int), .sl 1 (srows x.1)])
  (fun x=>x.1.length<=x.2.2/\((x.2.2<=(tb s).length/\x.2.1<=x.2.2/\splitN c (tb s)=x.1.map tb++splitN c ((tb s).drop x.2.1)/\ ∀y∈((tb s).take x.2.2).drop x.2.1,y≠c)\/(x.2.2=(tb s).length+1/\x.1.map tb=splitN c (tb s)))) (fun x=>(tb s).length+1 - x.2.2) (fun x hx=> ?_) ([],0,0) ⟨Nat.le_refl _, .inl ⟨Nat.zero_le _,Nat.le_refl _,rfl,by simp⟩⟩
 obtain⟨done,f,i⟩:=x;obtain⟨hd,hx⟩:=hx;simp only at hd hx;rcases hx with⟨hi,hf,h1,h2⟩|⟨hi,h1⟩
 ·have hw:IntKind.i64.wrap ((i:Int)+1)=((i+1:Nat):Int):=by rw[wrap_id (by omega) (by omega)];rfl
  have hfit:decide ((done.length+1)*(16+1)<=140737488355328)=true:=decT (by omega)
  by_cases hlt:i < (tb s).length
  ·simp only[go1,size_tb,byte_tb,srows_len,hw];rw[decT (p:=(i:Int)<=((tb s).length:Int)) (by omega),decF (p:=(i:Int)=((tb s).length:Int)) (by omega),decT (p:=0<=(i:Int)/\(i:Int) < ((tb s).length:Int)) (by omega)]
   by_cases hc:(tb s).getD i 0=c
   ·left
    refine⟨(done++[s.extract (f:Int).toNat (i:Int).toNat],i+1,i+1),?_,⟨?_, .inl ⟨hlt,Nat.le_refl _,?_,?_⟩⟩,(by show(tb s).length+1 - (i+1) < (tb s).length+1 - i;omega)⟩
    ·rw[decT (p:=(((tb s).getD i 0:Nat):Int)=(c:Int)) (by omega),decT (p:=0<=(f:Int)/\(f:Int)<=(i:Int)/\(i:Int)<=((tb s).length:Int)) (by omega)]
     simp only[go1,List.length_singleton,hfit,srows,List.map_append,List.map_cons,List.map_nil,srow]
    ·simp;omega
    ·simp only;rw[h1,drop_at hf hlt,hc,splitN_mark c _ _ h2,List.map_append,List.map_cons,List.map_nil,tb_scut,Int.toNat_natCast,Int.toNat_natCast];simp
    ·intro y hy;simp only at hy;rw[List.drop_of_length_le (by rw[List.length_take];omega)]at hy
     simp at hy
   ·left
    refine⟨(done,f,i+1),?_,⟨(by show done.length<=i+1;omega), .inl ⟨hlt,(by show f<=i+1;omega),h1,?_⟩⟩,(by show(tb s).length+1 - (i+1) < (tb s).length+1 - i;omega)⟩
    ·rw[decF (p:=(((tb s).getD i 0:Nat):Int)=(c:Int)) (by omega)]
     simp only[go1];try rfl
    ·intro y hy;simp only at hy;rw[take_drop_snoc hf hlt]at hy;rcases List.mem_append.1 hy with hy|hy
     ·exact h2 y hy
     ·simp at hy;rw[hy];simpa using hc
  ·have hie:i=(tb s).length:=by omega
   left
   refine⟨(done++[s.extract (f:Int).toNat (i:Int).toNat],i+1,i+1),?_,⟨(by simp;omega), .inr ⟨(by show i+1=(tb s).length+1;omega),?_⟩⟩,(by show(tb s).length+1 - (i+1) < (tb s).length+1 - i;omega)⟩
   ·simp only[go1,size_tb,srows_len,hw];rw[decT (p:=(i:Int)<=((tb s).length:Int)) (by omega),decT (p:=(i:Int)=((tb s).length:Int)) (by omega),decT (p:=0<=(f:Int)/\(f:Int)<=(i:Int)/\(i:Int)<=((tb s).length:Int)) (by omega)]
    simp only[go1,List.length_singleton,hfit,srows,List.map_append,List.map_cons,List.map_nil,srow]
   ·simp only;rw[hie,List.take_length]at h2;rw[h1,splitN_none c _ h2,List.map_append,List.map_cons,List.map_nil,tb_scut,Int.toNat_natCast,Int.toNat_natCast,hie,List.take_length]
 ·right
  simp only[go1,size_tb];rw[decF (p:=(i:Int)<=((tb s).length:Int)) (by omega)]
  exact⟨_,rfl,done,rfl,h1⟩
def num_split (l:List Nat):numN l=(!(decide (l.length < 1) || decide (3 < l.length) || decide (l.getD 0 0=48))&&l.all digitN):=by
 unfold numN
 by_cases h1:1<=l.length
 ·by_cases h3:l.length<=3
  ·rw[decT h1,decT h3,decF (p:=l.length < 1) (by omega),decF (p:=3 < l.length) (by omega)];simp
  ·rw[decT h1,decF h3,decF (p:=l.length < 1) (by omega),decT (p:=3 < l.length) (by omega)];simp
 ·rw[decF h1,decT (p:=l.length < 1) (by omega)];simp
def c_rPath (s:BA)(hs:s.size<=100000):cF 268 [.d (.str s)]=some (.val [.bool (pathN (tb s))]):=by
 obtain⟨l,h,hl⟩:=c_rcut s 47 hs;have hsz:=mem_size hl;have hll:l.length<=100001:=by
  have:=congrArg List.length hl;rw[List.length_map,splitN_len]at this;have h2:(tb s).count 47<=(tb s).length:=List.count_le_length;rw[tb_len]at h2;omega
 unfold pathN;rw[<-hl,List.all_map];have h:cF 274 [.d (.str s), .d (.int .u8 47)]=_:=h;refine cOf (by kernel_rfl) rfl ?_
 rw[g268_eq];simp only[g268,go1,Int.reduceLE,h];refine loopF_at (fun i:Nat=>[.sl 1 (srows l), .int .i64 (i:Int)]) (fun i=>i<=l.length/\(l.take i).all (partN ∘ tb)=true) (fun i=>l.length - i) (fun i hi=> ?_) 0 ⟨Nat.zero_le _,by simp⟩
 by_cases hlt:i < l.length
 ·have hx:=List.getElem?_eq_getElem hlt;have hgd:l.getD i ByteArray.empty=l[i]:=by rw[List.getD_eq_getElem?_getD,hx];rfl
  have hxs:=Nat.le_trans (hsz _ (List.getElem_mem hlt)) hs;generalize hxe:l[i]=x at hx hgd hxs;obtain⟨ps,hp,hps⟩:=c_rcut x 46 hxs;have hp:cF 274 [.d (.str x), .d (.int .u8 46)]=_:=hp;have hbad:partN (tb x)=false->l.all (partN ∘ tb)=false:=fun hb=>all_false (d:=ByteArray.empty) hlt (by rw[hgd];exact hb)
  have hgood:partN (tb x)=true->(i+1<=l.length/\(l.take (i+1)).all (partN ∘ tb)=true):=fun hb=>⟨hlt,all_snoc (d:=ByteArray.empty) hlt hi.2 (by rw[hgd];exact hb)⟩
  have hpe:partN (tb x)=match ps.map tb with
   | [a]=>lowN a
   | [a,b]=>lowN a&&numN b
   |_=>false:=by rw[hps];rfl
  have hpl:=splitN_len 46 (tb x);rw[<-hps,List.length_map]at hpl;have hsub: ∀y∈ps,y.size<=100000:=by
   have key: ∀(t:List Nat),∀p∈splitN 46 t,p.length<=t.length:=by
    intro t
    induction t with
    |nil=>intro p hp;simp[splitN]at hp;simp[hp]
    |cons x xs ih=>
     intro p hp;unfold splitN at hp;split at hp
     ·rcases List.mem_cons.1 hp with rfl|hp
      ·simp
      ·have:=ih p hp;simp;omega
     ·split at hp
      ·simp at hp;simp[hp]
      ·rename_i q qs hq;rcases List.mem_cons.1 hp with rfl|hp
       ·have:=ih q (by rw[hq];exact List.mem_cons_self);simp;omega
       ·have:=ih p (by rw[hq];exact List.mem_cons_of_mem _ hp);simp;omega
   intro y hy;have:=key (tb x) (tb y) (by rw[<-hps];exact List.mem_map_of_mem hy)
   rw[tb_len,tb_len]at this;omega
  simp only[go1,srows_len,ilt_at hlt,inr_at hlt,srows_at hx,hp]
  match ps,hpe,hpl,hsub with
  | [],_,hpl,_=>simp at hpl
  | [a],hpe,_,hsub=>
    have ha:=c_rLow a (hsub a List.mem_cons_self);simp only[List.map_cons,List.map_nil]at hpe;simp only[List.length_singleton,srows,List.map_cons,List.map_nil,srow,sy_row,go1,List.getD_cons_zero,Int.toNat_zero,ha,hpe.symm];cases hb:partN (tb x)with
    |false=>
     right
     rw[hbad hb];rfl
    |true=>
     left
     refine⟨i+1,?_,hgood hb,by omega⟩
     rw[wrap_succ hlt (by omega)];rfl
  | [a,b],hpe,_,hsub=>
    have ha:=c_rLow a (hsub a List.mem_cons_self);have hbl:=tb_len b;have hbs:=hsub b (by simp)
    simp only[List.map_cons,List.map_nil]at hpe;rw[num_split]at hpe;have hr1:sy.row (srows [a,b]) 1= [.str b]:=rfl;have hr0:sy.row (srows [a,b]) 0= [.str a]:=rfl;simp only[List.length_cons,List.length_nil,hr0,hr1,go1,Nat.reduceAdd,ha,size_tb,byte_tb0];cases hla:lowN (tb a)with
    |false=>
     right
     rw[hla,Bool.false_and]at hpe;rw[hbad hpe];rfl
    |true=>
     rw[hla,Bool.true_and]at hpe;have e1:decide (((tb b).length:Int) < 1)=decide ((tb b).length < 1):=by rw[Bool.eq_iff_iff];simp only[decide_eq_true_eq];omega
     have e3:decide (3 < ((tb b).length:Int))=decide (3 < (tb b).length):=by rw[Bool.eq_iff_iff];simp only[decide_eq_true_eq];omega
     have e4:decide ((((tb b).getD 0 0:Nat):Int)=48)=decide ((tb b).getD 0 0=48):=by rw[Bool.eq_iff_iff];simp only[decide_eq_true_eq];omega
     simp only[go1,e1,e3,e4]
     by_cases q1:(tb b).length < 1
     ·right
      rw[decT q1]at hpe ⊢;rw[hbad (by rw[hpe];simp)];rfl
     by_cases q3:3 < (tb b).length
     ·right
      rw[decF q1,decT q3]at hpe ⊢;rw[hbad (by rw[hpe];simp)];rfl
     rw[decF q1,decF q3]at hpe ⊢;rw[decT (p:=0 < ((tb b).length:Int)) (by omega)]
     by_cases q4:(tb b).getD 0 0=48
     ·right
      rw[decT q4]at hpe ⊢;rw[hbad (by rw[hpe];simp)];rfl
     rw[decF q4]at hpe ⊢;simp only[go1]at hpe ⊢;cases had:(tb b).all digitN with
     |true=>
      left
      rw[had]at hpe;refine⟨i+1,?_,hgood hpe,by omega⟩
      refine loopF_at (r:=Sum.inl [D.sl 1 (srows l),D.int .i64 ((i+1:Nat):Int)]) (fun k:Nat=>[.sl 1 (srows l), .int .i64 (i:Int), .str b, .int .i64 (k:Int)]) (fun k=>k<=(tb b).length) (fun k=>(tb b).length - k) (fun k hk=> ?_) 0 (Nat.zero_le _)
      by_cases hkl:k < (tb b).length
      ·left
       refine⟨k+1,?_,hkl,by omega⟩
       have hdg:digitN ((tb b).getD k 0)=true:=by
        rw[List.getD_eq_getElem?_getD,List.getElem?_eq_getElem hkl];exact List.all_eq_true.1 had _ (List.getElem_mem hkl)
       simp only[go1,ilt_at hkl,inr_at hkl,byte_tb,c_in,inI_digit,hdg,wrap_succ hkl (by omega)]
       try rfl
      ·right
       have:k=(tb b).length:=by omega
       subst this;simp only[go1,ilt_self,wrap_succ hlt (by omega)]
       try rfl
     |false=>
      right
      rw[had]at hpe;rw[hbad hpe];refine loopF_at (r:=Sum.inr (PRes.val [D.bool false])) (fun k:Nat=>[.sl 1 (srows l), .int .i64 (i:Int), .str b, .int .i64 (k:Int)]) (fun k=>k<=(tb b).length/\((tb b).take k).all digitN=true) (fun k=>(tb b).length - k) (fun k hk=> ?_) 0 ⟨Nat.zero_le _,by simp⟩
      by_cases hkl:k < (tb b).length
      ·cases hdg:digitN ((tb b).getD k 0)with
       |true=>
        left
        refine⟨k+1,?_,⟨hkl,all_snoc hkl hk.2 hdg⟩,by omega⟩
        simp only[go1,ilt_at hkl,inr_at hkl,byte_tb,c_in,inI_digit,hdg,wrap_succ hkl (by omega)]
        try rfl
       |false=>
        right
        simp only[go1,ilt_at hkl,inr_at hkl,byte_tb,c_in,inI_digit,hdg]
        try rfl
      ·exfalso;have:k=(tb b).length:=by omega
       rw[this,List.take_length,had]at hk;exact absurd hk.2 (by simp)
  |_::_::_::r,hpe,_,_=>
   right
   have:partN (tb x)=false:=hpe;rw[hbad this];rw[decT (p:=2 < (((_::_::_::r:List BA).length:Nat):Int)) (by simp;omega)]
   rfl
 ·right
  have:i=l.length:=by omega
  subst this;simp only[go1,srows_len,ilt_self];rw[List.take_length]at hi;rw[hi.2]
def c_rnameG (s:BA)(hs:s.size<=100000):cF 270 [.d (.str s), .d (.int .u8 65), .d (.int .u8 90)]=some (.val [.bool (nameN greatN (tb s))]):=by
 have hl:=tb_len s
 by_cases h1:1<=(tb s).length/\(tb s).length<=12
 ·have hc:=c_in (((tb s).getD 0 0:Nat):Int) 65 90;rw[inI_great]at hc;refine cOf (by kernel_rfl) rfl ?_
  rw[g270_eq];simp only[g270,go1,Int.reduceLE,size_tb,byte_tb0,hc];rw[decF (p:=((tb s).length:Int) < 1) (by omega),decF (p:=12 < ((tb s).length:Int)) (by omega),decT (p:=0 < ((tb s).length:Int)) (by omega)]
  cases hs0:greatN ((tb s).getD 0 0)with
  |false=>rw[nameN_first hs0];rfl
  |true=>
   simp only[go1];refine loopF_at (fun p:Nat=>[.str s, .int .i64 (p:Int)]) (fun p=>p<=(tb s).length/\((tb s).take p).all innerN=true) (fun p=>(tb s).length - p) (fun p hp=> ?_) 0 ⟨Nat.zero_le _,by simp⟩
   by_cases hlt:p < (tb s).length
   ·have hi:=inner_def ((tb s).getD p 0);simp only[go1,ilt_at hlt,inr_at hlt,byte_tb,c_in,inI_small,inI_great,inI_digit,wrap_succ hlt (by omega)]
    cases hin:innerN ((tb s).getD p 0)with
    |false=>
     right
     rw[nameN_bad hlt hin];rw[hin]at hi;have hi:=hi.symm;simp only[Bool.or_eq_false_iff]at hi;obtain⟨⟨⟨i1,i2⟩,i3⟩,i4⟩:=hi;have i4': ¬(((tb s).getD p 0:Nat):Int)=95:=by
      have:=of_decide_eq_false i4;omega
     rw[decF i4'];simp only[i1,i2,i3,go1]
     try rfl
    |true=>
     left
     refine⟨p+1,?_,⟨hlt,all_snoc hlt hp.2 hin⟩,by omega⟩
     rw[hin]at hi;cases i1:smallN ((tb s).getD p 0)<;>cases i2:greatN ((tb s).getD p 0)<;>cases i3:digitN ((tb s).getD p 0)<;>rw[i1,i2,i3]at hi<;>simp only[go1]<;>(try rfl)
     all_goals
      simp only[Bool.or_self,Bool.false_or]at hi;have i4:=of_decide_eq_true hi.symm;rw[decT (p:=(((tb s).getD p 0:Nat):Int)=95) (by omega)]
      rfl
   ·right
    have:p=(tb s).length:=by omega
    subst this;simp only[go1,ilt_self];rw[List.take_length]at hp;unfold nameN;rw[hp.2,hs0,decT h1.1,decT h1.2];rfl
 ·have hn:nameN greatN (tb s)=false:=by
   unfold nameN
   by_cases h:1<=(tb s).length
   ·rw[decF (p:=(tb s).length<=12) (by omega)];simp
   ·rw[decF h];simp
  rw[hn];refine cOf (by kernel_rfl) rfl ?_
  rw[g270_eq];simp only[g270,go1,Int.reduceLE,size_tb]
  by_cases h:1<=(tb s).length
  ·rw[decT (p:=12 < ((tb s).length:Int)) (by omega)];simp only[go1];try rfl
  ·rw[decT (p:=((tb s).length:Int) < 1) (by omega)];simp only[go1];try rfl
def c_rHigh (s:BA)(hs:s.size<=100000):cF 263 [.d (.str s)]=some (.val [.bool (highN (tb s))]):=by
 have:=c_rnameG s hs;refine cOf (by kernel_rfl) rfl ?_
 rw[g263_eq];simp only[g263,go1,this];rfl
def cOfB {f k:FuncId}{pn:Nat}{xs key:List V}{hs:List Box}{p:PRes}(hg:goodF Tryz.prog k=false)(hd:decB key=some (pn,xs,hs))(hk:Nat.beq k (bkey f)=true)(hn:kn k key=none)(h:fB sy eF f pn xs hs=some p):cF k key=some p:=by
 have:=Nat.eq_of_beq_eq_true hk;subst this;exact callF_ofB hg hn hd h
inductive Ex where
 |mk (k n:Int) (s:BA) (o:Int) (a:List BA) (l:List Ex)
mutual
def Ex.row:Ex->List D
 | .mk k n s o a l=>[.int .i64 k, .int .i64 n, .str s, .int .i64 o, .sl 1 (srows a), .sl 6 (Ex.rows l)]
def Ex.rows:List Ex->LL
 | []=>[]
 |e::l=>e.row::Ex.rows l
end
def e0:Ex:= .mk 0 0 (bs []) 0 [] []
def bTrue:BA:=bs [116,114,117,101]
def bFalse:BA:=bs [102,97,108,115,101]
def fitsR (a b:LL)(k:Nat)(h:(a.length+b.length)*(k+1)<=140737488355328):decide ((a.length+b.length)*(k+1)<=140737488355328)=true:=decide_eq_true h
def rows_len: ∀es:List Ex,(Ex.rows es).length=es.length
 | []=>rfl
 |a::es=>by show(a.row::Ex.rows es).length=_;rw[List.length_cons,rows_len es];rfl
mutual
def Ex.size:Ex->Nat
 | .mk _ _ _ _ _ l=>Ex.sizes l+1
def Ex.sizes:List Ex->Nat
 | []=>0
 |e::l=>e.size+Ex.sizes l
end
def sizes_app: ∀a b:List Ex,Ex.sizes (a++b)=Ex.sizes a+Ex.sizes b
 | [],b=>by simp[Ex.sizes]
 |e::a,b=>by simp[Ex.sizes,sizes_app a b];omega
mutual
def Ex.depth:Ex->Nat
 | .mk _ _ _ _ _ l=>Ex.depths l+1
def Ex.depths:List Ex->Nat
 | []=>0
 |e::l=>max e.depth (Ex.depths l)
end
def depths_snoc (e:Ex): ∀l:List Ex,Ex.depths (l++[e])=max (Ex.depths l) e.depth
 | []=>by simp[Ex.depths]
 |x::l=>by simp only[List.cons_append,Ex.depths,depths_snoc e l];omega
def sizes_mem {e:Ex}: ∀ {l:List Ex} {i:Nat},l[i]? =some e->e.size<=Ex.sizes l
 |x::l,0,h=>by simp at h;subst h;simp only[Ex.sizes];omega
 |x::l,i+1,h=>by have:=sizes_mem (l:=l) (i:=i) (by simpa using h);simp only[Ex.sizes];omega
def sizes_len: ∀l:List Ex,l.length<=Ex.sizes l
 | []=>Nat.le_refl _
 | .mk k n s o a u::l=>by have:=sizes_len l;simp only[Ex.sizes,Ex.size,List.length_cons];omega
def xrow: ∀ {l:List Ex} {i:Nat} {e:Ex},l[i]? =some e->sy.row (Ex.rows l) (i:Int)=e.row:=by
 intro l i e h;show(Ex.rows l).getD (i:Int).toNat []=_;rw[Int.toNat_natCast]
 induction l generalizing i with
 |nil=>cases h
 |cons x l ih=>
  cases i with
  |zero=>simp at h;subst h;rfl
  |succ i=>exact ih (by simpa using h)
mutual
def depth_le: ∀e:Ex,e.depth<=e.size
 | .mk _ _ _ _ _ l=>by have:=depths_le l;simp only[Ex.depth,Ex.size];omega
def depths_le: ∀l:List Ex,Ex.depths l<=Ex.sizes l
 | []=>Nat.le_refl _
 |e::l=>by have:=depth_le e;have:=depths_le l;simp only[Ex.depths,Ex.sizes];omega
end
def imax_nat (a b:Nat):max (a:Int) (b:Int)=((max a b:Nat):Int):=by omega
def c_rDepth: ∀(m:Nat) (k n:Int) (s:BA) (o:Int) (a:List BA) (u:List Ex),(Ex.mk k n s o a u).size<=m->m<=1000000->cF 246 [kE k n s o (srows a) (Ex.rows u)]=some (.val [.int .i64 ((Ex.mk k n s o a u).depth:Int)])
 |0,k,n,s,o,a,u,h,_=>by simp only[Ex.size]at h;omega
 |m+1,k,n,s,o,a,u,h,hm=>by
  have hz:Ex.sizes u<=m:=by simp only[Ex.size]at h;omega
  have hl:=sizes_len u;refine cOf (by kernel_rfl) rfl ?_
  rw[g246_eq];simp only[g246,go1];refine loopF_at (fun i:Nat=>[.int .i64 (Ex.depths (u.take i):Int), .int .i64 (i:Int), .int .i64 k, .int .i64 n, .str s, .int .i64 o, .sl 1 (srows a), .sl 6 (Ex.rows u)]) (fun i=>i<=u.length) (fun i=>u.length - i) (fun i hi=> ?_) 0 (Nat.zero_le _)
  by_cases hlt:i < u.length
  ·left
   refine⟨i+1,?_,hlt,by omega⟩
   have hx:=List.getElem?_eq_getElem hlt;have hd:Ex.depths (u.take (i+1))=max (Ex.depths (u.take i)) u[i].depth:=by rw[List.take_add_one,hx];exact depths_snoc _ _
   rw[hd];generalize u[i]=e at hx;have he:=sizes_mem hx;have hr:=xrow hx;obtain⟨k2,n2,s2,o2,a2,u2⟩:=e;have h2:=c_rDepth m k2 n2 s2 o2 a2 u2 (by omega) (by omega)
   simp only[go1,Nat.reduceAdd,rows_len,ilt_at hlt,inr_at hlt,hr,Ex.row,oE,h2,wrap_succ hlt (by omega),imax_nat]
   rfl
  ·right
   have:i=u.length:=by omega
   subst this;have:=depths_le u;simp only[go1,Nat.reduceAdd,oE,rows_len,ilt_self,List.take_length,Ex.depth];rw[wrap_succ (n:=Ex.depths u+1) (by omega) (by omega)]
   rfl
def sizes_snoc (e:Ex)(l:List Ex):Ex.sizes (l++[e])=Ex.sizes l+e.size:=by rw[sizes_app];simp[Ex.sizes]
def c_rSize: ∀(m:Nat) (k n:Int) (s:BA) (o:Int) (a:List BA) (u:List Ex),(Ex.mk k n s o a u).size<=m->m<=1000000->cF 245 [kE k n s o (srows a) (Ex.rows u)]=some (.val [.int .i64 ((Ex.mk k n s o a u).size:Int)])
 |0,k,n,s,o,a,u,h,_=>by simp only[Ex.size]at h;omega
 |m+1,k,n,s,o,a,u,h,hm=>by
  have hz:Ex.sizes u<=m:=by simp only[Ex.size]at h;omega
  have hl:=sizes_len u;refine cOf (by kernel_rfl) rfl ?_
  rw[g245_eq];simp only[g245,go1];refine loopF_at (fun i:Nat=>[.int .i64 ((Ex.sizes (u.take i)+1:Nat):Int), .int .i64 (i:Int), .int .i64 k, .int .i64 n, .str s, .int .i64 o, .sl 1 (srows a), .sl 6 (Ex.rows u)]) (fun i=>i<=u.length/\Ex.sizes (u.take i)<=m) (fun i=>u.length - i) (fun i hi=> ?_) 0 ⟨Nat.zero_le _,Nat.zero_le _⟩
  by_cases hlt:i < u.length
  ·left
   have hx:=List.getElem?_eq_getElem hlt;have hd:Ex.sizes (u.take (i+1))=Ex.sizes (u.take i)+u[i].size:=by rw[List.take_add_one,hx];exact sizes_snoc _ _
   have hle:Ex.sizes (u.take (i+1))<=m:=by
    have:=sizes_app (u.take (i+1)) (u.drop (i+1));rw[List.take_append_drop]at this;omega
   refine⟨i+1,?_,⟨hlt,hle⟩,by omega⟩
   rw[hd]at hle ⊢;generalize u[i]=e at hx hle ⊢;have he:=sizes_mem hx;have hr:=xrow hx;obtain⟨k2,n2,s2,o2,a2,u2⟩:=e;have h2:=c_rSize m k2 n2 s2 o2 a2 u2 (by omega) (by omega)
   simp only[go1,Nat.reduceAdd,rows_len,ilt_at hlt,inr_at hlt,hr,Ex.row,oE,h2,wrap_succ hlt (by omega)]
   rw[wrap_id (by omega) (by omega)]
   congr 5;omega
  ·right
   have:i=u.length:=by omega
   subst this;simp only[go1,Nat.reduceAdd,oE,rows_len,ilt_self,List.take_length,Ex.size]
def armN (s:BA):Bool:=highN (tb s) || (decide (tb s=tb bTrue) || decide (tb s=tb bFalse))
def litS:Ex->Bool
 | .mk k _ _ o _ u=>bif decide (k=5)then decide (o=1)&&(match u with
   | [.mk k2 _ _ _ _ _]=>decide (k2=1)
   |_=>false)else decide (k=1) || (decide (k=2) || decide (k=4))
def constS:Ex->Bool
 | .mk k n s o a u=>bif decide (k=14)then u.all litS else litS (.mk k n s o a u)
def opB_ (k o:Int):Bool:=bif decide (k=5)then decide (1<=o)&&decide (o<=2)else bif decide (k=6)then decide (3<=o)&&decide (o<=16)else decide (o=0)
def numB (k n:Int):Bool:=bif decide (k=1)then decide (0<=n)else bif decide (k=2) || decide (k=13)then decide (n=0) || decide (n=1)else decide (n=0)
def nameB (k:Int)(s:BA):Bool:=bif decide (k=3) || (decide (k=11) || (decide (k=12) || decide (k=13)))then lowN (tb s)else bif decide (k=4)then highN (tb s)else bif decide (k=17)then pathN (tb s)else decide (tb s= [])
def armsB (k:Int)(a:List BA):Bool:=a.all armN&&(bif decide (k=11)then decide (a.length=1)else bif decide (k=12)then decide (1<=a.length)&&(decide (a.length<=6)&&decide a.Nodup)else decide (a.length=0))
def loB (k n:Int)(la:Nat):Int:=if k=5\/k=10\/k=11\/k=14 then 1 else if k=6\/k=8\/k=9\/k=15 then 2 else if k=7\/k=16 then 3 else if k=12 then la else if k=13 then n else 0
def hiB (k n:Int)(la:Nat):Int:=if k=14 then 8 else if k=13 then(if n=0 then 6 else 7)else loB k n la
def conB (k:Int)(u:List Ex):Bool:=bif decide (k=8)then(match u with
 |e::_=>constS e
 | []=>false)else true
def kindB (k:Int):Bool:=decide (1<=k)&&decide (k<=17)
def partB:Ex->Bool
 | .mk k n s o a u=>kindB k&&(numB k n&&(nameB k s&&(opB_ k o&&(armsB k a&&(decide (loB k n a.length<=(u.length:Int))&&(decide ((u.length:Int)<=hiB k n a.length)&&conB k u))))))
mutual
def allB:Ex->Bool
 | .mk k n s o a u=>partB (.mk k n s o a u)&&allBs u
def allBs:List Ex->Bool
 | []=>true
 |e::l=>allB e&&allBs l
end
def c_rliteral (k n:Int)(s:BA)(o:Int)(a:List BA)(u:List Ex)(hu:u.length<=1000000):cF 248 [kE k n s o (srows a) (Ex.rows u)]=some (.val [.bool (litS (.mk k n s o a u))]):=by
 have h1:=rows_len u;refine cOf (by kernel_rfl) rfl ?_
 rw[g248_eq];simp only[g248,go1,Int.reduceLE,h1];unfold litS
 by_cases k5:k=5
 ·subst k5;simp only[go1,Int.reduceEq,Int.reduceEq]
  match u with
  | []=>cases decide (o=1)<;>rfl
  | [.mk k2 n2 s2 o2 a2 u2]=>cases decide (o=1)<;>rfl
  |e1::e2::u=>
   have:decide ((((e1::e2::u).length:Nat):Int)=1)=false:=decide_eq_false (by simp only[List.length_cons];omega)
   simp only[go1,this];try (cases decide (o=1)<;>rfl)
 ·simp only[go1,decF k5];cases decide (k=1)<;>cases decide (k=2)<;>cases decide (k=4)<;>rfl
def sy_mval (z k:D)(l:LL):sy.mval z k l=mval z k l:=rfl
def sy_mput (k x:D)(l:LL):sy.mput k x l=mput k x l:=rfl
def encT (l:List BA):LL:=l.map fun s=>[.str s, .int .i64 1]
def key_str (a b:BA):keyIs (.str a) (.str b)=decide (a=b):=by
 show(a == b)=_;have h:(a == b)=(a.data == b.data):=rfl;rw[h,Bool.eq_iff_iff,beq_iff_eq,decide_eq_true_eq];exact⟨fun h=>by cases a;cases b;simp_all,fun h=>by rw[h]⟩
def midxT {x:BA}: ∀ {l:List BA},x ∉ l->midx (.str x) (encT l)=none
 | [],_=>rfl
 |y::l,h=>by
  have h1: ¬x=y:=fun e=>h (by rw[e];exact List.mem_cons_self)
  have h2:x ∉ l:=fun e=>h (List.mem_cons_of_mem _ e)
  show midx (.str x) ((D.str y::[.int .i64 1])::encT l)=none;have hk:keyIs (.str x) (.str y)=false:=by rw[key_str];exact decF h1
  simp only[midx,hk,midxT h2];rfl
def mvalT {x:BA}: ∀ {l:List BA},x∈l->mval (.int .i64 0) (.str x) (encT l)= .int .i64 1
 |y::l,h=>by
  show mval (.int .i64 0) (.str x) ((D.str y::[.int .i64 1])::encT l)=_
  by_cases he:x=y
  ·have hk:keyIs (.str x) (.str y)=true:=by rw[key_str];exact decT he
   simp only[mval,mget,midx,hk];rfl
  ·have hm:x∈l:=by
    rcases List.mem_cons.1 h with e|e
    ·exact absurd e he
    ·exact e
   have ih:=mvalT hm;have hk:keyIs (.str x) (.str y)=false:=by rw[key_str];exact decF he
   simp only[mval,mget,midx,hk]at ih ⊢;rw[<-ih];cases midx (.str x) (encT l)<;>rfl
def mvalT0 {x:BA}{l:List BA}(h:x ∉ l):mval (.int .i64 0) (.str x) (encT l)= .int .i64 0:=by
 unfold mval mget;rw[midxT h];rfl
def mputT {x:BA}{l:List BA}(h:x ∉ l):mput (.str x) (.int .i64 1) (encT l)=encT (l++[x]):=by
 unfold mput;rw[midxT h];simp[encT]
def nodup_snoc {l:List BA}{i:Nat}{x:BA}(h:l[i]? =some x)(hn:(l.take i).Nodup)(hx:x ∉ l.take i):(l.take (i+1)).Nodup:=by
 rw[List.take_add_one,h,Option.toList_some,List.nodup_append];exact⟨hn,by simp,fun a ha b hb=>by simp at hb;rw[hb];exact fun e=>hx (e▸ha)⟩
def nodup_not {l:List BA}{i:Nat}{x:BA}(h:l[i]? =some x)(hx:x∈l.take i): ¬l.Nodup:=by
 intro hn;have hd:l=l.take i++l.drop i:=(List.take_append_drop i l).symm;rw[hd,List.nodup_append]at hn;refine hn.2.2 x hx x ?_ rfl;have:(l.drop i)[0]? =some x:=by simpa using h
 exact List.mem_of_getElem? this
def c_iOnce (l:List BA)(hl:l.length<=1000000):cF 32 [.d (.sl 1 (srows l))]=some (.val [.bool (decide l.Nodup)]):=by
 refine cOf (by kernel_rfl) rfl ?_
 rw[g32_eq];simp only[g32,go1,srows_len];refine loopF_at (fun i:Nat=>[.sl 1 (srows l), .int .i64 (l.length:Int), .int .i64 (i:Int), .sl 2 (encT (l.take i))]) (fun i=>i<=l.length/\(l.take i).Nodup) (fun i=>l.length - i) (fun i hi=> ?_) 0 ⟨Nat.zero_le _,by simp⟩
 by_cases hlt:i < l.length
 ·have hx:=List.getElem?_eq_getElem hlt
  by_cases hm:l[i]∈l.take i
  ·right
   rw[decF (nodup_not hx hm)];simp only[go1,Int.reduceLT,Int.reduceAdd,srows_len,ilt_at hlt,inr_at hlt,srows_at hx,sy_mval,mvalT hm]
  ·left
   refine⟨i+1,?_,⟨hlt,nodup_snoc hx hi.2 hm⟩,by omega⟩
   have hw:IntKind.i64.wrap 1=1:=rfl;simp only[go1,Int.reduceLT,Int.reduceAdd,srows_len,ilt_at hlt,inr_at hlt,srows_at hx,sy_mval,sy_mput,mvalT0 hm,hw,mputT hm,wrap_succ hlt (by omega)]
   rw[List.take_add_one,hx];rfl
 ·right
  have:i=l.length:=by omega
  subst this;simp only[go1,ilt_self];rw[List.take_length]at hi;rw[decT hi.2]
def rep_loop {α:Type}{b:List D->Option (List D ⊕ α)}{r:α}(n:Nat)(mk:Nat->List D)(hb: ∀i,i < n->b (mk i)=some (.inl (mk (i+1))))(hend:b (mk n)=some (.inr r)):loopF b (mk 0)=some r:=by
 refine loopF_at mk (fun i=>i<=n) (fun i=>n - i) (fun i hi=> ?_) 0 (Nat.zero_le _)
 by_cases h:i < n
 ·exact .inl ⟨i+1,hb i h,h,by omega⟩
 ·have:i=n:=by omega
  subst this;exact .inr hend
def mem_take_at {l:List BA}{i j:Nat}{y:BA}(hj:j < i)(h:l[j]? =some y):y∈l.take i:=by
 refine List.mem_of_getElem? (i:=j) ?_;rw[List.getElem?_take,if_pos hj,h]
def c_rOnce (l:List BA)(hl:l.length<=1000000):cF 252 [.d (.sl 1 (srows l))]=some (.val [.bool (decide l.Nodup)]):=by
 refine cOf (by kernel_rfl) rfl ?_
 rw[g252_eq];simp only[g252,go1];refine loopF_at (fun i:Nat=>[.sl 1 (srows l), .int .i64 (i:Int)]) (fun i=>i<=l.length/\(l.take i).Nodup) (fun i=>l.length - i) (fun i hi=> ?_) 0 ⟨Nat.zero_le _,by simp⟩
 by_cases hlt:i < l.length
 ·have hx:=List.getElem?_eq_getElem hlt;simp only[go1,srows_len,ilt_at hlt]
  by_cases hm:l[i]∈l.take i
  ·right
   rw[decF (nodup_not hx hm)];refine loopF_at (fun j:Nat=>[.sl 1 (srows l), .int .i64 (i:Int), .int .i64 (j:Int)]) (fun j=>j<=i/\ ∃k,j<=k/\k < i/\l[k]? =some l[i]) (fun j=>i - j) (fun j hj=> ?_) 0 ⟨Nat.zero_le _,?_⟩
   ·obtain⟨hj,k,hk1,hk2,hk3⟩:=hj;have hjl:j < i:=by omega
    have hjl2:j < l.length:=by omega
    have hy:=List.getElem?_eq_getElem hjl2
    by_cases he:tb l[j]=tb l[i]
    ·right
     simp only[go1,srows_len,ilt_at hjl,inr_at hlt,inr_at hjl2,srows_at hx,srows_at hy,seq_tb,decT he]
    ·left
     refine⟨j+1,?_,⟨hjl,k,?_,hk2,hk3⟩,by omega⟩
     ·simp only[go1,srows_len,ilt_at hjl,inr_at hlt,inr_at hjl2,srows_at hx,srows_at hy,seq_tb,decF he,wrap_succ hjl (by omega)]
      rfl
     ·rcases Nat.lt_or_ge j k with h|h
      ·exact h
      ·have:j=k:=by omega
       subst this;rw[hy]at hk3;exact absurd (by rw[Option.some.inj hk3]) he
   ·obtain⟨k,hk⟩:=List.getElem?_of_mem hm;rw[List.getElem?_take]at hk;split at hk
    ·rename_i hki;exact⟨k,Nat.zero_le _,hki,hk⟩
    ·cases hk
  ·left
   refine⟨i+1,?_,⟨hlt,nodup_snoc hx hi.2 hm⟩,by omega⟩
   refine rep_loop i (fun j=>[.sl 1 (srows l), .int .i64 (i:Int), .int .i64 (j:Int)]) (fun j hjl=> ?_) ?_
   ·have hjl2:j < l.length:=by omega
    have hy:=List.getElem?_eq_getElem hjl2;have he: ¬tb l[j]=tb l[i]:=fun e=>hm (by rw[<-tb_inj e];exact mem_take_at hjl hy)
    simp only[go1,srows_len,ilt_at hjl,inr_at hlt,inr_at hjl2,srows_at hx,srows_at hy,seq_tb,decF he,wrap_succ hjl (by omega)]
    rfl
   ·simp only[go1,ilt_self,wrap_succ hlt (by omega)]
    rfl
 ·right
  have:i=l.length:=by omega
  subst this;simp only[go1,srows_len,ilt_self];rw[List.take_length]at hi;rw[decT hi.2]
def all_loop {τ α:Type}{b:List D->Option (List D ⊕ α)}{r0 r1:α}(p:τ->Bool)(l:List τ)(mk:Nat->List D)
  (hb: ∀i x,l[i]? =some x->b (mk i)=bif p x then some (.inl (mk (i+1)))else some (.inr r0))
  (hend:l.all p=true->b (mk l.length)=some (.inr r1)):loopF b (mk 0)=some (bif l.all p then r1 else r0):=by
 suffices ∀(rest:List τ) (i:Nat),l.drop i=rest->i<=l.length->(l.take i).all p=true->loopF b (mk i)=some (bif rest.all p then r1 else r0)from this l 0 rfl (Nat.zero_le _) rfl
 intro rest
 induction rest with
 |nil=>
  intro i hd hi ht;have:i=l.length:=by have:=congrArg List.length hd;simp at this;omega
  subst this;rw[List.take_length]at ht;rw[loopF_eq,hend ht];rfl
 |cons x xs ih=>
  intro i hd hi ht;have hx:l[i]? =some x:=by
   have:=congrArg (fun r=>r[0]?) hd
   simpa using this
  have hlt:i < l.length:=(List.getElem?_eq_some_iff.1 hx).1;have hxs:l.drop (i+1)=xs:=by
   have:=congrArg List.tail hd
   simpa using this
  rw[loopF_eq,hb i x hx];cases hp:p x with
  |false=>simp[List.all_cons,hp]
  |true=>
   simp only[cond_true,List.all_cons,hp,Bool.true_and];refine ih (i+1) hxs hlt ?_;rw[List.take_add_one,hx,List.all_append,ht];simp[hp]
def all_loop2 {τ α:Type}{b:List D->Option (List D ⊕ α)}{r0 r1 r:α}{ds:List D}(p:τ->Bool)(l:List τ)(mk:Nat->List D)(h0:mk 0=ds)
  (hb: ∀i x,l[i]? =some x->b (mk i)=bif p x then some (.inl (mk (i+1)))else some (.inr r0))
  (hend:l.all p=true->b (mk l.length)=some (.inr r1)) (hr:(bif l.all p then r1 else r0)=r):loopF b ds=some r:=by
 rw[<-h0,all_loop p l mk hb hend,hr]
def row_of {l:List Ex}{i:Nat}{k n:Int}{s:BA}{o:Int}{a:List BA}{u:List Ex}(h:l[i]? =some (.mk k n s o a u)):sy.row (Ex.rows l) (i:Int)= [.int .i64 k, .int .i64 n, .str s, .int .i64 o, .sl 1 (srows a), .sl 6 (Ex.rows u)]:=xrow h
def u_len {l:List Ex}{i:Nat}{k n:Int}{s:BA}{o:Int}{a:List BA}{u:List Ex}(h:l[i]? =some (.mk k n s o a u))(hl:Ex.sizes l<=1000000):u.length<=1000000:=by
 have h1:=sizes_mem h;have h2:=sizes_len u;simp only[Ex.size]at h1;omega
def c_reConst (k n:Int)(s:BA)(o:Int)(a:List BA)(u:List Ex)(hu:Ex.sizes u<=1000000):cF 227 [kE k n s o (srows a) (Ex.rows u)]=some (.val [.bool (constS (.mk k n s o a u))]):=by
 have hl:=sizes_len u;have h1:=c_rliteral k n s o a u (by omega)
 refine cOf (by kernel_rfl) rfl ?_
 rw[g227_eq];simp only[g227,go1,h1]
 by_cases hk:k=14
 ·simp only[constS,decT hk,go1];refine all_loop2 litS u (fun i:Nat=>[.int .i64 (i:Int), .int .i64 k, .int .i64 n, .str s, .int .i64 o, .sl 1 (srows a), .sl 6 (Ex.rows u)]) rfl (r0:= .val [.bool false]) (r1:= .val [.bool true]) (fun i e hx=> ?_) (fun _=> ?_) (by cases u.all litS<;>rfl)
  ·have hlt:=(List.getElem?_eq_some_iff.1 hx).1;obtain⟨k2,n2,s2,o2,a2,u2⟩:=e;have h:=c_rliteral k2 n2 s2 o2 a2 u2 (u_len hx hu);simp only[go1,Nat.reduceAdd,oE,rows_len,ilt_at hlt,inr_at hlt,row_of hx,h];cases litS (.mk k2 n2 s2 o2 a2 u2)with
   |true=>simp only[go1,wrap_succ hlt (by omega)];rfl
   |false=>rfl
  ·simp only[go1,Nat.reduceAdd,oE,rows_len,ilt_self]
 ·simp only[constS,decF hk,go1]
def nlt (a b:Int):decide (a < b)= !decide (b<=a):=by
 rw[Bool.eq_iff_iff];simp
def or0 (o:Int):(!decide (0<=o) || !decide (o<=0))= !decide (o=0):=by
 rw[Bool.eq_iff_iff];simp;omega
def c_renumbers (k n:Int)(s:BA)(o:Int)(a u:LL):cF 258 [kE k n s o a u]=some (.val [.bool (opB_ k o&&numB k n)]):=by
 have key:k=5\/k=6\/k=1\/k=2\/k=13\/(k≠5/\k≠6/\k≠1/\k≠2/\k≠13):=by omega
 rcases key with rfl|rfl|rfl|rfl|rfl|⟨h1,h2,h3,h4,h5⟩
 all_goals refine cOf (by kernel_rfl) rfl ?_
 all_goals rw[g258_eq]
 all_goals simp only[g258,go1,Int.reduceEq,nlt,opB_,numB,Int.reduceEq,or0 o]
 ·cases decide (1<=o)<;>cases decide (o<=2)<;>rfl
 ·cases decide (3<=o)<;>cases decide (o<=16)<;>rfl
 ·cases decide (o=0)<;>rfl
 ·cases decide (o=0)<;>cases decide (n=0)<;>cases decide (n=1)<;>rfl
 ·cases decide (o=0)<;>cases decide (n=0)<;>cases decide (n=1)<;>rfl
 ·simp only[decF h1,decF h2,decF h3,decF h4,decF h5,go1,Bool.or_self];cases decide (o=0)<;>rfl
def c_renamed (k n:Int)(s:BA)(o:Int)(a u:LL)(hs:s.size<=100000):cF 259 [kE k n s o a u]=some (.val [.bool (nameB k s)]):=by
 have q1:=c_rLow s hs;have q2:=c_rHigh s hs;have q3:=c_rPath s hs;have key:k=3\/k=11\/k=12\/k=13\/k=4\/k=17\/(k≠3/\k≠11/\k≠12/\k≠13/\k≠4/\k≠17):=by omega
 rcases key with rfl|rfl|rfl|rfl|rfl|rfl|⟨h1,h2,h3,h4,h5,h6⟩
 all_goals refine cOf (by kernel_rfl) rfl ?_
 all_goals rw[g259_eq]
 all_goals simp only[g259,go1,Int.reduceEq,nameB,Int.reduceEq,q1,q2,q3,seq_tb]
 all_goals (try rfl)
 simp only[decF h1,decF h2,decF h3,decF h4,decF h5,decF h6,go1,Bool.or_self];rfl
def c_rearm (s:BA)(hs:s.size<=100000):cF 269 [.d (.str s)]=some (.val [.bool (armN s)]):=by
 have h:=c_rHigh s hs;refine cOf (by kernel_rfl) rfl ?_
 rw[g269_eq];simp only[g269,go1,h,seq_tb];unfold armN;cases highN (tb s)<;>cases h1:decide (tb s=tb bTrue)<;>cases h2:decide (tb s=tb bFalse)<;>(unfold bTrue at h1;unfold bFalse at h2;simp only[go1,h1,h2];try rfl)
def c_rearms (k n:Int)(s:BA)(o:Int)(a:List BA)(u:LL)(ha: ∀x∈a,x.size<=100000)(hl:a.length<=1000000):cF 260 [kE k n s o (srows a) u]=some (.val [.bool (armsB k a)]):=by
 have hO:=c_rOnce a hl;refine cOf (by kernel_rfl) rfl ?_
 rw[g260_eq];simp only[g260,go1];refine all_loop2 armN a (fun i:Nat=>[.int .i64 (i:Int), .int .i64 k, .int .i64 n, .str s, .int .i64 o, .sl 1 (srows a), .sl 6 u]) rfl (r0:= .val [.bool false]) (r1:= .val [.bool (armsB k a)]) (fun i e hx=> ?_) (fun hall=> ?_) (by unfold armsB;cases a.all armN<;>rfl)
 ·have hlt:=(List.getElem?_eq_some_iff.1 hx).1;have h:=c_rearm e (ha e (List.mem_of_getElem? hx));simp only[go1,Nat.reduceAdd,oE,srows_len,ilt_at hlt,inr_at hlt,srows_at hx,h];cases armN e with
  |true=>simp only[go1,wrap_succ hlt (by omega)];rfl
  |false=>rfl
 ·simp only[go1,Nat.reduceAdd,oE,srows_len,ilt_self,hO,armsB,hall];have e1:decide ((a.length:Int)=1)=decide (a.length=1):=by rw[Bool.eq_iff_iff];simp;try omega
  have e2:decide ((a.length:Int)=0)=decide (a.length=0):=by rw[Bool.eq_iff_iff];simp;try omega
  have e3:decide ((1:Int)<=(a.length:Int))=decide (1<=a.length):=by rw[Bool.eq_iff_iff];simp;try omega
  have e4:decide ((a.length:Int)<=6)=decide (a.length<=6):=by rw[Bool.eq_iff_iff];simp;try omega
  rw[e1,e2,e3,e4]
  by_cases h1:k=11
  ·simp only[decT h1,go1]
  ·by_cases h2:k=12
   ·simp only[decF h1,decT h2,go1];cases decide (1<=a.length)<;>cases decide (a.length<=6)<;>rfl
   ·simp only[decF h1,decF h2,go1]
def c_resubs (k n:Int)(s:BA)(o:Int)(a:List BA)(u:LL)(hn:k=13->n=0\/n=1):cF 261 [kE k n s o (srows a) u]=some (.val [.int .i64 (loB k n a.length), .int .i64 (hiB k n a.length)]):=by
 have h5:=srows_len a;have key:(k=5\/k=10\/k=11\/k=6\/k=8\/k=9\/k=15\/k=7\/k=16\/k=12\/k=14)\/k=13\/(k≠5/\k≠10/\k≠11/\k≠6/\k≠8/\k≠9/\k≠15/\k≠7/\k≠16/\k≠12/\k≠14/\k≠13):=by omega
 rcases key with h|h|⟨h1,h2,h3,h4,h5,h6,h7,h8,h9,h10,h11,h12⟩
 ·rcases h with rfl|rfl|rfl|rfl|rfl|rfl|rfl|rfl|rfl|rfl|rfl
  all_goals refine cOf (by kernel_rfl) rfl ?_
  all_goals rw[g261_eq]
  all_goals simp only[g261,go1,Int.reduceEq,loB,hiB,Int.reduceEq,h5,or_self,or_true,true_or,if_true,if_false]
 ·subst h;rcases hn rfl with rfl|rfl
  ·refine cOf (by kernel_rfl) rfl ?_
   rw[g261_eq];simp only[g261,go1,Int.reduceEq,Int.reduceAdd,loB,hiB]
   try rfl
  ·refine cOf (by kernel_rfl) rfl ?_
   rw[g261_eq];simp only[g261,go1,Int.reduceEq,Int.reduceAdd,loB,hiB]
   try rfl
 ·refine cOf (by kernel_rfl) rfl ?_
  rw[g261_eq];simp only[g261,go1,decF h1,decF h2,decF h3,decF h4,decF h5,decF h6,decF h7,decF h8,decF h9,decF h10,decF h11,decF h12];simp only[loB,hiB,h1,h2,h3,h4,h5,h6,h7,h8,h9,h10,h11,h12,or_self,if_false]
def c_repart (k n:Int)(s:BA)(o:Int)(a:List BA)(u:List Ex)(hs:s.size<=100000)(ha: ∀x∈a,x.size<=100000)(hl:a.length<=1000000)(hu:Ex.sizes u<=1000000):
  cF 247 [kE k n s o (srows a) (Ex.rows u)]=some (.val [.bool (partB (.mk k n s o a u))]):=by
 have h1:=c_renumbers k n s o (srows a) (Ex.rows u);have h2:=c_renamed k n s o (srows a) (Ex.rows u) hs;have h3:=c_rearms k n s o a (Ex.rows u) ha hl;have h4:=rows_len u;simp only[partB];refine cOf (by kernel_rfl) rfl ?_
 rw[g247_eq];simp only[g247,go1,Int.reduceLE,h1,h2,h3,h4];have hkk:(decide (k < 1) || decide (17 < k))= !kindB k:=by
  unfold kindB;rw[nlt,nlt];cases decide (1<=k)<;>cases decide (k<=17)<;>rfl
 cases hk:kindB k with
 |false=>
  rw[hk]at hkk;cases g1:decide (k < 1)with
  |true=>simp only[go1];try rfl
  |false=>
   rw[g1]at hkk;have g2:decide (17 < k)=true:=by simpa using hkk
   simp only[go1,g2];try rfl
 |true=>
  rw[hk]at hkk;have g1:decide (k < 1)=false:=by cases g:decide (k < 1)with
   |true=>rw[g]at hkk;cases hkk
   |false=>rfl
  have g2:decide (17 < k)=false:=by rw[g1]at hkk;simpa using hkk
  simp only[go1,g1,g2];cases hN:numB k n with
  |false=>cases opB_ k o<;>(simp only[go1];try rfl)
  |true=>
   cases opB_ k o with
   |false=>cases nameB k s<;>(simp only[go1];try rfl)
   |true=>
    cases nameB k s with
    |false=>simp only[go1,Bool.and_self];try rfl
    |true=>
     cases armsB k a with
     |false=>simp only[go1,Bool.and_self];try rfl
     |true=>
      have h5:=c_resubs k n s o a (Ex.rows u) (fun h=>by
       subst h;simp[numB]at hN;exact hN)
      simp only[go1,Bool.and_self,h5];cases hlo:decide (loB k n a.length<=(u.length:Int))with
      |false=>simp only[go1];try rfl
      |true=>
       cases decide ((u.length:Int)<=hiB k n a.length)with
       |false=>simp only[go1];try rfl
       |true=>
        simp only[go1]
        by_cases h8:k=8
        ·subst h8
         match u,hlo,hu with
         | [],hlo,_=>cases hlo
         | .mk k2 n2 s2 o2 a2 u2::u,hlo,hu=>
           have hc:=c_reConst k2 n2 s2 o2 a2 u2 (by simp only[Ex.sizes,Ex.size]at hu;omega)
           have hr:sy.row (Ex.rows (.mk k2 n2 s2 o2 a2 u2::u)) 0= [.int .i64 k2, .int .i64 n2, .str s2, .int .i64 o2, .sl 1 (srows a2), .sl 6 (Ex.rows u2)]:=row_of (l:= .mk k2 n2 s2 o2 a2 u2::u) (i:=0) rfl;have hz:decide ((0:Int) < ((Ex.mk k2 n2 s2 o2 a2 u2::u).length:Int))=true:=decide_eq_true (by simp only[List.length_cons];omega)
           have hz2:decide ((0:Int)<=0/\(0:Int) < ((Ex.mk k2 n2 s2 o2 a2 u2::u).length:Int))=true:=decide_eq_true ⟨by omega,by simp only[List.length_cons];omega⟩
           simp only[go1,hz,hr,oE,hc,conB]
        ·simp only[go1,decF h8,conB]
mutual
def Ex.fine:Ex->Prop
 | .mk _ _ s _ a u=>(s.size<=100000/\(∀x∈a,x.size<=100000)/\a.length<=1000000)/\Ex.fines u
def Ex.fines:List Ex->Prop
 | []=>True
 |e::l=>e.fine/\Ex.fines l
end
def smallB (e:Ex):Bool:=decide (e.size<=60)&&decide (e.depth<=12)
mutual
def Ex.parts:Ex->List Ex
 | .mk k n s o a u=> .mk k n s o a u::Ex.partsL u
def Ex.partsL:List Ex->List Ex
 | []=>[]
 |e::l=>e.parts++Ex.partsL l
end
mutual
def parts_len: ∀e:Ex,e.parts.length=e.size
 | .mk k n s o a u=>by simp only[Ex.parts,Ex.size,List.length_cons,partsL_len u]
def partsL_len: ∀u:List Ex,(Ex.partsL u).length=Ex.sizes u
 | []=>rfl
 |e::l=>by simp only[Ex.partsL,Ex.sizes,List.length_append,parts_len e,partsL_len l]
end
mutual
def parts_all: ∀e:Ex,e.parts.all partB=allB e
 | .mk k n s o a u=>by simp only[Ex.parts,allB,List.all_cons,partsL_all u]
def partsL_all: ∀u:List Ex,(Ex.partsL u).all partB=allBs u
 | []=>rfl
 |e::l=>by simp only[Ex.partsL,allBs,List.all_append,parts_all e,partsL_all l]
end
mutual
def parts_fine: ∀e:Ex,e.fine-> ∀x∈e.parts,x.fine/\x.size<=e.size
 | .mk k n s o a u,h,x,hx=>by
   simp only[Ex.parts]at hx;rcases List.mem_cons.1 hx with rfl|hx
   ·exact⟨h,Nat.le_refl _⟩
   ·have:=partsL_fine u h.2 x hx;exact⟨this.1,by simp only[Ex.size];omega⟩
def partsL_fine: ∀u:List Ex,Ex.fines u-> ∀x∈Ex.partsL u,x.fine/\x.size<=Ex.sizes u
 | [],_,x,hx=>by cases hx
 |e::l,h,x,hx=>by
  simp only[Ex.partsL]at hx;rcases List.mem_append.1 hx with hx|hx
  ·have:=parts_fine e h.1 x hx;exact⟨this.1,by simp only[Ex.sizes];omega⟩
  ·have:=partsL_fine l h.2 x hx;exact⟨this.1,by simp only[Ex.sizes];omega⟩
end
def partsL_app: ∀a b:List Ex,Ex.partsL (a++b)=Ex.partsL a++Ex.partsL b
 | [],b=>rfl
 |e::a,b=>by simp only[List.cons_append,Ex.partsL,partsL_app a b,List.append_assoc]
def rows_app: ∀a b:List Ex,Ex.rows (a++b)=Ex.rows a++Ex.rows b
 | [],b=>rfl
 |e::a,b=>by simp only[List.cons_append,Ex.rows,rows_app a b]
def c_reParts: ∀(m:Nat) (k n:Int) (s:BA) (o:Int) (a:List BA) (u:List Ex),(Ex.mk k n s o a u).size<=m->m<=1000000->
  cF 136 [kE k n s o (srows a) (Ex.rows u)]=some (.own 114 6 (Ex.rows (Ex.mk k n s o a u).parts))
 |0,k,n,s,o,a,u,h,_=>by simp only[Ex.size]at h;omega
 |m+1,k,n,s,o,a,u,h,hm=>by
  have hz:Ex.sizes u<=m:=by simp only[Ex.size]at h;omega
  have hl:=sizes_len u;refine cOf (by kernel_rfl) rfl ?_
  rw[g136_eq];simp only[g136,go1,Nat.reduceAdd];refine loopF_at (fun i:Nat=>[.int .i64 (i:Int), .int .i64 k, .int .i64 n, .str s, .int .i64 o, .sl 1 (srows a), .sl 6 (Ex.rows u), .sl 6 (Ex.rows (.mk k n s o a u::Ex.partsL (u.take i)))]) (fun i=>i<=u.length) (fun i=>u.length - i) (fun i hi=> ?_) 0 (Nat.zero_le _)
  by_cases hlt:i < u.length
  ·left
   refine⟨i+1,?_,hlt,by omega⟩
   have hx:=List.getElem?_eq_getElem hlt;have hd:Ex.partsL (u.take (i+1))=Ex.partsL (u.take i)++u[i].parts:=by rw[List.take_add_one,hx,partsL_app];simp[Ex.partsL]
   have hsz:Ex.sizes (u.take i)<=Ex.sizes u:=by
    have:=sizes_app (u.take i) (u.drop i);rw[List.take_append_drop]at this;omega
   rw[hd];generalize u[i]=e at hx;have he:=sizes_mem hx;obtain⟨k2,n2,s2,o2,a2,u2⟩:=e;have h2:=c_reParts (Ex.mk k2 n2 s2 o2 a2 u2).size k2 n2 s2 o2 a2 u2 (Nat.le_refl _) (by omega)
   have hf:decide (((Ex.rows (.mk k n s o a u::Ex.partsL (u.take i))).length+(Ex.rows (Ex.mk k2 n2 s2 o2 a2 u2).parts).length)*(88+1)<=140737488355328)=true:=by
    refine decide_eq_true ?_;rw[rows_len,rows_len,List.length_cons,partsL_len,parts_len];omega
   simp only[go1,Nat.reduceAdd,rows_len,ilt_at hlt,inr_at hlt,row_of hx,oE,h2,wrap_succ hlt (by omega)]
   simp only[rows_len]at hf;simp only[hf,go1,rows_app,<-List.cons_append];rfl
  ·right
   have:i=u.length:=by omega
   subst this;simp only[go1,Nat.reduceAdd,oE,rows_len,ilt_self,List.take_length,Ex.parts]
 termination_by m=>m
 decreasing_by omega
def c_reRight (k n:Int)(s:BA)(o:Int)(a:List BA)(u:List Ex)(h:(Ex.mk k n s o a u).size<=1000000)(hf:(Ex.mk k n s o a u).fine):cF 226 [kE k n s o (srows a) (Ex.rows u)]=some (.val [.bool (smallB (.mk k n s o a u)&&allB (.mk k n s o a u))]):=by
 have h1:=c_rSize 1000000 k n s o a u h (Nat.le_refl _);have h2:=c_rDepth 1000000 k n s o a u h (Nat.le_refl _);have h3:=c_reParts 1000000 k n s o a u h (Nat.le_refl _);have e1:decide ((60:Int) < ((Ex.mk k n s o a u).size:Int))= !decide ((Ex.mk k n s o a u).size<=60):=by rw[Bool.eq_iff_iff];simp;try omega
 have e2:decide ((12:Int) < ((Ex.mk k n s o a u).depth:Int))= !decide ((Ex.mk k n s o a u).depth<=12):=by rw[Bool.eq_iff_iff];simp;try omega
 refine cOf (by kernel_rfl) rfl ?_
 rw[g226_eq];simp only[g226,go1,h1,h2,h3,e1,e2];rw[<-parts_all];have hlen:=parts_len (.mk k n s o a u);have hpf:=parts_fine _ hf;generalize (Ex.mk k n s o a u).parts=ps at*;have hloop: ∀b:List D->Option (List D ⊕ PRes),(∀(i:Nat) e,ps[i]? =some e->b [.sl 6 (Ex.rows ps), .int .i64 (i:Int)]=bif partB e then some (.inl [.sl 6 (Ex.rows ps), .int .i64 ((i+1:Nat):Int)])else some (.inr (.val [.bool false])))->b [.sl 6 (Ex.rows ps), .int .i64 (ps.length:Int)]=some (.inr (.val [.bool true]))->
     loopF b [.sl 6 (Ex.rows ps), .int .i64 0]=some (.val [.bool (ps.all partB)]):=fun b h1 h2=>
  all_loop2 partB ps (fun i:Nat=>[.sl 6 (Ex.rows ps), .int .i64 (i:Int)]) rfl (r0:= .val [.bool false]) (r1:= .val [.bool true]) h1 (fun _=>h2) (by cases ps.all partB<;>rfl)
 unfold smallB;cases decide ((Ex.mk k n s o a u).size<=60)with
 |false=>rfl
 |true=>
  cases decide ((Ex.mk k n s o a u).depth<=12)with
  |false=>rfl
  |true=>
   simp only[go1,Bool.and_self];refine hloop _ (fun i e hx=> ?_) ?_
   ·have hlt:=(List.getElem?_eq_some_iff.1 hx).1;have hm:=hpf e (List.mem_of_getElem? hx);obtain⟨k2,n2,s2,o2,a2,u2⟩:=e;obtain⟨⟨⟨f1,f2,f3⟩,f4⟩,f5⟩:=hm;have hc:=c_repart k2 n2 s2 o2 a2 u2 f1 f2 f3 (by simp only[Ex.size]at f5 h;omega)
    simp only[go1,rows_len,ilt_at hlt,inr_at hlt,row_of hx,oE,hc];cases partB (.mk k2 n2 s2 o2 a2 u2)with
    |true=>simp only[go1,wrap_succ hlt (by omega)];rfl
    |false=>rfl
   ·simp only[go1,rows_len,ilt_self]
def srows_snoc (acc:List BA)(x:BA):srows (acc++[x])=srows acc++[[.str x]]:=by simp[srows,srow]
abbrev En:=BA × List BA
def erow (e:En):List D:=[.str e.1, .sl 1 (srows e.2)]
def erows (l:List En):LL:=l.map erow
def erows_len (l:List En):(erows l).length=l.length:=by simp[erows]
structure Dc where
 n:BA
 k:Int
 e:Int
 c:Int
 o:BA
 q:BA
def drow (d:Dc):List D:=[.str d.n, .int .i64 d.k, .int .i64 d.e, .int .i64 d.c, .str d.o, .str d.q]
def drows (l:List Dc):LL:=l.map drow
def drows_len (l:List Dc):(drows l).length=l.length:=by simp[drows]
structure Eqn where
 ns:List BA
 e:Ex
def qrow (q:Eqn):List D:= .sl 1 (srows q.ns)::q.e.row
def qrows (l:List Eqn):LL:=l.map qrow
def qrows_len (l:List Eqn):(qrows l).length=l.length:=by simp[qrows]
structure Nd where
 n:BA
 ins:List Dc
 outs:List Dc
 vars:List Dc
 eqs:List Eqn
def nrow (n:Nd):List D:=[.str n.n, .sl 6 (drows n.ins), .sl 6 (drows n.outs), .sl 6 (drows n.vars), .sl 7 (qrows n.eqs)]
def nrows (l:List Nd):LL:=l.map nrow
def nrows_len (l:List Nd):(nrows l).length=l.length:=by simp[nrows]
def opL_eq {α:Type}(k:Nat)(x:LL)(K:LL->Option α):(opL (some (.sl k x)) k).bind K=K x:=by unfold opL;simp
def greatE (l:List En):Bool:=decide (4 < (l.length:Int)) || l.any fun e=>decide (6 < (e.2.length:Int))
def ctorsE (l:List En):List BA:=l.flatMap (·.2)
def lowE (l:List En):Bool:=l.all fun e=>lowN (tb e.1)&&decide (0 < (e.2.length:Int))
def highE (l:List BA):Bool:=l.all fun c=>highN (tb c)
def enumsN (l:List En):Int:=bif greatE l then 4 else bif !(lowE l&&highE (ctorsE l))then 1 else bif !(decide (l.map (·.1)).Nodup) || !(decide (ctorsE l).Nodup)then 6 else 0
def allD (n:Nd):List Dc:=n.ins++n.outs++n.vars
def tyB (ens:List En)(k e c:Int):Bool:= !(decide (c < 0) || decide (8 < c))&&(bif decide (k=1)then decide (e=0)else bif decide (k=2)then decide (e=0)else decide (k=3)&&(decide (0<=e)&&decide (e < (ens.length:Int))))
def bareB (d:Dc):Bool:=decide (tb d.o=tb (bs []))&&decide (tb d.q=tb (bs []))
def declB (ens:List En)(d:Dc):Bool:=(lowN (tb d.n)&&tyB ens d.k d.e d.c)&&(bareB d || (lowN (tb d.o)&&armN d.q))
def Ex.k:Ex->Int| .mk k _ _ _ _ _=>k
def eqB (x:Eqn):Bool:= !(decide ((x.ns.length:Int)=0))&&(smallB x.e&&allB x.e)&& !(decide (1 < (x.ns.length:Int))&& !decide (x.e.k=13))&&x.ns.all fun s=>lowN (tb s)
def noOn (l:List Dc):Bool:=l.all fun d=>decide (tb d.o=tb (bs []))
def nodeB (ens:List En)(n:Nd):Bool:=(allD n).all (declB ens)&&(noOn n.ins&&(noOn n.outs&&(n.eqs.all eqB&&(lowN (tb n.n)&&decide (0 < (n.outs.length:Int))))))
def greatB (n:Nd):Bool:=decide (6 < (n.ins.length:Int)) || (decide (6 < (n.outs.length:Int)) || (decide (12 < (n.vars.length:Int)) || decide (18 < (n.eqs.length:Int))))
def onceB (n:Nd):Bool:=decide ((allD n).map (·.n)).Nodup
def chkS (ens:List En)(nds:List Nd):Int:=bif !decide (enumsN ens=0)then enumsN ens else bif decide ((nds.length:Int)=0)then 5 else bif decide (6 < (nds.length:Int)) || nds.any greatB then 4 else bif !(nds.all (nodeB ens))then 1 else bif !(nds.all onceB) || !decide (nds.map (·.n)).Nodup then 6 else 0
def nrow_at {l:List Nd}{i:Nat}{x:Nd}(h:l[i]? =some x):sy.row (nrows l) (i:Int)=nrow x:=by
 rw[sy_row,Int.toNat_natCast,List.getD_eq_getElem?_getD];unfold nrows;rw[List.getElem?_map,h];rfl
def drow_at {l:List Dc}{i:Nat}{x:Dc}(h:l[i]? =some x):sy.row (drows l) (i:Int)=drow x:=by
 rw[sy_row,Int.toNat_natCast,List.getD_eq_getElem?_getD];unfold drows;rw[List.getElem?_map,h];rfl
def qrow_at {l:List Eqn}{i:Nat}{x:Eqn}(h:l[i]? =some x):sy.row (qrows l) (i:Int)=qrow x:=by
 rw[sy_row,Int.toNat_natCast,List.getD_eq_getElem?_getD];unfold qrows;rw[List.getElem?_map,h];rfl
def enm_at {l:List En}{i:Nat}{x:En}(h:l[i]? =some x):sy.row (erows l) (i:Int)= [.str x.1, .sl 1 (srows x.2)]:=by
 rw[sy_row,Int.toNat_natCast,List.getD_eq_getElem?_getD];unfold erows;rw[List.getElem?_map,h];rfl
def rep_loop2 {α:Type}{b:List D->Option (List D ⊕ α)}{r:α}{ds:List D}(n:Nat)(mk:Nat->List D)(h0:ds=mk 0)(hb: ∀i,i < n->b (mk i)=some (.inl (mk (i+1))))(hend:b (mk n)=some (.inr r)):loopF b ds=some r:=by
 rw[h0];exact rep_loop n mk hb hend
def ctorsE_take {l:List En}{i:Nat}{x:En}(h:l[i]? =some x):ctorsE (l.take (i+1))=ctorsE (l.take i)++x.2:=by
 rw[List.take_add_one,h];simp[ctorsE]
def names_take {l:List En}{i:Nat}{x:En}(h:l[i]? =some x):(l.take (i+1)).map (·.1)=(l.take i).map (·.1)++[x.1]:=by
 rw[List.take_add_one,h,List.map_append];rfl
def ctorsE_bd: ∀ {l:List En},(∀e∈l,e.2.length<=6)->(ctorsE l).length<=6*l.length
 | [],_=>by simp[ctorsE]
 |x::l,h=>by
  have h1:=h x List.mem_cons_self;have h2:=ctorsE_bd (l:=l) fun e he=>h e (List.mem_cons_of_mem _ he)
  unfold ctorsE at*;simp only[List.flatMap_cons,List.length_append,List.length_cons];omega
def drows_app (a b:List Dc):drows a++drows b=drows (a++b):=by simp[drows]
abbrev nV (n:Nd):V:= .agg [.d (.str n.n), .d (.sl 6 (drows n.ins)), .d (.sl 6 (drows n.outs)), .d (.sl 6 (drows n.vars)), .d (.sl 7 (qrows n.eqs))]
structure EqOK (x:Eqn):Prop where
 ns:x.ns.length<=1000000
 sz:x.e.size<=1000000
 fn:x.e.fine
 st: ∀s∈x.ns,s.size<=100000
structure DcOK (d:Dc):Prop where
 n:d.n.size<=100000
 o:d.o.size<=100000
 q:d.q.size<=100000
structure NdOK (n:Nd):Prop where
 al:(allD n).length<=1000000
 eq:n.eqs.length<=1000000
 eo: ∀x∈n.eqs,EqOK x
 dc: ∀d∈allD n,DcOK d
 nm:n.n.size<=100000
structure EnOK (e:En):Prop where
 n:e.1.size<=100000
 c: ∀x∈e.2,x.size<=100000
def enumsN_great {l:List En}(h:greatE l=true):enumsN l=4:=by unfold enumsN;rw[h];rfl
def sk1L {α:Type}(a:D)(k:Nat)(x:LL)(K:LL->Option α):(opL (sy.cell (sy.skip 1 [a, .sl k x]) 0) k).bind K=K x:=opL_eq k x K
def c_rEnums (l:List En)(hl:l.length<=1000000)(hE: ∀x∈l,EnOK x):cF 250 [.d (.sl 2 (erows l))]=some (.val [.int .i64 (enumsN l)]):=by
 by_cases h4:4 < (l.length:Int)
 ·have hG:greatE l=true:=by unfold greatE;rw[decT h4];rfl
  rw[enumsN_great hG];refine cOf (by kernel_rfl) rfl ?_
  rw[g250_eq];simp only[g250,go1,eq_self,Nat.reduceAdd,erows_len,decT h4]
 ·refine cOf (by kernel_rfl) rfl ?_
  rw[g250_eq];simp only[g250,go1,Nat.reduceAdd,erows_len,decF h4];have h4':l.length<=4:=by omega
  have hbd: ∀i,(∀e∈l.take i,e.2.length<=6)->(ctorsE (l.take i)).length<=24:=fun i h=>by
   have:=ctorsE_bd h;rw[List.length_take]at this;omega
  refine loopF_at (fun i:Nat=>[.sl 2 (erows l), .int .i64 (i:Int), .sl 1 (srows ((l.take i).map (·.1))), .sl 1 (srows (ctorsE (l.take i)))]) (fun i=>i<=l.length/\ ∀e∈l.take i,e.2.length<=6) (fun i=>l.length - i) (fun i hi=> ?_) 0 ⟨Nat.zero_le _,by simp⟩
  obtain⟨hi,h6⟩:=hi;have hcb:=hbd i h6
  by_cases hlt:i < l.length
  ·have hx:=List.getElem?_eq_getElem hlt
   by_cases hc:6 < (l[i].2.length:Int)
   ·right
    have hG:greatE l=true:=by
     unfold greatE;rw[Bool.or_eq_true];exact .inr (List.any_eq_true.2 ⟨l[i],List.getElem_mem hlt,decT hc⟩)
    rw[enumsN_great hG];simp only[go1,eq_self,erows_len,srows_len,ilt_at hlt,inr_at hlt,enm_at hx,sk1L,decT hc]
   ·left
    refine⟨i+1,?_,⟨hlt,fun e he=> ?_⟩,by omega⟩
    ·have hf:=fitsR (srows ((l.take i).map (·.1))) [[.str l[i].1]] 16 (by rw[srows_len,List.length_map,List.length_take];simp only[List.length_cons,List.length_nil];omega)
     have hf2:=fitsR (srows (ctorsE (l.take i))) (srows l[i].2) 16 (by rw[srows_len,srows_len];omega)
     rw[names_take hx,srows_snoc,ctorsE_take hx,<-srows_app];simp only[go1,Nat.reduceAdd,List.length_cons,List.length_nil]at hf hf2;simp only[go1,erows_len,ilt_at hlt,inr_at hlt,enm_at hx,sk1L,srows_len,decF hc,List.length_cons,List.length_nil]at hf hf2 ⊢;simp only[go1,hf,hf2,wrap_succ hlt (by omega)]
     rfl
    ·rw[List.take_add_one,hx]at he;rcases List.mem_append.1 he with he|he
     ·exact h6 e he
     ·simp at he;subst he;omega
  ·have:i=l.length:=by omega
   subst this
   right
   rw[List.take_length]at h6 hcb;have hG:greatE l=false:=by
    unfold greatE;rw[Bool.or_eq_false_iff];refine⟨decF h4,List.any_eq_false.2 fun e he=> ?_⟩
    have:=h6 e he;simp;omega
   have hO1:=c_rOnce (l.map (·.1)) (by simp;omega)
   have hO2:=c_rOnce (ctorsE l) (by omega)
   simp only[go1,erows_len,ilt_self,List.take_length];refine all_loop2 (r0:=Sum.inr (PRes.val [.int .i64 1])) (r1:=Sum.inr (PRes.val [.int .i64 (bif !highE (ctorsE l)then 1 else bif !decide (l.map (·.1)).Nodup || !decide (ctorsE l).Nodup then 6 else 0)])) (fun e:En=>lowN (tb e.1)&&decide (0 < (e.2.length:Int))) l (fun i:Nat=>[.sl 2 (erows l), .int .i64 (i:Int), .sl 1 (srows (l.map (·.1))), .sl 1 (srows (ctorsE l))]) rfl (fun i x hx=> ?_) (fun _=> ?_) ?_
   ·have hlt:=(List.getElem?_eq_some_iff.1 hx).1;have hL:=c_rLow x.1 (hE _ (List.mem_of_getElem? hx)).n;have e1:decide ((x.2.length:Int)=0)= !decide (0 < (x.2.length:Int)):=by rw[Bool.eq_iff_iff];simp
    simp only[go1,erows_len,ilt_at hlt,inr_at hlt,enm_at hx,sk1L,srows_len,hL,wrap_succ hlt (by omega),e1]
    cases lowN (tb x.1)<;>cases decide (0 < (x.2.length:Int))<;>rfl
   ·simp only[go1,erows_len,ilt_self];refine all_loop2 (r0:=Sum.inr (Sum.inr (PRes.val [.int .i64 1]))) (r1:=Sum.inr (Sum.inr (PRes.val [.int .i64 (bif !decide (l.map (·.1)).Nodup || !decide (ctorsE l).Nodup then 6 else 0)]))) (fun s:BA=>highN (tb s)) (ctorsE l) (fun i:Nat=>[.int .i64 (i:Int), .sl 1 (srows (l.map (·.1))), .sl 1 (srows (ctorsE l))]) rfl (fun i x hx=> ?_) (fun _=> ?_) ?_
    ·have hlt:=(List.getElem?_eq_some_iff.1 hx).1;have hsz:x.size<=100000:=by
      have hm:=List.mem_of_getElem? hx;unfold ctorsE at hm;obtain⟨e,he,hc⟩:=List.mem_flatMap.1 hm;exact(hE e he).c _ hc
     have hH:=c_rHigh x hsz;have hrn:sy.rown (srows (ctorsE l)) i=sy.row (srows (ctorsE l)) (i:Int):=by rw[sy_row,sy_rown,Int.toNat_natCast]
     simp only[go1,srows_len,ilt_at hlt,inr_at hlt,Int.toNat_natCast,hrn,srows_at hx,hH,wrap_succ hlt (by omega)]
     cases highN (tb x)<;>rfl
    ·simp only[go1,srows_len,ilt_self,hO1,hO2];cases decide (l.map (·.1)).Nodup<;>cases decide (ctorsE l).Nodup<;>rfl
    ·unfold highE;cases List.all (ctorsE l) _<;>rfl
   ·unfold enumsN lowE;rw[hG];cases List.all l _<;>cases highE (ctorsE l)<;>rfl
def q_tyRight (ens:List En)(k e c:Int):cF 272 [.d (.sl 2 (erows ens)), .agg [.d (.int .i64 k), .d (.int .i64 e), .d (.int .i64 c)]]=some (.val [.bool (tyB ens k e c)]):=by
 have hA:(decide (k < 1) || decide (3 < k))= !(decide (k=1) || (decide (k=2) || decide (k=3))):=by
  rw[Bool.eq_iff_iff];simp;omega
 have h13:decide (k=3)=true->decide (k=1)=false/\decide (k=2)=false:=fun h=>by
  have:=of_decide_eq_true h;exact⟨decF (by omega),decF (by omega)⟩
 unfold tyB;refine cOf (by kernel_rfl) rfl ?_
 rw[g272_eq];simp only[g272,go1,erows_len]
 revert hA h13
 cases decide (c < 0)<;>cases decide (8 < c)<;>cases decide (k < 1)<;>cases decide (3 < k)<;>cases decide (k=1)<;>cases decide (k=2)<;>cases decide (k=3)<;>intro hA h13<;>first|(cases hA;done)|(cases(h13 rfl).1;done)|(cases(h13 rfl).2;done)|(cases decide (0<=e)<;>rfl)|rfl
def q_arm (s:BA)(hs:s.size<=100000):cF 273 [.d (.str s)]=some (.val [.bool (armN s)]):=by
 have h:=c_rHigh s hs;unfold armN;refine cOf (by kernel_rfl) rfl ?_
 rw[g273_eq];simp only[g273,go1,h,seq_tb];rw[show tb bTrue=tb (bs [116,114,117,101])from rfl,show tb bFalse=tb (bs [102,97,108,115,101])from rfl];cases highN (tb s)<;>cases decide (tb s=tb (bs [116,114,117,101]))<;>rfl
abbrev dV (d:Dc):V:= .agg [.d (.str d.n), .d (.int .i64 d.k), .d (.int .i64 d.e), .d (.int .i64 d.c), .d (.str d.o), .d (.str d.q)]
def q_decl (ens:List En)(x:Dc)(h:DcOK x):cF 264 [.d (.sl 2 (erows ens)),dV x]=some (.val [.bool (declB ens x)]):=by
 have c1:=c_rLow x.n h.n;have c2:=q_tyRight ens x.k x.e x.c;have c3:=c_rLow x.o h.o;have c4:=q_arm x.q h.q;unfold declB bareB;obtain⟨n,k,e,c,o,q⟩:=x;refine cOf (by kernel_rfl) rfl ?_
 rw[g264_eq];simp only[g264,go1,c1,c2,c3,c4,seq_tb];cases lowN (tb n)<;>cases tyB ens k e c<;>cases decide (tb o=tb (bs []))<;>cases decide (tb q=tb (bs []))<;>cases lowN (tb o)<;>cases armN q<;>first|rfl|(simp only[go1,oN,oE,oD,Option.bind_some,eq_self,cond_true,cond_false,Nat.reduceAdd,Int.reduceEq,Int.reduceLT,Int.reduceLE,Int.reduceSub,Int.reduceAdd,c2,c3,c4];rfl)
def q_equation (ns:List BA)(k m:Int)(s:BA)(o:Int)(a:List BA)(u:List Ex)(h:EqOK ⟨ns, .mk k m s o a u⟩):cF 265 [.agg [.d (.sl 1 (srows ns)), .d (.int .i64 k), .d (.int .i64 m), .d (.str s), .d (.int .i64 o), .d (.sl 1 (srows a)), .d (.sl 6 (Ex.rows u))]]=some (.val [.bool (eqB ⟨ns, .mk k m s o a u⟩)]):=by
 have h1:=c_reRight k m s o a u h.sz h.fn;have hl:ns.length<=1000000:=h.ns;have hst:=h.st;have eE:eqB ⟨ns, .mk k m s o a u⟩=(!(decide ((ns.length:Int)=0))&&(smallB (.mk k m s o a u)&&allB (.mk k m s o a u))&& !(decide (1 < (ns.length:Int))&& !decide (k=13))&&ns.all fun s=>lowN (tb s)):=rfl
 rw[eE];have e1:decide ((ns.length:Int)=0)= !decide (0 < (ns.length:Int)):=by rw[Bool.eq_iff_iff];simp
 have e2:decide (0 < (ns.length:Int))=true->decide (1 < (ns.length:Int))= !decide ((ns.length:Int)=1):=fun h=>by
  have:=of_decide_eq_true h;rw[Bool.eq_iff_iff];simp;omega
 rw[e1];refine cOf (by kernel_rfl) rfl ?_
 rw[g265_eq];simp only[g265,go1,oE,Nat.reduceAdd];refine all_loop2 (r0:=PRes.val [.bool false]) (r1:=PRes.val [.bool (decide (0 < (ns.length:Int))&&(smallB (.mk k m s o a u)&&allB (.mk k m s o a u))&&(decide ((ns.length:Int)=1) || decide (k=13)))]) (fun s:BA=>lowN (tb s)) ns (fun i=>[.int .i64 (i:Int), .sl 1 (srows ns), .int .i64 k, .int .i64 m, .str s, .int .i64 o, .sl 1 (srows a), .sl 6 (Ex.rows u)]) rfl (fun i x hx=> ?_) (fun _=> ?_) ?_
 ·have hlt:=(List.getElem?_eq_some_iff.1 hx).1;have hL:=c_rLow x (hst x (List.mem_of_getElem? hx));simp only[go1,srows_len,ilt_at hlt,inr_at hlt,srows_at hx,hL,wrap_succ hlt (by omega)]
  cases lowN (tb x)<;>rfl
 ·simp only[go1,eq_self,srows_len,ilt_self,h1]
  try (cases decide (0 < (ns.length:Int))<;>cases smallB (.mk k m s o a u)&&allB (.mk k m s o a u)<;>cases decide ((ns.length:Int)=1)<;>rfl)
 ·revert e2
  cases decide (0 < (ns.length:Int))with
  |false=>intro _;cases List.all ns _<;>rfl
  |true=>
   intro e2;rw[e2 rfl];cases List.all ns _<;>cases smallB (.mk k m s o a u)&&allB (.mk k m s o a u)<;>cases decide ((ns.length:Int)=1)<;>cases decide (k=13)<;>rfl
def onB (d:Dc):Bool:=decide (tb d.o=tb (bs []))
def zip_lt (p:Dc->Bool)(N:Nat): ∀(l:List Dc) (k:Nat),k+l.length<=N->((l.zipIdx k).all fun x=>p x.1&&(!decide (x.2 < N) || onB x.1))=(l.all p&&noOn l)
 | [],k,_=>rfl
 |x::l,k,h=>by
  rw[List.zipIdx_cons,List.all_cons,zip_lt p N l (k+1) (by simp only[List.length_cons]at h;omega),List.all_cons]
  have:noOn (x::l)=(onB x&&noOn l):=rfl;rw[this,decT (by simp only[List.length_cons]at h;omega)]
  cases p x<;>cases onB x<;>cases l.all p<;>cases noOn l<;>rfl
def zip_ge (p:Dc->Bool)(N:Nat): ∀(l:List Dc) (k:Nat),N<=k->((l.zipIdx k).all fun x=>p x.1&&(!decide (x.2 < N) || onB x.1))=l.all p
 | [],k,_=>rfl
 |x::l,k,h=>by
  rw[List.zipIdx_cons,List.all_cons,zip_ge p N l (k+1) (by omega),List.all_cons,decF (by omega)]
  cases p x<;>rfl
def zip_all (p:Dc->Bool)(a b c:List Dc):((a++b++c).zipIdx.all fun x=>p x.1&&(!decide (x.2 < a.length+b.length) || onB x.1))=((a++b++c).all p&&(noOn a&&noOn b)):=by
 rw[List.zipIdx_append,List.zipIdx_append,List.all_append,List.all_append,zip_lt _ _ a 0 (by omega),zip_lt _ _ b (0+a.length) (by omega),zip_ge _ _ c _ (by simp),List.all_append,List.all_append]
 cases a.all p<;>cases b.all p<;>cases c.all p<;>cases noOn a<;>cases noOn b<;>rfl
def q_all (n:Nd)(h:(allD n).length<=1000000):cF 201 [nV n]=some (.own 172 6 (drows (allD n))):=by
 obtain⟨nm,ins,outs,vars,eqs⟩:=n;simp only[allD,List.length_append]at h;have f1:=fitsR [] (drows ins) 72 (by rw[drows_len];simp only[List.length_nil];omega)
 have f2:=fitsR (drows ins) (drows outs) 72 (by rw[drows_len,drows_len];omega)
 have f3:=fitsR (drows (ins++outs)) (drows vars) 72 (by rw[drows_len,drows_len,List.length_append];omega)
 rw[<-drows_app]at f3;simp only[go1,Nat.reduceAdd]at f1 f2 f3;refine cOf (by kernel_rfl) rfl ?_
 rw[g201_eq];simp only[g201,go1,Nat.reduceAdd];simp only[List.nil_append,f1,f2,f3,cond_true];rw[drows_app,drows_app];rfl
def q_names (l:List Dc)(h:l.length<=1000000):cF 253 [.d (.sl 6 (drows l))]=some (.own 9 1 (srows (l.map (·.n)))):=by
 refine cOf (by kernel_rfl) rfl ?_
 rw[g253_eq];simp only[g253,go1,Nat.reduceAdd];refine rep_loop2 l.length (fun i=>[.sl 6 (drows l), .int .i64 (i:Int), .sl 1 (srows ((l.take i).map (·.n)))]) rfl (fun i hlt=> ?_) ?_
 ·have hx:=List.getElem?_eq_getElem hlt;have hf:=fitsR (srows ((l.take i).map (·.n))) [[.str l[i].n]] 16 (by rw[srows_len,List.length_map,List.length_take];simp only[List.length_cons,List.length_nil];omega)
  rw[List.take_add_one,hx,Option.toList_some,List.map_append,List.map_cons,List.map_nil,srows_snoc];simp only[go1,Nat.reduceAdd,List.length_cons,List.length_nil]at hf;simp only[go1,drow,drows_len,ilt_at hlt,inr_at hlt,drow_at hx,hf,List.length_cons,List.length_nil,wrap_succ hlt (by omega)]
  rfl
 ·simp only[go1,eq_self,drows_len,ilt_self,List.take_length]
def sk4S {α:Type}(a b c d:D)(x:BA)(r:List D)(K:BA->Option α):(opS (sy.cell (sy.skip 4 (a::b::c::d:: .str x::r)) 0)).bind K=K x:=rfl
def q_node (ens:List En)(n:Nd)(h:NdOK n):cF 251 [.d (.sl 2 (erows ens)),nV n]=some (.val [.bool (nodeB ens n)]):=by
 have h1:=q_all n h.al;have hal:=h.al;have hdl:n.ins.length+n.outs.length<=1000000:=by
  unfold allD at hal;simp only[List.length_append]at hal;omega
 have heo:=h.eo;have heq:=h.eq;have hdc:=h.dc;have hnm:=c_rLow n.n h.nm;have hz:=zip_all (declB ens) n.ins n.outs n.vars;have e:n.ins++n.outs++n.vars=allD n:=rfl;rw[e]at hz;obtain⟨nm,ins,outs,vars,eqs⟩:=n;unfold nodeB;generalize allD ⟨nm,ins,outs,vars,eqs⟩=l at hal h1 hdc hz ⊢;simp only at h1 hdl heo heq hnm hz ⊢;have hw:IntKind.i64.wrap ((ins.length:Int)+(outs.length:Int))=((ins.length+outs.length:Nat):Int):=by rw[wrap_id (by omega) (by omega)];omega
 refine cOf (by kernel_rfl) rfl ?_
 rw[g251_eq];simp only[g251,go1,oN,oE,oD,Nat.reduceAdd,h1];refine all_loop2 (r0:=PRes.val [.bool false]) (r1:=PRes.val [.bool (eqs.all eqB&&(lowN (tb nm)&&decide (0 < (outs.length:Int))))]) (fun x:Dc × Nat=>declB ens x.1&&(!decide (x.2 < ins.length+outs.length) || onB x.1)) l.zipIdx (fun i=>[.sl 2 (erows ens), .sl 6 (drows l), .int .i64 (i:Int), .str nm, .sl 6 (drows ins), .sl 6 (drows outs), .sl 6 (drows vars), .sl 7 (qrows eqs)]) rfl (fun i x hx=> ?_) (fun _=> ?_) ?_
 ·rw[List.getElem?_zipIdx]at hx;cases hy:l[i]? with
  |none=>rw[hy]at hx;cases hx
  |some d=>
   rw[hy]at hx;simp only[Option.map_some,Option.some.injEq,Nat.zero_add]at hx;subst hx;have hlt:=(List.getElem?_eq_some_iff.1 hy).1;have c1:=q_decl ens d (hdc d (List.mem_of_getElem? hy));have e5:decide ((i:Int) < ((ins.length+outs.length:Nat):Int))=decide (i < ins.length+outs.length):=by rw[Bool.eq_iff_iff];simp;omega
   unfold onB;simp only[go1,drow,drows_len,ilt_at hlt,inr_at hlt,drow_at hy,c1,hw,e5,sk4S,seq_tb,wrap_succ hlt (by omega)]
   cases declB ens d<;>cases decide (i < ins.length+outs.length)<;>cases decide (tb d.o=tb (bs []))<;>rfl
 ·rw[List.length_zipIdx];simp only[go1,ilt_self,drows_len];refine all_loop2 (r0:=Sum.inr (PRes.val [.bool false])) (r1:=Sum.inr (PRes.val [.bool (lowN (tb nm)&&decide (0 < (outs.length:Int)))])) eqB eqs (fun i=>[.int .i64 (i:Int), .str nm, .sl 6 (drows ins), .sl 6 (drows outs), .sl 6 (drows vars), .sl 7 (qrows eqs)]) rfl (fun i x hx=> ?_) (fun _=> ?_) ?_
  ·have hlt:=(List.getElem?_eq_some_iff.1 hx).1;have hok:=heo x (List.mem_of_getElem? hx);have hr:=qrow_at hx;obtain⟨ns,e⟩:=x;obtain⟨k,m,y,o,a,u⟩:=e;have c1:=q_equation ns k m y o a u hok;have hr':sy.row (qrows eqs) (i:Int)= [.sl 1 (srows ns), .int .i64 k, .int .i64 m, .str y, .int .i64 o, .sl 1 (srows a), .sl 6 (Ex.rows u)]:=hr;simp only[go1,qrows_len,ilt_at hlt,inr_at hlt,hr',c1,wrap_succ hlt (by omega)]
   cases eqB ⟨ns, .mk k m y o a u⟩<;>rfl
  ·simp only[go1,eq_self,qrows_len,ilt_self,hnm,drows_len]
   try (cases lowN (tb nm)<;>rfl)
  ·cases List.all eqs _<;>rfl
 ·rw[hz];cases l.all (declB ens)<;>cases noOn ins<;>cases noOn outs<;>rfl
def q_check (ens:List En)(nds:List Nd)(hE:ens.length<=1000000)(hN:nds.length<=1000000)(hEo: ∀x∈ens,EnOK x)(h: ∀n∈nds,NdOK n):cF 240 [.agg [.d (.sl 2 (erows ens)), .d (.sl 5 (nrows nds))]]=some (.val [.int .i64 (chkS ens nds)]):=by
 have h1:=c_rEnums ens hE hEo;have hO:=c_rOnce (nds.map (·.n)) (by rw[List.length_map];exact hN)
 unfold chkS;refine cOf (by kernel_rfl) rfl ?_
 rw[g240_eq];simp only[g240,go1,oN,Nat.reduceAdd,h1];cases he:decide (enumsN ens=0)with
 |false=>simp only[go1,eq_self]
 |true=>
  simp only[go1,nrows_len];cases hz:decide ((nds.length:Int)=0)with
  |true=>rfl
  |false=>
   cases h6:decide (6 < (nds.length:Int))with
   |true=>rfl
   |false=>
    simp only[go1];have take1: ∀(p:Nd->Bool) {i:Nat} {x:Nd},nds[i]? =some x->(nds.take (i+1)).all p=((nds.take i).all p&&p x):=fun p i x hx=>by
     rw[List.take_add_one,hx,Option.toList_some,List.all_append,List.all_cons,List.all_nil,Bool.and_true]
    refine all_loop2 (r0:=PRes.val [.int .i64 4]) (r1:=PRes.val [.int .i64 (bif !nds.all (nodeB ens)then 1 else bif !nds.all onceB || !decide (nds.map (·.n)).Nodup then 6 else 0)]) (fun n=> !greatB n) nds (fun i=>[.bool ((nds.take i).all (nodeB ens)), .bool ((nds.take i).all onceB), .int .i64 (i:Int), .sl 2 (erows ens), .sl 5 (nrows nds), .sl 1 (srows ((nds.take i).map (·.n)))]) rfl (fun i x hx=> ?_) (fun _=> ?_) ?_
    ·have hlt:=(List.getElem?_eq_some_iff.1 hx).1;have hk:=h x (List.mem_of_getElem? hx);have c1:=q_node ens x hk;have c2:=q_all x hk.al;have c3:=q_names (allD x) hk.al;have c4:=c_rOnce ((allD x).map (·.n)) (by rw[List.length_map];exact hk.al)
     have hf:=fitsR (srows ((nds.take i).map (·.n))) [[.str x.n]] 16 (by rw[srows_len,List.length_map,List.length_take];simp only[List.length_cons,List.length_nil];omega)
     simp only[go1,Nat.reduceAdd,List.length_cons,List.length_nil]at hf;rw[take1 _ hx,take1 _ hx,List.take_add_one,hx,Option.toList_some,List.map_append,List.map_cons,List.map_nil,srows_snoc];have c4:cF 252 [.d (.sl 1 (srows ((allD x).map (·.n))))]=some (.val [.bool (onceB x)]):=c4;unfold greatB;simp only[go1,nrow,nrows_len,drows_len,qrows_len,ilt_at hlt,inr_at hlt,nrow_at hx,c1,c2,c3,c4,hf,List.length_cons,List.length_nil,wrap_succ hlt (by omega)]
     cases decide (6 < (x.ins.length:Int))<;>cases decide (6 < (x.outs.length:Int))<;>cases decide (12 < (x.vars.length:Int))<;>cases decide (18 < (x.eqs.length:Int))<;>first|rfl|skip
     cases(nds.take i).all (nodeB ens)<;>cases(nds.take i).all onceB<;>first|rfl|(simp only[go1,oN,oE,oD,Option.bind_some,eq_self,cond_true,cond_false,Nat.reduceAdd,Int.reduceEq,Int.reduceLT,Int.reduceLE,Int.reduceSub,Int.reduceAdd,nrow,nrows_len,drows_len,qrows_len,ilt_at hlt,inr_at hlt,nrow_at hx,c1,c2,c3,c4,hf,List.length_cons,List.length_nil,wrap_succ hlt (by omega)];rfl)
    ·simp only[go1,nrows_len,ilt_self,List.take_length,hO];cases nds.all (nodeB ens)<;>cases nds.all onceB<;>cases decide (nds.map (·.n)).Nodup<;>rfl
    ·rw[List.any_eq_not_all_not];cases List.all nds _<;>rfl
def tk_snoc {α:Type}{r:List α}{i:Nat}{x:α}(h:r[i]? =some x):r.take (i+1)=r.take i++[x]:=by rw[List.take_add_one,h];rfl
def skip1 (a:D)(r:List D):sy.skip 1 (a::r)=r:=rfl
def take_len_sizes (u:List Ex)(i:Nat)(h:i<=u.length):i<=Ex.sizes (u.take i):=by
 have:=sizes_len (u.take i);rw[List.length_take]at this;omega
def c_rcount: ∀(m:Nat) (k n:Int) (s:BA) (o:Int) (a:List BA) (u:List Ex) (left:Nat),(Ex.mk k n s o a u).size<=m->left<=200->
  ∃r:Nat,cF 87 [kE k n s o (srows a) (Ex.rows u), .d (.int .i64 (left:Int))]=some (.val [.int .i64 (r:Int)])/\r<=left/\(0 < r->(Ex.mk k n s o a u).size+r=left)
 |0,k,n,s,o,a,u,left,h,_=>by simp only[Ex.size]at h;omega
 |m+1,k,n,s,o,a,u,left,h,hleft=>by
  have hz:Ex.sizes u<=m:=by simp only[Ex.size]at h;omega
  have core: ∃p,g87 sy eF k n s o (srows a) (Ex.rows u) (left:Int)=some p/\ ∃r:Nat,p= .val [.int .i64 (r:Int)]/\r<=left/\(0 < r->(Ex.mk k n s o a u).size+r=left):=by
   unfold g87
   by_cases h0:left=0
   ·subst h0;refine⟨_,rfl,0,rfl,Nat.le_refl _,fun h=>by omega⟩
   ·have e0:sy.ile (left:Int) 0=false:=decide_eq_false (by omega)
    have w0:sy.wrap .i64 (sy.sub (left:Int) 1)=((left - 1:Nat):Int):=by
     show IntKind.i64.wrap ((left:Int) - 1)=_;rw[wrap_id (by omega) (by omega)];omega
    rw[e0,w0];refine loopF_ex (fun x:Nat × Nat=>[.int .i64 (x.2:Int), .int .i64 (x.1:Int), .int .i64 k, .int .i64 n, .str s, .int .i64 o, .sl 1 (srows a), .sl 6 (Ex.rows u)]) (fun x=>x.1<=u.length/\x.2 < left/\(0 < x.2->1+Ex.sizes (u.take x.1)+x.2=left)) (fun x=>u.length - x.1) (fun x hx=> ?_) (0,left - 1) ⟨Nat.zero_le _,by simp only;omega,fun _=>by simp[Ex.sizes];omega⟩
    obtain⟨i,r⟩:=x;obtain⟨h1,h2,h3⟩:=hx;simp only at h1 h2 h3 ⊢
    by_cases hlt:i < u.length
    ·by_cases hr:0 < r
     ·left
      have hx:=List.getElem?_eq_getElem hlt;have htk:u.take (i+1)=u.take i++[u[i]]:=by rw[List.take_add_one,hx];rfl
      generalize u[i]=e at hx htk;have hrow:=xrow hx;have hem:=sizes_mem hx;obtain⟨k2,n2,s2,o2,a2,u2⟩:=e;obtain⟨r2,q1,q2,q3⟩:=c_rcount m k2 n2 s2 o2 a2 u2 r (by omega) (by omega)
      have hi:=take_len_sizes u i h1;have h3:=h3 hr;have w1:IntKind.i64.wrap ((i:Int)+1)=((i+1:Nat):Int):=by rw[wrap_id (by omega) (by omega)];omega
      have l0:=ilt_at hlt;have i0:=inr_at hlt;have z0:decide ((0:Int) < (r:Int))=true:=decide_eq_true (by omega)
      refine⟨(i+1,r2),?_,⟨hlt,by simp only;omega,fun hp=> ?_⟩,by simp only;omega⟩
      ·simp only[go1,oE,eq_self,oE,rows_len,l0,i0,z0,hrow,Ex.row,q1,w1]
      ·simp only at hp ⊢;have:=q3 hp;rw[htk,sizes_snoc];omega
     ·right
      have hr0:r=0:=by omega
      subst hr0;refine⟨_,?_,0,rfl,Nat.zero_le _,fun h=>by omega⟩
      have l0:=ilt_at hlt;simp only[go1,oE,eq_self,oE,rows_len,l0,show decide ((0:Int) < ((0:Nat):Int))=false from rfl]
    ·right
     have:i=u.length:=by omega
     subst this;rw[List.take_length]at h3;refine⟨_,?_,r,rfl,by omega,fun hp=> ?_⟩
     ·simp only[go1,oE,eq_self,oE,rows_len,ilt_self]
     ·have:=h3 hp;simp only[Ex.size];omega
  obtain⟨p,h1,r,rfl,h2⟩:=core;exact⟨r,cOf (by kernel_rfl) rfl ((g87_eq _ _ _ _ _ _ _ _ _).trans h1),h2⟩
def okQ:Ex->Prop
 | .mk _ _ s _ a _=>s.size<=200/\a.length<=20/\ ∀x∈a,x.size<=100
def row_fields {l:List Ex}{i:Nat}{k n:Int}{s:BA}{o:Int}{a:List BA}{u:List Ex}(h:l[i]? =some (.mk k n s o a u)):
  sy.cell (sy.skip 2 (sy.row (Ex.rows l) (i:Int))) 0=some (.str s)/\sy.cell (sy.skip 4 (sy.row (Ex.rows l) (i:Int))) 0=some (.sl 1 (srows a)):=by
 rw[xrow h];exact⟨rfl,rfl⟩
def c_rfew (k n:Int)(s:BA)(o:Int)(a:List BA)(u:List Ex)(h:(Ex.mk k n s o a u).size<=1000):
  ∃b,cF 88 [kE k n s o (srows a) (Ex.rows u)]=some (.val [.bool b])/\(b=true-> ∀x∈(Ex.mk k n s o a u).parts,okQ x):=by
 have hp:=c_reParts 1000 k n s o a u h (by omega)
 have hpl:=parts_len (Ex.mk k n s o a u);generalize (Ex.mk k n s o a u).parts=P at hp hpl ⊢;have core: ∃p,g88 sy eF k n s o (srows a) (Ex.rows u)=some p/\ ∃b,p= .val [.bool b]/\(b=true-> ∀x∈P,okQ x):=by
  simp only[g88,go1,hp];refine loopF_ex (fun i:Nat=>[.sl 6 (Ex.rows P), .int .i64 (i:Int)]) (fun i=>i<=P.length/\ ∀x∈P.take i,okQ x) (fun i=>P.length - i) (fun i hi=> ?_) 0 ⟨Nat.zero_le _,by simp⟩
  obtain⟨h1,h2⟩:=hi
  by_cases hlt:i < P.length
  ·have hx:=List.getElem?_eq_getElem hlt;have htk:P.take (i+1)=P.take i++[P[i]]:=by rw[List.take_add_one,hx];rfl
   generalize P[i]=e at hx htk;obtain⟨k2,n2,s2,o2,a2,u2⟩:=e;obtain⟨f1,f2⟩:=row_fields hx;have l0:=ilt_at hlt;have i0:=inr_at hlt;have w1:IntKind.i64.wrap ((i:Int)+1)=((i+1:Nat):Int):=by rw[wrap_id (by omega) (by omega)];omega
   by_cases g1:200 < s2.size
   ·right
    refine⟨_,?_,false,rfl,fun h=>by cases h⟩
    simp only[go1,eq_self,rows_len,l0,i0,f1,decide_eq_true (show(200:Int) < (s2.size:Int) by omega)]
   ·by_cases g2:20 < a2.length
    ·right
     refine⟨_,?_,false,rfl,fun h=>by cases h⟩
     simp only[go1,eq_self,rows_len,srows_len,l0,i0,f1,f2,decide_eq_false (show ¬(200:Int) < (s2.size:Int) by omega),decide_eq_true (show(20:Int) < (a2.length:Int) by omega)]
    ·simp only[go1,rows_len,srows_len,l0,i0,f1,f2,decide_eq_false (show ¬(200:Int) < (s2.size:Int) by omega),decide_eq_false (show ¬(20:Int) < (a2.length:Int) by omega)]
     have inner: ∃p,loopF (fun ds11=>
         (opL (sy.cell ds11 0) 6).bind fun l12=>
         (opI (sy.cell ds11 1) .i64).bind fun n13=>
         (opI (sy.cell ds11 2) .i64).bind fun n14=>
         bif (sy.inr n13 (sy.rlen l12))then
          (opL (sy.cell (sy.skip 4 (sy.row l12 n13)) 0) 1).bind fun l15=>
          bif (sy.ilt n14 (sy.rlen l15))then
           bif (sy.inr n13 (sy.rlen l12))then
            (opL (sy.cell (sy.skip 4 (sy.row l12 n13)) 0) 1).bind fun l16=>
            bif (sy.inr n14 (sy.rlen l16))then
             (opS (sy.cell (sy.row l16 n14) 0)).bind fun s17=>
             bif (sy.ilt 100 (sy.slen s17))then
              some (.inr ((.inr (PRes.val [(.bool false)])):List D ⊕ PRes))
             else
              some (.inl [(.sl 6 l12),(.int .i64 n13),(.int .i64 (sy.wrap .i64 (sy.add n14 1)))])
            else
             none
           else
            none
          else
           some (.inr (.inl [(.sl 6 l12),(.int .i64 (sy.wrap .i64 (sy.add n13 1)))]))
         else
          none
       ) [(.sl 6 (Ex.rows P)),(.int .i64 (i:Int)),(.int .i64 0)]=some p/\(p= .inr (.val [.bool false])\/p= .inl [.sl 6 (Ex.rows P), .int .i64 ((i+1:Nat):Int)]/\ ∀x∈a2,x.size<=100):=by
      refine loopF_ex (fun j:Nat=>[.sl 6 (Ex.rows P), .int .i64 (i:Int), .int .i64 (j:Int)]) (fun j=>j<=a2.length/\ ∀x∈a2.take j,x.size<=100) (fun j=>a2.length - j) (fun j hj=> ?_) 0 ⟨Nat.zero_le _,by simp⟩
      obtain⟨j1,j2⟩:=hj
      by_cases hj:j < a2.length
      ·have hy:=List.getElem?_eq_getElem hj;have hyk:a2.take (j+1)=a2.take j++[a2[j]]:=by rw[List.take_add_one,hy];rfl
       generalize a2[j]=y at hy hyk;have hc:=srows_at hy;have l1:=ilt_at hj;have i1:=inr_at hj;have w2:IntKind.i64.wrap ((j:Int)+1)=((j+1:Nat):Int):=by rw[wrap_id (by omega) (by omega)];omega
       by_cases g9900003:100 < y.size
       ·right
        refine⟨_,?_, .inl rfl⟩;simp only[go1,eq_self,rows_len,srows_len,i0,f2,l1,i1,hc,decide_eq_true (show(100:Int) < (y.size:Int) by omega)]
       ·left
        refine⟨j+1,?_,⟨hj,fun x hx=> ?_⟩,by omega⟩
        ·simp only[go1,eq_self,rows_len,srows_len,i0,f2,l1,i1,hc,decide_eq_false (show ¬(100:Int) < (y.size:Int) by omega),w2]
        ·rw[hyk]at hx;rcases List.mem_append.1 hx with hx|hx
         ·exact j2 x hx
         ·rw[List.mem_singleton.1 hx];omega
      ·right
       have:j=a2.length:=by omega
       subst this;rw[List.take_length]at j2;refine⟨_,?_, .inr ⟨rfl,j2⟩⟩;simp only[go1,eq_self,rows_len,srows_len,i0,f2,ilt_self,w1]
     obtain⟨p,hp1,hp2⟩:=inner;simp only[go1]at hp1;rcases hp2 with rfl|⟨rfl,hq⟩
     ·right
      exact⟨_,hp1,false,rfl,fun h=>by cases h⟩
     ·left
      refine⟨i+1,hp1,⟨hlt,fun x hx=> ?_⟩,by omega⟩
      rw[htk]at hx;rcases List.mem_append.1 hx with hx|hx
      ·exact h2 x hx
      ·rw[List.mem_singleton.1 hx];exact⟨by omega,by omega,hq⟩
  ·right
   have:i=P.length:=by omega
   subst this;rw[List.take_length]at h2;refine⟨_,?_,true,rfl,fun _=>h2⟩
   simp only[go1,eq_self,rows_len,ilt_self]
 obtain⟨p,h1,b,rfl,h2⟩:=core;exact⟨b,cOf (by kernel_rfl) rfl ((g88_eq _ _ _ _ _ _ _ _).trans h1),h2⟩
mutual
def fine_of: ∀e:Ex,(∀x∈e.parts,okQ x)->e.fine
 | .mk k n s o a u,h=>by
   have h0:okQ (.mk k n s o a u):=h _ (by simp[Ex.parts])
   refine⟨⟨by have:=h0.1;omega,fun x hx=>by have:=h0.2.2 x hx;omega,by have:=h0.2.1;omega⟩,fines_of u fun x hx=>h x (by simp[Ex.parts,hx])⟩
def fines_of: ∀u:List Ex,(∀x∈Ex.partsL u,okQ x)->Ex.fines u
 | [],_=>trivial
 |e::u,h=>⟨fine_of e fun x hx=>h x (by simp[Ex.partsL,hx]),fines_of u fun x hx=>h x (by simp[Ex.partsL,hx])⟩
end
def c_rSmall (k n:Int)(s:BA)(o:Int)(a:List BA)(u:List Ex): ∃b,cF 47 [kE k n s o (srows a) (Ex.rows u)]=some (.val [.bool b])/\(b=true->(Ex.mk k n s o a u).size<=200/\(Ex.mk k n s o a u).fine):=by
 obtain⟨r,h1,h2,h3⟩:=c_rcount _ k n s o a u 200 (Nat.le_refl _) (Nat.le_refl _);have h1:cF 87 [kE k n s o (srows a) (Ex.rows u), .d (.int .i64 200)]=_:=h1
 by_cases hr:0 < r
 ·have h3:=h3 hr;obtain⟨b,h4,h5⟩:=c_rfew k n s o a u (by omega)
  refine⟨b,?_,fun hb=>⟨by omega,fine_of _ (h5 hb)⟩⟩
  refine cOf (by kernel_rfl) rfl ?_
  rw[g47_eq];simp only[g47,go1,eq_self,h1,h4,decide_eq_true (show(0:Int) < (r:Int) by omega)]
 ·refine⟨false,?_,fun h=>by cases h⟩
  refine cOf (by kernel_rfl) rfl ?_
  rw[g47_eq];simp only[g47,go1,eq_self,h1,decide_eq_false (show ¬(0:Int) < (r:Int) by omega)]
def inner_lp {X:Option (List D ⊕ PRes)}{P E:Prop}{R:PRes->Prop}{L:List D}(key: ∃r,X=some r/\((r= .inl L/\E)\/ ∃q,r= .inr q/\R q))(k:X=some (.inl L)->E->P):P\/ ∃q,X=some (.inr q)/\R q:=by
 obtain⟨r,h,h2⟩:=key;rcases h2 with⟨rfl,e⟩|⟨q,rfl,h3⟩
 ·exact .inl (k h e)
 ·exact .inr ⟨q,h,h3⟩
def EB (x:En):Prop:=x.1.size<=100/\x.2.length<=12/\ ∀c∈x.2,c.size<=100
def c_enSmall (l:List En): ∃p,cF 45 [.d (.sl 2 (erows l))]=some p/\ ∃b,p= .val [.bool b]/\(b=true->l.length<=8/\ ∀x∈l,EB x):=by
 refine cOfP (by kernel_rfl) rfl ?_
 rw[g45_eq];unfold g45
 by_cases h8:8 < (l.length:Int)
 ·refine⟨_,?_,false,rfl,fun h=>by cases h⟩
  rw[show sy.ilt 8 (sy.rlen (erows l))=true from decT (by rw[sy_rlen,erows_len];exact h8)];rfl
 ·rw[show sy.ilt 8 (sy.rlen (erows l))=false from decF (by rw[sy_rlen,erows_len];exact h8),cond_false,eF_lp]
  refine loopF_ex (fun i:Nat=>[.sl 2 (erows l), .int .i64 (i:Int)]) (fun i=>i<=l.length/\ ∀j (h:j < l.length),j < i->EB l[j]) (fun i=>l.length - i) (fun i hi=> ?_) 0 ⟨Nat.zero_le _,by omega⟩
  obtain⟨hi,hE⟩:=hi
  by_cases hlt:i < l.length
  ·have hx:=List.getElem?_eq_getElem hlt
   by_cases h12:l[i].2.length<=12
   ·by_cases h100:l[i].1.size<=100
    ·simp only[go1,erows_len,srows_len,ilt_at hlt,inr_at hlt,enm_at hx,skip1,decF (p:=12 < (l[i].2.length:Int)) (by omega),decF (p:=100 < (l[i].1.size:Int)) (by omega)]
     refine inner_lp (L:=[D.sl 2 (erows l),D.int IntKind.i64 ((i:Int)+1)]) (E:= ∀c∈l[i].2,c.size<=100) ?_ (fun hr he=>⟨i+1,hr,⟨hlt,fun j hj hji=> ?_⟩,by omega⟩)
     ·refine loopF_ex (fun j:Nat=>[.sl 2 (erows l), .int .i64 (i:Int), .int .i64 (j:Int)]) (fun j=>j<=l[i].2.length/\ ∀k (h:k < l[i].2.length),k < j->l[i].2[k].size<=100) (fun j=>l[i].2.length - j) (fun j hj=> ?_) 0 ⟨Nat.zero_le _,by omega⟩
      obtain⟨hj,hC⟩:=hj
      by_cases hjl:j < l[i].2.length
      ·have hy:=List.getElem?_eq_getElem hjl
       by_cases hc:l[i].2[j].size<=100
       ·left
        refine⟨j+1,?_,⟨hjl,fun k hk hkj=> ?_⟩,by omega⟩
        ·simp only[go1,erows_len,srows_len,inr_at hlt,ilt_at hjl,inr_at hjl,enm_at hx,skip1,srows_at hy,decF (p:=100 < (l[i].2[j].size:Int)) (by omega),wrap_succ hjl (by omega)]
         rfl
        ·by_cases e:k=j
         ·subst e;exact hc
         ·exact hC k hk (by omega)
       ·right
        refine⟨.inr (.val [.bool false]),?_, .inr ⟨_,rfl,false,rfl,fun h=>by cases h⟩⟩
        simp only[go1,eq_self,erows_len,srows_len,inr_at hlt,ilt_at hjl,inr_at hjl,enm_at hx,skip1,srows_at hy,decT (p:=100 < (l[i].2[j].size:Int)) (by omega)]
      ·have:j=l[i].2.length:=by omega
       subst this
       right
       refine⟨_,?_, .inl ⟨rfl,fun c hc=> ?_⟩⟩
       ·simp only[go1,eq_self,erows_len,srows_len,inr_at hlt,ilt_self,enm_at hx,skip1,wrap_succ hlt (by omega)]
       ·obtain⟨k,hk,rfl⟩:=List.getElem_of_mem hc;exact hC k hk hk
     ·by_cases e:j=i
      ·subst e;exact⟨h100,h12,he⟩
      ·exact hE j hj (by omega)
    ·right
     refine⟨.val [.bool false],?_,false,rfl,fun h=>by cases h⟩
     simp only[go1,eq_self,erows_len,ilt_at hlt,inr_at hlt,enm_at hx,skip1,decT (p:=100 < (l[i].1.size:Int)) (by omega)]
   ·right
    refine⟨.val [.bool false],?_,false,rfl,fun h=>by cases h⟩
    simp only[go1,eq_self,erows_len,srows_len,ilt_at hlt,inr_at hlt,enm_at hx,skip1,decT (p:=12 < (l[i].2.length:Int)) (by omega)]
  ·right
   have:i=l.length:=by omega
   subst this;refine⟨.val [.bool true],?_,true,rfl,fun _=>⟨by omega,fun x hx=> ?_⟩⟩
   ·simp only[go1,eq_self,erows_len,ilt_self]
   ·obtain⟨k,hk,rfl⟩:=List.getElem_of_mem hx;exact hE k hk hk
def dcells {l:List Dc}{i:Nat}{x:Dc}(h:l[i]? =some x):sy.cell (sy.row (drows l) (i:Int)) 0=some (.str x.n)/\sy.cell (sy.skip 4 (sy.row (drows l) (i:Int))) 0=some (.str x.o)/\sy.cell (sy.skip 5 (sy.row (drows l) (i:Int))) 0=some (.str x.q):=by
 rw[drow_at h];exact⟨rfl,rfl,rfl⟩
def c_few (l:List Dc)(hl:l.length<=9223372036854775807): ∃b,cF 46 [.d (.sl 6 (drows l))]=some (.val [.bool b])/\(b=true->l.length<=20/\ ∀x∈l,DcOK x):=by
 have core: ∃p,g46 sy eF (drows l)=some p/\ ∃b,p= .val [.bool b]/\(b=true->l.length<=20/\ ∀x∈l,DcOK x):=by
  unfold g46;refine loopF_ex (fun i:Nat=>[.sl 6 (drows l), .int .i64 (i:Int)]) (fun i=>i<=l.length/\ ∀x∈l.take i,DcOK x) (fun i=>l.length - i) (fun i hi=> ?_) 0 ⟨Nat.zero_le _,by simp⟩
  obtain⟨h1,h2⟩:=hi
  by_cases hlt:i < l.length
  ·have hx:=List.getElem?_eq_getElem hlt;have htk:l.take (i+1)=l.take i++[l[i]]:=tk_snoc hx;generalize l[i]=d at hx htk;obtain⟨f1,f2,f3⟩:=dcells hx;have l0:=ilt_at hlt;have i0:=inr_at hlt;have w1:IntKind.i64.wrap ((i:Int)+1)=((i+1:Nat):Int):=by rw[wrap_id (by omega) (by omega)];omega
   simp only[go1,drows_len,l0,i0,f1,f2,f3,w1]
   by_cases g1:100 < d.n.size
   ·right
    refine⟨_,?_,false,rfl,fun h=>by cases h⟩
    simp only[decide_eq_true (show(100:Int) < (d.n.size:Int) by omega),go1]
   ·by_cases g2:100 < d.o.size
    ·right
     refine⟨_,?_,false,rfl,fun h=>by cases h⟩
     simp only[decide_eq_false (show ¬(100:Int) < (d.n.size:Int) by omega),decide_eq_true (show(100:Int) < (d.o.size:Int) by omega),go1]
    ·by_cases g9900003:100 < d.q.size
     ·right
      refine⟨_,?_,false,rfl,fun h=>by cases h⟩
      simp only[decide_eq_false (show ¬(100:Int) < (d.n.size:Int) by omega),decide_eq_false (show ¬(100:Int) < (d.o.size:Int) by omega),decide_eq_true (show(100:Int) < (d.q.size:Int) by omega),go1]
     ·left
      refine⟨i+1,?_,⟨hlt,fun x hx=> ?_⟩,by omega⟩
      ·simp only[decide_eq_false (show ¬(100:Int) < (d.n.size:Int) by omega),decide_eq_false (show ¬(100:Int) < (d.o.size:Int) by omega),decide_eq_false (show ¬(100:Int) < (d.q.size:Int) by omega),go1]
      ·rw[htk]at hx;rcases List.mem_append.1 hx with hx|hx
       ·exact h2 x hx
       ·rw[List.mem_singleton.1 hx];exact⟨by omega,by omega,by omega⟩
  ·right
   have:i=l.length:=by omega
   subst this;rw[List.take_length]at h2;refine⟨_,?_,decide ((l.length:Int)<=20),rfl,fun h=>⟨by have:=of_decide_eq_true h;omega,h2⟩⟩
   simp only[go1,eq_self,drows_len,ilt_self]
 obtain⟨p,h1,b,rfl,h2⟩:=core;exact⟨b,cOf (by kernel_rfl) rfl ((g46_eq _ _ _).trans h1),h2⟩
def inner_lpG {O:Type}{X:Option (List D ⊕ O)}{P E:Prop}{R:O->Prop}{L:List D}(key: ∃r,X=some r/\((r= .inl L/\E)\/ ∃q,r= .inr q/\R q))(k:X=some (.inl L)->E->P):P\/ ∃q,X=some (.inr q)/\R q:=by
 obtain⟨r,h,h2⟩:=key;rcases h2 with⟨rfl,e⟩|⟨q,rfl,h3⟩
 ·exact .inl (k h e)
 ·exact .inr ⟨q,h,h3⟩
structure ES (x:Eqn):Prop where
 ns:x.ns.length<=20
 sz:x.e.size<=200
 fn:x.e.fine
 st: ∀s∈x.ns,s.size<=100
structure NS (n:Nd):Prop where
 i:n.ins.length<=20/\ ∀x∈n.ins,DcOK x
 o:n.outs.length<=20/\ ∀x∈n.outs,DcOK x
 v:n.vars.length<=20/\ ∀x∈n.vars,DcOK x
 q:n.eqs.length<=30
 e: ∀x∈n.eqs,ES x
 m:n.n.size<=100
structure LB (n:Nd):Prop where
 i:n.ins.length<=9223372036854775807
 o:n.outs.length<=9223372036854775807
 v:n.vars.length<=9223372036854775807
def mem_snoc {α:Type}{p:α->Prop}{l:List α}{x:α}(h: ∀y∈l,p y)(hx:p x): ∀y∈l++[x],p y:=fun y hy=>by
 rcases List.mem_append.1 hy with hy|hy
 ·exact h y hy
 ·rw[List.mem_singleton.1 hy];exact hx
def c_pgSmall (ens:List En)(nds:List Nd)(hl: ∀n∈nds,LB n): ∃b,cF 19 [.agg [.d (.sl 2 (erows ens)), .d (.sl 5 (nrows nds))]]=some (.val [.bool b])/\(b=true->(ens.length<=8/\ ∀x∈ens,EB x)/\nds.length<=10/\ ∀n∈nds,NS n):=by
 obtain⟨_,hS,bS,rfl,hS2⟩:=c_enSmall ens;have core: ∃p,g19 sy eF (erows ens) (nrows nds)=some p/\ ∃b,p= .val [.bool b]/\(b=true->(ens.length<=8/\ ∀x∈ens,EB x)/\nds.length<=10/\ ∀n∈nds,NS n):=by
  unfold g19;cases bS with
  |false=>exact⟨_,by simp only[go1,oN,oE,eq_self,hS],false,rfl,fun h=>by cases h⟩
  |true=>
   by_cases h10:10 < nds.length
   ·exact⟨_,by simp only[go1,oN,oE,eq_self,hS,nrows_len,decide_eq_true (show(10:Int) < (nds.length:Int) by omega)],false,rfl,fun h=>by cases h⟩
   ·simp only[go1,oN,oE,hS,nrows_len,decide_eq_false (show ¬(10:Int) < (nds.length:Int) by omega)]
    refine loopF_ex (fun i:Nat=>[.int .i64 (i:Int), .sl 2 (erows ens), .sl 5 (nrows nds)]) (fun i=>i<=nds.length/\ ∀n∈nds.take i,NS n) (fun i=>nds.length - i) (fun i hi=> ?_) 0 ⟨Nat.zero_le _,by simp⟩
    obtain⟨h1,h2⟩:=hi
    by_cases hlt:i < nds.length
    ·have hx:=List.getElem?_eq_getElem hlt;have htk:nds.take (i+1)=nds.take i++[nds[i]]:=tk_snoc hx;obtain⟨l1,l2,l3⟩:=hl _ (List.getElem_mem hlt);have hr:=nrow_at hx;generalize nds[i]=n at hx htk l1 l2 l3 hr;obtain⟨nm,ins,outs,vars,eqs⟩:=n;obtain⟨b1,p1,p2⟩:=c_few ins l1;obtain⟨b2,q1,q2⟩:=c_few outs l2;obtain⟨b3,r1,r2⟩:=c_few vars l3;have l0:=ilt_at hlt;have i0:=inr_at hlt;have w1:IntKind.i64.wrap ((i:Int)+1)=((i+1:Nat):Int):=by rw[wrap_id (by omega) (by omega)];omega
     simp only[go1,nrows_len,l0,i0,hr,nrow,p1,q1,r1,qrows_len];have hbad: ∀ {b:Bool},b=false->(∃q:PRes,some (Sum.inr q:List D ⊕ PRes)=some (.inr (.val [.bool false]))/\True)\/True:=fun _=> .inr trivial
     by_cases hg:b1=true/\b2=true/\b3=true/\eqs.length<=30/\nm.size<=100
     ·obtain⟨g1,g2,g9900003,g9900004,g9900005⟩:=hg;subst g1 g2 g9900003;simp only[go1,decide_eq_false (show ¬(30:Int) < (eqs.length:Int) by omega),decide_eq_false (show ¬(100:Int) < (nm.size:Int) by omega)]
      refine inner_lpG (L:=[.int .i64 ((i+1:Nat):Int), .sl 2 (erows ens), .sl 5 (nrows nds)]) (E:= ∀x∈eqs,ES x) ?_ (fun he hE=>⟨i+1,he,⟨hlt,?_⟩,by omega⟩)
      ·refine loopF_ex (fun j:Nat=>[.int .i64 (i:Int), .int .i64 (j:Int), .sl 2 (erows ens), .sl 5 (nrows nds), .str nm, .sl 6 (drows ins), .sl 6 (drows outs), .sl 6 (drows vars), .sl 7 (qrows eqs)]) (fun j=>j<=eqs.length/\ ∀x∈eqs.take j,ES x) (fun j=>eqs.length - j) (fun j hj=> ?_) 0 ⟨Nat.zero_le _,by simp⟩
       obtain⟨j1,j2⟩:=hj
       by_cases hjl:j < eqs.length
       ·have hy:=List.getElem?_eq_getElem hjl;have hyk:eqs.take (j+1)=eqs.take j++[eqs[j]]:=tk_snoc hy;have hr2:=qrow_at hy;generalize eqs[j]=x at hy hyk hr2;obtain⟨ns,k,m,w,o,a,u⟩:=x;obtain⟨b4,s1,s2⟩:=c_rSmall k m w o a u;have l4:=ilt_at hjl;have i4:=inr_at hjl;have w2:IntKind.i64.wrap ((j:Int)+1)=((j+1:Nat):Int):=by rw[wrap_id (by omega) (by omega)];omega
        by_cases hg2:ns.length<=20/\b4=true
        ·obtain⟨g9900006,g900015⟩:=hg2;subst g900015;simp only[go1,qrows_len,l4,i4,hr2,qrow,Ex.row,s1,srows_len,decide_eq_false (show ¬(20:Int) < (ns.length:Int) by omega)]
         refine inner_lpG (L:=[.int .i64 (i:Int), .int .i64 ((j+1:Nat):Int), .sl 2 (erows ens), .sl 5 (nrows nds), .str nm, .sl 6 (drows ins), .sl 6 (drows outs), .sl 6 (drows vars), .sl 7 (qrows eqs)]) (E:= ∀s∈ns,s.size<=100) ?_ (fun he hE=>⟨j+1,he,⟨hjl,?_⟩,by omega⟩)
         ·refine loopF_ex (fun z:Nat=>[.int .i64 (i:Int), .int .i64 (j:Int), .int .i64 (z:Int), .sl 2 (erows ens), .sl 5 (nrows nds), .str nm, .sl 6 (drows ins), .sl 6 (drows outs), .sl 6 (drows vars), .sl 7 (qrows eqs), .sl 1 (srows ns), .int .i64 k, .int .i64 m, .str w, .int .i64 o, .sl 1 (srows a), .sl 6 (Ex.rows u)]) (fun z=>z<=ns.length/\ ∀s∈ns.take z,s.size<=100) (fun z=>ns.length - z) (fun z hz=> ?_) 0 ⟨Nat.zero_le _,by simp⟩
          obtain⟨z1,z2⟩:=hz
          by_cases hzl:z < ns.length
          ·have hs:=List.getElem?_eq_getElem hzl;have hsk:ns.take (z+1)=ns.take z++[ns[z]]:=tk_snoc hs;generalize ns[z]=y at hs hsk;have hc:=srows_at hs;have l5:=ilt_at hzl;have i5:=inr_at hzl;have w3:IntKind.i64.wrap ((z:Int)+1)=((z+1:Nat):Int):=by rw[wrap_id (by omega) (by omega)];omega
           by_cases g9900008:100 < y.size
           ·right
            refine⟨_,?_, .inr ⟨_,rfl, .inr ⟨_,rfl,false,rfl,fun h=>by cases h⟩⟩⟩
            simp only[go1,eq_self,srows_len,l5,i5,hc,decide_eq_true (show(100:Int) < (y.size:Int) by omega)]
           ·left
            refine⟨z+1,?_,⟨hzl,?_⟩,by omega⟩
            ·simp only[go1,eq_self,srows_len,l5,i5,hc,decide_eq_false (show ¬(100:Int) < (y.size:Int) by omega),w3]
            ·rw[hsk];exact mem_snoc z2 (by omega)
          ·right
           have:z=ns.length:=by omega
           subst this;rw[List.take_length]at z2;refine⟨_,?_, .inl ⟨rfl,z2⟩⟩;simp only[go1,eq_self,srows_len,ilt_self,w2]
         ·rw[hyk];exact mem_snoc j2 ⟨g9900006,(s2 rfl).1,(s2 rfl).2,hE⟩
        ·right
         refine⟨.inr (.val [.bool false]),?_, .inr ⟨_,rfl,false,rfl,fun h=>by cases h⟩⟩
         by_cases g9900006:20 < ns.length
         ·simp only[go1,eq_self,qrows_len,l4,i4,hr2,qrow,Ex.row,s1,srows_len,decide_eq_true (show(20:Int) < (ns.length:Int) by omega)]
         ·have g900015:b4=false:=by
           cases b4 with
           |false=>rfl
           |true=>exact absurd ⟨by omega,rfl⟩ hg2
          subst g900015;simp only[go1,eq_self,qrows_len,l4,i4,hr2,qrow,Ex.row,s1,decide_eq_false (show ¬(20:Int) < (ns.length:Int) by omega)]
       ·right
        have:j=eqs.length:=by omega
        subst this;rw[List.take_length]at j2;refine⟨_,?_, .inl ⟨rfl,j2⟩⟩;simp only[go1,eq_self,qrows_len,ilt_self,w1]
      ·rw[htk];exact mem_snoc h2 ⟨p2 rfl,q2 rfl,r2 rfl,g9900004,hE,g9900005⟩
     ·right
      refine⟨.val [.bool false],?_,false,rfl,fun h=>by cases h⟩
      by_cases g9900004:30 < eqs.length
      ·rw[decide_eq_true (show(30:Int) < (eqs.length:Int) by omega)]
       cases b1<;>cases b2<;>cases b3<;>simp only[go1,eq_self]
      ·rw[decide_eq_false (show ¬(30:Int) < (eqs.length:Int) by omega)]
       by_cases g9900005:100 < nm.size
       ·rw[decide_eq_true (show(100:Int) < (nm.size:Int) by omega)]
        cases b1<;>cases b2<;>cases b3<;>simp only[go1,eq_self]
       ·cases b1<;>cases b2<;>cases b3<;>first|(exact absurd ⟨rfl,rfl,rfl,by omega,by omega⟩ hg)|simp only[go1,eq_self]
    ·right
     have:i=nds.length:=by omega
     subst this;rw[List.take_length]at h2;refine⟨_,?_,true,rfl,fun _=>⟨hS2 rfl,by omega,h2⟩⟩
     simp only[go1,eq_self,nrows_len,ilt_self]
 obtain⟨p,h1,b,rfl,h2⟩:=core;exact⟨b,cOf (by kernel_rfl) rfl ((g19_eq _ _ _ _).trans h1),h2⟩
structure EnN (ens:List En):Prop where
 nd:(ens.map (·.1)).Nodup
 lo: ∀e∈ens,lowN (tb e.1)=true
def enumsN_parts {ens:List En}(h:enumsN ens=0):EnN ens/\ ∀e∈ens,e.2≠[]/\ ∀c∈e.2,highN (tb c)=true:=by
 unfold enumsN at h;cases h1:greatE ens with
 |true=>rw[h1]at h;cases h
 |false=>
  cases h2:lowE ens&&highE (ctorsE ens)with
  |false=>rw[h1,h2]at h;cases h
  |true=>
   cases h3:(!(decide (ens.map (·.1)).Nodup) || !(decide (ctorsE ens).Nodup))with
   |true=>rw[h1,h2,h3]at h;cases h
   |false=>
    simp only[Bool.or_eq_false_iff,Bool.not_eq_false',decide_eq_true_eq]at h3;unfold lowE highE ctorsE at h2;simp only[Bool.and_eq_true,List.all_eq_true,decide_eq_true_eq,List.mem_flatMap]at h2;exact⟨⟨h3.1,fun e he=>(h2.1 e he).1⟩,fun e he=>⟨(fun h0=>by have:=(h2.1 e he).2;rw[h0]at this;cases this),fun c hc=>h2.2 c ⟨e,he,hc⟩⟩⟩
def chk_parts {ens:List En}{nds:List Nd}(h:chkS ens nds=0):enumsN ens=0/\ ∀n∈nds,nodeB ens n=true:=by
 unfold chkS at h
 by_cases h1:enumsN ens=0
 ·refine⟨h1,?_⟩;rw[decide_eq_true h1]at h;simp only[Bool.not_true,cond_false]at h
  by_cases h2:(nds.length:Int)=0
  ·rw[decide_eq_true h2]at h;cases h
  ·rw[decide_eq_false h2]at h;simp only[cond_false]at h;cases h3:(decide (6 < (nds.length:Int)) || nds.any greatB)with
   |true=>rw[h3]at h;cases h
   |false=>
    rw[h3]at h;simp only[cond_false]at h;cases h4:nds.all (nodeB ens)with
    |true=>exact List.all_eq_true.1 h4
    |false=>rw[h4]at h;cases h
 ·rw[decide_eq_false h1]at h;simp only[Bool.not_false,cond_true]at h;exact absurd h h1
end Go.Vm
end
section
namespace Go.Vm
open Go.Proofs
def sumQ {α β:Type}(P:α->Prop)(Q:β->Prop):α ⊕ β->Prop
 | .inl a=>P a
 | .inr b=>Q b
section
variable {α : Type} {Q : α -> Prop}
def ex_bif {c:Bool}{A B:Option α}(h1:c=true-> ∃p,A=some p/\Q p)(h2:c=false-> ∃p,B=some p/\Q p): ∃p,(bif c then A else B)=some p/\Q p:=by
 cases c with
 |true=>exact h1 rfl
 |false=>exact h2 rfl
def ex_cut {X:Option (List D ⊕ α)}{K:List D->Option α}(h: ∃r,X=some r/\sumQ (fun d=> ∃p,K d=some p/\Q p) Q r): ∃p,cutO X K=some p/\Q p:=by
 obtain⟨r,rfl,h⟩:=h;cases r with
 |inl d=>exact h
 |inr a=>exact⟨a,rfl,h⟩
def for_s {σ τ:Type}{b:List D->Option (List D ⊕ α)}(l:List τ)(mk:Nat->σ->List D)(I:Nat->σ->Prop)(s:σ)(h:I 0 s){ds:List D}(h0:mk 0 s=ds)
  (hb: ∀i s x,l[i]? =some x->I i s->i < l.length-> ∃r,b (mk i s)=some r/\sumQ (fun d=> ∃s',d=mk (i+1) s'/\I (i+1) s') Q r)
  (he: ∀s,I l.length s-> ∃r,b (mk l.length s)=some r/\sumQ (fun _=>False) Q r): ∃r,loopF b ds=some r/\Q r:=by
 subst h0
 suffices ∀(n i:Nat) (s:σ),l.length - i=n->i<=l.length->I i s-> ∃r,loopF b (mk i s)=some r/\Q r from this _ 0 s rfl (Nat.zero_le _) h
 intro n
 induction n with
 |zero=>
  intro i s hn hi hI;have:i=l.length:=by omega
  subst this;obtain⟨r,h1,h2⟩:=he s hI;cases r with
  |inl d=>exact h2.elim
  |inr a=>exact⟨a,by rw[loopF_eq,h1],h2⟩
 |succ n ih=>
  intro i s hn hi hI;have hlt:i < l.length:=by omega
  obtain⟨r,h1,h2⟩:=hb i s l[i] (List.getElem?_eq_getElem hlt) hI hlt;cases r with
  |inl d=>
   obtain⟨s',rfl,h3⟩:=h2;obtain⟨r,h4,h5⟩:=ih (i+1) s' (by omega) hlt h3
   exact⟨r,by rw[loopF_eq,h1];exact h4,h5⟩
  |inr a=>exact⟨a,by rw[loopF_eq,h1],h2⟩
def for_at {τ:Type}{b:List D->Option (List D ⊕ α)}(p:Nat)(l:List τ){ds:List D}(h0:ds.set p (.int .i64 ((0:Nat):Int))=ds)
  (hb: ∀i x,l[i]? =some x->i < l.length-> ∃r,b (ds.set p (.int .i64 ((i:Nat):Int)))=some r/\sumQ (fun d=>d=ds.set p (.int .i64 ((i+1:Nat):Int))) Q r)
  (he: ∃r,b (ds.set p (.int .i64 ((l.length:Nat):Int)))=some r/\sumQ (fun _=>False) Q r): ∃r,loopF b ds=some r/\Q r:=
 for_s l (fun i (_:Unit)=>ds.set p (.int .i64 (i:Int))) (fun _ _=>True) () trivial h0 (fun i s x hx _ hlt=>by
  obtain⟨r,h1,h2⟩:=hb i x hx hlt;refine⟨r,h1,?_⟩;cases r with
  |inl d=>exact⟨(),h2,trivial⟩
  |inr a=>exact h2) fun _ _=>he
def for_all {τ:Type}{b:List D->Option (List D ⊕ α)}(p:Nat)(l:List τ)(F:τ->Prop){ds:List D}(h0:ds.set p (.int .i64 ((0:Nat):Int))=ds)
  (hb: ∀i x,l[i]? =some x->i < l.length->(∀y∈l.take i,F y)-> ∃r,b (ds.set p (.int .i64 ((i:Nat):Int)))=some r/\sumQ (fun d=>d=ds.set p (.int .i64 ((i+1:Nat):Int))/\F x) Q r)
  (he:(∀y∈l,F y)-> ∃r,b (ds.set p (.int .i64 ((l.length:Nat):Int)))=some r/\sumQ (fun _=>False) Q r): ∃r,loopF b ds=some r/\Q r:=
 for_s l (fun i (_:Unit)=>ds.set p (.int .i64 (i:Int))) (fun i _=> ∀y∈l.take i,F y) () (by simp) h0 (fun i s x hx hI hlt=>by
  obtain⟨r,h1,h2⟩:=hb i x hx hlt hI;refine⟨r,h1,?_⟩;cases r with
  |inl d=>
   refine⟨(),h2.1,fun y hy=> ?_⟩
   rw[List.take_add_one,hx]at hy;rcases List.mem_append.1 hy with hy|hy
   ·exact hI y hy
   ·simp at hy;subst hy;exact h2.2
  |inr a=>exact h2) fun _ hI=>he (by rwa [List.take_length]at hI)
def for_n {σ:Type}{b:List D->Option (List D ⊕ α)}(n:Nat)(mk:Nat->σ->List D)(I:Nat->σ->Prop)(s:σ)(h:I 0 s){ds:List D}(h0:mk 0 s=ds)
  (hb: ∀i s,I i s->i < n-> ∃r,b (mk i s)=some r/\sumQ (fun d=> ∃s',d=mk (i+1) s'/\I (i+1) s') Q r)
  (he: ∀s,I n s-> ∃r,b (mk n s)=some r/\sumQ (fun _=>False) Q r): ∃r,loopF b ds=some r/\Q r:=by
 have e:(List.range n).length=n:=List.length_range;refine for_s (List.range n) mk I s h h0 (fun i s x hx hI hl=>hb i s hI (by omega)) (fun s hI=> ?_)
 rw[e]at hI ⊢;exact he s hI
def while_s {σ:Type}{b:List D->Option (List D ⊕ α)}(mk:σ->List D)(I:σ->Prop)(μ:σ->Nat)(s:σ)(h:I s){ds:List D}(h0:mk s=ds)
  (hb: ∀s,I s-> ∃r,b (mk s)=some r/\sumQ (fun d=> ∃s',d=mk s'/\I s'/\μ s' < μ s) Q r): ∃r,loopF b ds=some r/\Q r:=by
 subst h0;generalize hn:μ s=n
 induction n using Nat.strongRecOn generalizing s with
 |_ n ih=>
  obtain⟨r,h1,h2⟩:=hb s h;cases r with
  |inl d=>
   obtain⟨s',rfl,h3,h4⟩:=h2;obtain⟨r,h5,h6⟩:=ih (μ s') (by omega) s' h3 rfl
   exact⟨r,by rw[loopF_eq,h1];exact h5,h6⟩
  |inr a=>exact⟨a,by rw[loopF_eq,h1],h2⟩
end
end Go.Vm
end
