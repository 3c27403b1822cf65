/- Part FH of the proof. What is proved by the whole: the statement that the claim names, with no condition. -/
import Derived.Test.YtcoflifoeiglkaaGreatDoorFG
import Derived.Laws.Strings
set_option linter.all false
section
namespace Go.Vm
def tb (s:ByteArray):List Nat:=s.data.toList.map UInt8.toNat
theorem tb_len (s:ByteArray):(tb s).length=s.size:=by
 unfold tb
 rw[List.length_map,Array.length_toList];rfl
theorem map_u8_inj: ∀ {a b:List UInt8},a.map UInt8.toNat=b.map UInt8.toNat→a=b
 | [],[],_=>rfl
 | [],_::_,h=>by simp at h
 |_::_,[],h=>by simp at h
 |x::a,y::b,h=>by
  simp only [List.map_cons,List.cons.injEq]at h
  rw[UInt8.toNat_inj.1 h.1,map_u8_inj h.2]
theorem tb_inj {s u:ByteArray}(h:tb s=tb u):s=u:=by
 have h1:s.data.toList=u.data.toList:=by
  unfold tb at h
  exact map_u8_inj h
 cases s;cases u
 simp only [ByteArray.mk.injEq]
 exact Array.toList_inj.1 h1
theorem tb_iff {s u:ByteArray}:tb s=tb u↔s=u:=⟨tb_inj,fun h=>by rw[h]⟩
theorem toList_inj' {s u:ByteArray}(h:s.toList=u.toList):s=u:=by
 have e: ∀t:ByteArray,t.toList=t.data.toList:=fun t=>ByteArray.toList_eq t
 rw[e,e]at h
 cases s;cases u
 simp only [ByteArray.mk.injEq]
 exact Array.toList_inj.1 h
theorem seq_tb (s u:ByteArray):(s.toList == u.toList)=decide (tb s=tb u):=by
 rw[Bool.eq_iff_iff,beq_iff_eq,decide_eq_true_eq,tb_iff]
 exact⟨toList_inj',fun h=>by rw[h]⟩
theorem tb_getD (s:ByteArray)(i:Nat):(tb s).getD i 0=(s.data.getD i 0).toNat:=by
 unfold tb
 rw[List.getD_eq_getElem?_getD,List.getElem?_map,Array.getElem?_toList]
 by_cases h:i < s.data.size
 ·rw[Array.getElem?_eq_getElem h];simp [Array.getD,show i < s.size from h]
 ·rw[Array.getElem?_eq_none (by omega)];simp [Array.getD,show ¬i < s.size from h]
theorem tb_app (s u:ByteArray):tb (s++u)=tb s++tb u:=by
 unfold tb
 rw[ByteArray.data_append,Array.toList_append,List.map_append]
theorem tb_scut (s:ByteArray)(a b:Int):tb (s.extract a.toNat b.toNat)=((tb s).take b.toNat).drop a.toNat:=by
 unfold tb
 rw[ByteArray.data_extract,Array.toList_extract]
 simp [List.extract_eq_take_drop,List.map_take,List.map_drop,List.drop_take]
theorem tb_bs (l:List UInt8):tb (bs l)=l.map UInt8.toNat:=by simp [tb,bs]
theorem get_tb (s:ByteArray)(i:Nat):(s.get! i).toNat=(tb s).getD i 0:=by
 rw[tb_getD]
 show(s.data[i]!).toNat=_
 by_cases h:i < s.data.size
 ·simp [Array.getD,h,show i < s.size from h]
 ·simp only [Array.getD,h,dite_false]
  rw[getElem!_neg s.data i h];rfl
theorem dec_small {s:ByteArray}{i:Nat}(hb:(tb s).getD i 0 < 128):decR s (i:Int)=(((tb s).getD i 0:Nat):Int)∧decW s (i:Int)=1:=by
 unfold decR decW Utf8.decode
 rw[Int.toNat_natCast]
 simp only [Nat.add_zero,get_tb]
 rw[if_pos hb]
 exact⟨rfl,rfl⟩
theorem dec_big {s:ByteArray}{i:Nat}(hb:128≤(tb s).getD i 0):128≤decR s (i:Int)∧1≤decW s (i:Int):=by
 unfold decR decW Utf8.decode
 rw[Int.toNat_natCast]
 simp only [Nat.add_zero,get_tb]
 rw[if_neg (by omega)]
 have hr:128≤Utf8.runeError:=by decide
 repeat' split
 all_goals first|omega|(simp only [ge_iff_le,Bool.and_eq_true,decide_eq_true_eq]at*;omega)
def smallN (c:Nat):Bool:=decide (97≤c)&&decide (c≤122)
def greatN (c:Nat):Bool:=decide (65≤c)&&decide (c≤90)
def digitN (c:Nat):Bool:=decide (48≤c)&&decide (c≤57)
def innerN (c:Nat):Bool:=smallN c || greatN c || digitN c || decide (c=95)
def nameN (first:Nat→Bool)(l:List Nat):Bool:=decide (1≤l.length)&&decide (l.length≤12)&&first (l.getD 0 0)&&l.all innerN
def splitN (c:Nat):List Nat→List (List Nat)
 | []=>[[]]
 |x::xs=>if x=c then[]::splitN c xs else match splitN c xs with
  | []=>[[x]]
  |p::ps=>(x::p)::ps
theorem splitN_ne (c:Nat): ∀l,splitN c l≠[]
 | []=>by simp [splitN]
 |x::xs=>by
  unfold splitN
  split
  ·simp
  ·split<;>simp
theorem splitN_app (c:Nat): ∀(p l:List Nat),(∀x∈p,x≠c)→splitN c (p++l)=match splitN c l with
  | []=>[p]
  |q::qs=>(p++q)::qs
 | [],l,_=>by
   simp only [List.nil_append]
   cases h:splitN c l with
   |nil=>exact absurd h (splitN_ne c l)
   |cons q qs=>rfl
 |x::p,l,hp=>by
  rw[List.cons_append,splitN,if_neg (hp x List.mem_cons_self),splitN_app c p l fun y hy=>hp y (List.mem_cons_of_mem _ hy)]
  cases h:splitN c l with
  |nil=>exact absurd h (splitN_ne c l)
  |cons q qs=>rfl
theorem splitN_none (c:Nat)(p:List Nat)(hp: ∀x∈p,x≠c):splitN c p= [p]:=by
 have:=splitN_app c p [] hp
 rw[List.append_nil]at this
 rw[this];simp [splitN]
theorem splitN_mark (c:Nat)(p l:List Nat)(hp: ∀x∈p,x≠c):splitN c (p++c::l)=p::splitN c l:=by
 rw[splitN_app c p _ hp]
 simp [splitN]
def wordsB:List (List Nat):=["node", "returns", "var", "let", "tel", "enum", "if", "then", "else", "fby", "pre", "when", "merge", "every", "not", "and", "or", "xor", "mod", "true", "false", "int", "bool", "with"].map fun s=>s.toUTF8.data.toList.map UInt8.toNat
def wordN (l:List Nat):Bool:=wordsB.contains l
def lowN (l:List Nat):Bool:=nameN smallN l&& !wordN l
def highN (l:List Nat):Bool:=nameN greatN l
def numN (l:List Nat):Bool:=decide (1≤l.length)&&decide (l.length≤3)&& !decide (l.getD 0 0=48)&&l.all digitN
def partN (l:List Nat):Bool:=match splitN 46 l with
 | [a]=>lowN a
 | [a,b]=>lowN a&&numN b
 |_=>false
def pathN (l:List Nat):Bool:=(splitN 47 l).all partN
def idxN (c:Nat):List Nat→Option Nat
 | []=>none
 |x::xs=>if x=c then some 0 else(idxN c xs).map (· +1)
theorem idxN_none {c:Nat}: ∀ {l:List Nat},idxN c l=none→ ∀x∈l,x≠c
 | [],_,x,hx=>by simp at hx
 |y::ys,h,x,hx=>by
  unfold idxN at h
  split at h
  ·cases h
  ·rw[Option.map_eq_none_iff]at h
   rcases List.mem_cons.1 hx with rfl|hx
   ·assumption
   ·exact idxN_none h x hx
theorem idxN_some {c:Nat}: ∀ {l:List Nat} {i:Nat},idxN c l=some i→i < l.length∧l=l.take i++c::l.drop (i+1)∧ ∀x∈l.take i,x≠c
 | [],i,h=>by cases h
 |y::ys,i,h=>by
  unfold idxN at h
  split at h
  ·cases h;rename_i e;subst e;exact⟨by simp,by simp,by simp⟩
  ·rename_i hne
   rw[Option.map_eq_some_iff]at h
   obtain⟨j,hj,rfl⟩:=h
   obtain⟨h1,h2,h3⟩:=idxN_some hj
   refine⟨by simp;omega,?_,fun x hx=> ?_⟩
   ·simp only [List.take_succ_cons,List.drop_succ_cons,List.cons_append]
    rw[←h2]
   ·rw[List.take_succ_cons]at hx
    rcases List.mem_cons.1 hx with rfl|hx
    ·exact hne
    ·exact h3 x hx
theorem partN_cut (l:List Nat):partN l=match idxN 46 l with
  |none=>lowN l
  |some i=>lowN (l.take i)&&numN (l.drop (i+1)):=by
 cases h:idxN 46 l with
 |none=>
  unfold partN
  rw[splitN_none 46 l (idxN_none h)]
 |some i=>
  obtain⟨h1,h2,h3⟩:=idxN_some h
  simp only
  generalize hb:l.take i=b at h2 h3 ⊢
  generalize ha:l.drop (i+1)=a at h2 ⊢
  subst h2
  unfold partN
  rw[splitN_mark 46 b a h3]
  cases hq:idxN 46 a with
  |none=>rw[splitN_none 46 a (idxN_none hq)]
  |some j=>
   obtain⟨q1,q2,q3⟩:=idxN_some hq
   have e:numN a=false:=by
    unfold numN
    have:a.all digitN=false:=by
     rw[q2,List.all_append,List.all_cons]
     have:digitN 46=false:=by decide
     rw[this];simp
    rw[this];simp
   have hs:splitN 46 a=a.take j::splitN 46 (a.drop (j+1)):=by
    conv=>lhs;rw[q2]
    exact splitN_mark 46 _ _ q3
   rw[hs,e,Bool.and_false]
   cases hz:splitN 46 (a.drop (j+1))with
   |nil=>exact absurd hz (splitN_ne _ _)
   |cons z zs=>rfl
end Go.Vm
end
section
set_option maxRecDepth 100000
set_option maxHeartbeats 2000000
namespace Go.Vm
open Go.Proofs
def inI (a b n:Int):Bool:=decide (a≤n)&&decide (n≤b)
theorem inI_small (c:Nat):inI 97 122 (c:Int)=smallN c:=by
 unfold inI smallN
 rw[Bool.eq_iff_iff]
 simp only [Bool.and_eq_true,decide_eq_true_eq]
 omega
theorem inI_great (c:Nat):inI 65 90 (c:Int)=greatN c:=by
 unfold inI greatN
 rw[Bool.eq_iff_iff]
 simp only [Bool.and_eq_true,decide_eq_true_eq]
 omega
theorem inI_digit (c:Nat):inI 48 57 (c:Int)=digitN c:=by
 unfold inI digitN
 rw[Bool.eq_iff_iff]
 simp only [Bool.and_eq_true,decide_eq_true_eq]
 omega
theorem inI_big {a b n:Int}(h:b < n):inI a b n=false:=by
 unfold inI
 rw[decF (p:=n≤b) (by omega),Bool.and_false]
theorem c_small (n:Int):cF 151 [.d (.int .i32 n)]=some (.val [.bool (inI 97 122 n)]):=by
 refine cOf (by kernel_rfl) rfl ?_
 rw[g151_eq]
 simp only [g151,go1,Nat.reduceAdd,Int.reduceEq,Int.reduceLT,Int.reduceLE,Int.reduceSub,Int.reduceAdd]
 rfl
theorem c_great (n:Int):cF 153 [.d (.int .i32 n)]=some (.val [.bool (inI 65 90 n)]):=by
 refine cOf (by kernel_rfl) rfl ?_
 rw[g153_eq]
 simp only [g153,go1,Nat.reduceAdd,Int.reduceEq,Int.reduceLT,Int.reduceLE,Int.reduceSub,Int.reduceAdd]
 rfl
theorem c_digit (n:Int):cF 193 [.d (.int .i32 n)]=some (.val [.bool (inI 48 57 n)]):=by
 refine cOf (by kernel_rfl) rfl ?_
 rw[g193_eq]
 simp only [g193,go1,Nat.reduceAdd,Int.reduceEq,Int.reduceLT,Int.reduceLE,Int.reduceSub,Int.reduceAdd]
 rfl
theorem all_snoc {α:Type}{l:List α}{p:Nat}{f:α→Bool}{d:α}(hp:p < l.length)(h:(l.take p).all f=true)(hx:f (l.getD p d)=true):(l.take (p+1)).all f=true:=by
 rw[List.take_add_one,List.all_append,h,List.getElem?_eq_getElem hp]
 rw[List.getD_eq_getElem?_getD,List.getElem?_eq_getElem hp]at hx
 simpa using hx
theorem all_false {α:Type}{l:List α}{p:Nat}{f:α→Bool}{d:α}(hp:p < l.length)(hx:f (l.getD p d)=false):l.all f=false:=by
 rw[List.getD_eq_getElem?_getD,List.getElem?_eq_getElem hp]at hx
 rw[Bool.eq_false_iff]
 intro hh
 have:=List.all_eq_true.1 hh _ (List.getElem_mem hp)
 simp at hx
 rw[hx]at this;cases this
theorem nameN_bad {first:Nat→Bool}{l:List Nat}{p:Nat}(hp:p < l.length)(hx:innerN (l.getD p 0)=false):nameN first l=false:=by
 unfold nameN;rw[all_false hp hx,Bool.and_false]
theorem nameN_first {first:Nat→Bool}{l:List Nat}(hx:first (l.getD 0 0)=false):nameN first l=false:=by
 unfold nameN;rw[hx,Bool.and_false,Bool.false_and]
theorem size_tb (s:ByteArray):(s.size:Int)=((tb s).length:Int):=by rw[tb_len]
theorem inner_def (c:Nat):innerN c=(smallN c || greatN c || digitN c || decide (c=95)):=rfl
theorem inner_big {c:Nat}(h:128≤c):innerN c=false:=by
 unfold innerN smallN greatN digitN
 simp;omega
theorem c_name (s:ByteArray):cF 150 [.d (.str s), .fn 151 []]=some (.val [.bool (nameN smallN (tb s))]):=by
 refine cOf (by kernel_rfl) rfl ?_
 rw[g150_151_eq]
 simp only [g150_151,go1,Nat.reduceAdd,Int.reduceEq,Int.reduceLT,Int.reduceLE,Int.reduceSub,Int.reduceAdd]
 refine loopF_at (fun p:Nat=>[.str s, .str s, .int .i64 (p:Int)]) (fun p=>p≤(tb s).length∧((tb s).take p).all innerN=true∧(0 < p→smallN ((tb s).getD 0 0)=true)) (fun p=>(tb s).length - p) (fun p hp=> ?_) 0 ⟨Nat.zero_le _,by simp,by omega⟩
 obtain⟨hle,hall,hfst⟩:=hp
 by_cases hlt:p < (tb s).length
 ·by_cases hc:(tb s).getD p 0 < 128
  ·obtain⟨e1,e2⟩:=dec_small hc
   simp only [go1,Nat.reduceAdd,Int.reduceEq,Int.reduceLT,Int.reduceLE,Int.reduceSub,Int.reduceAdd,size_tb,ilt_at hlt,sy_rdec,sy_rwid,e1,e2,c_small,c_great,c_digit,inI_small,inI_great,inI_digit]
   have hi:=inner_def ((tb s).getD p 0)
   by_cases h0:p=0
   ·subst h0
    cases hs:smallN ((tb s).getD 0 0)with
    |false=>
     right
     rw[nameN_first hs]
     simp only [go1,Nat.reduceAdd,Int.reduceEq,Int.reduceLT,Int.reduceLE,Int.reduceSub,Int.reduceAdd];rfl
    |true=>
     left
     rw[hs]at hi
     refine⟨0+1,?_,⟨hlt,all_snoc hlt hall (by rw[hi];rfl),fun _=>(by first|rfl|exact hs)⟩,by omega⟩
     simp only [go1,Nat.reduceAdd,Int.reduceEq,Int.reduceLT,Int.reduceLE,Int.reduceSub,Int.reduceAdd];rfl
   ·rw[decF (p:=(p:Int)=0) (by omega)]
    cases hin:innerN ((tb s).getD p 0)with
    |false=>
     right
     rw[nameN_bad hlt hin]
     rw[hin]at hi
     have hi:=hi.symm
     simp only [Bool.or_eq_false_iff]at hi
     obtain⟨⟨⟨i1,i2⟩,i3⟩,i4⟩:=hi
     have i4': ¬(((tb s).getD p 0:Nat):Int)=95:=by
      have:=of_decide_eq_false i4;omega
     rw[decF i4']
     simp only [i1,i2,i3,go1,Nat.reduceAdd,Int.reduceEq,Int.reduceLT,Int.reduceLE,Int.reduceSub,Int.reduceAdd]
    |true=>
     left
     refine⟨p+1,?_,⟨hlt,all_snoc hlt hall hin,fun _=>hfst (by omega)⟩,by omega⟩
     rw[hin]at hi
     cases i1:smallN ((tb s).getD p 0)<;>cases i2:greatN ((tb s).getD p 0)<;>cases i3:digitN ((tb s).getD p 0)<;>rw[i1,i2,i3]at hi<;>simp only [go1,Nat.reduceAdd,Int.reduceEq,Int.reduceLT,Int.reduceLE,Int.reduceSub,Int.reduceAdd]<;>(try rfl)
     all_goals
      simp only [Bool.or_self,Bool.false_or]at hi
      have i4:=of_decide_eq_true hi.symm
      rw[decT (p:=(((tb s).getD p 0:Nat):Int)=95) (by omega)]
      rfl
  ·have hb:=dec_big (s:=s) (i:=p) (by omega)
   right
   have hin:innerN ((tb s).getD p 0)=false:=by
    exact inner_big (by omega)
   rw[nameN_bad hlt hin]
   have hz: ¬decR s (p:Int)=95:=by omega
   simp only [go1,Nat.reduceAdd,Int.reduceEq,Int.reduceLT,Int.reduceLE,Int.reduceSub,Int.reduceAdd,size_tb,ilt_at hlt,sy_rdec,sy_rwid,c_small,c_great,c_digit,inI_big (a:=97) (b:=122) (n:=decR s (p:Int)) (by omega),inI_big (a:=65) (b:=90) (n:=decR s (p:Int)) (by omega),inI_big (a:=48) (b:=57) (n:=decR s (p:Int)) (by omega),decF hz]
   cases decide ((p:Int)=0)
   ·simp only [cond_true,cond_false,Bool.not_false,go1,Nat.reduceAdd,Int.reduceEq,Int.reduceLT,Int.reduceLE,Int.reduceSub,Int.reduceAdd];simp [hz]
   ·rfl
 ·right
  have:p=(tb s).length:=by omega
  subst this
  simp only [go1,Nat.reduceAdd,Int.reduceEq,Int.reduceLT,Int.reduceLE,Int.reduceSub,Int.reduceAdd,size_tb,ilt_self]
  rw[List.take_length]at hall
  unfold nameN
  rw[hall,Bool.and_true]
  by_cases h0:0 < (tb s).length
  ·rw[hfst h0,Bool.and_true]
   by_cases h12:(tb s).length≤12
   ·rw[decT (p:=1≤((tb s).length:Int)) (by omega),decT (p:=((tb s).length:Int)≤12) (by omega),decT (p:=1≤(tb s).length) (by omega),decT h12]
    first|done|rfl
   ·rw[decT (p:=1≤((tb s).length:Int)) (by omega),decF (p:=((tb s).length:Int)≤12) (by omega),decF h12]
    first|done|rfl|simp
  ·rw[decF (p:=1≤((tb s).length:Int)) (by omega),decF (p:=1≤(tb s).length) (by omega)]
   first|done|rfl|simp
theorem srows_len (l:List ByteArray):(srows l).length=l.length:=by simp [srows]
theorem srows_app (a b:List ByteArray):srows a++srows b=srows (a++b):=by simp [srows]
theorem srows_row {l:List ByteArray}{i:Nat}{x:ByteArray}(h:l[i]? =some x):sy.row (srows l) (i:Int)= [.str x]:=by
 rw[sy_row,Int.toNat_natCast,List.getD_eq_getElem?_getD]
 unfold srows
 rw[List.getElem?_map,h];rfl
theorem srows_at {l:List ByteArray}{i:Nat}{x:ByteArray}(h:l[i]? =some x):sy.cell (sy.row (srows l) (i:Int)) 0=some (.str x):=by rw[srows_row h];rfl
def idxZ (c:Nat)(l:List Nat):Int:=match idxN c l with
 |none=> -1
 |some i=>i
theorem idxZ_lib (c:UInt8): ∀l:List UInt8,Lib.indexByte l c=idxZ c.toNat (l.map UInt8.toNat)
 | []=>rfl
 |b::l=>by
  unfold Lib.indexByte idxZ
  rw[List.map_cons,idxN]
  have ih:=idxZ_lib c l
  by_cases h:b=c
  ·subst h;simp
  ·have h1: ¬b.toNat=c.toNat:=fun e=>h (UInt8.toNat_inj.1 e)
   have h2:(b == c)=false:=by simp [h]
   rw[h2,if_neg h1,ih]
   unfold idxZ
   cases idxN c.toNat (l.map UInt8.toNat)with
   |none=>rfl
   |some i=>
    have:((i:Int) == -1)=false:=by rw[beq_eq_false_iff_ne];omega
    simp [this]
theorem sidx_tb (s:ByteArray)(m:UInt8):sy.sidx s ((m.toNat:Nat):Int)=idxZ m.toNat (tb s):=by
 rw[sy_sidx,Int.toNat_natCast,idxZ_lib]
 have:m.toNat.toUInt8=m:=by simp
 rw[this];rfl
theorem slen_bs (l:List UInt8):((bs l).size:Int)=l.length:=by
 show((l.toArray.size:Nat):Int)=_
 simp
theorem c_liteIndex (s:ByteArray)(m:UInt8):cF 183 [.d (.str s), .d (.str (bs [m]))]=some (.val [.int .i64 (idxZ m.toNat (tb s))]):=by
 have h72:cF 188 [.d (.str s), .d (.int .u8 (sy.sbyte (bs [m]) 0))]=some (.val [.int .i64 (idxZ m.toNat (tb s))]):=by
  refine cOf (by kernel_rfl) rfl ?_
  rw[g188_eq]
  simp only [g188,go1,Nat.reduceAdd,Int.reduceEq,Int.reduceLT,Int.reduceLE,Int.reduceSub,Int.reduceAdd]
  show some (PRes.val [D.int .i64 (sy.sidx s ((m.toNat:Nat):Int))])=_
  rw[sidx_tb]
 refine cOf (by kernel_rfl) rfl ?_
 rw[g183_eq]
 unfold g183
 have e1:sy.ieq (sy.slen (bs [m])) 0=false:=rfl
 have e2:sy.ieq (sy.slen (bs [m])) 1=true:=rfl
 have e3:sy.inr 0 (sy.slen (bs [m]))=true:=rfl
 rw[←eF_call]at h72
 cases h:sy.seq (bs [m]) s with
 |true=>
  have:tb (bs [m])=tb s:=by
   rw[sy_seq,seq_tb]at h;exact of_decide_eq_true h
  have hz:idxZ m.toNat (tb s)=0:=by
   rw[←this]
   unfold idxZ tb bs
   simp [idxN]
  rw[hz]
  repeat' (first|with_reducible exact st_some|with_reducible apply st_cut|with_reducible apply st_bind|((with_reducible apply st_t);(first|with_reducible exact e1|with_reducible exact h|rfl))|((with_reducible apply st_f);(first|with_reducible exact e1|with_reducible exact h|rfl))|with_reducible apply st_lp|with_reducible apply st_inl|with_reducible exact st_inr|with_reducible apply st_opI|with_reducible apply st_opB|with_reducible apply st_opL|rfl)
 |false=>
  repeat' (first|with_reducible exact st_some|with_reducible apply st_cut|with_reducible apply st_bind|((with_reducible apply st_t);(first|with_reducible exact e1|with_reducible exact e2|with_reducible exact e3|with_reducible exact h|rfl))|((with_reducible apply st_f);(first|with_reducible exact e1|with_reducible exact e2|with_reducible exact e3|with_reducible exact h|rfl))|with_reducible apply st_lp|with_reducible apply st_inl|with_reducible exact st_inr|with_reducible apply st_opI|with_reducible apply st_opB|with_reducible apply st_opL|exact h72|rfl)
theorem c_Index (s:ByteArray)(m:UInt8):cF 142 [.d (.str s), .d (.str (bs [m]))]=some (.val [.int .i64 (idxZ m.toNat (tb s))]):=by
 have:=c_liteIndex s m
 refine cOf (by kernel_rfl) rfl ?_
 rw[g142_eq]
 simp only [g142,go1,Nat.reduceAdd,Int.reduceEq,Int.reduceLT,Int.reduceLE,Int.reduceSub,Int.reduceAdd,this]
theorem idxZ_bd (c:Nat)(l:List Nat):idxZ c l= -1∧idxN c l=none∨ ∃i:Nat,idxZ c l=i∧idxN c l=some i∧i < l.length:=by
 unfold idxZ
 cases h:idxN c l with
 |none=>exact .inl ⟨rfl,rfl⟩
 |some i=>exact .inr ⟨i,rfl,rfl,(idxN_some h).1⟩
theorem c_Cut (s:ByteArray)(m:UInt8)(hs:s.size≤100000): ∃a b f,cF 224 [.d (.str s), .d (.str (bs [m]))]=some (.val [.str a, .str b, .bool f])∧
  ((f=false∧idxN m.toNat (tb s)=none∧tb a=tb s)∨(f=true∧ ∃i,idxN m.toNat (tb s)=some i∧tb a=(tb s).take i∧tb b=(tb s).drop (i+1))):=by
 have hI:=c_liteIndex s m
 have hl:=tb_len s
 rcases idxZ_bd m.toNat (tb s)with⟨hz,hn⟩|⟨i,hz,hn,hi⟩
 ·refine⟨s,bs [],false,?_, .inl ⟨rfl,hn,rfl⟩⟩
  rw[hz]at hI
  have h60:cF 260 [.d (.str s), .d (.str (bs [m]))]=some (.val [.str s, .str (bs []), .bool false]):=by
   refine cOf (by kernel_rfl) rfl ?_
   rw[g260_eq]
   simp only [g260,go1,Nat.reduceAdd,Int.reduceEq,Int.reduceLT,Int.reduceLE,Int.reduceSub,Int.reduceAdd,hI]
  refine cOf (by kernel_rfl) rfl ?_
  rw[g224_eq]
  simp only [g224,go1,Nat.reduceAdd,Int.reduceEq,Int.reduceLT,Int.reduceLE,Int.reduceSub,Int.reduceAdd,h60]
 ·rw[hz]at hI
  have h60:cF 260 [.d (.str s), .d (.str (bs [m]))]=some (.val [.str (s.extract (0:Int).toNat ((i:Nat):Int).toNat), .str (s.extract ((i:Int)+1).toNat ((s.size:Nat):Int).toNat), .bool true]):=by
   refine cOf (by kernel_rfl) rfl ?_
   rw[g260_eq]
   simp only [g260,go1,Nat.reduceAdd,Int.reduceEq,Int.reduceLT,Int.reduceLE,Int.reduceSub,Int.reduceAdd,hI,slen_bs]
   rw[decT (p:=0≤(i:Int)) (by omega),decT (p:=0≤(i:Int)∧(i:Int)≤(s.size:Int)) (by omega)]
   have hw:IntKind.i64.wrap ((i:Int)+((([m]:List UInt8).length:Nat):Int))=(i:Int)+1:=by
    rw[show((([m]:List UInt8).length:Nat):Int)=1 from rfl,wrap_id (by omega) (by omega)]
   rw[hw,decT (p:=0≤(i:Int)+1∧(i:Int)+1≤(s.size:Int)∧(s.size:Int)≤(s.size:Int)) (by omega)]
   rfl
  refine⟨s.extract (0:Int).toNat ((i:Nat):Int).toNat,s.extract ((i:Int)+1).toNat ((s.size:Nat):Int).toNat,true,?_, .inr ⟨rfl,i,hn,?_,?_⟩⟩
  ·refine cOf (by kernel_rfl) rfl ?_
   rw[g224_eq]
   simp only [g224,go1,Nat.reduceAdd,Int.reduceEq,Int.reduceLT,Int.reduceLE,Int.reduceSub,Int.reduceAdd,h60]
  ·rw[tb_scut];simp
  ·rw[tb_scut]
   have e1:((i:Int)+1).toNat=i+1:=by omega
   rw[e1,Int.toNat_natCast,←hl,List.take_length]
end Go.Vm
end
section
set_option maxRecDepth 100000
set_option maxHeartbeats 4000000
namespace Go.Vm
open Go.Proofs
def wordsL:List ByteArray:=[bs [110,111,100,101],bs [114,101,116,117,114,110,115],bs [118,97,114],bs [108,101,116],bs [116,101,108],bs [101,110,117,109],bs [105,102],bs [116,104,101,110],bs [101,108,115,101],bs [102,98,121],bs [112,114,101],bs [119,104,101,110],bs [109,101,114,103,101],bs [101,118,101,114,121],bs [110,111,116],bs [97,110,100],bs [111,114],bs [120,111,114],bs [109,111,100],bs [116,114,117,101],bs [102,97,108,115,101],bs [105,110,116],bs [98,111,111,108],bs [119,105,116,104]]
theorem wordsL_tb:wordsL.map tb=wordsB:=by decide+kernel
theorem wordN_any (s:ByteArray):wordN (tb s)=wordsL.any fun w=>decide (tb s=tb w):=by
 unfold wordN
 rw[←wordsL_tb,List.contains_eq_any_beq,List.any_map]
 congr 1
 funext w
 rw[Bool.eq_iff_iff];simp
theorem c_Word (s:ByteArray):cF 140 [.d (.str s)]=some (.val [.bool (wordN (tb s))]):=by
 rw[wordN_any]
 refine cOf (by kernel_rfl) rfl ?_
 rw[g140_eq]
 simp only [g140,go1,Nat.reduceAdd,Int.reduceEq,Int.reduceLT,Int.reduceLE,Int.reduceSub,Int.reduceAdd]
 unfold wordsL
 simp only [seq_tb,List.any_cons,List.any_nil,Bool.or_false]
 cases decide (tb s=tb (bs [110,111,100,101]))<;>simp only [cond_true,cond_false,Bool.true_or,Bool.false_or]
 cases decide (tb s=tb (bs [114,101,116,117,114,110,115]))<;>simp only [cond_true,cond_false,Bool.true_or,Bool.false_or]
 cases decide (tb s=tb (bs [118,97,114]))<;>simp only [cond_true,cond_false,Bool.true_or,Bool.false_or]
 cases decide (tb s=tb (bs [108,101,116]))<;>simp only [cond_true,cond_false,Bool.true_or,Bool.false_or]
 cases decide (tb s=tb (bs [116,101,108]))<;>simp only [cond_true,cond_false,Bool.true_or,Bool.false_or]
 cases decide (tb s=tb (bs [101,110,117,109]))<;>simp only [cond_true,cond_false,Bool.true_or,Bool.false_or]
 cases decide (tb s=tb (bs [105,102]))<;>simp only [cond_true,cond_false,Bool.true_or,Bool.false_or]
 cases decide (tb s=tb (bs [116,104,101,110]))<;>simp only [cond_true,cond_false,Bool.true_or,Bool.false_or]
 cases decide (tb s=tb (bs [101,108,115,101]))<;>simp only [cond_true,cond_false,Bool.true_or,Bool.false_or]
 cases decide (tb s=tb (bs [102,98,121]))<;>simp only [cond_true,cond_false,Bool.true_or,Bool.false_or]
 cases decide (tb s=tb (bs [112,114,101]))<;>simp only [cond_true,cond_false,Bool.true_or,Bool.false_or]
 cases decide (tb s=tb (bs [119,104,101,110]))<;>simp only [cond_true,cond_false,Bool.true_or,Bool.false_or]
 cases decide (tb s=tb (bs [109,101,114,103,101]))<;>simp only [cond_true,cond_false,Bool.true_or,Bool.false_or]
 cases decide (tb s=tb (bs [101,118,101,114,121]))<;>simp only [cond_true,cond_false,Bool.true_or,Bool.false_or]
 cases decide (tb s=tb (bs [110,111,116]))<;>simp only [cond_true,cond_false,Bool.true_or,Bool.false_or]
 cases decide (tb s=tb (bs [97,110,100]))<;>simp only [cond_true,cond_false,Bool.true_or,Bool.false_or]
 cases decide (tb s=tb (bs [111,114]))<;>simp only [cond_true,cond_false,Bool.true_or,Bool.false_or]
 cases decide (tb s=tb (bs [120,111,114]))<;>simp only [cond_true,cond_false,Bool.true_or,Bool.false_or]
 cases decide (tb s=tb (bs [109,111,100]))<;>simp only [cond_true,cond_false,Bool.true_or,Bool.false_or]
 cases decide (tb s=tb (bs [116,114,117,101]))<;>simp only [cond_true,cond_false,Bool.true_or,Bool.false_or]
 cases decide (tb s=tb (bs [102,97,108,115,101]))<;>simp only [cond_true,cond_false,Bool.true_or,Bool.false_or]
 cases decide (tb s=tb (bs [105,110,116]))<;>simp only [cond_true,cond_false,Bool.true_or,Bool.false_or]
 cases decide (tb s=tb (bs [98,111,111,108]))<;>simp only [cond_true,cond_false,Bool.true_or,Bool.false_or]
 cases decide (tb s=tb (bs [119,105,116,104]))<;>simp only [cond_true,cond_false,Bool.true_or,Bool.false_or]
theorem c_Low (s:ByteArray):cF 103 [.d (.str s)]=some (.val [.bool (lowN (tb s))]):=by
 have h1:=c_name s
 have h2:=c_Word s
 refine cOf (by kernel_rfl) rfl ?_
 rw[g103_eq]
 simp only [g103,go1,Nat.reduceAdd,Int.reduceEq,Int.reduceLT,Int.reduceLE,Int.reduceSub,Int.reduceAdd,h1,h2]
 rfl
theorem numN_bad {l:List Nat}{p:Nat}(hp:p < l.length)(hx:digitN (l.getD p 0)=false):numN l=false:=by
 unfold numN;rw[all_false hp hx,Bool.and_false]
theorem c_number (s:ByteArray):cF 225 [.d (.str s)]=some (.val [.bool (numN (tb s))]):=by
 refine cOf (by kernel_rfl) rfl ?_
 rw[g225_eq]
 simp only [g225,go1,Nat.reduceAdd,Int.reduceEq,Int.reduceLT,Int.reduceLE,Int.reduceSub,Int.reduceAdd]
 refine loopF_at (fun p:Nat=>[.str s, .str s, .int .i64 (p:Int)]) (fun p=>p≤(tb s).length∧((tb s).take p).all digitN=true∧(0 < p→(tb s).getD 0 0≠48)) (fun p=>(tb s).length - p) (fun p hp=> ?_) 0 ⟨Nat.zero_le _,by simp,by omega⟩
 obtain⟨hle,hall,hfst⟩:=hp
 by_cases hlt:p < (tb s).length
 ·by_cases hc:(tb s).getD p 0 < 128
  ·obtain⟨e1,e2⟩:=dec_small hc
   simp only [go1,Nat.reduceAdd,Int.reduceEq,Int.reduceLT,Int.reduceLE,Int.reduceSub,Int.reduceAdd,size_tb,ilt_at hlt,sy_rdec,sy_rwid,e1,e2,c_digit,inI_digit]
   cases hin:digitN ((tb s).getD p 0)with
   |false=>
    right
    rw[numN_bad hlt hin]
    simp only [go1,Nat.reduceAdd,Int.reduceEq,Int.reduceLT,Int.reduceLE,Int.reduceSub,Int.reduceAdd]
   |true=>
    by_cases h0:p=0
    ·subst h0
     by_cases h48:(tb s).getD 0 0=48
     ·right
      have:numN (tb s)=false:=by unfold numN;rw[decT h48];simp
      rw[this,decT (p:=(((tb s).getD 0 0:Nat):Int)=48) (by omega)]
      simp only [go1,Nat.reduceAdd,Int.reduceEq,Int.reduceLT,Int.reduceLE,Int.reduceSub,Int.reduceAdd];rfl
     ·left
      refine⟨0+1,?_,⟨hlt,all_snoc hlt hall hin,fun _=>h48⟩,by omega⟩
      rw[decF (p:=(((tb s).getD 0 0:Nat):Int)=48) (by omega)]
      simp only [go1,Nat.reduceAdd,Int.reduceEq,Int.reduceLT,Int.reduceLE,Int.reduceSub,Int.reduceAdd];rfl
    ·left
     refine⟨p+1,?_,⟨hlt,all_snoc hlt hall hin,fun _=>hfst (by omega)⟩,by omega⟩
     rw[decF (p:=(p:Int)=0) (by omega)]
     simp only [go1,Nat.reduceAdd,Int.reduceEq,Int.reduceLT,Int.reduceLE,Int.reduceSub,Int.reduceAdd];rfl
  ·have hb:=dec_big (s:=s) (i:=p) (by omega)
   right
   have hin:digitN ((tb s).getD p 0)=false:=by
    have:128≤(tb s).getD p 0:=by omega
    generalize (tb s).getD p 0=c at this
    unfold digitN;simp;omega
   rw[numN_bad hlt hin]
   simp only [go1,Nat.reduceAdd,Int.reduceEq,Int.reduceLT,Int.reduceLE,Int.reduceSub,Int.reduceAdd,size_tb,ilt_at hlt,sy_rdec,sy_rwid,c_digit,inI_big (a:=48) (b:=57) (n:=decR s (p:Int)) (by omega)]
 ·right
  have:p=(tb s).length:=by omega
  subst this
  simp only [go1,Nat.reduceAdd,Int.reduceEq,Int.reduceLT,Int.reduceLE,Int.reduceSub,Int.reduceAdd,size_tb,ilt_self]
  rw[List.take_length]at hall
  unfold numN
  rw[hall,Bool.and_true]
  by_cases h0:0 < (tb s).length
  ·rw[decF (hfst h0),decT (p:=1≤((tb s).length:Int)) (by omega),decT (p:=1≤(tb s).length) (by omega)]
   by_cases h3:(tb s).length≤3
   ·rw[decT (p:=((tb s).length:Int)≤3) (by omega),decT h3];rfl
   ·rw[decF (p:=((tb s).length:Int)≤3) (by omega),decF h3];rfl
  ·rw[decF (p:=1≤((tb s).length:Int)) (by omega),decF (p:=1≤(tb s).length) (by omega)]
   rfl
theorem c_part (s:ByteArray)(hs:s.size≤100000):cF 185 [.d (.str s)]=some (.val [.bool (partN (tb s))]):=by
 obtain⟨a,b,f,h1,h2⟩:=c_Cut s 46 hs
 have h3:=c_Low a
 have h4:=c_number b
 rw[partN_cut]
 rcases h2 with⟨rfl,hn,ha⟩|⟨rfl,i,hn,ha,hb⟩
 ·rw[ha]at h3
  have hn:idxN 46 (tb s)=none:=hn
  rw[hn]
  refine cOf (by kernel_rfl) rfl ?_
  rw[g185_eq]
  simp only [g185,go1,Nat.reduceAdd,Int.reduceEq,Int.reduceLT,Int.reduceLE,Int.reduceSub,Int.reduceAdd,h1,h3]
  try (cases lowN (tb s)<;>rfl)
 ·rw[ha]at h3
  rw[hb]at h4
  have hn:idxN 46 (tb s)=some i:=hn
  rw[hn]
  refine cOf (by kernel_rfl) rfl ?_
  rw[g185_eq]
  simp only [g185,go1,Nat.reduceAdd,Int.reduceEq,Int.reduceLT,Int.reduceLE,Int.reduceSub,Int.reduceAdd,h1,h3,h4]
  try (cases lowN ((tb s).take i)<;>rfl)
end Go.Vm
end
section
namespace Go.Vm
theorem loopF_ex {σ α:Type}{b:List D→Option (List D ⊕ α)}{Q:α→Prop}(mk:σ→List D)(I:σ→Prop)(μ:σ→Nat)
  (h: ∀x,I x→(∃y,b (mk x)=some (.inl (mk y))∧I y∧μ y < μ x)∨ ∃r,b (mk x)=some (.inr r)∧Q r) (x:σ) (h0:I x): ∃r,loopF b (mk x)=some r∧Q r:=by
 suffices ∀n x,μ x < n→I x→ ∃r,loopF b (mk x)=some r∧Q r from this _ x (Nat.lt_succ_self _) h0
 intro n
 induction n with
 |zero=>intro x h;omega
 |succ n ih=>
  intro x hlt hi
  rw[loopF_eq]
  rcases h x hi with⟨d,h1,h2,h3⟩|⟨r,h1,h2⟩
  ·rw[h1];exact ih d (by omega) h2
  ·rw[h1];exact⟨r,rfl,h2⟩
theorem viaL {α:Type}{X:Option (List D ⊕ α)}{L L':List D}(h:X=some (.inl L))(e:L=L'):X=some (.inl L'):=by rw[h,e]
theorem viaR {α:Type}{X:Option (List D ⊕ α)}{Q:α→Prop}{r:α}(h:X=some (.inr r))(e:Q r): ∃r,X=some (.inr r)∧Q r:=⟨r,h,e⟩
end Go.Vm
end
section
set_option maxRecDepth 100000
set_option maxHeartbeats 4000000
namespace Go.Vm
open Go.Proofs
theorem cnt_map (c:UInt8): ∀l:List UInt8,(l.map UInt8.toNat).count c.toNat=l.count c
 | []=>rfl
 |b::l=>by
  rw[List.map_cons,List.count_cons,List.count_cons,cnt_map c l]
  by_cases h:b=c
  ·subst h;simp
  ·have h1:(b.toNat == c.toNat)=false:=by
    rw[beq_eq_false_iff_ne];exact fun e=>h (UInt8.toNat_inj.1 e)
   have h2:(b == c)=false:=by simp [h]
   rw[h1,h2]
theorem scnt_tb (s:ByteArray)(m:UInt8):sy.scnt s ((m.toNat:Nat):Int)=(((tb s).count m.toNat:Nat):Int):=by
 rw[sy_scnt,Int.toNat_natCast]
 have:m.toNat.toUInt8=m:=by simp
 rw[this]
 unfold Lib.countByte tb
 rw[cnt_map]
theorem c_Count (s:ByteArray)(m:UInt8):cF 259 [.d (.str s), .d (.str (bs [m]))]=some (.val [.int .i64 (((tb s).count m.toNat:Nat):Int)]):=by
 refine cOf (by kernel_rfl) rfl ?_
 rw[g259_eq]
 unfold g259
 have e1:sy.ieq (sy.slen (bs [m])) 0=false:=rfl
 have e2:sy.ieq (sy.slen (bs [m])) 1=true:=rfl
 have e3:sy.inr 0 (sy.slen (bs [m]))=true:=rfl
 rw[←scnt_tb]
 repeat' (first|with_reducible exact st_some|with_reducible apply st_cut|with_reducible apply st_bind|((with_reducible apply st_t);(first|with_reducible exact e1|with_reducible exact e2|with_reducible exact e3|rfl))|((with_reducible apply st_f);(first|with_reducible exact e1|with_reducible exact e2|with_reducible exact e3|rfl))|with_reducible apply st_lp|with_reducible apply st_inl|with_reducible exact st_inr|with_reducible apply st_opI|with_reducible apply st_opB|with_reducible apply st_opL|rfl)
theorem splitN_len (c:Nat): ∀l:List Nat,(splitN c l).length=l.count c+1
 | []=>rfl
 |x::xs=>by
  unfold splitN
  have ih:=splitN_len c xs
  rw[List.count_cons]
  by_cases h:x=c
  ·subst h;simp [ih]
  ·rw[if_neg h]
   have h2:(x == c)=false:=by simp [h]
   rw[h2]
   cases hq:splitN c xs with
   |nil=>exact absurd hq (splitN_ne c xs)
   |cons p ps=>rw[hq]at ih;simpa using ih
theorem cnt_idx {c:Nat}{l:List Nat}{j:Nat}(h:idxN c l=some j):l.count c=(l.drop (j+1)).count c+1:=by
 obtain⟨h1,h2,h3⟩:=idxN_some h
 conv=>lhs;rw[h2]
 rw[List.count_append,List.count_cons,List.count_eq_zero.2 (fun hm=>h3 c hm rfl)]
 simp
theorem cnt_none {c:Nat}{l:List Nat}(h:idxN c l=none):l.count c=0:=List.count_eq_zero.2 fun hm=>idxN_none h c hm rfl
def zrow:List D:=[.str (bs [])]
theorem rows_put (d:List ByteArray)(k:Nat)(x:ByteArray):sy.rput (srows d++List.replicate (k+1) zrow) d.length 0 [.str x]=srows (d++[x])++List.replicate k zrow:=by
 have hg:(srows d++List.replicate (k+1) zrow).getD d.length []=zrow:=by
  rw[List.getD_eq_getElem?_getD,List.getElem?_append_right (by rw[srows_len];exact Nat.le_refl _),srows_len,Nat.sub_self]
  simp
 show(srows d++List.replicate (k+1) zrow).set d.length (((srows d++List.replicate (k+1) zrow).getD d.length []).take 0++[.str x]++((srows d++List.replicate (k+1) zrow).getD d.length []).drop (0+1))=_
 rw[hg,List.set_append_right _ _ (by rw[srows_len];exact Nat.le_refl _),srows_len,Nat.sub_self,List.replicate_succ]
 rw[show(zrow.take 0++[D.str x]++zrow.drop (0+1))= [D.str x]from rfl]
 simp [srows,srow]
theorem c_genSplit (s:ByteArray)(hs:s.size≤100000): ∃p,cF 223 [.d (.str s), .d (.str (bs [47])), .d (.int .i64 0), .d (.int .i64 (-1))]=some p∧ ∃l:List ByteArray,p= .own 9 1 (srows l)∧l.map tb=splitN 47 (tb s):=by
 have hc:=c_Count s 47
 have hI:=fun r=>c_Index r 47
 have hl:=tb_len s
 have h47:(47:UInt8).toNat=47:=rfl
 rw[h47]at hc
 have hcl:(tb s).count 47≤(tb s).length:=List.count_le_length
 refine cOfP (by kernel_rfl) rfl ?_
 rw[g223_eq]
 unfold g223
 generalize hN:(tb s).count 47=N at hc hcl
 have hw:sy.imin (sy.wrap .i64 (sy.add ((N:Nat):Int) 1)) (sy.wrap .i64 (sy.add (sy.slen s) 1))=((N+1:Nat):Int):=by
  show min (IntKind.i64.wrap ((N:Int)+1)) (IntKind.i64.wrap ((s.size:Int)+1))=_
  rw[wrap_id (by omega) (by omega),wrap_id (by omega) (by omega)]
  omega
 have z1:sy.ieq (-1) 0=false:=rfl
 have z2:sy.seq (bs [47]) (bs [])=false:=by rw[sy_seq,seq_tb];rfl
 have z3:sy.ilt (-1) 0=true:=rfl
 simp only [z1,z2,z3,cond_true,cond_false,eF_call,hc,Option.bind_some,leaves_val,sy_cell0,opI_int,hw]
 have z4:sy.mkok ((N+1:Nat):Int) ((N+1:Nat):Int) 16=true:=decide_eq_true ⟨rfl,by omega,by omega⟩
 rw[z4,cond_true,eF_lp]
 have z5:sy.wrap .i64 (sy.sub ((N+1:Nat):Int) 1)=(N:Int):=by
  show IntKind.i64.wrap (((N+1:Nat):Int) - 1)=_
  rw[wrap_id (by omega) (by omega)];omega
 rw[z5]
 have z6:sy.rep ((N+1:Nat):Int) [D.str (bs [])]=srows []++List.replicate (N+1) zrow:=by
  rw[sy_rep,Int.toNat_natCast];rfl
 rw[z6]
 refine loopF_ex (fun x:List ByteArray × ByteArray × Nat=>[.str x.2.1, .str (bs [47]), .int .i64 0, .int .i64 (N:Int), .int .i64 (x.1.length:Int), .sl 1 (srows x.1++List.replicate (x.2.2+1) zrow)])
  (fun x=>splitN 47 (tb s)=x.1.map tb++splitN 47 (tb x.2.1)∧x.2.2=(tb x.2.1).count 47∧x.1.length+x.2.2=N∧x.2.1.size≤100000) (fun x=>(tb x.2.1).length) (fun x hx=> ?_) ([],s,N) ⟨rfl,hN.symm,by simp,hs⟩
 obtain⟨done,rest,k⟩:=x
 obtain⟨h1,hk,h2,h3⟩:=hx
 simp only at h1 hk h2 h3
 have hr:=tb_len rest
 have hIr:=hI rest
 rw[h47]at hIr
 have hput:=rows_put done k
 have f2:sy.inr (done.length:Int) (sy.rlen (srows done++List.replicate (k+1) zrow))=true:=decide_eq_true (by
  rw[sy_rlen,List.length_append,srows_len,List.length_replicate];omega)
 have f3:sy.inrn (sy.nat (done.length:Int)) (srows done++List.replicate (k+1) zrow)=true:=decide_eq_true (by
  rw[List.length_append,srows_len,List.length_replicate];show(done.length:Int).toNat < _;omega)
 have hw1:sy.wrap .i64 (sy.add (done.length:Int) 1)=((done.length+1:Nat):Int):=by
  show IntKind.i64.wrap ((done.length:Int)+1)=_
  rw[wrap_id (by omega) (by omega)];rfl
 have hnat:sy.nat (done.length:Int)=done.length:=Int.toNat_natCast _
 rcases idxZ_bd 47 (tb rest)with⟨hz,hn⟩|⟨j,hz,hn,hj⟩
 ·right
  have hk0:=cnt_none hn
  rw[hk0]at hk
  subst hk
  have f1:sy.ilt (done.length:Int) (N:Int)=false:=decide_eq_false (by omega)
  have f4:sy.cutok 0 (sy.wrap .i64 (sy.add (done.length:Int) 1)) (sy.rlen (sy.rput (srows done++List.replicate (0+1) zrow) (sy.nat (done.length:Int)) 0 [.str rest]))=true:=by
   rw[hw1,hnat,hput]
   exact decide_eq_true (by rw[sy_rlen,List.length_append,srows_len,List.length_append];simp;omega)
  apply viaR
  ·repeat' (first|with_reducible exact st_some|with_reducible apply st_cut|with_reducible apply st_bind|((with_reducible apply st_t);(first|with_reducible exact f1|with_reducible exact f2|with_reducible exact f3|with_reducible exact f4|rfl))|((with_reducible apply st_f);(first|with_reducible exact f1|with_reducible exact f2|with_reducible exact f3|with_reducible exact f4|rfl))|with_reducible apply st_lp|with_reducible apply st_inl|with_reducible exact st_inr|with_reducible apply st_opI|with_reducible apply st_opB|with_reducible apply st_opL|rfl)
  ·refine⟨done++[rest],?_,?_⟩
   ·rw[hw1,hnat,hput]
    show PRes.own 9 1 ((srows (done++[rest])++List.replicate 0 zrow).take ((done.length+1:Nat):Int).toNat)=_
    rw[List.replicate_zero,List.append_nil,Int.toNat_natCast,List.take_of_length_le (by rw[srows_len];simp)]
   ·rw[h1,splitN_none 47 _ (idxN_none hn)];simp
 ·left
  have hc2:=cnt_idx hn
  have hd:=tb_scut rest ((j:Int)+1) (rest.size:Int)
  have hd0:=tb_scut rest 0 (j:Int)
  have e1:((j:Int)+1).toNat=j+1:=by omega
  rw[e1,Int.toNat_natCast,←hr,List.take_length]at hd
  rw[Int.toNat_natCast]at hd0
  have hw2:sy.wrap .i64 (sy.add (j:Int) 0)=(j:Int):=by
   show IntKind.i64.wrap ((j:Int)+0)=_
   rw[wrap_id (by omega) (by omega)];omega
  have hw3:sy.wrap .i64 (sy.add (j:Int) (sy.slen (bs [47])))=(j:Int)+1:=by
   show IntKind.i64.wrap ((j:Int)+1)=_
   rw[wrap_id (by omega) (by omega)]
  have f1:sy.ilt (done.length:Int) (N:Int)=true:=decide_eq_true (by omega)
  have g1:sy.ilt (j:Int) 0=false:=decide_eq_false (show ¬(j:Int) < 0 by omega)
  have g2:sy.cutok 0 (sy.wrap .i64 (sy.add (j:Int) 0)) (sy.slen rest)=true:=by
   rw[hw2];exact decide_eq_true (by rw[sy_slen];omega)
  have g900003:sy.cutok (sy.wrap .i64 (sy.add (j:Int) (sy.slen (bs [47])))) (sy.slen rest) (sy.slen rest)=true:=by
   rw[hw3];exact decide_eq_true (by rw[sy_slen];omega)
  rw[hz]at hIr
  obtain⟨k',rfl⟩: ∃k',k=k'+1:=⟨k - 1,by omega⟩
  refine⟨(done++[rest.extract (0:Int).toNat (j:Int).toNat],rest.extract (j+1) (tb rest).length,k'),?_,⟨?_,?_,?_,?_⟩,?_⟩
  ·apply viaL
   ·repeat' (first|with_reducible exact st_some|with_reducible apply st_cut|with_reducible apply st_bind|((with_reducible apply st_t);(first|with_reducible exact f1|with_reducible exact f2|with_reducible exact f3|with_reducible exact g1|with_reducible exact g2|with_reducible exact g900003|rfl))|((with_reducible apply st_f);(first|with_reducible exact f1|with_reducible exact f2|with_reducible exact f3|with_reducible exact g1|with_reducible exact g2|with_reducible exact g900003|rfl))|with_reducible apply st_lp|with_reducible apply st_inl|with_reducible exact st_inr|with_reducible apply st_opI|with_reducible apply st_opB|with_reducible apply st_opL|exact hIr|rfl)
   ·rw[hw1,hw2,hw3,hnat,hput]
    simp only [sy_scut,sy_slen,e1,Int.toNat_natCast,hr,List.length_append,List.length_singleton]
  ·rw[h1]
   simp only [List.map_append,List.map_cons,List.map_nil]
   rw[show(j:Int).toNat=j from Int.toNat_natCast j]at*
   rw[hd0,hd]
   obtain⟨i1,i2,i3⟩:=idxN_some hn
   conv=>lhs;rw[i2,splitN_mark 47 _ _ i3]
   simp
  ·simp only;rw[hd];omega
  ·simp;omega
  ·simp only
   have:=tb_len (rest.extract (j+1) (tb rest).length)
   rw[←this,hd,List.length_drop];omega
  ·simp only
   rw[hd,List.length_drop];omega
theorem c_Split (s:ByteArray)(hs:s.size≤100000): ∃l:List ByteArray,cF 184 [.d (.str s), .d (.str (bs [47]))]=some (.val [.sl 1 (srows l)])∧l.map tb=splitN 47 (tb s):=by
 obtain⟨_,h,l,rfl,hl⟩:=c_genSplit s hs
 refine⟨l,?_,hl⟩
 refine cOf (by kernel_rfl) rfl ?_
 rw[g184_eq]
 simp only [g184,go1,Nat.reduceAdd,Int.reduceEq,Int.reduceLT,Int.reduceLE,Int.reduceSub,Int.reduceAdd,h]
theorem mem_size {s:ByteArray}{l:List ByteArray}(hl:l.map tb=splitN 47 (tb s)): ∀x∈l,x.size≤s.size:=by
 have key: ∀(c:Nat) (t:List Nat),∀p∈splitN c t,p.length≤t.length:=by
  intro c t
  induction t with
  |nil=>intro p hp;simp [splitN]at hp;simp [hp]
  |cons x xs ih=>
   intro p hp
   unfold splitN at hp
   split at hp
   ·rcases List.mem_cons.1 hp with rfl|hp
    ·simp
    ·have:=ih p hp;simp;omega
   ·split at hp
    ·simp at hp;simp [hp]
    ·rename_i q qs hq
     rcases List.mem_cons.1 hp with rfl|hp
     ·have:=ih q (by rw[hq];exact List.mem_cons_self);simp;omega
     ·have:=ih p (by rw[hq];exact List.mem_cons_of_mem _ hp);simp;omega
 intro x hx
 have:=key 47 (tb s) (tb x) (by rw[←hl];exact List.mem_map_of_mem hx)
 rw[tb_len,tb_len]at this
 exact this
theorem c_Path (s:ByteArray)(hs:s.size≤100000):cF 143 [.d (.str s)]=some (.val [.bool (pathN (tb s))]):=by
 obtain⟨l,h,hl⟩:=c_Split s hs
 have hsz:=mem_size hl
 have hll:l.length≤100001:=by
  have:=congrArg List.length hl
  rw[List.length_map,splitN_len]at this
  have h2:(tb s).count 47≤(tb s).length:=List.count_le_length
  rw[tb_len]at h2
  omega
 unfold pathN
 rw[←hl,List.all_map]
 refine cOf (by kernel_rfl) rfl ?_
 rw[g143_eq]
 simp only [g143,go1,Nat.reduceAdd,Int.reduceEq,Int.reduceLT,Int.reduceLE,Int.reduceSub,Int.reduceAdd,h,srows_len]
 refine loopF_at (fun i:Nat=>[.sl 1 (srows l), .int .i64 (l.length:Int), .int .i64 (i:Int)]) (fun i=>i≤l.length∧(l.take i).all (partN ∘ tb)=true) (fun i=>l.length - i) (fun i hi=> ?_) 0 ⟨Nat.zero_le _,by simp⟩
 by_cases hlt:i < l.length
 ·have hx:=List.getElem?_eq_getElem hlt
  have hp:=c_part l[i] (Nat.le_trans (hsz _ (List.getElem_mem hlt)) hs)
  have hgd:l.getD i ByteArray.empty=l[i]:=by rw[List.getD_eq_getElem?_getD,hx];rfl
  simp only [go1,Nat.reduceAdd,Int.reduceEq,Int.reduceLT,Int.reduceLE,Int.reduceSub,Int.reduceAdd,srows_len,ilt_at hlt,inr_at hlt,srows_at hx,hp,wrap_succ hlt (by omega)]
  cases hb:partN (tb l[i])with
  |false=>
   right
   rw[all_false (d:=ByteArray.empty) hlt (by rw[hgd];exact hb)]
   simp only [go1,Nat.reduceAdd,Int.reduceEq,Int.reduceLT,Int.reduceLE,Int.reduceSub,Int.reduceAdd]
  |true=>
   left
   refine⟨i+1,?_,⟨hlt,all_snoc (d:=ByteArray.empty) hlt hi.2 (by rw[hgd];exact hb)⟩,by omega⟩
   simp only [go1,Nat.reduceAdd,Int.reduceEq,Int.reduceLT,Int.reduceLE,Int.reduceSub,Int.reduceAdd];rfl
 ·right
  have:i=l.length:=by omega
  subst this
  simp only [go1,Nat.reduceAdd,Int.reduceEq,Int.reduceLT,Int.reduceLE,Int.reduceSub,Int.reduceAdd,ilt_self]
  rw[List.take_length]at hi
  rw[hi.2]
theorem c_nameG (s:ByteArray):cF 150 [.d (.str s), .fn 153 []]=some (.val [.bool (nameN greatN (tb s))]):=by
 refine cOf (by kernel_rfl) rfl ?_
 rw[g150_153_eq]
 simp only [g150_153,go1,Nat.reduceAdd,Int.reduceEq,Int.reduceLT,Int.reduceLE,Int.reduceSub,Int.reduceAdd]
 refine loopF_at (fun p:Nat=>[.str s, .str s, .int .i64 (p:Int)]) (fun p=>p≤(tb s).length∧((tb s).take p).all innerN=true∧(0 < p→greatN ((tb s).getD 0 0)=true)) (fun p=>(tb s).length - p) (fun p hp=> ?_) 0 ⟨Nat.zero_le _,by simp,by omega⟩
 obtain⟨hle,hall,hfst⟩:=hp
 by_cases hlt:p < (tb s).length
 ·by_cases hc:(tb s).getD p 0 < 128
  ·obtain⟨e1,e2⟩:=dec_small hc
   simp only [go1,Nat.reduceAdd,Int.reduceEq,Int.reduceLT,Int.reduceLE,Int.reduceSub,Int.reduceAdd,size_tb,ilt_at hlt,sy_rdec,sy_rwid,e1,e2,c_small,c_great,c_digit,inI_small,inI_great,inI_digit]
   have hi:=inner_def ((tb s).getD p 0)
   by_cases h0:p=0
   ·subst h0
    cases hs:greatN ((tb s).getD 0 0)with
    |false=>
     right
     rw[nameN_first hs]
     simp only [go1,Nat.reduceAdd,Int.reduceEq,Int.reduceLT,Int.reduceLE,Int.reduceSub,Int.reduceAdd];rfl
    |true=>
     left
     rw[hs]at hi
     refine⟨0+1,?_,⟨hlt,all_snoc hlt hall (by rw[hi];simp),fun _=>(by first|rfl|exact hs)⟩,by omega⟩
     cases smallN ((tb s).getD 0 0)<;>simp only [go1,Nat.reduceAdd,Int.reduceEq,Int.reduceLT,Int.reduceLE,Int.reduceSub,Int.reduceAdd]<;>rfl
   ·rw[decF (p:=(p:Int)=0) (by omega)]
    cases hin:innerN ((tb s).getD p 0)with
    |false=>
     right
     rw[nameN_bad hlt hin]
     rw[hin]at hi
     have hi:=hi.symm
     simp only [Bool.or_eq_false_iff]at hi
     obtain⟨⟨⟨i1,i2⟩,i3⟩,i4⟩:=hi
     have i4': ¬(((tb s).getD p 0:Nat):Int)=95:=by
      have:=of_decide_eq_false i4;omega
     rw[decF i4']
     simp only [i1,i2,i3,go1,Nat.reduceAdd,Int.reduceEq,Int.reduceLT,Int.reduceLE,Int.reduceSub,Int.reduceAdd]
    |true=>
     left
     refine⟨p+1,?_,⟨hlt,all_snoc hlt hall hin,fun _=>hfst (by omega)⟩,by omega⟩
     rw[hin]at hi
     cases i1:smallN ((tb s).getD p 0)<;>cases i2:greatN ((tb s).getD p 0)<;>cases i3:digitN ((tb s).getD p 0)<;>rw[i1,i2,i3]at hi<;>simp only [go1,Nat.reduceAdd,Int.reduceEq,Int.reduceLT,Int.reduceLE,Int.reduceSub,Int.reduceAdd]<;>(try rfl)
     all_goals
      simp only [Bool.or_self,Bool.false_or]at hi
      have i4:=of_decide_eq_true hi.symm
      rw[decT (p:=(((tb s).getD p 0:Nat):Int)=95) (by omega)]
      rfl
  ·have hb:=dec_big (s:=s) (i:=p) (by omega)
   right
   have hin:innerN ((tb s).getD p 0)=false:=by
    exact inner_big (by omega)
   rw[nameN_bad hlt hin]
   have hz: ¬decR s (p:Int)=95:=by omega
   simp only [go1,Nat.reduceAdd,Int.reduceEq,Int.reduceLT,Int.reduceLE,Int.reduceSub,Int.reduceAdd,size_tb,ilt_at hlt,sy_rdec,sy_rwid,c_small,c_great,c_digit,inI_big (a:=97) (b:=122) (n:=decR s (p:Int)) (by omega),inI_big (a:=65) (b:=90) (n:=decR s (p:Int)) (by omega),inI_big (a:=48) (b:=57) (n:=decR s (p:Int)) (by omega),decF hz]
   cases decide ((p:Int)=0)
   ·simp only [cond_true,cond_false,Bool.not_false,go1,Nat.reduceAdd,Int.reduceEq,Int.reduceLT,Int.reduceLE,Int.reduceSub,Int.reduceAdd];simp [hz]
   ·rfl
 ·right
  have:p=(tb s).length:=by omega
  subst this
  simp only [go1,Nat.reduceAdd,Int.reduceEq,Int.reduceLT,Int.reduceLE,Int.reduceSub,Int.reduceAdd,size_tb,ilt_self]
  rw[List.take_length]at hall
  unfold nameN
  rw[hall,Bool.and_true]
  by_cases h0:0 < (tb s).length
  ·rw[hfst h0,Bool.and_true]
   by_cases h12:(tb s).length≤12
   ·rw[decT (p:=1≤((tb s).length:Int)) (by omega),decT (p:=((tb s).length:Int)≤12) (by omega),decT (p:=1≤(tb s).length) (by omega),decT h12]
    first|done|rfl
   ·rw[decT (p:=1≤((tb s).length:Int)) (by omega),decF (p:=((tb s).length:Int)≤12) (by omega),decF h12]
    first|done|rfl|simp
  ·rw[decF (p:=1≤((tb s).length:Int)) (by omega),decF (p:=1≤(tb s).length) (by omega)]
   first|done|rfl|simp
theorem c_High (s:ByteArray):cF 105 [.d (.str s)]=some (.val [.bool (highN (tb s))]):=by
 have:=c_nameG s
 refine cOf (by kernel_rfl) rfl ?_
 rw[g105_eq]
 simp only [g105,go1,Nat.reduceAdd,Int.reduceEq,Int.reduceLT,Int.reduceLE,Int.reduceSub,Int.reduceAdd,this]
 rfl
def blankN (c:Nat):Bool:=decide (c=32) || decide (c=9) || decide (c=10) || decide (c=13)
def nlineN (c:Nat):Bool:= !decide (c=10)
theorem c_xsmall (n:Nat):cF 86 [.d (.int .u8 (n:Int))]=some (.val [.bool (smallN n)]):=by
 refine cOf (by kernel_rfl) rfl ?_
 rw[g86_eq]
 simp only [g86,go1,Nat.reduceAdd,Int.reduceEq,Int.reduceLT,Int.reduceLE,Int.reduceSub,Int.reduceAdd]
 rw[←inI_small];try rfl
theorem c_xgreat (n:Nat):cF 87 [.d (.int .u8 (n:Int))]=some (.val [.bool (greatN n)]):=by
 refine cOf (by kernel_rfl) rfl ?_
 rw[g87_eq]
 simp only [g87,go1,Nat.reduceAdd,Int.reduceEq,Int.reduceLT,Int.reduceLE,Int.reduceSub,Int.reduceAdd]
 rw[←inI_great];try rfl
theorem c_xdigit (n:Nat):cF 89 [.d (.int .u8 (n:Int))]=some (.val [.bool (digitN n)]):=by
 refine cOf (by kernel_rfl) rfl ?_
 rw[g89_eq]
 simp only [g89,go1,Nat.reduceAdd,Int.reduceEq,Int.reduceLT,Int.reduceLE,Int.reduceSub,Int.reduceAdd]
 rw[←inI_digit];try rfl
theorem dec_iff {p q:Prop} [Decidable p] [Decidable q] (h:p↔q):decide p=decide q:=by
 by_cases hq:q
 ·rw[decT hq,decT (h.2 hq)]
 ·rw[decF hq,decF (fun hp=>hq (h.1 hp))]
theorem c_xblank (n:Nat):cF 83 [.d (.int .u8 (n:Int))]=some (.val [.bool (blankN n)]):=by
 refine cOf (by kernel_rfl) rfl ?_
 rw[g83_eq]
 simp only [g83,go1,Nat.reduceAdd,Int.reduceEq,Int.reduceLT,Int.reduceLE,Int.reduceSub,Int.reduceAdd]
 unfold blankN
 rw[dec_iff (show(n:Int)=32↔n=32 by omega),dec_iff (show(n:Int)=9↔n=9 by omega),dec_iff (show(n:Int)=10↔n=10 by omega),dec_iff (show(n:Int)=13↔n=13 by omega)]
 (try (cases decide (n=32)<;>cases decide (n=9)<;>cases decide (n=10)<;>cases decide (n=13)<;>rfl))
theorem c_xgap1 (n:Nat):cF 85 [.d (.int .u8 (n:Int))]=some (.val [.bool (nlineN n)]):=by
 refine cOf (by kernel_rfl) rfl ?_
 rw[g85_eq]
 simp only [g85,go1,Nat.reduceAdd,Int.reduceEq,Int.reduceLT,Int.reduceLE,Int.reduceSub,Int.reduceAdd]
 rw[dec_iff (show(n:Int)=10↔n=10 by omega)];try rfl
theorem c_xinner (n:Nat):cF 139 [.d (.int .u8 (n:Int))]=some (.val [.bool (innerN n)]):=by
 refine cOf (by kernel_rfl) rfl ?_
 rw[g139_eq]
 simp only [g139,go1,Nat.reduceAdd,Int.reduceEq,Int.reduceLT,Int.reduceLE,Int.reduceSub,Int.reduceAdd,c_xsmall,c_xgreat,c_xdigit]
 rw[dec_iff (show(n:Int)=95↔n=95 by omega)]
 unfold innerN
 cases smallN n<;>cases greatN n<;>cases digitN n<;>cases decide (n=95)<;>rfl
def spanN (p:Nat→Bool)(l:List Nat):Nat:=(l.takeWhile p).length
theorem spanN_le (p:Nat→Bool)(l:List Nat):spanN p l≤l.length:=(List.takeWhile_prefix p).length_le
theorem spanN_stop {p:Nat→Bool}{l:List Nat}{n:Nat}(hn:n≤l.length)(h:(l.take n).all p=true)(hx:n < l.length→p (l.getD n 0)=false):spanN p l=n:=by
 unfold spanN
 have e:l=l.take n++l.drop n:=(List.take_append_drop n l).symm
 have h1:(l.take n++l.drop n).takeWhile p=l.take n++(l.drop n).takeWhile p:=List.takeWhile_append_of_pos (fun x hx=>List.all_eq_true.1 h x hx)
 have h2:(l.drop n).takeWhile p= []:=by
  by_cases hlt:n < l.length
  ·rw[List.drop_eq_getElem_cons hlt,List.takeWhile_cons]
   have:=hx hlt
   rw[List.getD_eq_getElem?_getD,List.getElem?_eq_getElem hlt]at this
   simp only [Option.getD_some]at this
   rw[this];rfl
  ·rw[List.drop_of_length_le (by omega)];rfl
 rw[←e]at h1
 rw[h1,h2];simp;omega
theorem c_span {f k:Nat}(p:Nat→Bool)(G:ByteArray→Option PRes)
  (hc: ∀n:Nat,cF k [.d (.int .u8 (n:Int))]=some (.val [.bool (p n)])) (s:ByteArray) (hs:s.size≤1000000)
  (hG:G s=loopF (fun ds1=>
   (opS (sy.cell ds1 0)).bind fun s2=>
   (opI (sy.cell ds1 1) .i64).bind fun n3=>
   bif sy.ilt n3 (sy.slen s2)then
    bif sy.inr n3 (sy.slen s2)then
     (cF k [V.d (D.int .u8 (sy.sbyte s2 n3))]).bind fun p4=>
     (opB (sy.cell p4.leaves 0)).bind fun b6=>
     bif b6 then
      some (.inl [(D.str s2),(D.int .i64 (sy.wrap .i64 (sy.add n3 1)))])
     else
      some (.inr (PRes.val [(D.int .i64 n3)]))
    else none
   else
    some (.inr (PRes.val [(D.int .i64 n3)]))) [(D.str s),(D.int .i64 0)]):G s=some (.val [.int .i64 ((spanN p (tb s):Nat):Int)]):=by
 rw[hG]
 refine loopF_at (fun n:Nat=>[.str s, .int .i64 (n:Int)]) (fun n=>n≤(tb s).length∧((tb s).take n).all p=true) (fun n=>(tb s).length - n) (fun n hn=> ?_) 0 ⟨Nat.zero_le _,by simp⟩
 obtain⟨hle,hall⟩:=hn
 have hlen:(tb s).length≤1000000:=by rw[tb_len];exact hs
 by_cases hlt:n < (tb s).length
 ·have hq:(s.data.getD (n:Int).toNat 0).toNat=(tb s).getD n 0:=by rw[Int.toNat_natCast,tb_getD]
  simp only [go1,Nat.reduceAdd,Int.reduceEq,Int.reduceLT,Int.reduceLE,Int.reduceSub,Int.reduceAdd,size_tb,ilt_at hlt,inr_at hlt,hc,hq]
  cases hp:p ((tb s).getD n 0)with
  |true=>
   left
   refine⟨n+1,?_,⟨hlt,all_snoc hlt hall hp⟩,by omega⟩
   (try simp only [go1,Nat.reduceAdd,Int.reduceEq,Int.reduceLT,Int.reduceLE,Int.reduceSub,Int.reduceAdd])
   rw[wrap_succ hlt (by omega)]
   try rfl
  |false=>
   right
   rw[spanN_stop hle hall (fun _=>hp)]
   (try simp only [go1,Nat.reduceAdd,Int.reduceEq,Int.reduceLT,Int.reduceLE,Int.reduceSub,Int.reduceAdd])
 ·right
  have:n=(tb s).length:=by omega
  subst this
  simp only [go1,Nat.reduceAdd,Int.reduceEq,Int.reduceLT,Int.reduceLE,Int.reduceSub,Int.reduceAdd,size_tb,ilt_self]
  rw[spanN_stop (Nat.le_refl _) hall (fun h=>absurd h (Nat.lt_irrefl _))]
theorem c_sblank (s:ByteArray)(hs:s.size≤1000000):cF 82 [.d (.str s), .fn 83 []]=some (.val [.int .i64 ((spanN blankN (tb s):Nat):Int)]):=
 cOf (by kernel_rfl) rfl ((g82_83_eq sy eF s).trans (c_span (f:=0) blankN (fun s=>g82_83 sy eF s) c_xblank s hs rfl))
theorem c_sline (s:ByteArray)(hs:s.size≤1000000):cF 82 [.d (.str s), .fn 85 []]=some (.val [.int .i64 ((spanN nlineN (tb s):Nat):Int)]):=
 cOf (by kernel_rfl) rfl ((g82_85_eq sy eF s).trans (c_span (f:=0) nlineN (fun s=>g82_85 sy eF s) c_xgap1 s hs rfl))
theorem c_sinner (s:ByteArray)(hs:s.size≤1000000):cF 82 [.d (.str s), .fn 139 []]=some (.val [.int .i64 ((spanN innerN (tb s):Nat):Int)]):=
 cOf (by kernel_rfl) rfl ((g82_139_eq sy eF s).trans (c_span (f:=0) innerN (fun s=>g82_139 sy eF s) c_xinner s hs rfl))
theorem c_sdigit (s:ByteArray)(hs:s.size≤1000000):cF 82 [.d (.str s), .fn 89 []]=some (.val [.int .i64 ((spanN digitN (tb s):Nat):Int)]):=
 cOf (by kernel_rfl) rfl ((g82_89_eq sy eF s).trans (c_span (f:=0) digitN (fun s=>g82_89 sy eF s) c_xdigit s hs rfl))
def hasN (m l:List Nat):Bool:=decide (l.take m.length=m)
theorem tb_ext (s:ByteArray)(a b:Nat):tb (s.extract a b)=((tb s).take b).drop a:=by
 have:=tb_scut s (a:Int) (b:Int)
 rwa [Int.toNat_natCast,Int.toNat_natCast]at this
theorem c_lHas (s m:ByteArray):cF 138 [.d (.str s), .d (.str m)]=some (.val [.bool (hasN (tb m) (tb s))]):=by
 refine cOf (by kernel_rfl) rfl ?_
 rw[g138_eq]
 simp only [g138,go1,Nat.reduceAdd,Int.reduceEq,Int.reduceLT,Int.reduceLE,Int.reduceSub,Int.reduceAdd]
 by_cases h:(tb m).length≤(tb s).length
 ·have e:((s.extract (0:Int).toNat ((tb m).length:Int).toNat).toList == m.toList)=hasN (tb m) (tb s):=by
   rw[seq_tb,tb_scut]
   unfold hasN
   rw[Int.toNat_natCast];rfl
  simp (disch:=omega) only [wrap_id,decT,decF,go1,Nat.reduceAdd,Int.reduceEq,Int.reduceLT,Int.reduceLE,Int.reduceSub,Int.reduceAdd,size_tb,e]
 ·have e:hasN (tb m) (tb s)=false:=by
   unfold hasN
   refine decF fun he=>h ?_
   rw[←he,List.length_take];omega
  rw[e]
  simp (disch:=omega) only [wrap_id,decT,decF,go1,Nat.reduceAdd,Int.reduceEq,Int.reduceLT,Int.reduceLE,Int.reduceSub,Int.reduceAdd,size_tb]
theorem c_Has (s m:ByteArray):cF 84 [.d (.str s), .d (.str m)]=some (.val [.bool (hasN (tb m) (tb s))]):=by
 have:=c_lHas s m
 refine cOf (by kernel_rfl) rfl ?_
 rw[g84_eq]
 simp only [g84,go1,Nat.reduceAdd,Int.reduceEq,Int.reduceLT,Int.reduceLE,Int.reduceSub,Int.reduceAdd,this]
theorem c_IndexByte (s:ByteArray)(m:UInt8):cF 145 [.d (.str s), .d (.int .u8 ((m.toNat:Nat):Int))]=some (.val [.int .i64 (idxZ m.toNat (tb s))]):=by
 have h72:cF 188 [.d (.str s), .d (.int .u8 ((m.toNat:Nat):Int))]=some (.val [.int .i64 (idxZ m.toNat (tb s))]):=by
  refine cOf (by kernel_rfl) rfl ?_
  rw[g188_eq]
  simp only [g188,go1,Nat.reduceAdd,Int.reduceEq,Int.reduceLT,Int.reduceLE,Int.reduceSub,Int.reduceAdd]
  show some (PRes.val [D.int .i64 (sy.sidx s ((m.toNat:Nat):Int))])=_
  rw[sidx_tb]
 refine cOf (by kernel_rfl) rfl ?_
 rw[g145_eq]
 simp only [g145,go1,Nat.reduceAdd,Int.reduceEq,Int.reduceLT,Int.reduceLE,Int.reduceSub,Int.reduceAdd,h72]
def remN:List Nat:=[45,45]
theorem rem_span {l:List Nat}(h:hasN remN l=true):2≤spanN nlineN l:=by
 have:=of_decide_eq_true h
 match l,this with
 |a::b::r,h=>
  simp [remN]at h
  obtain⟨rfl,rfl⟩:=h
  simp [spanN,List.takeWhile_cons,nlineN]
 | [a],h=>simp [remN]at h
 | [],h=>simp [remN]at h
def gapN (l:List Nat):Nat:=
 if h:hasN remN (l.drop (spanN blankN l))=true then spanN blankN l+spanN nlineN (l.drop (spanN blankN l))+gapN (l.drop (spanN blankN l+spanN nlineN (l.drop (spanN blankN l))))else spanN blankN l
 termination_by l.length
 decreasing_by
  have h1:=rem_span h
  have h2:=spanN_le nlineN (l.drop (spanN blankN l))
  have h3:=spanN_le blankN l
  simp only [List.length_drop]at h2 ⊢
  omega
theorem gapN_le: ∀(n:Nat) (l:List Nat),l.length≤n→gapN l≤l.length
 |n,l,hn=>by
  unfold gapN
  split
  ·rename_i h
   have h1:=rem_span h
   have h2:=spanN_le nlineN (l.drop (spanN blankN l))
   have h3:=spanN_le blankN l
   simp only [List.length_drop]at h2
   cases n with
   |zero=>omega
   |succ n=>
    have:=gapN_le n (l.drop (spanN blankN l+spanN nlineN (l.drop (spanN blankN l)))) (by simp only [List.length_drop];omega)
    simp only [List.length_drop]at this
    omega
  ·exact spanN_le _ _
theorem ext_drop (s:ByteArray)(n:Nat)(hn:n≤(tb s).length):tb (s.extract (n:Int).toNat ((tb s).length:Int).toNat)=(tb s).drop n:=by
 rw[tb_scut,Int.toNat_natCast,Int.toNat_natCast,List.take_length]
theorem c_gap (s:ByteArray)(hs:s.size≤1000000):cF 49 [.d (.str s)]=some (.val [.int .i64 ((gapN (tb s):Nat):Int)]):=by
 refine cOf (by kernel_rfl) rfl ?_
 rw[g49_eq]
 simp only [g49,go1,Nat.reduceAdd,Int.reduceEq,Int.reduceLT,Int.reduceLE,Int.reduceSub,Int.reduceAdd]
 have hlen:(tb s).length≤1000000:=by rw[tb_len];exact hs
 refine loopF_at (fun n:Nat=>[.str s, .int .i64 (n:Int)]) (fun n=>n≤(tb s).length∧n+gapN ((tb s).drop n)=gapN (tb s)) (fun n=>(tb s).length - n) (fun n hn=> ?_) 0 ⟨Nat.zero_le _,by simp⟩
 obtain⟨hle,hg⟩:=hn
 have e1:=ext_drop s n hle
 have z1:(s.extract (n:Int).toNat ((tb s).length:Int).toNat).size≤1000000:=by rw[←tb_len,e1];simp;omega
 have k1:=c_sblank _ z1
 rw[e1]at k1
 generalize hm:spanN blankN ((tb s).drop n)=m at k1
 have hmle:m≤(tb s).length - n:=by have:=spanN_le blankN ((tb s).drop n);simp only [List.length_drop]at this;omega
 have w1:IntKind.i64.wrap ((n:Int)+(m:Int))=((n+m:Nat):Int):=by rw[wrap_id (by omega) (by omega)];omega
 have e2:=ext_drop s (n+m) (by omega)
 have z2:(s.extract ((n+m:Nat):Int).toNat ((tb s).length:Int).toNat).size≤1000000:=by rw[←tb_len,e2];simp;omega
 have k2:=c_Has (s.extract ((n+m:Nat):Int).toNat ((tb s).length:Int).toNat) (bs [45,45])
 rw[e2]at k2
 have k3:=c_sline _ z2
 rw[e2]at k3
 have hd:((tb s).drop n).drop m=(tb s).drop (n+m):=by rw[List.drop_drop]
 have hgn:=gapN.eq_def ((tb s).drop n)
 rw[hm,hd]at hgn
 have hb:hasN (tb (bs [45,45])) ((tb s).drop (n+m))=hasN remN ((tb s).drop (n+m)):=rfl
 rw[hb]at k2
 simp (disch:=omega) only [wrap_id,decT,decF,go1,Nat.reduceAdd,Int.reduceEq,Int.reduceLT,Int.reduceLE,Int.reduceSub,Int.reduceAdd,size_tb,k1]
 cases hr:hasN remN ((tb s).drop (n+m))with
 |false=>
  right
  rw[hr]at hgn
  simp only [Bool.false_eq_true,dite_false]at hgn
  rw[←hg,hgn]
  rw[Int.natCast_add]at k2
  simp (disch:=omega) only [wrap_id,decT,decF,go1,Nat.reduceAdd,Int.reduceEq,Int.reduceLT,Int.reduceLE,Int.reduceSub,Int.reduceAdd,k2,hr,Int.natCast_add]
 |true=>
  left
  rw[hr]at hgn
  simp only [dite_true]at hgn
  have h2:=rem_span hr
  have hk:=spanN_le nlineN ((tb s).drop (n+m))
  simp only [List.length_drop]at hk
  generalize hkk:spanN nlineN ((tb s).drop (n+m))=k at k3 hgn h2 hk
  have w2:IntKind.i64.wrap (((n+m:Nat):Int)+(k:Int))=((n+m+k:Nat):Int):=by rw[wrap_id (by omega) (by omega)];omega
  refine⟨n+m+k,?_,⟨by omega,?_⟩,by omega⟩
  ·rw[Int.natCast_add]at k2 k3
   simp (disch:=omega) only [wrap_id,decT,decF,go1,Nat.reduceAdd,Int.reduceEq,Int.reduceLT,Int.reduceLE,Int.reduceSub,Int.reduceAdd,k2,hr,k3,Int.natCast_add]
  ·rw[←hg,hgn,List.drop_drop]
   have:n+(m+k)=n+m+k:=by omega
   rw[this];omega
structure Tok where
 k:Int
 s:ByteArray
 n:Int
 w:Nat
 ok:Bool
def Tok.r (t:Tok):PRes:= .val [.int .i64 t.k, .str t.s, .int .i64 t.n, .int .i64 0, .int .i64 (t.w:Int), .bool t.ok]
def noTok:Tok:=⟨0,bs [],0,0,false⟩
def wordT (s:ByteArray):Tok:=
 let n:=spanN innerN (tb s)
 let w:=s.extract 0 n
 match greatN ((tb s).getD 0 0)with
 |true=>⟨2,w,0,n,highN (tb w)⟩
 |false=>⟨1,w,0,n,lowN (tb w) || wordN (tb w)⟩
def numberT (s:ByteArray):Tok:=
 let n:=spanN digitN (tb s)
 let w:=s.extract 0 n
 ⟨3,w,pnumI w,n,pokB w&&(!decide ((tb s).getD 0 0=48) || decide (n=1))⟩
def pathT (s:ByteArray):Tok:=match idxN 39 ((tb s).drop 1)with
 |none=>noTok
 |some i=>⟨4,s.extract 1 (i+1),0,i+2,pathN (tb (s.extract 1 (i+1)))⟩
def twoB:List ByteArray:=[bs [58,61],bs [45,62],bs [60,61],bs [62,61],bs [60,62]]
def twoN:List (List Nat):=[[58,61],[45,62],[60,61],[62,61],[60,62]]
def oneL:List UInt8:=[40,41,123,125,91,93,44,59,58,61,60,62,43,45,42,47]
def oneN:List Nat:=[40,41,123,125,91,93,44,59,58,61,60,62,43,45,42,47]
def markT (s:ByteArray):Tok:=match twoN.contains ((tb s).take 2),oneN.contains ((tb s).getD 0 0)with
 |true,_=>⟨5,s.extract 0 2,0,2,true⟩
 |false,true=>⟨5,s.extract 0 1,0,1,true⟩
 |false,false=>noTok
def nextT0 (s:ByteArray):Tok:=
 let c:=(tb s).getD 0 0
 match smallN c || greatN c,digitN c,decide (c=39)with
 |true,_,_=>wordT s
 |false,true,_=>numberT s
 |false,false,true=>pathT s
 |false,false,false=>markT s
theorem ext_len (s:ByteArray)(a b:Nat)(hb:b≤(tb s).length)(hab:a≤b):(tb (s.extract a b)).length=b - a:=by rw[tb_ext];simp;omega
theorem ext_at (s:ByteArray)(b i:Nat)(hi:i < b):(tb (s.extract 0 b)).getD i 0=(tb s).getD i 0:=by
 rw[tb_ext,List.drop_zero,List.getD_eq_getElem?_getD,List.getElem?_take,if_pos hi,List.getD_eq_getElem?_getD]
theorem toNat0:(0:Int).toNat=0:=rfl
theorem toNat1:(1:Int).toNat=1:=rfl
theorem span_pos {p:Nat→Bool}{l:List Nat}(h:p (l.getD 0 0)=true)(hl:0 < l.length):0 < spanN p l:=by
 match l,hl with
 |c::r,_=>
  have h:p c=true:=h
  unfold spanN
  rw[List.takeWhile_cons,h];simp
theorem c_word (s:ByteArray)(hs:s.size≤100000)(h0:0 < (tb s).length)(hc:innerN ((tb s).getD 0 0)=true):cF 88 [.d (.str s)]=some (wordT s).r:=by
 have k1:=c_sinner s (by omega)
 have hp:=span_pos hc h0
 have hle:=spanN_le innerN (tb s)
 have hlen:(tb s).length≤100000:=by rw[tb_len];exact hs
 unfold wordT
 simp only
 generalize hn:spanN innerN (tb s)=n at k1 hp hle
 have hsz:=ext_len s 0 n hle (Nat.zero_le _)
 rw[Nat.sub_zero]at hsz
 have z:(s.extract 0 n).size≤100000:=by rw[←tb_len,hsz];omega
 have hat:=ext_at s n 0 hp
 have hq:((s.extract 0 n).data.getD (0:Int).toNat 0).toNat=(tb s).getD 0 0:=by rw[toNat0,←tb_getD,hat]
 have k2:=c_xgreat ((tb s).getD 0 0)
 have k3:=c_High (s.extract 0 n)
 have k4:=c_Low (s.extract 0 n)
 have k5:=c_Word (s.extract 0 n)
 refine cOf (by kernel_rfl) rfl ?_
 rw[g88_eq]
 simp only [g88,go1,Nat.reduceAdd,Int.reduceEq,Int.reduceLT,Int.reduceLE,Int.reduceSub,Int.reduceAdd,k1]
 simp (disch:=omega) only [wrap_id,decT,decF,go1,Nat.reduceAdd,Int.reduceEq,Int.reduceLT,Int.reduceLE,Int.reduceSub,Int.reduceAdd,size_tb,toNat0,Int.toNat_natCast,hsz]
 rw[toNat0]at hq
 simp (disch:=omega) only [wrap_id,decT,decF,go1,Nat.reduceAdd,Int.reduceEq,Int.reduceLT,Int.reduceLE,Int.reduceSub,Int.reduceAdd,hq,k2]
 cases greatN ((tb s).getD 0 0)with
 |true=>
  simp (disch:=omega) only [wrap_id,decT,decF,go1,Nat.reduceAdd,Int.reduceEq,Int.reduceLT,Int.reduceLE,Int.reduceSub,Int.reduceAdd,k3,Tok.r]
 |false=>
  simp only [go1,Nat.reduceAdd,Int.reduceEq,Int.reduceLT,Int.reduceLE,Int.reduceSub,Int.reduceAdd,k4,Tok.r]
  cases lowN (tb (s.extract 0 n))with
  |true=>simp only [go1,Nat.reduceAdd,Int.reduceEq,Int.reduceLT,Int.reduceLE,Int.reduceSub,Int.reduceAdd];try rfl
  |false=>simp only [go1,Nat.reduceAdd,Int.reduceEq,Int.reduceLT,Int.reduceLE,Int.reduceSub,Int.reduceAdd,k5];try rfl
theorem c_number0 (s:ByteArray)(hs:s.size≤100000)(h0:0 < (tb s).length)(hc:digitN ((tb s).getD 0 0)=true):cF 90 [.d (.str s)]=some (numberT s).r:=by
 have k1:=c_sdigit s (by omega)
 have hp:=span_pos hc h0
 have hle:=spanN_le digitN (tb s)
 have hlen:(tb s).length≤100000:=by rw[tb_len];exact hs
 unfold numberT
 simp only
 generalize hn:spanN digitN (tb s)=n at k1 hp hle
 have hsz:=ext_len s 0 n hle (Nat.zero_le _)
 rw[Nat.sub_zero]at hsz
 have hat:=ext_at s n 0 hp
 have hq:((s.extract 0 n).data.getD (0:Int).toNat 0).toNat=(tb s).getD 0 0:=by rw[toNat0,←tb_getD,hat]
 rw[toNat0]at hq
 refine cOf (by kernel_rfl) rfl ?_
 rw[g90_eq]
 simp only [g90,go1,Nat.reduceAdd,Int.reduceEq,Int.reduceLT,Int.reduceLE,Int.reduceSub,Int.reduceAdd,k1]
 simp (disch:=omega) only [wrap_id,decT,decF,go1,Nat.reduceAdd,Int.reduceEq,Int.reduceLT,Int.reduceLE,Int.reduceSub,Int.reduceAdd,size_tb,toNat0,Int.toNat_natCast,hsz]
 rw[dec_iff (show((((s.extract 0 n).data.getD 0 0).toNat:Nat):Int)=48↔(tb s).getD 0 0=48 by omega),dec_iff (show(n:Int)=1↔n=1 by omega)]
 rfl
theorem c_path0 (s:ByteArray)(hs:s.size≤100000)(h0:0 < (tb s).length):cF 91 [.d (.str s)]=some (pathT s).r:=by
 have hlen:(tb s).length≤100000:=by rw[tb_len];exact hs
 have e1:tb (s.extract 1 (tb s).length)=(tb s).drop 1:=by rw[tb_ext,List.take_length]
 have k1:=c_Index (s.extract 1 (tb s).length) 39
 rw[e1]at k1
 have h39:(39:UInt8).toNat=39:=rfl
 rw[h39]at k1
 refine cOf (by kernel_rfl) rfl ?_
 rw[g91_eq]
 simp only [g91,go1,Nat.reduceAdd,Int.reduceEq,Int.reduceLT,Int.reduceLE,Int.reduceSub,Int.reduceAdd]
 simp (disch:=omega) only [wrap_id,decT,decF,go1,Nat.reduceAdd,Int.reduceEq,Int.reduceLT,Int.reduceLE,Int.reduceSub,Int.reduceAdd,size_tb,toNat1,Int.toNat_natCast,k1]
 unfold pathT idxZ
 cases hi:idxN 39 ((tb s).drop 1)with
 |none=>simp only [go1,Nat.reduceAdd,Int.reduceEq,Int.reduceLT,Int.reduceLE,Int.reduceSub,Int.reduceAdd];rfl
 |some i=>
  have hlt:=(idxN_some hi).1
  simp only [List.length_drop]at hlt
  have e2:((i:Int)+1).toNat=i+1:=by omega
  have z:(s.extract 1 (i+1)).size≤100000:=by rw[←tb_len,ext_len _ _ _ (by omega) (by omega)];omega
  have k2:=c_Path (s.extract 1 (i+1)) z
  simp (disch:=omega) only [wrap_id,decT,decF,go1,Nat.reduceAdd,Int.reduceEq,Int.reduceLT,Int.reduceLE,Int.reduceSub,Int.reduceAdd,e2,k2,Tok.r]
  first|rfl|(simp only [Int.natCast_add];rfl)
theorem c_Fields:cF 144 [.d (.str (bs [58,61,32,45,62,32,60,61,32,62,61,32,60,62]))]=some (.val [.sl 1 (srows twoB)]):=callF_known rfl
theorem two_at (i:Nat)(hi:i < 5): ∃m,twoB[i]? =some m∧tb m=twoN.getD i []∧(twoN.getD i []).length=2:=by
 match i,hi with
 |0,_|1,_|2,_|3,_|4,_=>exact⟨_,rfl,rfl,rfl⟩
theorem two_in {x:List Nat}:twoN.contains x=true↔ ∃i,i < 5∧x=twoN.getD i []:=by
 constructor
 ·intro h
  rw[List.contains_iff_mem]at h
  obtain⟨i,hi,he⟩:=List.mem_iff_getElem.1 h
  exact⟨i,hi,by rw[List.getD_eq_getElem?_getD,List.getElem?_eq_getElem hi];exact he.symm⟩
 ·rintro⟨i,hi,rfl⟩
  match i,hi with
  |0,_|1,_|2,_|3,_|4,_=>rfl
theorem idxZ_neg (c:Nat)(l:List Nat):decide (idxZ c l < 0)= !l.contains c:=by
 rcases idxZ_bd c l with⟨h,hn⟩|⟨i,h,hs,_⟩
 ·rw[h]
  have: ¬c∈l:=fun hm=>idxN_none hn c hm rfl
  simp [this]
 ·rw[h]
  have:c∈l:=by
   have e:=(idxN_some hs).2.1
   rw[e];simp
  simp [this]
theorem hd_tb (s:ByteArray):(s.data.getD 0 0).toNat=(tb s).getD 0 0:=(tb_getD s 0).symm
theorem c_mark0 (s:ByteArray)(hs:s.size≤100000)(h0:0 < (tb s).length):cF 92 [.d (.str s)]=some (markT s).r:=by
 have hlen:(tb s).length≤100000:=by rw[tb_len];exact hs
 have k0:=c_Fields
 refine cOf (by kernel_rfl) rfl ?_
 rw[g92_eq]
 simp only [g92,go1,Nat.reduceAdd,Int.reduceEq,Int.reduceLT,Int.reduceLE,Int.reduceSub,Int.reduceAdd,k0]
 refine loopF_at (fun i:Nat=>[.str s, .sl 1 (srows twoB), .int .i64 (5:Int), .int .i64 (i:Int), .int .i64 0, .str (bs []), .int .i64 0, .int .i64 0]) (fun i=>i≤5∧ ∀j,j < i→(tb s).take 2≠twoN.getD j []) (fun i=>5 - i) (fun i hi=> ?_) 0 ⟨by omega,fun j hj=>by omega⟩
 obtain⟨hle,hno⟩:=hi
 by_cases hlt:i < 5
 ·obtain⟨m,hm,htm,hl2⟩:=two_at i hlt
  have k1:=c_Has s m
  rw[htm]at k1
  have hrl:((srows twoB).length:Int)=5:=rfl
  have hcell:=srows_at hm
  have hsm:(tb m).length=2:=by rw[htm];exact hl2
  simp only [go1,Nat.reduceAdd,Int.reduceEq,Int.reduceLT,Int.reduceLE,Int.reduceSub,Int.reduceAdd,srows_row hm]
  simp (disch:=omega) only [wrap_id,decT,decF,go1,Nat.reduceAdd,Int.reduceEq,Int.reduceLT,Int.reduceLE,Int.reduceSub,Int.reduceAdd,k1,hrl,size_tb,hsm]
  cases hh:hasN (twoN.getD i []) (tb s)with
  |true=>
   right
   have he:=of_decide_eq_true hh
   rw[hl2]at he
   have hc:twoN.contains ((tb s).take 2)=true:=two_in.2 ⟨i,hlt,he⟩
   have hx:m=s.extract 0 2:=tb_inj (by rw[tb_ext,List.drop_zero,he,htm])
   unfold markT
   rw[hc,←hx]
   rfl
  |false=>
   left
   have he:=of_decide_eq_false hh
   rw[hl2]at he
   exact⟨i+1,by rw[Int.natCast_add];rfl,⟨by omega,fun j hj=>by
    by_cases e:j=i
    ·subst e;exact he
    ·exact hno j (by omega)⟩,by omega⟩
 ·right
  have:i=5:=by omega
  subst this
  have hc:twoN.contains ((tb s).take 2)=false:=by
   rw[Bool.eq_false_iff]
   intro h
   obtain⟨j,hj,he⟩:=two_in.1 h
   exact hno j hj he
  have k2:=c_IndexByte (bs oneL) (s.data.getD 0 0)
  have e1:tb (bs oneL)=oneN:=rfl
  rw[e1]at k2
  have e2:bs oneL=bs [40,41,123,125,91,93,44,59,58,61,60,62,43,45,42,47]:=rfl
  rw[e2]at k2
  have hx:=idxZ_neg (s.data.getD 0 0).toNat oneN
  unfold markT
  rw[hc]
  simp (disch:=omega) only [wrap_id,decT,decF,go1,Nat.reduceAdd,Int.reduceEq,Int.reduceLT,Int.reduceLE,Int.reduceSub,Int.reduceAdd,size_tb,k2,hx,toNat0,toNat1]
  rw[hd_tb]
  cases oneN.contains ((tb s).getD 0 0)<;>rfl
theorem c_next (s:ByteArray)(hs:s.size≤100000)(h0:0 < (tb s).length):cF 50 [.d (.str s)]=some (nextT0 s).r:=by
 have hlen:(tb s).length≤100000:=by rw[tb_len];exact hs
 have hq:((s.data.getD (0:Int).toNat 0).toNat:Int)=(((tb s).getD 0 0:Nat):Int):=by rw[toNat0,hd_tb]
 have k1:=c_xsmall ((tb s).getD 0 0)
 have k2:=c_xgreat ((tb s).getD 0 0)
 have k3:=c_xdigit ((tb s).getD 0 0)
 have e39:((s.extract (0:Int).toNat (1:Int).toNat).toList == (bs [39]).toList)=decide ((tb s).getD 0 0=39):=by
  rw[seq_tb,tb_scut,toNat0,toNat1]
  refine dec_iff ?_
  match hl:tb s,h0 with
  |c::r,_=>simp [tb_bs]
 refine cOf (by kernel_rfl) rfl ?_
 rw[g50_eq]
 simp only [g50,go1,Nat.reduceAdd,Int.reduceEq,Int.reduceLT,Int.reduceLE,Int.reduceSub,Int.reduceAdd]
 simp (disch:=omega) only [wrap_id,decT,decF,go1,Nat.reduceAdd,Int.reduceEq,Int.reduceLT,Int.reduceLE,Int.reduceSub,Int.reduceAdd,size_tb,hq,k1,k2,k3,e39]
 have wd:innerN ((tb s).getD 0 0)=true→cF 88 [.d (.str s)]=some (wordT s).r:=fun h=>c_word s hs h0 h
 have nd:digitN ((tb s).getD 0 0)=true→cF 90 [.d (.str s)]=some (numberT s).r:=fun h=>c_number0 s hs h0 h
 have pd:=c_path0 s hs h0
 have md:=c_mark0 s hs h0
 cases h1:smallN ((tb s).getD 0 0)with
 |true=>
  have:=wd (by unfold innerN;rw[h1];rfl)
  have e:nextT0 s=wordT s:=by unfold nextT0;simp only [h1,Bool.true_or]
  rw[e]
  simp only [go1,Nat.reduceAdd,Int.reduceEq,Int.reduceLT,Int.reduceLE,Int.reduceSub,Int.reduceAdd,this,Tok.r]
 |false=>
  cases h2:greatN ((tb s).getD 0 0)with
  |true=>
   have:=wd (by unfold innerN;rw[h2];simp)
   have e:nextT0 s=wordT s:=by unfold nextT0;simp only [h1,h2,Bool.false_or]
   rw[e]
   simp only [go1,Nat.reduceAdd,Int.reduceEq,Int.reduceLT,Int.reduceLE,Int.reduceSub,Int.reduceAdd,this,Tok.r]
  |false=>
   cases h3:digitN ((tb s).getD 0 0)with
   |true=>
    have:=nd h3
    have e:nextT0 s=numberT s:=by unfold nextT0;simp only [h1,h2,h3,Bool.false_or]
    rw[e]
    simp only [go1,Nat.reduceAdd,Int.reduceEq,Int.reduceLT,Int.reduceLE,Int.reduceSub,Int.reduceAdd,this,Tok.r]
   |false=>
    cases h4:decide ((tb s).getD 0 0=39)with
    |true=>
     have e:nextT0 s=pathT s:=by unfold nextT0;simp only [h1,h2,h3,h4,Bool.false_or]
     rw[e]
     simp only [go1,Nat.reduceAdd,Int.reduceEq,Int.reduceLT,Int.reduceLE,Int.reduceSub,Int.reduceAdd,pd,Tok.r]
    |false=>
     have e:nextT0 s=markT s:=by unfold nextT0;simp only [h1,h2,h3,h4,Bool.false_or]
     rw[e]
     simp only [go1,Nat.reduceAdd,Int.reduceEq,Int.reduceLT,Int.reduceLE,Int.reduceSub,Int.reduceAdd,md,Tok.r]
def TokOK (l:List Nat)(t:Tok):Prop:=t.ok=true→1≤t.w∧t.w≤l.length∧t.k≠6∧(t.k=4→(tb t.s).length+2=t.w)∧(t.k≠4→tb t.s=l.take t.w)
theorem wordT_ok (s:ByteArray)(h0:0 < (tb s).length)(hc:innerN ((tb s).getD 0 0)=true):TokOK (tb s) (wordT s):=by
 have hp:=span_pos hc h0
 have hle:=spanN_le innerN (tb s)
 intro _
 unfold wordT
 simp only
 split
 ·exact⟨hp,hle,(by decide:(2:Int)≠6),fun h=>absurd (show(2:Int)=4 from h) (by decide),fun _=>by rw[tb_ext,List.drop_zero]⟩
 ·exact⟨hp,hle,(by decide:(1:Int)≠6),fun h=>absurd (show(1:Int)=4 from h) (by decide),fun _=>by rw[tb_ext,List.drop_zero]⟩
theorem numberT_ok (s:ByteArray)(h0:0 < (tb s).length)(hc:digitN ((tb s).getD 0 0)=true):TokOK (tb s) (numberT s):=by
 have hp:=span_pos hc h0
 have hle:=spanN_le digitN (tb s)
 intro _
 exact⟨hp,hle,(by decide:(3:Int)≠6),fun h=>absurd (show(3:Int)=4 from h) (by decide),fun _=>by show tb (s.extract 0 _)=_;rw[tb_ext,List.drop_zero];rfl⟩
theorem pathT_ok (s:ByteArray)(h0:0 < (tb s).length):TokOK (tb s) (pathT s):=by
 intro h
 unfold pathT at h ⊢
 cases hi:idxN 39 ((tb s).drop 1)with
 |none=>rw[hi]at h;cases h
 |some i=>
  have hlt:=(idxN_some hi).1
  simp only [List.length_drop]at hlt
  refine⟨by show 1≤i+2;omega,by show i+2≤_;omega,(by decide:(4:Int)≠6),fun _=> ?_,fun h=>absurd rfl h⟩
  show(tb (s.extract 1 (i+1))).length+2=i+2
  rw[ext_len _ _ _ (by omega) (by omega)];omega
theorem markT_ok (s:ByteArray)(h0:0 < (tb s).length):TokOK (tb s) (markT s):=by
 intro h
 unfold markT at h ⊢
 cases h1:twoN.contains ((tb s).take 2)with
 |true=>
  obtain⟨i,hi,he⟩:=two_in.1 h1
  have hl:((tb s).take 2).length=2:=by
   obtain⟨m,_,_,h2⟩:=two_at i hi
   rw[he,h2]
  rw[List.length_take]at hl
  exact⟨by show 1≤2;decide,by show 2≤_;omega,(by decide:(5:Int)≠6),fun h=>absurd (show(5:Int)=4 from h) (by decide),fun _=>by show tb (s.extract 0 2)=_;rw[tb_ext,List.drop_zero]⟩
 |false=>
  cases h2:oneN.contains ((tb s).getD 0 0)with
  |true=>exact⟨by show 1≤1;decide,by show 1≤_;omega,(by decide:(5:Int)≠6),fun h=>absurd (show(5:Int)=4 from h) (by decide),fun _=>by show tb (s.extract 0 1)=_;rw[tb_ext,List.drop_zero]⟩
  |false=>rw[h1,h2]at h;cases h
theorem nextT0_cases (s:ByteArray):(nextT0 s=wordT s∧innerN ((tb s).getD 0 0)=true)∨(nextT0 s=numberT s∧digitN ((tb s).getD 0 0)=true)∨nextT0 s=pathT s∨nextT0 s=markT s:=by
 cases h1:smallN ((tb s).getD 0 0)with
 |true=>exact .inl ⟨by unfold nextT0;simp only [h1,Bool.true_or],by unfold innerN;rw[h1];rfl⟩
 |false=>
  cases h2:greatN ((tb s).getD 0 0)with
  |true=>exact .inl ⟨by unfold nextT0;simp only [h1,h2,Bool.false_or],by unfold innerN;rw[h2];simp⟩
  |false=>
   cases h3:digitN ((tb s).getD 0 0)with
   |true=>exact .inr (.inl ⟨by unfold nextT0;simp only [h1,h2,h3,Bool.false_or],rfl⟩)
   |false=>
    cases h4:decide ((tb s).getD 0 0=39)with
    |true=>exact .inr (.inr (.inl (by unfold nextT0;simp only [h1,h2,h3,h4,Bool.false_or])))
    |false=>exact .inr (.inr (.inr (by unfold nextT0;simp only [h1,h2,h3,h4,Bool.false_or])))
theorem nextT0_ok (s:ByteArray)(h0:0 < (tb s).length):TokOK (tb s) (nextT0 s):=by
 rcases nextT0_cases s with⟨h,hc⟩|⟨h,hc⟩|h|h<;>rw[h]
 ·exact wordT_ok s h0 hc
 ·exact numberT_ok s h0 hc
 ·exact pathT_ok s h0
 ·exact markT_ok s h0
structure Tk where
 k:Int
 s:ByteArray
 n:Int
 a:Nat
def tkrow (t:Tk):List D:=[.int .i64 t.k, .str t.s, .int .i64 t.n, .int .i64 (t.a:Int)]
def trows (l:List Tk):List (List D):=l.map tkrow
theorem trows_app (a b:List Tk):trows a++trows b=trows (a++b):=by simp [trows]
theorem trows_len (l:List Tk):(trows l).length=l.length:=by simp [trows]
def lexS (s:ByteArray)(a:Nat):List Tk × Nat × Bool:=
 if hp:a+gapN ((tb s).drop a) < (tb s).length then
   if h:(nextT0 (s.extract (a+gapN ((tb s).drop a)) (tb s).length)).ok=true∧1≤(nextT0 (s.extract (a+gapN ((tb s).drop a)) (tb s).length)).w then
     (⟨(nextT0 (s.extract (a+gapN ((tb s).drop a)) (tb s).length)).k,(nextT0 (s.extract (a+gapN ((tb s).drop a)) (tb s).length)).s,(nextT0 (s.extract (a+gapN ((tb s).drop a)) (tb s).length)).n,a+gapN ((tb s).drop a)⟩::
       (lexS s (a+gapN ((tb s).drop a)+(nextT0 (s.extract (a+gapN ((tb s).drop a)) (tb s).length)).w)).1,(lexS s (a+gapN ((tb s).drop a)+(nextT0 (s.extract (a+gapN ((tb s).drop a)) (tb s).length)).w)).2)
   else([],a+gapN ((tb s).drop a),false)
 else([],a+gapN ((tb s).drop a),true)
 termination_by (tb s).length - a
 decreasing_by all_goals omega
def endT (s:ByteArray):Tk:=⟨6,bs [],0,(tb s).length⟩
def allR (s:ByteArray)(most:Int):PRes:=match decide (most < ((tb s).length:Int)),(lexS s 0).2.2 with
 |true,_=> .val [.sl 4 [], .int .i64 most, .int .i64 3]
 |false,true=> .val [.sl 4 (trows ((lexS s 0).1++[endT s])), .int .i64 ((tb s).length:Int), .int .i64 0]
 |false,false=> .val [.sl 4 [], .int .i64 ((lexS s 0).2.1:Int), .int .i64 2]
theorem c_All (s:ByteArray)(most:Int)(hs:s.size≤100000):cF 30 [.d (.str s), .d (.int .i64 most)]=some (allR s most):=by
 have hlen:(tb s).length≤100000:=by rw[tb_len];exact hs
 refine cOf (by kernel_rfl) rfl ?_
 rw[g30_eq]
 simp only [g30,go1,Nat.reduceAdd,Int.reduceEq,Int.reduceLT,Int.reduceLE,Int.reduceSub,Int.reduceAdd]
 unfold allR
 rw[size_tb]
 cases hm:decide (most < ((tb s).length:Int))with
 |true=>simp only [go1,Nat.reduceAdd,Int.reduceEq,Int.reduceLT,Int.reduceLE,Int.reduceSub,Int.reduceAdd]
 |false=>
  simp only [go1,Nat.reduceAdd,Int.reduceEq,Int.reduceLT,Int.reduceLE,Int.reduceSub,Int.reduceAdd]
  refine loopF_at (fun x:Nat × List Tk=>[.str s, .int .i64 (x.1:Int), .sl 4 (trows x.2)]) (fun x=>x.1≤(tb s).length∧x.2.length≤x.1∧lexS s 0=(x.2++(lexS s x.1).1,(lexS s x.1).2)) (fun x=>(tb s).length - x.1) (fun x hx=> ?_) (0,[]) ⟨Nat.zero_le _,Nat.le_refl _,by simp⟩
  obtain⟨a,acc⟩:=x
  obtain⟨h1,h2,h3⟩:=hx
  simp only at h1 h2 h3
  have e1:=ext_drop s a h1
  have z1:(s.extract (a:Int).toNat ((tb s).length:Int).toNat).size≤1000000:=by rw[←tb_len,e1];simp;omega
  have k1:=c_gap _ z1
  rw[e1]at k1
  have hg:=gapN_le _ _ (Nat.le_refl ((tb s).drop a).length)
  simp only [List.length_drop]at hg
  have heq:=lexS.eq_def s a
  generalize gapN ((tb s).drop a)=g at k1 hg heq
  have w1:IntKind.i64.wrap ((a:Int)+(g:Int))=((a+g:Nat):Int):=by rw[wrap_id (by omega) (by omega)];omega
  have e2:=ext_drop s (a+g) (by omega)
  rw[Int.toNat_natCast,Int.toNat_natCast]at e2
  have z2:(s.extract (a+g) (tb s).length).size≤100000:=by rw[←tb_len,e2];simp;omega
  have hal:(trows acc).length=acc.length:=trows_len acc
  simp only [go1,Nat.reduceAdd,Int.reduceEq,Int.reduceLT,Int.reduceLE,Int.reduceSub,Int.reduceAdd,size_tb]
  simp (disch:=omega) only [wrap_id,decT,decF,go1,Nat.reduceAdd,Int.reduceEq,Int.reduceLT,Int.reduceLE,Int.reduceSub,Int.reduceAdd,k1,w1]
  by_cases hp:a+g < (tb s).length
  ·rw[dif_pos hp]at heq
   have hpos:0 < (tb (s.extract (a+g) (tb s).length)).length:=by rw[e2];simp;omega
   have k2:=c_next (s.extract (a+g) (tb s).length) z2 hpos
   have hok:=nextT0_ok (s.extract (a+g) (tb s).length) hpos
   generalize nextT0 (s.extract (a+g) (tb s).length)=t at k2 hok heq
   rw[e2]at hok
   have i1:((a:Int)+(g:Int)).toNat=a+g:=by omega
   simp (disch:=omega) only [wrap_id,decT,decF,go1,Nat.reduceAdd,Int.reduceEq,Int.reduceLT,Int.reduceLE,Int.reduceSub,Int.reduceAdd,i1,Int.toNat_natCast,k2,Tok.r]
   cases hb:t.ok with
   |false=>
    right
    rw[dif_neg (by rw[hb];simp)]at heq
    rw[h3,heq]
    simp only [go1,Nat.reduceAdd,Int.reduceEq,Int.reduceLT,Int.reduceLE,Int.reduceSub,Int.reduceAdd,Int.natCast_add]
   |true=>
    left
    obtain⟨q1,q2,_⟩:=hok hb
    simp only [List.length_drop]at q2
    rw[dif_pos ⟨hb,q1⟩]at heq
    have w2:IntKind.i64.wrap ((a:Int)+(g:Int)+(t.w:Int))=((a+g+t.w:Nat):Int):=by rw[wrap_id (by omega) (by omega)];omega
    refine⟨(a+g+t.w,acc++[⟨t.k,t.s,t.n,a+g⟩]),?_,⟨by simp only;omega,by simp;omega,?_⟩,by simp only;omega⟩
    ·simp (disch:=omega) only [wrap_id,decT,decF,go1,Nat.reduceAdd,Int.reduceEq,Int.reduceLT,Int.reduceLE,Int.reduceSub,Int.reduceAdd,hal,List.length_singleton,w2]
     rw[←trows_app]
     simp only [go1,Nat.reduceAdd,Int.reduceEq,Int.reduceLT,Int.reduceLE,Int.reduceSub,Int.reduceAdd,Int.natCast_add]
     rfl
    ·rw[h3,heq];simp
  ·right
   rw[dif_neg hp]at heq
   have hpe:a+g=(tb s).length:=by omega
   rw[h3,heq,←trows_app,←trows_app]
   simp (disch:=omega) only [wrap_id,decT,decF,go1,Nat.reduceAdd,Int.reduceEq,Int.reduceLT,Int.reduceLE,Int.reduceSub,Int.reduceAdd,hal,List.length_singleton]
   rw[show trows ([]:List Tk)= []from rfl,List.append_nil]
   rfl
end Go.Vm
end
